import Derived.Test.YtleflckegnlgcaaGreatDoorLSessionsLem4
open Option renaming bind_some→bS
open List renaming length_append→lA,append_assoc→aA,mem_cons_of_mem→mC,mem_append→mA,mem_append_right→mR,mem_append_left→mL,mem_cons→mc,drop_eq_getElem_cons→dG,length_take→lT,length_drop→lD,mem_map→mM,length_map→lM,length_cons→lC,length_nil→lN,getElem_mem→gM,map_append→mp,mem_singleton→mZ,mem_cons_self→κ0,take_succ_eq_append_getElem→κ4,map_cons→κ5,append_nil→κ7,nil_append→κ9,length_singleton→κB,drop_zero→κC,take_append_drop→κE,cons_append→κF,flatMap_append→κI,nodup_append→κJ,foldl_cons→κM,drop_left→κN,nodup_cons→κO,range'→κP,all_eq_true→κS,take_length→κU,foldl_append→κW,replicate→κX,pairwise_cons→κY,mem_or_eq_of_mem_set→κc,pairwise_append→κd
open Bool renaming and_eq_true→bA,eq_false_or_eq_true→bE,not_true→nZ,not_false→nF,true_and→tA,not_not→nn,false_eq_true→κ2,true_eq_false→κ8,false_and→κD,or_eq_false_iff→κH,and_true→κK,not_eq_true'→κL,false_or→κQ,or_eq_true→κV
open Int renaming toNat_natCast→tN,ofNat_lt→oL,le_refl→κR
open Nat renaming lt_or_ge→κ1,zero_le→κ3,le_refl→κ6,eq_of_beq_eq_true→κA,lt_of_lt_of_le→κG,zero_add→κT,pow_succ→κZ,mod_eq_of_lt→κb
open Array renaming length_toList→κa
set_option linter.unusedVariables false
set_option linter.unusedSimpArgs false
namespace Go.Rf.G
open Go Go.Rf
set_option synthInstance.maxSize 4000
theorem φDK:∀rs:List RecT,(txt rs).length≤71 * rs.length
 | []=>by simp[txt]
 | r::rs=>by
  rw[φ3F,lA,lC]
  have:=(φ4j r).2
  have:=φDK rs
  omega
theorem φMg {l:List Int} (h:l≠[]):l.headD 0∈l:=by
 cases l with
 | nil=>exact absurd rfl h
 | cons a l=>simp
theorem φJp {k N:Nat} {s:φ6} {d:φ1} (h:PR k N s d) (hk:k≤98) (hN:N≤1000) :
  (φ1x s d).2.2=0∧PR k (N+1) (φ1x s d).1 (φ1x s d).2.1∧φU (φ1x s d).1 (φ1x s d).2.1=φU s d∧(φ1x s d).1.2.2.1=s.2.2.1:=by
 obtain ⟨q1,q2,q3,q4,q5,q6⟩:=φg.1 h.ok
 have hnx:=h.bk.nx
 have h2:s.1.1+2≤100000:=by omega
 have hdl:=(φ48 q3).1
 have hdp:=φ80 s d
 obtain ⟨R,hL⟩:=h.bk.room h.ok hk
 have R:Room 100000 85500 57 d:=R.mono (by decide) (by decide)
 obtain ⟨hc,hcap⟩:=φMc (l:=(φU s d).1) R q2 h2 (by omega) (by omega) (by omega)
 have hm:=((φ13 _).1 q2).2.1
 have hF:φ1x s d=φ14 s d (φU s d).1:=by
  unfold φ1x
  rw[if_neg (by rw[h.ok];simp),if_neg (by omega)]
 have hJ:=(φG9 h.toJR)
 rw[hF] at hJ ⊢
 have hM:=φH1 (φU s d).1 q1 q2 h2 hc
 obtain ⟨hm1,hm2,hm3,hm4⟩:=φ90 h.ok h2 hM.toMerged
 obtain ⟨kk,ok⟩:=φE4 h.ok h2 hM.toMerged
 have hne:=φ3D q2
 -- what was exchanged is gone
 have htmp:(φ2 (φ14 s d (φU s d).1).2.1 φ1E).2=false:=by
  obtain ⟨w1,w2,a1,a2,a3,a4,a5,a6,a7,a8⟩:=φCW (φU s d).1 q1 hc
  rw[a8]
  have hd:=φ3r a6 (s.1.1+2,[s.1.1,s.1.1+1])
  have hF2:Free (sPut (s.1.1+2,[s.1.1,s.1.1+1]) w2).1:=by
   have:((sPut (s.1.1+2,[s.1.1,s.1.1+1]) w2).1).2=((100000:Int),-1,false):=by
    have c0:∀(d:φ1) (act:List φ4→Int×List φ4),d.2=((100000:Int),-1,false)→(φT d act).1.2=((100000:Int),-1,false):=fun d act k=>φDj rfl k
    have c1:w1.1.2=((100000:Int),-1,false):=by
     rw[a1]
     exact φ6h (P:=fun d=>d.2=((100000:Int),-1,false)) c0 _ (φ8x (P:=fun d=>d.2=((100000:Int),-1,false)) c0 _ _ (w:=(d,0)) h.bk.cap)
    have c2:w2.1.2=((100000:Int),-1,false):=by
     rw[a4]
     exact φ92 (P:=fun d=>d.2=((100000:Int),-1,false)) c0 _ c1
    exact φ7P (P:=fun d=>d.2=((100000:Int),-1,false)) c0 _ c2
   unfold Free
   rw[this]
  have h0:=φ7b s.1.2 (w:=((sPut (s.1.1+2,[s.1.1,s.1.1+1]) w2).1,0)) hd hF2 rfl
  exact (φBI s.1.2 (w:=((sPut (s.1.1+2,[s.1.1,s.1.1+1]) w2).1,0)) hd h0).2.1 _ (φGX a7)
 generalize φ14 s d (φU s d).1=M at *
 obtain ⟨S,y,c⟩:=M
 simp only at hc hcap hJ hM hm1 hm2 hm3 hm4 kk ok htmp ⊢
 have hst:=hM.st
 have hI:S.1.2=[s.1.1,s.1.1+1]:=by rw[hst]
 have hB:S.2.2.1=s.2.2.1:=by rw[hst]
 have hNx:S.1.1=s.1.1+2:=by rw[hst]
 have hSz:S.2.2.2.1=0:=by rw[hst]
 have hone:=hM.one
 have htwo:=hM.two
 have hliv:=hM.liv
 have hpl:φS y S.1.2=(scan (txt (φW (φU s d).1 (s.2.2.1 - 1)))).1.map fun x=>((s.1.1,x):φF):=by
  rw[hI]
  unfold φS φ11
  simp[hone,htwo,φ6z]
 -- any name
 have names:∀n,n=φ0 s.1.1∨n=φ0 (s.1.1+1)∨n=φI s.1.1∨n=φ1E∨n=φa∨(φ2 y n).2=false∨(φ2 y n=φ2 d n∧(φ2 d n).2=false):=by
  intro n
  by_cases a1:n=φ0 s.1.1
  ·exact .inl a1
  by_cases a2:n=φ0 (s.1.1+1)
  ·exact .inr (.inl a2)
  by_cases a3:n=φI s.1.1
  ·exact .inr (.inr (.inl a3))
  by_cases a4:n=φ1E
  ·exact .inr (.inr (.inr (.inl a4)))
  by_cases a5:n=φa
  ·exact .inr (.inr (.inr (.inr (.inl a5))))
  by_cases a6:∃id∈s.1.2,n=φ0 id∨n=φI id
  ·obtain ⟨id,hid,e⟩:=a6
   have:=hM.old id hid
   right;right;right;right;right;left
   rcases e with rfl | rfl
   ·exact this.1
   ·exact this.2
  ·have hs:=hM.oth n a1 a2 a3 a4 a5 fun id hid=>⟨fun e=>a6 ⟨id,hid,.inl e⟩,fun e=>a6 ⟨id,hid,.inr e⟩⟩
   right;right;right;right;right;right
   refine ⟨hs,?_⟩
   cases hx:(φ2 d n).2 with
   | false=>rfl
   | true=>
    exfalso
    rcases h.bk.nm n hx with e | ⟨id,hid,e⟩ | e
    ·exact a5 e
    ·exact a6 ⟨id,hid,.inl e⟩
    ·exact a6 ⟨_,φMg hne,.inr e⟩
 have hkl:=φ9Y (φU s d).1 (s.2.2.1 - 1)
 have htl:=φDK (φW (φU s d).1 (s.2.2.1 - 1))
 refine ⟨hc,⟨hJ.1,⟨hcap,fun n hn=>?_,fun n=>?_,?_,?_,?_⟩,?_⟩,hm2,hB⟩
 ·rw[hI]
  rcases names n with e | e | e | e | e | e | ⟨e,e2⟩
  ·exact .inr (.inl ⟨s.1.1,by simp,e⟩)
  ·exact .inr (.inl ⟨s.1.1+1,by simp,e⟩)
  ·exact .inr (.inr e)
  ·rw[e,htmp] at hn;simp at hn
  ·exact .inl e
  ·rw[e] at hn;simp at hn
  ·rw[e,e2] at hn;simp at hn
 ·rcases names n with e | e | e | e | e | e | ⟨e,e2⟩
  ·rw[e,hone]
   show (txt _).length≤1500
   omega
  ·rw[e,htwo];simp
  ·rw[e]
   rcases hM.hin with x | x
   ·rw[φ68 x];simp
   ·rw[x]
    have:=φ8a (φ15 s.1.1 (txt (φW (φU s d).1 (s.2.2.1 - 1)))).1
    show (φ1S _).length≤1500
    omega
  ·rw[e,φ68 htmp];simp
  ·rw[e,hliv]
   have:=φ5O (s.1.1+2,[s.1.1,s.1.1+1])
   show (φl _).length≤1500
   omega
  ·rw[φ68 e];simp
  ·rw[e,φ68 e2];simp
 ·rw[hI,hSz]
  show 130 * (([s.1.1,s.1.1+1].length:Nat):Int)+0≤_
  simp only[lC,lN]
  omega
 ·rw[hSz];decide
 ·rw[hNx];push_cast;omega
 ·right
  obtain ⟨l0,z,z1,z2,z3,z4,z5,z6,z7⟩:=φ9o kk
  have zb:z.2.2.2.1=s.2.2.1 - 1:=by
   have:=congrArg (fun x:φ1H=>x.2.1) z5
   exact this.symm
  refine ⟨(s.1.1,z),?_,by rw[hB];exact zb⟩
  rw[hpl,z1]
  exact mM.2 ⟨z,mR _ (by simp),rfl⟩
theorem φId {k N:Nat} {s:φ6} {d:φ1} (h:PR k N s d):∃t y,φ2N d=(t,y,0)∧PR k N t y∧t.2.1=s.2.1∧t.2.2.1=s.2.2.1∧φU t y=φU s d:=by
 obtain ⟨t,y,ho,hj,h1,h2,h3,h4,_,_,h5,h6,h7,h8,h9⟩:=φEH h.toJR
 have hb:t.2.2.1=s.2.2.1:=by
  have q:=(φg.1 hj.ok).2.2.2.1
  rcases h.ex with e | ⟨p,hp,e⟩
  ·omega
  ·have:=hj.pb p (by rw[h7];exact hp)
   omega
 refine ⟨t,y,ho,⟨hj,⟨by rw[h5];exact h.bk.cap,fun n hn=>?_,fun n=>?_,by rw[h1,h9];exact h.bk.pot,by rw[h9];exact h.bk.act,by have:=h.bk.nx;omega⟩,?_⟩,h2,hb,h4⟩
 ·rw[h1]
  have:=h6 n hn
  rw[this] at hn
  exact h.bk.nm n hn
 ·cases hx:(φ2 y n).2 with
  | false=>rw[φ68 hx];simp
  | true=>rw[h6 n hx];exact h.bk.sz n
 ·rw[hb,h7];exact h.ex
theorem φDZ:PR 0 0 ((2,[1]),[],1,0,0) (dNew 100000):=by
 obtain ⟨f1,f2,f3⟩:=φAu 100000 (by omega) (by omega)
 refine ⟨φL6 100000 (by omega) (by omega),⟨rfl,fun n hn=>?_,fun n=>?_,by decide,by decide,by decide⟩,.inl rfl⟩
 ·by_cases a1:n=φa
  ·exact .inl a1
  by_cases a2:n=φ0 1
  ·exact .inr (.inl ⟨1,by simp,a2⟩)
  rw[f3 n a1 a2] at hn
  simp at hn
 ·by_cases a1:n=φa
  ·rw[a1,f1]
   have:=φ5O (2,[1])
   show (φl (2,[1])).length≤1500
   omega
  by_cases a2:n=φ0 1
  ·rw[a2,f2];simp
  rw[f3 n a1 a2];simp
abbrev ModT:=Bool×List φX×Int×List TxnT
def φ2X (l:List φX) (key:List UInt8):φX×Int:=
 match l.find? (fun p=>p.1==key) with
 | some p=>(p,0)
 | none=>(([],[],0),8)
def valM (l:List φX) (t:TxnT):Bool:=t.2.1.all fun r=>(φ2X l r.1).1.2.2==r.2
def comM (m:ModT) (g:List TxnT×AnsT×Option (List PutT)):ModT×AnsT:=
 match g.2.2 with
 | none=>((m.1,m.2.1,m.2.2.1,g.1),g.2.1)
 | some w=>if w.length=0 then ((m.1,m.2.1,m.2.2.1,g.1),(0,[],[])) else
   if 20<(φ2E m.2.1 w m.2.2.1).length∨m.2.2.1 > 1000000 then ((m.1,m.2.1,m.2.2.1,g.1),(5,[],[])) else
   ((m.1,φ2E m.2.1 w m.2.2.1,m.2.2.1+1,g.1),(0,[],[]))
def stM (m:ModT) (s:φt):ModT×AnsT:=
 bif s.1==10 then (bif m.1 then (m,(4,[],[])) else ((true,m.2.1,m.2.2.1,zTx),(0,[],[]))) else
 bif s.1==11 then (m,(0,[],[])) else
 bif !m.1 then (m,(6,[],[])) else
 bif s.1==7 then (m,(0,[],[])) else
 bif s.1==8 then (m,(0,[],m.2.1.map (·.1))) else
 bif s.1==9 then ((false,m.2.1,m.2.2.1,zTx),(0,[],[])) else
 comM m (sesG (φ2X m.2.1) (valM m.2.1) m.2.2.2 s)
def runM:ModT→List φt→ModT×List AnsT
 | m,[]=>(m,[])
 | m,s::r=>((runM (stM m s).1 r).1,(stM m s).2::(runM (stM m s).1 r).2)
abbrev newM:ModT:=(true,[],1,zTx)
structure TxR (t:TxnT):Prop extends TxnOk t where
 puts:∀p∈t.2.2,φ2H p=true
def TK (l:List TxnT):Prop:=l.length=3∧∀t∈l,TxR t
theorem TxR.zero (b:Bool):TxR (b,[],[]):=⟨⟨List.Pairwise.nil,by simp,by simp,by show (netW []).length≤8;decide⟩,fun p hp=>by simp at hp⟩
theorem TK.new:TK zTx:=⟨rfl,fun t ht=>by
 have:=List.eq_of_mem_replicate ht
 subst this
 exact TxR.zero false⟩
theorem TK.tb {l:List TxnT} (h:TK l):TB l:=⟨h.1,fun t ht=>⟨(h.2 t ht).reads,(h.2 t ht).writes⟩⟩
theorem TK.set {l:List TxnT} (h:TK l) (i:Nat) {t:TxnT} (ht:TxR t):TK (l.set i t):=⟨by rw[List.length_set];exact h.1,fun x hx=>by
 rcases κc hx with hx | rfl
 ·exact h.2 x hx
 ·exact ht⟩
def wait (l:List TxnT):Nat:=sumN (fun t=>t.2.2.length) l
theorem φ7O:∀(l:List TxnT) (i:Nat) (h:i<l.length) (t:TxnT),wait (l.set i t)+l[i].2.2.length=wait l+t.2.2.length
 | x::l,0,_,t=>by simp only[List.set_cons_zero,wait,sumN,List.getElem_cons_zero];omega
 | x::l,i+1,h,t=>by
  have:=φ7O l i (by simpa using h) t
  simp only[List.set_cons_succ,wait,sumN,List.getElem_cons_succ] at this ⊢
  omega
theorem φO7 {t:TxnT} (h:TxR t) (k:List UInt8) (b:Int):TxR (φ1w t k b).1∧(φ1w t k b).1.2.2=t.2.2:=by
 have h2:(φ1w t k b).1.2.2=t.2.2:=by
  unfold φ1w
  repeat' split
  all_goals rfl
 refine ⟨⟨?_,by rw[h2];exact h.puts⟩,h2⟩
 rw[φIC h.toTxnOk]
 exact φIb h.toTxnOk k b
theorem φO3 {t:TxnT} (h:TxR t) (p:PutT):TxR (φ2F t p).1∧(φ2F t p).1.2.2.length≤t.2.2.length+1:=by
 refine ⟨⟨φIm h.toTxnOk p,?_⟩,?_⟩
 ·unfold φ2F
  split
  ·rename_i c
   intro q hq
   rcases mA.1 hq with hq | hq
   ·exact h.puts q hq
   ·rw[mZ.1 hq];exact c.2.1
  ·exact h.puts
 ·unfold φ2F
  split
  ·show (t.2.2++[p]).length≤_
   simp
  ·exact Nat.le_succ _
theorem TxR.net_ok {t:TxnT} (h:TxR t):φ27 (netW t.2.2)=true∧(netW t.2.2).length≤8∧(netW t.2.2).length≤t.2.2.length:=by
 have h1:=h.net
 refine ⟨?_,h1,φCV _⟩
 unfold φ27
 rw[bA]
 refine ⟨by simpa using h1,κS.2 fun q hq=>?_⟩
 exact h.puts q (φEm (φN4.1 hq)).1
theorem φJy (look:List UInt8→φX×Int) (val:TxnT→Bool) {l:List TxnT} (hl:TK l) (s:φt) :
  TK (sesG look val l s).1∧(match (sesG look val l s).2.2 with | none=>wait (sesG look val l s).1≤wait l+1 | some w=>φ27 w=true∧w.length≤8∧wait (sesG look val l s).1+w.length≤wait l):=by
 unfold sesG
 cases hf:φ1h l s
 ·exact ⟨hl,Nat.le_succ _⟩
 obtain ⟨n,hn,h1,hin,hrd,hto,_,_,_⟩:=φ6l hl.1 hf
 have ht:=hl.2 _ (gM hn)
 have w0:∀b:Bool,wait (l.set n (b,[],[]))≤wait l+1:=fun b=>by
  have:=φ7O l n hn (b,[],[])
  simp only[lN] at this
  omega
 simp only[nZ,cF,hto,hrd]
 cases (s.1==1)
 rotate_left
 ·exact ⟨hl.set n (TxR.zero true),w0 true⟩
 cases (s.1==6)
 rotate_left
 ·exact ⟨hl.set n (TxR.zero false),w0 false⟩
 cases (s.1==2)
 rotate_left
 ·simp only[cT,cF]
  unfold getG
  simp only[hrd,hto]
  cases φ1A s.2.2.1
  ·exact ⟨hl,Nat.le_succ _⟩
  cases (ownW l[n].2.2 s.2.2.1).2
  ·obtain ⟨r1,r2⟩:=φO7 ht s.2.2.1 (look s.2.2.1).1.2.2
   simp only[nZ,cF]
   refine ⟨hl.set n r1,?_⟩
   have:=φ7O l n hn (φ1w l[n] s.2.2.1 (look s.2.2.1).1.2.2).1
   rw[r2] at this
   omega
  ·exact ⟨hl,Nat.le_succ _⟩
 cases (s.1==5)
 rotate_left
 ·simp only[cT,cF]
  refine ⟨hl.set n (TxR.zero false),?_⟩
  cases val l[n]
  ·exact w0 false
  ·obtain ⟨n1,n2,n3⟩:=ht.net_ok
   simp only[cT]
   refine ⟨n1,n2,?_⟩
   have:=φ7O l n hn zT
   have hz:(zT:TxnT).2.2.length=0:=rfl
   rw[hz] at this
   omega
 simp only[cF]
 unfold putG
 simp only[hrd,hto]
 obtain ⟨r1,r2⟩:=φO3 ht (putS s)
 refine ⟨hl.set n r1,?_⟩
 have:=φ7O l n hn (φ2F l[n] (putS s)).1
 omega
theorem φFi {s:φ6} {d:φ1} (h:φf s d=true) {P:List φX} (hd:φU s d=(P,0)) (key:List UInt8):getP s d key=φ2X P key:=by
 rw[φCn h] at hd
 have hP:P=s.2.1.map fun e=>(getP s d e.1).1:=(congrArg Prod.fst hd).symm
 subst hP
 unfold φ2X
 have hk:∀e∈s.2.1,(getP s d e.1).1.1=e.1:=fun e he=>(φ8Z h he).2
 have hfind:(s.2.1.map fun e=>(getP s d e.1).1).find? (fun p=>p.1==key)=(s.2.1.find? fun e=>e.1==key).map fun e=>(getP s d e.1).1:=by
  generalize s.2.1=l at hk
  induction l with
  | nil=>rfl
  | cons e l ih=>
   have h1:=hk e (by simp)
   simp only[κ5,List.find?_cons,h1]
   cases (e.1==key)
   ·exact ih fun x hx=>hk x (by simp[hx])
   ·rfl
 rw[hfind]
 cases hf:s.2.1.find? (fun e=>e.1==key) with
 | none=>
  refine φDp fun e he ek=>?_
  have:=List.find?_eq_none.1 hf e he
  simp[ek] at this
 | some e=>
  have he:=List.mem_of_find?_eq_some hf
  have hek:e.1=key:=by simpa using List.find?_some hf
  subst hek
  show getP s d e.1=((getP s d e.1).1,0)
  rw[←(φ8Z h he).1]
theorem φJf {s:φ6} {d:φ1} (h:φf s d=true) {P:List φX} (hd:φU s d=(P,0)) (t:TxnT):φ3t t s.2.1=valM P t:=by
 unfold φ3t valM
 congr 1
 funext r
 rw[←φFi h hd r.1]
 congr 1
 rcases φGc s.2.1 r.1 with c | ⟨c1,c2⟩
 ·have e1:getP s d r.1=(([],[],0),8):=by
   unfold getP
   rw[if_pos c]
  rw[e1]
  unfold φ20 at c ⊢
  split at c
  ·simp at c
  ·rfl
 ·obtain ⟨q1,q2,q3,q4,q5,q6⟩:=φg.1 h
  have k:=φ31.1 (q6 _ c2)
  have hkey:(φ20 s.2.1 r.1).1.1=r.1:=by
   unfold φ20 at c1 ⊢
   split at c1
   ·rename_i e he
    have:=List.find?_some he
    simpa using this
   ·simp at c1
  unfold getP
  rw[if_neg (by rw[c1];simp)]
  unfold φ1F at k
  simp only
  rw[if_pos ⟨k.1,k.2.1,k.2.2.1.trans hkey⟩]
  exact k.2.2.2.1.symm
theorem φED {s:φ6} {d:φ1} (h:φf s d=true) {P:List φX} (hd:φU s d=(P,0)):s.2.1.map (·.1)=P.map (·.1):=by
 rw[φ2q h] at hd
 have hP:P=mapG (φ1P d) s.2.1:=(congrArg Prod.fst hd).symm
 subst hP
 unfold mapG
 rw[List.map_map]
 rfl
def φ3q {α:Type} (x:α):Unit:=()
theorem φDS (b:Int):∀(l:List PutT) (P:List φX),mapG φ3q (φ2E P l b)=l.foldl (fun a p=>if p.2.1=true then φ18 a p.1 else insB (φ18 a p.1) (p.1,())) (mapG φ3q P)
 | [],P=>rfl
 | p::l,P=>by
  show mapG φ3q (φ2E (φ6S b P p) l b)=l.foldl _ _
  rw[φDS b l]
  congr 1
  show mapG φ3q (φ6S b P p)=if p.2.1=true then φ18 (mapG φ3q P) p.1 else insB (φ18 (mapG φ3q P) p.1) (p.1,())
  unfold φ6S
  by_cases c:p.2.1=true
  ·rw[if_pos c,if_pos c,φ7I]
  ·rw[if_neg c,if_neg c,φBa,φ7I]
theorem φNP {dir:List φC} {P:List φX} (hk:dir.map (·.1)=P.map (·.1)) (l:List PutT) (b:Int):φ2n dir l=(φ2E P l b).length:=by
 have e0:mapG (φ3q (α:=Int×Int×Int×Int)) dir=mapG (φ3q (α:=List UInt8×Int)) P:=by
  have:∀(α:Type) (l:List (List UInt8×α)),mapG φ3q l=(l.map (·.1)).map fun k=>(k,()):=fun α l=>by
   unfold mapG;rw[List.map_map];rfl
  rw[this,this,hk]
 have h1:=φ6u (φ3q (α:=Int×Int×Int×Int)) (fun _=>()) (l.zip (l.map φ4G)) dir (fun p hp=>by
  rw[φGq] at hp
  obtain ⟨q,_,rfl⟩:=mM.1 hp
  exact ⟨rfl,fun _=>rfl⟩)
 have h2:=φDS b l P
 have hz:(l.zip (l.map φ4G)).map (·.1)=l:=by
  rw[φGq,List.map_map]
  exact List.map_id _
 rw[hz,e0] at h1
 have:mapG (φ3q (α:=Int×Int×Int×Int)) (dirW dir (l.zip (l.map φ4G)))=mapG φ3q (φ2E P l b):=h1.trans h2.symm
 have:=congrArg List.length this
 unfold mapG at this
 simpa [φ2n] using this
structure RM (N:Nat) (e:EngT) (m:ModT):Prop where
 up:e.1=m.1
 tx:e.2.2.2=m.2.2.2
 tk:TK e.2.2.2
 st:∃(k:Nat) (s:φ6),PR k N s e.2.2.1∧k+wait e.2.2.2≤N∧φU s e.2.2.1=(m.2.1,0)∧s.2.2.1=m.2.2.1∧(e.1=true→s=e.2.1)∧(e.1=false→e.2.1=((0,[]),[],0,0,0))
 bt:m.2.2.1≤1+N
theorem RM.ei {N:Nat} {e:EngT} {m:ModT} (h:RM N e m):EI e:=by
 obtain ⟨k,s,h1,_,_,_,h5,h6⟩:=h.st
 refine ⟨fun hu=>by rw[←h5 hu];exact h1.toJR,fun hu=>⟨⟨s,h1.toJR⟩,by rw[h6 hu];simp,by rw[h6 hu];simp⟩,h.tk.tb⟩
theorem RM.fit {N:Nat} {e:EngT} {m:ModT} (h:RM N e m):Fit e:=h.ei.fit
theorem φHM:RM 0 (newE 100000) newM:=by
 refine ⟨rfl,rfl,TK.new,⟨0,((2,[1]),[],1,0,0),φDZ,by decide,?_,rfl,fun _=>rfl,fun c=>by simp at c⟩,by decide⟩
 rw[φ2q φDZ.ok]
 rfl
theorem φGN {N:Nat} {e:EngT} {m:ModT} (h:RM N e m) (hN:N≤90) (s:φt) (h11:s.1≠11):RM (N+1) (stE e s).1 (stM m s).1∧(stE e s).2=(stM m s).2:=by
 obtain ⟨k,s0,h1,h2,h3,h4,h5,h6⟩:=h.st
 have hup:=h.up
 have c11:(s.1==11)=false:=by simpa using h11
 have hsame:RM (N+1) e m:=⟨h.up,h.tx,h.tk,⟨k,s0,h1.up (κ6 _) (by omega),by omega,h3,h4,h5,h6⟩,by have:=h.bt;omega⟩
 unfold stE stM
 rw[c11]
 cases c10:(s.1==10)
 rotate_left
 ·simp only[cT]
  rw[←hup]
  cases hu:e.1
  ·obtain ⟨t,y,ho,hj,hd,hb,hdm⟩:=φId h1
   simp only[cF,ho]
   exact ⟨⟨rfl,rfl,TK.new,⟨k,t,hj.up (κ6 _) (by omega),by show k+0≤N+1;omega,hdm.trans h3,hb.trans h4,fun _=>rfl,fun c=>by simp at c⟩,by have:=h.bt;show m.2.2.1≤_;omega⟩,trivial⟩
  ·exact ⟨hsame,rfl⟩
 simp only[cF]
 rw[←hup]
 cases hu:e.1
 ·exact ⟨hsame,rfl⟩
 have hs:=h5 hu
 subst hs
 have hup2:m.1=true:=hup.symm.trans hu
 simp only[nZ,cF]
 cases c7:(s.1==7)
 rotate_left
 ·obtain ⟨m1,m2,m3,m4⟩:=φJp h1 (by omega) (by omega)
  simp only[cT,m1]
  exact ⟨⟨hup2.symm,h.tx,h.tk,⟨k,_,m2,by show k+wait e.2.2.2≤_;omega,m3.trans h3,m4.trans h4,fun _=>rfl,fun c=>by simp at c⟩,by have:=h.bt;omega⟩,trivial⟩
 simp only[cF]
 cases c8:(s.1==8)
 rotate_left
 ·simp only[cT,φED h1.ok h3]
  exact ⟨hsame,trivial⟩
 simp only[cF]
 cases c9:(s.1==9)
 rotate_left
 ·simp only[cT]
  exact ⟨⟨rfl,rfl,TK.new,⟨k,_,h1.up (κ6 _) (by omega),by show k+0≤N+1;omega,h3,h4,fun c=>by simp at c,fun _=>rfl⟩,by have:=h.bt;show m.2.2.1≤_;omega⟩,trivial⟩
 simp only[cF]
 unfold sesE
 have e1:getP e.2.1 e.2.2.1=φ2X m.2.1:=funext fun key=>φFi h1.ok h3 key
 have e2:(fun t=>φ3t t e.2.1.2.1)=valM m.2.1:=funext fun t=>φJf h1.ok h3 t
 rw[e1,e2,←h.tx]
 obtain ⟨g1,g2⟩:=φJy (φ2X m.2.1) (valM m.2.1) h.tk s
 generalize sesG (φ2X m.2.1) (valM m.2.1) e.2.2.2 s=g at g1 g2
 obtain ⟨l,a,w⟩:=g
 unfold comE comM
 cases w with
 | none=>
  simp only at g1 g2 ⊢
  exact ⟨⟨hup,rfl,g1,⟨k,_,h1.up (κ6 _) (by omega),by show k+wait l≤_;omega,h3,h4,fun _=>rfl,fun c=>by rw[hu] at c;simp at c⟩,by have:=h.bt;show m.2.2.1≤_;omega⟩,trivial⟩
 | some w=>
  obtain ⟨w1,w2,w3⟩:=g2
  simp only at g1 w3 ⊢
  have hb:=h.bt
  have hkp:φ2n e.2.1.2.1 w=(φ2E m.2.1 w m.2.2.1).length:=φNP (φED h1.ok h3) w m.2.2.1
  have hbb:e.2.1.2.2.1=m.2.2.1:=h4
  have hF:φ2Q e.2.1 e.2.2.1 w=if w.length=0 then (e.2.1,e.2.2.1,0) else if 20<(φ2E m.2.1 w m.2.2.1).length∨m.2.2.1 > 1000000 then (e.2.1,e.2.2.1,5) else φ1N e.2.1 e.2.2.1 w:=by
   unfold φ2Q
   rw[if_neg (by rw[h1.ok,w1];simp),hkp,hbb]
  have hdump:=(φFx h1.toJR w).2.2.1
  by_cases c0:w.length=0
  ·rw[if_pos c0] at hF
   rw[hF,if_pos c0]
   exact ⟨⟨hup,rfl,g1,⟨k,_,h1.up (κ6 _) (by omega),by show k+wait l≤_;omega,h3,h4,fun _=>rfl,fun c=>by rw[hu] at c;simp at c⟩,by show m.2.2.1≤_;omega⟩,rfl⟩
  rw[if_neg c0] at hF
  by_cases c5:20<(φ2E m.2.1 w m.2.2.1).length∨m.2.2.1 > 1000000
  ·rw[if_pos c5] at hF
   rw[hF,if_neg c0,if_pos c5]
   exact ⟨⟨hup,rfl,g1,⟨k,_,h1.up (κ6 _) (by omega),by show k+wait l≤_;omega,h3,h4,fun _=>rfl,fun c=>by rw[hu] at c;simp at c⟩,by show m.2.2.1≤_;omega⟩,rfl⟩
  rw[if_neg c5] at hF
  obtain ⟨p1,p2,p3⟩:=φNy h1 w1 (by rw[hbb];omega) (by rw[hkp];omega) (by omega) (by omega)
  have hdump:=hdump (by rw[hF];exact p1)
  rw[hF] at hdump
  rw[hF,if_neg c0,if_neg c5,p1]
  refine ⟨⟨hup,rfl,g1,⟨k+(w.length+1),_,p2.up (κ6 _) (by omega),by show k+(w.length+1)+wait l≤_;omega,?_,?_,fun _=>rfl,fun c=>by rw[hu] at c;simp at c⟩,by show m.2.2.1+1≤_;omega⟩,rfl⟩
  ·show φU (φ1N e.2.1 e.2.2.1 w).1 (φ1N e.2.1 e.2.2.1 w).2.1=(φ2E m.2.1 w m.2.2.1,0)
   rw[hdump,h3,hbb]
  ·show (φ1N e.2.1 e.2.2.1 w).1.2.2.1=m.2.2.1+1
   rw[p3,hbb]
theorem φGk:∀(a b:List φt) (m:ModT),runM m (a++b)=((runM (runM m a).1 b).1,(runM m a).2++(runM (runM m a).1 b).2)
 | [],b,m=>rfl
 | s::a,b,m=>by
  show ((runM (stM m s).1 (a++b)).1,(stM m s).2::(runM (stM m s).1 (a++b)).2)=_
  rw[φGk a b];rfl
theorem φFK:∀(l:List φt) (N:Nat) (e:EngT) (m:ModT),RM N e m→N+l.length≤90→(∀s∈l,s.1≠11)→(runE e l).2=(runM m l).2
 | [],_,_,_,_,_,_=>rfl
 | s::r,N,e,m,h,hN,h11=>by
  simp only[lC] at hN
  obtain ⟨h1,h2⟩:=φGN h (by omega) s (h11 s κ0)
  have:=φFK r (N+1) _ _ h1 (by omega) fun x hx=>h11 x (mC _ hx)
  show (stE e s).2::(runE (stE e s).1 r).2=(stM m s).2::(runM (stM m s).1 r).2
  rw[h2,this]
theorem φNg (l:List φt) (hl:l.length≤90) (h11:∀s∈l,s.1≠11):∃e acks,ψf.f (100000,-1,l)=some (e,(runM newM l).2,acks,[])∧RM l.length e (runM newM l).1:=by
 have h0:RM 0 (newE 100000) (runM newM (l.take 0)).1:=by rw[List.take_zero];exact φHM
 obtain ⟨acks,k1,k2⟩:=φNE (I:=fun n e=>n≤90∧RM n e (runM newM (l.take n)).1) (l:=l) (by omega) (fun n e h=>h.2.fit) (fun n hn e h=>by
  obtain ⟨h1,h2⟩:=h
  have hs:=h11 _ (gM hn)
  obtain ⟨a1,a2⟩:=φGN h2 h1 l[n] hs
  refine ⟨⟨by omega,?_⟩,(φKg h2.ei l[n]).2.1⟩
  rw[κ4 hn,φGk]
  exact a1) (e:=newE 100000) ⟨by omega,h0⟩
 have ha:=φFK l 0 (newE 100000) newM φHM (by omega) h11
 refine ⟨(runE (newE 100000) l).1,acks,?_,?_⟩
 ·rw[show ((100000:Int),(-1:Int),l)=(((100000:Nat):Int),(-1:Int),l) from rfl,φKd 100000 (by omega) (by omega) l,k1,ha]
 ·have:=k2.2
  rw[κU] at this
  exact this
theorem φ8j (p:PutT):netW [p]=[p]:=by
 rw[←φCJ];rfl
theorem φKs (p:PutT):ownW [p] p.1=(p,true):=by
 unfold ownW φ4U
 simp
theorem φHi (P:List φX) (b:Int) (t1 t2:TxnT):stM (true,P,b,[zT,t1,t2]) (1,0,[],[],0)=((true,P,b,[(true,[],[]),t1,t2]),(0,[],[])):=by
 simp[stM,sesG,comM,φ1h,rdA]
theorem φMO (P:List φX) (b:Int) (t0 t2:TxnT):stM (true,P,b,[t0,zT,t2]) (1,1,[],[],0)=((true,P,b,[t0,(true,[],[]),t2]),(0,[],[])):=by
 simp[stM,sesG,comM,φ1h,rdA]
theorem φJE (P:List φX) (b:Int) (t0 t1:TxnT):stM (true,P,b,[t0,t1,zT]) (1,2,[],[],0)=((true,P,b,[t0,t1,(true,[],[])]),(0,[],[])):=by
 simp[stM,sesG,comM,φ1h,rdA]
theorem φKS {k v:List UInt8} (hk:φ1A k=true) (hv:v.length≤24) (P:List φX) (b:Int) (t1 t2:TxnT):stM (true,P,b,[(true,[],[]),t1,t2]) (3,0,k,v,0)=((true,P,b,[(true,[],[(k,false,v)]),t1,t2]),(0,[],[])):=by
 simp[stM,sesG,comM,φ1h,rdA,putG,putS,φ2F,φ2H,hk,hv,φ8j]
theorem φN1 {k v:List UInt8} (hk:φ1A k=true) (hv:v.length≤24) (P:List φX) (b:Int) (t0 t1:TxnT):stM (true,P,b,[t0,t1,(true,[],[])]) (3,2,k,v,0)=((true,P,b,[t0,t1,(true,[],[(k,false,v)])]),(0,[],[])):=by
 simp[stM,sesG,comM,φ1h,rdA,putG,putS,φ2F,φ2H,hk,hv,φ8j]
theorem φNY {k:List UInt8} (hk:φ1A k=true) (r:List (List UInt8×Int)) (P:List φX) (b:Int) (t1 t2:TxnT):stM (true,P,b,[(true,r,[]),t1,t2]) (4,0,k,[],0)=((true,P,b,[(true,r,[(k,true,[])]),t1,t2]),(0,[],[])):=by
 simp[stM,sesG,comM,φ1h,rdA,putG,putS,φ2F,φ2H,hk,φ8j]
theorem φGs {k:List UInt8} (hk:φ1A k=true) (r:List (List UInt8×Int)) (d:Bool) (v:List UInt8) (P:List φX) (b:Int) (t1 t2:TxnT):stM (true,P,b,[(true,r,[(k,d,v)]),t1,t2]) (2,0,k,[],0)=((true,P,b,[(true,r,[(k,d,v)]),t1,t2]),bif d then (8,[],[]) else (0,v,[])):=by
 have:=φKs (k,d,v)
 simp only at this
 simp[stM,sesG,comM,φ1h,rdA,getG,hk,this,ownA]
theorem φBi (k:List UInt8):ownW [] k=(([],false,[]),false):=rfl
theorem φNT {k:List UInt8} (hk:φ1A k=true) (P:List φX) (b:Int) (t1 t2:TxnT):stM (true,P,b,[(true,[],[]),t1,t2]) (2,0,k,[],0)=((true,P,b,[(true,[(k,(φ2X P k).1.2.2)],[]),t1,t2]),((φ2X P k).2,(φ2X P k).1.2.1,[])):=by
 simp[stM,sesG,comM,φ1h,rdA,getG,hk,φBi,φ1w]
theorem φMp {k:List UInt8} (hk:φ1A k=true) (P:List φX) (b:Int) (t0 t2:TxnT):stM (true,P,b,[t0,(true,[],[]),t2]) (2,1,k,[],0)=((true,P,b,[t0,(true,[(k,(φ2X P k).1.2.2)],[]),t2]),((φ2X P k).2,(φ2X P k).1.2.1,[])):=by
 simp[stM,sesG,comM,φ1h,rdA,getG,hk,φBi,φ1w]
theorem φL0 {k:List UInt8} (hk:φ1A k=true) (c:Int) (P:List φX) (h:(φ2X P k).1.2.2≠c) (b:Int) (t0 t2:TxnT):stM (true,P,b,[t0,(true,[(k,c)],[]),t2]) (2,1,k,[],0)=((true,P,b,[t0,(true,[(k,c)],[]),t2]),(7,[],[])):=by
 simp[stM,sesG,comM,φ1h,rdA,getG,hk,φBi,φ1w,Ne.symm h]
theorem φNQ {k:List UInt8} (c:Int) (P:List φX) (h:(φ2X P k).1.2.2≠c) (b:Int) (t0 t2:TxnT):stM (true,P,b,[t0,(true,[(k,c)],[]),t2]) (5,1,[],[],0)=((true,P,b,[t0,zT,t2]),(7,[],[])):=by
 have h1:((φ2X P k).1.2.2==c)=false:=by simpa using h
 simp[stM,sesG,comM,φ1h,rdA,valM,h1]
theorem φFf (r:List (List UInt8×Int)) (p:PutT) (P:List φX) (b:Int) (hv:valM P (true,r,[p])=true) (hl:(φ2E P [p] b).length≤20) (hb:b≤1000000) (t1 t2:TxnT):stM (true,P,b,[(true,r,[p]),t1,t2]) (5,0,[],[],0)=((true,φ2E P [p] b,b+1,[zT,t1,t2]),(0,[],[])):=by
 have h1:¬(20<(φ2E P [p] b).length∨b > 1000000):=by omega
 simp[stM,sesG,comM,φ1h,rdA,hv,φ8j,h1]
theorem φKp (P:List φX) (b:Int) (t0 t1:TxnT) (r:List (List UInt8×Int)) (p:List PutT):stM (true,P,b,[t0,t1,(true,r,p)]) (6,2,[],[],0)=((true,P,b,[t0,t1,zT]),(0,[],[])):=by
 simp[stM,sesG,comM,φ1h,rdA]
theorem φOI (P:List φX) (b:Int) (l:List TxnT):stM (true,P,b,l) (8,0,[],[],0)=((true,P,b,l),(0,[],P.map (·.1))):=by
 simp[stM]
theorem φ2h {m m':ModT} {s:φt} {a:AnsT} (h:stM m s=(m',a)) (r:List φt):(runM m (s::r)).2=a::(runM m' r).2:=by
 show (stM m s).2::(runM (stM m s).1 r).2=_
 rw[h]
def φ4p (k v w:List UInt8):List φt:=[(1,0,[],[],0),(3,0,k,v,0),(2,0,k,[],0),(1,1,[],[],0),(2,1,k,[],0),(5,0,[],[],0),(2,1,k,[],0),(5,1,[],[],0),(1,2,[],[],0),(3,2,k,w,0),(6,2,[],[],0),(1,0,[],[],0),(2,0,k,[],0),(4,0,k,[],0),(2,0,k,[],0),(5,0,[],[],0),(8,0,[],[],0)]
def φ4S (v:List UInt8):List AnsT:=[(0,[],[]),(0,[],[]),(0,v,[]),(0,[],[]),(8,[],[]),(0,[],[]),(7,[],[]),(7,[],[]),(0,[],[]),(0,[],[]),(0,[],[]),(0,[],[]),(0,v,[]),(0,[],[]),(8,[],[]),(0,[],[]),(0,[],[])]
theorem φKF {k v w:List UInt8} (hk:φ1A k=true) (hv:v.length≤24) (hw:w.length≤24):(runM newM (φ4p k v w)).2=φ4S v:=by
 have look1:φ2X [(k,v,1)] k=((k,v,1),0):=by simp[φ2X]
 have look0:(φ2X [] k).1.2.2=0:=rfl
 have f1:φ2E [] [((k,false,v):PutT)] 1=[(k,v,1)]:=by simp[φ2E,φ6S,φ18,insB]
 have f2:φ2E [((k,v,1):φX)] [((k,true,[]):PutT)] 2=[]:=by simp[φ2E,φ6S,φ18]
 unfold φ4p φ4S
 rw[show newM=((true,[],1,[zT,zT,zT]):ModT) from rfl]
 rw[φ2h (φHi [] 1 zT zT),φ2h (φKS hk hv [] 1 zT zT),φ2h (φGs hk [] false v [] 1 zT zT),φ2h (φMO [] 1 _ zT),φ2h (φMp hk [] 1 _ zT),look0]
 rw[φ2h (φFf [] (k,false,v) [] 1 (by simp[valM]) (by rw[f1];simp) (by decide) _ zT),f1]
 rw[show ((1:Int)+1)=2 from rfl,φ2h (φL0 hk 0 [(k,v,1)] (by rw[look1];show (1:Int)≠0;decide) 2 zT zT),φ2h (φNQ 0 [(k,v,1)] (by rw[look1];show (1:Int)≠0;decide) 2 zT zT)]
 rw[φ2h (φJE [(k,v,1)] 2 zT zT),φ2h (φN1 hk hw [(k,v,1)] 2 zT zT),φ2h (φKp [(k,v,1)] 2 zT zT [] _),φ2h (φHi [(k,v,1)] 2 zT zT),φ2h (φNT hk [(k,v,1)] 2 zT zT),look1]
 rw[φ2h (φNY hk _ [(k,v,1)] 2 zT zT),φ2h (φGs hk _ true [] [(k,v,1)] 2 zT zT)]
 rw[φ2h (φFf _ (k,true,[]) [(k,v,1)] 2 (by simp[valM,look1]) (by rw[f2];simp) (by decide) zT zT),f2,φ2h (φOI [] _ _)]
 rfl
theorem φHz (x0:List Int) (w0:wfD (.sl false (.int .u8)) x0):ψ2E.f x0=some true:=by
 unfold ψ2E.f
 rw[φLj,bS]
 by_cases cb:(x0.length:Int) > 1048576
 ·simp[cb]
 simp only[cb,dF,cF]
 obtain ⟨a,ea,ha0,ha1⟩:=φC1 x0 (fun y hy=>w0.2 y hy) 0 (by omega) (by omega)
 obtain ⟨b,eb,hb0,hb1⟩:=φC1 x0 (fun y hy=>w0.2 y hy) 1 (by omega) (by omega)
 obtain ⟨c,ec,hc0,hc1⟩:=φC1 x0 (fun y hy=>w0.2 y hy) 2 (by omega) (by omega)
 have ea:ψ2F.f x0 0=some a:=ea
 have eb:ψ2F.f x0 1=some b:=eb
 have ec:ψ2F.f x0 2=some c:=ec
 obtain ⟨m,hm⟩:∃m:Nat,Int.tmod a 3=(m:Int)∧m<3:=by
  rw[Int.tmod_eq_emod_of_nonneg ha0]
  exact ⟨(a % 3).toNat,by omega,by omega⟩
 obtain ⟨p,rfl⟩:∃p:Nat,b=(p:Int):=⟨b.toNat,by omega⟩
 obtain ⟨q,rfl⟩:∃q:Nat,c=(q:Int):=⟨c.toNat,by omega⟩
 have hv:=φ5J 2 p (by omega)
 have hw:=φ5J 2 q (by omega)
 have hin:inB (m:Int) ([[97],[98],[107,101,121]]:List (List UInt8)).length=true:=by rw[φK];simp;omega
 have hlen:m<([[97],[98],[107,101,121]]:List (List UInt8)).length:=by simp;omega
 have hk:φ1A (rdA [] ([[97],[98],[107,101,121]]:List (List UInt8)) (m:Int))=true:=by
  rw[φN]
  have:m=0∨m=1∨m=2:=by omega
  rcases this with e | e | e<;>subst e<;>decide
 have hin2:inB (m:Int) (0+1+1+1)=true:=hin
 simp only[ea,eb,ec,bS,hm.1,hin2,lC,lN,cT,φ8Q p (by omega),φ8Q q (by omega)]
 generalize rdA [] ([[97],[98],[107,101,121]]:List (List UInt8)) (m:Int)=k at *
 generalize Lib.decDigits p=v at *
 generalize Lib.decDigits q=w at *
 have hr:=φKF (k:=k) (v:=v) (w:=w) hk (by omega) (by omega)
 obtain ⟨e,acks,p1,_⟩:=φNg (φ4p k v w) (by simp[φ4p]) (fun s hs=>by
  simp only[φ4p,mc,List.not_mem_nil,or_false] at hs
  rcases hs with rfl | rfl | rfl | rfl | rfl | rfl | rfl | rfl | rfl | rfl | rfl | rfl | rfl | rfl | rfl | rfl | rfl<;>simp)
 rw[hr] at p1
 have hplain:ψ2H.f (φ4p k v w)=some (100000,-1,φ4p k v w):=rfl
 rw[show ([(1,0,[],[],0),(3,0,k,v,0),(2,0,k,[],0),(1,1,[],[],0),(2,1,k,[],0),(5,0,[],[],0),(2,1,k,[],0),(5,1,[],[],0),(1,2,[],[],0),(3,2,k,w,0),(6,2,[],[],0),(1,0,[],[],0),(2,0,k,[],0),(4,0,k,[],0),(2,0,k,[],0),(5,0,[],[],0),(8,0,[],[],0)]:List (Int×Int×List UInt8×List UInt8×Int))=φ4p k v w from rfl,hplain]
 simp only[bS,p1]
 have hsa:=φOK (φ4S v) (φ4S v) (by simp[φ4S]) (fun y hy=>by
  simp only[φ4S,mc,List.not_mem_nil,or_false] at hy
  rcases hy with rfl | rfl | rfl | rfl | rfl | rfl | rfl | rfl | rfl | rfl | rfl | rfl | rfl | rfl | rfl | rfl | rfl<;>simp)
 have hsa:ψ2j.f (φ4S v) (φ4S v)=some true:=by rw[hsa];simp
 unfold φ4S at hsa ⊢
 rw[hsa]
 rfl
end Go.Rf.G
