import Derived.Test.YtleflckegnlgcaaGreatDoorLTopLem4
open Option renaming bind_some→bS
open List renaming length_append→lA,append_assoc→aA,mem_cons_of_mem→mC,mem_append→mA,mem_append_right→mR,mem_append_left→mL,mem_cons→mc,drop_eq_getElem_cons→dG,length_take→lT,length_drop→lD,mem_map→mM,length_map→lM,length_cons→lC,length_nil→lN,getElem_mem→gM,map_append→mp,mem_singleton→mZ,mem_cons_self→κ0,take_succ_eq_append_getElem→κ1,map_cons→κ5,append_nil→κ7,nil_append→κ8,length_singleton→κA,drop_zero→κC,take_append_drop→κE,cons_append→κF,replicate→κH,flatMap_append→κJ,foldl_cons→κL,nodup_append→κM,take_length→κN,drop_left→κQ,all_eq_true→κR,nodup_cons→κS,range'→κT,foldl_append→κX,pairwise_cons→κY,mem_or_eq_of_mem_set→κc,pairwise_append→κd,mem_of_mem_take→κe
open Bool renaming and_eq_true→bA,eq_false_or_eq_true→bE,not_true→nZ,not_false→nF,true_and→tA,not_not→nn,false_eq_true→κ3,true_eq_false→κ9,false_and→κD,or_eq_false_iff→κI,not_eq_true'→κO,and_true→κP,false_or→κU,or_eq_true→κW
open Int renaming toNat_natCast→tN,ofNat_lt→oL,le_refl→κK
open Nat renaming lt_or_ge→κ2,zero_le→κ4,le_refl→κ6,eq_of_beq_eq_true→κB,lt_of_lt_of_le→κG,zero_add→κV,pow_succ→κZ,mod_eq_of_lt→κb,le_trans→κf
open Array renaming length_toList→κa
set_option linter.unusedVariables false
set_option linter.unusedSimpArgs false
namespace Go.Rf.G
open Go Go.Rf
set_option synthInstance.maxSize 4000
theorem φKp {e:EngT} (h:Fit e) (s:φY):ψN.f e s=some ((stE e s).2,(stE e s).1):=by
 have hd:=(φ13 h.dk)
 have hlim:=φ1X hd (show 100001≤1000000000 by omega)
 have hu:φK e.2.2.1.1≤100000:=by have:=hd.2.1;omega
 have hw:w64 (100000 - ((φK e.2.2.1.1:Nat):Int))=100000 - (φK e.2.2.1.1:Int):=φI (by omega) (by omega)
 have open_:((ψI.f e.2.2.1).bind fun x=>some (((x.2,[],[]):AnsT),x.1))=some ((((φ2G e.2.2.1).2.2,[],[]):AnsT),(((φ2G e.2.2.1).2.2==0,(φ2G e.2.2.1).1,(φ2G e.2.2.1).2.1,zTx):EngT)):=by
  unfold ψI.f
  rw[φEY e.2.2.1 (φ3Z hd (by omega))]
  rfl
 have cap:((ψ1v.f e.2.2.1).bind fun t2=>(ψD.f e.2.2.1).bind fun t3=>bif !t3 then some (((4,[],[]):AnsT),e) else
   (ψ1X.f s.2.2.2.2 0 (w64 (100000 - t2))).bind fun t4=>bif !t4 then some (((4,[],[]):AnsT),e) else
   some (((0,[],[]):AnsT),((e.1,e.2.1,(e.2.2.1.1,w64 (t2+s.2.2.2.2),e.2.2.1.2.2),e.2.2.2):EngT))) =
   some ((bif φ3 e.2.2.1 && decide (0≤s.2.2.2.2∧s.2.2.2.2≤100000 - (φK e.2.2.1.1:Int)) then (((e.1,e.2.1,(e.2.2.1.1,(φK e.2.2.1.1:Int)+s.2.2.2.2,e.2.2.1.2.2),e.2.2.2):EngT),((0,[],[]):AnsT)) else (e,(4,[],[]))).2,
    (bif φ3 e.2.2.1 && decide (0≤s.2.2.2.2∧s.2.2.2.2≤100000 - (φK e.2.2.1.1:Int)) then (((e.1,e.2.1,(e.2.2.1.1,(φK e.2.2.1.1:Int)+s.2.2.2.2,e.2.2.1.2.2),e.2.2.2):EngT),((0,[],[]):AnsT)) else (e,(4,[],[]))).1):=by
  simp only[φFO e.2.2.1 (by have:=hlim.1;omega) (by omega),φ5q e.2.2.1 hlim,h.dk,bS,nZ,cF,φ1a,hw,tA]
  by_cases c:0≤s.2.2.2.2∧s.2.2.2.2≤100000 - (φK e.2.2.1.1:Int)
  ·have:w64 ((φK e.2.2.1.1:Int)+s.2.2.2.2)=(φK e.2.2.1.1:Int)+s.2.2.2.2:=φI (by omega) (by omega)
   simp only[c,and_self,dT,nZ,cF,cT,this]
  ·simp only[c,dF,nF,cT,cF]
 unfold ψN.f stE
 cases c10:(s.1==10)
 rotate_left
 ·simp only[cT]
  cases hu:e.1
  ·exact open_
  ·rfl
 simp only[cF]
 cases c11:(s.1==11)
 rotate_left
 ·simp only[cT]
  exact cap
 simp only[cF]
 cases hup:e.1
 ·rfl
 have hdr:=h.sm.dir
 simp only[nZ,cF]
 cases c7:(s.1==7)
 rotate_left
 ·simp only[cT,(φKw h.sm).1,bS]
 simp only[cF]
 cases c8:(s.1==8)
 rotate_left
 ·simp only[cT,φFd e.2.1.2.1 (by omega),bS]
 simp only[cF]
 cases c9:(s.1==9)
 rotate_left
 ·rfl
 simp only[cF,φOH h.len h.tx h.sm (h.n3 hup) s,bS]
theorem mapB {A B C:Type} {X:Option A} {f:A→Option B} {f':A→Option C} {g:C→B} (h:∀x,f x=(f' x).map g):X.bind f=(X.bind f').map g:=by
 cases X with
 | none=>rfl
 | some x=>exact h x
theorem mapC {B C:Type} {b:Bool} {x y:Option B} {x' y':Option C} {g:C→B} (h1:x=x'.map g) (h2:y=y'.map g):(bif b then x else y)=(bif b then x' else y').map g:=by
 cases b
 ·exact h2
 ·exact h1
abbrev φ3k:=List AnsT×List (Int×List PutT)×List PutT
theorem φLW (e:EngT) (r:φ3k) (s:φY):ψK.f (e,r) s=(ψJ.f e s).map fun x=>(x.1,(x.2,r)):=by
 unfold ψK.f ψJ.f
 repeat' first
  | rfl
  | apply mapC
  | (apply mapB;intro x;try obtain ⟨a,b⟩:=(x:_×_))
theorem φNO (e:EngT) (r:φ3k) (s:φY):ψM.f (e,r) s=(ψL.f e s).map fun x=>(x.1,(x.2,r)):=by
 unfold ψM.f ψL.f
 rw[φLW e r s]
 cases ψJ.f e s with
 | none=>
  repeat' first
   | rfl
   | apply mapC
   | (apply mapB;intro x;try obtain ⟨a,b⟩:=(x:_×_))
 | some z=>
  repeat' first
   | rfl
   | apply mapC
   | (apply mapB;intro x;try obtain ⟨a,b⟩:=(x:_×_))
theorem φMj (e:EngT) (r:φ3k) (s:φY):ψO.f (e,r) s=(ψN.f e s).map fun x=>(x.1,(x.2,r)):=by
 unfold ψO.f ψN.f
 rw[φNO e r s]
 cases ψL.f e s with
 | none=>
  repeat' first
   | rfl
   | apply mapC
   | (apply mapB;intro x;try obtain ⟨a,b⟩:=(x:_×_))
 | some z=>
  repeat' first
   | rfl
   | apply mapC
   | (apply mapB;intro x;try obtain ⟨a,b⟩:=(x:_×_))
theorem φJ8 {e:EngT} (h:Fit e) (r:φ3k) (s:φY):ψO.f (e,r) s=some ((stE e s).2,((stE e s).1,r)):=by
 rw[φMj,φKp h s];rfl
def netO (e:EngT) (s:φY):List PutT:=bif (s.1==5) && (e.1 && φ27 e.2.2.2 s) then netW (rdA zT e.2.2.2 s.2.1).2.2 else []
theorem φKt {e:EngT} (h:Fit e) (s:φY):ψ1c.f e s=some (netO e s):=by
 have hl:=h.len
 have hw:w64 ((e.2.2.2.length:Int) - 1)=2:=by rw[hl];rfl
 unfold ψ1c.f netO
 cases c5:(s.1==5)
 ·have:(s.1 != 5)=true:=by simpa using c5
  simp only[this,cT,κD,cF]
 have c5':s.1=5:=by simpa using c5
 have:(s.1 != 5)=false:=by simpa using c5
 simp only[this,cF,tA]
 cases hu:e.1
 ·rfl
 simp only[nZ,cF,tA,φ1a,bS,hw]
 unfold φ27
 have k:decide (1≤s.1∧s.1≤6)=true:=by rw[c5'];decide
 have k1:(s.1 != 1)=true:=by rw[c5'];decide
 rw[k,k1,tA]
 by_cases h2:0≤s.2.1∧s.2.1≤2
 ·obtain ⟨n,hn⟩:∃n:Nat,s.2.1=(n:Int):=⟨s.2.1.toNat,by omega⟩
  have hn3:n<e.2.2.2.length:=by omega
  have hin:inB s.2.1 e.2.2.2.length=true:=by rw[hn,φF];simp[hn3]
  have hrd:rdA zT e.2.2.2 s.2.1=e.2.2.2[n]:=by rw[hn,φJ,φ9 hn3]
  have ht:=h.tx _ (gM hn3)
  simp only[h2,and_self,dT,nZ,cF,hin,cT,tA,show rdA (false,[],[]) e.2.2.2 s.2.1=e.2.2.2[n] from hrd,hrd]
  cases hb:e.2.2.2[n].1
  ·rfl
  ·simp only[nZ,cF,beq_self_eq_true,cT]
   have:((true,e.2.2.2[n].2):TxnT)=e.2.2.2[n]:=by rw[←hb]
   rw[this,φC5 e.2.2.2[n] (by omega)]
   rfl
 ·simp only[h2,dF,nF,cT,κD,cF]
noncomputable def runE:EngT→List φY→EngT×List AnsT
 | e,[]=>(e,[])
 | e,s::r=>((runE (stE e s).1 r).1,(stE e s).2::(runE (stE e s).1 r).2)
theorem φFi:∀(a b:List φY) (e:EngT),runE e (a++b)=((runE (runE e a).1 b).1,(runE e a).2++(runE (runE e a).1 b).2)
 | [],b,e=>rfl
 | s::a,b,e=>by
  show ((runE (stE e s).1 (a++b)).1,(stE e s).2::(runE (stE e s).1 (a++b)).2)=_
  rw[φFi a b];rfl
theorem φE0:∀(l:List φY) (e:EngT),(runE e l).2.length=l.length
 | [],_=>rfl
 | s::r,e=>by
  show (_::_).length=_
  rw[lC,φE0 r];rfl
theorem φFF (l:List φY) (s:φY) (e:EngT):runE e (l++[s])=((stE (runE e l).1 s).1,(runE e l).2++[(stE (runE e l).1 s).2]):=by
 rw[φFi];rfl
theorem φIG {I:Nat→EngT→Prop} {l:List φY} (hs:∀n (hn:n<l.length) e,I n e→I (n+1) (stE e l[n]).1) {e:EngT} (h0:I 0 e):∀n,n≤l.length→I n (runE e (l.take n)).1
 | 0,_=>by rw[List.take_zero];exact h0
 | n+1,hn=>by
  rw[κ1 (by omega),φFF]
  exact hs n (by omega) _ (φIG hs h0 n (by omega))
theorem φN1 {I:Nat→EngT→Prop} {l:List φY} (hl:l.length≤300) (hI:∀n e,I n e→Fit e) (hs:∀n (hn:n<l.length) e,I n e→I (n+1) (stE e l[n]).1∧(stE e l[n]).2.1≠1) {e:EngT} (h0:I 0 e) :
  ∃acks,ψv.f e l=some ((runE e l).1,(runE e l).2,acks,[])∧I l.length (runE e l).1:=by
 have hinv:=φIG (I:=I) (l:=l) (fun n hn e h=>(hs n hn e h).1) h0
 have h00:=hI 0 e h0
 have key:=φ5x (step:=ψv.l0) (fun n (s:EngT×List AnsT×List (Int×List PutT))=>((((false,((0,[]),[],0,0,0),([],0,0,false),[]),[],[],[]),(s.1,s.2.1,s.2.2,[]),l,(l.length:Int),(n:Int)):(EngT×φ3k)×(EngT×φ3k)×List φY×Int×Int)) l.length
  (fun n s=>s.1=(runE e (l.take n)).1∧s.2.1=(runE e (l.take n)).2∧s.2.2.length≤n) (fun b=>∃acks,b.2=((runE e l).1,(runE e l).2,acks,[]))
  (fun rec s hi=>by
   obtain ⟨a,b,c⟩:=s
   obtain ⟨h1,h2,_⟩:=hi
   rw[κN] at h1 h2
   refine ⟨_,by simp[ψv.l0];rfl,c,?_⟩
   simp only at h1 h2 ⊢
   rw[h1,h2])
  (fun rec n s hn hi=>by
   obtain ⟨a,b,c⟩:=s
   obtain ⟨h1,h2,h3⟩:=hi
   simp only at h1 h2 h3
   have hIn:=hinv n (by omega)
   have hF:=hI n _ hIn
   obtain ⟨_,hne⟩:=hs n hn _ hIn
   rw[←h1] at hF hne hIn
   have e0:(n:Int)<(l.length:Int):=by omega
   have hw:=φM (show n+1<9223372036854775808 by omega)
   have h300:¬(n:Int)≥300:=by omega
   have hb:b.length=n:=by rw[h2,φE0,lT];omega
   have q1:decide ((b.length+(0+1)) * 48≤140737488355328)=true:=by simp;omega
   have q2:decide ((c.length+(0+1)) * 32≤140737488355328)=true:=by simp;omega
   have c1:((stE a l[n]).2.1==1)=false:=by simpa using hne
   have hsn:runE e (l.take (n+1))=((stE a l[n]).1,b++[(stE a l[n]).2]):=by
    rw[κ1 hn,φFF,←h1,←h2]
   have go:∀acks:List (Int×List PutT),acks.length≤n+1→∃s':EngT×List AnsT×List (Int×List PutT),(s'.1=(runE e (l.take (n+1))).1∧s'.2.1=(runE e (l.take (n+1))).2∧s'.2.2.length≤n+1) ∧
     rec ((((false,((0,[]),[],0,0,0),([],0,0,false),[]),[],[],[]),((stE a l[n]).1,b++[(stE a l[n]).2],acks,[]),l,(l.length:Int),((n+1:Nat):Int)):(EngT×φ3k)×(EngT×φ3k)×List φY×Int×Int) =
     rec ((((false,((0,[]),[],0,0,0),([],0,0,false),[]),[],[],[]),(s'.1,s'.2.1,s'.2.2,[]),l,(l.length:Int),((n+1:Nat):Int)):(EngT×φ3k)×(EngT×φ3k)×List φY×Int×Int):=fun acks ha=>
    ⟨((stE a l[n]).1,b++[(stE a l[n]).2],acks),⟨by rw[hsn],by rw[hsn],ha⟩,rfl⟩
   simp only[ψv.l0,e0,dT,cT,φF,hn,φJ,φ9 hn,h300,dF,cF,φ1m,φKt hF,φJ8 hF,bS,lC,lN,q1,q2,c1]
   cases ((stE a l[n]).2.1==0)
   ·simp only[cF,bS,hw]
    exact go c (by omega)
   ·simp only[cT]
    by_cases hp:((netO a l[n]).length:Int) > 0
    ·simp only[hp,dT,cT,bS,hw]
     exact go (c++[_]) (by rw[lA];simp;omega)
    ·simp only[hp,dF,cF,bS,hw]
     exact go c (by omega))
  (e,[],[]) ⟨by rw[List.take_zero];rfl,by rw[List.take_zero];rfl,by simp⟩ (by omega)
 obtain ⟨b,k,acks,hb⟩:=key
 unfold ψv.f
 rw[φLi h00.len h00.tx h00.sm,bS]
 have k:lp ψv.l0 ((((false,((0,[]),[],0,0,0),([],0,0,false),[]),[],[],[]),(e,[],[],[]),l,(l.length:Int),0):(EngT×φ3k)×(EngT×φ3k)×List φY×Int×Int)=some b:=k
 rw[k,bS]
 obtain ⟨b1,b2⟩:=b
 simp only at hb ⊢
 subst hb
 have:=hinv l.length (κ6 _)
 rw[κN] at this
 exact ⟨acks,rfl,this⟩
abbrev newE (n:Nat):EngT:=(true,((2,[1]),[],1,0,0),dNew n,zTx)
theorem φNQ (n:Nat) (h:n≤100000) (h8:8≤n):ψI.f (d0N n)=some (newE n,0):=by
 obtain ⟨y,hy,e⟩:=φDw n h
 rw[if_neg (by omega)] at e
 unfold ψI.f
 have hd:dl 1048577 (d0N n):=by
  have:=φ7f (n:Int) ⟨by omega,by omega⟩
  exact φ3Z (φ13 this) (by omega)
 rw[φEY _ hd,e]
 rfl
theorem φLs (n:Nat) (h:n≤100000) (h8:8≤n) (l:List φY):ψg.f ((n:Int),-1,l)=ψv.f (newE n) l:=by
 have hk:=φ7f (n:Int) ⟨by omega,by omega⟩
 have hlim:=φ1X (φ13 hk) (show 100001≤1000000000 by omega)
 have a1:decide ((0:Int)≤(n:Int)∧(n:Int)≤100000)=true:=by simp;omega
 have a2:decide ((-1:Int)≤-1∧(-1:Int)≤100000)=true:=by decide
 have e1:ψC.f (n:Int)=some (([],(n:Int),-1,false):φ1):=by
  unfold ψC.f
  simp only[φ1a,a1,bS,nZ,cF]
 have e2:ψ1I.f (([],(n:Int),-1,false):φ1) (-1)=some (([],(n:Int),-1,false):φ1):=by
  unfold ψ1I.f
  rw[φ5R _ (by simp),bS,φ5q _ hlim,bS,hk]
  simp only[cT,φ1a,a2,bS]
 unfold ψg.f
 simp only[φ1a,a1,a2,bS,nZ,cF,e1,e2]
 rw[show (([],(n:Int),-1,false):φ1)=d0N n from rfl,φNQ n h h8]
 simp only[bS,show ((0:Int) != 0)=false from rfl,cF]
 cases ψv.f (newE n) l<;>rfl
theorem φO8 {t:TxnT} (h:t.2.1.length≤20∧t.2.2.length≤50) (k:List UInt8) (b:Int):(φ2A t k b).1.2.1.length≤20∧(φ2A t k b).1.2.2.length≤50:=by
 unfold φ2A
 repeat' split
 all_goals first
  | exact h
  | (refine ⟨?_,h.2⟩;simp;omega)
theorem φKO (t:TxnT) (k:List UInt8) (b:Int):(φ2A t k b).2=0∨(φ2A t k b).2=4∨(φ2A t k b).2=5∨(φ2A t k b).2=7:=by
 unfold φ2A
 repeat' split
 all_goals simp
def cS (c:Int):Prop:=c=0∨c=4∨c=5∨c=7∨c=8
theorem φLX {look:List UInt8→φX×Int} (hk:∀k,(look k).2=0∨(look k).2=8) {l:List TxnT} (hl:TB l) {s:φY} (hf:φ27 l s=true):TB (getG look l s).1∧cS (getG look l s).2.1:=by
 obtain ⟨n,hn,h1,hin,hrd,hto,_,_,_⟩:=φ6Z hl.1 hf
 have ht:=hl.2 _ (gM hn)
 unfold getG
 simp only[hrd]
 cases φ1E s.2.2.1
 ·exact ⟨hl,.inr (.inl rfl)⟩
 simp only[nZ,cF]
 cases (ownW l[n].2.2 s.2.2.1).2
 ·simp only[cF]
  refine ⟨hl.set _ (φO8 ht _ _),?_⟩
  have hc:=φKO l[n] s.2.2.1 (look s.2.2.1).1.2.2
  generalize φ2A l[n] s.2.2.1 (look s.2.2.1).1.2.2=r at hc
  by_cases h0:r.2=0
  ·have:(r.2 != 0)=false:=by simpa using h0
   simp only[this,cF]
   rcases hk s.2.2.1 with e | e
   ·exact .inl e
   ·exact .inr (.inr (.inr (.inr e)))
  ·have:(r.2 != 0)=true:=by simpa using h0
   simp only[this,cT]
   show cS r.2
   unfold cS
   omega
 ·refine ⟨hl,?_⟩
  simp only[cT]
  unfold ownA
  cases (ownW l[n].2.2 s.2.2.1).1.2.1
  ·exact .inl rfl
  ·exact .inr (.inr (.inr (.inr rfl)))
theorem φNr {l:List TxnT} (hl:TB l) {s:φY} (hf:φ27 l s=true):TB (putG l s).1∧cS (putG l s).2.1:=by
 obtain ⟨n,hn,h1,hin,hrd,hto,_,_,_⟩:=φ6Z hl.1 hf
 have ht:=hl.2 _ (gM hn)
 unfold putG
 simp only[hrd]
 refine ⟨hl.set _ (φOD ht _),?_⟩
 cases φ1h (putS s)
 ·exact .inr (.inl rfl)
 ·cases (φ1r l[n] (putS s)).2
  ·exact .inr (.inr (.inl rfl))
  ·exact .inl rfl
theorem φNo {look:List UInt8→φX×Int} (hk:∀k,(look k).2=0∨(look k).2=8) (val:TxnT→Bool) {l:List TxnT} (hl:TB l) (s:φY):TB (sesG look val l s).1∧cS (sesG look val l s).2.1.1:=by
 have hz:TB (l.set s.2.1.toNat zT):=hl.set _ ⟨by simp,by simp⟩
 unfold sesG
 cases hf:φ27 l s
 ·exact ⟨hl,.inr (.inl rfl)⟩
 simp only[nZ,cF]
 cases (s.1==1)
 rotate_left
 ·exact ⟨hl.set _ ⟨by simp,by simp⟩,.inl rfl⟩
 cases (s.1==6)
 rotate_left
 ·exact ⟨hz,.inl rfl⟩
 cases (s.1==2)
 rotate_left
 ·exact φLX hk hl hf
 cases (s.1==5)
 rotate_left
 ·exact ⟨hz,.inr (.inr (.inr (.inl rfl)))⟩
 exact φNr hl hf
theorem EI.fit {e:EngT} (h:EI e):Fit e:=by
 obtain ⟨h1,h2⟩:=h.small
 exact ⟨h.tx.1,h.tx.2,h1,h2,fun hu k=>by
  rcases φDW (h.up hu).ok k with c | c
  ·rw[c];decide
  ·rw[c];decide⟩
theorem φNl {e:EngT} (h:EI e) (s:φY):EI (stE e s).1∧(stE e s).2.1≠1∧(stE e s).2.1≠3 ∧
  ((stE e s).2.1=2→(stE e s).1.1=e.1∧(e.1=true→φU (stE e s).1.2.1 (stE e s).1.2.2.1=φU e.2.1 e.2.2.1)):=by
 obtain ⟨hS,hdk⟩:=h.small
 unfold stE
 cases c10:(s.1==10)
 rotate_left
 ·simp only[cT]
  cases hu:e.1
  ·obtain ⟨s0,hs0⟩:=(h.dn hu).1
   obtain ⟨t,y,ho,hj,_⟩:=φI5 hs0
   simp only[cF,ho]
   exact ⟨⟨fun _=>hj,fun c=>by simp at c,TB.new⟩,by decide,by decide,fun c=>by simp at c⟩
  ·exact ⟨h,by show (4:Int)≠1;decide,by show (4:Int)≠3;decide,fun c=>absurd c (by show ¬(4:Int)=2;decide)⟩
 simp only[cF]
 cases c11:(s.1==11)
 rotate_left
 ·simp only[cT,hdk,tA]
  by_cases c:0≤s.2.2.2.2∧s.2.2.2.2≤100000 - (φK e.2.2.1.1:Int)
  ·simp only[c,and_self,dT,cT]
   exact ⟨⟨fun hu=>(h.up hu).cap (by omega) (by omega),fun hu=>⟨by obtain ⟨s0,hs0⟩:=(h.dn hu).1;exact ⟨s0,hs0.cap (by omega) (by omega)⟩,(h.dn hu).2⟩,h.tx⟩,by decide,by decide,fun c=>by simp at c⟩
  ·simp only[c,dF,cF]
   exact ⟨h,by decide,by decide,fun c=>by simp at c⟩
 simp only[cF]
 cases hu:e.1
 ·exact ⟨h,by show (6:Int)≠1;decide,by show (6:Int)≠3;decide,fun c=>absurd c (by show ¬(6:Int)=2;decide)⟩
 have hJ:=h.up hu
 simp only[nZ,cF]
 cases c7:(s.1==7)
 rotate_left
 ·obtain ⟨m1,m2⟩:=φCc hJ
  have hmc:=φIx hJ
  unfold C4 at hmc
  simp only[cT]
  exact ⟨⟨fun _=>m1,fun c=>by simp at c,h.tx⟩,by show (φ20 e.2.1 e.2.2.1).2.2≠1;omega,by show (φ20 e.2.1 e.2.2.1).2.2≠3;omega,fun _=>⟨trivial,fun _=>m2⟩⟩
 simp only[cF]
 cases c8:(s.1==8)
 rotate_left
 ·exact ⟨h,by show (0:Int)≠1;decide,by show (0:Int)≠3;decide,fun c=>absurd c (by show ¬(0:Int)=2;decide)⟩
 simp only[cF]
 cases c9:(s.1==9)
 rotate_left
 ·exact ⟨⟨fun c=>by simp at c,fun _=>⟨⟨_,hJ⟩,by simp,by simp⟩,TB.new⟩,by show (0:Int)≠1;decide,by show (0:Int)≠3;decide,fun c=>absurd c (by show ¬(0:Int)=2;decide)⟩
 simp only[cF]
 unfold sesE
 obtain ⟨g1,g2⟩:=φNo (look:=getP e.2.1 e.2.2.1) (fun k=>by
  rcases φDW hJ.ok k with c | c
  ·exact .inl c
  ·rw[c];exact .inr rfl) (fun t=>φ36 t e.2.1.2.1) h.tx s
 generalize sesG (getP e.2.1 e.2.2.1) (fun t=>φ36 t e.2.1.2.1) e.2.2.2 s=g at g1 g2
 obtain ⟨l,a,w⟩:=g
 unfold cS at g2
 simp only at g1 g2
 unfold comE
 cases w with
 | none=>
  simp only
  exact ⟨h.same g1,by omega,by omega,fun c=>by omega⟩
 | some w=>
  obtain ⟨k1,k2,k3,k4⟩:=φIK hJ w
  have kc:=φIY hJ w
  unfold C4 at kc
  simp only
  exact ⟨h.store hu k1 g1,by omega,by omega,fun c=>⟨hu,fun _=>k4 (by omega)⟩⟩
noncomputable def mapE (e:EngT):List φX×Int:=bif !e.1 then ([],6) else φU e.2.1 e.2.2.1
theorem φM2 {e:EngT} (h:SmallS e.2.1 e.2.2.1):ψH.f e=some (mapE e):=by
 obtain ⟨k1,k2⟩:=h.lim
 have k3:=h.dir
 unfold ψH.f mapE
 cases e.1
 ·rfl
 ·simp only[nZ,cF,φHR e.2.1 e.2.2.1 k1 k2 (by omega),bS]
theorem φMw {d:φ1} {a b:List UInt8} (h:(φ2Z a b d).2=0) (hab:a≠b):(φ2 (φ2Z a b d).1 a).2=false:=by
 obtain ⟨k,ha,hx⟩:=φ5v h
 have hx:(φ2Z a b d).1=_:=hx
 unfold φ2L at ha hx
 split at ha
 ·simp at ha
 rename_i c
 rw[if_neg c] at hx
 rcases φw d.1 a with ⟨e,_⟩ | ⟨i,hi,e,hn⟩
 ·rw[φ1C e] at ha;simp at ha
 rw[φ17 e] at hx
 simp only at hx
 rw[if_neg hab] at hx
 have hp:=(φ5b k)
 refine φBN fun f hf=>?_
 rw[hx] at hf
 have hf:f∈insB (φ1Y (φc d.1 i) b) (b,(d.1.getD i ([],[],0)).2):=hf
 rw[φ3b] at hf
 rcases hf with rfl | hf
 ·exact fun e=>hab e.symm
 ·intro ef
  have hfr:f∈φc d.1 i:=by
   unfold φ1Y at hf
   split at hf
   ·rcases mA.1 hf with k | k
    ·exact κe k
    ·exact List.mem_of_mem_drop k
   ·exact hf
  rw[φCn hp hi hn] at hfr
  have:=(List.mem_filter.1 hfr).2
  simp[ef] at this
theorem φDa {v:φQ} {w:φE} (h:(sPut v w).2=0):(φ2 (sPut v w).1 φ1G).2=false:=by
 unfold sPut at h ⊢
 obtain ⟨h1,h2,h3⟩:=φ46 h
 rw[h3]
 exact φMw h2 (by decide)
structure PB (k N:Nat) (s:φ8) (d:φ1):Prop where
 cap:d.2=(100000,-1,false)
 nm:∀n,(φ2 d n).2=true→n=φb∨(∃id∈s.1.2,n=φ0 id)∨n=φL (s.1.2.headD 0)
 sz:∀n,(φ2 d n).1.length≤1500
 pot:130 * (s.1.2.length:Int)+s.2.2.2.1≤260+71 * k
 act:s.2.2.2.1≤200
 nx:s.1.1≤2+k+2 * N
theorem PB.same {k N:Nat} {s s':φ8} {d:φ1} (h:PB k N s d) (h1:s'.1=s.1) (h2:s'.2.2.2.1=s.2.2.2.1):PB k N s' d:=
 ⟨h.cap,by rw[h1];exact h.nm,h.sz,by rw[h1,h2];exact h.pot,by rw[h2];exact h.act,by rw[h1];exact h.nx⟩
theorem PB.up {k N k' N':Nat} {s:φ8} {d:φ1} (h:PB k N s d) (h1:k≤k') (h2:N≤N'):PB k' N' s d:=
 ⟨h.cap,h.nm,h.sz,by have:=h.pot;omega,h.act,by have:=h.nx;omega⟩
theorem φOI {l:List φ6} {z:Nat} (h:∀f∈l,f.2.1.length≤z):φK l≤z * l.length:=by
 unfold φK
 induction l with
 | nil=>simp[sumN]
 | cons f l ih=>
  have h1:=h f (by simp)
  have h2:=ih fun g hg=>h g (by simp[hg])
  simp only[sumN,lC]
  rw[Nat.mul_add]
  omega
theorem PB.room {k N:Nat} {s:φ8} {d:φ1} (h:PB k N s d) (hs:φh s d=true) {K:Nat} (hk:k≤K):Room 100000 (1500 * ((260+71 * K) / 130+2)) ((260+71 * K) / 130+2) d∧s.1.2.length≤(260+71 * K) / 130:=by
 obtain ⟨q1,q2,q3,q4,q5,q6⟩:=φi.1 hs
 have hp:=φ5b q1
 have h0:=(φ8Q hs).s0
 have hpot:=h.pot
 have hL:s.1.2.length≤(260+71 * K) / 130:=by
  rw[Nat.le_div_iff_mul_le (by omega)]
  omega
 have hfl:d.1.length≤s.1.2.length+2:=by
  have hnd:(d.1.map (·.1)).Nodup:=φIf (l:=d.1) hp
  have:=φIr (A:=d.1.map (·.1)) (B:=φb::φL (s.1.2.headD 0)::s.1.2.map φ0) hnd fun n hn=>by
   obtain ⟨f,hf,rfl⟩:=mM.1 hn
   rcases h.nm f.1 (by rw[φ2l q1 hf]) with e | ⟨id,hid,e⟩ | e
   ·rw[e];simp
   ·rw[e]
    exact mC _ (mC _ (mM.2 ⟨id,hid,rfl⟩))
   ·rw[e];simp
  simpa using this
 have hus:φK d.1≤1500 * d.1.length:=φOI fun f hf=>by
  have:=h.sz f.1
  rw[φ2l q1 hf] at this
  exact this
 refine ⟨⟨q1,h.cap,?_,by omega⟩,hL⟩
 exact κf hus (Nat.mul_le_mul_left _ (by omega))
theorem φ6j {d:φ1} {n:List UInt8} (h:(φ2 d n).2=false):φ2 d n=([],false):=by
 unfold φ2 at h ⊢
 split
 ·rfl
 ·rename_i c
  rw[if_neg c] at h
  cases hf:d.1.findIdx? (fun f=>f.1==n) with
  | none=>rfl
  | some i=>rw[hf] at h;simp at h
theorem φNG {s:φ8} {d:φ1} (hc:(rotP s d).2.2=0):(φ2 (rotP s d).2.1 φ1G).2=false:=by
 unfold rotP at hc ⊢
 split
 ·rename_i c;rw[if_pos c] at hc;simp at hc
 rename_i c0
 rw[if_neg c0] at hc
 split
 ·rename_i c;rw[if_pos c] at hc;exact absurd ((φ1B _).1 hc) c
 rename_i c1
 rw[if_neg c1] at hc
 simp only at hc ⊢
 split
 ·rename_i c;rw[if_pos c] at hc;exact absurd ((φ1B _).1 hc) c
 rename_i c2
 rw[if_neg c2] at hc
 split
 ·rename_i c
  rw[if_pos c] at hc
  exfalso
  revert hc
  unfold φ1d
  split
  ·split
   ·simp
   ·rename_i c3;exact c3
  ·exact c
 ·rename_i c
  have c:(sPut (s.1.1+1,s.1.2++[s.1.1]) ((φA (φW (φ0 s.1.1)) (φD (φ0 s.1.1) (φH (actN s) d).1)).1,0)).2=0:=(φ1B _).1 (Decidable.not_not.1 c)
  exact φDa c
theorem φJk {k N:Nat} {s:φ8} {d:φ1} (h:JB s d) (p:PB k N s d) (t:List UInt8) (ht:t.length≤71) (hk:k≤98) (hN:N≤1000) :
  (addR s d t).2.2=0∧(addR s d t).2.1.2=(100000,-1,false) ∧
  (∀n,(φ2 (addR s d t).2.1 n).2=true→n=φb∨(∃id∈(addR s d t).1.1.2,n=φ0 id)∨n=φL ((addR s d t).1.1.2.headD 0)) ∧
  (∀n,(φ2 (addR s d t).2.1 n).1.length≤1500)∧130 * ((addR s d t).1.1.2.length:Int)+(addR s d t).1.2.2.2.1≤260+71 * k ∧
  (addR s d t).1.2.2.2.1+(t.length:Int)≤200∧(addR s d t).1.1.1≤3+k+2 * N:=by
 obtain ⟨q1,q2,q3,q4,q5,q6⟩:=φi.1 h.ok
 have h0:=(φ8Q h.ok).s0
 have hpot:=p.pot
 have hact:=p.act
 have hnx:=p.nx
 unfold addR
 by_cases c:s.2.2.2.1 > 0∧s.2.2.2.1+(t.length:Int) > 200
 rotate_left
 ·rw[if_neg c]
  exact ⟨rfl,p.cap,p.nm,p.sz,hpot,by show s.2.2.2.1+(t.length:Int)≤200;omega,by show s.1.1≤_;omega⟩
 rw[if_pos c]
 obtain ⟨R,hL⟩:=p.room h.ok hk
 have R:Room 100000 85500 57 d:=R.mono (by decide) (by decide)
 have hL:s.1.2.length≤55:=κf hL (by decide)
 have hn:=((φ14 _).1 q2).2.1
 obtain ⟨r1,r2⟩:=φF2 R (φCX h.ok) (by omega) ⟨hn.1,by omega⟩ (by omega) (by omega)
 obtain ⟨e1,e2,e3,e4⟩:=φ7q q1 r2
 have hlv:=φDM q1 r2
 have htm:=φNG r2
 have hot:∀n,n≠φ0 s.1.1→n≠φ1G→n≠φb→φ2 (rotP s d).2.1 n=φ2 d n:=by
  rcases φ9I (s:=s) q1 with ⟨k1,_⟩ | ⟨_,_,k2⟩
  ·rw[e1] at k1
   simp only at k1
   omega
  ·exact k2
 have hne:=φ3L q2
 have hhd:(s.1.2++[s.1.1]).headD 0=s.1.2.headD 0:=by
  cases hs:s.1.2 with
  | nil=>exact absurd hs hne
  | cons a l=>rfl
 refine ⟨r2,r1.tl,fun n hnn=>?_,fun n=>?_,?_,?_,?_⟩
 ·rw[e1]
  show n=φb∨(∃id∈s.1.2++[s.1.1],n=φ0 id)∨n=φL ((s.1.2++[s.1.1]).headD 0)
  rw[hhd]
  by_cases a1:n=φ0 s.1.1
  ·exact .inr (.inl ⟨s.1.1,by simp,a1⟩)
  by_cases a2:n=φ1G
  ·rw[a2,htm] at hnn;simp at hnn
  by_cases a3:n=φb
  ·exact .inl a3
  rw[hot n a1 a2 a3] at hnn
  rcases p.nm n hnn with e | ⟨id,hid,e⟩ | e
  ·exact .inl e
  ·exact .inr (.inl ⟨id,mL _ hid,e⟩)
  ·exact .inr (.inr e)
 ·by_cases a1:n=φ0 s.1.1
  ·rw[a1,e2];simp
  by_cases a2:n=φ1G
  ·rw[a2,φ6j htm];simp
  by_cases a3:n=φb
  ·rw[a3,hlv]
   have:=φ5Q (s.1.1+1,s.1.2++[s.1.1])
   show (φn _).length≤1500
   omega
  rw[hot n a1 a2 a3]
  exact p.sz n
 ·rw[e1]
  show 130 * ((s.1.2++[s.1.1]).length:Int)+0≤_
  simp only[lA,lC,lN]
  omega
 ·rw[e1]
  show (0:Int)+(t.length:Int)≤200
  omega
 ·rw[e1]
  show s.1.1+1≤_
  omega
theorem φMd {k N:Nat} {s:φ8} {d:φ1} {r:RecT} (h:JB s d) (p:PB k N s d) (hr:φa r=true) (hk:k≤98) (hN:N≤1000):(addP s d r).2.2.1=0∧PB (k+1) N (addP s d r).1 (addP s d r).2.1:=by
 obtain ⟨q1,q2,q3,q4,q5,q6⟩:=φi.1 h.ok
 obtain ⟨R,hL⟩:=p.room h.ok hk
 have R:Room 100000 85500 57 d:=R.mono (by decide) (by decide)
 have hL:s.1.2.length≤55:=κf hL (by decide)
 have hnx:=p.nx
 obtain ⟨a1,a2,a3,a4⟩:=φON (r:=r) R h.ok h.lt (by omega) (by omega) (by omega) (by omega)
 obtain ⟨f1,f2⟩:=φ4Z r
 obtain ⟨b1,b2,b3,b4,b5,b6,b7⟩:=φJk h p (fr r) f2 hk hN
 have hgrow:JB (addR s d (fr r)).1 (addR s d (fr r)).2.1:=by
  unfold addR
  split
  ·exact (φBC h).jb
  ·exact h
 refine ⟨a2,?_⟩
 have hcap:=a1.tl
 unfold addP at a2 hcap ⊢
 rw[show frame (φ7 r)=fr r from rfl] at *
 generalize addR s d (fr r)=S at *
 simp only at a2 hcap ⊢
 rw[if_neg (by rw[b1];simp)] at a2 hcap ⊢
 by_cases c2:(φN (actN S.1) (fr r) S.2.1).2=0
 rotate_left
 ·rw[if_pos c2] at a2
  exact absurd ((φ1B _).1 a2) c2
 rw[if_neg (by simpa using c2)] at hcap ⊢
 obtain ⟨d1,d2,d3,d4,d5,d6⟩:=φi.1 hgrow.ok
 obtain ⟨t1,t2⟩:=φ4D c2
 have hsz:=((φ1y _).1 d5).2 (φ3L d2)
 refine ⟨hcap,fun n hn=>?_,fun n=>?_,?_,?_,?_⟩
 ·by_cases e:n=actN S.1
  ·exact .inr (.inl ⟨φO S.1.1.2,φ2u (φ3L d2),e⟩)
  ·rw[φ5V d1 e] at hn
   exact b3 n hn
 ·by_cases e:n=actN S.1
  ·rw[e,t2]
   show ((φ2 S.2.1 (actN S.1)).1++fr r).length≤1500
   rw[lA]
   have:S.1.2.2.2.1=((φ2 S.2.1 (actN S.1)).1.length:Int):=hsz
   omega
  ·rw[φ5V d1 e]
   exact b4 n
 ·show 130 * (S.1.1.2.length:Int)+(S.1.2.2.2.1+((fr r).length:Int))≤260+71 * ((k+1:Nat):Int)
  omega
 ·show S.1.2.2.2.1+((fr r).length:Int)≤200
  omega
 ·show S.1.1.1≤2+((k+1:Nat):Int)+2 * N
  omega
theorem φEo:∀(rs:List RecT) (k N:Nat) (s:φ8) (d:φ1),JB s d→PB k N s d→(∀r∈rs,φa r=true)→k+rs.length≤99→N≤1000→(φe rs s d).2.2.1=0∧PB (k+rs.length) N (φe rs s d).1 (φe rs s d).2.1
 | [],k,N,s,d,_,p,_,_,_=>⟨rfl,p⟩
 | r::rs,k,N,s,d,h,p,hr,hk,hN=>by
  simp only[lC] at hk
  obtain ⟨a1,a2⟩:=φMd h p (hr r κ0) (by omega) hN
  obtain ⟨q,hq,_⟩:=(φBj h (hr r κ0)).1 a1
  obtain ⟨b1,b2⟩:=φEo rs (k+1) N _ _ hq.jb a2 (fun x hx=>hr x (mC _ hx)) (by omega) hN
  unfold φe
  rw[if_neg (by rw[a1];simp)]
  refine ⟨b1,?_⟩
  rw[show k+(r::rs).length=k+1+rs.length by simp only[lC];omega]
  exact b2
structure PR (k N:Nat) (s:φ8) (d:φ1):Prop extends JR s d where
 bk:PB k N s d
 ex:s.2.2.1=1∨∃p∈φR d s.1.2,p.2.2.2.2.1=s.2.2.1 - 1
theorem PR.up {k N k' N':Nat} {s:φ8} {d:φ1} (h:PR k N s d) (h1:k≤k') (h2:N≤N'):PR k' N' s d:=⟨h.toJR,h.bk.up h1 h2,h.ex⟩
theorem φIU {k N:Nat} {s:φ8} {d:φ1} (h:PR k N s d) {l:List PutT} (hp:φ1k l=true) (hb:s.2.2.1≤1000000) (hkk:φ2p s.2.1 l≤20) (hk:k+(l.length+1)≤99) (hN:N≤1000) :
  (φ1N s d l).2.2=0∧PR (k+(l.length+1)) N (φ1N s d l).1 (φ1N s d l).2.1∧(φ1N s d l).1.2.2.1=s.2.2.1+1:=by
 obtain ⟨q1,q2,q3,q4,q5,q6⟩:=φi.1 h.ok
 have hrec:=φ6v (b:=s.2.2.1) (l:=l) ⟨q4.1,hb⟩ hp
 have hJ1:=h.toJB.bump hb
 obtain ⟨P,g1,g2,g3,g4,g5⟩:=φ7p (φ1q s.2.2.1 l) _ _ hJ1 hrec
 have hrl:=φ8m s.2.2.1 l
 obtain ⟨c1,c2⟩:=φEo (φ1q s.2.2.1 l) k N (s.1,s.2.1,s.2.2.1+1,s.2.2.2) d hJ1 (h.bk.same rfl rfl) hrec (by omega) hN
 rw[hrl] at c2
 have hj:=φI6 h.toJR hp hb hkk
 have hright:=φBe h.ok h.lt hp hb hkk
 unfold φ1N at hj hright ⊢
 generalize hG:φe (φ1q s.2.2.1 l) (s.1,s.2.1,s.2.2.1+1,s.2.2.2) d=g at *
 simp only at hj hright ⊢
 rw[if_neg (by rw[c1];simp)] at hj hright ⊢
 obtain ⟨b1,b2,b3,b4,b5,b6⟩:=φi.1 g1.jb.ok
 have hex:(φ2 g.2.1 (actN g.1)).2=true:=(((φ1y _).1 b5).1 _ (φ2u (φ3L b2))).1
 have hs0:(φH (actN g.1) g.2.1).2=0:=φ6p b1 g1.jb.fre hex
 rw[if_neg (by rw[hs0];simp)] at hj hright ⊢
 obtain ⟨r1,r2,r3,r4,r5⟩:=hright rfl
 have hpl2:φR (φH (actN g.1) g.2.1).1 g.1.1.2=φR d s.1.2++P:=by
  rw[φ5T (d:=g.2.1) fun id _=>φ2R b1 _ _]
  exact g1.pl
 have hcap:(φH (actN g.1) g.2.1).1.2=(100000,-1,false):=by
  have:=φ4G (act:=φ28 (actN g.1)) b1 g1.jb.fre
  show (φT g.2.1 (φ28 (actN g.1))).1.2=_
  rw[this]
  exact c2.cap
 refine ⟨rfl,⟨hj,?_,?_⟩,r4⟩
 ·exact ⟨hcap,fun n hn=>by rw[φ2R b1] at hn;exact c2.nm n hn,fun n=>by rw[φ2R b1];exact c2.sz n,c2.pot,c2.act,c2.nx⟩
 ·right
  obtain ⟨x1,x2⟩:=g4 c1
  cases hP:P with
  | nil=>rw[hP] at x1;simp at x1;omega
  | cons p P'=>
   refine ⟨p,?_,?_⟩
   ·show p∈φR (φH (actN g.1) g.2.1).1 g.1.1.2
    rw[hpl2,hP]
    exact mR _ κ0
   ·have hm:p.2.2.2∈P.map (·.2.2.2):=mM.2 ⟨p,by rw[hP];exact κ0,rfl⟩
    rw[g2] at hm
    have hm:=κe hm
    have hb2:p.2.2.2.2.1=s.2.2.1:=by
     unfold φ1q at hm
     rcases mA.1 hm with k1 | k1
     ·obtain ⟨q,_,e⟩:=mM.1 k1
      have:=(φFA s.2.2.1 q).2
      rw[e] at this
      exact this
     ·rw[mZ.1 k1]
    have r4:g.1.2.2.1=s.2.2.1+1:=r4
    show p.2.2.2.2.1=g.1.2.2.1 - 1
    rw[hb2,r4];omega
theorem φAO {c u f:Nat} {d:φ1} (h:Room c u f d) {n:List UInt8} (ho:φ1n n=true) (hf:f<130):Room c u (f+1) (sNew n (d,0)).1∧(sNew n (d,0)).2=0∧(φ2 (sNew n (d,0)).1 n).2=true:=by
 unfold sNew
 rw[φ3x]
 obtain ⟨g1,g2,g3⟩:=φCD h n
 generalize φD n d=w at *
 obtain ⟨d1,c1⟩:=w
 simp only at g1 g2 g3
 subst g2
 rw[φ3x]
 obtain ⟨k1,k2⟩:=φAI g1 g3 ho hf
 exact ⟨k1,k2,by rw[φ8W k2]⟩
theorem φGR {c f:Nat} {n:List UInt8}:∀(recs:List RecT) (u:Nat) (d:φ1),Room c u f d→(φ2 d n).2=true→u+71 * recs.length≤c →
  Room c (u+71 * recs.length) f (sApp n recs (d,0)).1∧(sApp n recs (d,0)).2=0∧(φ2 (sApp n recs (d,0)).1 n).2=true
 | [],u,d,h,hn,_=>⟨h,rfl,hn⟩
 | r::rs,u,d,h,hn,hu=>by
  simp only[lC] at hu
  have hf:=(φ4Z r).2
  obtain ⟨k1,k2⟩:=φ8M (t:=fr r) h hn (by omega)
  have k3:=(φ4D k2).2
  have e:sApp n (r::rs) (d,0)=sApp n rs (φN n (fr r) d):=by
   show sApp n rs (φA (φN n (frame (φ7 r))) (d,0))=_
   rw[φ3x];rfl
  rw[e]
  generalize φN n (fr r) d=w at *
  obtain ⟨d1,c1⟩:=w
  simp only at k1 k2 k3
  subst k2
  obtain ⟨m1,m2,m3⟩:=φGR rs (u+71) d1 (k1.mono (by omega) (κ6 _)) (by rw[k3]) (by omega)
  exact ⟨m1.mono (by simp only[lC];omega) (κ6 _),m2,m3⟩
theorem φGg {c u f:Nat} {w:φE} (h:Room c u f w.1) (h0:w.2=0) {n:List UInt8} (hn:(φ2 w.1 n).2=true):Room c u f (φA (φH n) w).1∧(φA (φH n) w).2=0:=by
 obtain ⟨d,x⟩:=w
 simp only at h h0 hn
 subst h0
 rw[φ3x]
 exact φC7 h hn
theorem φNb {c u f:Nat} {d:φ1} (h:Room c u f d) {n t:List UInt8} (ho:φ1n n=true) (hf:f<130) (hu:u+t.length≤c):Room c (u+t.length) (f+1) (φ1O n t (d,0)).1∧(φ1O n t (d,0)).2=0:=by
 obtain ⟨a1,a2,a3⟩:=φAO h ho hf
 show Room c (u+t.length) (f+1) (φA (φH n) (φA (φN n t) (sNew n (d,0)))).1∧(φA (φH n) (φA (φN n t) (sNew n (d,0)))).2=0
 generalize sNew n (d,0)=w at *
 obtain ⟨d1,x⟩:=w
 simp only at a1 a2 a3
 subst a2
 rw[φ3x]
 obtain ⟨k1,k2⟩:=φ8M (t:=t) a1 a3 hu
 have k3:=(φ4D k2).2
 exact φGg k1 k2 (by rw[k3])
theorem φDm {x:Int×Int×Bool} (hx:x.2=(-1,false)) {d:φ1} {act:List φ6→Int×List φ6} (h:d.2=x):(φT d act).1.2=x:=by
 unfold φT
 split
 ·exact h
 ·split
  ·rename_i c
   rw[h,hx] at c
   simp at c
  ·show (tick d).2=x
   unfold tick
   rw[if_neg (by rw[h,hx];decide)]
   exact h
theorem φNB {c u f:Nat} {s:φ8} {d:φ1} {l:List φX} (h:Room c u f d) (hv:φm s.1=true) (h2:s.1.1+2≤100000) (hl:l.length≤20) (hu:u+2800≤c) (hf:f+5≤130) :
  (φ15 s d l).2.2=0∧(φ15 s d l).2.1.2=((c:Int),-1,false):=by
 have hm:=((φ14 _).1 hv).2.1
 have ho1:=φ5a (id:=s.1.1) ⟨hm.1,by omega⟩
 have ho2:=φ5a (id:=s.1.1+1) ⟨by omega,by omega⟩
 have ho3:=φI9 (id:=s.1.1) ⟨hm.1,by omega⟩
 have hkl:=φ80 l (s.2.2.1 - 1)
 -- the merged segment
 have w0:Room c (u+71 * 21) (f+1) (sWM s.1.1 (φZ l (s.2.2.1 - 1)) (d,0)).1∧(sWM s.1.1 (φZ l (s.2.2.1 - 1)) (d,0)).2=0:=by
  unfold sWM
  obtain ⟨a1,a2,a3⟩:=φAO h ho1 (by omega)
  generalize sNew (φ0 s.1.1) (d,0)=w at *
  obtain ⟨d1,x⟩:=w
  simp only at a1 a2 a3
  subst a2
  obtain ⟨b1,b2,b3⟩:=φGR (n:=φ0 s.1.1) (φZ l (s.2.2.1 - 1)) u d1 a1 a3 (by omega)
  obtain ⟨k1,k2⟩:=φGg b1 b2 b3
  exact ⟨k1.mono (by omega) (κ6 _),k2⟩
 unfold φ15
 simp only
 generalize hW0:sWM s.1.1 (φZ l (s.2.2.1 - 1)) (d,0)=W0 at *
 obtain ⟨d0,x0⟩:=W0
 obtain ⟨r0,e0⟩:=w0
 simp only at r0 e0
 subst e0
 obtain ⟨r1,e1,_⟩:=φAO r0 ho2 (by omega)
 generalize sNew (φ0 (s.1.1+1)) (d0,0)=W1 at *
 obtain ⟨d1,x1⟩:=W1
 simp only at r1 e1
 subst e1
 -- the hint
 have w2:Room c (u+71 * 21+1004) (f+3) (φr s.1.1 (d1,0)).1∧(φr s.1.1 (d1,0)).2=0:=by
  unfold φr
  rw[if_neg (by simp)]
  unfold φ1u
  simp only
  have hh:=φ9X (φ16 s.1.1 (φ2 d1 (φ0 s.1.1)).1).1
  obtain ⟨k1,k2⟩:=φNb (t:=φ1U (φ16 s.1.1 (φ2 d1 (φ0 s.1.1)).1).1) r1 ho3 (by omega) (by omega)
  rw[if_neg (by rw[k2];decide)]
  exact ⟨k1.mono (by omega) (by omega),k2⟩
 generalize φr s.1.1 (d1,0)=W2 at *
 obtain ⟨d2,x2⟩:=W2
 obtain ⟨r2,e2⟩:=w2
 simp only at r2 e2
 subst e2
 obtain ⟨r3,e3⟩:=φCm r2 (s.1.1+2,[s.1.1,s.1.1+1]) (by omega) (by omega)
 have et:(φB (sPut (s.1.1+2,[s.1.1,s.1.1+1]) (d2,0))).2=0:=(φ1B _).2 e3
 have hF:Free (sPut (s.1.1+2,[s.1.1,s.1.1+1]) (d2,0)).1:=by
  unfold Free
  rw[r3.tl]
 rw[if_pos rfl,if_neg (by rw[et];simp)]
 have hs0:=φ7b s.1.2 (w:=((sPut (s.1.1+2,[s.1.1,s.1.1+1]) (d2,0)).1,0)) r3.dk hF rfl
 exact ⟨(φ1B _).2 hs0,φAb (P:=fun d=>d.2=((c:Int),-1,false)) (fun d act k=>φDm rfl k) s.1.2 (w:=((sPut (s.1.1+2,[s.1.1,s.1.1+1]) (d2,0)).1,0)) r3.tl⟩
theorem φFs:∀rs:List RecT,(txt rs).length≤71 * rs.length
 | []=>by simp[txt]
 | r::rs=>by
  rw[φ3P,lA,lC]
  have:=(φ4Z r).2
  have:=φFs rs
  omega
theorem φNn {l:List Int} (h:l≠[]):l.headD 0∈l:=by
 cases l with
 | nil=>exact absurd rfl h
 | cons a l=>simp
theorem φNs {k N:Nat} {s:φ8} {d:φ1} (h:PR k N s d) (hk:k≤98) (hN:N≤1000) :
  (φ20 s d).2.2=0∧PR k (N+1) (φ20 s d).1 (φ20 s d).2.1∧φU (φ20 s d).1 (φ20 s d).2.1=φU s d∧(φ20 s d).1.2.2.1=s.2.2.1:=by
 obtain ⟨q1,q2,q3,q4,q5,q6⟩:=φi.1 h.ok
 have hnx:=h.bk.nx
 have h2:s.1.1+2≤100000:=by omega
 have hdl:=(φ3v q3).1
 have hdp:=φ94 s d
 obtain ⟨R,hL⟩:=h.bk.room h.ok hk
 have R:Room 100000 85500 57 d:=R.mono (by decide) (by decide)
 obtain ⟨hc,hcap⟩:=φNB (l:=(φU s d).1) R q2 h2 (by omega) (by omega) (by omega)
 have hm:=((φ14 _).1 q2).2.1
 have hF:φ20 s d=φ15 s d (φU s d).1:=by
  unfold φ20
  rw[if_neg (by rw[h.ok];simp),if_neg (by omega)]
 have hJ:=(φCc h.toJR)
 rw[hF] at hJ ⊢
 have hM:=φGr (φU s d).1 q1 q2 h2 hc
 obtain ⟨hm1,hm2,hm3,hm4⟩:=φ9B h.ok h2 hM.toMerged
 obtain ⟨kk,ok⟩:=φFl h.ok h2 hM.toMerged
 have hne:=φ3L q2
 -- what was exchanged is gone
 have htmp:(φ2 (φ15 s d (φU s d).1).2.1 φ1G).2=false:=by
  obtain ⟨w1,w2,a1,a2,a3,a4,a5,a6,a7,a8⟩:=φFP (φU s d).1 q1 hc
  rw[a8]
  have hd:=φ3i a6 (s.1.1+2,[s.1.1,s.1.1+1])
  have hF2:Free (sPut (s.1.1+2,[s.1.1,s.1.1+1]) w2).1:=by
   have:((sPut (s.1.1+2,[s.1.1,s.1.1+1]) w2).1).2=((100000:Int),-1,false):=by
    have c0:∀(d:φ1) (act:List φ6→Int×List φ6),d.2=((100000:Int),-1,false)→(φT d act).1.2=((100000:Int),-1,false):=fun d act k=>φDm rfl k
    have c1:w1.1.2=((100000:Int),-1,false):=by
     rw[a1]
     exact φ7H (P:=fun d=>d.2=((100000:Int),-1,false)) c0 _ (φ98 (P:=fun d=>d.2=((100000:Int),-1,false)) c0 _ _ (w:=(d,0)) h.bk.cap)
    have c2:w2.1.2=((100000:Int),-1,false):=by
     rw[a4]
     exact φ9P (P:=fun d=>d.2=((100000:Int),-1,false)) c0 _ c1
    exact φ7l (P:=fun d=>d.2=((100000:Int),-1,false)) c0 _ c2
   unfold Free
   rw[this]
  have h0:=φ7b s.1.2 (w:=((sPut (s.1.1+2,[s.1.1,s.1.1+1]) w2).1,0)) hd hF2 rfl
  exact (φA3 s.1.2 (w:=((sPut (s.1.1+2,[s.1.1,s.1.1+1]) w2).1,0)) hd h0).2.1 _ (φDa a7)
 generalize φ15 s d (φU s d).1=M at *
 obtain ⟨S,y,c⟩:=M
 simp only at hc hcap hJ hM hm1 hm2 hm3 hm4 kk ok htmp ⊢
 have hst:=hM.st
 have hI:S.1.2=[s.1.1,s.1.1+1]:=by rw[hst]
 have hB:S.2.2.1=s.2.2.1:=by rw[hst]
 have hNx:S.1.1=s.1.1+2:=by rw[hst]
 have hSz:S.2.2.2.1=0:=by rw[hst]
 have hone:=hM.one
 have htwo:=hM.two
 have hliv:=hM.liv
 have hpl:φR y S.1.2=(scan (txt (φZ (φU s d).1 (s.2.2.1 - 1)))).1.map fun x=>((s.1.1,x):φG):=by
  rw[hI]
  unfold φR φ12
  simp[hone,htwo,φ7S]
 -- any name
 have names:∀n,n=φ0 s.1.1∨n=φ0 (s.1.1+1)∨n=φL s.1.1∨n=φ1G∨n=φb∨(φ2 y n).2=false∨(φ2 y n=φ2 d n∧(φ2 d n).2=false):=by
  intro n
  by_cases a1:n=φ0 s.1.1
  ·exact .inl a1
  by_cases a2:n=φ0 (s.1.1+1)
  ·exact .inr (.inl a2)
  by_cases a3:n=φL s.1.1
  ·exact .inr (.inr (.inl a3))
  by_cases a4:n=φ1G
  ·exact .inr (.inr (.inr (.inl a4)))
  by_cases a5:n=φb
  ·exact .inr (.inr (.inr (.inr (.inl a5))))
  by_cases a6:∃id∈s.1.2,n=φ0 id∨n=φL id
  ·obtain ⟨id,hid,e⟩:=a6
   have:=hM.old id hid
   right;right;right;right;right;left
   rcases e with rfl | rfl
   ·exact this.1
   ·exact this.2
  ·have hs:=hM.oth n a1 a2 a3 a4 a5 fun id hid=>⟨fun e=>a6 ⟨id,hid,.inl e⟩,fun e=>a6 ⟨id,hid,.inr e⟩⟩
   right;right;right;right;right;right
   refine ⟨hs,?_⟩
   cases hx:(φ2 d n).2 with
   | false=>rfl
   | true=>
    exfalso
    rcases h.bk.nm n hx with e | ⟨id,hid,e⟩ | e
    ·exact a5 e
    ·exact a6 ⟨id,hid,.inl e⟩
    ·exact a6 ⟨_,φNn hne,.inr e⟩
 have hkl:=φ80 (φU s d).1 (s.2.2.1 - 1)
 have htl:=φFs (φZ (φU s d).1 (s.2.2.1 - 1))
 refine ⟨hc,⟨hJ.1,⟨hcap,fun n hn=>?_,fun n=>?_,?_,?_,?_⟩,?_⟩,hm2,hB⟩
 ·rw[hI]
  rcases names n with e | e | e | e | e | e | ⟨e,e2⟩
  ·exact .inr (.inl ⟨s.1.1,by simp,e⟩)
  ·exact .inr (.inl ⟨s.1.1+1,by simp,e⟩)
  ·exact .inr (.inr e)
  ·rw[e,htmp] at hn;simp at hn
  ·exact .inl e
  ·rw[e] at hn;simp at hn
  ·rw[e,e2] at hn;simp at hn
 ·rcases names n with e | e | e | e | e | e | ⟨e,e2⟩
  ·rw[e,hone]
   show (txt _).length≤1500
   omega
  ·rw[e,htwo];simp
  ·rw[e]
   rcases hM.hin with x | x
   ·rw[φ6j x];simp
   ·rw[x]
    have:=φ9X (φ16 s.1.1 (txt (φZ (φU s d).1 (s.2.2.1 - 1)))).1
    show (φ1U _).length≤1500
    omega
  ·rw[e,φ6j htmp];simp
  ·rw[e,hliv]
   have:=φ5Q (s.1.1+2,[s.1.1,s.1.1+1])
   show (φn _).length≤1500
   omega
  ·rw[φ6j e];simp
  ·rw[e,φ6j e2];simp
 ·rw[hI,hSz]
  show 130 * (([s.1.1,s.1.1+1].length:Nat):Int)+0≤_
  simp only[lC,lN]
  omega
 ·rw[hSz];decide
 ·rw[hNx];push_cast;omega
 ·right
  obtain ⟨l0,z,z1,z2,z3,z4,z5,z6,z7⟩:=φ9w kk
  have zb:z.2.2.2.1=s.2.2.1 - 1:=by
   have:=congrArg (fun x:φ1H=>x.2.1) z5
   exact this.symm
  refine ⟨(s.1.1,z),?_,by rw[hB];exact zb⟩
  rw[hpl,z1]
  exact mM.2 ⟨z,mR _ (by simp),rfl⟩
theorem φNj {k N:Nat} {s:φ8} {d:φ1} (h:PR k N s d):∃t y,φ2G d=(t,y,0)∧PR k N t y∧t.2.1=s.2.1∧t.2.2.1=s.2.2.1∧φU t y=φU s d:=by
 obtain ⟨t,y,ho,hj,h1,h2,h3,h4,_,_,h5,h6,h7,h8,h9⟩:=φI5 h.toJR
 have hb:t.2.2.1=s.2.2.1:=by
  have q:=(φi.1 hj.ok).2.2.2.1
  rcases h.ex with e | ⟨p,hp,e⟩
  ·omega
  ·have:=hj.pb p (by rw[h7];exact hp)
   omega
 refine ⟨t,y,ho,⟨hj,⟨by rw[h5];exact h.bk.cap,fun n hn=>?_,fun n=>?_,by rw[h1,h9];exact h.bk.pot,by rw[h9];exact h.bk.act,by have:=h.bk.nx;omega⟩,?_⟩,h2,hb,h4⟩
 ·rw[h1]
  have:=h6 n hn
  rw[this] at hn
  exact h.bk.nm n hn
 ·cases hx:(φ2 y n).2 with
  | false=>rw[φ6j hx];simp
  | true=>rw[h6 n hx];exact h.bk.sz n
 ·rw[hb,h7];exact h.ex
theorem φDy:PR 0 0 ((2,[1]),[],1,0,0) (dNew 100000):=by
 obtain ⟨f1,f2,f3⟩:=φBJ 100000 (by omega) (by omega)
 refine ⟨φJZ 100000 (by omega) (by omega),⟨rfl,fun n hn=>?_,fun n=>?_,by decide,by decide,by decide⟩,.inl rfl⟩
 ·by_cases a1:n=φb
  ·exact .inl a1
  by_cases a2:n=φ0 1
  ·exact .inr (.inl ⟨1,by simp,a2⟩)
  rw[f3 n a1 a2] at hn
  simp at hn
 ·by_cases a1:n=φb
  ·rw[a1,f1]
   have:=φ5Q (2,[1])
   show (φn (2,[1])).length≤1500
   omega
  by_cases a2:n=φ0 1
  ·rw[a2,f2];simp
  rw[f3 n a1 a2];simp
abbrev ModT:=Bool×List φX×Int×List TxnT
def φ2C (l:List φX) (key:List UInt8):φX×Int:=
 match l.find? (fun p=>p.1==key) with
 | some p=>(p,0)
 | none=>(([],[],0),8)
def valM (l:List φX) (t:TxnT):Bool:=t.2.1.all fun r=>(φ2C l r.1).1.2.2==r.2
def comM (m:ModT) (g:List TxnT×AnsT×Option (List PutT)):ModT×AnsT:=
 match g.2.2 with
 | none=>((m.1,m.2.1,m.2.2.1,g.1),g.2.1)
 | some w=>if w.length=0 then ((m.1,m.2.1,m.2.2.1,g.1),(0,[],[])) else
   if 20<(φ2e m.2.1 w m.2.2.1).length∨m.2.2.1 > 1000000 then ((m.1,m.2.1,m.2.2.1,g.1),(5,[],[])) else
   ((m.1,φ2e m.2.1 w m.2.2.1,m.2.2.1+1,g.1),(0,[],[]))
def stM (m:ModT) (s:φY):ModT×AnsT:=
 bif s.1==10 then (bif m.1 then (m,(4,[],[])) else ((true,m.2.1,m.2.2.1,zTx),(0,[],[]))) else
 bif s.1==11 then (m,(0,[],[])) else
 bif !m.1 then (m,(6,[],[])) else
 bif s.1==7 then (m,(0,[],[])) else
 bif s.1==8 then (m,(0,[],m.2.1.map (·.1))) else
 bif s.1==9 then ((false,m.2.1,m.2.2.1,zTx),(0,[],[])) else
 comM m (sesG (φ2C m.2.1) (valM m.2.1) m.2.2.2 s)
def runM:ModT→List φY→ModT×List AnsT
 | m,[]=>(m,[])
 | m,s::r=>((runM (stM m s).1 r).1,(stM m s).2::(runM (stM m s).1 r).2)
abbrev newM:ModT:=(true,[],1,zTx)
structure TxR (t:TxnT):Prop extends TxnOk t where
 puts:∀p∈t.2.2,φ1h p=true
def TK (l:List TxnT):Prop:=l.length=3∧∀t∈l,TxR t
theorem TxR.zero (b:Bool):TxR (b,[],[]):=⟨⟨List.Pairwise.nil,by simp,by simp,by show (netW []).length≤8;decide⟩,fun p hp=>by simp at hp⟩
theorem TK.new:TK zTx:=⟨rfl,fun t ht=>by
 have:=List.eq_of_mem_replicate ht
 subst this
 exact TxR.zero false⟩
theorem TK.tb {l:List TxnT} (h:TK l):TB l:=⟨h.1,fun t ht=>⟨(h.2 t ht).reads,(h.2 t ht).writes⟩⟩
theorem TK.set {l:List TxnT} (h:TK l) (i:Nat) {t:TxnT} (ht:TxR t):TK (l.set i t):=⟨by rw[List.length_set];exact h.1,fun x hx=>by
 rcases κc hx with hx | rfl
 ·exact h.2 x hx
 ·exact ht⟩
def wait (l:List TxnT):Nat:=sumN (fun t=>t.2.2.length) l
theorem φ7I:∀(l:List TxnT) (i:Nat) (h:i<l.length) (t:TxnT),wait (l.set i t)+l[i].2.2.length=wait l+t.2.2.length
 | x::l,0,_,t=>by simp only[List.set_cons_zero,wait,sumN,List.getElem_cons_zero];omega
 | x::l,i+1,h,t=>by
  have:=φ7I l i (by simpa using h) t
  simp only[List.set_cons_succ,wait,sumN,List.getElem_cons_succ] at this ⊢
  omega
theorem φKT {t:TxnT} (h:TxR t) (k:List UInt8) (b:Int):TxR (φ2A t k b).1∧(φ2A t k b).1.2.2=t.2.2:=by
 have h2:(φ2A t k b).1.2.2=t.2.2:=by
  unfold φ2A
  repeat' split
  all_goals rfl
 refine ⟨⟨?_,by rw[h2];exact h.puts⟩,h2⟩
 rw[φHZ h.toTxnOk]
 exact φL4 h.toTxnOk k b
theorem φMp {t:TxnT} (h:TxR t) (p:PutT):TxR (φ1r t p).1∧(φ1r t p).1.2.2.length≤t.2.2.length+1:=by
 refine ⟨⟨φMT h.toTxnOk p,?_⟩,?_⟩
 ·unfold φ1r
  split
  ·rename_i c
   intro q hq
   rcases mA.1 hq with hq | hq
   ·exact h.puts q hq
   ·rw[mZ.1 hq];exact c.2.1
  ·exact h.puts
 ·unfold φ1r
  split
  ·show (t.2.2++[p]).length≤_
   simp
  ·exact Nat.le_succ _
theorem TxR.net_ok {t:TxnT} (h:TxR t):φ1k (netW t.2.2)=true∧(netW t.2.2).length≤8∧(netW t.2.2).length≤t.2.2.length:=by
 have h1:=h.net
 refine ⟨?_,h1,φAG _⟩
 unfold φ1k
 rw[bA]
 refine ⟨by simpa using h1,κR.2 fun q hq=>?_⟩
 exact h.puts q (φGB (φOG.1 hq)).1
theorem φGF (look:List UInt8→φX×Int) (val:TxnT→Bool) {l:List TxnT} (hl:TK l) (s:φY) :
  TK (sesG look val l s).1∧(match (sesG look val l s).2.2 with | none=>wait (sesG look val l s).1≤wait l+1 | some w=>φ1k w=true∧w.length≤8∧wait (sesG look val l s).1+w.length≤wait l):=by
 unfold sesG
 cases hf:φ27 l s
 ·exact ⟨hl,Nat.le_succ _⟩
 obtain ⟨n,hn,h1,hin,hrd,hto,_,_,_⟩:=φ6Z hl.1 hf
 have ht:=hl.2 _ (gM hn)
 have w0:∀b:Bool,wait (l.set n (b,[],[]))≤wait l+1:=fun b=>by
  have:=φ7I l n hn (b,[],[])
  simp only[lN] at this
  omega
 simp only[nZ,cF,hto,hrd]
 cases (s.1==1)
 rotate_left
 ·exact ⟨hl.set n (TxR.zero true),w0 true⟩
 cases (s.1==6)
 rotate_left
 ·exact ⟨hl.set n (TxR.zero false),w0 false⟩
 cases (s.1==2)
 rotate_left
 ·simp only[cT,cF]
  unfold getG
  simp only[hrd,hto]
  cases φ1E s.2.2.1
  ·exact ⟨hl,Nat.le_succ _⟩
  cases (ownW l[n].2.2 s.2.2.1).2
  ·obtain ⟨r1,r2⟩:=φKT ht s.2.2.1 (look s.2.2.1).1.2.2
   simp only[nZ,cF]
   refine ⟨hl.set n r1,?_⟩
   have:=φ7I l n hn (φ2A l[n] s.2.2.1 (look s.2.2.1).1.2.2).1
   rw[r2] at this
   omega
  ·exact ⟨hl,Nat.le_succ _⟩
 cases (s.1==5)
 rotate_left
 ·simp only[cT,cF]
  refine ⟨hl.set n (TxR.zero false),?_⟩
  cases val l[n]
  ·exact w0 false
  ·obtain ⟨n1,n2,n3⟩:=ht.net_ok
   simp only[cT]
   refine ⟨n1,n2,?_⟩
   have:=φ7I l n hn zT
   have hz:(zT:TxnT).2.2.length=0:=rfl
   rw[hz] at this
   omega
 simp only[cF]
 unfold putG
 simp only[hrd,hto]
 obtain ⟨r1,r2⟩:=φMp ht (putS s)
 refine ⟨hl.set n r1,?_⟩
 have:=φ7I l n hn (φ1r l[n] (putS s)).1
 omega
theorem φF5 {s:φ8} {d:φ1} (h:φh s d=true) {P:List φX} (hd:φU s d=(P,0)) (key:List UInt8):getP s d key=φ2C P key:=by
 rw[φDg h] at hd
 have hP:P=s.2.1.map fun e=>(getP s d e.1).1:=(congrArg Prod.fst hd).symm
 subst hP
 unfold φ2C
 have hk:∀e∈s.2.1,(getP s d e.1).1.1=e.1:=fun e he=>(φ8k h he).2
 have hfind:(s.2.1.map fun e=>(getP s d e.1).1).find? (fun p=>p.1==key)=(s.2.1.find? fun e=>e.1==key).map fun e=>(getP s d e.1).1:=by
  generalize s.2.1=l at hk
  induction l with
  | nil=>rfl
  | cons e l ih=>
   have h1:=hk e (by simp)
   simp only[κ5,List.find?_cons,h1]
   cases (e.1==key)
   ·exact ih fun x hx=>hk x (by simp[hx])
   ·rfl
 rw[hfind]
 cases hf:s.2.1.find? (fun e=>e.1==key) with
 | none=>
  refine φFC fun e he ek=>?_
  have:=List.find?_eq_none.1 hf e he
  simp[ek] at this
 | some e=>
  have he:=List.mem_of_find?_eq_some hf
  have hek:e.1=key:=by simpa using List.find?_some hf
  subst hek
  show getP s d e.1=((getP s d e.1).1,0)
  rw[←(φ8k h he).1]
theorem φJ4 {s:φ8} {d:φ1} (h:φh s d=true) {P:List φX} (hd:φU s d=(P,0)) (t:TxnT):φ36 t s.2.1=valM P t:=by
 unfold φ36 valM
 congr 1
 funext r
 rw[←φF5 h hd r.1]
 congr 1
 rcases φFG s.2.1 r.1 with c | ⟨c1,c2⟩
 ·have e1:getP s d r.1=(([],[],0),8):=by
   unfold getP
   rw[if_pos c]
  rw[e1]
  unfold φ1s at c ⊢
  split at c
  ·simp at c
  ·rfl
 ·obtain ⟨q1,q2,q3,q4,q5,q6⟩:=φi.1 h
  have k:=φ34.1 (q6 _ c2)
  have hkey:(φ1s s.2.1 r.1).1.1=r.1:=by
   unfold φ1s at c1 ⊢
   split at c1
   ·rename_i e he
    have:=List.find?_some he
    simpa using this
   ·simp at c1
  unfold getP
  rw[if_neg (by rw[c1];simp)]
  unfold φ1D at k
  simp only
  rw[if_pos ⟨k.1,k.2.1,k.2.2.1.trans hkey⟩]
  exact k.2.2.2.1.symm
theorem φDT {s:φ8} {d:φ1} (h:φh s d=true) {P:List φX} (hd:φU s d=(P,0)):s.2.1.map (·.1)=P.map (·.1):=by
 rw[φ2n h] at hd
 have hP:P=mapG (φ1P d) s.2.1:=(congrArg Prod.fst hd).symm
 subst hP
 unfold mapG
 rw[List.map_map]
 rfl
def φ3t {α:Type} (x:α):Unit:=()
theorem φGx (b:Int):∀(l:List PutT) (P:List φX),mapG φ3t (φ2e P l b)=l.foldl (fun a p=>if p.2.1=true then φk a p.1 else insB (φk a p.1) (p.1,())) (mapG φ3t P)
 | [],P=>rfl
 | p::l,P=>by
  show mapG φ3t (φ2e (φ5u b P p) l b)=l.foldl _ _
  rw[φGx b l]
  congr 1
  show mapG φ3t (φ5u b P p)=if p.2.1=true then φk (mapG φ3t P) p.1 else insB (φk (mapG φ3t P) p.1) (p.1,())
  unfold φ5u
  by_cases c:p.2.1=true
  ·rw[if_pos c,if_pos c,φ7W]
  ·rw[if_neg c,if_neg c,φA6,φ7W]
theorem φLJ {dir:List φC} {P:List φX} (hk:dir.map (·.1)=P.map (·.1)) (l:List PutT) (b:Int):φ2p dir l=(φ2e P l b).length:=by
 have e0:mapG (φ3t (α:=Int×Int×Int×Int)) dir=mapG (φ3t (α:=List UInt8×Int)) P:=by
  have:∀(α:Type) (l:List (List UInt8×α)),mapG φ3t l=(l.map (·.1)).map fun k=>(k,()):=fun α l=>by
   unfold mapG;rw[List.map_map];rfl
  rw[this,this,hk]
 have h1:=φ79 (φ3t (α:=Int×Int×Int×Int)) (fun _=>()) (l.zip (l.map φ4M)) dir (fun p hp=>by
  rw[φIH] at hp
  obtain ⟨q,_,rfl⟩:=mM.1 hp
  exact ⟨rfl,fun _=>rfl⟩)
 have h2:=φGx b l P
 have hz:(l.zip (l.map φ4M)).map (·.1)=l:=by
  rw[φIH,List.map_map]
  exact List.map_id _
 rw[hz,e0] at h1
 have:mapG (φ3t (α:=Int×Int×Int×Int)) (dirW dir (l.zip (l.map φ4M)))=mapG φ3t (φ2e P l b):=h1.trans h2.symm
 have:=congrArg List.length this
 unfold mapG at this
 simpa [φ2p] using this
structure RM (N:Nat) (e:EngT) (m:ModT):Prop where
 up:e.1=m.1
 tx:e.2.2.2=m.2.2.2
 tk:TK e.2.2.2
 st:∃(k:Nat) (s:φ8),PR k N s e.2.2.1∧k+wait e.2.2.2≤N∧φU s e.2.2.1=(m.2.1,0)∧s.2.2.1=m.2.2.1∧(e.1=true→s=e.2.1)∧(e.1=false→e.2.1=((0,[]),[],0,0,0))
 bt:m.2.2.1≤1+N
theorem RM.ei {N:Nat} {e:EngT} {m:ModT} (h:RM N e m):EI e:=by
 obtain ⟨k,s,h1,_,_,_,h5,h6⟩:=h.st
 refine ⟨fun hu=>by rw[←h5 hu];exact h1.toJR,fun hu=>⟨⟨s,h1.toJR⟩,by rw[h6 hu];simp,by rw[h6 hu];simp⟩,h.tk.tb⟩
theorem RM.fit {N:Nat} {e:EngT} {m:ModT} (h:RM N e m):Fit e:=h.ei.fit
theorem φE9:RM 0 (newE 100000) newM:=by
 refine ⟨rfl,rfl,TK.new,⟨0,((2,[1]),[],1,0,0),φDy,by decide,?_,rfl,fun _=>rfl,fun c=>by simp at c⟩,by decide⟩
 rw[φ2n φDy.ok]
 rfl
theorem φFp {N:Nat} {e:EngT} {m:ModT} (h:RM N e m) (hN:N≤90) (s:φY) (h11:s.1≠11):RM (N+1) (stE e s).1 (stM m s).1∧(stE e s).2=(stM m s).2:=by
 obtain ⟨k,s0,h1,h2,h3,h4,h5,h6⟩:=h.st
 have hup:=h.up
 have c11:(s.1==11)=false:=by simpa using h11
 have hsame:RM (N+1) e m:=⟨h.up,h.tx,h.tk,⟨k,s0,h1.up (κ6 _) (by omega),by omega,h3,h4,h5,h6⟩,by have:=h.bt;omega⟩
 unfold stE stM
 rw[c11]
 cases c10:(s.1==10)
 rotate_left
 ·simp only[cT]
  rw[←hup]
  cases hu:e.1
  ·obtain ⟨t,y,ho,hj,hd,hb,hdm⟩:=φNj h1
   simp only[cF,ho]
   exact ⟨⟨rfl,rfl,TK.new,⟨k,t,hj.up (κ6 _) (by omega),by show k+0≤N+1;omega,hdm.trans h3,hb.trans h4,fun _=>rfl,fun c=>by simp at c⟩,by have:=h.bt;show m.2.2.1≤_;omega⟩,trivial⟩
  ·exact ⟨hsame,rfl⟩
 simp only[cF]
 rw[←hup]
 cases hu:e.1
 ·exact ⟨hsame,rfl⟩
 have hs:=h5 hu
 subst hs
 have hup2:m.1=true:=hup.symm.trans hu
 simp only[nZ,cF]
 cases c7:(s.1==7)
 rotate_left
 ·obtain ⟨m1,m2,m3,m4⟩:=φNs h1 (by omega) (by omega)
  simp only[cT,m1]
  exact ⟨⟨hup2.symm,h.tx,h.tk,⟨k,_,m2,by show k+wait e.2.2.2≤_;omega,m3.trans h3,m4.trans h4,fun _=>rfl,fun c=>by simp at c⟩,by have:=h.bt;omega⟩,trivial⟩
 simp only[cF]
 cases c8:(s.1==8)
 rotate_left
 ·simp only[cT,φDT h1.ok h3]
  exact ⟨hsame,trivial⟩
 simp only[cF]
 cases c9:(s.1==9)
 rotate_left
 ·simp only[cT]
  exact ⟨⟨rfl,rfl,TK.new,⟨k,_,h1.up (κ6 _) (by omega),by show k+0≤N+1;omega,h3,h4,fun c=>by simp at c,fun _=>rfl⟩,by have:=h.bt;show m.2.2.1≤_;omega⟩,trivial⟩
 simp only[cF]
 unfold sesE
 have e1:getP e.2.1 e.2.2.1=φ2C m.2.1:=funext fun key=>φF5 h1.ok h3 key
 have e2:(fun t=>φ36 t e.2.1.2.1)=valM m.2.1:=funext fun t=>φJ4 h1.ok h3 t
 rw[e1,e2,←h.tx]
 obtain ⟨g1,g2⟩:=φGF (φ2C m.2.1) (valM m.2.1) h.tk s
 generalize sesG (φ2C m.2.1) (valM m.2.1) e.2.2.2 s=g at g1 g2
 obtain ⟨l,a,w⟩:=g
 unfold comE comM
 cases w with
 | none=>
  simp only at g1 g2 ⊢
  exact ⟨⟨hup,rfl,g1,⟨k,_,h1.up (κ6 _) (by omega),by show k+wait l≤_;omega,h3,h4,fun _=>rfl,fun c=>by rw[hu] at c;simp at c⟩,by have:=h.bt;show m.2.2.1≤_;omega⟩,trivial⟩
 | some w=>
  obtain ⟨w1,w2,w3⟩:=g2
  simp only at g1 w3 ⊢
  have hb:=h.bt
  have hkp:φ2p e.2.1.2.1 w=(φ2e m.2.1 w m.2.2.1).length:=φLJ (φDT h1.ok h3) w m.2.2.1
  have hbb:e.2.1.2.2.1=m.2.2.1:=h4
  have hF:φ2S e.2.1 e.2.2.1 w=if w.length=0 then (e.2.1,e.2.2.1,0) else if 20<(φ2e m.2.1 w m.2.2.1).length∨m.2.2.1 > 1000000 then (e.2.1,e.2.2.1,5) else φ1N e.2.1 e.2.2.1 w:=by
   unfold φ2S
   rw[if_neg (by rw[h1.ok,w1];simp),hkp,hbb]
  have hdump:=(φIK h1.toJR w).2.2.1
  by_cases c0:w.length=0
  ·rw[if_pos c0] at hF
   rw[hF,if_pos c0]
   exact ⟨⟨hup,rfl,g1,⟨k,_,h1.up (κ6 _) (by omega),by show k+wait l≤_;omega,h3,h4,fun _=>rfl,fun c=>by rw[hu] at c;simp at c⟩,by show m.2.2.1≤_;omega⟩,rfl⟩
  rw[if_neg c0] at hF
  by_cases c5:20<(φ2e m.2.1 w m.2.2.1).length∨m.2.2.1 > 1000000
  ·rw[if_pos c5] at hF
   rw[hF,if_neg c0,if_pos c5]
   exact ⟨⟨hup,rfl,g1,⟨k,_,h1.up (κ6 _) (by omega),by show k+wait l≤_;omega,h3,h4,fun _=>rfl,fun c=>by rw[hu] at c;simp at c⟩,by show m.2.2.1≤_;omega⟩,rfl⟩
  rw[if_neg c5] at hF
  obtain ⟨p1,p2,p3⟩:=φIU h1 w1 (by rw[hbb];omega) (by rw[hkp];omega) (by omega) (by omega)
  have hdump:=hdump (by rw[hF];exact p1)
  rw[hF] at hdump
  rw[hF,if_neg c0,if_neg c5,p1]
  refine ⟨⟨hup,rfl,g1,⟨k+(w.length+1),_,p2.up (κ6 _) (by omega),by show k+(w.length+1)+wait l≤_;omega,?_,?_,fun _=>rfl,fun c=>by rw[hu] at c;simp at c⟩,by show m.2.2.1+1≤_;omega⟩,rfl⟩
  ·show φU (φ1N e.2.1 e.2.2.1 w).1 (φ1N e.2.1 e.2.2.1 w).2.1=(φ2e m.2.1 w m.2.2.1,0)
   rw[hdump,h3,hbb]
  ·show (φ1N e.2.1 e.2.2.1 w).1.2.2.1=m.2.2.1+1
   rw[p3,hbb]
theorem φA5:∀(a b:List φY) (m:ModT),runM m (a++b)=((runM (runM m a).1 b).1,(runM m a).2++(runM (runM m a).1 b).2)
 | [],b,m=>rfl
 | s::a,b,m=>by
  show ((runM (stM m s).1 (a++b)).1,(stM m s).2::(runM (stM m s).1 (a++b)).2)=_
  rw[φA5 a b];rfl
theorem φAd:∀(l:List φY) (m:ModT),(runM m l).2.length=l.length
 | [],_=>rfl
 | s::r,m=>by
  show (_::_).length=_
  rw[lC,φAd r];rfl
theorem φHs:∀(l:List φY) (N:Nat) (e:EngT) (m:ModT),RM N e m→N+l.length≤90→(∀s∈l,s.1≠11)→(runE e l).2=(runM m l).2
 | [],_,_,_,_,_,_=>rfl
 | s::r,N,e,m,h,hN,h11=>by
  simp only[lC] at hN
  obtain ⟨h1,h2⟩:=φFp h (by omega) s (h11 s κ0)
  have:=φHs r (N+1) _ _ h1 (by omega) fun x hx=>h11 x (mC _ hx)
  show (stE e s).2::(runE (stE e s).1 r).2=(stM m s).2::(runM (stM m s).1 r).2
  rw[h2,this]
theorem φLE (l:List φY) (hl:l.length≤90) (h11:∀s∈l,s.1≠11):∃e acks,ψg.f (100000,-1,l)=some (e,(runM newM l).2,acks,[])∧RM l.length e (runM newM l).1:=by
 have h0:RM 0 (newE 100000) (runM newM (l.take 0)).1:=by rw[List.take_zero];exact φE9
 obtain ⟨acks,k1,k2⟩:=φN1 (I:=fun n e=>n≤90∧RM n e (runM newM (l.take n)).1) (l:=l) (by omega) (fun n e h=>h.2.fit) (fun n hn e h=>by
  obtain ⟨h1,h2⟩:=h
  have hs:=h11 _ (gM hn)
  obtain ⟨a1,a2⟩:=φFp h2 h1 l[n] hs
  refine ⟨⟨by omega,?_⟩,(φNl h2.ei l[n]).2.1⟩
  rw[κ1 hn,φA5]
  exact a1) (e:=newE 100000) ⟨by omega,h0⟩
 have ha:=φHs l 0 (newE 100000) newM φE9 (by omega) h11
 refine ⟨(runE (newE 100000) l).1,acks,?_,?_⟩
 ·rw[show ((100000:Int),(-1:Int),l)=(((100000:Nat):Int),(-1:Int),l) from rfl,φLs 100000 (by omega) (by omega) l,k1,ha]
 ·have:=k2.2
  rw[κN] at this
  exact this
theorem φNp {N:Nat} {e:EngT} {m:ModT} (h:RM N e m):mapE e=bif !m.1 then ([],6) else (m.2.1,0):=by
 obtain ⟨k,s,h1,h2,h3,h4,h5,h6⟩:=h.st
 unfold mapE
 rw[h.up]
 cases hu:m.1
 ·rfl
 ·have hs:=h5 (h.up.trans hu)
  rw[←hs,h3]
theorem φLp (l:List Int) (hl:l.length<2 ^ 60):∃x,ψ2Q.f l=some x∧x.length≤120∧(∀s∈x,s.1≠11)∧clOk x:=by
 obtain ⟨c,e0,h0⟩:=φMe l hl
 obtain ⟨x,c1,e1,h1,h2,h3,_⟩:=φM9 h0 60 (by omega)
 have e1:ψ3K.f c 60=some (x,c1):=e1
 unfold ψ2Q.f
 simp only[e0,e1,bS]
 exact ⟨x,rfl,h1,h2,h3⟩
theorem φNe {x:List φY} (n:Nat) (hn:n≤90) (h1:x.length≤120) (h2:∀s∈x,s.1≠11) (h3:clOk x) :
  ∃l:List φY,(if (x.length:Int) > (n:Int) then x.take n else x)=l∧l.length≤n∧(∀s∈l,s.1≠11)∧∀i s t,l[i]?=some s→l[i+1]?=some t→s.1=9→t.1=10:=by
 by_cases c:(x.length:Int) > (n:Int)
 ·rw[if_pos c]
  refine ⟨_,rfl,by rw[lT];omega,fun s hs=>h2 s (κe hs),fun i s t hs ht e=>?_⟩
  refine φBs x h3 i s t ?_ ?_ e
  ·rw[List.getElem?_take] at hs
   split at hs
   ·exact hs
   ·simp at hs
  ·rw[List.getElem?_take] at ht
   split at ht
   ·exact ht
   ·simp at ht
 ·rw[if_neg c]
  exact ⟨x,rfl,by omega,h2,φBs x h3⟩
theorem φJU (look:List UInt8→φX×Int) (val:TxnT→Bool) (l:List TxnT) (s:φY):(sesG look val l s).2.1.2.2=[]:=by
 unfold sesG
 cases φ27 l s
 ·rfl
 cases (s.1==1)
 rotate_left
 ·rfl
 cases (s.1==6)
 rotate_left
 ·rfl
 cases (s.1==2)
 rotate_left
 ·show (getG look l s).2.2.2=[]
  unfold getG
  simp only
  cases φ1E s.2.2.1
  ·rfl
  cases (ownW (rdA zT l s.2.1).2.2 s.2.2.1).2
  ·simp only[nZ,cF]
   cases ((φ2A (rdA zT l s.2.1) s.2.2.1 (look s.2.2.1).1.2.2).2 != 0)<;>rfl
  ·simp only[nZ,cF,cT]
   unfold ownA
   cases (ownW (rdA zT l s.2.1).2.2 s.2.2.1).1.2.1<;>rfl
 cases (s.1==5)
 rotate_left
 ·rfl
 show (putG l s).2.2.2=[]
 unfold putG
 simp only
 cases φ1h (putS s)
 ·rfl
 ·cases (φ1r (rdA zT l s.2.1) (putS s)).2<;>rfl
theorem φI3 {m:ModT} (h:m.2.1.length≤20) (s:φY):(stM m s).1.2.1.length≤20∧(stM m s).2.2.2.length≤20:=by
 unfold stM
 cases (s.1==10)
 rotate_left
 ·cases m.1
  ·exact ⟨h,by simp⟩
  ·exact ⟨h,by simp⟩
 cases (s.1==11)
 rotate_left
 ·exact ⟨h,by simp⟩
 cases m.1
 ·exact ⟨h,by simp⟩
 cases (s.1==7)
 rotate_left
 ·exact ⟨h,by simp⟩
 cases (s.1==8)
 rotate_left
 ·exact ⟨h,by simpa using h⟩
 cases (s.1==9)
 rotate_left
 ·exact ⟨h,by simp⟩
 simp only[nZ,cF]
 have hk:=φJU (φ2C m.2.1) (valM m.2.1) m.2.2.2 s
 generalize sesG (φ2C m.2.1) (valM m.2.1) m.2.2.2 s=g at hk
 obtain ⟨l,a,w⟩:=g
 simp only at hk
 unfold comM
 cases w with
 | none=>exact ⟨h,by simp[hk]⟩
 | some w=>
  simp only
  split
  ·exact ⟨h,by simp⟩
  ·split
   ·exact ⟨h,by simp⟩
   ·rename_i c
    refine ⟨?_,by simp⟩
    show (φ2e m.2.1 w m.2.2.1).length≤20
    omega
theorem φCG:∀(l:List φY) {m:ModT},m.2.1.length≤20→(runM m l).1.2.1.length≤20∧∀a∈(runM m l).2,a.2.2.length≤20
 | [],m,h=>⟨h,fun a ha=>by simp[runM] at ha⟩
 | s::r,m,h=>by
  obtain ⟨h1,h2⟩:=φI3 h s
  obtain ⟨h3,h4⟩:=φCG r h1
  refine ⟨h3,fun a ha=>?_⟩
  rcases mc.1 ha with e | e
  ·rw[e];exact h2
  ·exact h4 a e
theorem φNc (l:List φX) (key:List UInt8) (hl:l.length<2 ^ 62):ψ3N.f l key=some (φ2C l key):=by
 have hk:=φ9m (step:=ψ3N.l0) l (fun e=>e.1==key) (fun e=>(e,0)) (fun n=>(l,key,([],[],0),(n:Int))) ([],[],0) hl
  (fun rec n h=>by
   simp only[ψ3N.l0,oL,h,dT,cT,φF,φJ,φ9 h,φ1m,φM (show n+1<9223372036854775808 by omega)]
   cases l[n].1==key<;>simp)
  (fun rec=>by simp[ψ3N.l0])
 have hk:lp ψ3N.l0 (l,key,([],[],0),0)=_:=hk
 unfold ψ3N.f φ2C
 rw[hk,bS]
 cases List.find? (fun e=>e.1==key) l<;>rfl
def entM (p:φX):φC:=(p.1,0,0,0,p.2.2)
theorem φFY (l:List φX) (hl:l.length<1000000000):ψ3M.f l=some (l.map entM):=by
 have key:=φ5x (step:=ψ3M.l0) (fun n (a:List φC)=>(l,a,(n:Int))) l.length (fun n a=>a=(l.take n).map entM) (fun b=>b=l.map entM)
  (fun rec a hi=>⟨_,by simp[ψ3M.l0];rfl,by rw[hi,κN]⟩)
  (fun rec n a hn hi=>by
   have e0:(n:Int)<(l.length:Int):=by omega
   have hw:=φM (show n+1<9223372036854775808 by omega)
   have hal:a.length=n:=by rw[hi,lM,lT];omega
   have q:decide ((a.length+(0+1)) * 48≤140737488355328)=true:=by simp;omega
   refine ⟨a++[entM l[n]],by rw[hi,κ1 hn,mp];rfl,?_⟩
   simp only[ψ3M.l0,e0,dT,cT,φF,hn,φJ,φ9 hn,lC,lN,q,hw]
   rfl)
  [] (by simp) (by omega)
 obtain ⟨b,k,kb⟩:=key
 unfold ψ3M.f
 have k:lp ψ3M.l0 (l,[],0)=some b:=k
 rw[k,kb];rfl
theorem φMF (l:List φX) (t:TxnT):φ36 t (l.map entM)=valM l t:=by
 unfold φ36 valM
 congr 1
 funext r
 unfold φ1s φ2C
 rw[List.find?_map]
 have:((fun e:φC=>e.1==r.1) ∘ entM)=fun p:φX=>p.1==r.1:=rfl
 rw[this]
 cases l.find? (fun p=>p.1==r.1)<;>rfl
theorem φNI {m:ModT} (hm:m.2.1.length≤20) (hl:TK m.2.2.2) {s:φY} (hf:φ27 m.2.2.2 s=true) {t:TxnT} (ht:t=rdA zT m.2.2.2 s.2.1) :
  ψ3O.f m s t=some ((m.1,m.2.1,m.2.2.1,(getG (φ2C m.2.1) m.2.2.2 s).1),(getG (φ2C m.2.1) m.2.2.2 s).2):=by
 obtain ⟨n,hn,h1,hin,hrd,hto,_,_,_⟩:=φ6Z hl.1 hf
 rw[hrd] at ht
 subst ht
 have htn:=hl.2 _ (gM hn)
 have b1:=htn.reads
 have b2:=htn.writes
 unfold ψ3O.f getG
 simp only[φ7s,bS,hrd,hto]
 cases φ1E s.2.2.1
 ·rfl
 simp only[nZ,cF,φG4 m.2.2.2[n] s.2.2.1 (by omega),bS]
 generalize ownW m.2.2.2[n].2.2 s.2.2.1=x
 obtain ⟨⟨a,b,v⟩,c⟩:=x
 cases c
 rotate_left
 ·cases b<;>rfl
 simp only[cF,bS,φV,φNc m.2.1 s.2.2.1 (by omega),φJn m.2.2.2[n] s.2.2.1 _ (show _<1000000000 by omega) (show _<1000000000 by omega),φHZ htn.toTxnOk,hin]
 by_cases hr:(φ4B m.2.2.2[n] s.2.2.1 (φ2C m.2.1 s.2.2.1).1.2.2).2=0
 ·have e1:((φ4B m.2.2.2[n] s.2.2.1 (φ2C m.2.1 s.2.2.1).1.2.2).2 != 0)=false:=by simpa using hr
  simp only[e1,cF,cT,hto]
 ·have e1:((φ4B m.2.2.2[n] s.2.2.1 (φ2C m.2.1 s.2.2.1).1.2.2).2 != 0)=true:=by simpa using hr
  have e2:(φ4B m.2.2.2[n] s.2.2.1 (φ2C m.2.1 s.2.2.1).1.2.2).1=m.2.2.2[n]:=by
   revert hr
   unfold φ4B
   repeat' split
   all_goals simp
  simp only[e1,cT,e2,List.set_getElem_self]
theorem φLO {m:ModT} (hm:m.2.1.length≤20) (hb:m.2.2.1<2 ^ 60∧0≤m.2.2.1) {t:TxnT} (ht:TxR t) (a:AnsT) :
  ψ3L.f m t=some (comM m (m.2.2.2,(7,[],[]),bif valM m.2.1 t then some (netW t.2.2) else none)):=by
 have b1:=ht.reads
 have b2:=ht.writes
 have hnl:=φAG t.2.2
 unfold ψ3L.f
 simp only[φFY m.2.1 (by omega),bS,φIq t (m.2.1.map entM) (by omega) (by rw[lM];omega),φMF]
 cases valM m.2.1 t
 ·rfl
 simp only[nZ,cF,cT,φIE t (by omega),bS,comM]
 by_cases c0:(netW t.2.2).length=0
 ·rw[if_pos c0,c0];rfl
 have c0':(((netW t.2.2).length:Int)==0)=false:=by simp only[beq_eq_false_iff_ne,ne_eq];omega
 rw[if_neg c0]
 simp only[c0',cF,φJC m.2.1 (netW t.2.2) m.2.2.1 (by omega),bS]
 by_cases c1:20<(φ2e m.2.1 (netW t.2.2) m.2.2.1).length
 ·have:((φ2e m.2.1 (netW t.2.2) m.2.2.1).length:Int) > 20:=by omega
  rw[if_pos (.inl c1)]
  simp only[this,dT,cT]
 ·have:¬((φ2e m.2.1 (netW t.2.2) m.2.2.1).length:Int) > 20:=by omega
  simp only[this,dF,cF]
  by_cases c2:m.2.2.1 > 1000000
  ·rw[if_pos (.inr c2)]
   simp only[c2,dT,cT]
  ·rw[if_neg (by omega)]
   have hw:w64 (m.2.2.1+1)=m.2.2.1+1:=φI (by omega) (by omega)
   simp only[c2,dF,cF,hw]
theorem φLG (p:PutT):φ1k [p]=φ1h p:=by
 unfold φ1k
 simp
theorem φMH {m:ModT} (hm:m.2.1.length≤20) (hb:m.2.2.1<2 ^ 60∧0≤m.2.2.1) (hl:TK m.2.2.2) (s:φY):ψ2e.f m s=some (stM m s):=by
 have htl:=hl.1
 have key:=φ5x (step:=ψ2e.l0) (fun n (l:List TxnT)=>((m,s,(false,[],0,[]),(0,[],[]),(m.1,m.2.1,m.2.2.1,l),(n:Int)):ModT×φY×ModT×AnsT×ModT×Int)) m.2.2.2.length (fun n l=>l=m.2.2.2.take n) (fun b=>b=(m,s,(false,[],0,[]),(0,[],[]),m))
  (fun rec l hi=>⟨_,by simp[ψ2e.l0];rfl,by rw[hi,κN]⟩)
  (fun rec n l hn hi=>by
   have e0:(n:Int)<(m.2.2.2.length:Int):=by omega
   have hw:=φM (show n+1<9223372036854775808 by omega)
   have ht:=hl.2 _ (gM hn)
   have hr:=ht.reads
   have hwr:=ht.writes
   have hc:=φBT m.2.2.2[n] (by omega) (by omega)
   have hll:l.length=n:=by rw[hi,lT];omega
   have q:decide ((l.length+(0+1)) * 56≤140737488355328)=true:=by simp;omega
   refine ⟨l++[m.2.2.2[n]],by rw[hi,κ1 hn],?_⟩
   simp only[ψ2e.l0,e0,dT,cT,φF,hn,φJ,φ9 hn,φ1m,hc,bS,lC,lN,q,hw])
  [] (by simp) (by omega)
 obtain ⟨b,k,hb2⟩:=key
 subst hb2
 have k:lp ψ2e.l0 ((m,s,(false,[],0,[]),(0,[],[]),(m.1,m.2.1,m.2.2.1,[]),0):ModT×φY×ModT×AnsT×ModT×Int)=some (m,s,(false,[],0,[]),(0,[],[]),m):=k
 have q0:decide ((0+m.2.1.length) * 40≤140737488355328)=true:=by simp only[decide_eq_true_eq];omega
 unfold ψ2e.f
 simp only[lN,q0,cT,κ8,k,bS]
 unfold stM
 cases c10:(s.1==10)
 rotate_left
 ·cases m.1<;>rfl
 cases c11:(s.1==11)
 rotate_left
 ·rfl
 cases hu:m.1
 ·rfl
 cases c7:(s.1==7)
 rotate_left
 ·rfl
 cases c8:(s.1==8)
 rotate_left
 ·simp only[cT,cF,nZ,φFY m.2.1 (by omega),φIn (m.2.1.map entM) (by rw[lM];omega),bS,List.map_map]
  rfl
 cases c9:(s.1==9)
 rotate_left
 ·rfl
 simp only[cF,nZ]
 have hmm:m=(m.1,m.2.1,m.2.2.1,m.2.2.2):=rfl
 have hw:w64 ((m.2.2.2.length:Int) - 1)=2:=by rw[htl];rfl
 have hno:φ27 m.2.2.2 s=false→comM m (sesG (φ2C m.2.1) (valM m.2.1) m.2.2.2 s)=(m,(4,[],[])):=fun h=>by
  unfold sesG
  rw[h];rfl
 simp only[φ2J,hw,bS]
 by_cases hse:0≤s.2.1∧s.2.1≤2
 rotate_left
 ·rw[hno (by unfold φ27;simp[hse])]
  simp only[hse,dF,nF,cT,bS,φV]
 simp only[hse,and_self,dT,nZ,cF]
 by_cases hk6:1≤s.1∧s.1≤6
 rotate_left
 ·rw[hno (by unfold φ27;simp[hk6])]
  simp only[hk6,dF,nF,cT,bS,φV]
 simp only[hk6,and_self,dT,nZ,cF]
 obtain ⟨n,hn⟩:∃n:Nat,s.2.1=(n:Int):=⟨s.2.1.toNat,by omega⟩
 have hn3:n<m.2.2.2.length:=by rw[htl];omega
 have hin:inB s.2.1 m.2.2.2.length=true:=by rw[hn,φF];simp[hn3]
 have hrd0:rdA zT m.2.2.2 s.2.1=m.2.2.2[n]:=by rw[hn,φJ,φ9 hn3]
 have hrd:rdA (false,[],[]) m.2.2.2 s.2.1=m.2.2.2[n]:=hrd0
 have hnt:s.2.1.toNat=n:=by rw[hn];rfl
 have ht:=hl.2 _ (gM hn3)
 have hr:=ht.reads
 have hwr:=ht.writes
 have hfit:φ27 m.2.2.2 s=(m.2.2.2[n].1==(s.1 != 1)):=by
  unfold φ27
  simp only[hse,hk6,and_self,dT,tA,hrd0]
 simp only[hin,hrd,cT]
 cases c1:(s.1==1)
 rotate_left
 ·have cn1:(s.1 != 1)=false:=by simpa using c1
  simp only[cT,cn1,cF]
  rw[cn1] at hfit
  cases ho:m.2.2.2[n].1
  ·rw[ho] at hfit
   simp only[cF,bS,φV,hin,c1,cT,hnt]
   unfold sesG comM
   rw[hfit,c1]
   simp only[beq_self_eq_true,nZ,cF,cT,hnt]
  ·rw[ho] at hfit
   rw[hno (by rw[hfit];rfl)]
   simp only[cT,bS,φV]
 have cn1:(s.1 != 1)=true:=by simpa using c1
 simp only[cF,cn1,cT]
 rw[cn1] at hfit
 cases ho:m.2.2.2[n].1
 ·rw[ho] at hfit
  rw[hno (by rw[hfit];rfl)]
  simp only[nF,cT,bS,φV]
 rw[ho] at hfit
 have hfit:φ27 m.2.2.2 s=true:=hfit
 have hrr:((true,(rdA (false,[],[]) m.2.2.2 s.2.1).2):TxnT)=m.2.2.2[n]:=by rw[hrd,←ho]
 have hrr2:((true,m.2.2.2[n].2):TxnT)=m.2.2.2[n]:=by rw[←ho]
 simp only[nZ,cF,bS,φV,c1,hin,cT,hnt,ho]
 unfold sesG
 rw[hfit,c1]
 simp only[nZ,cF,hnt]
 cases c6:(s.1==6)
 rotate_left
 ·rfl
 simp only[cF]
 cases c5:(s.1==5)
 rotate_left
 ·have c2:(s.1==2)=false:=by simp at c5 ⊢;omega
  have hz:=φLO (m:=(m.1,m.2.1,m.2.2.1,m.2.2.2.set n zT)) hm hb ht (7,[],[])
  simp only[cT,c2,cF,hrd,hrr2,hrd0]
  rw[show ((m.1,m.2.1,m.2.2.1,m.2.2.2.set n (false,[],[])):ModT)=(m.1,m.2.1,m.2.2.1,m.2.2.2.set n zT) from rfl,hz,bS]
  rfl
 simp only[cF]
 cases c2:(s.1==2)
 rotate_left
 ·simp only[cT,hrd,hrr2,φNI hm hl hfit hrd0.symm,bS]
  rfl
 simp only[cF,hrd,hrr2,φK2 m.2.2.2[n] (s.2.2.1,s.1==4,s.2.2.2.1) (by omega) (by omega),φID [(s.2.2.1,s.1==4,s.2.2.2.1)] (by simp),φLG,bS]
 unfold putG comM
 simp only[hrd0,hnt,putS]
 by_cases hp:φ1h (s.2.2.1,s.1==4,s.2.2.2.1)=true
 ·simp only[hp,nZ,cF]
  cases hw2:(φ1r m.2.2.2[n] (s.2.2.1,s.1==4,s.2.2.2.1)).2
  ·have e2:(φ1r m.2.2.2[n] (s.2.2.1,s.1==4,s.2.2.2.1)).1=m.2.2.2[n]:=by
    revert hw2
    unfold φ1r
    split
    ·simp
    ·intro _;rfl
   simp only[nF,cT,e2,List.set_getElem_self]
  ·simp only[nZ,cF]
 ·have hp:φ1h (s.2.2.1,s.1==4,s.2.2.2.1)=false:=by simpa using hp
  have e2:(φ1r m.2.2.2[n] (s.2.2.1,s.1==4,s.2.2.2.1)).1=m.2.2.2[n]:=by
   unfold φ1r
   rw[if_neg (by rw[hp];simp)]
  simp only[hp,nF,cT,e2,List.set_getElem_self]
theorem φJ2 (m:ModT) (g:List TxnT×AnsT×Option (List PutT)):(comM m g).1.2.2.2=g.1∧m.2.2.1≤(comM m g).1.2.2.1∧(comM m g).1.2.2.1≤m.2.2.1+1:=by
 unfold comM
 split
 ·exact ⟨rfl,κK _,by show m.2.2.1≤_;omega⟩
 ·split
  ·exact ⟨rfl,κK _,by show m.2.2.1≤_;omega⟩
  ·split
   ·exact ⟨rfl,κK _,by show m.2.2.1≤_;omega⟩
   ·exact ⟨rfl,by show m.2.2.1≤m.2.2.1+1;omega,κK _⟩
theorem φJr {m:ModT} (h:TK m.2.2.2) (s:φY):TK (stM m s).1.2.2.2∧m.2.2.1≤(stM m s).1.2.2.1∧(stM m s).1.2.2.1≤m.2.2.1+1:=by
 have h0:TK m.2.2.2∧m.2.2.1≤m.2.2.1∧m.2.2.1≤m.2.2.1+1:=⟨h,κK _,by omega⟩
 have hz:TK zTx∧m.2.2.1≤m.2.2.1∧m.2.2.1≤m.2.2.1+1:=⟨TK.new,κK _,by omega⟩
 unfold stM
 cases (s.1==10)
 rotate_left
 ·cases m.1
  ·exact hz
  ·exact h0
 cases (s.1==11)
 rotate_left
 ·exact h0
 cases m.1
 ·exact h0
 cases (s.1==7)
 rotate_left
 ·exact h0
 cases (s.1==8)
 rotate_left
 ·exact h0
 cases (s.1==9)
 rotate_left
 ·exact hz
 simp only[nZ,cF]
 obtain ⟨k1,k2,k3⟩:=φJ2 m (sesG (φ2C m.2.1) (valM m.2.1) m.2.2.2 s)
 rw[k1]
 exact ⟨(φGF (φ2C m.2.1) (valM m.2.1) h s).1,k2,k3⟩
structure MI (N:Nat) (m:ModT):Prop where
 map:m.2.1.length≤20
 tk:TK m.2.2.2
 lo:1≤m.2.2.1
 hi:m.2.2.1≤1+N
theorem MI.new:MI 0 newM:=⟨by simp,TK.new,κK _,by decide⟩
theorem MI.step {N:Nat} {m:ModT} (h:MI N m) (s:φY):MI (N+1) (stM m s).1:=by
 obtain ⟨k1,k2,k3⟩:=φJr h.tk s
 have h1:=h.lo
 have h2:=h.hi
 exact ⟨(φI3 h.map s).1,k1,by omega,by omega⟩
theorem MI.run:∀(l:List φY) {N:Nat} {m:ModT},MI N m→MI (N+l.length) (runM m l).1
 | [],_,_,h=>h
 | s::r,N,m,h=>by
  have:=MI.run r (h.step s)
  rw[lC,show N+(r.length+1)=N+1+r.length by omega]
  exact this
theorem φOs (l:List φY) (hl:l.length≤300):ψ2d.f l=some (runM newM l):=by
 have key:=φ5x (step:=ψ2d.l0) (fun n (x:ModT×List AnsT)=>((l,(false,[],0,[]),x.1,x.2,(n:Int)):List φY×ModT×ModT×List AnsT×Int)) l.length (fun n x=>x=runM newM (l.take n)) (fun b=>b=((false,[],0,[]),(runM newM l).1,(runM newM l).2))
  (fun rec x hi=>⟨_,by simp[ψ2d.l0];rfl,by rw[hi,κN]⟩)
  (fun rec n x hn hi=>by
   have e0:(n:Int)<(l.length:Int):=by omega
   have e3:(n:Int)<300:=by omega
   have hw:=φM (show n+1<9223372036854775808 by omega)
   have hI:=MI.run (l.take n) MI.new
   rw[←hi] at hI
   have hal:x.2.length=n:=by rw[hi,φAd,lT];omega
   have q:decide ((x.2.length+(0+1)) * 48≤140737488355328)=true:=by simp;omega
   have hlo:=hI.lo
   have hhi:=hI.hi
   have htl:(l.take n).length≤300:=by rw[lT];omega
   refine ⟨((stM x.1 l[n]).1,x.2++[(stM x.1 l[n]).2]),?_,?_⟩
   ·rw[κ1 hn,φA5,←hi];rfl
   ·simp only[ψ2d.l0,e0,e3,dT,cT,φF,hn,φJ,φ9 hn,φ1m,φMH hI.map ⟨by omega,by omega⟩ hI.tk l[n],bS,lC,lN,q,hw])
  (newM,[]) (by rw[List.take_zero];rfl) (by omega)
 obtain ⟨b,k,hb⟩:=key
 unfold ψ2d.f ψ2c.f
 have k:lp ψ2d.l0 ((l,(false,[],0,[]),newM,[],0):List φY×ModT×ModT×List AnsT×Int)=some b:=k
 simp only[bS]
 rw[show ((true,[],1,κH 3 (false,[],[])):ModT)=newM from rfl,k,hb]
 rfl
theorem φLS (x0:List Int) (w0:wfD (.sl false (.int .u8)) x0):ψ2F.f x0=some true:=by
 unfold ψ2F.f
 rw[φOr,bS]
 by_cases cb:(x0.length:Int) > 1048576
 ·simp[cb]
 simp only[cb,dF,cF]
 obtain ⟨x,ex,hx1,hx2,hx3⟩:=φLp x0 (by omega)
 obtain ⟨l,el,hl1,hl2,_⟩:=φNe (x:=x) 80 (by omega) hx1 hx2 hx3
 have hsel:(bif decide ((x.length:Int) > 80) then bif (decide (0≤(80:Int)) && decide (80≤(x.length:Int))) then some (x.take 80:List φY) else none else some x)=some l:=by
  rw[←el]
  by_cases c:(x.length:Int) > 80
  ·have c2:(decide (0≤(80:Int)) && decide (80≤(x.length:Int)))=true:=by simp;omega
   have c3:(x.length:Int) > ((80:Nat):Int):=c
   rw[if_pos c3]
   simp only[c,dT,cT,c2]
  ·have c3:¬(x.length:Int) > ((80:Nat):Int):=c
   rw[if_neg c3]
   simp only[c,dF,cF]
 simp only[ex,bS]
 rw[hsel]
 obtain ⟨e,acks,p1,r1⟩:=φLE l (by omega) hl2
 have hkeys:=(φCG l (m:=newM) (by simp)).2
 have hlen:=φAd l newM
 have hplain:ψ2H.f l=some (100000,-1,l):=rfl
 have hsa:ψ2s.f (runM newM l).2 (runM newM l).2=some true:=by
  rw[φOC _ _ (by omega) (fun y hy=>by have:=hkeys y hy;omega)];simp
 have hmp:=φOs l (by omega)
 have hm:=(φCG l (m:=newM) (by simp)).1
 have hmap:=φNp r1
 obtain ⟨k,s,h1,h2,h3,h4,h5,h6⟩:=r1.st
 obtain ⟨z1,z2⟩:=h1.toJR.small.lim
 have z3:=h1.toJR.small.ids
 have z4:=h1.toJR.small.dir
 have hup:=r1.up
 generalize runM newM l=R at *
 obtain ⟨m,A⟩:=R
 have hbb:∀b:Bool,(!(b==b))=false:=fun b=>by cases b<;>rfl
 simp only[bS,hplain,p1,hmp,hsa,nZ,cF,hup,hbb,φM2 r1.ei.small.1,hmap,lN]
 cases hu:m.1
 ·rfl
 ·have hs:=h5 (hup.trans hu)
  subst hs
  have h4:e.2.1.2.2.1=m.2.2.1:=h4
  simp only[nZ,cF,show (((0:Nat):Int) != 0)=false from rfl,beq_self_eq_true,cT,φId m.2.1 m.2.1 (show m.2.1.length<2 ^ 62 by simp only at hm;omega),dT,bS,h4,φI4 e.2.1 e.2.2.1 z1 z2 (by omega) (by omega),h1.ok]
end Go.Rf.G
