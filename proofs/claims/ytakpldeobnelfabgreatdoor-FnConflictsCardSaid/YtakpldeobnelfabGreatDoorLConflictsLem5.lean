import Derived.Test.YtakpldeobnelfabGreatDoorLConflictsLem4
open Option renaming bind_some→bS
open List renaming length_append→lA,append_assoc→aA,mem_cons_of_mem→mC,mem_append→mA,mem_append_right→mR,mem_append_left→mL,mem_cons→mc,drop_eq_getElem_cons→dG,length_take→lT,length_drop→lD,mem_map→mM,length_map→lM,length_cons→lC,length_nil→lN,getElem_mem→gM,map_append→mp,mem_singleton→mZ
open Bool renaming and_eq_true→bA,eq_false_or_eq_true→bE,not_true→nZ,not_false→nF,true_and→tA,not_not→nn
open Int renaming toNat_natCast→tN,ofNat_lt→oL
namespace Go.Rf.G
open Go Go.Rf
set_option linter.unusedVariables false
set_option linter.unusedSimpArgs false
set_option synthInstance.maxSize 4000
theorem φHd {c:CurT} (h:Cur c):∃l c',ψ3c.f c 20=some (l,c')∧l.length≤60∧(∀s∈l,s.1≠11)∧Cur c':=by
 obtain ⟨n,c1,e1,a1,b1,_,h1⟩:=φ3y h 21
 have b1:=b1 (by omega)
 obtain ⟨m,rfl⟩:∃m:Nat,n=(m:Int):=⟨n.toNat,by omega⟩
 have key:=φBE (step:=ψ3c.l0) (fun k (s:CurT×List φ2P×List Bool)=>(s.1,s.2.1,s.2.2,(k:Int))) (fun k s=>Cur s.1∧s.2.1.length+2 * k≤60∧(∀x∈s.2.1,x.1≠11)∧s.2.2.length=3) (fun b=>Cur b.1∧b.2.length≤60∧∀x∈b.2,x.1≠11)
  (fun rec s hi=>⟨_,by simp[ψ3c.l0];rfl,hi.1,by have:=hi.2.1;show s.2.1.length≤60;omega,hi.2.2.1⟩)
  (fun rec k s hi=>by
   obtain ⟨s,l,o⟩:=s
   obtain ⟨hi1,hi2,hi3,hi4⟩:=hi
   simp only at hi1 hi2 hi3 hi4
   have e0:((k+1:Nat):Int) > 0:=by omega
   have hw:=φJO (show k<2 ^ 60 by omega)
   obtain ⟨t,c3,f3,ht,h3⟩:=φCY hi1
   have q1:decide ((l.length+(0+1)) * 56≤140737488355328)=true:=by simp;omega
   -- the last part
   have fin:∀(x0:CurT) (x6:List Bool) (x8:φ2P),Cur x0→x6.length=3→x8.1≠11→∃s':CurT×List φ2P×List Bool,(Cur s'.1∧s'.2.1.length+2 * k≤60∧(∀x∈s'.2.1,x.1≠11)∧s'.2.2.length=3) ∧
     ((bif x8.1==9 then bif decide ((l.length+(0+1)) * 56≤140737488355328) then some (x0,l++[x8],List.replicate 3 false,((k+1:Nat):Int),((10,0,[],[],0):φ2P)) else none else some (x0,l,x6,((k+1:Nat):Int),x8)).bind fun x=>
      bif decide ((x.2.1.length+(0+1)) * 56≤140737488355328) then rec (x.1,x.2.1++[x.2.2.2.2],x.2.2.1,w64 (x.2.2.2.1 - 1)) else none)=rec (s'.1,s'.2.1,s'.2.2,(k:Int)):=by
    intro x0 x6 x8 hx0 hx6 hx8
    cases d9:(x8.1==9)
    ·simp only[cF,bS,q1,cT,hw]
     refine ⟨(x0,l++[x8],x6),⟨hx0,by simp;omega,fun y hy=>?_,hx6⟩,rfl⟩
     rcases mA.1 hy with hy | hy
     ·exact hi3 y hy
     ·rw[mZ.1 hy];exact hx8
    ·have q2:decide (((l++[x8]).length+(0+1)) * 56≤140737488355328)=true:=by simp;omega
     simp only[cT,q1,bS,q2,hw]
     refine ⟨(x0,l++[x8]++[(10,0,[],[],0)],List.replicate 3 false),⟨hx0,by simp;omega,fun y hy=>?_,rfl⟩,rfl⟩
     rcases mA.1 hy with hy | hy
     ·rcases mA.1 hy with hy | hy
      ·exact hi3 y hy
      ·rw[mZ.1 hy];exact hx8
     ·rw[mZ.1 hy];decide
   simp only[ψ3c.l0,e0,dT,cT,f3,bS,φ1r,lC,lN]
   by_cases d6:t.1≤6
   rotate_left
   ·simp only[d6,dF,cF,bS]
    exact fin c3 o t h3 hi4 ht
   simp only[d6,dT,cT]
   by_cases ds:0≤t.2.1∧t.2.1≤2
   rotate_left
   ·simp only[ds,dF,cF,bS]
    exact fin c3 o t h3 hi4 ht
   obtain ⟨n,hn⟩:∃n:Nat,t.2.1=(n:Int):=⟨t.2.1.toNat,by omega⟩
   have hin:inB t.2.1 o.length=true:=by rw[hn,φD,hi4];simp;omega
   simp only[ds,and_self,dT,cT,hin]
   have hset:∀b:Bool,(o.set t.2.1.toNat b).length=3:=fun b=>by rw[List.length_set];exact hi4
   -- a step that stays as it is
   have stay:∀(x0:CurT) (x8:φ2P),Cur x0→x8.1≠11→x8.2.1=t.2.1→∃s':CurT×List φ2P×List Bool,(Cur s'.1∧s'.2.1.length+2 * k≤60∧(∀x∈s'.2.1,x.1≠11)∧s'.2.2.length=3) ∧
     ((bif x8.1 != 5 then bif inB x8.2.1 o.length then some (x0,l,o.set x8.2.1.toNat (x8.1 != 6),((k+1:Nat):Int),x8) else none else bif inB x8.2.1 o.length then some (x0,l,o.set x8.2.1.toNat false,((k+1:Nat):Int),x8) else none).bind fun x=>
      (bif x.2.2.2.2.1==9 then bif decide ((x.2.1.length+(0+1)) * 56≤140737488355328) then some (x.1,x.2.1++[x.2.2.2.2],List.replicate 3 false,x.2.2.2.1,((10,0,[],[],0):φ2P)) else none else some (x.1,x.2.1,x.2.2.1,x.2.2.2.1,x.2.2.2.2)).bind fun x=>
       bif decide ((x.2.1.length+(0+1)) * 56≤140737488355328) then rec (x.1,x.2.1++[x.2.2.2.2],x.2.2.1,w64 (x.2.2.2.1 - 1)) else none)=rec (s'.1,s'.2.1,s'.2.2,(k:Int)):=by
    intro x0 x8 hx0 hx8 he
    rw[he]
    cases d5:(x8.1 != 5)
    ·simp only[cF,hin,cT,bS]
     exact fin x0 _ x8 hx0 (hset _) hx8
    ·simp only[hin,cT,bS]
     exact fin x0 _ x8 hx0 (hset _) hx8
   cases hb:rdA false o t.2.1
   ·obtain ⟨w,c4,f4,h4⟩:=φEx h3 8
    simp only[nF,cT,f4,bS]
    cases w
    ·simp only[nF,cT,bS,hin,hb,cF]
     have:=stay c4 (1,t.2.1,[],[],0) h4 (by show (1:Int)≠11;decide) rfl
     simp only[hin,cT] at this
     exact this
    ·simp only[nZ,cF,bS,hin,cT,hb]
     have:=stay c4 t h4 ht rfl
     simp only[hin,cT] at this
     exact this
   ·simp only[nZ,cF,bS,hin,cT,hb]
    cases d1:(t.1==1)
    ·simp only[cF,bS]
     exact stay c3 t h3 ht rfl
    ·obtain ⟨w,c4,f4,h4⟩:=φEx h3 8
     simp only[cT,f4,bS]
     cases w
     ·simp only[nF,cT,bS]
      exact stay c4 (5,t.2) h4 (by show (5:Int)≠11;decide) rfl
     ·simp only[nZ,cF,bS]
      exact stay c4 t h4 ht rfl)
  m (c1,[],List.replicate 3 false) ⟨h1,by simp;omega,fun x hx=>by simp at hx,rfl⟩ (by omega)
 obtain ⟨⟨c2,l⟩,e2,h2,hl,hs⟩:=key
 unfold ψ3c.f
 have hw:w64 (20+1)=21:=rfl
 have e2:lp ψ3c.l0 (c1,[],List.replicate 3 false,(m:Int))=some (c2,l):=e2
 simp only[hw,e1,e2,bS]
 exact ⟨l,c2,rfl,hl,hs,h2⟩
theorem φJ1 {c:CurT} (h:Cur c):∃e c',ψ3Z.f c=some (e,c')∧EI e∧Cur c':=by
 obtain ⟨v,c1,e1,hv,h1⟩:=φ6i h [100000,100000,300] (by decide)
 have:∃n:Nat,v=(n:Int)∧n≤100000∧8≤n:=by
  simp only[mc,List.not_mem_nil,or_false] at hv
  exact ⟨v.toNat,by omega,by omega,by omega⟩
 obtain ⟨n,rfl,n1,n2⟩:=this
 have e2:ψ2K.f (n:Int)=some (d0N n):=by
  unfold ψ2K.f
  rw[φ1r]
  have:(0:Int)≤(n:Int)∧(n:Int)≤100000:=by omega
  simp[this]
 obtain ⟨y,_,ho⟩:=φBs n n1
 rw[if_neg (by omega)] at ho
 have hk:φ5 (d0N n)=true:=by rw[φ3f];exact ⟨⟨by show (0:Int)≤(n:Int);omega,by show (n:Int)≤100000;omega⟩,⟨by show (-1:Int)≤-1;omega,by show (-1:Int)≤100000;omega⟩,by show 0≤130;decide,by show (0:Int)≤(n:Int);omega,by simp,List.Pairwise.nil⟩
 have e3:∃e0 z,ψ2P.f (d0N n)=some (e0,z)∧EI e0:=by
  unfold ψ2P.f
  rw[φFr (d0N n) (φ3T (φu hk) (by omega)),ho]
  exact ⟨_,_,rfl,⟨fun _=>φHn n n1 n2,fun c=>by simp at c,TB.new⟩⟩
 obtain ⟨e0,z,e3,hE⟩:=e3
 obtain ⟨l,c4,e4,hl,hs,h4⟩:=φHd h1
 have key:=φ8s (step:=ψ3Z.l0) (fun k (e:EngT)=>(c4,((false,((0,[]),[],0,0,0),([],0,0,false),[]):EngT),e,l,(k:Int))) l.length (fun k e=>EI e) (fun b=>b.1=c4∧EI b.2.2)
  (fun rec e hi=>⟨_,by simp[ψ3Z.l0];rfl,rfl,hi⟩)
  (fun rec k e hk hi=>by
   have e0:(k:Int)<(l.length:Int):=by omega
   have hw:=φJ (show k+1<9223372036854775808 by omega)
   obtain ⟨e',a,k1,k2⟩:=φLt hi l[k] (hs _ (gM hk))
   refine ⟨e',k2,?_⟩
   simp only[ψ3Z.l0,e0,dT,cT,φD,hk,φG,φ8 hk,φ1g,k1,bS,hw])
  e0 hE (by omega)
 obtain ⟨⟨b1,b2,b3⟩,k,kb1,kb2⟩:=key
 simp only at kb1 kb2
 subst kb1
 unfold ψ3Z.f
 have k:lp ψ3Z.l0 (b1,((false,((0,[]),[],0,0,0),([],0,0,false),[]):EngT),e0,l,0)=_:=k
 simp only[e1,e2,e3,e4,bS,k]
 exact ⟨_,_,rfl,kb2,h4⟩
structure DrawnE (e:EngT):Prop where
 up:e.1=true→¬e.2.2.1.2.2.1≥0→JR e.2.1 e.2.2.1
 len:e.2.2.2.length≤3
 tx:∀t∈e.2.2.2,t.2.1.length≤20∧t.2.2.length≤50
theorem EI.drawn {e:EngT} (h:EI e):DrawnE e:=⟨fun u _=>h.up u,by rw[h.tx.1];exact Nat.le_refl _,h.tx.2⟩
theorem φIF (l:List Int) (hl:l.length<2 ^ 60):∃e s,ψ2M.f l=some (e,s)∧DrawnE e:=by
 obtain ⟨c,e1,h1⟩:=φHf l hl
 obtain ⟨e,c2,e2,hE,h2⟩:=φJ1 h1
 obtain ⟨s,c3,e3,_,h3⟩:=φCY h2
 obtain ⟨k,c4,e4,_,_,_,h4⟩:=φ3y h3 14
 unfold ψ2M.f
 simp only[e1,e2,e3,e4,bS]
 cases d0:(k==0)
 rotate_left
 ·obtain ⟨v,c5,e5,_,h5⟩:=φ6i h4 [0,5,40,(-1),100000,9223372036854775807] (by decide)
  simp only[cT,e5,bS]
  exact ⟨_,_,rfl,hE.drawn⟩
 simp only[cF]
 cases d1:(k==1)
 rotate_left
 ·obtain ⟨v,c5,e5,a5,_,_,h5⟩:=φ3y h4 4
  simp only[cT,e5,bS]
  exact ⟨_,_,rfl,⟨fun _ hv=>absurd a5 hv,by show e.2.2.2.length≤3;rw[hE.tx.1];exact Nat.le_refl _,hE.tx.2⟩⟩
 simp only[cF]
 cases d2:(k==2)
 rotate_left
 ·have hw:w64 ((e.2.2.2.length:Int)+1)=4:=by rw[hE.tx.1];rfl
  obtain ⟨v,c5,e5,a5,b5,_,h5⟩:=φ3y h4 4
  have b5:=b5 (by omega)
  have q1:decide ((0:Int)≤v)=true:=by simpa using a5
  have q2:decide (v≤(e.2.2.2.length:Int))=true:=by rw[hE.tx.1];simp;omega
  simp only[cT,hw,e5,bS,q1,q2,Bool.and_self]
  exact ⟨_,_,rfl,⟨fun u _=>hE.up u,by show (e.2.2.2.take _).length≤3;rw[lT,hE.tx.1];omega,fun t ht=>hE.tx.2 t (List.mem_of_mem_take ht)⟩⟩
 ·exact ⟨_,_,rfl,hE.drawn⟩
theorem φJ3 (l:List TxnT) (hl:l.length<1000000) (ht:∀t∈l,t.2.1.length≤20∧t.2.2.length≤50):ψ1K.f l=some l:=by
 have key:=φ8s (step:=ψ1K.l0) (fun n (a:List TxnT)=>(a,l,(l.length:Int),(n:Int))) l.length (fun n a=>a=l.take n) (fun b=>b=l)
  (fun rec a hi=>⟨_,by simp[ψ1K.l0];rfl,by rw[hi,List.take_length]⟩)
  (fun rec n a hn hi=>by
   have e0:(n:Int)<(l.length:Int):=by omega
   have hw:=φJ (show n+1<9223372036854775808 by omega)
   have h:=ht _ (gM hn)
   have hc:=φL4 l[n] (by omega) (by omega)
   have hal:a.length=n:=by rw[hi,lT];omega
   have q:decide ((a.length+(0+1)) * 56≤140737488355328)=true:=by simp;omega
   refine ⟨a++[l[n]],by rw[hi,List.take_succ_eq_append_getElem hn],?_⟩
   simp only[ψ1K.l0,e0,dT,cT,φD,hn,φG,φ8 hn,φ1g,hc,bS,lC,lN,q,hw])
  [] (by simp) (by omega)
 obtain ⟨b,k,kb⟩:=key
 unfold ψ1K.f
 have k:lp ψ1K.l0 ([],l,(l.length:Int),0)=some b:=k
 rw[k,kb];rfl
theorem φGO {s:φA} {d:φ1} (h:SmallS s d):(φT s d).1.length≤1000:=by
 have:=φ95 s d
 have:=h.dir
 omega
theorem φGs {e:EngT} (hu:e.1=true) (hj:JR e.2.1 e.2.2.1) (hl:e.2.2.2.length≤3) (ht:∀t∈e.2.2.2,t.2.1.length≤20∧t.2.2.length≤50) {n:Nat} (hn:n<e.2.2.2.length) (ho:e.2.2.2[n].1=true) (x:List UInt8×List UInt8×Int) :
  ψI.f e (5,(n:Int),x)=some (if φ4U e.2.2.2[n] e.2.1.2.1=false then ((e.1,e.2.1,e.2.2.1,e.2.2.2.set n (false,[],[])),(7,[],[])) else
   ((e.1,(φ2K e.2.1 e.2.2.1 (netW e.2.2.2[n].2.2)).1,(φ2K e.2.1 e.2.2.1 (netW e.2.2.2[n].2.2)).2.1,e.2.2.2.set n (false,[],[])),((φ2K e.2.1 e.2.2.1 (netW e.2.2.2[n].2.2)).2.2,[],[]))):=by
 have hS:=hj.small
 have h1:=hS.ids
 have h2:=hS.dir
 have h3:=hS.sm.1
 have hT:=ht _ (gM hn)
 have hnl:=φ9g e.2.2.2[n].2.2
 unfold ψI.f ψ1F.f
 simp only[φ9m e.2.1 (by omega) (by omega),φ7P e.2.2.1 (by omega),φJ3 e.2.2.2 (by omega) ht,bS,φ1g]
 have hw:w64 ((e.2.2.2.length:Int) - 1)=(e.2.2.2.length:Int) - 1:=φE (by omega) (by omega)
 have hin:(0:Int)≤(n:Int)∧(n:Int)≤(e.2.2.2.length:Int) - 1:=by omega
 have hfit:ψ1n.f e.2.2.2 (5,(n:Int),x)=some true:=by
  unfold ψ1n.f
  simp only[φ25,hw,hin,and_self,dT,bS,cT,φD,hn,φG,φ8 hn,ho]
  rfl
 have d10:((5:Int)==10)=false:=rfl
 have d11:((5:Int)==11)=false:=rfl
 have d7:((5:Int)==7)=false:=rfl
 have d8:((5:Int)==8)=false:=rfl
 have d9:((5:Int)==9)=false:=rfl
 have d1:((5:Int)==1)=false:=rfl
 have d6:((5:Int)==6)=false:=rfl
 have d2:((5:Int)==2)=false:=rfl
 have d3:((5:Int)==3)=false:=rfl
 have d4:((5:Int)==4)=false:=rfl
 unfold ψL.f ψK.f
 simp only[d10,d11,d7,d8,d9,d1,d6,d2,d3,d4,hu,nZ,cF,cT,hfit,bS,φD,hn,dT,φG,φ8 hn,φ1g,beq_self_eq_true,tN,φLP e.2.2.2[n] e.2.1.2.1 (by omega) (by omega)]
 cases φ4U e.2.2.2[n] e.2.1.2.1
 ·simp only[nF,cT,bS,if_true]
 ·simp only[nZ,cF,φM2 e.2.2.2[n] (by omega),bS,φJ6 hS (netW e.2.2.2[n].2.2) (by omega),Bool.true_eq_false,if_false]
theorem φLX (x0:List Int) (w0:wfD (.sl false (.int .u8)) x0):ψ28.f x0=some true:=by
 unfold ψ28.f
 rw[φLx,bS]
 by_cases cb:(x0.length:Int) > 1048576
 ·simp[cb]
 simp only[cb,dF,cF]
 obtain ⟨e,s,ed,hE⟩:=φIF x0 (by omega)
 simp only[ed,bS]
 cases hu:e.1
 ·simp only[nF,cT]
 simp only[nZ,cF]
 by_cases s0:s.2.1<0
 ·simp only[s0,dT,cT]
 simp only[s0,dF,cF]
 by_cases s1:s.2.1≥(e.2.2.2.length:Int)
 ·simp only[s1,dT,cT]
 simp only[s1,dF,cF]
 obtain ⟨n,hn⟩:∃n:Nat,s.2.1=(n:Int):=⟨s.2.1.toNat,by omega⟩
 have hn3:n<e.2.2.2.length:=by omega
 have hin:inB s.2.1 e.2.2.2.length=true:=by rw[hn,φD];simp[hn3]
 have hrd:rdA (false,[],[]) e.2.2.2 s.2.1=e.2.2.2[n]:=by rw[hn,φG,φ8 hn3]
 simp only[hin,hrd,cT]
 cases ho:e.2.2.2[n].1
 ·simp only[nF,cT]
 simp only[nZ,cF]
 by_cases hf:e.2.2.1.2.2.1≥0
 ·simp only[hf,dT,cT]
 simp only[hf,dF,cF]
 have hj:=hE.up hu hf
 have hdn:e.2.2.1.2.2.2=false:=hj.fre.up
 have hS:=hj.small
 obtain ⟨hlim,hus⟩:=hS.lim
 have h2:=hS.dir
 have hT:=hE.tx _ (gM hn3)
 have hst:((5:Int),s.2)=((5:Int),(n:Int),s.2.2):=by rw[←hn]
 have hdl:=φGO hS
 have hd0:(φT e.2.1 e.2.2.1).2=0:=by rw[φ2q hj.ok]
 have hte:((true,e.2.2.2[n].2):TxnT)=e.2.2.2[n]:=by rw[←ho]
 have hmap:ψ2O.f e=some (φT e.2.1 e.2.2.1):=by
  unfold ψ2O.f
  rw[hu]
  simp only[nZ,cF,φCM e.2.1 e.2.2.1 hlim hus (by omega),bS]
 have hset:(e.2.2.2.set n (false,[],[])).length=e.2.2.2.length:=List.length_set ..
 have hin2:inB s.2.1 (e.2.2.2.set n ((false,[],[]):TxnT)).length=true:=by rw[hset];exact hin
 have hrd2:rdA (false,[],[]) (e.2.2.2.set n ((false,[],[]):TxnT)) s.2.1=(false,[],[]):=by
  rw[hn,φG,φ8 (by rw[hset];exact hn3),List.getElem_set_self]
 have hne:(((e.2.2.2.set n ((false,[],[]):TxnT)).length:Int) != (e.2.2.2.length:Int))=false:=by rw[hset];simp
 simp only[hdn,cF,φFc (true,e.2.2.2[n].2) e.2.1.2.1 (by show e.2.2.2[n].2.1.length<_;omega) (by omega),hmap,hst,φGs hu hj hE.len hE.tx hn3 ho s.2.2,bS]
 rw[hte]
 have himap:∀(S:φA) (D:φ1) (l:List TxnT),SmallS S D→ψG.f (e.1,S,D,l)=some (φT S D):=fun S D l hSD=>by
  obtain ⟨k1,k2⟩:=hSD.lim
  have k3:=hSD.dir
  unfold ψG.f
  rw[hu]
  simp only[nZ,cF,φDw S D k1 k2 (by omega),bS]
 cases hv:φ4U e.2.2.2[n] e.2.1.2.1
 ·have z1:((7:Int)==7)=true:=rfl
  have hr:((e.2.2.2[n].2.1.length:Int)==0)=false:=by
   cases hl:e.2.2.2[n].2.1 with
   | nil=>unfold φ4U at hv;rw[hl] at hv;simp at hv
   | cons a l=>simp only[lC,beq_eq_false_iff_ne,ne_eq];omega
  simp only[if_true,himap _ _ _ hS,bS,z1,hr,hne,hin2,hrd2,cT,cF,φK,beq_self_eq_true,hd0]
  have z2:(true==false)=false:=rfl
  have z3:((7:Int)==0)=false:=rfl
  simp only[z2,z3,cF,bS,φK,φ9q _ _ (show (φT e.2.1 e.2.2.1).1.length<2 ^ 62 by omega),dT,beq_self_eq_true,cT]
 ·obtain ⟨a1,a2,a3,a4⟩:=φE9 hj (netW e.2.2.2[n].2.2)
  have hnl:=φ9g e.2.2.2[n].2.2
  simp only[Bool.true_eq_false,if_false]
  generalize φ2K e.2.1 e.2.2.1 (netW e.2.2.2[n].2.2)=M at *
  obtain ⟨S,D,c⟩:=M
  simp only at a1 a2 a3 a4 ⊢
  have z1:(c==7)=false:=by have:=a2.2;simp;omega
  have z2:(false==true)=false:=rfl
  have hdl2:=φGO a1.small
  simp only[himap _ _ _ a1.small,bS,z1,z2,hne,hin2,hrd2,cT,cF]
  have fin:(bif c==0 then bif (φT e.2.1 e.2.2.1).2==0 then bif (φT S D).2==0 then (ψ2e.f e.2.2.2[n]).bind fun t9=>(ψ2T.f (φT e.2.1 e.2.2.1).1 t9 e.2.1.2.2.1).bind fun t10=>(ψ2w.f (φT S D).1 t10).bind fun t11=>some t11 else some false
    else bif (φT e.2.1 e.2.2.1).2==(φT S D).2 then (ψ2w.f (φT e.2.1 e.2.2.1).1 (φT S D).1).bind fun t12=>some t12 else some false
    else bif (φT e.2.1 e.2.2.1).2==(φT S D).2 then (ψ2w.f (φT e.2.1 e.2.2.1).1 (φT S D).1).bind fun t13=>some t13 else some false)=some true:=by
   by_cases hc:c=0
   ·have q:=a3 hc
    subst hc
    simp only[beq_self_eq_true,cT,hd0,q,φ9F e.2.2.2[n] (by omega),bS,φHX (φT e.2.1 e.2.2.1).1 (netW e.2.2.2[n].2.2) e.2.1.2.2.1 (by omega)]
    rw[q] at hdl2
    simp only[φ9q _ _ (show (φ72 (φT e.2.1 e.2.2.1).1 (netW e.2.2.2[n].2.2) e.2.1.2.2.1).length<2 ^ 62 by simp only at hdl2;omega),bS,dT]
   ·have q:=a4 hc
    have z3:(c==0)=false:=by simpa using hc
    simp only[z3,cF,q,beq_self_eq_true,cT,φ9q _ _ (show (φT e.2.1 e.2.2.1).1.length<2 ^ 62 by omega),bS,dT]
  cases ((e.2.2.2[n].2.1.length:Int)==0)
  ·simp only[cF,bS,φK]
   exact fin
  ·simp only[cT,bS,φK]
   exact fin
end Go.Rf.G
