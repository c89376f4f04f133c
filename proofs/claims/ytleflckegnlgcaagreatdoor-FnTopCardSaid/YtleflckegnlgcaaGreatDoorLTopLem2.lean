import Derived.Test.YtleflckegnlgcaaGreatDoorLTopLem1
open Option renaming bind_some→bS
open List renaming length_append→lA,append_assoc→aA,mem_cons_of_mem→mC,mem_append→mA,mem_append_right→mR,mem_append_left→mL,mem_cons→mc,drop_eq_getElem_cons→dG,length_take→lT,length_drop→lD,mem_map→mM,length_map→lM,length_cons→lC,length_nil→lN,getElem_mem→gM,map_append→mp,mem_singleton→mZ,mem_cons_self→κ0,take_succ_eq_append_getElem→κ1,map_cons→κ5,append_nil→κ7,nil_append→κ8,length_singleton→κA,drop_zero→κC,take_append_drop→κE,cons_append→κF,replicate→κH,flatMap_append→κJ,foldl_cons→κL,nodup_append→κM,take_length→κN,drop_left→κQ,all_eq_true→κR,nodup_cons→κS,range'→κT,foldl_append→κX,pairwise_cons→κY,mem_or_eq_of_mem_set→κc,pairwise_append→κd,mem_of_mem_take→κe
open Bool renaming and_eq_true→bA,eq_false_or_eq_true→bE,not_true→nZ,not_false→nF,true_and→tA,not_not→nn,false_eq_true→κ3,true_eq_false→κ9,false_and→κD,or_eq_false_iff→κI,not_eq_true'→κO,and_true→κP,false_or→κU,or_eq_true→κW
open Int renaming toNat_natCast→tN,ofNat_lt→oL,le_refl→κK
open Nat renaming lt_or_ge→κ2,zero_le→κ4,le_refl→κ6,eq_of_beq_eq_true→κB,lt_of_lt_of_le→κG,zero_add→κV,pow_succ→κZ,mod_eq_of_lt→κb,le_trans→κf
open Array renaming length_toList→κa
set_option linter.unusedVariables false
set_option linter.unusedSimpArgs false
namespace Go.Rf.G
open Go Go.Rf
set_option synthInstance.maxSize 4000
def φ1O (n t:List UInt8) (w:φE):φE:=φA (φH n) (φA (φN n t) (φA (φW n) (φA (φD n) w)))
def φ6c (n t:List UInt8) (w:φE):φE:=φ1A (φH n) (φ1A (φN n t) (φ1A (φW n) (φ1A (φD n) w)))
theorem φEQ (n t:List UInt8) (w:φE):φ6c n t (φB w)=φB (φ1O n t w):=by
 unfold φ6c φ1O
 rw[φ2q,φ2q,φ2q,φ2q]
theorem φKS {k m:Nat} {w:φE} (h:dl k w.1) (n t:List UInt8) (h1:k+1+n.length+t.length≤m):dl m (φ6c n t w).1:=by
 have g1:=φ5U (op:=φD n) h (κ6 _) (φ8e h n)
 have g2:=φ5U (op:=φW n) (m:=k+1+n.length) g1 (by omega) (φ8F g1 n (by omega) (by omega))
 have g3:=φ5U (op:=φN n t) (m:=m) g2 (by omega) (φ8N g2 n t (by omega))
 exact φ5U (op:=φH n) g3 (κ6 _) (φHj g3 n)
theorem φKk {k m:Nat} {w:φE} (h:dl k w.1) (n t:List UInt8) (h1:k+1+n.length+t.length≤m):dl m (φ1O n t w).1:=by
 have g1:=φ6a (op:=φD n) h (κ6 _) (φ8e h n)
 have g2:=φ6a (op:=φW n) (m:=k+1+n.length) g1 (by omega) (φ8F g1 n (by omega) (by omega))
 have g3:=φ6a (op:=φN n t) (m:=m) g2 (by omega) (φ8N g2 n t (by omega))
 exact φ6a (op:=φH n) g3 (κ6 _) (φHj g3 n)
theorem φG9 (w:φE) (n t:List UInt8) {k:Nat} (h:dl k w.1) (hk:k+1+n.length+t.length≤1000000000):ψ20.f w n t=some (φ6c n t w):=by
 have g1:=φ5U (op:=φD n) h (κ6 _) (φ8e h n)
 have g2:=φ5U (op:=φW n) (m:=k+1+n.length) g1 (by omega) (φ8F g1 n (by omega) (by omega))
 have g3:=φ5U (op:=φN n t) (m:=k+1+n.length+t.length) g2 (by omega) (φ8N g2 n t (by omega))
 unfold ψ20.f ψ1x.f φ6c
 simp only[φ5A w n h (by omega),bS,φ9N _ n g1 (by omega) (by omega),φB1 _ n t g2 (by omega) (by omega),φ7M _ n g3 (by omega)]
theorem φ2s {op:φ1→φ1×Int} {d:φ1} {c:Int} (h:c≠0):φA op (d,c)=(d,c):=by
 unfold φA;simp[h]
theorem φ2V {op:φ1→φ1×Int} {d:φ1}:φA op (d,0)=op d:=by
 unfold φA;simp
theorem φGh (d:φ1) (n:List UInt8) {k:Nat} (h:dl k d) (hk:k≤1000000000) (hn:n.length<2 ^ 62):ψ3A.f d n=some (φA (φW n) (φD n d)):=by
 have hd:=φ1X h hk
 unfold ψ3A.f
 rw[φ4S d n (by have:=hd.1;omega),bS]
 by_cases c2:φ1j d.1 n≥0
 ·have e:φD n d=φ2v n d:=by unfold φD;simp[c2]
  have g:=φDx h n
  rw[e]
  have er:ψ2q.f d n=some (φ2v n d):=φHc d n hd
  simp only[c2,dT,cT,er,bS]
  generalize φ2v n d=r at *
  obtain ⟨x,c⟩:=r
  by_cases c3:c=0
  ·have c4:(c != 0)=false:=by simpa using c3
   subst c3
   rw[φ2V]
   simp only[c4,cF,bS,φf,φFw x n (φ1X g hk) hn];rfl
  ·have c4:(c != 0)=true:=by simpa using c3
   rw[φ2s c3]
   simp only[c4,cT,bS,φp]
 ·have e:φD n d=(d,0):=by unfold φD;simp[c2]
  rw[e,φ2V]
  simp only[c2,dF,cF,bS,φf,φFw d n hd hn];rfl
theorem φF4 (d:φ1) (n t:List UInt8) {k:Nat} (h:dl k d) (hk:k+1+n.length+t.length≤1000000000):ψ39.f d n t=some (φ1O n t (d,0)):=by
 have g1:=φ8e h n
 have g2:dl (k+1+n.length) (φA (φW n) (φD n d)).1:=φ6a (op:=φW n) g1 (by omega) (φ8F g1 n (by omega) (by omega))
 have g3:=φ6a (op:=φN n t) (m:=k+1+n.length+t.length) g2 (by omega) (φ8N g2 n t (by omega))
 unfold ψ39.f φ1O
 rw[φGh d n h (by omega) (by omega),bS,φ2V]
 generalize φA (φW n) (φD n d)=r at *
 obtain ⟨x,c⟩:=r
 have e2:(bif c==0 then (ψ2I.f x n t).bind fun (t2_0,t2_1)=>some (n,(([],0,0,false):φ1),t2_0,t2_1) else some (n,([],0,0,false),x,c))=some (n,([],0,0,false),(φA (φN n t) (x,c)).1,(φA (φN n t) (x,c)).2):=by
  by_cases c0:c=0
  ·subst c0
   rw[φ2V]
   simp only[show ((0:Int)==0)=true from rfl,cT,φA0 x n t (φ1X g2 (by omega)) (by omega),bS];rfl
  ·have c1:(c==0)=false:=by simpa using c0
   rw[φ2s c0,c1];rfl
 simp only[e2,bS]
 generalize φA (φN n t) (x,c)=r at *
 obtain ⟨x,c⟩:=r
 by_cases c0:c=0
 ·subst c0
  rw[φ2V]
  simp only[show ((0:Int)==0)=true from rfl,cT,φHk x n (φ1X g3 (by omega)),bS];rfl
 ·have c1:(c==0)=false:=by simpa using c0
  rw[φ2s c0]
  simp only[c1,cF]
def sPut (v:φQ) (w:φE):φE:=φA (φ2Z [116,101,109,112] [108,105,118,101]) (φ1O [116,101,109,112] (φn v) w)
def wPut (v:φQ) (w:φE):φE:=φ1A (φ2Z [116,101,109,112] [108,105,118,101]) (φ6c [116,101,109,112] (φn v) w)
theorem φCO (v:φQ) (w:φE):wPut v (φB w)=φB (sPut v w):=by
 unfold wPut sPut
 rw[φEQ,φ2q]
theorem φBp (w:φE) (v:φQ) {k:Nat} (h:dl k w.1) (hk:k+1000≤1000000000) (hl:v.2.length<2 ^ 62):ψ27.f w v=some (wPut v w):=by
 have h1:=φ5Q v
 have g:=φKS h [116,101,109,112] (φn v) (m:=k+1000) (by show k+1+4+_≤_;omega)
 unfold ψ27.f wPut
 simp only[φLM v hl,bS,φG9 w [116,101,109,112] (φn v) h (show k+1+4+(φn v).length≤1000000000 by omega),φKD _ [116,101,109,112] [108,105,118,101] g hk (by show 4<2 ^ 62;decide)]
def φAq (d:φ1) (v:φQ):φ1×Int:=if φ3 d=false∨φm v=false then (d,4) else φB (sPut v (d,0))
theorem φN8 (d:φ1) (v:φQ) {k:Nat} (h:dl k d) (hk:k+1000≤1000000000) (hl:v.2.length<2 ^ 62):ψ2i.f d v=some (φAq d v):=by
 have hd:=φ1X h (by omega)
 have h1:=φ5Q v
 unfold ψ2i.f φAq
 rw[φ91 d hd,bS]
 rcases bE (φ3 d) with k1 | k1
 rotate_left
 ·simp[k1,φ9S d (by have:=hd.1;omega)]
 rcases bE (φm v) with k2 | k2
 rotate_left
 ·simp[k1,k2,φ8x v hl,φ9S d (by have:=hd.1;omega)]
 have g:=φKk (w:=(d,0)) h [116,101,109,112] (φn v) (m:=k+1000) (by show k+1+4+_≤_;omega)
 simp only[k1,k2,nZ,cF,φ8x v hl,φAv v hl,bS,φF4 d [116,101,109,112] (φn v) h (show k+1+4+(φn v).length≤1000000000 by omega),κ9,or_self,if_false]
 unfold sPut
 generalize φ1O [116,101,109,112] (φn v) (d,0)=r at *
 obtain ⟨x,c⟩:=r
 by_cases c0:c=0
 ·subst c0
  rw[φ2V]
  simp only[show ((0:Int)==0)=true from rfl,cT,φIc x [116,101,109,112] [108,105,118,101] (φ1X g hk) (show 4<2 ^ 62 by decide),bS,φ4X];rfl
 ·have c1:(c==0)=false:=by simpa using c0
  rw[φ2s c0]
  simp only[c1,cF,bS,φ4X];rfl
abbrev φ8:=φQ×List φC×Int×Int×Int
theorem φB2 (n:Nat):Lib.itoa (n:Int)=Lib.decDigits n:=by
 unfold Lib.itoa
 rw[if_neg (by omega),tN]
theorem φ6K:∀(k n:Nat),n<10 ^ (k+1)→(Lib.decDigits n).length≤k+1
 | 0,n,h=>by rw[Lib.decDigits,dif_pos (by simpa using h)];simp
 | k+1,n,h=>by
  rw[Lib.decDigits]
  split
  ·simp
  ·have:=φ6K k (n / 10) (by rw[Nat.div_lt_iff_lt_mul (by omega)];rw[κZ] at h;exact h)
   simp only[lA,κA];omega
def digs (n:Nat):List UInt8:=if n=0 then [] else Lib.decDigits n
theorem φ4C {n:Nat} (h:n≠0):digs n=digs (n / 10)++[UInt8.ofNat (48+n % 10)]:=by
 unfold digs
 rw[if_neg h,Lib.decDigits]
 split
 ·rename_i h2
  rw[if_pos (by omega),κb h2];rfl
 ·rename_i h2
  rw[if_neg (by omega)]
theorem φHd (n:Nat) (hn:n<1000000000000000000):ψ2L.f (n:Int)=some (Lib.decDigits n):=by
 unfold ψ2L.f
 by_cases c:n=0
 ·subst c
  rw[Lib.decDigits];rfl
 have c1:((n:Int)==0)=false:=by simpa using c
 have c2:decide ((n:Int)<0)=false:=dnn (by omega)
 have key:=φ73 (step:=ψ2L.l0) (a:=((n:Int),([]:List UInt8),false)) (fun a=>(digs a.1.toNat++a.2.1,false)) (fun a=>0≤a.1∧a.2.2=false∧a.2.1.length+a.1.toNat≤n) (fun a=>a.1.toNat)
  (fun rec a ha ih=>by
   obtain ⟨x,s,f⟩:=a
   obtain ⟨h0,hf,hl⟩:=ha
   simp only at hf hl h0 ih ⊢
   subst hf
   obtain ⟨m,rfl⟩:∃m:Nat,x=(m:Int):=⟨x.toNat,by omega⟩
   simp only[tN] at hl ih ⊢
   by_cases d:m=0
   ·subst d
    simp[ψ2L.l0,digs]
   ·have d1:((m:Int) != 0)=true:=by simpa using d
    have e1:Int.tmod (m:Int) 10=((m % 10:Nat):Int):=rfl
    have e2:w64 (Int.tdiv (m:Int) 10)=((m / 10:Nat):Int):=by
     rw[show Int.tdiv (m:Int) 10=((m / 10:Nat):Int) from rfl];exact φ3h (by omega)
    have e3:decide (((m % 10:Nat):Int)<0)=false:=dnn (by omega)
    have e4:φ1R [IntKind.wrap .u8 (w64 (48+((m % 10:Nat):Int)))]=[UInt8.ofNat (48+m % 10)]:=by
     have e:w64 (48+((m % 10:Nat):Int))=((48+m % 10:Nat):Int):=by rw[φI (by omega) (by omega)];omega
     rw[e]
     unfold φ1R
     simp only[κ5,List.map_nil,φ6y]
    have hb:([UInt8.ofNat (48+m % 10)]:List UInt8).length+s.length≤9223372036854775807:=by show 1+_≤_;omega
    have ih:=ih (((m / 10:Nat):Int),[UInt8.ofNat (48+m % 10)]++s,false) ⟨by simp only;omega,rfl,by simp only[lA,κA,tN];omega⟩ (by simp only[tN];omega)
    simp only[tN] at ih
    simp only[ψ2L.l0,d1,cT,e1,e2,e3,cF,bS,e4,hb,dT,ih]
    rw[φ4C d,aA])
  ⟨by simp only;omega,rfl,by simp⟩ (by simp only[tN];omega)
 simp only[c1,c2,cF,key,bS,tN]
 unfold digs
 simp[c]
theorem φKE (n:Nat) (hn:n<1000000000000000000):strconv_Itoa.f (n:Int)=some (Lib.decDigits n):=by
 unfold strconv_Itoa.f
 have c:(decide (-9223372036854775808≤(n:Int)) && decide ((n:Int)≤9223372036854775807))=true:=by simp;omega
 rw[c,φB2];rfl
def φ2K (word:List UInt8) (id:Int):List UInt8:=if 1≤id∧id≤100000 then word++Lib.decDigits id.toNat else []
def φ0 (id:Int):List UInt8:=φ2K [115,101,103] id
def φL (id:Int):List UInt8:=φ2K [104,105,110,116] id
theorem φHO (word:List UInt8) (id:Int) (hw:word.length≤100):ψ1a.f word id=some (φ2K word id):=by
 unfold ψ1a.f φ2K ψ6.f
 rw[φ1a,bS]
 by_cases h:1≤id∧id≤100000
 ·obtain ⟨n,rfl⟩:∃n:Nat,id=(n:Int):=⟨id.toNat,by omega⟩
  have hl:=φ6K 5 n (by show n<1000000;omega)
  have hb:word.length+(Lib.decDigits n).length≤9223372036854775807:=by omega
  simp only[h,and_self,dT,nZ,cF,φKE n (by omega),bS,hb,cT,if_true,tN]
 ·simp[h]
theorem φ3E (id:Int):ψy.f id=some (φ0 id):=by
 unfold ψy.f φ0
 rw[φHO [115,101,103] id (by show 3≤100;decide),bS]
theorem φ4W (id:Int):ψ2v.f id=some (φ0 id):=by
 unfold ψ2v.f φ0 φ2K
 rw[φ2J,bS]
 by_cases h:1≤id∧id≤100000
 ·obtain ⟨n,rfl⟩:∃n:Nat,id=(n:Int):=⟨id.toNat,by omega⟩
  have hl:=φ6K 5 n (by show n<1000000;omega)
  have hb:([115,101,103]:List UInt8).length+(Lib.decDigits n).length≤9223372036854775807:=by show 3+_≤_;omega
  simp only[h,and_self,dT,nZ,cF,φHd n (by omega),bS,hb,cT,if_true,tN]
 ·simp[h]
theorem φ4H (id:Int):(φ0 id).length≤9:=by
 unfold φ0 φ2K
 split
 ·have hl:=φ6K 5 id.toNat (by show _<1000000;omega)
  rw[lA];show 3+_≤9;omega
 ·simp
def φ2 (d:φ1) (n:List UInt8):List UInt8×Bool:=
 if φ3 d=false then ([],false) else
 match d.1.findIdx? (fun f=>f.1==n) with
 | some i=>((d.1.getD i ([],[],0)).2.1,true)
 | none=>([],false)
theorem φ4j (d:φ1) (n:List UInt8) (h:dlim d):ψP.f d n=some (φ2 d n):=by
 have hl:=h.1
 unfold ψP.f φ2
 rw[φ4R d n (by omega),bS,φ5q d h]
 rcases φw d.1 n with ⟨e,_⟩ | ⟨i,hi,e,_⟩
 ·rw[e,φ1C e];simp
 ·rw[e,φ17 e]
  rcases bE (φ3 d) with k | k
  ·simp only[dnn (show (0:Int)≤(i:Int) by omega),cF,bS,k,nZ,φ45 hi,cT,φ42 hi,φ9 hi,κ9,if_false]
  ·simp only[dnn (show (0:Int)≤(i:Int) by omega),cF,bS,k,nF,cT,if_true]
theorem φ8j (d:φ1) (n:List UInt8) (h:dlim d):ψ2S.f d n=some (φ2 d n):=by
 have hl:=h.1
 unfold ψ2S.f φ2
 rw[φ91 d h,bS,φ4S d n (by omega)]
 rcases bE (φ3 d) with k | k
 rotate_left
 ·simp[k]
 rcases φw d.1 n with ⟨e,_⟩ | ⟨i,hi,e,_⟩
 ·rw[e,φ1C e];simp[k]
 ·rw[e,φ17 e]
  simp only[dnn (show (0:Int)≤(i:Int) by omega),cF,bS,k,nZ,φ45 hi,cT,φ42 hi,φ9 hi,κ9,if_false]
theorem φ4k (d:φ1) (n:List UInt8) (h:dlim d):(φ2 d n).1.length≤φK d.1:=by
 unfold φ2
 split
 ·simp
 ·rcases φw d.1 n with ⟨e,_⟩ | ⟨i,hi,e,_⟩
  ·rw[φ1C e];simp
  ·rw[φ17 e]
   simp only[φ9 hi]
   exact φCQ (gM hi)
def segN (d:φ1) (l:List Int):Nat:=sumN (fun id=>(φ2 d (φ0 id)).1.length) l
def varN (n:Nat):List UInt8:=vLow n++[UInt8.ofNat (vTop n)]
theorem φ54 (n:Nat) (h:n≤562949953421311):varT (n:Int)=varN n:=by
 unfold varT varN
 rw[if_pos (by omega),tN]
theorem φ5m {n:Nat} (h:n<128):varN n=[UInt8.ofNat n]:=by
 unfold varN
 rw[vLow,vTop,dif_pos h,dif_pos h];rfl
theorem φA7 {n:Nat} (h:¬n<128):varN n=UInt8.ofNat (128+n % 128)::varN (n / 128):=by
 unfold varN
 rw[vLow,vTop,dif_neg h,dif_neg h];rfl
theorem φ8G (k n:Nat) (h:n<128 ^ (k+1)):1≤(varN n).length∧(varN n).length≤k+1:=by
 have:=φ9c k n h
 unfold varN
 rw[lA,κA];omega
def rvT:Nat→Bool→List UInt8→Option (Nat×Nat)
 | 0,_,_=>none
 | _+1,_,[]=>none
 | f+1,first,x::r=>if x.toNat<128 then (if x.toNat=0∧first=false then none else some (x.toNat,1)) else (rvT f false r).map fun p=>(x.toNat % 128+128 * p.1,p.2+1)
theorem φCj:∀(f:Nat) (first:Bool) (s:List UInt8) (n k:Nat),rvT f first s=some (n,k)→(first=false→1≤n)
 | 0,_,_,_,_,h=>by simp[rvT] at h
 | f+1,_,[],_,_,h=>by simp[rvT] at h
 | f+1,first,x::r,n,k,h=>by
  intro hf
  unfold rvT at h
  split at h
  ·split at h
   ·simp at h
   ·rename_i h1 h2
    simp only[Option.some.injEq,Prod.mk.injEq] at h
    have:¬x.toNat=0:=fun e=>h2 ⟨e,hf⟩
    omega
  ·cases hr:rvT f false r with
   | none=>rw[hr] at h;simp at h
   | some p=>
    rw[hr] at h
    simp only[Option.map_some,Option.some.injEq,Prod.mk.injEq] at h
    have:=φCj f false r p.1 p.2 hr rfl
    omega
theorem φ4l:∀(f:Nat) (first:Bool) (s:List UInt8) (n k:Nat),rvT f first s=some (n,k)→1≤k∧k≤f∧k≤s.length∧s.take k=varN n∧n<128 ^ f
 | 0,_,_,_,_,h=>by simp[rvT] at h
 | f+1,_,[],_,_,h=>by simp[rvT] at h
 | f+1,first,x::r,n,k,h=>by
  have hx:=x.toNat_lt
  unfold rvT at h
  split at h
  ·rename_i h1
   split at h
   ·simp at h
   ·simp only[Option.some.injEq,Prod.mk.injEq] at h
    obtain ⟨rfl,rfl⟩:=h
    refine ⟨κ6 _,by omega,by simp,?_,?_⟩
    ·rw[φ5m h1];simp
    ·exact κG h1 (by rw[κZ];have:=Nat.pow_pos (n:=f) (show 0<128 by omega);omega)
  ·rename_i h1
   cases hr:rvT f false r with
   | none=>rw[hr] at h;simp at h
   | some p=>
    obtain ⟨m,j⟩:=p
    rw[hr] at h
    simp only[Option.map_some,Option.some.injEq,Prod.mk.injEq] at h
    obtain ⟨rfl,rfl⟩:=h
    obtain ⟨q1,q2,q3,q4,q5⟩:=φ4l f false r m j hr
    have hm:=φCj f false r m j hr rfl
    have hbig:¬x.toNat % 128+128 * m<128:=by omega
    refine ⟨by omega,by omega,by simp;omega,?_,?_⟩
    ·rw[φA7 hbig,List.take_succ_cons,q4]
     have e1:(x.toNat % 128+128 * m) % 128=x.toNat % 128:=by omega
     have e2:(x.toNat % 128+128 * m) / 128=m:=by omega
     have e3:128+x.toNat % 128=x.toNat:=by omega
     rw[e1,e2,e3];simp
    ·rw[κZ];omega
theorem φ8c:∀(f:Nat) (first:Bool) (n:Nat) (r:List UInt8),n<128 ^ f→(first=false→1≤n)→1≤f→rvT f first (varN n++r)=some (n,(varN n).length)
 | 0,_,_,_,_,_,h=>by omega
 | f+1,first,n,r,h,h1,_=>by
  by_cases c:n<128
  ·rw[φ5m c,List.singleton_append]
   unfold rvT
   have e:(UInt8.ofNat n).toNat=n:=by simp;omega
   rw[e,if_pos c,if_neg (by intro k;have:=h1 k.2;omega)];rfl
  ·rw[φA7 c,κF]
   unfold rvT
   have e:(UInt8.ofNat (128+n % 128)).toNat=128+n % 128:=by simp;omega
   have hf:1≤f:=by
    rcases Nat.eq_zero_or_pos f with k | k
    ·subst k;simp at h;omega
    ·exact k
   rw[e,if_neg (by omega),φ8c f false (n / 128) r (by rw[Nat.div_lt_iff_lt_mul (by omega)];rw[κZ] at h;exact h) (fun _=>by omega) hf]
   simp only[Option.map_some,lC]
   congr 2;omega
def decV (l:List UInt8):Nat:=l.foldr (fun x a=>x.toNat % 128+128 * a) 0
theorem φDU:∀(l:List UInt8),decV l<128 ^ l.length
 | []=>by simp[decV]
 | x::l=>by
  have:=φDU l
  show x.toNat % 128+128 * decV l<128 ^ (l.length+1)
  rw[κZ];omega
theorem φEj:∀(k n:Nat),n<128 ^ (k+1)→decV (varN n)=n
 | 0,n,h=>by
  have h:n<128:=by simpa using h
  rw[φ5m h]
  show (UInt8.ofNat n).toNat % 128+128 * 0=n
  have e:(UInt8.ofNat n).toNat=n:=by simp;omega
  rw[e];omega
 | k+1,n,h=>by
  by_cases c:n<128
  ·rw[φ5m c]
   show (UInt8.ofNat n).toNat % 128+128 * 0=n
   have e:(UInt8.ofNat n).toNat=n:=by simp;omega
   rw[e];omega
  ·rw[φA7 c]
   show (UInt8.ofNat (128+n % 128)).toNat % 128+128 * decV (varN (n / 128))=n
   have e:(UInt8.ofNat (128+n % 128)).toNat=128+n % 128:=by simp;omega
   rw[e,φEj k (n / 128) (by rw[Nat.div_lt_iff_lt_mul (by omega)];rw[κZ] at h;exact h)]
   omega
def φx (s:List UInt8):Int×Int:=match rvT 7 true s with
 | some (n,k)=>((n:Int),(k:Int))
 | none=>(0,0)
theorem φB0 (s:List UInt8):φx s=(0,0)∨∃n k:Nat,rvT 7 true s=some (n,k)∧φx s=((n:Int),(k:Int))∧1≤k∧k≤7∧k≤s.length∧s.take k=varN n∧n<562949953421312:=by
 unfold φx
 cases h:rvT 7 true s with
 | none=>exact .inl rfl
 | some p=>
  obtain ⟨n,k⟩:=p
  obtain ⟨h1,h2,h3,h4,h5⟩:=φ4l 7 true s n k h
  exact .inr ⟨n,k,rfl,rfl,h1,h2,h3,h4,h5⟩
theorem φJM (s:List UInt8) (k4:Int) (k:Nat) (hk:k≤s.length) (h7:k≤7):lp ψ2n.l2 (s,k4,0,(k:Int) - 1)=some (s,k4,((decV (s.take k):Nat):Int)):=by
 have key:=φDP (step:=ψ2n.l2) (fun n (a:Nat)=>(s,k4,(a:Int),(n:Int) - 1)) (fun n a=>(s,k4,((decV (s.take n)+128 ^ n * a:Nat):Int))) (fun n a=>n≤k∧a<128 ^ (k - n))
  (fun rec n a hi ih=>by
   obtain ⟨hn,ha⟩:=hi
   cases n with
   | zero=>
    simp[ψ2n.l2,decV]
   | succ n=>
    have h1:n<s.length:=by omega
    have e0:((n+1:Nat):Int) - 1=(n:Int):=by omega
    have c:(n:Int)≥0:=by omega
    have hx:=s[n].toNat_lt
    have hpow:(128:Nat) ^ (k - (n+1))≤128 ^ 7:=Nat.pow_le_pow_right (by omega) (by omega)
    have ha7:a<562949953421312:=κG ha hpow
    have ha6:a<128 ^ 6:=κG ha (Nat.pow_le_pow_right (by omega) (by omega))
    have ha6:a<4398046511104:=ha6
    have e1:w64 ((a:Int) * 128)=((a * 128:Nat):Int):=by rw[φI (by omega) (by omega)];omega
    have e2:w64 (bAt s (n:Int))=((s[n].toNat:Nat):Int):=by rw[φ5K s n h1];exact φ3h (by omega)
    have e3:Int.tmod ((s[n].toNat:Nat):Int) 128=((s[n].toNat % 128:Nat):Int):=rfl
    have e4:w64 (((a * 128:Nat):Int)+((s[n].toNat % 128:Nat):Int))=((a * 128+s[n].toNat % 128:Nat):Int):=by rw[φI (by omega) (by omega)];omega
    have e5:w64 ((n:Int) - 1)=(n:Int) - 1:=φI (by omega) (by omega)
    have hlt:a * 128+s[n].toNat % 128<128 ^ (k - n):=by
     rw[show k - n=(k - (n+1))+1 by omega,κZ];omega
    have ih:=ih n (a * 128+s[n].toNat % 128) rfl ⟨by omega,hlt⟩
    simp only[ψ2n.l2,e0,c,dT,cT,φF,h1,e1,e2,e3,e4,e5,ih]
    congr 4
    rw[κ1 h1]
    have hd:decV (s.take n++[s[n]])=decV (s.take n)+128 ^ n * (s[n].toNat % 128):=by
     have gen:∀l:List UInt8,decV (l++[s[n]])=decV l+128 ^ l.length * (s[n].toNat % 128):=by
      intro l
      induction l with
      | nil=>simp[decV]
      | cons x l ih=>
       show x.toNat % 128+128 * decV (l++[s[n]])=x.toNat % 128+128 * decV l+128 ^ (l.length+1) * (s[n].toNat % 128)
       rw[ih,κZ,Nat.mul_add,Nat.mul_comm (128 ^ l.length) 128,Nat.mul_assoc];omega
     rw[gen,lT,Nat.min_eq_left (by omega)]
    rw[hd,κZ,Nat.mul_add]
    have:128 ^ n * (a * 128)=128 ^ n * 128 * a:=by rw[Nat.mul_assoc,Nat.mul_comm a 128]
    omega)
  k 0 (by omega) ⟨κ6 _,by simp⟩
 simpa using key
theorem φ2m (s:List UInt8) (hl:s.length<2 ^ 62):ψ2n.f s=some (φx s):=by
 have key:=φ73 (step:=ψ2n.l0) (a:=(s,(1:Int))) (fun a=>match rvT 7 true s with
   | some (n,k)=>if a.2≤(k:Int) then .inr ((n:Int),(k:Int)) else .inl ()
   | none=>.inl ()) (fun a=>a.1=s∧1≤a.2∧a.2≤8) (fun a=>(8 - a.2).toNat)
  (fun rec a ha ih=>by
   obtain ⟨x,k⟩:=a
   obtain ⟨hx,h1,h2⟩:=ha
   simp only at hx h1 h2 ih ⊢
   subst hx
   obtain ⟨m,rfl⟩:∃m:Nat,k=(m:Int):=⟨k.toNat,by omega⟩
   have out:∀n j,rvT 7 true x=some (n,j)→j≤7∧j≤x.length:=fun n j hr=>by
    have:=φ4l 7 true x n j hr;exact ⟨this.2.1,this.2.2.1⟩
   by_cases c7:(m:Int)≤7
   rotate_left
   ·simp only[ψ2n.l0,c7,dF,cF]
    cases hr:rvT 7 true x with
    | none=>rfl
    | some p=>
     obtain ⟨n,j⟩:=p
     have:=(out n j hr).1
     simp only
     rw[if_neg (by omega)]
   by_cases cl:(m:Int)≤(x.length:Int)
   rotate_left
   ·simp only[ψ2n.l0,c7,cl,dT,dF,cT,cF]
    cases hr:rvT 7 true x with
    | none=>rfl
    | some p=>
     obtain ⟨n,j⟩:=p
     have:=(out n j hr).2
     simp only
     rw[if_neg (by omega)]
   have e1:w64 ((m:Int) - 1)=(m:Int) - 1:=φI (by omega) (by omega)
   have e2:=φJM x (m:Int) m (by omega) (by omega)
   have hv:decV (x.take m)<128 ^ 7:=κG (φDU _) (Nat.pow_le_pow_right (by omega) (by rw[lT];omega))
   have hv2:decV (x.take m)<562949953421312:=hv
   have c0:(0:Int)≤(m:Int):=by omega
   have e3:w64 ((m:Int)+1)=((m+1:Nat):Int):=φM (by omega)
   simp only[ψ2n.l0,c7,cl,dT,cT,e1,e2,bS,φ4s,φ54 _ (show decV (x.take m)≤562949953421311 by omega),c0,Bool.and_self,tN,e3]
   by_cases ck:varN (decV (x.take m))=x.take m
   ·have ck2:(varN (decV (x.take m))==x.take m)=true:=by simpa using ck
    have hr:rvT 7 true x=some (decV (x.take m),m):=by
     have hb:=φ8c 7 true (decV (x.take m)) (x.drop m) hv (by simp) (by omega)
     rw[ck,κE,lT,Nat.min_eq_left (by omega)] at hb
     exact hb
    simp only[ck2,cT,hr]
    rw[if_pos (κK _)]
   ·have ck2:(varN (decV (x.take m))==x.take m)=false:=by simpa using ck
    have ih:=ih (x,((m+1:Nat):Int)) ⟨rfl,by simp only;omega,by simp only;omega⟩ (by simp only;omega)
    simp only[ck2,cF,ih]
    cases hr:rvT 7 true x with
    | none=>rfl
    | some p=>
     obtain ⟨n,j⟩:=p
     have hs:=φ4l 7 true x n j hr
     have hne:j≠m:=fun e=>by
      subst e
      rw[hs.2.2.2.1,φEj 6 n hs.2.2.2.2] at ck
      exact ck rfl
     simp only
     by_cases cj:(m:Int)≤(j:Int)
     ·rw[if_pos cj,if_pos (by omega)]
     ·rw[if_neg cj,if_neg (by omega)])
  ⟨rfl,by simp only;omega,by simp only;omega⟩ (by show (7:Nat)<2 ^ 62;decide)
 unfold ψ2n.f φx
 rw[key,bS]
 cases hr:rvT 7 true s with
 | none=>rfl
 | some p=>
  obtain ⟨n,k⟩:=p
  have hs:=φ4l 7 true s n k hr
  simp only
  rw[if_pos (by omega)];rfl
theorem φ9M (s:List UInt8) (hl:s.length<2 ^ 62):ψn.f s=some (φx s):=by
 have key:=φg (step:=ψn.l0) (fun i (a:Nat)=>(s,(a:Int),(i:Int))) 7 (fun i a=>match rvT (7 - i) (decide (i=0)) (s.drop i) with
   | some (n,k)=>.inr (((a+128 ^ i * n:Nat):Int),((i+k:Nat):Int))
   | none=>bif ((s.drop i).take (7 - i)).all (fun x=>decide (128≤x.toNat)) then .inl () else .inr (0,0)) (fun i a=>a<128 ^ i)
  (fun rec i a hi ha ih=>by
   have hpow:(128:Nat) ^ i≤128 ^ 7:=Nat.pow_le_pow_right (by omega) hi
   have ha7:a<562949953421312:=κG ha hpow
   rcases κ2 i 7 with h7 | h7
   rotate_left
   ·have:i=7:=by omega
    subst this
    simp[ψn.l0,rvT]
   have c7:(i:Int)<7:=by omega
   rcases κ2 i s.length with hs | hs
   rotate_left
   ·have c:¬(i:Int)<(s.length:Int):=by omega
    have e:s.drop i=[]:=by rw[List.drop_eq_nil_iff];exact hs
    have e7:7 - i=(6 - i)+1:=by omega
    simp only[ψn.l0,c7,c,dT,dF,cT,cF,e,e7,rvT]
    simp
   have cs:(i:Int)<(s.length:Int):=by omega
   have hx:=s[i].toNat_lt
   have e1:w64 (bAt s (i:Int))=((s[i].toNat:Nat):Int):=by rw[φ5K s i hs];exact φ3h (by omega)
   have e2:w64 (7 * (i:Int))=((7 * i:Nat):Int):=by rw[φI (by omega) (by omega)];omega
   have e3:(0:Int)≤((7 * i:Nat):Int):=by omega
   have e4:Int.tmod ((s[i].toNat:Nat):Int) 128=((s[i].toNat % 128:Nat):Int):=rfl
   have e5:((s[i].toNat % 128:Nat):Int) * 2 ^ (min ((7 * i:Nat):Int).toNat 64)=((s[i].toNat % 128 * 128 ^ i:Nat):Int):=by
    rw[tN,Nat.min_eq_left (by omega),show (2:Int) ^ (7 * i)=((128 ^ i:Nat):Int) by
     rw[show (128:Nat)=2 ^ 7 from rfl,←Nat.pow_mul,Int.natCast_pow];rfl]
    simp
   have hb6:(128:Nat) ^ i≤128 ^ 6:=Nat.pow_le_pow_right (by omega) (by omega)
   have hb6:(128:Nat) ^ i≤4398046511104:=hb6
   have hm:s[i].toNat % 128 * 128 ^ i≤127 * 128 ^ i:=Nat.mul_le_mul_right _ (by omega)
   have e6:w64 ((s[i].toNat % 128 * 128 ^ i:Nat):Int)=((s[i].toNat % 128 * 128 ^ i:Nat):Int):=φ3h (by omega)
   have e7:w64 ((a:Int)+((s[i].toNat % 128 * 128 ^ i:Nat):Int))=((a+s[i].toNat % 128 * 128 ^ i:Nat):Int):=by rw[φI (by omega) (by omega)];omega
   have e8:w64 ((i:Int)+1)=((i+1:Nat):Int):=φM (by omega)
   have e9:7 - i=(6 - i)+1:=by omega
   have e10:7 - (i+1)=6 - i:=by omega
   rw[dG hs,e9]
   by_cases cb:s[i].toNat<128
   ·have cb2:¬((s[i].toNat:Nat):Int)≥128:=by omega
    by_cases cz:s[i].toNat=0
    ·have cz2:(((s[i].toNat:Nat):Int)==0)=true:=by rw[cz];rfl
     by_cases ci:i=0
     ·subst ci
      have hi0:¬((0:Nat):Int) > 0:=by omega
      simp only[ψn.l0,c7,cs,dT,cT,φF,hs,e1,e2,e3,e4,e5,e6,e7,e8,cb2,dF,cF,cz2,hi0,bS,φf]
      unfold rvT
      rw[if_pos cb,if_neg (by simp)]
      simp[cz]
     ·have hi0:(i:Int) > 0:=by omega
      have hd:decide (i=0)=false:=decide_eq_false ci
      simp only[ψn.l0,c7,cs,dT,cT,φF,hs,e1,e2,e3,e4,e5,e6,e7,e8,cb2,dF,cF,cz2,hi0,bS,φp,hd]
      unfold rvT
      rw[if_pos cb,if_pos ⟨cz,rfl⟩]
      simp only[List.take_succ_cons]
      have hne:decide (128≤s[i].toNat)=false:=decide_eq_false (by omega)
      rw[List.all_cons,hne];rfl
    ·have cz2:(((s[i].toNat:Nat):Int)==0)=false:=by simp;omega
     simp only[ψn.l0,c7,cs,dT,cT,φF,hs,e1,e2,e3,e4,e5,e6,e7,e8,cb2,dF,cF,cz2,bS,φf]
     unfold rvT
     rw[if_pos cb,if_neg (fun k=>cz k.1)]
     have e11:s[i].toNat % 128=s[i].toNat:=by omega
     simp only[e11]
     rw[Nat.mul_comm (128 ^ i)]
   ·have cb2:((s[i].toNat:Nat):Int)≥128:=by omega
    have hlt:a+s[i].toNat % 128 * 128 ^ i<128 ^ (i+1):=by rw[κZ];omega
    have ih:=ih (a+s[i].toNat % 128 * 128 ^ i) h7 hlt
    rw[e10] at ih
    simp only[ψn.l0,c7,cs,dT,cT,φF,hs,e1,e2,e3,e4,e5,e6,e7,e8,cb2,ih]
    rw[rvT,if_neg cb,show decide (i+1=0)=false from decide_eq_false (by omega)]
    cases hr:rvT (6 - i) false (s.drop (i+1)) with
    | none=>
     simp only[Option.map_none,List.take_succ_cons]
     have hge:decide (128≤s[i].toNat)=true:=decide_eq_true (by omega)
     rw[List.all_cons,hge,tA]
    | some p=>
     obtain ⟨n,k⟩:=p
     simp only[Option.map_some]
     congr 3
     ·rw[Nat.mul_add,κZ,Nat.mul_comm (128 ^ i) (s[i].toNat % 128)]
      have:128 ^ i * (128 * n)=128 ^ i * 128 * n:=by rw[Nat.mul_assoc]
      omega
     ·omega)
  (by omega) 0 0 (κ4 _) (by simp)
 have key:lp ψn.l0 (s,0,0)=_:=key
 unfold ψn.f φx
 rw[key,bS]
 simp only[Nat.sub_zero,κC,dT]
 cases hr:rvT 7 true s with
 | none=>
  simp only
  cases (s.take 7).all (fun x=>decide (128≤x.toNat))<;>rfl
 | some p=>
  obtain ⟨n,k⟩:=p
  simp
def fixR (l:List UInt8):Nat:=l.foldl (fun n x=>n * 256+x.toNat) 0
theorem φ9A (l:List UInt8) (x:UInt8):fixR (l++[x])=fixR l * 256+x.toNat:=by
 unfold fixR;rw[κX];rfl
theorem φAm (l:List UInt8):fixR l<256 ^ l.length:=by
 induction l using φ5O with
 | h0=>simp[fixR]
 | hs l x ih=>
  have:=x.toNat_lt
  rw[φ9A,lA,κA,κZ];omega
theorem φJL (l:List UInt8):fixL (fixR l) l.length=l:=by
 induction l using φ5O with
 | h0=>rfl
 | hs l x ih=>
  have hx:=x.toNat_lt
  rw[φ9A,lA,κA,φ7w,show (fixR l * 256+x.toNat) / 256=fixR l by omega,ih]
  have:UInt8.ofNat (fixR l * 256+x.toNat)=x:=by
   have e:=UInt8.ofNat_mod_size (x:=fixR l * 256+x.toNat)
   have e2:(fixR l * 256+x.toNat) % 2 ^ 8=x.toNat:=by omega
   rw[e2] at e
   rw[←e];simp
  rw[this]
theorem φDV:∀(k n:Nat),n<256 ^ k→fixR (fixL n k)=n
 | 0,n,h=>by simp at h;subst h;rfl
 | k+1,n,h=>by
  rw[φ7w,φ9A,φDV k (n / 256) (by rw[Nat.div_lt_iff_lt_mul (by omega)];rw[κZ] at h;exact h)]
  have:(UInt8.ofNat n).toNat=n % 256:=by simp
  rw[this];omega
def φ3n (s:List UInt8):Int×Bool:=if s.length<4 then (0,false) else (((fixR (s.take 4):Nat):Int),true)
theorem φFE (s:List UInt8) (n:Nat) (h:n<s.length):fixR (s.take (n+1))=fixR (s.take n) * 256+s[n].toNat:=by
 rw[κ1 h,φ9A]
theorem φGw (s:List UInt8) (hl:s.length<2 ^ 62):ψ2k.f s 4=some (φ3n s):=by
 unfold ψ2k.f φ3n
 have h0:decide ((1:Int)≤4∧(4:Int)≤7)=true:=by decide
 simp only[φ2J,bS,h0,nZ,cF]
 by_cases c:s.length<4
 ·have c1:(s.length:Int)<4:=by omega
  simp[c,c1]
 have c1:¬(s.length:Int)<4:=by omega
 have key:=φg (step:=ψ2k.l0) (fun n (_:Unit)=>(s,4,((fixR (s.take n):Nat):Int),(n:Int))) 4 (fun _ _=>((fixR (s.take 4):Nat):Int)) (fun _ _=>True)
  (fun rec n a hn _ ih=>by
   rcases κ2 n 4 with h | h
   ·have h4:(n:Int)<4:=by omega
    have hs:n<s.length:=by omega
    have hx:=s[n].toNat_lt
    have hlt:fixR (s.take n)<256 ^ 3:=κG (φAm _) (Nat.pow_le_pow_right (by omega) (by rw[lT];omega))
    have hlt:fixR (s.take n)<16777216:=hlt
    have e1:w64 (((fixR (s.take n):Nat):Int) * 256)=((fixR (s.take n) * 256:Nat):Int):=by rw[φI (by omega) (by omega)];omega
    have e2:w64 (bAt s (n:Int))=((s[n].toNat:Nat):Int):=by rw[φ5K s n hs];exact φ3h (by omega)
    have e3:w64 (((fixR (s.take n) * 256:Nat):Int)+((s[n].toNat:Nat):Int))=((fixR (s.take (n+1)):Nat):Int):=by
     rw[φFE s n hs,φI (by omega) (by omega)];omega
    simp only[ψ2k.l0,h4,dT,cT,φF,hs,e1,e2,e3,φM (show n+1<9223372036854775808 by omega),ih () h trivial]
   ·have:n=4:=by omega
    subst this
    simp[ψ2k.l0])
  (by omega) 0 () (κ4 _) trivial
 have key:lp ψ2k.l0 (s,4,0,0)=_:=key
 simp only[c,c1,dF,cF,key,bS,if_false]
theorem or64 (a b:Nat) (ha:a<2 ^ 32) (hb:b<256):bits (fun _ a b=>a ||| b) .i64 ((a * 256:Nat):Int) (b:Int)=((a * 256+b:Nat):Int):=by
 have e:(BitVec.ofInt 64 ((a * 256:Nat):Int) ||| BitVec.ofInt 64 (b:Int)).toNat=a * 256+b:=by
  rw[BitVec.ofInt_natCast,BitVec.ofInt_natCast,BitVec.toNat_or,BitVec.toNat_ofNat,BitVec.toNat_ofNat,κb (by omega),κb (by omega)]
  have:=Nat.shiftLeft_add_eq_or_of_lt (show b<2 ^ 8 from hb) a
  rw[Nat.shiftLeft_eq] at this
  exact this.symm
 show IntKind.wrap .i64 ((BitVec.ofInt 64 ((a * 256:Nat):Int) ||| BitVec.ofInt 64 (b:Int)).toNat:Int)=_
 rw[e]
 exact φCY (by omega)
theorem φ7Z (s:List UInt8) (hl:s.length<2 ^ 62):ψj.f s 4=some (φ3n s):=by
 unfold ψj.f φ3n
 have h0:decide ((1:Int)≤4∧(4:Int)≤7)=true:=by decide
 simp only[φ1a,bS,h0,nZ,cF]
 by_cases c:s.length<4
 ·have c1:(s.length:Int)<4:=by omega
  simp[c,c1]
 have c1:¬(s.length:Int)<4:=by omega
 have key:=φg (step:=ψj.l0) (fun n (_:Unit)=>(s,((fixR (s.take n):Nat):Int),4,(n:Int))) 4 (fun _ _=>((fixR (s.take 4):Nat):Int)) (fun _ _=>True)
  (fun rec n a hn _ ih=>by
   rcases κ2 n 4 with h | h
   ·have h4:(n:Int)<4:=by omega
    have hs:n<s.length:=by omega
    have hx:=s[n].toNat_lt
    have hlt:fixR (s.take n)<256 ^ 3:=κG (φAm _) (Nat.pow_le_pow_right (by omega) (by rw[lT];omega))
    have hlt:fixR (s.take n)<16777216:=hlt
    have e1:w64 (((fixR (s.take n):Nat):Int) * 2 ^ (min 8 64))=((fixR (s.take n) * 256:Nat):Int):=by
     show w64 (((fixR (s.take n):Nat):Int) * 256)=_
     rw[φI (by omega) (by omega)];omega
    have e2:w64 (bAt s (n:Int))=((s[n].toNat:Nat):Int):=by rw[φ5K s n hs];exact φ3h (by omega)
    have e3:=or64 (fixR (s.take n)) s[n].toNat (by omega) (by omega)
    rw[←φFE s n hs] at e3
    simp only[ψj.l0,h4,dT,cT,φF,hs,e1,e2,e3,φM (show n+1<9223372036854775808 by omega),ih () h trivial]
   ·have:n=4:=by omega
    subst this
    simp[ψj.l0])
  (by omega) 0 () (κ4 _) trivial
 have key:lp ψj.l0 (s,0,4,0)=_:=key
 simp only[c,c1,dF,cF,key,bS,if_false]
def φP (s:List UInt8):List UInt8×Int:=
 if s.length<4 then ([],0) else
 match rvT 7 true (s.drop 4) with
 | none=>([],0)
 | some (n,k)=>if 200<n∨s.length<4+k+n then ([],0) else
  if frame ((s.take (4+k+n)).drop (4+k))=s.take (4+k+n) then ((s.take (4+k+n)).drop (4+k),((4+k+n:Nat):Int)) else ([],0)
theorem φ8v (s:List UInt8) (hl:s.length<1000000000000):ψ1F.f s=some (φP s):=by
 unfold ψ1F.f φP
 by_cases c:s.length<4
 ·have c1:(s.length:Int)<4:=by omega
  simp[c,c1]
 have c1:¬(s.length:Int)<4:=by omega
 have c2:(decide (0≤(4:Int)) && decide ((4:Int)≤(s.length:Int)))=true:=by simp;omega
 have hd:(s.drop 4).length<2 ^ 62:=by rw[lD];omega
 simp only[c,c1,dF,cF,c2,cT,φ9M (s.drop 4) hd,bS,if_false]
 unfold φx
 cases hr:rvT 7 true (s.drop 4) with
 | none=>simp
 | some p=>
  obtain ⟨n,k⟩:=p
  obtain ⟨q1,q2,q3,q4,q5⟩:=φ4l 7 true (s.drop 4) n k hr
  have q5:n<562949953421312:=q5
  rw[lD] at q3
  have d1:(((k:Nat):Int)==0)=false:=by simp;omega
  simp only[d1,cF]
  by_cases c3:200<n
  ·have c4:((n:Nat):Int) > 200:=by omega
   simp[c3,c4]
  have c4:¬((n:Nat):Int) > 200:=by omega
  have e1:w64 (w64 ((s.length:Int) - 4) - (k:Int))=(s.length:Int) - 4 - k:=by rw[φI (n:=(s.length:Int) - 4) (by omega) (by omega),φI (by omega) (by omega)]
  have e2:w64 (4+(k:Int))=((4+k:Nat):Int):=by rw[φI (by omega) (by omega)];omega
  have e3:w64 (((4+k:Nat):Int)+(n:Int))=((4+k+n:Nat):Int):=by rw[φI (by omega) (by omega)];omega
  by_cases c5:s.length<4+k+n
  ·have c6:((n:Nat):Int) > (s.length:Int) - 4 - k:=by omega
   simp[c3,c4,c5,c6,e1]
  have c6:¬((n:Nat):Int) > (s.length:Int) - 4 - k:=by omega
  have c7:(decide (0≤((4+k+n:Nat):Int)) && decide (((4+k+n:Nat):Int)≤(s.length:Int)))=true:=by simp;omega
  have c8:(decide (0≤((4+k:Nat):Int)) && decide (((4+k:Nat):Int)≤((4+k+n:Nat):Int)))=true:=by simp;omega
  have hl2:((s.take (4+k+n)).drop (4+k)).length<2 ^ 62:=by rw[lD,lT];omega
  simp only[c3,c4,c5,c6,e1,e2,e3,c7,c8,dF,cF,cT,tN,φ8Y _ hl2,bS,or_self,if_false]
  by_cases c9:frame ((s.take (4+k+n)).drop (4+k))=s.take (4+k+n)
  ·have d9:(frame ((s.take (4+k+n)).drop (4+k))==s.take (4+k+n))=true:=by simpa using c9
   simp only[d9,nZ,cF]
   rw[if_pos c9]
  ·have d9:(frame ((s.take (4+k+n)).drop (4+k))==s.take (4+k+n))=false:=by simpa using c9
   simp only[d9,nF,cT]
   rw[if_neg c9]
theorem φ9k (s:List UInt8) (hl:s.length<1000000000000):ψ34.f s=some (φP s):=by
 unfold ψ34.f φP
 by_cases c:s.length<5
 ·have c1:(s.length:Int)<5:=by omega
  by_cases c4:s.length<4
  ·simp[c4,c1]
  ·have e:s.drop 4=[]:=by rw[List.drop_eq_nil_iff];omega
   have e2:s.length=4:=by omega
   rcases κ2 s.length 4 with h | h
   ·exact absurd h c4
   ·have hn:rvT 7 true (s.drop 4)=none:=by
     cases hr:rvT 7 true (s.drop 4) with
     | none=>rfl
     | some p=>
      obtain ⟨n,k⟩:=p
      have q:=φ4l 7 true (s.drop 4) n k hr
      rw[lD] at q
      omega
    simp[c4,c1,hn]
 have c4:¬s.length<4:=by omega
 have c1:¬(s.length:Int)<5:=by omega
 have c2:(decide (0≤(4:Int)) && decide ((4:Int)≤(s.length:Int)))=true:=by simp;omega
 have hd:(s.drop 4).length<2 ^ 62:=by rw[lD];omega
 simp only[c4,c1,dF,cF,c2,cT,φ2m (s.drop 4) hd,bS,if_false]
 unfold φx
 cases hr:rvT 7 true (s.drop 4) with
 | none=>simp
 | some p=>
  obtain ⟨n,k⟩:=p
  obtain ⟨q1,q2,q3,q4,q5⟩:=φ4l 7 true (s.drop 4) n k hr
  have q5:n<562949953421312:=q5
  rw[lD] at q3
  have d1:(((k:Nat):Int)==0)=false:=by simp;omega
  simp only[d1,cF]
  by_cases c3:200<n
  ·have c4:((n:Nat):Int) > 200:=by omega
   simp[c3,c4]
  have c4:¬((n:Nat):Int) > 200:=by omega
  have e1:w64 (w64 ((s.length:Int) - 4) - (k:Int))=(s.length:Int) - 4 - k:=by rw[φI (n:=(s.length:Int) - 4) (by omega) (by omega),φI (by omega) (by omega)]
  have e2:w64 (4+(k:Int))=((4+k:Nat):Int):=by rw[φI (by omega) (by omega)];omega
  have e3:w64 (((4+k:Nat):Int)+(n:Int))=((4+k+n:Nat):Int):=by rw[φI (by omega) (by omega)];omega
  by_cases c5:s.length<4+k+n
  ·have c6:((n:Nat):Int) > (s.length:Int) - 4 - k:=by omega
   simp[c3,c4,c5,c6,e1]
  have c6:¬((n:Nat):Int) > (s.length:Int) - 4 - k:=by omega
  have c7:(decide (0≤((4+k+n:Nat):Int)) && decide (((4+k+n:Nat):Int)≤(s.length:Int)))=true:=by simp;omega
  have c8:(decide (0≤((4+k:Nat):Int)) && decide (((4+k:Nat):Int)≤((4+k+n:Nat):Int)))=true:=by simp;omega
  have hl2:((s.take (4+k+n)).drop (4+k)).length<2 ^ 62:=by rw[lD,lT];omega
  simp only[c3,c4,c5,c6,e1,e2,e3,c7,c8,dF,cF,cT,tN,φ9e _ hl2,bS,or_self,if_false]
  by_cases c9:frame ((s.take (4+k+n)).drop (4+k))=s.take (4+k+n)
  ·have d9:(s.take (4+k+n)==frame ((s.take (4+k+n)).drop (4+k)))=true:=by simpa using c9.symm
   simp only[d9,nZ,cF]
   rw[if_pos c9]
  ·have d9:(s.take (4+k+n)==frame ((s.take (4+k+n)).drop (4+k)))=false:=by simpa using fun e=>c9 e.symm
   simp only[d9,nF,cT]
   rw[if_neg c9]
abbrev φ4P:=List UInt8×Bool
def φ1M (n:Int):Prop:=0≤n∧n≤562949953421311
theorem φNw {n:Int} (h:φ1M n):∃m:Nat,n=(m:Int)∧m<562949953421312∧varT n=varN m:=by
 unfold φ1M at h
 obtain ⟨m,rfl⟩:∃m:Nat,n=(m:Int):=⟨n.toNat,by omega⟩
 exact ⟨m,rfl,by omega,φ54 m (by omega)⟩
theorem φ48 {n:Int} (h:φ1M n) (r:List UInt8):φx (varT n++r)=(n,((varT n).length:Int))∧1≤(varT n).length:=by
 obtain ⟨m,rfl,hm,e⟩:=φNw h
 rw[e]
 have hb:=φ8c 7 true m r hm (by simp) (by omega)
 unfold φx
 rw[hb]
 exact ⟨rfl,(φ8G 6 m hm).1⟩
theorem φ2X {n:Int} (h:φ1M n) (r:List UInt8) (hl:(varT n++r).length<2 ^ 62):ψ1k.f (varT n++r,false)=some (n,(r,false)):=by
 obtain ⟨h1,h2⟩:=φ48 h r
 have d:((((varT n).length:Nat):Int)==0)=false:=by simp;intro e;rw[e] at h2;simp at h2
 have c:(decide (0≤(((varT n).length:Nat):Int)) && decide ((((varT n).length:Nat):Int)≤((varT n++r).length:Int)))=true:=by
  rw[lA];simp;omega
 unfold ψ1k.f
 simp only[φ9M _ hl,h1,bS,cF,d,c,cT,tN,κQ]
theorem φ5G (s:List UInt8) (hl:s.length<2 ^ 62):(∃n r,ψ1k.f (s,false)=some (n,(r,false))∧s=varT n++r∧φ1M n)∨ψ1k.f (s,false)=some (0,(s,true)):=by
 rcases φB0 s with h | ⟨n,k,_,h,h1,h2,h3,h4,h5⟩
 ·right
  unfold ψ1k.f
  simp only[φ9M s hl,h,bS,cF,show ((0:Int)==0)=true from rfl,cT]
 ·left
  have hn:φ1M (n:Int):=⟨by omega,by omega⟩
  have e:s=varT (n:Int)++s.drop k:=by rw[φ54 n (by omega),←h4,κE]
  have hb:=φ2X hn (s.drop k) (by rw[←e];exact hl)
  rw[←e] at hb
  exact ⟨(n:Int),s.drop k,hb,e,hn⟩
theorem φ7a (s:List UInt8) (hl:s.length<2 ^ 62):ψ1k.f (s,true)=some (0,(s,true)):=by
 unfold ψ1k.f
 simp only[φ9M s hl,bS,cT]
theorem φ6I (t r:List UInt8):ψ1j.f (t++r,false) (t.length:Int)=some (t,(r,false)):=by
 unfold ψ1j.f
 have c1:¬((t.length:Nat):Int) > ((t++r).length:Int):=by rw[lA];omega
 have c2:(decide (0≤((t.length:Nat):Int)) && decide (((t.length:Nat):Int)≤((t++r).length:Int)))=true:=by rw[lA];simp;omega
 simp only[cF,c1,dF,c2,cT,tN,List.take_left,κQ]
theorem φB5 (s:List UInt8) (n:Int) (hn:0≤n):(∃t r,ψ1j.f (s,false) n=some (t,(r,false))∧s=t++r∧(t.length:Int)=n)∨ψ1j.f (s,false) n=some ([],(s,true)):=by
 by_cases c:n > (s.length:Int)
 ·right
  unfold ψ1j.f
  simp only[cF,c,dT,cT]
 ·left
  have hl:((s.take n.toNat).length:Int)=n:=by rw[lT];omega
  have:=φ6I (s.take n.toNat) (s.drop n.toNat)
  rw[κE,hl] at this
  exact ⟨_,_,this,(κE _ _).symm,hl⟩
theorem φ9Z (s:List UInt8) (n:Int):ψ1j.f (s,true) n=some ([],(s,true)):=by
 unfold ψ1j.f
 simp only[cT]
theorem φ8h (t r:List UInt8) (ht:φ1M (t.length:Int)) (hl:(varT (t.length:Int)++(t++r)).length<2 ^ 62):ψ1l.f (varT (t.length:Int)++(t++r),false)=some (t,(r,false)):=by
 unfold ψ1l.f
 simp only[φ2X ht (t++r) hl,bS,φ6I]
theorem φ89 (s:List UInt8) (hl:s.length<2 ^ 62):(∃t r,ψ1l.f (s,false)=some (t,(r,false))∧s=varT (t.length:Int)++(t++r)∧φ1M (t.length:Int))∨∃r,ψ1l.f (s,false)=some ([],(r,true))∧r.length≤s.length:=by
 unfold ψ1l.f
 rcases φ5G s hl with ⟨n,r,e,es,hn⟩ | e
 ·rw[e,bS]
  rcases φB5 r n hn.1 with ⟨t,r2,e2,es2,ht⟩ | e2
  ·left
   refine ⟨t,r2,by simp only[e2,bS],?_,by rw[ht];exact hn⟩
   rw[ht,←es2];exact es
  ·right
   refine ⟨r,by simp only[e2,bS],?_⟩
   rw[es,lA];omega
 ·right
  refine ⟨s,?_,κ6 _⟩
  rw[e,bS]
  simp only[φ9Z,bS]
theorem φ82 (s:List UInt8) (hl:s.length<2 ^ 62):ψ1l.f (s,true)=some ([],(s,true)):=by
 unfold ψ1l.f
 simp only[φ7a s hl,bS,φ9Z]
theorem φ8p (t r:List UInt8) (ht:φ1M (t.length:Int)) (hl:(varT (t.length:Int)++(t++r)).length<1000000000000000):ψ3f.f (varT (t.length:Int)++(t++r))=some (t,r,true):=by
 obtain ⟨h1,h2⟩:=φ48 ht (t++r)
 have h3:=φl (t.length:Int)
 rw[lA,lA] at hl
 unfold ψ3f.f
 rw[φ2m _ (by rw[lA,lA];omega),h1,bS]
 generalize varT (t.length:Int)=v at *
 have d:(((v.length:Nat):Int)==0)=false:=by simp;intro e;rw[e] at h2;simp at h2
 have e1:w64 (((v++(t++r)).length:Int) - ((v.length:Nat):Int))=((t.length+r.length:Nat):Int):=by rw[lA,lA,φI (by omega) (by omega)];omega
 have c1:¬((t.length:Nat):Int) > ((t.length+r.length:Nat):Int):=by omega
 have e2:w64 (((v.length:Nat):Int)+((t.length:Nat):Int))=(((v++t).length:Nat):Int):=by rw[lA,φI (by omega) (by omega)];omega
 have c2:(decide (0≤(((v++t).length:Nat):Int)) && decide ((((v++t).length:Nat):Int)≤((v++(t++r)).length:Int)))=true:=by simp;omega
 have c3:(decide (0≤((v.length:Nat):Int)) && decide (((v.length:Nat):Int)≤(((v++t).length:Nat):Int)))=true:=by simp;omega
 have e3:(v++(t++r)).take (v++t).length=v++t:=by rw[←aA,List.take_left]
 have e4:(v++(t++r)).drop (v++t).length=r:=by rw[←aA,κQ]
 simp only[d,cF,e1,c1,dF,e2,c2,c3,cT,tN,e3,e4,κQ]
theorem φAh (s:List UInt8) (hl:s.length<1000000000000000):∃t r b,ψ3f.f s=some (t,r,b)∧t.length≤s.length∧r.length≤s.length:=by
 rcases φB0 s with h | ⟨n,k,_,h,h1,h2,h3,h4,h5⟩
 ·refine ⟨[],[],false,?_,by simp,by simp⟩
  unfold ψ3f.f
  simp only[φ2m s (by omega),h,bS,show ((0:Int)==0)=true from rfl,cT]
 ·by_cases c:s.length<k+n
  ·refine ⟨[],[],false,?_,by simp,by simp⟩
   have d:(((k:Nat):Int)==0)=false:=by simp;omega
   have e1:w64 ((s.length:Int) - (k:Int))=(s.length:Int) - k:=φI (by omega) (by omega)
   have c1:((n:Nat):Int) > (s.length:Int) - k:=by omega
   unfold ψ3f.f
   simp only[φ2m s (by omega),h,bS,d,cF,e1,c1,dT,cT]
  ·have hn:φ1M (n:Int):=⟨by omega,by omega⟩
   have ht:(((s.drop k).take n).length:Int)=n:=by rw[lT,lD];omega
   have e:s=varT (((s.drop k).take n).length:Int)++((s.drop k).take n++(s.drop k).drop n):=by
    rw[ht,φ54 n (by omega),←h4,κE,κE]
   have hb:=φ8p ((s.drop k).take n) ((s.drop k).drop n) (by rw[ht];exact hn) (by rw[←e];exact hl)
   rw[←e] at hb
   exact ⟨_,_,_,hb,by rw[lT,lD];omega,by rw[lD,lD];omega⟩
def φ31 (s:List UInt8) (r:RecT):Prop:=φa r=true∧φ7 r=s
theorem φAQ {r:RecT} (h:φa r=true):φ1M r.1∧φ1M r.2.1∧(r.1=1∨r.1=4→r.2.2.1.length≤8∧r.2.2.2.1.length≤24∧r.2.2.2.2.1=0∧r.2.2.2.2.2=0) ∧
  (r.1=2→r.2.2.1.length≤8∧r.2.2.2.1=[]∧r.2.2.2.2.1=0∧r.2.2.2.2.2=0) ∧
  (¬(r.1=1∨r.1=4)→¬r.1=2→r.2.2.1=[]∧r.2.2.2.1=[]∧φ1M r.2.2.2.2.1∧0≤r.2.2.2.2.2∧r.2.2.2.2.2≤4294967295):=by
 obtain ⟨k,b,ky,v,c,s⟩:=r
 unfold φa φ1E at h
 simp only[bA,decide_eq_true_eq] at h
 obtain ⟨⟨h1,_⟩,h⟩:=h
 unfold φ1M
 simp only
 by_cases c1:k=1∨k=4
 ·rw[if_pos c1] at h
  simp only[bA,decide_eq_true_eq,beq_iff_eq] at h
  exact ⟨by omega,by omega,fun _=>by omega,fun e=>by omega,fun e=>absurd c1 e⟩
 rw[if_neg c1] at h
 by_cases c2:k=2
 ·rw[if_pos c2] at h
  simp only[bA,decide_eq_true_eq,beq_iff_eq] at h
  exact ⟨by omega,by omega,fun e=>absurd e c1,fun _=>⟨by omega,h.2.1,h.2.2⟩,fun _ e=>absurd c2 e⟩
 rw[if_neg c2] at h
 by_cases c3:k=3
 ·rw[if_pos c3] at h
  simp only[bA,decide_eq_true_eq,beq_iff_eq] at h
  exact ⟨by omega,by omega,fun e=>absurd e c1,fun e=>absurd e c2,fun _ _=>⟨h.1,h.2.1,by omega,by omega,by omega⟩⟩
 rw[if_neg c3] at h
 by_cases c5:k=5
 ·rw[if_pos c5] at h
  simp only[bA,decide_eq_true_eq,beq_iff_eq] at h
  exact ⟨by omega,by omega,fun e=>absurd e c1,fun e=>absurd e c2,fun _ _=>⟨h.1,h.2.1,by omega,by omega,by omega⟩⟩
 ·rw[if_neg c5] at h;simp at h
theorem φ7A {n:Int} (h:0≤n∧n≤4294967295):(fix4 n).length=4:=by
 unfold fix4;rw[if_pos h,φCM]
theorem φFa {n:Int} (h:0≤n∧n≤4294967295) (r:List UInt8):φ3n (fix4 n++r)=(n,true):=by
 have hl:=φ7A h
 unfold φ3n
 rw[if_neg (by rw[lA];omega)]
 have e:(fix4 n++r).take 4=fix4 n:=by rw[←hl,List.take_left]
 rw[e]
 unfold fix4
 rw[if_pos h,φDV 4 n.toNat (by show _<4294967296;omega)]
 congr 1;omega
theorem φK5 (t:List UInt8) (h:t.length=4):fix4 (φ3n t).1=t∧0≤(φ3n t).1∧(φ3n t).1≤4294967295:=by
 have hlt:=φAm t
 rw[h] at hlt
 have hlt:fixR t<4294967296:=hlt
 unfold φ3n
 rw[if_neg (by omega),show t.take 4=t by rw[←h,κN]]
 refine ⟨?_,by simp only;omega,by simp only;omega⟩
 unfold fix4
 rw[if_pos (by simp only;omega)]
 show fixL ((fixR t:Nat):Int).toNat 4=t
 rw[tN,←h,φJL]
theorem φ75 (k:Int) {α β γ:Type} (x:α) (y:β) (z:γ):(bif k==1 then some (x,y,z,k,k==1) else some (x,y,z,k,k==4))=some (x,y,z,k,decide (k=1∨k=4)):=by
 by_cases c1:k=1
 ·subst c1;rfl
 ·have b1:(k==1)=false:=by simpa using c1
  rw[b1,cF]
  by_cases c4:k=4
  ·subst c4;rfl
  ·have b4:(k==4)=false:=by simpa using c4
   rw[b4,decide_eq_false (by omega)]
theorem φ93 (k:Int) {α β γ δ:Type} (x:α) (y:β) (z:γ) (u:δ):(bif k==1 then some (x,y,z,u,k,k==1) else some (x,y,z,u,k,k==4))=some (x,y,z,u,k,decide (k=1∨k=4)):=by
 by_cases c1:k=1
 ·subst c1;rfl
 ·have b1:(k==1)=false:=by simpa using c1
  rw[b1,cF]
  by_cases c4:k=4
  ·subst c4;rfl
  ·have b4:(k==4)=false:=by simpa using c4
   rw[b4,decide_eq_false (by omega)]
theorem app3 {a b c:List UInt8} {n:Nat} (h:(a++(b++c)).length≤n):(b++c).length≤n∧c.length≤n:=by simp only[lA] at h ⊢;omega
theorem app2 {a b:List UInt8} {n:Nat} (h:(a++b).length≤n):b.length≤n:=by simp only[lA] at h;omega
theorem lt15 {a:List UInt8} (h:a.length≤60):a.length<1000000000000000:=by omega
theorem lt62 {a:List UInt8} (h:a.length≤60):a.length<2 ^ 62:=by omega
def φ2t:RecT:=(0,0,[],[],0,0)
theorem φAs {s:List UInt8} {r:RecT} (h:φ31 s r):ψm.f s=some (r,true):=by
 obtain ⟨hok,rfl⟩:=h
 have hl:=φ3Y r
 obtain ⟨i1,i2,i3,i4,i5⟩:=φAQ hok
 have hok2:¬φa r=false:=by rw[hok];simp
 obtain ⟨k,b,ky,v,c,sm⟩:=r
 simp only at i1 i2 i3 i4 i5
 by_cases c1:k=1∨k=4
 ·obtain ⟨j1,j2,rfl,rfl⟩:=i3 c1
  have es:φ7 (k,b,ky,v,0,0)=varT k++(varT b++(varT (ky.length:Int)++(ky++(varT (v.length:Int)++(v++[]))))):=by
   unfold φ7;rw[if_neg hok2,if_pos c1];simp[aA]
  rw[es] at hl ⊢
  have x2:=φ8h v [] ⟨by omega,by omega⟩ (lt62 (app3 (app3 hl).2).2)
  have x1:=φ8h ky (varT (v.length:Int)++(v++[])) ⟨by omega,by omega⟩ (lt62 (app3 hl).2)
  have n2:=φ2X i2 (varT (ky.length:Int)++(ky++(varT (v.length:Int)++(v++[])))) (lt62 (app2 hl))
  have n1:=φ2X i1 (varT b++(varT (ky.length:Int)++(ky++(varT (v.length:Int)++(v++[]))))) (lt62 hl)
  have hcd:decide (k=1∨k=4)=true:=decide_eq_true c1
  unfold ψm.f
  simp only[n1,n2,bS,φ75,hcd,cT,x1,x2,cF,φ6x,hok,nZ]
  rfl
 have hcd:decide (k=1∨k=4)=false:=decide_eq_false c1
 by_cases c2:k=2
 ·obtain ⟨j1,rfl,rfl,rfl⟩:=i4 c2
  have es:φ7 (k,b,ky,[],0,0)=varT k++(varT b++(varT (ky.length:Int)++(ky++[]))):=by
   unfold φ7;rw[if_neg hok2,if_neg c1,if_pos c2];simp[aA]
  rw[es] at hl ⊢
  have x1:=φ8h ky [] ⟨by omega,by omega⟩ (lt62 (app3 hl).2)
  have n2:=φ2X i2 (varT (ky.length:Int)++(ky++[])) (lt62 (app2 hl))
  have n1:=φ2X i1 (varT b++(varT (ky.length:Int)++(ky++[]))) (lt62 hl)
  have b2:(k==2)=true:=by simpa using c2
  unfold ψm.f
  simp only[n1,n2,bS,φ75,hcd,b2,cT,x1,cF,φ6x,hok,nZ]
  rfl
 ·obtain ⟨rfl,rfl,j3,j4⟩:=i5 c1 c2
  have l4:=φ7A j4
  have es:φ7 (k,b,[],[],c,sm)=varT k++(varT b++(varT c++(fix4 sm++[]))):=by
   unfold φ7;rw[if_neg hok2,if_neg c1,if_neg c2];simp[aA]
  rw[es] at hl ⊢
  have x1:=φ6I (fix4 sm) []
  rw[l4] at x1
  have x1:ψ1j.f (fix4 sm++[],false) 4=_:=x1
  have n3:=φ2X j3 (fix4 sm++[]) (lt62 (app3 hl).2)
  have n2:=φ2X i2 (varT c++(fix4 sm++[])) (lt62 (app2 hl))
  have n1:=φ2X i1 (varT b++(varT c++(fix4 sm++[]))) (lt62 hl)
  have b2:(k==2)=false:=by simpa using c2
  have f4:=φFa j4 []
  rw[κ7] at f4
  unfold ψm.f
  simp only[n1,n2,n3,bS,φ75,hcd,b2,cT,x1,cF,φ6x,hok,nZ,φ7Z (fix4 sm) (show (fix4 sm).length<2 ^ 62 by omega),f4]
  rfl
theorem φMb {s:List UInt8} {r:RecT} (h:φ31 s r):ψ2m.f s=some (r,true):=by
 obtain ⟨hok,rfl⟩:=h
 have hl:=φ3Y r
 have hsh:=φ7K r
 obtain ⟨i1,i2,i3,i4,i5⟩:=φAQ hok
 have hok2:¬φa r=false:=by rw[hok];simp
 obtain ⟨k,b,ky,v,c,sm⟩:=r
 simp only at i1 i2 i3 i4 i5
 have head:∀T:List UInt8,(varT k++(varT b++T)).length≤60→φ7 (k,b,ky,v,c,sm)=varT k++(varT b++T) →
   ∃a d:Nat,ψ2n.f (varT k++(varT b++T))=some (k,(a:Int))∧(decide (0≤(a:Int)) && decide ((a:Int)≤((varT k++(varT b++T)).length:Int)))=true∧(varT k++(varT b++T)).drop (a:Int).toNat=varT b++T ∧
    ψ2n.f (varT b++T)=some (b,(d:Int))∧((a:Int)==0)=false∧((d:Int)==0)=false∧(decide (0≤w64 ((a:Int)+(d:Int))) && decide (w64 ((a:Int)+(d:Int))≤((varT k++(varT b++T)).length:Int)))=true ∧
    (varT k++(varT b++T)).drop (w64 ((a:Int)+(d:Int))).toNat=T∧(varT k++(varT b++T)==[])=false:=by
  intro T hT _
  obtain ⟨p1,p2⟩:=φ48 i1 (varT b++T)
  obtain ⟨q1,q2⟩:=φ48 i2 T
  have hT2:=hT
  simp only[lA] at hT2
  have ew:w64 (((varT k).length:Int)+((varT b).length:Int))=(((varT k).length+(varT b).length:Nat):Int):=by rw[φI (by omega) (by omega)];omega
  refine ⟨(varT k).length,(varT b).length,?_,?_,?_,?_,?_,?_,?_,?_,?_⟩
  ·rw[φ2m _ (by omega),p1]
  ·simp only[lA];simp;omega
  ·rw[tN,κQ]
  ·rw[φ2m _ (by simp only[lA];omega),q1]
  ·simp;intro e;rw[e] at p2;simp at p2
  ·simp;intro e;rw[e] at q2;simp at q2
  ·rw[ew];simp only[lA];simp;omega
  ·rw[ew,tN,←aA,←lA,κQ]
  ·cases hv:varT k with
   | nil=>rw[hv] at p2;simp at p2
   | cons x l=>rfl
 by_cases c1:k=1∨k=4
 ·obtain ⟨j1,j2,rfl,rfl⟩:=i3 c1
  have hcd:decide (k=1∨k=4)=true:=decide_eq_true c1
  have es:φ7 (k,b,ky,v,0,0)=varT k++(varT b++(varT (ky.length:Int)++(ky++(varT (v.length:Int)++(v++[]))))):=by
   unfold φ7;rw[if_neg hok2,if_pos c1];simp[aA]
  rw[es] at hl hsh ⊢
  obtain ⟨a,d,e1,e2,e3,e4,e5,e6,e7,e8,e9⟩:=head _ hl es
  have x2:=φ8p v [] ⟨by omega,by omega⟩ (lt15 (app3 (app3 hl).2).2)
  have x1:=φ8p ky (varT (v.length:Int)++(v++[])) ⟨by omega,by omega⟩ (lt15 (app3 hl).2)
  unfold ψ2m.f
  simp only[e1,e2,e3,e4,e5,e6,e7,e8,e9,bS,φ93,hcd,cT,x1,x2,cF,hsh,beq_self_eq_true,nZ]
 have hcd:decide (k=1∨k=4)=false:=decide_eq_false c1
 by_cases c2:k=2
 ·obtain ⟨j1,rfl,rfl,rfl⟩:=i4 c2
  have b2:(k==2)=true:=by simpa using c2
  have es:φ7 (k,b,ky,[],0,0)=varT k++(varT b++(varT (ky.length:Int)++(ky++[]))):=by
   unfold φ7;rw[if_neg hok2,if_neg c1,if_pos c2];simp[aA]
  rw[es] at hl hsh ⊢
  obtain ⟨a,d,e1,e2,e3,e4,e5,e6,e7,e8,e9⟩:=head _ hl es
  have x1:=φ8p ky [] ⟨by omega,by omega⟩ (lt15 (app3 hl).2)
  unfold ψ2m.f
  simp only[e1,e2,e3,e4,e5,e6,e7,e8,e9,bS,φ93,hcd,b2,cT,x1,cF,hsh,beq_self_eq_true,nZ]
 ·obtain ⟨rfl,rfl,j3,j4⟩:=i5 c1 c2
  have b2:(k==2)=false:=by simpa using c2
  have l4:=φ7A j4
  have es:φ7 (k,b,[],[],c,sm)=varT k++(varT b++(varT c++(fix4 sm++[]))):=by
   unfold φ7;rw[if_neg hok2,if_neg c1,if_neg c2];simp[aA]
  rw[es] at hl hsh ⊢
  obtain ⟨a,d,e1,e2,e3,e4,e5,e6,e7,e8,e9⟩:=head _ hl es
  obtain ⟨p1,p2⟩:=φ48 j3 (fix4 sm++[])
  have hl3:=(app3 hl).2
  have r1:ψ2n.f (varT c++(fix4 sm++[]))=some (c,((varT c).length:Int)):=by rw[φ2m _ (lt62 hl3),p1]
  have r2:(decide (0≤((varT c).length:Int)) && decide (((varT c).length:Int)≤((varT c++(fix4 sm++[])).length:Int)))=true:=by simp only[lA];simp;omega
  have r3:(varT c++(fix4 sm++[])).drop (((varT c).length:Int)).toNat=fix4 sm++[]:=by rw[tN,κQ]
  have r4:ψ2k.f (fix4 sm++[]) 4=some (sm,true):=by rw[φGw _ (lt62 (app2 hl3)),φFa j4]
  unfold ψ2m.f
  simp only[e1,e2,e3,e4,e5,e6,e7,e8,e9,bS,φ93,hcd,b2,cT,r1,r2,r3,r4,cF,hsh,beq_self_eq_true,nZ]
noncomputable def φ81 (k b:Int) (st:φ4P):Option (RecT×Bool):=
 ((bif k==1 then some ((0,0,[],[],0,0),st,(k,b,[],[],0,0),k,k==1)
 else some ((0,0,[],[],0,0),st,(k,b,[],[],0,0),k,k==4):Option ((Int×Int×List UInt8×List UInt8×Int×Int)×(List UInt8×Bool)×(Int×Int×List UInt8×List UInt8×Int×Int)×Int×Bool)).bind (fun (x2,x4,x5,x16,x27)=>
 bif x27 then
 (ψ1l.f x4).bind fun (t3_0,t3_1)=>
 (ψ1l.f t3_1).bind fun (t4_0,t4_1)=>
 some (x2,t4_1,(x5.1,x5.2.1,t3_0,t4_0,x5.2.2.2.2))
 else
 (bif x16==2 then
 (ψ1l.f x4).bind fun (t5_0,t5_1)=>
 some (x2,t5_1,(x5.1,x5.2.1,t5_0,x5.2.2.2))
 else
 (ψ1k.f x4).bind fun (t6_0,t6_1)=>
 (ψ1j.f t6_1 4).bind fun (t7_0,t7_1)=>
 (ψj.f t7_0 4).bind fun (t8_0,t8_1)=>
 some (x2,t7_1,(x5.1,x5.2.1,x5.2.2.1,x5.2.2.2.1,t6_0,t8_0)):Option ((Int×Int×List UInt8×List UInt8×Int×Int)×(List UInt8×Bool)×Int×Int×List UInt8×List UInt8×Int×Int)).bind (fun (x2,x4,x5)=>
 some (x2,x4,x5))):Option ((Int×Int×List UInt8×List UInt8×Int×Int)×(List UInt8×Bool)×Int×Int×List UInt8×List UInt8×Int×Int)).bind (fun (x2,x4,x5)=>
 bif x4.2 then
 some ((0,0,[],[],0,0),false)
 else
 bif !(x4.1==[]) then
 some ((0,0,[],[],0,0),false)
 else
 (ψp.f x5).bind fun t9=>
 bif !t9 then
 some ((0,0,[],[],0,0),false)
 else
 some (x5,true))
theorem φMJ (s:List UInt8):ψm.f s=(ψ1k.f (s,false)).bind fun p=>(ψ1k.f p.2).bind fun q=>φ81 p.1 q.1 q.2:=rfl
theorem φGf (k b:Int) (s:List UInt8) (hl:s.length<2 ^ 62):φ81 k b (s,true)=some (φ2t,false):=by
 have hf:ψj.f [] 4=some (0,false):=φ7Z [] (by show 0<2 ^ 62;decide)
 unfold φ81
 simp only[φ75,bS]
 cases decide (k=1∨k=4)
 ·cases (k==2)
  ·simp only[cF,φ7a s hl,bS,φ9Z,hf,cT];rfl
  ·simp only[cF,cT,φ82 s hl,bS];rfl
 ·simp only[cT,φ82 s hl,bS];rfl
theorem φB4 (S:List UInt8) (r:RecT) (st:φ4P) (h:st.2=false→st.1=[]→φa r=true→φ7 r=S) :
  ∃res:RecT×Bool,(bif st.2 then some (((0,0,[],[],0,0):RecT),false) else bif !(st.1==[]) then some ((0,0,[],[],0,0),false) else (ψp.f r).bind fun t9=>bif !t9 then some ((0,0,[],[],0,0),false) else some (r,true))=some res∧(res=(φ2t,false)∨∃r,res=(r,true)∧φ31 S r):=by
 cases hb:st.2
 rotate_left
 ·exact ⟨(φ2t,false),rfl,.inl rfl⟩
 simp only[cF]
 by_cases he:st.1=[]
 ·have he2:(st.1==[])=true:=by simpa using he
  simp only[he2,nZ,cF,φ6x,bS]
  cases hr:φa r
  ·exact ⟨(φ2t,false),rfl,.inl rfl⟩
  ·exact ⟨(r,true),rfl,.inr ⟨r,rfl,hr,h hb he hr⟩⟩
 ·have he2:(st.1==[])=false:=by simpa using he
  simp only[he2,nF,cT]
  exact ⟨(φ2t,false),rfl,.inl rfl⟩
theorem φKF (s:List UInt8) (hl:s.length<1000000000000):∃res:RecT×Bool,ψm.f s=some res∧(res=(φ2t,false)∨∃r,res=(r,true)∧φ31 s r):=by
 rw[φMJ]
 rcases φ5G s (by omega) with ⟨k,s1,e1,q1,i1⟩ | e1
 rotate_left
 ·rw[e1,bS]
  simp only[φ7a s (show s.length<2 ^ 62 by omega),bS,φGf 0 0 s (show s.length<2 ^ 62 by omega)]
  exact ⟨_,rfl,.inl rfl⟩
 have l1:s1.length≤s.length:=by rw[q1,lA];omega
 rw[e1,bS]
 rcases φ5G s1 (by omega) with ⟨b,s2,e2,q2,i2⟩ | e2
 rotate_left
 ·simp only[e2,bS,φGf k 0 s1 (show s1.length<2 ^ 62 by omega)]
  exact ⟨_,rfl,.inl rfl⟩
 have l2:s2.length≤s.length:=by rw[q2,lA] at l1;omega
 simp only[e2,bS]
 unfold φ81
 simp only[φ75,bS]
 by_cases c1:k=1∨k=4
 ·have hcd:decide (k=1∨k=4)=true:=decide_eq_true c1
  simp only[hcd,cT]
  rcases φ89 s2 (by omega) with ⟨ky,s3,e3,q3,i3⟩ | ⟨s3,e3,l3⟩
  rotate_left
  ·simp only[e3,bS,φ82 s3 (show s3.length<2 ^ 62 by omega)]
   exact ⟨_,rfl,.inl rfl⟩
  have l3:s3.length≤s.length:=by rw[q3,lA,lA] at l2;omega
  rcases φ89 s3 (by omega) with ⟨v,s4,e4,q4,i4⟩ | ⟨s4,e4,l4⟩
  rotate_left
  ·simp only[e3,e4,bS]
   exact ⟨_,rfl,.inl rfl⟩
  simp only[e3,e4,bS]
  exact φB4 s (k,b,ky,v,0,0) (s4,false) fun _ he hr=>by
   have he:s4=[]:=he
   subst he
   unfold φ7
   rw[if_neg (by rw[hr];simp),if_pos c1,q1,q2,q3,q4]
   simp[aA]
 have hcd:decide (k=1∨k=4)=false:=decide_eq_false c1
 by_cases c2:k=2
 ·have b2:(k==2)=true:=by simpa using c2
  simp only[hcd,b2,cT,cF]
  rcases φ89 s2 (by omega) with ⟨ky,s3,e3,q3,i3⟩ | ⟨s3,e3,l3⟩
  rotate_left
  ·simp only[e3,bS]
   exact ⟨_,rfl,.inl rfl⟩
  simp only[e3,bS]
  exact φB4 s (k,b,ky,[],0,0) (s3,false) fun _ he hr=>by
   have he:s3=[]:=he
   subst he
   unfold φ7
   rw[if_neg (by rw[hr];simp),if_neg c1,if_pos c2,q1,q2,q3]
   simp[aA]
 ·have b2:(k==2)=false:=by simpa using c2
  simp only[hcd,b2,cF]
  rcases φ5G s2 (by omega) with ⟨c,s3,e3,q3,i3⟩ | e3
  rotate_left
  ·have hf:ψj.f [] 4=some (0,false):=φ7Z [] (by show 0<2 ^ 62;decide)
   simp only[e3,bS,φ9Z,hf]
   exact ⟨_,rfl,.inl rfl⟩
  rcases φB5 s3 4 (by omega) with ⟨t,s4,e4,q4,i4⟩ | e4
  rotate_left
  ·have hf:ψj.f [] 4=some (0,false):=φ7Z [] (by show 0<2 ^ 62;decide)
   simp only[e3,e4,bS,hf]
   exact ⟨_,rfl,.inl rfl⟩
  have ht:t.length=4:=by omega
  have hf:=φ7Z t (by omega)
  obtain ⟨f1,f2,f3⟩:=φK5 t ht
  simp only[e3,e4,bS,hf]
  exact φB4 s (k,b,[],[],c,(φ3n t).1) (s4,false) fun _ he hr=>by
   have he:s4=[]:=he
   subst he
   unfold φ7
   rw[if_neg (by rw[hr];simp),if_neg c1,if_neg c2,q1,q2,q3,q4]
   simp only
   rw[f1]
   simp[aA]
theorem φCU (S:List UInt8) (r:RecT):∃res:RecT×Bool,((ψ2y.f r).bind fun t9=>bif !(t9==S) then some (((0,0,[],[],0,0):RecT),false) else bif S==[] then some ((0,0,[],[],0,0),false) else some (r,true))=some res∧(res=(φ2t,false)∨∃r,res=(r,true)∧φ31 S r):=by
 rw[φ7K,bS]
 by_cases c:φ7 r=S
 ·have c1:(φ7 r==S)=true:=by simpa using c
  simp only[c1,nZ,cF]
  by_cases e:S=[]
  ·have e1:(S==[])=true:=by simpa using e
   simp only[e1,cT]
   exact ⟨_,rfl,.inl rfl⟩
  ·have e1:(S==[])=false:=by simpa using e
   simp only[e1,cF]
   refine ⟨_,rfl,.inr ⟨r,rfl,?_,c⟩⟩
   cases hr:φa r with
   | true=>rfl
   | false=>
    exfalso
    apply e
    rw[←c]
    unfold φ7
    rw[if_pos hr]
 ·have c1:(φ7 r==S)=false:=by simpa using c
  simp only[c1,nF,cT]
  exact ⟨_,rfl,.inl rfl⟩
theorem φ63 (s:List UInt8):0≤(φx s).2∧(φx s).2≤s.length∧(φx s).2≤7:=by
 rcases φB0 s with h | ⟨n,k,_,h,h1,h2,h3,h4,h5⟩
 ·rw[h];simp
 ·rw[h];simp only;omega
theorem φKP (s:List UInt8) (hl:s.length<1000000000000):∃res:RecT×Bool,ψ2m.f s=some res∧(res=(φ2t,false)∨∃r,res=(r,true)∧φ31 s r):=by
 unfold ψ2m.f
 rw[φ2m s (by omega),bS]
 obtain ⟨a1,a2,a3⟩:=φ63 s
 generalize φx s=p at *
 obtain ⟨k,a⟩:=p
 simp only at a1 a2 a3
 have c1:(decide (0≤a) && decide (a≤(s.length:Int)))=true:=by simp;omega
 have hd:(s.drop a.toNat).length=s.length - a.toNat:=lD
 simp only[c1,cT,φ2m (s.drop a.toNat) (show (s.drop a.toNat).length<2 ^ 62 by omega),bS]
 obtain ⟨b1,b2,b3⟩:=φ63 (s.drop a.toNat)
 generalize φx (s.drop a.toNat)=q at *
 obtain ⟨b,d⟩:=q
 simp only at b1 b2 b3 ⊢
 cases ea:(a==0)
 rotate_left
 ·simp only[cT];exact ⟨_,rfl,.inl rfl⟩
 cases ed:(d==0)
 rotate_left
 ·simp only[cT,cF];exact ⟨_,rfl,.inl rfl⟩
 have ew:w64 (a+d)=a+d:=φI (by omega) (by omega)
 have c2:(decide (0≤a+d) && decide (a+d≤(s.length:Int)))=true:=by simp;omega
 simp only[cF,ew,c2,cT,φ93,bS]
 have hx:(s.drop (a+d).toNat).length≤s.length:=by rw[lD];omega
 generalize s.drop (a+d).toNat=x at *
 cases decide (k=1∨k=4)
 rotate_left
 ·obtain ⟨t,r,f,e1,l1,l2⟩:=φAh x (by omega)
  obtain ⟨t',r',f',e2,l3,l4⟩:=φAh r (by omega)
  simp only[cT,e1,e2,bS]
  exact φCU s (k,b,t,t',0,0)
 cases (k==2)
 rotate_left
 ·obtain ⟨t,r,f,e1,l1,l2⟩:=φAh x (by omega)
  simp only[cT,cF,e1,bS]
  exact φCU s (k,b,t,[],0,0)
 ·simp only[cF,φ2m x (show x.length<2 ^ 62 by omega),bS]
  obtain ⟨g1,g2,g3⟩:=φ63 x
  generalize φx x=u at *
  obtain ⟨c,g⟩:=u
  simp only at g1 g2 g3 ⊢
  have c3:(decide (0≤g) && decide (g≤(x.length:Int)))=true:=by simp;omega
  simp only[c3,cT,φGw (x.drop g.toNat) (show (x.drop g.toNat).length<2 ^ 62 by rw[lD];omega),bS]
  exact φCU s (k,b,[],[],c,(φ3n (x.drop g.toNat)).1)
noncomputable def φ1S (s:List UInt8):RecT×Bool:=@dite (RecT×Bool) (∃r,φ31 s r) (Classical.propDecidable _) (fun h=>(h.choose,true)) (fun _=>(φ2t,false))
theorem φHt {s:List UInt8} {o:Option (RecT×Bool)} (h1:∀r,φ31 s r→o=some (r,true)) (h2:∃res:RecT×Bool,o=some res∧(res=(φ2t,false)∨∃r,res=(r,true)∧φ31 s r)):o=some (φ1S s):=by
 unfold φ1S
 by_cases h:∃r,φ31 s r
 ·rw[dif_pos h];exact h1 _ h.choose_spec
 ·rw[dif_neg h]
  obtain ⟨res,e,k | ⟨r,_,hr⟩⟩:=h2
  ·rw[e,k]
  ·exact absurd ⟨r,hr⟩ h
theorem φEf (s:List UInt8) (hl:s.length<1000000000000):ψm.f s=some (φ1S s):=φHt (fun _ h=>φAs h) (φKF s hl)
theorem φHp (s:List UInt8) (hl:s.length<1000000000000):ψ2m.f s=some (φ1S s):=φHt (fun _ h=>φMb h) (φKP s hl)
theorem φ7h (s:List UInt8):φ1S s=(φ2t,false)∧(¬∃r,φ31 s r)∨∃r,φ1S s=(r,true)∧φ31 s r:=by
 unfold φ1S
 by_cases h:∃r,φ31 s r
 ·rw[dif_pos h];exact .inr ⟨_,rfl,h.choose_spec⟩
 ·rw[dif_neg h];exact .inl ⟨rfl,h⟩
theorem φ6G (s:List UInt8):(φP s).1.length≤s.length:=by
 unfold φP
 split
 ·simp
 split
 ·simp
 ·split
  ·simp
  split
  ·simp only[lD,lT];omega
  ·simp
noncomputable def φ1J (s:List UInt8) (a n:Int):RecT×Bool:=
 if 0≤a∧a≤(s.length:Int)∧1≤n∧n≤(s.length:Int) - a then
  (if (φP ((s.take (a+n).toNat).drop a.toNat)).2=n then φ1S (φP ((s.take (a+n).toNat).drop a.toNat)).1 else (φ2t,false))
 else (φ2t,false)
theorem φFg (s:List UInt8) (a n:Int) (hl:s.length<1000000000):ψo.f s a n=some (φ1J s a n):=by
 unfold ψo.f φ1J
 rw[φ1a,bS]
 by_cases c1:0≤a∧a≤(s.length:Int)
 rotate_left
 ·simp only[c1,dF,nF,cT]
  rw[if_neg (fun k=>c1 ⟨k.1,k.2.1⟩)];rfl
 have ew:w64 ((s.length:Int) - a)=(s.length:Int) - a:=φI (by omega) (by omega)
 have c1b:decide (0≤a∧a≤(s.length:Int))=true:=decide_eq_true c1
 simp only[c1b,nZ,cF,φ1a,bS,ew]
 by_cases c2:0≤n∧n≤(s.length:Int) - a
 rotate_left
 ·simp only[c2,dF,nF,cT]
  rw[if_neg (fun k=>c2 ⟨by omega,k.2.2.2⟩)];rfl
 have e2:w64 (a+n)=a+n:=φI (by omega) (by omega)
 have c3:(decide (0≤a+n) && decide (a+n≤(s.length:Int)))=true:=by simp;omega
 have c4:(decide (0≤a) && decide (a≤a+n))=true:=by simp;omega
 have hlx:((s.take (a+n).toNat).drop a.toNat).length<1000000000:=by rw[lD,lT];omega
 have c2b:decide (0≤n∧n≤(s.length:Int) - a)=true:=decide_eq_true c2
 have hx0:n=0→(φP ((s.take (a+n).toNat).drop a.toNat)).2=0:=fun e=>by
  have:((s.take (a+n).toNat).drop a.toNat)=[]:=by rw[List.drop_eq_nil_iff,lT];omega
  rw[this];rfl
 have hlen:=φ6G ((s.take (a+n).toNat).drop a.toNat)
 have hun:=φ8v _ (show ((s.take (a+n).toNat).drop a.toNat).length<1000000000000 by omega)
 by_cases c5:n=0
 ·rw[if_neg (fun z=>by omega)]
  simp only[c2b,nZ,cF,e2,c3,c4,cT,hun,bS]
  have hk:=hx0 c5
  have d:((φP ((s.take (a+n).toNat).drop a.toNat)).2==0)=true:=by simpa using hk
  simp only[d,cT];rfl
 rw[if_pos ⟨c1.1,c1.2,by omega,c2.2⟩]
 simp only[c2b,nZ,cF,e2,c3,c4,cT,hun,bS]
 generalize φP ((s.take (a+n).toNat).drop a.toNat)=u at *
 obtain ⟨t,k⟩:=u
 simp only at hx0 hlen ⊢
 by_cases c6:k=n
 ·have d:(k==0)=false:=by simp;omega
  have d2:(k != n)=false:=by simpa using c6
  simp only[d,d2,cF,φEf t (show t.length<1000000000000 by omega),bS]
  rw[if_pos c6]
 ·have d2:(k != n)=true:=by simpa using c6
  rw[if_neg c6]
  cases d:(k==0)
  ·simp only[d2,cF,cT];rfl
  ·simp only[cT];rfl
theorem φCs (s:List UInt8) (a n:Int) (hl:s.length<1000000000):ψ2o.f s a n=some (φ1J s a n):=by
 unfold ψ2o.f φ1J
 rw[φ2J,bS]
 by_cases c1:0≤a∧a≤(s.length:Int)
 rotate_left
 ·simp only[c1,dF,nF,cT]
  rw[if_neg (fun k=>c1 ⟨k.1,k.2.1⟩)];rfl
 have ew:w64 ((s.length:Int) - a)=(s.length:Int) - a:=φI (by omega) (by omega)
 have c1b:decide (0≤a∧a≤(s.length:Int))=true:=decide_eq_true c1
 simp only[c1b,nZ,cF,φ2J,bS,ew]
 by_cases c2:1≤n∧n≤(s.length:Int) - a
 rotate_left
 ·rw[if_neg (fun k=>c2 ⟨k.2.2.1,k.2.2.2⟩)]
  simp only[c2,dF,nF,cT];rfl
 have e2:w64 (a+n)=a+n:=φI (by omega) (by omega)
 have c3:(decide (0≤a+n) && decide (a+n≤(s.length:Int)))=true:=by simp;omega
 have c4:(decide (0≤a) && decide (a≤a+n))=true:=by simp;omega
 have hlx:((s.take (a+n).toNat).drop a.toNat).length<1000000000:=by rw[lD,lT];omega
 have c2b:decide (1≤n∧n≤(s.length:Int) - a)=true:=decide_eq_true c2
 have hlen:=φ6G ((s.take (a+n).toNat).drop a.toNat)
 have hun:=φ9k _ (show ((s.take (a+n).toNat).drop a.toNat).length<1000000000000 by omega)
 rw[if_pos ⟨c1.1,c1.2,c2.1,c2.2⟩]
 simp only[c2b,nZ,cF,e2,c3,c4,cT,hun,bS]
 generalize φP ((s.take (a+n).toNat).drop a.toNat)=u at *
 obtain ⟨t,k⟩:=u
 simp only at hlen ⊢
 rw[φHp t (by omega),bS]
 by_cases c6:k=n
 ·have d2:(k != n)=false:=by simpa using c6
  rw[if_pos c6]
  simp only[d2,cF]
  rcases φ7h t with ⟨e,_⟩ | ⟨r,e,_⟩<;>rw[e]<;>rfl
 ·have d2:(k != n)=true:=by simpa using c6
  rw[if_neg c6]
  simp only[d2,cT];rfl
theorem φIT (a n:Int):φ1J [] a n=(φ2t,false):=by
 unfold φ1J
 rw[if_neg]
 simp only[lN]
 omega
noncomputable def getP (s:φ8) (d:φ1) (key:List UInt8):φX×Int:=
 if (φ1s s.2.1 key).2=false then (([],[],0),8) else
 let e:=(φ1s s.2.1 key).1
 let r:=φ1J (φ2 d (φ0 e.2.1)).1 e.2.2.1 e.2.2.2.1
 if r.2=true∧(r.1.1=1∨r.1.1=4)∧r.1.2.2.1=key then ((key,r.1.2.2.2.1,r.1.2.1),0) else (([],[],0),3)
theorem φGl (s:φ8) (d:φ1) (key:List UInt8) (h:dlim d) (hu:φK d.1<1000000000) (hs:s.2.1.length<2 ^ 62):ψS.f s d key=some (getP s d key):=by
 unfold ψS.f getP
 rw[φCw s.2.1 key hs,bS]
 generalize φ1s s.2.1 key=g at *
 obtain ⟨e,is⟩:=g
 simp only
 cases is
 ·rfl
 have hl:=φ4k d (φ0 e.2.1) h
 simp only[nZ,cF,φ3E,bS,φ4j d _ h,φFg (φ2 d (φ0 e.2.1)).1 e.2.2.1 e.2.2.2.1 (show (φ2 d (φ0 e.2.1)).1.length<1000000000 by omega),κ9,if_false]
 generalize φ1J (φ2 d (φ0 e.2.1)).1 e.2.2.1 e.2.2.2.1=r at *
 obtain ⟨r,ok⟩:=r
 simp only
 cases ok
 ·simp
 simp only[nZ,cF,true_and]
 by_cases k:r.2.2.1=key
 ·have k2:(r.2.2.1==key)=true:=by simpa using k
  by_cases c1:r.1=1
  ·have d1:(r.1 != 1)=false:=by simpa using c1
   simp only[d1,k2,nZ,cF]
   rw[if_pos ⟨.inl c1,k⟩,k]
  ·have d1:(r.1 != 1)=true:=by simpa using c1
   by_cases c4:r.1=4
   ·have d4:(r.1 != 4)=false:=by simpa using c4
    simp only[d1,d4,k2,nZ,cF,cT]
    rw[if_pos ⟨.inr c4,k⟩,k]
   ·have d4:(r.1 != 4)=true:=by simpa using c4
    simp only[d1,d4,cT]
    rw[if_neg (by intro z;exact z.1.elim c1 c4)]
 ·have k2:(r.2.2.1==key)=false:=by simpa using k
  rw[if_neg (fun z=>k z.2)]
  cases (r.1 != 1)<;>cases (r.1 != 4)<;>simp only[k2,nF,cF,cT]
theorem φIZ (s:φ8) (d:φ1) (key:List UInt8) (h:dlim d) (hu:φK d.1<1000000000) (hs:s.2.1.length<2 ^ 62):ψ2W.f s d key=some (getP s d key):=by
 unfold ψ2W.f getP
 rw[φGX s.2.1 key hs,bS]
 generalize φ1s s.2.1 key=g at *
 obtain ⟨e,is⟩:=g
 simp only
 cases is
 ·rfl
 have hl:=φ4k d (φ0 e.2.1) h
 simp only[nZ,cF,φ4W,bS,φ8j d _ h,φCs (φ2 d (φ0 e.2.1)).1 e.2.2.1 e.2.2.2.1 (show (φ2 d (φ0 e.2.1)).1.length<1000000000 by omega),κ9,if_false]
 have hno:(φ2 d (φ0 e.2.1)).2=false→φ1J (φ2 d (φ0 e.2.1)).1 e.2.2.1 e.2.2.2.1=(φ2t,false):=fun hf=>by
  have:(φ2 d (φ0 e.2.1)).1=[]:=by
   unfold φ2 at hf ⊢
   split
   ·rfl
   ·rename_i c
    rw[if_neg c] at hf
    split
    ·rename_i i hi;rw[hi] at hf;simp at hf
    ·rfl
  rw[this];exact φIT _ _
 generalize φ1J (φ2 d (φ0 e.2.1)).1 e.2.2.1 e.2.2.2.1=r at *
 cases hf:(φ2 d (φ0 e.2.1)).2
 ·rw[hno hf];simp
 obtain ⟨r,ok⟩:=r
 simp only[nZ,cF]
 cases ok
 ·simp
 simp only[nZ,cF,true_and]
 by_cases k:r.2.2.1=key
 ·have k2:(r.2.2.1==key)=true:=by simpa using k
  simp only[k2,nZ,cF]
  by_cases c1:r.1=1
  ·have d1:(r.1 != 1)=false:=by simpa using c1
   simp only[d1,cF]
   rw[if_pos ⟨.inl c1,k⟩]
  ·have d1:(r.1 != 1)=true:=by simpa using c1
   by_cases c4:r.1=4
   ·have d4:(r.1 != 4)=false:=by simpa using c4
    simp only[d1,d4,cF,cT]
    rw[if_pos ⟨.inr c4,k⟩]
   ·have d4:(r.1 != 4)=true:=by simpa using c4
    simp only[d1,d4,cT]
    rw[if_neg (by intro z;exact z.1.elim c1 c4)]
 ·have k2:(r.2.2.1==key)=false:=by simpa using k
  simp only[k2,nF,cT]
  rw[if_neg (fun z=>k z.2)]
abbrev φ1p:=Int×Int×RecT
theorem φ90 (s:List UInt8):(φP s).2=0∨∃n:Nat,(φP s).2=(n:Int)∧5≤n∧n≤s.length:=by
 unfold φP
 split
 ·exact .inl rfl
 split
 ·exact .inl rfl
 ·rename_i n k hr
  obtain ⟨q1,q2,q3,q4,q5⟩:=φ4l 7 true (s.drop 4) n k hr
  split
  ·exact .inl rfl
  rename_i c
  split
  ·exact .inr ⟨4+k+n,rfl,by omega,by omega⟩
  ·exact .inl rfl
noncomputable def φ5J:Nat→List UInt8→Nat→List φ1p×Nat
 | 0,_,a=>([],a)
 | f+1,s,a=>
  if (φP (s.drop a)).2=0∨(φ1S (φP (s.drop a)).1).2=false then ([],a) else
  (((a:Int),(φP (s.drop a)).2,(φ1S (φP (s.drop a)).1).1)::(φ5J f s (a+(φP (s.drop a)).2.toNat)).1,(φ5J f s (a+(φP (s.drop a)).2.toNat)).2)
theorem φEV:∀(f g:Nat) (s:List UInt8) (a:Nat),a≤s.length→s.length<a+f→s.length<a+g→φ5J f s a=φ5J g s a
 | 0,_,s,a,ha,hf,_=>by omega
 | f+1,0,s,a,ha,_,hg=>by omega
 | f+1,g+1,s,a,ha,hf,hg=>by
  unfold φ5J
  by_cases c:(φP (s.drop a)).2=0∨(φ1S (φP (s.drop a)).1).2=false
  ·rw[if_pos c,if_pos c]
  ·rw[if_neg c,if_neg c]
   rcases φ90 (s.drop a) with h | ⟨n,h,h5,hn⟩
   ·exact absurd (.inl h) c
   ·rw[lD] at hn
    rw[h,tN,φEV f g s (a+n) (by omega) (by omega) (by omega)]
noncomputable def φ2O (s:List UInt8) (a:Nat):List φ1p×Nat:=φ5J (s.length+1 - a) s a
noncomputable def scan (s:List UInt8):List φ1p×Nat:=φ2O s 0
theorem φ4x {s:List UInt8} {a:Nat} (ha:a≤s.length) (h:(φP (s.drop a)).2=0∨(φ1S (φP (s.drop a)).1).2=false):φ2O s a=([],a):=by
 unfold φ2O
 rw[show s.length+1 - a=(s.length - a)+1 by omega,φ5J,if_pos h]
theorem φ5n {s:List UInt8} {a n:Nat} (hn:(φP (s.drop a)).2=(n:Int)) (h0:5≤n) (hl:a+n≤s.length) (hr:(φ1S (φP (s.drop a)).1).2=true) :
  φ2O s a=(((a:Int),(n:Int),(φ1S (φP (s.drop a)).1).1)::(φ2O s (a+n)).1,(φ2O s (a+n)).2):=by
 unfold φ2O
 rw[show s.length+1 - a=(s.length - a)+1 by omega,φ5J,if_neg (by rw[hn,hr];simp;omega),hn,tN,φEV (s.length - a) (s.length+1 - (a+n)) s (a+n) (by omega) (by omega) (by omega)]
theorem φ8A {s:List UInt8}:φ2O s s.length=([],s.length):=
 φ4x (κ6 _) (.inl (by rw[List.drop_length];rfl))
theorem φK8:∀(k:Nat) (s:List UInt8) (a:Nat),a≤s.length→s.length - a=k→(φ2O s a).2≤s.length∧a≤(φ2O s a).2∧(φ2O s a).1.length≤s.length - a:=by
 intro k
 induction k using Nat.strongRecOn with
 | ind k ih=>
  intro s a ha hk
  by_cases c:(φP (s.drop a)).2=0∨(φ1S (φP (s.drop a)).1).2=false
  ·rw[φ4x ha c];exact ⟨ha,κ6 _,by simp⟩
  ·rcases φ90 (s.drop a) with h | ⟨n,h,h5,hn⟩
   ·exact absurd (.inl h) c
   ·rw[lD] at hn
    have hr:(φ1S (φP (s.drop a)).1).2=true:=by
     cases e:(φ1S (φP (s.drop a)).1).2 with
     | true=>rfl
     | false=>exact absurd (.inr e) c
    rw[φ5n h h5 (by omega) hr]
    have:=ih (s.length - (a+n)) (by omega) s (a+n) (by omega) rfl
    simp only[lC]
    omega
theorem φ6C (s:List UInt8):(scan s).2≤s.length∧(scan s).1.length≤s.length:=by
 have:=φK8 s.length s 0 (κ4 _) (by omega)
 unfold scan
 omega
def φ2w (e:φC):Bool:=φ1E e.1 && (decide (1≤e.2.1∧e.2.1≤100000) && (decide (0≤e.2.2.1) && (decide (1≤e.2.2.2.1∧e.2.2.2.1≤210) && decide (1≤e.2.2.2.2∧e.2.2.2.2≤1000000))))
def φ2a:Option (List UInt8)→List φC→Bool
 | _,[]=>true
 | p,e::r=>φ2w e && ((match p with | none=>true | some q=>Op.bytesLess q e.1) && φ2a (some e.1) r)
def φ71 (l:List φC):Nat→Option (List UInt8)
 | 0=>none
 | n+1=>some (l.getD n ([],0,0,0,0)).1
theorem φ9R (l:List φC) (n:Nat) (h:n<l.length):φ71 l (n+1)=some l[n].1:=by
 show some (l.getD n ([],0,0,0,0)).1=_
 rw[φ9 h]
def φ1v (l:List φC):Bool:=φ2a none l && decide (l.length≤20)
theorem φD7 {a:Nat} (h:a<1000000000001):(a+1) * 80≤140737488355328:=by omega
theorem φBG (s:List UInt8) (hl:s.length<1000000000):ψx.f s=some ((scan s).1,((scan s).2:Int)):=by
 have key:=φ73 (step:=ψx.l0) (a:=(s,([]:List φ1p),((0:Nat):Int))) (fun a=>(a.2.1++(φ2O s a.2.2.toNat).1,((φ2O s a.2.2.toNat).2:Int))) (fun a=>a.1=s∧∃n:Nat,a.2.2=(n:Int)∧n≤s.length∧a.2.1.length≤n) (fun a=>s.length - a.2.2.toNat)
  (fun rec a ha ih=>by
   obtain ⟨x,out,k⟩:=a
   obtain ⟨hx,n,hn,hle,hol⟩:=ha
   simp only at hx hn hol ih ⊢
   subst hx hn
   have c1:(decide (0≤(n:Int)) && decide ((n:Int)≤(x.length:Int)))=true:=by simp;omega
   have hd:(x.drop n).length<1000000000000:=by rw[lD];omega
   have hu:=φ6G (x.drop n)
   simp only[ψx.l0,c1,cT,tN,φ8v (x.drop n) hd,φEf (φP (x.drop n)).1 (show (φP (x.drop n)).1.length<1000000000000 by omega),bS]
   rcases φ90 (x.drop n) with h | ⟨m,h,h5,hm⟩
   ·have d:((φP (x.drop n)).2==0)=true:=by simpa using h
    rw[φ4x hle (.inl h)]
    simp only[d,cT,κ7]
   have d:(((m:Nat):Int)==0)=false:=by simp;omega
   rw[lD] at hm
   cases hr:(φ1S (φP (x.drop n)).1).2
   ·rw[φ4x hle (.inr hr)]
    simp only[h,d,cF,nF,cT,κ7]
   ·have hb:∀{α:Type} (v:α),(out.length+[v].length) * 80≤140737488355328:=fun v=>φD7 (by omega)
    have ew:w64 ((n:Int)+(m:Int))=((n+m:Nat):Int):=by rw[φI (by omega) (by omega)];omega
    have ih:=ih (x,out++[((n:Int),(m:Int),(φ1S (φP (x.drop n)).1).1)],((n+m:Nat):Int)) ⟨rfl,n+m,rfl,by omega,by simp only[lA,κA];omega⟩ (by simp only[tN];omega)
    simp only[tN] at ih
    rw[φ5n h h5 (by omega) hr]
    simp only[h,d,cF,nZ,hb,dT,cT,ew,ih]
    simp[aA])
  ⟨rfl,0,rfl,κ4 _,by simp⟩ (by simp only;omega)
 have key:lp ψx.l0 (s,[],0)=_:=key
 unfold ψx.f
 rw[key,bS]
 rfl
theorem φDs (s:List UInt8) (hl:s.length<1000000000):ψ2u.f s=some ((scan s).1,((scan s).2:Int)):=by
 have key:=φ7Q (step:=ψ2u.l0) (a:=(s,([]:List φ1p),((0:Nat):Int))) (fun a=>a.1=s∧∃n:Nat,a.2.2=(n:Int)∧n≤s.length∧a.2.1.length≤n∧scan s=(a.2.1++(φ2O s n).1,(φ2O s n).2)) (fun a=>s.length - a.2.2.toNat)
  (fun b=>b=.inl ((scan s).1,((scan s).2:Int))∨b=.inr ((scan s).1,((scan s).2:Int)))
  (fun rec a ha=>by
   obtain ⟨x,out,k⟩:=a
   obtain ⟨hx,n,hn,hle,hol,hs⟩:=ha
   simp only at hx hn hol hs
   subst hx hn
   rcases κ2 n x.length with hlt | hge
   rotate_left
   ·left
    have:n=x.length:=by omega
    subst this
    rw[φ8A] at hs
    refine ⟨_,?_,.inl rfl⟩
    rw[hs]
    simp[ψ2u.l0]
   have c0:(n:Int)<(x.length:Int):=by omega
   have c1:(decide (0≤(n:Int)) && decide ((n:Int)≤(x.length:Int)))=true:=by simp;omega
   have hd:(x.drop n).length<1000000000000:=by rw[lD];omega
   have hu:=φ6G (x.drop n)
   simp only[ψ2u.l0,c0,dT,c1,cT,tN,φ9k (x.drop n) hd,φHp (φP (x.drop n)).1 (show (φP (x.drop n)).1.length<1000000000000 by omega),bS]
   rcases φ90 (x.drop n) with h | ⟨m,h,h5,hm⟩
   ·left
    have d:((φP (x.drop n)).2==0)=true:=by simpa using h
    rw[φ4x hle (.inl h)] at hs
    simp only[κ7] at hs
    exact ⟨.inr (out,(n:Int)),by simp only[d,cT],.inr (by rw[hs])⟩
   have d:(((m:Nat):Int)==0)=false:=by simp;omega
   rw[lD] at hm
   cases hr:(φ1S (φP (x.drop n)).1).2
   ·left
    rw[φ4x hle (.inr hr)] at hs
    simp only[κ7] at hs
    exact ⟨.inr (out,(n:Int)),by simp only[h,d,cF,nF,cT],.inr (by rw[hs])⟩
   ·right
    have hb:∀{α:Type} (v:α),(out.length+[v].length) * 80≤140737488355328:=fun v=>φD7 (by omega)
    have ew:w64 ((n:Int)+(m:Int))=((n+m:Nat):Int):=by rw[φI (by omega) (by omega)];omega
    rw[φ5n h h5 (by omega) hr] at hs
    refine ⟨(x,out++[((n:Int),(m:Int),(φ1S (φP (x.drop n)).1).1)],((n+m:Nat):Int)),⟨rfl,n+m,rfl,by omega,by simp only[lA,κA];omega,by simpa [aA] using hs⟩,by simp only[tN];omega,?_⟩
    simp only[h,d,cF,nZ,hb,dT,cT,ew])
  ⟨rfl,0,rfl,κ4 _,by simp,by unfold scan;simp⟩ (by simp only;omega)
 obtain ⟨b,e,hb⟩:=key
 have e:lp ψ2u.l0 (s,[],0)=some b:=e
 unfold ψ2u.f
 rw[e,bS]
 rcases hb with rfl | rfl<;>rfl
theorem φKG (l:List φC) (hl:l.length<2 ^ 62):lp ψA.l0 (l,l,(l.length:Int),0)=some (if φ2a none l=true then .inl l else .inr false):=by
 have key:=φg (step:=ψA.l0) (fun n (_:Unit)=>(l,l,(l.length:Int),(n:Int))) l.length (fun n _=>if φ2a (φ71 l n) (l.drop n)=true then .inl l else .inr false) (fun _ _=>True)
  (fun rec n s hn' _ ih=>by
   rcases κ2 n l.length with h | h
   ·have hw:w64 ((n:Int)+1)=((n+1:Nat):Int):=φM (by omega)
    have ih2:=ih () h trivial
    rw[φ9R l n h] at ih2
    rw[dG h]
    simp only[φ2a,ψA.l0,oL,h,dT,cT,φF,φJ,φ9 h,bS,φ1a,φ6O]
    unfold φ2w
    have hneg:decide (l[n].2.2.1<0)=!decide (0≤l[n].2.2.1):=by
     by_cases c:0≤l[n].2.2.1
     ·have:¬l[n].2.2.1<0:=by omega
      simp[c,this]
     ·have:l[n].2.2.1<0:=by omega
      simp[c,this]
    rw[hneg]
    rcases bE (φ1E l[n].1) with k1 | k1
    rotate_left
    ·simp[k1]
    rcases bE (decide (1≤l[n].2.1∧l[n].2.1≤100000)) with k2 | k2
    rotate_left
    ·simp only[k1,k2,nZ,nF,cF,cT,bS,φp];simp
    rcases bE (decide (0≤l[n].2.2.1)) with k3 | k3
    rotate_left
    ·simp only[k1,k2,k3,nZ,nF,cF,cT,bS,φp];simp
    rcases bE (decide (1≤l[n].2.2.2.1∧l[n].2.2.2.1≤210)) with k4 | k4
    rotate_left
    ·simp only[k1,k2,k3,k4,nZ,nF,cF,cT,bS,φp];simp
    rcases bE (decide (1≤l[n].2.2.2.2∧l[n].2.2.2.2≤1000000)) with k5 | k5
    rotate_left
    ·simp only[k1,k2,k3,k4,k5,nZ,nF,cF,cT,bS,φp];simp
    simp only[k1,k2,k3,k4,k5,nZ,cF,tA]
    cases n with
    | zero=>
     have z:¬((0:Nat):Int) > 0:=by omega
     simp only[z,dF,cF,bS,φf,hw,ih2,φ71,tA]
    | succ m=>
     have z:((m+1:Nat):Int) > 0:=by omega
     have hm:m<l.length:=by omega
     have z2:w64 (((m+1:Nat):Int) - 1)=(m:Int):=by rw[φI (by omega) (by omega)];omega
     rw[φ9R l m hm]
     simp only[z,dT,cT,z2,φF,hm,φJ,φ9 hm]
     rcases bE (Op.bytesLess l[m].1 l[m+1].1) with k6 | k6
     ·simp only[k6,nZ,cF,bS,φf,hw,ih2,tA]
     ·simp[k6]
   ·have:n=l.length:=by omega
    subst this
    simp[ψA.l0,φ2a])
  hl 0 () (κ4 _) trivial
 have key:lp ψA.l0 (l,l,(l.length:Int),0)=_:=key
 rw[key,κC];rfl
theorem φOk (a:Int):decide (a<0)=!decide (0≤a):=by
 by_cases c:0≤a
 ·have:¬a<0:=by omega
  simp[c,this]
 ·have:a<0:=by omega
  simp[c,this]
theorem φOX (l:List φC) (hl:l.length<2 ^ 62):lp ψ2O.l0 (l,0)=some (if φ2a none l=true then .inl () else .inr false):=by
 have key:=φg (step:=ψ2O.l0) (fun n (_:Unit)=>(l,(n:Int))) l.length (fun n _=>if φ2a (φ71 l n) (l.drop n)=true then .inl () else .inr false) (fun _ _=>True)
  (fun rec n s hn' _ ih=>by
   rcases κ2 n l.length with h | h
   ·have hw:w64 ((n:Int)+1)=((n+1:Nat):Int):=φM (by omega)
    have ih2:=ih () h trivial
    rw[φ9R l n h] at ih2
    rw[dG h]
    simp only[φ2a,ψ2O.l0,oL,h,dT,cT,φF,φJ,φ9 h,bS,φ2J,φ7s]
    unfold φ2w
    rw[φOk]
    rcases bE (φ1E l[n].1) with k1 | k1
    rotate_left
    ·simp[k1]
    rcases bE (decide (1≤l[n].2.1∧l[n].2.1≤100000)) with k2 | k2
    rotate_left
    ·simp only[k1,k2,nZ,nF,cF,cT,bS,φp];simp
    rcases bE (decide (0≤l[n].2.2.1)) with k3 | k3
    rotate_left
    ·simp only[k1,k2,k3,nZ,nF,cF,cT,bS,φp];simp
    rcases bE (decide (1≤l[n].2.2.2.1∧l[n].2.2.2.1≤210)) with k4 | k4
    rotate_left
    ·simp only[k1,k2,k3,k4,nZ,nF,cF,cT,bS,φp];simp
    rcases bE (decide (1≤l[n].2.2.2.2∧l[n].2.2.2.2≤1000000)) with k5 | k5
    rotate_left
    ·simp only[k1,k2,k3,k4,k5,nZ,nF,cF,cT,bS,φp];simp
    simp only[k1,k2,k3,k4,k5,nZ,cF,tA]
    cases n with
    | zero=>
     have z:¬((0:Nat):Int) > 0:=by omega
     simp only[z,dF,cF,bS,φf,hw,ih2,φ71,tA]
    | succ m=>
     have z:((m+1:Nat):Int) > 0:=by omega
     have hm:m<l.length:=by omega
     have z2:w64 (((m+1:Nat):Int) - 1)=(m:Int):=by rw[φI (by omega) (by omega)];omega
     have z3:(Op.bytesLess l[m+1].1 l[m].1 || l[m+1].1==l[m].1)=!Op.bytesLess l[m].1 l[m+1].1:=φ9p _ _
     rw[φ9R l m hm]
     simp only[z,dT,cT,z2,φF,hm,φJ,φ9 hm,z3]
     rcases bE (Op.bytesLess l[m].1 l[m+1].1) with k6 | k6
     ·simp only[k6,nZ,cF,bS,φf,hw,ih2,tA]
     ·simp[k6]
   ·have:n=l.length:=by omega
    subst this
    simp[ψ2O.l0,φ2a])
  hl 0 () (κ4 _) trivial
 have key:lp ψ2O.l0 (l,0)=_:=key
 rw[key,κC];rfl
theorem φAJ (l:List φC) (hl:l.length<2 ^ 62):ψA.f l=some (φ1v l):=by
 unfold ψA.f φ1v
 rw[φKG l hl,bS]
 have e:decide ((l.length:Int)≤20)=decide (l.length≤20):=decide_eq_decide.2 (by omega)
 cases φ2a none l<;>simp[e]
theorem φGG (l:List φC) (hl:l.length<2 ^ 62):ψ2O.f l=some (φ1v l):=by
 unfold ψ2O.f φ1v
 rw[φOX l hl]
 by_cases c:l.length≤20
 ·have c1:¬(l.length:Int) > 20:=by omega
  simp only[c,c1,dT,dF,cF,κP,bS]
  cases φ2a none l<;>rfl
 ·have c1:(l.length:Int) > 20:=by omega
  simp[c,c1]
noncomputable def φ4c (d:φ1) (size:Int) (last:Bool) (id:Int):Bool:=
 (φ2 d (φ0 id)).2 && (decide ((scan (φ2 d (φ0 id)).1).2=(φ2 d (φ0 id)).1.length) && (!last || decide (size=((φ2 d (φ0 id)).1.length:Int))))
noncomputable def φ1g (d:φ1) (size:Int):List Int→Bool
 | []=>true
 | id::r=>φ4c d size r.isEmpty id && φ1g d size r
noncomputable def φ23 (d:φ1) (batch:Int) (e:φC):Bool:=
 let r:=φ1J (φ2 d (φ0 e.2.1)).1 e.2.2.1 e.2.2.2.1
 r.2 && ((r.1.1==1 || r.1.1==4) && (r.1.2.2.1==e.1 && (r.1.2.1==e.2.2.2.2 && !decide (e.2.2.2.2≥batch))))
noncomputable def φh (s:φ8) (d:φ1):Bool:=
 φ3 d && (φm s.1 && (φ1v s.2.1 && (decide (1≤s.2.2.1∧s.2.2.1≤1000001) && (φ1g d s.2.2.2.1 s.1.2 && s.2.1.all (φ23 d s.2.2.1)))))
theorem φO4 (s:φ8) (d:φ1) (h:dlim d) (hu:φK d.1<1000000000) (hl:s.1.2.length<1000000000):lp ψ12.l0 (s,d,s.1.2,(s.1.2.length:Int),0)=some (if φ1g d s.2.2.2.1 s.1.2=true then .inl (s,d) else .inr false):=by
 have key:=φg (step:=ψ12.l0) (fun n (_:Unit)=>(s,d,s.1.2,(s.1.2.length:Int),(n:Int))) s.1.2.length (fun n _=>if φ1g d s.2.2.2.1 (s.1.2.drop n)=true then .inl (s,d) else .inr false) (fun _ _=>True)
  (fun rec n a hn _ ih=>by
   rcases κ2 n s.1.2.length with h1 | h1
   ·have hw:=φM (show n+1<9223372036854775808 by omega)
    have hw2:w64 ((s.1.2.length:Int) - 1)=(s.1.2.length:Int) - 1:=φI (by omega) (by omega)
    have hft:=φ4k d (φ0 s.1.2[n]) h
    have ih:=ih () h1 trivial
    rw[dG h1]
    have hlast:(s.1.2.drop (n+1)).isEmpty=((n:Int)==(s.1.2.length:Int) - 1):=by
     by_cases c:n+1=s.1.2.length
     ·have c1:((n:Int)==(s.1.2.length:Int) - 1)=true:=by simp;omega
      rw[c1,c,List.drop_length];rfl
     ·have c1:((n:Int)==(s.1.2.length:Int) - 1)=false:=by simp;omega
      rw[c1]
      cases e:s.1.2.drop (n+1) with
      | nil=>rw[List.drop_eq_nil_iff] at e;omega
      | cons x r=>rfl
    simp only[φ1g,hlast,ψ12.l0,oL,h1,dT,cT,φF,φJ,φ9 h1,φ3E,φ4j d _ h,φBG (φ2 d (φ0 s.1.2[n])).1 (show (φ2 d (φ0 s.1.2[n])).1.length<1000000000 by omega),bS,hw2]
    unfold φ4c
    cases hb:(φ2 d (φ0 s.1.2[n])).2
    ·simp
    simp only[nZ,cF,tA]
    by_cases c1:(scan (φ2 d (φ0 s.1.2[n])).1).2=(φ2 d (φ0 s.1.2[n])).1.length
    rotate_left
    ·have d1:(((scan (φ2 d (φ0 s.1.2[n])).1).2:Int) != ((φ2 d (φ0 s.1.2[n])).1.length:Int))=true:=by simp;omega
     simp only[d1,cT,bS,φp,c1,dF];simp
    have d1:(((scan (φ2 d (φ0 s.1.2[n])).1).2:Int) != ((φ2 d (φ0 s.1.2[n])).1.length:Int))=false:=by simp;omega
    simp only[c1,bne_self_eq_false,cF,dT,tA]
    cases hz:((n:Int)==(s.1.2.length:Int) - 1)
    ·simp only[cF,bS,φf,hw,ih,nF,Bool.true_or,tA]
    ·by_cases c2:s.2.2.2.1=((φ2 d (φ0 s.1.2[n])).1.length:Int)
     ·have d2:(s.2.2.2.1 != ((φ2 d (φ0 s.1.2[n])).1.length:Int))=false:=by simpa using c2
      simp only[cT,d2,cF,bS,φf,hw,ih,nZ,κU,decide_eq_true c2,tA]
     ·have d2:(s.2.2.2.1 != ((φ2 d (φ0 s.1.2[n])).1.length:Int))=true:=by simpa using c2
      simp only[cT,d2,bS,φp,nZ,κU,decide_eq_false c2,κD,κ3,if_false]
   ·have:n=s.1.2.length:=by omega
    subst this
    simp[ψ12.l0,φ1g])
  (by omega) 0 () (κ4 _) trivial
 have key:lp ψ12.l0 (s,d,s.1.2,(s.1.2.length:Int),0)=_:=key
 rw[key,κC]
theorem φJp (s:φ8) (d:φ1) (h:dlim d) (hu:φK d.1<1000000000) (hl:s.2.1.length<1000000000):lp ψ12.l2 (s,d,s.2.1,(s.2.1.length:Int),0)=some (if s.2.1.all (φ23 d s.2.2.1)=true then .inl () else .inr false):=by
 refine φ3z (step:=ψ12.l2) s.2.1 (φ23 d s.2.2.1) (fun n=>(s,d,s.2.1,(s.2.1.length:Int),(n:Int))) () (by omega) ?_ ?_
 ·intro rec n hn
  have hw:=φM (show n+1<9223372036854775808 by omega)
  have hft:=φ4k d (φ0 s.2.1[n].2.1) h
  simp only[ψ12.l2,oL,hn,dT,cT,φF,φJ,φ9 hn,φ3E,φ4j d _ h,φFg (φ2 d (φ0 s.2.1[n].2.1)).1 _ _ (show (φ2 d (φ0 s.2.1[n].2.1)).1.length<1000000000 by omega),bS,hw,φ23]
  obtain ⟨r,hr⟩:∃r,φ1J (φ2 d (φ0 s.2.1[n].2.1)).1 s.2.1[n].2.2.1 s.2.1[n].2.2.2.1=r:=⟨_,rfl⟩
  simp only[hr]
  rcases bE r.2 with h1 | h1<;>rcases bE (r.1.1==1) with h2 | h2<;>rcases bE (r.1.1==4) with h3 | h3<;>rcases bE (r.1.2.2.1==s.2.1[n].1) with h4 | h4<;>rcases bE (r.1.2.1==s.2.1[n].2.2.2.2) with h5 | h5<;>rcases bE (decide (s.2.1[n].2.2.2.2≥s.2.2.1)) with h6 | h6<;>simp only[bne,h1,h2,h3,h4,h5,h6,φf,φp,nZ,nF,cT,cF,bS,tA,κD,κP,Bool.and_false,Bool.or_true,Bool.or_false,Bool.true_or,κU,if_true,if_false,κ3,hw]
 ·intro rec
  simp[ψ12.l2]
theorem φLI (s:φ8) (d:φ1) (h:dlim d) (hu:φK d.1<1000000000) (hl:s.2.1.length<1000000000):lp ψ2z.l2 (s,d,0)=some (if s.2.1.all (φ23 d s.2.2.1)=true then .inl () else .inr false):=by
 refine φ3z (step:=ψ2z.l2) s.2.1 (φ23 d s.2.2.1) (fun n=>(s,d,(n:Int))) () (by omega) ?_ ?_
 ·intro rec n hn
  have hw:=φM (show n+1<9223372036854775808 by omega)
  have hft:=φ4k d (φ0 s.2.1[n].2.1) h
  simp only[ψ2z.l2,oL,hn,dT,cT,φF,φJ,φ9 hn,φ4W,φ8j d _ h,φCs (φ2 d (φ0 s.2.1[n].2.1)).1 _ _ (show (φ2 d (φ0 s.2.1[n].2.1)).1.length<1000000000 by omega),bS,hw,φ23]
  obtain ⟨r,hr⟩:∃r,φ1J (φ2 d (φ0 s.2.1[n].2.1)).1 s.2.1[n].2.2.1 s.2.1[n].2.2.2.1=r:=⟨_,rfl⟩
  simp only[hr]
  rcases bE r.2 with h1 | h1<;>rcases bE (r.1.1==1) with h2 | h2<;>rcases bE (r.1.1==4) with h3 | h3<;>rcases bE (r.1.2.2.1==s.2.1[n].1) with h4 | h4<;>rcases bE (r.1.2.1==s.2.1[n].2.2.2.2) with h5 | h5<;>rcases bE (decide (s.2.1[n].2.2.2.2≥s.2.2.1)) with h6 | h6<;>simp only[bne,h1,h2,h3,h4,h5,h6,φf,φp,nZ,nF,cT,cF,bS,tA,κD,κP,Bool.and_false,Bool.or_true,Bool.or_false,Bool.true_or,κU,if_true,if_false,κ3,hw]
 ·intro rec
  simp[ψ2z.l2]
theorem φKv (s:φ8) (d:φ1) (h:dlim d) (hu:φK d.1<1000000000) (hl:s.1.2.length<1000000000):lp ψ2z.l0 (s,d,0)=some (if φ1g d s.2.2.2.1 s.1.2=true then .inl (s,d) else .inr false):=by
 have key:=φg (step:=ψ2z.l0) (fun n (_:Unit)=>(s,d,(n:Int))) s.1.2.length (fun n _=>if φ1g d s.2.2.2.1 (s.1.2.drop n)=true then .inl (s,d) else .inr false) (fun _ _=>True)
  (fun rec n a hn _ ih=>by
   rcases κ2 n s.1.2.length with h1 | h1
   ·have hw:=φM (show n+1<9223372036854775808 by omega)
    have hft:=φ4k d (φ0 s.1.2[n]) h
    have hsl:=(φ6C (φ2 d (φ0 s.1.2[n])).1).1
    have ih:=ih () h1 trivial
    rw[dG h1]
    have hlast:(s.1.2.drop (n+1)).isEmpty=(((n+1:Nat):Int)==(s.1.2.length:Int)):=by
     by_cases c:n+1=s.1.2.length
     ·have c1:(((n+1:Nat):Int)==(s.1.2.length:Int))=true:=by simp;omega
      rw[c1,c,List.drop_length];rfl
     ·have c1:(((n+1:Nat):Int)==(s.1.2.length:Int))=false:=by simp;omega
      rw[c1]
      cases e:s.1.2.drop (n+1) with
      | nil=>rw[List.drop_eq_nil_iff] at e;omega
      | cons x r=>rfl
    simp only[φ1g,hlast,ψ2z.l0,oL,h1,dT,cT,φF,φJ,φ9 h1,φ4W,φ8j d _ h,φDs (φ2 d (φ0 s.1.2[n])).1 (show (φ2 d (φ0 s.1.2[n])).1.length<1000000000 by omega),bS,hw]
    unfold φ4c
    cases hb:(φ2 d (φ0 s.1.2[n])).2
    ·simp
    simp only[nZ,cF,tA]
    by_cases c1:(scan (φ2 d (φ0 s.1.2[n])).1).2=(φ2 d (φ0 s.1.2[n])).1.length
    rotate_left
    ·have d1:(scan (φ2 d (φ0 s.1.2[n])).1).2<(φ2 d (φ0 s.1.2[n])).1.length:=by omega
     simp only[d1,dT,cT,bS,φp,c1,dF];simp
    simp only[c1,Nat.lt_irrefl,dF,cF,dT,tA]
    cases hz:(((n+1:Nat):Int)==(s.1.2.length:Int))
    ·simp only[cF,bS,φf,hw,ih,nF,Bool.true_or,tA]
    ·by_cases c2:s.2.2.2.1=((φ2 d (φ0 s.1.2[n])).1.length:Int)
     ·have d2:(s.2.2.2.1 != ((φ2 d (φ0 s.1.2[n])).1.length:Int))=false:=by simpa using c2
      simp only[cT,d2,cF,bS,φf,hw,ih,nZ,κU,decide_eq_true c2,tA]
     ·have d2:(s.2.2.2.1 != ((φ2 d (φ0 s.1.2[n])).1.length:Int))=true:=by simpa using c2
      simp only[cT,d2,bS,φp,nZ,κU,decide_eq_false c2,κD,κ3,if_false]
   ·have:n=s.1.2.length:=by omega
    subst this
    simp[ψ2z.l0,φ1g])
  (by omega) 0 () (κ4 _) trivial
 have key:lp ψ2z.l0 (s,d,0)=_:=key
 rw[key,κC]
theorem φGH (s:φ8) (d:φ1) (h:dlim d) (hu:φK d.1<1000000000) (h1:s.1.2.length<1000000000) (h2:s.2.1.length<1000000000):ψ12.f s d=some (φh s d):=by
 unfold ψ12.f φh
 rw[φ5q d h,φ8s s.1 (by omega),φAJ s.2.1 (by omega),φ1a,φO4 s d h hu h1]
 simp only[bS]
 cases φ3 d<;>simp only[nZ,nF,cT,cF,tA,κD]
 cases φm s.1<;>simp only[nZ,nF,cT,cF,tA,κD]
 cases φ1v s.2.1<;>simp only[nZ,nF,cT,cF,tA,κD]
 cases decide (1≤s.2.2.1∧s.2.2.1≤1000001)<;>simp only[nZ,nF,cT,cF,tA,κD]
 cases φ1g d s.2.2.2.1 s.1.2<;>simp only[if_true,if_false,κ3,φf,φp,tA,κD]
 rw[φJp s d h hu h2,bS]
 cases s.2.1.all (φ23 d s.2.2.1)<;>simp only[if_true,if_false,κ3,φf,φp]
theorem φI4 (s:φ8) (d:φ1) (h:dlim d) (hu:φK d.1<1000000000) (h1:s.1.2.length<1000000000) (h2:s.2.1.length<1000000000):ψ2z.f s d=some (φh s d):=by
 unfold ψ2z.f φh
 rw[φ91 d h,φ8x s.1 (by omega),φGG s.2.1 (by omega),φ2J,φKv s d h hu h1]
 simp only[bS]
 cases φ3 d<;>simp only[nZ,nF,cT,cF,tA,κD]
 cases φm s.1<;>simp only[nZ,nF,cT,cF,tA,κD]
 cases φ1v s.2.1<;>simp only[nZ,nF,cT,cF,tA,κD]
 cases decide (1≤s.2.2.1∧s.2.2.1≤1000001)<;>simp only[nZ,nF,cT,cF,tA,κD]
 cases φ1g d s.2.2.2.1 s.1.2<;>simp only[if_true,if_false,κ3,φf,φp,tA,κD]
 rw[φLI s d h hu h2,bS]
 cases s.2.1.all (φ23 d s.2.2.1)<;>simp only[if_true,if_false,κ3,φf,φp]
theorem φG0:∀(l:List φ6) (p:List UInt8),(∀x∈l,Op.bytesLess p x.1=true)→srt l→φ3c (some p) l=true
 | [],_,_,_=>rfl
 | f::l,p,h,hs=>by
  simp only[φ3c,h f κ0,tA]
  have hs2:=κY.1 hs
  exact φG0 l f.1 hs2.1 hs2.2
theorem φJP (l:List φ6) (hs:srt l):φ3c none l=true:=by
 cases l with
 | nil=>rfl
 | cons f l=>
  have hs2:=κY.1 hs
  exact φG0 l f.1 hs2.1 hs2.2
def okF (cap:Int) (l:List φ6):Prop:=l.length≤130∧(φK l:Int)≤cap∧(∀f∈l,φ39 f=true)∧srt l
theorem φ3d (d:φ1):φ3 d=true↔(0≤d.2.1∧d.2.1≤100000)∧(-1≤d.2.2.1∧d.2.2.1≤100000)∧okF d.2.1 d.1:=by
 unfold φ3 okF φ5f
 simp only[bA,decide_eq_true_eq,κR]
 constructor
 ·rintro ⟨h1,h2,h3,h4,h5,h6⟩
  exact ⟨h2,h3,h1,h4,h5,φGC _ h6⟩
 ·rintro ⟨h2,h3,h1,h4,h5,h6⟩
  exact ⟨h1,h2,h3,h4,h5,φJP _ h6⟩
theorem φIu {d:φ1} (h:φ3 d=true):φ3 (tick d)=true:=by
 rw[φ3d] at h ⊢
 obtain ⟨h1,h2,h3⟩:=h
 rw[φ8U,φ1b]
 refine ⟨h1,?_,h3⟩
 unfold tick;split
 ·exact ⟨by show -1≤d.2.2.1 - 1;omega,by show d.2.2.1 - 1≤100000;omega⟩
 ·exact h2
theorem φ6R {d:φ1} {act:List φ6→Int×List φ6} (h:φ3 d=true) (ha:okF d.2.1 d.1→okF d.2.1 (act d.1).2):φ3 (φT d act).1=true:=by
 have ht:=φIu h
 rw[φ3d] at h ht
 unfold φT
 split
 ·rename_i k;rw[(φ3d d).2 h] at k;exact absurd k (by simp)
 ·split
  ·exact (φ3d _).2 h
  ·refine (φ3d _).2 ⟨?_,ht.2.1,?_⟩
   ·show 0≤(tick d).2.1∧(tick d).2.1≤100000
    exact ht.1
   ·show okF (tick d).2.1 (act d.1).2
    rw[φ8U];exact ha h.2.2
theorem φDF {cap:Int} {l m:List φ6} (h:okF cap l) (hs:m.Sublist l):okF cap m:=by
 have:=φ6M (fun f:φ6=>f.2.1.length) hs
 have:=hs.length_le
 have h2:=h.2.1
 refine ⟨by have:=h.1;omega,?_,fun f hf=>h.2.2.1 f (hs.subset hf),h.2.2.2.sublist hs⟩
 unfold φK at *;omega
theorem φAN (l:List φ6) (f:φ6):φK (insB l f)=φK l+f.2.1.length:=by
 unfold φK
 induction l with
 | nil=>simp[insB,sumN]
 | cons x l ih=>
  rw[φ6W]
  split
  ·simp only[sumN,ih];omega
  ·simp only[sumN];omega
theorem φBQ (l:List φ6) (i:Nat) (h:i<l.length):φK (φc l i)+l[i].2.1.length=φK l:=by
 unfold φK φc
 induction l generalizing i with
 | nil=>simp at h
 | cons x l ih=>
  cases i with
  | zero=>simp only[List.take_zero,List.drop_succ_cons,κC,κ8,List.getElem_cons_zero,sumN];omega
  | succ i=>
   have:=ih i (by simpa using h)
   simp only[List.take_succ_cons,List.drop_succ_cons,κF,sumN,List.getElem_cons_succ] at *
   omega
theorem φCE (l:List φ6) (i:Nat) (f:φ6) (h:i<l.length):φK (l.set i f)+l[i].2.1.length=φK l+f.2.1.length:=by
 unfold φK
 induction l generalizing i with
 | nil=>simp at h
 | cons x l ih=>
  cases i with
  | zero=>simp only[List.set_cons_zero,List.getElem_cons_zero,sumN];omega
  | succ i=>
   have:=ih i (by simpa using h)
   simp only[List.set_cons_succ,sumN,List.getElem_cons_succ] at *
   omega
theorem φOQ {α:Type} {l:List (List UInt8×α)} (h:srt l) (i:Nat) (hi:i<l.length) (f:List UInt8×α) (hf:f.1=l[i].1):srt (l.set i f):=by
 unfold srt at *
 have e:(l.set i f).map (·.1)=l.map (·.1):=by
  apply List.ext_getElem
  ·simp
  ·intro n h1 h2
   simp only[List.getElem_map,List.getElem_set]
   split
   ·rename_i c;subst c;exact hf
   ·rfl
 have h2:(l.map (·.1)).Pairwise (fun a b=>Op.bytesLess a b=true):=List.pairwise_map.2 h
 rw[←e] at h2
 exact List.pairwise_map.1 h2
theorem φAo {cap:Int} {l:List φ6} (h:okF cap l) (i:Nat) (hi:i<l.length) (f:φ6) (hn:f.1=l[i].1) (hf:φ39 f=true) (hu:(φK l:Int)+f.2.1.length - l[i].2.1.length≤cap):okF cap (l.set i f):=by
 have:=φCE l i f hi
 refine ⟨by rw[List.length_set];exact h.1,by omega,fun g hg=>?_,φOQ h.2.2.2 i hi f hn⟩
 rcases κc hg with hg | e
 ·exact h.2.2.1 g hg
 ·rw[e];exact hf
theorem φDl {cap:Int} {l:List φ6} (h:okF cap l) (f:φ6) (h1:l.length<130) (hne:∀x∈l,x.1≠f.1) (hf:φ39 f=true) (hu:(φK l:Int)+f.2.1.length≤cap):okF cap (insB l f):=by
 refine ⟨by rw[φ5s];omega,by rw[φAN];omega,fun g hg=>?_,φCT f l h.2.2.2 hne⟩
 rcases (φ3b g f l).1 hg with e | hg
 ·rw[e];exact hf
 ·exact h.2.2.1 g hg
theorem φ96 {d:φ1} (h:φ3 d=true) (n:List UInt8):φ3 (φ2v n d).1=true:=
 φ6R h fun k=>by
  unfold φ2F;split
  ·exact φDF k (φ5o _ _)
  ·exact k
theorem φ2Y {d:φ1} (h:φ3 d=true) (n:List UInt8):φ3 (φD n d).1=true:=by
 unfold φD;split
 ·exact φ96 h n
 ·exact h
theorem φ33 {d:φ1} (h:φ3 d=true) (n:List UInt8):φ3 (φW n d).1=true:=
 φ6R h fun k=>by
  unfold φ2g;split
  ·exact k
  ·rename_i k1
   split
   ·exact k
   ·rename_i k2
    split
    ·exact k
    ·rename_i k3
     rcases φw d.1 n with ⟨e,hno⟩ | ⟨i,hi,e,_⟩
     ·refine φDl k _ (by omega) hno ?_ (by have:=k.2.1;simp;exact this)
      unfold φ39;simp at k1 ⊢;exact k1
     ·omega
theorem φ3N {d:φ1} (h:φ3 d=true) (n t:List UInt8):φ3 (φN n t d).1=true:=
 φ6R h fun k=>by
  unfold φ2T
  rcases φw d.1 n with ⟨e,_⟩ | ⟨i,hi,e,_⟩
  ·rw[φ1C e];exact k
  ·rw[φ17 e]
   simp only
   split
   ·exact k
   ·rename_i k1
    rw[φ9 hi]
    refine φAo k i hi _ rfl ?_ ?_
    ·have:=k.2.2.1 _ (gM hi)
     unfold φ39 at *
     simp only[bA,decide_eq_true_eq,lA] at *
     exact ⟨this.1,by omega,by omega⟩
    ·simp only[lA];omega
theorem φ3I {d:φ1} (h:φ3 d=true) (n:List UInt8):φ3 (φH n d).1=true:=
 φ6R h fun k=>by
  unfold φ28
  rcases φw d.1 n with ⟨e,_⟩ | ⟨i,hi,e,_⟩
  ·rw[φ1C e];exact k
  ·rw[φ17 e]
   simp only
   rw[φ9 hi]
   refine φAo k i hi _ rfl ?_ ?_
   ·have:=k.2.2.1 _ (gM hi)
    unfold φ39 at *
    simp only[bA,decide_eq_true_eq] at *
    exact ⟨this.1,by omega,by omega⟩
   ·have:=k.2.1;simp only;omega
theorem φ5z {d:φ1} (h:φ3 d=true) (n:List UInt8) (z:Int):φ3 (φT d (φ40 n z)).1=true:=
 φ6R h fun k=>by
  unfold φ40
  rcases φw d.1 n with ⟨e,_⟩ | ⟨i,hi,e,_⟩
  ·rw[φ1C e];exact k
  ·rw[φ17 e]
   simp only
   rw[φ9 hi]
   split
   ·rename_i k1
    refine φAo k i hi _ rfl ?_ ?_
    ·have:=k.2.2.1 _ (gM hi)
     unfold φ39 at *
     simp only[bA,decide_eq_true_eq,lT] at *
     exact ⟨this.1,by omega,by omega⟩
    ·have:=k.2.1
     simp only[lT];omega
   ·exact k
theorem φ8S {d:φ1} (h:φ3 d=true) (a b:List UInt8):φ3 (φ2Z a b d).1=true:=
 φ6R h fun k=>by
  unfold φ2L
  split
  ·exact k
  ·rename_i k0
   rcases φw d.1 a with ⟨e,_⟩ | ⟨i,hi,e,_⟩
   ·rw[φ1C e];exact k
   ·rw[φ17 e]
    simp only
    split
    ·exact k
    ·rw[φ9 hi]
     have hs:(φ1Y (φc d.1 i) b).Sublist d.1:=(φ8b _ _).trans (φ5o _ _)
     have h2:=φBQ d.1 i hi
     have h3:=φ6m hi
     have h4:=φBt (φc d.1 i) b
     have h5:φK (φ1Y (φc d.1 i) b)≤φK (φc d.1 i):=φ6M (fun f:φ6=>f.2.1.length) (φ8b _ _)
     have k1:=k.1
     have k2:=k.2.1
     refine φDl (φDF k hs) _ (by omega) (φCq (k.2.2.2.sublist (φ5o d.1 i))) ?_ (by simp only;omega)
     have:=k.2.2.1 _ (gM hi)
     unfold φ39 at *
     simp only[bA,decide_eq_true_eq,Bool.not_eq_false] at *
     exact ⟨k0,this.2⟩
theorem φ1t {w:φE} {op:φ1→φ1×Int} (h:φ3 w.1=true) (ho:φ3 w.1=true→φ3 (op w.1).1=true):φ3 (φA op w).1=true:=by
 unfold φA;split
 ·exact ho h
 ·exact h
theorem φ8D {w:φE} {op:φ1→φ1×Int} (h:φ3 w.1=true) (ho:φ3 w.1=true→φ3 (op w.1).1=true):φ3 (φ1A op w).1=true:=by
 unfold φ1A;split
 ·exact ho h
 ·exact h
theorem φ4i {w:φE} (h:φ3 w.1=true) (n t:List UInt8):φ3 (φ1O n t w).1=true:=
 φ1t (op:=φH n) (φ1t (op:=φN n t) (φ1t (op:=φW n) (φ1t (op:=φD n) h fun k=>φ2Y k n) fun k=>φ33 k n) fun k=>φ3N k n t) fun k=>φ3I k n
theorem φ3i {w:φE} (h:φ3 w.1=true) (v:φQ):φ3 (sPut v w).1=true:=
 φ1t (op:=φ2Z _ _) (φ4i h _ _) fun k=>φ8S k _ _
theorem φ13 {d:φ1} (h:φ3 d=true):dl 100001 d:=by
 rw[φ3d] at h
 obtain ⟨h1,h2,h3,h4,h5,h6⟩:=h
 refine ⟨by omega,by omega,fun f hf=>?_⟩
 have:=h5 f hf
 unfold φ39 at this
 simp only[bA] at this
 have:=φKU this.1
 omega
theorem φKl {a:Nat} (h:a<1000000000001):(a+1) * 16≤140737488355328:=by omega
theorem φFd (l:List φC) (hl:l.length<1000000000):ψ9.f l=some (l.map (·.1)):=by
 have key:=φg (step:=ψ9.l0) (fun n (acc:List (List UInt8))=>(acc,l,(l.length:Int),(n:Int))) l.length (fun n acc=>acc++(l.drop n).map (·.1)) (fun n acc=>acc.length=n)
  (fun rec n acc hn ha ih=>by
   rcases κ2 n l.length with h | h
   ·have hw:=φM (show n+1<9223372036854775808 by omega)
    have hb:(acc.length+([l[n].1]:List (List UInt8)).length) * 16≤140737488355328:=φKl (by omega)
    have ih:=ih (acc++[l[n].1]) h (by rw[lA,ha];rfl)
    simp only[ψ9.l0,oL,h,dT,cT,φF,φJ,φ9 h,hb,hw,ih]
    rw[dG h,κ5,aA];rfl
   ·have:n=l.length:=by omega
    subst this
    simp[ψ9.l0])
  (by omega) 0 [] (κ4 _) rfl
 have key:lp ψ9.l0 ([],l,(l.length:Int),0)=_:=key
 unfold ψ9.f
 rw[key,bS]
 simp
noncomputable def φ1V (s:φ8) (d:φ1):List φC→List φX→List φX×Int
 | [],acc=>(acc,0)
 | e::r,acc=>if (getP s d e.1).2≠0 then ([],(getP s d e.1).2) else φ1V s d r (acc++[(getP s d e.1).1])
noncomputable def φU (s:φ8) (d:φ1):List φX×Int:=φ1V s d s.2.1 []
theorem φGn (s:φ8) (d:φ1):∀(l:List φC) (acc:List φX),(φ1V s d l acc).1.length≤acc.length+l.length
 | [],acc=>by simp[φ1V]
 | e::r,acc=>by
  unfold φ1V;split
  ·simp
  ·have:=φGn s d r (acc++[(getP s d e.1).1])
   simp only[lA,lC,lN] at *;omega
theorem φ94 (s:φ8) (d:φ1):(φU s d).1.length≤s.2.1.length:=by
 have:=φGn s d s.2.1 []
 unfold φU
 simpa using this
theorem φJ5 (s:φ8) (d:φ1) (h:dlim d) (hu:φK d.1<1000000000) (hs:s.2.1.length<1000000000):ψ2R.f s d=some (φU s d):=by
 have key:=φg (step:=ψ2R.l0) (fun n (acc:List φX)=>(s,d,acc,(n:Int))) s.2.1.length (fun n acc=>if (φ1V s d (s.2.1.drop n) acc).2=0 then .inl (φ1V s d (s.2.1.drop n) acc).1 else .inr ([],(φ1V s d (s.2.1.drop n) acc).2)) (fun n acc=>acc.length=n)
  (fun rec n acc hn ha ih=>by
   rcases κ2 n s.2.1.length with h1 | h1
   ·have hw:=φM (show n+1<9223372036854775808 by omega)
    rw[dG h1]
    simp only[ψ2R.l0,oL,h1,dT,cT,φF,φJ,φ9 h1,hw,φIZ s d _ h hu (show s.2.1.length<2 ^ 62 by omega),bS,φ1V]
    by_cases c:(getP s d (s.2.1[n]).1).2=0
    ·have c1:((getP s d (s.2.1[n]).1).2 != 0)=false:=by simpa using c
     have hb:(acc.length+([(getP s d (s.2.1[n]).1).1]:List φX).length) * 40≤140737488355328:=φ3l (by omega)
     have ih:=ih (acc++[(getP s d (s.2.1[n]).1).1]) h1 (by rw[lA,ha];rfl)
     simp only[c1,cF,hb,dT,cT,ih,c,ne_eq,not_true_eq_false,if_false,bne_self_eq_false]
    ·have c1:((getP s d (s.2.1[n]).1).2 != 0)=true:=by simpa using c
     simp only[c1,cT,c,ne_eq,not_false_eq_true,if_true,if_false]
   ·have:n=s.2.1.length:=by omega
    subst this
    simp[ψ2R.l0,φ1V])
  (by omega) 0 [] (κ4 _) rfl
 have key:lp ψ2R.l0 (s,d,[],0)=_:=key
 unfold ψ2R.f φU
 rw[key,bS,κC]
 have hz:∀(l:List φC) (acc:List φX),(φ1V s d l acc).2≠0→(φ1V s d l acc).1=[]:=by
  intro l
  induction l with
  | nil=>intro acc hh;simp[φ1V] at hh
  | cons e r ih=>
   intro acc hh
   unfold φ1V at hh ⊢
   split
   ·rfl
   ·rename_i c;rw[if_neg c] at hh;exact ih _ hh
 have hz':=hz s.2.1 []
 generalize φ1V s d s.2.1 []=R at hz' ⊢
 obtain ⟨L,c⟩:=R
 by_cases e:c=0
 ·subst e;rfl
 ·have:=hz' e
  simp only at this
  subst this
  simp[e]
theorem φHR (s:φ8) (d:φ1) (h:dlim d) (hu:φK d.1<1000000000) (hs:s.2.1.length<1000000000):ψG.f s d=some (φU s d):=by
 have hkl:(s.2.1.map (·.1)).length=s.2.1.length:=lM _
 have key:=φg (step:=ψG.l0) (fun n (acc:List φX)=>(s,d,acc,s.2.1.map (·.1),((s.2.1.map (·.1)).length:Int),(n:Int))) s.2.1.length (fun n acc=>if (φ1V s d (s.2.1.drop n) acc).2=0 then .inl (φ1V s d (s.2.1.drop n) acc).1 else .inr ([],(φ1V s d (s.2.1.drop n) acc).2)) (fun n acc=>acc.length=n)
  (fun rec n acc hn ha ih=>by
   rcases κ2 n s.2.1.length with h1 | h1
   ·have hw:=φM (show n+1<9223372036854775808 by omega)
    have h2:n<(s.2.1.map (·.1)).length:=by rw[hkl];exact h1
    rw[dG h1]
    simp only[ψG.l0,oL,h2,dT,cT,φF,φJ,φ9 h2,List.getElem_map,hw,φGl s d _ h hu (show s.2.1.length<2 ^ 62 by omega),bS,φ1V]
    by_cases c:(getP s d (s.2.1[n]).1).2=0
    ·have c1:((getP s d (s.2.1[n]).1).2 != 0)=false:=by simpa using c
     have hb:(acc.length+([(getP s d (s.2.1[n]).1).1]:List φX).length) * 40≤140737488355328:=φ3l (by omega)
     have ih:=ih (acc++[(getP s d (s.2.1[n]).1).1]) h1 (by rw[lA,ha];rfl)
     simp only[c1,cF,hb,dT,cT,ih,c,ne_eq,not_true_eq_false,if_false,bne_self_eq_false]
    ·have c1:((getP s d (s.2.1[n]).1).2 != 0)=true:=by simpa using c
     simp only[c1,cT,c,ne_eq,not_false_eq_true,if_true,if_false]
   ·have:n=s.2.1.length:=by omega
    subst this
    simp[ψG.l0,φ1V])
  (by omega) 0 [] (κ4 _) rfl
 have key:lp ψG.l0 (s,d,[],s.2.1.map (·.1),((s.2.1.map (·.1)).length:Int),0)=_:=key
 unfold ψG.f φU
 rw[φFd _ hs,bS,key,bS,κC]
 have hz:∀(l:List φC) (acc:List φX),(φ1V s d l acc).2≠0→(φ1V s d l acc).1=[]:=by
  intro l
  induction l with
  | nil=>intro acc hh;simp[φ1V] at hh
  | cons e r ih=>
   intro acc hh
   unfold φ1V at hh ⊢
   split
   ·rfl
   ·rename_i c;rw[if_neg c] at hh;exact ih _ hh
 have hz':=hz s.2.1 []
 generalize φ1V s d s.2.1 []=R at hz' ⊢
 obtain ⟨L,c⟩:=R
 by_cases e:c=0
 ·subst e;rfl
 ·have:=hz' e
  simp only at this
  subst this
  simp[e]
theorem φHl {hi hi':Int} (x:Int) (h1:hi≤hi') (h2:1≤x∧x≤hi'):∀(l:List Int) (p:Option Int),φ1c hi p l=true→(∀y∈l,y<x)→(∀q,p=some q→q<x)→φ1c hi' p (l++[x])=true
 | [],p,_,_,hp=>by
  cases p with
  | none=>simp[φ1c,h2]
  | some q=>simp[φ1c,h2,hp q rfl]
 | y::l,p,h,hl,_=>by
  simp only[φ1c,bA,decide_eq_true_eq] at h
  have ih:=φHl x h1 h2 l (some y) h.2.2 (fun z hz=>hl z (mC _ hz)) (fun q hq=>by injection hq with hq;subst hq;exact hl y κ0)
  simp only[κF,φ1c,bA,decide_eq_true_eq]
  exact ⟨⟨h.1.1,by omega⟩,h.2.1,ih⟩
theorem φ3m {hi:Int}:∀(l:List Int) (p:Option Int),φ1c hi p l=true→∀y∈l,1≤y∧y≤hi
 | [],_,_,y,hy=>by simp at hy
 | x::l,p,h,y,hy=>by
  simp only[φ1c,bA,decide_eq_true_eq] at h
  rcases mc.1 hy with e | hy
  ·subst e;exact h.1
  ·exact φ3m l (some x) h.2.2 y hy
theorem φ14 (v:φQ):φm v=true↔φ1c (w64 (v.1 - 1)) none v.2=true∧(1≤v.1∧v.1≤100000)∧1≤v.2.length∧v.2.length≤60:=by
 unfold φm
 simp only[bA,decide_eq_true_eq]
 constructor
 ·rintro ⟨h1,h2,h3⟩;exact ⟨h1,h2,by omega,by omega⟩
 ·rintro ⟨h1,h2,h3⟩;exact ⟨h1,h2,by omega,by omega⟩
theorem φG8 {v:φQ} (h:φm v=true) (h1:v.2.length<60) (h2:v.1<100000):φm (v.1+1,v.2++[v.1])=true:=by
 rw[φ14] at h ⊢
 obtain ⟨k1,k2,k3⟩:=h
 rw[φI (by omega) (by omega)] at k1
 have hm:=φ3m _ _ k1
 refine ⟨?_,by simp only;omega,by simp only[lA,lC,lN];omega⟩
 simp only
 rw[φI (by omega) (by omega)]
 exact φHl v.1 (by omega) (by omega) v.2 none k1 (fun y hy=>by have:=hm y hy;omega) (fun q hq=>by cases hq)
def φo (names:List (List UInt8)) (w:φE):φE:=names.foldl (fun w n=>φA (φD n) w) w
def φ50 (names:List (List UInt8)) (w:φE):φE:=names.foldl (fun w n=>φ1A (φD n) w) w
theorem φBX (names:List (List UInt8)):∀w:φE,φ50 names (φB w)=φB (φo names w):=by
 induction names with
 | nil=>intro w;rfl
 | cons n l ih=>
  intro w
  show φ50 l (φ1A (φD n) (φB w))=φB (φo l (φA (φD n) w))
  rw[φ2q,ih]
theorem φF8 (names:List (List UInt8)) {d:φ1} {c:Int} (h:c≠0):φo names (d,c)=(d,c):=by
 induction names with
 | nil=>rfl
 | cons n l ih=>show φo l (φA (φD n) (d,c))=_;rw[φ2s h,ih]
theorem φ4e (names:List (List UInt8)):∀{w:φE},φ3 w.1=true→φ3 (φo names w).1=true:=by
 induction names with
 | nil=>intro w h;exact h
 | cons n l ih=>intro w h;exact ih (φ1t (op:=φD n) h fun k=>φ2Y k n)
def φ1d (names:List (List UInt8)) (w:φE):φE:=
 if w.2=2 then (if (φB (φo names (w.1,0))).2=0 then ((φB (φo names (w.1,0))).1,2) else φB (φo names (w.1,0))) else w
theorem φGi (names:List (List UInt8)) {w:φE} (h:φ3 w.1=true):φ3 (φ1d names w).1=true:=by
 have:=φ4e names (w:=(w.1,0)) h
 unfold φ1d;split
 ·split
  ·exact this
  ·exact this
 ·exact h
theorem φGo (w:φE) (names:List (List UInt8)) (h:φ3 w.1=true) (hn:names.length<1000):ψ1y.f w names=some (φ1d names w):=by
 unfold ψ1y.f φ1d
 by_cases c:w.2=2
 rotate_left
 ·have c1:(w.2 != 2)=true:=by simpa using c
  simp[c,c1]
 have key:=φ3M (step:=ψ1y.l0) names (fun (w:φE) n=>φ1A (φD n) w) (fun n (a:φE)=>((([],w.1.2),w.2),a,names,(names.length:Int),(n:Int))) (fun a=>((([],w.1.2),w.2),a)) (fun _ a=>φ3 a.1=true) (by omega)
  (fun rec n a h1 ha=>by
   have hw:=φM (show n+1<9223372036854775808 by omega)
   simp only[ψ1y.l0,oL,h1,dT,cT,φF,φJ,φ9 h1,φ5A a names[n] (φ13 ha) (by omega),bS,hw])
  (fun n a h1 ha=>φ8D (op:=φD names[n]) ha fun k=>φ2Y k _)
  (fun rec a ha=>by simp[ψ1y.l0])
  (w.1,0) h
 have key:lp ψ1y.l0 ((([],w.1.2),w.2),(w.1,0),names,(names.length:Int),0)=some ((([],w.1.2),w.2),φ50 names (w.1,0)):=key
 have e:φ50 names (w.1,0)=φB (φo names (w.1,0)):=φBX names (w.1,0)
 have c1:(w.2 != 2)=false:=by simpa using c
 rw[c1,cF,key,bS,e]
 generalize φB (φo names (w.1,0))=r
 obtain ⟨x,k⟩:=r
 by_cases c2:k=0
 ·subst c2;simp[c]
 ·have c3:(k != 0)=true:=by simpa using c2
  simp[c,c2,c3]
theorem φBa (d:φ1) (names:List (List UInt8)) (h:φ3 d=true) (hn:names.length<1000):ψ3D.f d names=some (φo names (d,0)):=by
 have key:=φg (step:=ψ3D.l0) (fun n (a:φ1)=>(names,a,([],0,0,false),(n:Int))) names.length (fun n a=>if (φo (names.drop n) (a,0)).2=0 then .inl ((φo (names.drop n) (a,0)).1,([],0,0,false)) else .inr (φo (names.drop n) (a,0))) (fun _ a=>φ3 a=true)
  (fun rec n a hn' ha ih=>by
   rcases κ2 n names.length with h1 | h1
   ·have hw:=φM (show n+1<9223372036854775808 by omega)
    have hd:=φ1X (φ13 ha) (by omega)
    rw[dG h1]
    have es:φo (names[n]::names.drop (n+1)) (a,0)=φo (names.drop (n+1)) (φD names[n] a):=by
     show φo _ (φA (φD names[n]) (a,0))=_;rw[φ2V]
    simp only[es,ψ3D.l0,oL,h1,dT,cT,φF,φJ,φ9 h1,φ4S a names[n] (by have:=hd.1;omega),bS,hw]
    by_cases c2:φ1j a.1 names[n]≥0
    ·have c3:¬φ1j a.1 names[n]<0:=by omega
     have e:φD names[n] a=φ2v names[n] a:=by unfold φD;simp[c2]
     have er:ψ2q.f a names[n]=some (φ2v names[n] a):=φHc a names[n] hd
     have hk:=φ96 ha names[n]
     rw[e]
     simp only[c3,dF,cF,er,bS]
     generalize φ2v names[n] a=r at *
     obtain ⟨x,c⟩:=r
     by_cases c4:c=0
     ·subst c4
      simp only[bne_self_eq_false,cF,bS,φf,hw,ih x h1 hk]
     ·have c5:(c != 0)=true:=by simpa using c4
      simp only[c5,cT,bS,φp,φF8 _ c4,c4,if_false]
    ·have c3:φ1j a.1 names[n]<0:=by omega
     have e:φD names[n] a=(a,0):=by unfold φD;simp[c2]
     rw[e]
     simp only[c3,dT,cT,bS,φf,hw,ih a h1 ha]
   ·have:n=names.length:=by omega
    subst this
    simp[ψ3D.l0,φo])
  (by omega) 0 d (κ4 _) h
 have key:lp ψ3D.l0 (names,d,([],0,0,false),0)=_:=key
 unfold ψ3D.f
 rw[key,bS,κC]
 generalize φo names (d,0)=r
 obtain ⟨x,c⟩:=r
 by_cases c4:c=0
 ·subst c4;rfl
 ·simp only[c4,if_false,φp]
def φO (l:List Int):Int:=l.getD (l.length - 1) 0
def actN (s:φ8):List UInt8:=φ0 (φO s.1.2)
theorem φCV {l:List Int} (h:1≤l.length) (hl:l.length<2 ^ 62):w64 ((l.length:Int) - 1)=((l.length - 1:Nat):Int)∧inB ((l.length - 1:Nat):Int) l.length=true∧rdA 0 l ((l.length - 1:Nat):Int)=φO l:=by
 refine ⟨by rw[φI (by omega) (by omega)];omega,?_,?_⟩
 ·rw[φF];simp;omega
 ·rw[φJ];rfl
theorem φAM (s:φ8) (h:1≤s.1.2.length) (hl:s.1.2.length<2 ^ 62):ψ13.f s=some (actN s,s):=by
 obtain ⟨e1,e2,e3⟩:=φCV h hl
 unfold ψ13.f actN
 simp only[e1,e2,e3,cT,φ3E,bS]
theorem lim8 {a:Nat} (h:a<1000000000001):(a+1) * 8≤140737488355328:=by omega
theorem φBL {a:Nat} (h:a<1000000000001):(0+a) * 8≤140737488355328:=by omega
theorem φF0 {a:Nat} (h:a<1000000000001):(0+a) * 48≤140737488355328:=by omega
theorem φF9 (v:φQ) (h:v.2.length<1000000000):ψ1M.f v=some v:=by
 unfold ψ1M.f
 have:(([]:List Int).length+v.2.length) * 8≤140737488355328:=φBL (by omega)
 simp only[this,dT,cT,κ8]
theorem φBK (v:List φC) (h:v.length<1000000000):ψ1J.f v=some v:=by
 unfold ψ1J.f
 have:(([]:List φC).length+v.length) * 48≤140737488355328:=φF0 (by omega)
 simp only[this,dT,cT,κ8]
theorem φAT (s:φ8) (h1:s.1.2.length<1000000000) (h2:s.2.1.length<1000000000):ψ1O.f s=some s:=by
 unfold ψ1O.f
 rw[φF9 _ h1,bS,φBK _ h2];rfl
theorem φN3 (s:φ8) (h1:s.1.2.length<1000000000) (h2:s.2.1.length<1000000000):ψ3B.f s=some s:=by
 unfold ψ3B.f
 have k1:(([]:List Int).length+s.1.2.length) * 8≤140737488355328:=φBL (by omega)
 have k2:(([]:List φC).length+s.2.1.length) * 48≤140737488355328:=φF0 (by omega)
 simp only[k1,k2,dT,cT,κ8]
def rotP (s:φ8) (d:φ1):φ8×φ1×Int:=
 if 60≤s.1.2.length∨100000≤s.1.1 then (s,d,5) else
 if (φH (actN s) d).2≠0 then (s,(φH (actN s) d).1,told (φH (actN s) d).2) else
 let w2:=φA (φW (φ0 s.1.1)) (φD (φ0 s.1.1) (φH (actN s) d).1)
 if w2.2≠0 then (((s.1.1+1,s.1.2),s.2),w2.1,told w2.2) else
 let w3:=φB (sPut (s.1.1+1,s.1.2++[s.1.1]) (w2.1,0))
 if w3.2≠0 then (((s.1.1+1,s.1.2),s.2),φ1d [[116,101,109,112],φ0 s.1.1] w3) else
 (((s.1.1+1,s.1.2++[s.1.1]),s.2.1,s.2.2.1,0,s.2.2.2.2),w3.1,0)
theorem φ6P (c:Int):(told c != 0)=(c != 0):=by
 by_cases h:c=0
 ·subst h;rfl
 ·have h2:told c≠0:=fun e=>h ((φ1B c).1 e)
  rw[show (told c != 0)=true by simpa using h2,show (c != 0)=true by simpa using h]
theorem φMs (s:φ8) (d:φ1) (h:φ3 d=true) (hv:φm s.1=true):ψ17.f s (d,0)=some (rotP s d):=by
 obtain ⟨k1,k2,k3,k4⟩:=(φ14 s.1).1 hv
 unfold ψ17.f rotP
 by_cases c1:60≤s.1.2.length
 ·have d1:(s.1.2.length:Int)≥60:=by omega
  simp[c1,d1]
 have d1:¬(s.1.2.length:Int)≥60:=by omega
 by_cases c2:100000≤s.1.1
 ·have d2:s.1.1≥100000:=c2
  simp[c1,c2,d1,d2]
 have d2:¬s.1.1≥100000:=c2
 have hs:=φ3I h (actN s)
 have hg:=φ2Y hs (φ0 s.1.1)
 have hc:φ3 (φA (φW (φ0 s.1.1)) (φD (φ0 s.1.1) (φH (actN s) d).1)).1=true:=φ1t (op:=φW _) hg fun k=>φ33 k _
 have hn:=φ4H s.1.1
 simp only[c1,c2,d1,d2,dF,cF,or_self,if_false,φAM s k3 (by omega),bS,φ7M (d,0) (actN s) (φ13 h) (by omega)]
 rw[show φ1A (φH (actN s)) (d,0)=φB (φH (actN s) d) by unfold φ1A;simp;rfl]
 generalize φH (actN s) d=r1 at *
 obtain ⟨x1,q1⟩:=r1
 show (bif told q1 != 0 then _ else _)=_
 rw[φ6P]
 by_cases c3:q1=0
 rotate_left
 ·have d3:(q1 != 0)=true:=by simpa using c3
  simp only[d3,cT,c3,ne_eq,not_false_eq_true,if_true];rfl
 subst c3
 have e2:ψ1x.f (φB (x1,0)) (φ0 s.1.1)=some (φB (φA (φW (φ0 s.1.1)) (φD (φ0 s.1.1) x1))):=by
  unfold ψ1x.f
  have g1:φ3 (φ1A (φD (φ0 s.1.1)) (φB (x1,0))).1=true:=φ8D (op:=φD _) hs fun k=>φ2Y k _
  rw[φ5A (φB (x1,0)) _ (φ13 hs) (by omega),bS,φ9N _ _ (φ13 g1) (by omega) (by omega),bS,φ2q,φ2q,φ2V]
 simp only[bne_self_eq_false,cF,ne_eq,not_true_eq_false,if_false,φ3E,bS,e2]
 generalize φA (φW (φ0 s.1.1)) (φD (φ0 s.1.1) x1)=r2 at *
 obtain ⟨x2,q2⟩:=r2
 show (bif told q2 != 0 then _ else _)=_
 rw[φ6P,show w64 (s.1.1+1)=s.1.1+1 from φI (by omega) (by omega)]
 by_cases c4:q2=0
 rotate_left
 ·have d3:(q2 != 0)=true:=by simpa using c4
  simp only[d3,cT,c4,not_false_eq_true,if_true];rfl
 subst c4
 have hp:φ3 (φB (sPut (s.1.1+1,s.1.2++[s.1.1]) (x2,0))).1=true:=φ3i (w:=(x2,0)) hc _
 have e3:ψ27.f (φB (x2,0)) (s.1.1+1,s.1.2++[s.1.1])=some (φB (sPut (s.1.1+1,s.1.2++[s.1.1]) (x2,0))):=by
  rw[φBp (φB (x2,0)) (s.1.1+1,s.1.2++[s.1.1]) (φ13 hc) (by omega) (by simp only[lA,lC,lN];omega),φCO]
 have hb:(s.1.2.length+[s.1.1].length) * 8≤140737488355328:=lim8 (by omega)
 simp only[bne_self_eq_false,cF,not_true_eq_false,if_false,φF9 (s.1.1+1,s.1.2) (show s.1.2.length<1000000000 by omega),bS,hb,dT,cT,e3]
 generalize φB (sPut (s.1.1+1,s.1.2++[s.1.1]) (x2,0))=r3 at *
 obtain ⟨x3,q3⟩:=r3
 by_cases c5:q3=0
 ·subst c5
  simp only[bne_self_eq_false,cF,not_true_eq_false,if_false]
 ·have d5:(q3 != 0)=true:=by simpa using c5
  simp only[d5,cT,c5,not_false_eq_true,if_true,φGo (x3,q3) [[116,101,109,112],φ0 s.1.1] hp (by simp),bS]
theorem φ5e {s:φ8} {d:φ1} (h:φh s d=true):φ3 d=true∧φm s.1=true∧φ1v s.2.1=true∧(1≤s.2.2.1∧s.2.2.1≤1000001)∧φ1g d s.2.2.2.1 s.1.2=true:=by
 unfold φh at h
 simp only[bA,decide_eq_true_eq] at h
 exact ⟨h.1,h.2.1,h.2.2.1,h.2.2.2.1,h.2.2.2.2.1⟩
theorem φ83 {s:φ8} {d:φ1} (h:φ3 d=true) (hv:φm s.1=true):φ3 (rotP s d).2.1=true∧(rotP s d).1.1.2.length≤s.1.2.length+1∧(rotP s d).1.2.1=s.2.1∧(rotP s d).1.2.2.1=s.2.2.1 ∧
  (((rotP s d).2.2=0→φm (rotP s d).1.1=true))∧((rotP s d).1.2.2.2.1=s.2.2.2.1∨(rotP s d).1.2.2.2.1=0):=by
 have hs:=φ3I h (actN s)
 have hc:φ3 (φA (φW (φ0 s.1.1)) (φD (φ0 s.1.1) (φH (actN s) d).1)).1=true:=φ1t (op:=φW _) (φ2Y hs _) fun k=>φ33 k _
 unfold rotP
 split
 ·exact ⟨h,Nat.le_succ _,rfl,rfl,fun e=>absurd e (by simp),.inl rfl⟩
 rename_i c1
 split
 ·rename_i c2
  exact ⟨hs,Nat.le_succ _,rfl,rfl,fun e=>absurd ((φ1B _).1 e) c2,.inl rfl⟩
 simp only
 split
 ·rename_i c2
  exact ⟨hc,Nat.le_succ _,rfl,rfl,fun e=>absurd ((φ1B _).1 e) c2,.inl rfl⟩
 have hp:=φ3i (w:=((φA (φW (φ0 s.1.1)) (φD (φ0 s.1.1) (φH (actN s) d).1)).1,0)) hc (s.1.1+1,s.1.2++[s.1.1])
 split
 ·rename_i c3
  refine ⟨φGi _ hp,Nat.le_succ _,rfl,rfl,fun e=>?_,.inl rfl⟩
  exfalso
  revert e
  unfold φ1d
  split
  ·split
   ·simp
   ·rename_i c4;exact c4
  ·exact c3
 ·refine ⟨hp,by simp,rfl,rfl,fun _=>φG8 hv (by omega) (by omega),.inr rfl⟩
theorem φ55 {a:Nat} (h:a<1000000000001):(a+1) * 48≤140737488355328:=by omega
theorem φAL (l:List φC) (key:List UInt8) (hl:l.length<1000000000):ψ7.f l key=some (φk l key):=by
 have hk:=φ3M (step:=ψ7.l0) l (fun s x=>if (!(x.1==key))=true then s++[x] else s) (fun n (s:List φC)=>(key,s,l,(l.length:Int),(n:Int))) id (fun n s=>s.length≤n) (by omega)
  (fun rec n s h hi=>by
   have hb:(s.length+([(l[n].1,l[n].2.1,l[n].2.2.1,l[n].2.2.2.1,l[n].2.2.2.2)]:List φC).length) * 48≤140737488355328:=φ55 (by omega)
   have hw:=φM (show n+1<9223372036854775808 by omega)
   simp only[ψ7.l0,oL,h,dT,cT,φF,φJ,φ9 h,hb]
   cases l[n].1==key<;>simp only[nZ,nF,cT,cF,bS,hw,if_true,if_false,κ3])
  (fun n s h hi=>by
   have:∀b:Bool,(if b=true then s++[l[n]] else s).length≤n+1:=fun b=>by cases b<;>simp<;>omega
   exact this _)
  (fun rec s hi=>by simp[ψ7.l0]) [] (by simp)
 have hk:lp ψ7.l0 (key,[],l,(l.length:Int),0)=_:=hk
 unfold ψ7.f
 rw[hk,φEI];rfl
theorem φN2 (rest:List φC) (p:φC) (hl:rest.length<2 ^ 62) :
  lp ψB.l0 (p,rest,0)=some (p,rest,((rest.takeWhile fun x=>leK x.1 p.1).length:Int)):=by
 have key:=φg (step:=ψB.l0) (fun n (_:Unit)=>(p,rest,(n:Int))) rest.length (fun n _=>(p,rest,((n+((rest.drop n).takeWhile fun x=>leK x.1 p.1).length:Nat):Int))) (fun _ _=>True)
  (fun rec n s hn _ ih=>by
   rcases κ2 n rest.length with h | h
   ·rw[φEx _ _ _ h]
    simp only[ψB.l0,oL,h,dT,cT,φF,φJ,φ9 h,φM (show n+1<9223372036854775808 by omega)]
    show (bif leK rest[n].1 p.1 then _ else _)=_
    cases leK rest[n].1 p.1
    ·simp
    ·simp only[cT,if_true]
     rw[ih () h trivial]
     congr 4;omega
   ·have:n=rest.length:=by omega
    subst this
    simp[ψB.l0])
  hl 0 () (κ4 _) trivial
 simpa using key
theorem φD4 (l:List φC) (e:φC) (hl:l.length<1000000000):ψB.f l e=some (insB (φk l e.1) e):=by
 have hd:=φ7m l e.1
 have htw:((φk l e.1).takeWhile fun x=>leK x.1 e.1).length≤(φk l e.1).length:=(List.takeWhile_sublist _).length_le
 unfold ψB.f
 rw[φAL l e.1 hl,bS,φN2 _ _ (by omega),bS]
 generalize hk:((φk l e.1).takeWhile fun x=>leK x.1 e.1).length=k at *
 have c1:(0:Int)≤(k:Int):=by omega
 have c2:(k:Int)≤((φk l e.1).length:Int):=by omega
 have c3:(List.take k (φk l e.1)).length<1000000000:=by simp;omega
 have c4:((List.take k (φk l e.1)).length+[e].length) * 48≤140737488355328:=φ55 (by omega)
 have c5:((List.take k (φk l e.1)++[e]).length+(List.drop k (φk l e.1)).length) * 48≤140737488355328:=by simp;omega
 have hins:insB (φk l e.1) e=List.take k (φk l e.1)++[e]++List.drop k (φk l e.1):=by
  unfold insB;simp only[hk]
 simp only[c1,c2,dT,Bool.and_self,cT,tN,φBK _ c3,bS,c4,c5,hins]
def φ2o (dir:List φC) (x:PutT×φC):List φC:=if x.1.2.1=true then φk dir x.1.1 else insB (φk dir x.2.1) x.2
def dirW (dir:List φC) (l:List (PutT×φC)):List φC:=l.foldl φ2o dir
theorem φOR (dir:List φC) (x:PutT×φC):(φ2o dir x).length≤dir.length+1:=by
 unfold φ2o;split
 ·have:=φ7m dir x.1.1;omega
 ·rw[φ5s];have:=φ7m dir x.2.1;omega
theorem φCf (step:((List φC×List φC×List PutT×Int×Int)→Option (List φC))→(List φC×List φC×List PutT×Int×Int)→Option (List φC)) (hst:step=ψ1R.l0) (dir:List φC) (l:List PutT) (es:List φC) (h1:l.length≤es.length) (hd:dir.length<100000000) (hl:l.length<100000000) :
  lp step (dir,es,l,(l.length:Int),0)=some (dirW dir (l.zip es)):=by
 subst hst
 have hz:(l.zip es).length=l.length:=by rw[List.length_zip];omega
 have key:=φ3M (step:=ψ1R.l0) (l.zip es) φ2o (fun n (s:List φC)=>(s,es,l,(l.length:Int),(n:Int))) id (fun n s=>s.length≤dir.length+n) (by omega)
  (fun rec n s h hi=>by
   have hn:n<l.length:=by omega
   have hn2:n<es.length:=by omega
   have hw:=φM (show n+1<9223372036854775808 by omega)
   simp only[ψ1R.l0,oL,hn,hn2,dT,cT,φF,φJ,φ9 hn,φ9 hn2,φAL s l[n].1 (by omega),φD4 s es[n] (by omega),bS,List.getElem_zip]
   unfold φ2o
   simp only
   cases l[n].2.1
   ·simp only[cF,bS,hw,κ3,if_false]
   ·simp only[cT,bS,hw,if_true])
  (fun n s h hi=>by have:=φOR s (l.zip es)[n];have hi:s.length≤dir.length+n:=hi;show _≤_;omega)
  (fun rec s hi=>by simp only[hz,ψ1R.l0];simp)
  dir (by simp)
 exact key
theorem φLv (dir:List φC) (l:List PutT) (es:List φC) (h1:l.length≤es.length) (hd:dir.length<100000000) (hl:l.length<100000000):ψ1R.f dir l es=some (dirW dir (l.zip es)):=by
 unfold ψ1R.f
 rw[φCf _ rfl dir l es h1 hd hl];rfl
theorem φLN (dir:List φC) (l:List PutT) (es:List φC) (h1:l.length≤es.length) (hd:dir.length<100000000) (hl:l.length<100000000):ψ1S.f dir l es=some (dirW dir (l.zip es)):=by
 unfold ψ1S.f
 rw[φCf ψ1S.l0 rfl dir l es h1 hd hl];rfl
def φ4M (p:PutT):φC:=(p.1,0,0,0,0)
def φ2p (dir:List φC) (l:List PutT):Nat:=(dirW dir (l.zip (l.map φ4M))).length
theorem φJI (dir:List φC) (l:List PutT) (hd:dir.length<100000000) (hl:l.length<100000000):ψ1Z.f dir l=some (φ2p dir l:Int):=by
 have key:=φg (step:=ψ1Z.l0) (fun n (acc:List φC)=>(dir,l,acc,l,(l.length:Int),(n:Int))) l.length (fun n acc=>(dir,l,acc++(l.drop n).map φ4M)) (fun n acc=>acc.length=n)
  (fun rec n acc hn ha ih=>by
   rcases κ2 n l.length with h | h
   ·have hw:=φM (show n+1<9223372036854775808 by omega)
    have hb:∀{α:Type} (x:α),decide ((acc.length+[x].length) * 48≤140737488355328)=true:=fun x=>decide_eq_true (φ55 (by omega))
    have ih:=ih (acc++[(l[n].1,0,0,0,0)]) h (by rw[lA,ha];rfl)
    simp only[ψ1Z.l0,oL,h,dT,cT,φF,φJ,φ9 h]
    simp only[hb,cT,hw,ih]
    rw[dG h,κ5,aA];rfl
   ·have:n=l.length:=by omega
    subst this
    simp[ψ1Z.l0])
  (by omega) 0 [] (κ4 _) rfl
 have key:lp ψ1Z.l0 (dir,l,[],l,(l.length:Int),0)=_:=key
 unfold ψ1Z.f φ2p
 rw[key,bS,κC,κ8]
 simp only
 rw[φLv dir l _ (by rw[lM];exact κ6 _) hd hl];rfl
theorem φIH (l:List PutT):l.zip (l.map φ4M)=l.map fun p=>(p,φ4M p):=by
 induction l with
 | nil=>rfl
 | cons x l ih=>simp[ih]
def φ1Q (b:Int) (p:PutT):RecT:=if p.2.1=true then (2,b,p.1,[],0,0) else (1,b,p.1,p.2.2,0,0)
def φ1q (b:Int) (l:List PutT):List RecT:=l.map (φ1Q b)++[(3,b,[],[],(l.length:Int),φ1i (l.map (φ1Q b)))]
theorem φ7d {a:Nat} (h:a<1000000000001):(a+1) * 64≤140737488355328:=by omega
theorem φJS (l:List PutT) (b:Int) (hl:l.length<100000000):ψ1i.f l b=some (φ1q b l):=by
 have key:=φg (step:=ψ1i.l0) (fun n (acc:List RecT)=>(l,b,acc,l,(l.length:Int),(n:Int))) l.length (fun n acc=>(l,b,acc++(l.drop n).map (φ1Q b))) (fun n acc=>acc.length=n)
  (fun rec n acc hn ha ih=>by
   rcases κ2 n l.length with h | h
   ·have hw:=φM (show n+1<9223372036854775808 by omega)
    have hb:∀{α:Type} (x:α),decide ((acc.length+[x].length) * 64≤140737488355328)=true:=fun x=>decide_eq_true (φ7d (by omega))
    have ih:=ih (acc++[φ1Q b l[n]]) h (by rw[lA,ha];rfl)
    have e:acc++List.map (φ1Q b) (List.drop n l)=acc++[φ1Q b l[n]]++List.map (φ1Q b) (List.drop (n+1) l):=by
     rw[dG h,κ5,aA];rfl
    rw[e]
    simp only[ψ1i.l0,oL,h,dT,cT,φF,φJ,φ9 h,hb]
    revert ih
    unfold φ1Q
    cases l[n].2.1
    ·intro ih;simp only[κ3,if_false] at ih ⊢;simp only[cF,bS,hw,ih]
    ·intro ih;simp only[if_true] at ih ⊢;simp only[cT,bS,hw,ih]
   ·have:n=l.length:=by omega
    subst this
    simp[ψ1i.l0])
  (by omega) 0 [] (κ4 _) rfl
 have key:lp ψ1i.l0 (l,b,[],l,(l.length:Int),0)=_:=key
 have hb:∀{α:Type} (x:α),decide (((l.map (φ1Q b)).length+[x].length) * 64≤140737488355328)=true:=fun x=>decide_eq_true (φ7d (by rw[lM];omega))
 unfold ψ1i.f φ1q
 rw[key,bS,κC,κ8]
 simp only[φCK (l.map (φ1Q b)) (by rw[lM];omega),bS,hb,cT]
def addR (s:φ8) (d:φ1) (t:List UInt8):φ8×φ1×Int:=if s.2.2.2.1 > 0∧s.2.2.2.1+(t.length:Int) > 200 then rotP s d else (s,d,0)
def addP (s:φ8) (d:φ1) (r:RecT):φ8×φ1×Int×φC:=
 let R:=addR s d (frame (φ7 r))
 if R.2.2≠0 then (R.1,R.2.1,R.2.2,([],0,0,0,0)) else
 let w:=φN (actN R.1) (frame (φ7 r)) R.2.1
 let e:φC:=(r.2.2.1,φO R.1.1.2,R.1.2.2.2.1,((frame (φ7 r)).length:Int),r.2.1)
 if w.2≠0 then (R.1,w.1,told w.2,e) else ((R.1.1,R.1.2.1,R.1.2.2.1,R.1.2.2.2.1+((frame (φ7 r)).length:Int),R.1.2.2.2.2),w.1,0,e)
structure Good2 (k:Int) (s:φ8) (d:φ1):Prop where
 dk:φ3 d=true
 lv:φm s.1=true
 s0:0≤s.2.2.2.1
 s1:s.2.2.2.1≤k
theorem φGk {s:φ8} {d:φ1} {k:Int} (h:Good2 k s d) (t:List UInt8):φ3 (addR s d t).2.1=true∧(addR s d t).1.1.2.length≤s.1.2.length+1∧(addR s d t).1.2.1=s.2.1∧((addR s d t).2.2=0→Good2 k (addR s d t).1 (addR s d t).2.1):=by
 unfold addR
 split
 ·obtain ⟨r1,r2,r3,r4,r5,r6⟩:=φ83 h.dk h.lv
  refine ⟨r1,r2,r3,fun e=>⟨r1,r5 e,?_,?_⟩⟩
  ·have:=h.s0;omega
  ·have:=h.s1;have:=h.s0;omega
 ·exact ⟨h.dk,Nat.le_succ _,rfl,fun _=>h⟩
theorem φEP {s:φ8} {d:φ1} {k:Int} (h:Good2 k s d) (r:RecT):φ3 (addP s d r).2.1=true∧(addP s d r).1.1.2.length≤s.1.2.length+1∧(addP s d r).1.2.1=s.2.1∧((addP s d r).2.2.1=0→Good2 (k+211) (addP s d r).1 (addP s d r).2.1):=by
 obtain ⟨q1,q2,q3,q4⟩:=φGk h (frame (φ7 r))
 have hf:=φ4p (φ7 r)
 unfold addP
 generalize addR s d (frame (φ7 r))=R at *
 simp only
 split
 ·rename_i c;exact ⟨q1,q2,q3,fun e=>absurd e c⟩
 rename_i c
 have c:R.2.2=0:=by simpa using c
 have g:=q4 c
 have ha:=φ3N q1 (actN R.1) (frame (φ7 r))
 split
 ·rename_i c2;exact ⟨ha,q2,q3,fun e=>absurd ((φ1B _).1 e) c2⟩
 ·refine ⟨ha,q2,q3,fun _=>⟨ha,g.lv,?_,?_⟩⟩
  ·have:=g.s0;show 0≤R.1.2.2.2.1+_;omega
  ·have:=g.s1;show R.1.2.2.2.1+_≤_;omega
theorem φJe {s:φ8} {d:φ1} {k:Int} (h:Good2 k s d) (hk:k≤1000000000000) (r:RecT):ψ14.f s (d,0) r=some ((addP s d r).2.2.2,(addP s d r).1,((addP s d r).2.1,(addP s d r).2.2.1)):=by
 have h0:=h.s0
 have h1:=h.s1
 have hf:=φ4p (φ7 r)
 have hsr:=φ3Y r
 obtain ⟨q1,q2,q3,q4⟩:=φGk h (frame (φ7 r))
 have hw:w64 (s.2.2.2.1+((frame (φ7 r)).length:Int))=s.2.2.2.1+((frame (φ7 r)).length:Int):=φI (by omega) (by omega)
 have eR:(bif decide (s.2.2.2.1 > 0) then bif decide (s.2.2.2.1+((frame (φ7 r)).length:Int) > 200) then (ψ17.f s (d,0)).bind fun (t3_0,t3_1)=>some (t3_0,t3_1,r,(([],0,0,0,0):φC),frame (φ7 r)) else some (s,(d,0),r,([],0,0,0,0),frame (φ7 r)) else some (s,(d,0),r,([],0,0,0,0),frame (φ7 r))) =
   some ((addR s d (frame (φ7 r))).1,((addR s d (frame (φ7 r))).2.1,(addR s d (frame (φ7 r))).2.2),r,([],0,0,0,0),frame (φ7 r)):=by
  unfold addR
  rw[φMs s d h.dk h.lv]
  by_cases c1:s.2.2.2.1 > 0
  ·by_cases c2:s.2.2.2.1+((frame (φ7 r)).length:Int) > 200
   ·simp only[c1,c2,dT,cT,and_self,if_true,bS]
   ·simp only[c1,c2,dT,dF,cT,cF,and_false,if_false]
  ·simp only[c1,dF,cF,false_and,if_false]
 unfold ψ14.f addP
 simp only[φBl r,φ8Y (φ7 r) (show (φ7 r).length<2 ^ 62 by omega),bS,hw]
 rw[eR]
 generalize addR s d (frame (φ7 r))=R at *
 obtain ⟨S,D,c⟩:=R
 simp only[bS]
 by_cases c1:c=0
 rotate_left
 ·have d1:(c != 0)=true:=by simpa using c1
  simp only[d1,cT,c1,ne_eq,not_false_eq_true,if_true]
 subst c1
 have g:=q4 rfl
 have g0:0≤S.2.2.2.1:=g.s0
 have g1:S.2.2.2.1≤k:=g.s1
 have g2:φm S.1=true:=g.lv
 obtain ⟨k1,k2,k3,k4⟩:=(φ14 S.1).1 g2
 obtain ⟨l1,l2,l3⟩:=φCV k3 (by omega)
 have hw2:w64 (S.2.2.2.1+((frame (φ7 r)).length:Int))=S.2.2.2.1+((frame (φ7 r)).length:Int):=φI (by omega) (by omega)
 simp only[bne_self_eq_false,cF,ne_eq,not_true_eq_false,if_false,l1,l2,l3,cT,φAM S k3 (by omega),bS,φB1 (D,0) (actN S) (frame (φ7 r)) (φ13 q1) (by omega) (by omega)]
 rw[show φ1A (φN (actN S) (frame (φ7 r))) (D,0)=φB (φN (actN S) (frame (φ7 r)) D) by unfold φ1A;simp;rfl]
 generalize φN (actN S) (frame (φ7 r)) D=w at *
 obtain ⟨x,c2⟩:=w
 by_cases c3:c2=0
 ·subst c3
  show (bif told 0==0 then _ else _)=_
  simp only[show (told 0==0)=true from rfl,cT,hw2,not_true_eq_false,if_false];rfl
 ·have c4:¬told c2=0:=fun e=>c3 ((φ1B c2).1 e)
  have d4:(told c2==0)=false:=by simpa using c4
  show (bif told c2==0 then _ else _)=_
  simp only[d4,cF,c3,not_false_eq_true,if_true];rfl
def φe:List RecT→φ8→φ1→φ8×φ1×Int×List φC
 | [],s,d=>(s,d,0,[])
 | r::rs,s,d=>if (addP s d r).2.2.1≠0 then ((addP s d r).1,(addP s d r).2.1,(addP s d r).2.2.1,[]) else
   let g:=φe rs (addP s d r).1 (addP s d r).2.1
   (g.1,g.2.1,g.2.2.1,(addP s d r).2.2.2::g.2.2.2)
theorem φCv:∀(rs:List RecT) (s:φ8) (d:φ1) (k:Int),Good2 k s d→φ3 (φe rs s d).2.1=true∧(φe rs s d).1.1.2.length≤61∧(φe rs s d).1.2.1=s.2.1 ∧
  ((φe rs s d).2.2.1=0→Good2 (k+211 * (rs.length:Int)) (φe rs s d).1 (φe rs s d).2.1∧(φe rs s d).2.2.2.length=rs.length)
 | [],s,d,k,h=>by
  have:=((φ14 _).1 h.lv).2.2.2
  refine ⟨h.dk,by show s.1.2.length≤61;omega,rfl,fun _=>⟨⟨h.dk,h.lv,h.s0,by have:=h.s1;show s.2.2.2.1≤_;simp;omega⟩,rfl⟩⟩
 | r::rs,s,d,k,h=>by
  obtain ⟨q1,q2,q3,q4⟩:=φEP h r
  have:=((φ14 _).1 h.lv).2.2.2
  unfold φe
  split
  ·rename_i c
   exact ⟨q1,by show (addP s d r).1.1.2.length≤61;omega,q3,fun e=>absurd e c⟩
  ·rename_i c
   have c:(addP s d r).2.2.1=0:=by simpa using c
   obtain ⟨p1,p2,p3,p4⟩:=φCv rs _ _ _ (q4 c)
   refine ⟨p1,p2,by show (φe rs _ _).1.2.1=_;rw[p3,q3],fun e=>?_⟩
   obtain ⟨g,hl⟩:=p4 e
   refine ⟨⟨g.dk,g.lv,g.s0,?_⟩,by show _+1=_+1;rw[hl]⟩
   have:=g.s1
   simp only[lC]
   show (φe rs _ _).1.2.2.2.1≤_
   push_cast;omega
theorem φLl (p2:List PutT) (rs:List RecT) (s:φ8) (d:φ1) (k:Int) (h:Good2 k s d) (hk:k≤100000000000) (hr:rs.length<1000000) :
  lp ψ15.l0 (s,(d,0),p2,[],rs,(rs.length:Int),0)=some (if (φe rs s d).2.2.1=0 then .inl ((φe rs s d).1,((φe rs s d).2.1,0),p2,(φe rs s d).2.2.2) else .inr ((φe rs s d).1,((φe rs s d).2.1,(φe rs s d).2.2.1))):=by
 have key:=φg (step:=ψ15.l0) (fun n (a:φ8×φ1×List φC)=>(a.1,(a.2.1,0),p2,a.2.2,rs,(rs.length:Int),(n:Int))) rs.length
  (fun n a=>if (φe (rs.drop n) a.1 a.2.1).2.2.1=0 then .inl ((φe (rs.drop n) a.1 a.2.1).1,((φe (rs.drop n) a.1 a.2.1).2.1,0),p2,a.2.2++(φe (rs.drop n) a.1 a.2.1).2.2.2) else .inr ((φe (rs.drop n) a.1 a.2.1).1,((φe (rs.drop n) a.1 a.2.1).2.1,(φe (rs.drop n) a.1 a.2.1).2.2.1)))
  (fun n a=>Good2 (k+211 * (n:Int)) a.1 a.2.1∧a.2.2.length=n)
  (fun rec n a hn ha ih=>by
   obtain ⟨S,D,acc⟩:=a
   obtain ⟨ha,hacc⟩:=ha
   simp only at ha hacc
   rcases κ2 n rs.length with h1 | h1
   ·have hw:=φM (show n+1<9223372036854775808 by omega)
    obtain ⟨q1,q2,q3,q4⟩:=φEP ha rs[n]
    have ea:ψ14.f S (D,0) (rs[n].1,rs[n].2.1,rs[n].2.2.1,rs[n].2.2.2.1,rs[n].2.2.2.2.1,rs[n].2.2.2.2.2)=_:=φJe ha (by omega) rs[n]
    have hb:∀{α:Type} (x:α),decide ((acc.length+[x].length) * 48≤140737488355328)=true:=fun x=>decide_eq_true (φ55 (by omega))
    rw[dG h1]
    simp only[φe,ψ15.l0,oL,h1,dT,cT,φF,φJ,φ9 h1,ea,bS,hb]
    by_cases c:(addP S D rs[n]).2.2.1=0
    ·have g:=q4 c
     have ih:=ih ((addP S D rs[n]).1,(addP S D rs[n]).2.1,acc++[(addP S D rs[n]).2.2.2]) h1 ⟨by
      refine ⟨g.dk,g.lv,g.s0,?_⟩
      have:=g.s1;simp only;push_cast;omega,by rw[lA,hacc];rfl⟩
     simp only at ih
     simp only[c,bne_self_eq_false,cF,ne_eq,not_true_eq_false,if_false,hw,ih,aA,List.singleton_append]
    ·have d1:((addP S D rs[n]).2.2.1 != 0)=true:=by simpa using c
     simp only[d1,cT,c,ne_eq,not_false_eq_true,if_true,if_false]
   ·have:n=rs.length:=by omega
    subst this
    simp[ψ15.l0,φe])
  (by omega) 0 (s,d,[]) (κ4 _) ⟨by simpa using h,rfl⟩
 have key:lp ψ15.l0 (s,(d,0),p2,[],rs,(rs.length:Int),0)=_:=key
 rw[key,κC,κ8]
def φ1N (s:φ8) (d:φ1) (l:List PutT):φ8×φ1×Int:=
 let g:=φe (φ1q s.2.2.1 l) (s.1,s.2.1,s.2.2.1+1,s.2.2.2) d
 if g.2.2.1≠0 then (g.1,g.2.1,g.2.2.1) else
 let w:=φH (actN g.1) g.2.1
 if w.2≠0 then (g.1,w.1,told w.2) else ((g.1.1,dirW g.1.2.1 (l.zip g.2.2.2),g.1.2.2),w.1,0)
theorem φ8m (b:Int) (l:List PutT):(φ1q b l).length=l.length+1:=by
 unfold φ1q;simp
theorem φIp {s:φ8} {d:φ1} {k:Int} (h:Good2 k s d) (hk:k≤100000000) (l:List PutT) (hl:l.length≤8) (hb:0≤s.2.2.1∧s.2.2.1≤1000001) (hd:s.2.1.length≤1000000):ψ15.f s (d,0) l=some (φ1N s d l):=by
 have h':Good2 k (s.1,s.2.1,s.2.2.1+1,s.2.2.2) d:=⟨h.dk,h.lv,h.s0,h.s1⟩
 have hrl:=φ8m s.2.2.1 l
 obtain ⟨p1,p2,p3,p4⟩:=φCv (φ1q s.2.2.1 l) _ _ _ h'
 unfold ψ15.f φ1N
 simp only[show w64 (s.2.2.1+1)=s.2.2.1+1 from φI (by omega) (by omega),φJS l s.2.2.1 (by omega),bS,φLl l (φ1q s.2.2.1 l) (s.1,s.2.1,s.2.2.1+1,s.2.2.2) d k h' (by omega) (by omega)]
 generalize φe (φ1q s.2.2.1 l) (s.1,s.2.1,s.2.2.1+1,s.2.2.2) d=g at *
 obtain ⟨S,D,c,es⟩:=g
 by_cases c1:c=0
 rotate_left
 ·simp only[c1,if_false,φp,ne_eq,not_false_eq_true,if_true]
 subst c1
 obtain ⟨g,hes⟩:=p4 rfl
 have g0:φm S.1=true:=g.lv
 have g1:φ3 D=true:=g.dk
 have hes:es.length=(φ1q s.2.2.1 l).length:=hes
 have p3:S.2.1=s.2.1:=p3
 obtain ⟨k1,k2,k3,k4⟩:=(φ14 S.1).1 g0
 simp only[if_true,φf,ne_eq,not_true_eq_false,if_false,φAM S k3 (by omega),bS,φ7M (D,0) (actN S) (φ13 g1) (by omega)]
 rw[show φ1A (φH (actN S)) (D,0)=φB (φH (actN S) D) by unfold φ1A;simp;rfl]
 generalize φH (actN S) D=w at *
 obtain ⟨x,c2⟩:=w
 show (bif told c2==0 then _ else _)=_
 by_cases c3:c2=0
 ·subst c3
  simp only[show (told 0==0)=true from rfl,cT,not_true_eq_false,if_false,φLN S.2.1 l es (by omega) (by rw[p3];omega) (by omega),bS];rfl
 ·have c4:¬told c2=0:=fun e=>c3 ((φ1B c2).1 e)
  have d4:(told c2==0)=false:=by simpa using c4
  simp only[d4,cF,c3,not_false_eq_true,if_true];rfl
theorem φGv {α β:Type}:∀(l:List α) (es x:List β),l.length≤es.length→l.zip (es++x)=l.zip es
 | [],_,_,_=>by simp
 | a::l,[],x,h=>by simp at h
 | a::l,e::es,x,h=>by
  rw[κF,List.zip_cons_cons,List.zip_cons_cons,φGv l es x (by simpa using h)]
theorem φGJ {d:φ1} (hd:dlim d) {size:Int}:∀(l:List Int),l≠[]→φ1g d size l=true→0≤size∧size≤(φK d.1:Int)
 | [],h,_=>absurd rfl h
 | [id],_,h=>by
  unfold φ1g φ4c at h
  simp only[bA,List.isEmpty_nil,nZ,κU,decide_eq_true_eq] at h
  have:=φ4k d (φ0 id) hd
  have e:=h.1.2.2
  omega
 | id::id2::r,_,h=>by
  have h2:φ1g d size (id2::r)=true:=by
   unfold φ1g at h
   simp only[bA] at h
   exact h.2
  exact φGJ hd (id2::r) (by simp) h2
theorem φ8Q {s:φ8} {d:φ1} (h:φh s d=true):Good2 100000 s d:=by
 obtain ⟨q1,q2,q3,q4,q5⟩:=φ5e h
 have hl:=φ13 q1
 have hd:=φ1X hl (by omega)
 have k:=(φ14 s.1).1 q2
 have:=φGJ hd s.1.2 (fun e=>by rw[e] at k;simp at k) q5
 have:=(φ8K q1)
 exact ⟨q1,q2,by omega,by omega⟩
theorem φ8P (id:Int):ψV.f id=some (φL id):=by
 unfold ψV.f φL
 rw[φHO [104,105,110,116] id (by show 4≤100;decide),bS]
theorem φBd (id:Int):ψ2X.f id=some (φL id):=by
 unfold ψ2X.f φL φ2K
 rw[φ2J,bS]
 by_cases h:1≤id∧id≤100000
 ·obtain ⟨n,rfl⟩:∃n:Nat,id=(n:Int):=⟨id.toNat,by omega⟩
  have hl:=φ6K 5 n (by show n<1000000;omega)
  have hb:([104,105,110,116]:List UInt8).length+(Lib.decDigits n).length≤9223372036854775807:=by show 4+_≤_;omega
  simp only[h,and_self,dT,nZ,cF,φHd n (by omega),bS,hb,cT,if_true,tN]
 ·simp[h]
theorem φBW (id:Int):(φL id).length≤10:=by
 unfold φL φ2K
 split
 ·have hl:=φ6K 5 id.toNat (by show _<1000000;omega)
  rw[lA];show 4+_≤10;omega
 ·simp
abbrev φ1H:=Int×Int×List φC
def φ4V (h:φ1H) (e:φC):Bool:=!(e.2.1 != ((h.2.2.getD 0 ([],0,0,0,0)).2.1)) && !decide (e.2.2.1 > 100000)
def φ2c (h:φ1H):Bool:=h.2.2.all (φ4V h) && (decide (0≤h.1∧h.1≤100000) && (decide (0≤h.2.1∧h.2.1≤1000000) && φ1v h.2.2))
theorem φ9u (h:φ1H) (hl:h.2.2.length<1000000000):ψ1W.f h=some (φ2c h):=by
 have key:=φ3z (step:=ψ1W.l0) h.2.2 (φ4V h) (fun n=>(h,h.2.2,(h.2.2.length:Int),(n:Int))) h (by omega)
  (fun rec n h1=>by
   have hw:=φM (show n+1<9223372036854775808 by omega)
   have h0:inB 0 h.2.2.length=true:=by rw[show (0:Int)=((0:Nat):Int) from rfl,φF];simp;omega
   have r0:rdA ([],0,0,0,0) h.2.2 0=h.2.2.getD 0 ([],0,0,0,0):=by rw[show (0:Int)=((0:Nat):Int) from rfl,φJ]
   simp only[ψ1W.l0,oL,h1,dT,cT,φF,φJ,φ9 h1,h0,r0,hw]
   unfold φ4V
   cases (h.2.2[n].2.1 != (h.2.2.getD 0 ([],0,0,0,0)).2.1)<;>cases decide (h.2.2[n].2.2.1 > 100000)<;>rfl)
  (fun rec=>by simp[ψ1W.l0])
 have key:lp ψ1W.l0 (h,h.2.2,(h.2.2.length:Int),0)=_:=key
 unfold ψ1W.f φ2c
 rw[key,bS]
 simp only[φ1a,φAJ h.2.2 (by omega),bS]
 cases h.2.2.all (φ4V h)
 ·simp
 simp only[if_true,φf,tA]
 cases decide (0≤h.1∧h.1≤100000)<;>cases decide (0≤h.2.1∧h.2.1≤1000000)<;>simp[φAJ h.2.2 (show h.2.2.length<2 ^ 62 by omega)]
theorem φIl (h:φ1H) (hl:h.2.2.length<1000000000):ψ37.f h=some (φ2c h):=by
 have key:=φ3z (step:=ψ37.l0) h.2.2 (φ4V h) (fun n=>(h,(n:Int))) () (by omega)
  (fun rec n h1=>by
   have hw:=φM (show n+1<9223372036854775808 by omega)
   have h0:inB 0 h.2.2.length=true:=by rw[show (0:Int)=((0:Nat):Int) from rfl,φF];simp;omega
   have r0:rdA ([],0,0,0,0) h.2.2 0=h.2.2.getD 0 ([],0,0,0,0):=by rw[show (0:Int)=((0:Nat):Int) from rfl,φJ]
   simp only[ψ37.l0,oL,h1,dT,cT,φF,φJ,φ9 h1,h0,r0,hw]
   unfold φ4V
   cases (h.2.2[n].2.1 != (h.2.2.getD 0 ([],0,0,0,0)).2.1)<;>cases decide (h.2.2[n].2.2.1 > 100000)<;>rfl)
  (fun rec=>by simp[ψ37.l0])
 have key:lp ψ37.l0 (h,0)=_:=key
 unfold ψ37.f φ2c
 rw[key]
 simp only[φ2J,φGG h.2.2 (by omega),bS]
 cases h.2.2.all (φ4V h)<;>cases decide (0≤h.1∧h.1≤100000)<;>cases decide (0≤h.2.1∧h.2.1≤1000000)<;>cases φ1v h.2.2<;>rfl
def entT (e:φC):List UInt8:=varT (e.1.length:Int)++e.1++varT e.2.1++varT e.2.2.1++varT e.2.2.2.1++varT e.2.2.2.2
def φ1w (h:φ1H):List UInt8:=varT h.1++varT h.2.1++varT (h.2.2.length:Int)++(h.2.2.map entT).flatten
def φ1U (h:φ1H):List UInt8:=if φ2c h=false then [] else fix4 (crcT (φ1w h))++φ1w h
theorem φHP {e:φC} (h:φ2w e=true):e.1.length≤8:=by
 unfold φ2w φ1E at h
 simp only[bA,decide_eq_true_eq] at h
 omega
theorem φFt:∀(l:List φC) (p:Option (List UInt8)),φ2a p l=true→∀e∈l,φ2w e=true
 | [],_,_,e,he=>by simp at he
 | x::l,p,h,e,he=>by
  simp only[φ2a,bA] at h
  rcases mc.1 he with c | he
  ·subst c;exact h.1
  ·exact φFt l _ h.2.2 e he
theorem φ3v {l:List φC} (h:φ1v l=true):l.length≤20∧∀e∈l,φ2w e=true:=by
 unfold φ1v at h
 simp only[bA,decide_eq_true_eq] at h
 exact ⟨h.2,φFt l none h.1⟩
theorem φBF {e:φC} (h:e.1.length≤8):(entT e).length≤43:=by
 unfold entT
 have:=φl (e.1.length:Int)
 have:=φl e.2.1
 have:=φl e.2.2.1
 have:=φl e.2.2.2.1
 have:=φl e.2.2.2.2
 simp only[lA];omega
theorem φBz:∀{l:List φC},(∀e∈l,e.1.length≤8)→((l.map entT).flatten).length≤43 * l.length
 | [],_=>by simp
 | e::l,h=>by
  have h1:=φBF (h e κ0)
  have h2:=φBz (l:=l) fun x hx=>h x (mC _ hx)
  rw[κ5,List.flatten_cons,lA,lC];omega
theorem φAH {h:φ1H} (k:φ2c h=true):h.2.2.length≤20∧∀e∈h.2.2,e.1.length≤8:=by
 unfold φ2c at k
 simp only[bA] at k
 have:=φ3v k.2.2.2
 exact ⟨this.1,fun e he=>φHP (this.2 e he)⟩
theorem φ8i {h:φ1H} (k:φ2c h=true):(φ1w h).length≤1000:=by
 obtain ⟨k1,k2⟩:=φAH k
 have:=φBz k2
 have:=φl h.1
 have:=φl h.2.1
 have:=φl (h.2.2.length:Int)
 unfold φ1w
 simp only[lA];omega
theorem φ9X (h:φ1H):(φ1U h).length≤1004:=by
 unfold φ1U;split
 ·simp
 ·rename_i k
  have:=φ8i (by simpa using k)
  have:=φ4Y (crcT (φ1w h))
  rw[lA];omega
theorem φAZ (h:φ1H) (hl:h.2.2.length<1000000000):ψz.f h=some (φ1U h):=by
 unfold ψz.f φ1U
 rw[φ9u h hl,bS]
 rcases bE (φ2c h) with k | k
 rotate_left
 ·simp[k]
 obtain ⟨k1,k2⟩:=φAH k
 have hB:=φ8i k
 have hf:=φ4Y (crcT (φ1w h))
 have v1:=φl h.1
 have v2:=φl h.2.1
 have v3:=φl (h.2.2.length:Int)
 have e0:ψ1w.f [h.1,h.2.1,(h.2.2.length:Int)]=some (varT h.1++varT h.2.1++varT (h.2.2.length:Int)):=by
  rw[φ7i _ (by simp)];simp
 have key:=φg (step:=ψz.l0) (fun n (acc:List UInt8)=>(acc,h.2.2,(h.2.2.length:Int),(n:Int))) h.2.2.length (fun n acc=>acc++((h.2.2.drop n).map entT).flatten) (fun n acc=>acc.length≤21+43 * n)
  (fun rec n acc hn ha ih=>by
   rcases κ2 n h.2.2.length with h1 | h1
   ·have hw:=φM (show n+1<9223372036854775808 by omega)
    have hk:=k2 _ (gM h1)
    have he:=φBF hk
    have ih:=ih (acc++entT h.2.2[n]) h1 (by rw[lA];omega)
    have e1:ψ1w.f [h.2.2[n].2.1,h.2.2[n].2.2.1,h.2.2[n].2.2.2.1,h.2.2[n].2.2.2.2]=some (varT h.2.2[n].2.1++varT h.2.2[n].2.2.1++varT h.2.2[n].2.2.2.1++varT h.2.2[n].2.2.2.2):=by
     rw[φ7i _ (by simp)];simp
    have e2:(varT (h.2.2[n].1.length:Int)++h.2.2[n].1)++(varT h.2.2[n].2.1++varT h.2.2[n].2.2.1++varT h.2.2[n].2.2.2.1++varT h.2.2[n].2.2.2.2)=entT h.2.2[n]:=by
     unfold entT;simp only[aA]
    have e3:(varT (h.2.2[n].1.length:Int)++h.2.2[n].1).length+(varT h.2.2[n].2.1++varT h.2.2[n].2.2.1++varT h.2.2[n].2.2.2.1++varT h.2.2[n].2.2.2.2).length≤1000000000000000:=by
     rw[←lA,e2];omega
    simp only[ψz.l0,oL,h1,dT,cT,φF,φJ,φ9 h1,φ76 h.2.2[n].1 (show h.2.2[n].1.length<2 ^ 62 by omega),e1,bS,φ1K e3,e2,φ1K (show acc.length+(entT h.2.2[n]).length≤1000000000000000 by omega),hw,ih]
    rw[dG h1,κ5,List.flatten_cons,aA]
   ·have:n=h.2.2.length:=by omega
    subst this
    simp[ψz.l0])
  (by omega) 0 (varT h.1++varT h.2.1++varT (h.2.2.length:Int)) (κ4 _) (by simp only[lA];omega)
 have key:lp ψz.l0 (varT h.1++varT h.2.1++varT (h.2.2.length:Int),h.2.2,(h.2.2.length:Int),0)=some (φ1w h):=by rw[show (0:Int)=((0:Nat):Int) from rfl,key];rfl
 simp only[k,nZ,cF,e0,bS,key,φAz (φ1w h) (by omega),φBq,φ1K (show (fix4 (crcT (φ1w h))).length+(φ1w h).length≤1000000000000000 by omega),cT,κ9,if_false]
theorem φKf (h:φ1H) (hl:h.2.2.length<1000000000):ψ2w.f h=some (φ1U h):=by
 unfold ψ2w.f φ1U
 rw[φIl h hl,bS]
 rcases bE (φ2c h) with k | k
 rotate_left
 ·simp[k]
 obtain ⟨k1,k2⟩:=φAH k
 have hB:=φ8i k
 have hf:=φ4Y (crcT (φ1w h))
 have hr:=φ59 (φ1w h)
 have v1:=φl h.1
 have v2:=φl h.2.1
 have v3:=φl (h.2.2.length:Int)
 have key:=φg (step:=ψ2w.l0) (fun n (acc:List UInt8)=>(h,acc,(n:Int))) h.2.2.length (fun n acc=>acc++((h.2.2.drop n).map entT).flatten) (fun n acc=>acc.length≤21+43 * n)
  (fun rec n acc hn ha ih=>by
   rcases κ2 n h.2.2.length with h1 | h1
   ·have hw:=φM (show n+1<9223372036854775808 by omega)
    have hk:=k2 _ (gM h1)
    have he:=φBF hk
    have ih:=ih (acc++entT h.2.2[n]) h1 (by rw[lA];omega)
    have w1:=φl (h.2.2[n].1.length:Int)
    have w2:=φl h.2.2[n].2.1
    have w3:=φl h.2.2[n].2.2.1
    have w4:=φl h.2.2[n].2.2.2.1
    have w5:=φl h.2.2[n].2.2.2.2
    have e2:acc++varT (h.2.2[n].1.length:Int)++h.2.2[n].1++varT h.2.2[n].2.1++varT h.2.2[n].2.2.1++varT h.2.2[n].2.2.2.1++varT h.2.2[n].2.2.2.2=acc++entT h.2.2[n]:=by
     unfold entT;simp only[aA]
    simp only[ψ2w.l0,oL,h1,dT,cT,φF,φJ,φ9 h1,φ4s,bS,
     φ1K (show acc.length+(varT (h.2.2[n].1.length:Int)).length≤1000000000000000 by omega),
     φ1K (show (acc++varT (h.2.2[n].1.length:Int)).length+h.2.2[n].1.length≤1000000000000000 by simp only[lA];omega),
     φ1K (show (acc++varT (h.2.2[n].1.length:Int)++h.2.2[n].1).length+(varT h.2.2[n].2.1).length≤1000000000000000 by simp only[lA];omega),
     φ1K (show (acc++varT (h.2.2[n].1.length:Int)++h.2.2[n].1++varT h.2.2[n].2.1).length+(varT h.2.2[n].2.2.1).length≤1000000000000000 by simp only[lA];omega),
     φ1K (show (acc++varT (h.2.2[n].1.length:Int)++h.2.2[n].1++varT h.2.2[n].2.1++varT h.2.2[n].2.2.1).length+(varT h.2.2[n].2.2.2.1).length≤1000000000000000 by simp only[lA];omega),
     φ1K (show (acc++varT (h.2.2[n].1.length:Int)++h.2.2[n].1++varT h.2.2[n].2.1++varT h.2.2[n].2.2.1++varT h.2.2[n].2.2.2.1).length+(varT h.2.2[n].2.2.2.2).length≤1000000000000000 by simp only[lA];omega),e2,hw,ih]
    rw[dG h1,κ5,List.flatten_cons,aA]
   ·have:n=h.2.2.length:=by omega
    subst this
    simp[ψ2w.l0])
  (by omega) 0 (varT h.1++varT h.2.1++varT (h.2.2.length:Int)) (κ4 _) (by simp only[lA];omega)
 have key:lp ψ2w.l0 (h,varT h.1++varT h.2.1++varT (h.2.2.length:Int),0)=some (φ1w h):=by rw[show (0:Int)=((0:Nat):Int) from rfl,key];rfl
 simp only[k,nZ,cF,φ4s,φ1K (show (varT h.1).length+(varT h.2.1).length≤1000000000000000 by omega),φ1K (show (varT h.1++varT h.2.1).length+(varT (h.2.2.length:Int)).length≤1000000000000000 by simp only[lA];omega),bS,key,φAa (φ1w h) (by omega),φAY _ (show crcT (φ1w h)<9223372036854775808 by omega),φ1K (show (fix4 (crcT (φ1w h))).length+(φ1w h).length≤1000000000000000 by omega),cT,κ9,if_false]
abbrev φG:=Int×φ1p
theorem φHL (id:Int) (l:List φ1p) (hl:l.length<1000000000):ψ1f.f id l=some (l.map fun x=>((id,x):φG)):=by
 have key:=φg (step:=ψ1f.l0) (fun n (acc:List φG)=>(id,acc,l,(l.length:Int),(n:Int))) l.length (fun n acc=>acc++(l.drop n).map fun x=>((id,x):φG)) (fun n acc=>acc.length=n)
  (fun rec n acc hn ha ih=>by
   rcases κ2 n l.length with h | h
   ·have hw:=φM (show n+1<9223372036854775808 by omega)
    have hb:∀{α:Type} (x:α),decide ((acc.length+[x].length) * 88≤140737488355328)=true:=fun x=>decide_eq_true (by show (acc.length+1) * 88≤_;omega)
    have ih:=ih (acc++[(id,l[n])]) h (by rw[lA,ha];rfl)
    simp only[ψ1f.l0,oL,h,dT,cT,φF,φJ,φ9 h,hb,hw,ih]
    rw[dG h,κ5,aA];rfl
   ·have:n=l.length:=by omega
    subst this
    simp[ψ1f.l0])
  (by omega) 0 [] (κ4 _) rfl
 have key:lp ψ1f.l0 (id,[],l,(l.length:Int),0)=_:=key
 unfold ψ1f.f
 rw[key,bS]
 simp
def φ3e (r:RecT) (l:List RecT):Bool:=(r.2.2.2.2.1==(l.length:Int)) && (r.2.2.2.2.2==φ1i l)
theorem φGD (r:RecT) (l:List φG) (hl:l.length<1000000000):ψ1U.f r l=some (φ3e r (l.map (·.2.2.2))):=by
 have key:=φg (step:=ψ1U.l0) (fun n (acc:List RecT)=>(r,acc,l,(l.length:Int),(n:Int))) l.length (fun n acc=>(r,acc++(l.drop n).map (·.2.2.2))) (fun n acc=>acc.length=n)
  (fun rec n acc hn ha ih=>by
   rcases κ2 n l.length with h | h
   ·have hw:=φM (show n+1<9223372036854775808 by omega)
    have hb:∀{α:Type} (x:α),decide ((acc.length+[x].length) * 64≤140737488355328)=true:=fun x=>decide_eq_true (φ7d (by omega))
    have ih:=ih (acc++[l[n].2.2.2]) h (by rw[lA,ha];rfl)
    simp only[ψ1U.l0,oL,h,dT,cT,φF,φJ,φ9 h,hb,hw,ih]
    rw[dG h,κ5,aA];rfl
   ·have:n=l.length:=by omega
    subst this
    simp[ψ1U.l0])
  (by omega) 0 [] (κ4 _) rfl
 have key:lp ψ1U.l0 (r,[],l,(l.length:Int),0)=_:=key
 unfold ψ1U.f φ3e
 rw[key,bS,κC,κ8]
 simp only[φCK (l.map (·.2.2.2)) (by rw[lM];omega),bS]
 cases (r.2.2.2.2.1==((l.map (·.2.2.2)).length:Int))<;>rfl
abbrev φ2M:φ1p:=(0,0,0,0,[],[],0,0)
def entS (id:Int) (x:φ1p):φC:=(x.2.2.2.2.1,id,x.1,x.2.1,x.2.2.2.1)
def φ2j (mark:Int):Option (List UInt8)→List φ1p→Bool
 | _,[]=>true
 | p,x::r=>(x.2.2.1==4) && (!decide (x.2.2.2.1 > mark) && ((match p with | none=>true | some q=>Op.bytesLess q x.2.2.2.2.1) && φ2j mark (some x.2.2.2.2.1) r))
def φ7k (l:List φ1p):Nat→Option (List UInt8)
 | 0=>none
 | n+1=>some (l.getD n φ2M).2.2.2.2.1
theorem φ9J (l:List φ1p) (n:Nat) (h:n<l.length):φ7k l (n+1)=some l[n].2.2.2.2.1:=by
 show some (l.getD n φ2M).2.2.2.2.1=_
 rw[φ9 h]
theorem φIb (id e mark:Int) (l:List φ1p) (k:Nat) (hk:k≤l.length) (hl:l.length<1000000000) :
  lp ψW.l0 (id,(0,0,[]),l,(e,mark,[]),l.take k,((l.take k).length:Int),0)=some (if φ2j mark none (l.take k)=true then .inl ((0,0,[]),(e,mark,(l.take k).map (entS id))) else .inr ((0,0,[]),false)):=by
 have hlen:(l.take k).length=k:=by rw[lT];omega
 have key:=φg (step:=ψW.l0) (fun n (acc:List φC)=>(id,(0,0,[]),l,(e,mark,acc),l.take k,((l.take k).length:Int),(n:Int))) k (fun n acc=>if φ2j mark (φ7k l n) ((l.take k).drop n)=true then .inl ((0,0,[]),(e,mark,acc++((l.take k).drop n).map (entS id))) else .inr ((0,0,[]),false)) (fun n acc=>acc.length=n)
  (fun rec n acc hn ha ih=>by
   rcases κ2 n k with h | h
   ·have hw:=φM (show n+1<9223372036854775808 by omega)
    have h1:n<(l.take k).length:=by omega
    have h2:n<l.length:=by omega
    have hx:(l.take k)[n]=l[n]:=List.getElem_take
    have hb:∀{α:Type} (x:α),decide ((acc.length+[x].length) * 48≤140737488355328)=true:=fun x=>decide_eq_true (φ55 (by omega))
    have ih:=ih (acc++[entS id l[n]]) h (by rw[lA,ha];rfl)
    rw[φ9J l n h2] at ih
    rw[dG h1,hx]
    simp only[φ2j,ψW.l0,oL,h1,dT,cT,φF,φJ,φ9 h1,hx]
    rcases bE (l[n].2.2.1==4) with k1 | k1
    rotate_left
    ·simp only[bne,k1,nF,cT,bS,φp,κD,κ3,if_false]
    rcases bE (decide (l[n].2.2.2.1 > mark)) with k2 | k2
    ·simp only[bne,k1,k2,nZ,nF,cF,cT,bS,φp,κD,tA,κ3,if_false]
    simp only[bne,k1,k2,nZ,nF,cF,tA,κ5]
    cases n with
    | zero=>
     have z:¬((0:Nat):Int) > 0:=by omega
     simp only[z,dF,cF,bS,φf,hb,cT,hw,φ7k,tA]
     rw[show acc++entS id l[0]::List.map (entS id) (List.drop (0+1) (List.take k l))=acc++[entS id l[0]]++List.map (entS id) (List.drop (0+1) (List.take k l)) by rw[aA];rfl]
     exact ih
    | succ m=>
     have z:((m+1:Nat):Int) > 0:=by omega
     have hm:m<l.length:=by omega
     have z2:w64 (((m+1:Nat):Int) - 1)=(m:Int):=by rw[φI (by omega) (by omega)];omega
     rw[φ9J l m hm]
     simp only[z,dT,cT,z2,φF,hm,φJ,φ9 hm]
     rcases bE (Op.bytesLess l[m].2.2.2.2.1 l[m+1].2.2.2.2.1) with k3 | k3
     ·simp only[k3,nZ,cF,bS,φf,hb,cT,hw,tA]
      rw[show acc++entS id l[m+1]::List.map (entS id) (List.drop (m+1+1) (List.take k l))=acc++[entS id l[m+1]]++List.map (entS id) (List.drop (m+1+1) (List.take k l)) by rw[aA];rfl]
      exact ih
     ·simp only[k3,nF,cT,bS,φp,κD,κ3,if_false]
   ·have:n=k:=by omega
    subst this
    have hd:(l.take n).drop n=[]:=by rw[List.drop_eq_nil_iff];omega
    rw[hd]
    simp[ψW.l0,φ2j,hlen])
  (by omega) 0 [] (κ4 _) rfl
 have key:lp ψW.l0 (id,(0,0,[]),l,(e,mark,[]),l.take k,((l.take k).length:Int),0)=_:=key
 rw[key,κC,κ8];rfl
end Go.Rf.G
