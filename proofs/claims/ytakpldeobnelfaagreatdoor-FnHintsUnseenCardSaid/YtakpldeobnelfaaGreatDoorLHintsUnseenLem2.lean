import Derived.Test.YtakpldeobnelfaaGreatDoorLHintsUnseenLem1
namespace Go.Rf.G
open Go Go.Rf
set_option linter.unusedVariables false
set_option linter.unusedSimpArgs false
set_option synthInstance.maxSize 4000
theorem impl_ReadFixed_eq (s:List UInt8) (hl:s.length<2 ^ 62):ψW.f s 4=some (readFix4 s):=by
 unfold ψW.f readFix4
 have h0:decide ((1:Int)≤4∧(4:Int)≤7)=true:=by decide
 simp only[impl_in_eq,Option.bind_some,h0,Bool.not_true,cond_false]
 by_cases c:s.length<4
 ·have c1:(s.length:Int)<4:=by omega
  simp[c,c1]
 have c1:¬(s.length:Int)<4:=by omega
 have key:=lp_up (step:=ψW.l0) (fun n (_:Unit)=>(s,((fixR (s.take n):Nat):Int),4,(n:Int))) 4 (fun _ _=>((fixR (s.take 4):Nat):Int)) (fun _ _=>True)
  (fun rec n a hn _ ih=>by
   rcases Nat.lt_or_ge n 4 with h | h
   ·have h4:(n:Int)<4:=by omega
    have hs:n<s.length:=by omega
    have hx:=s[n].toNat_lt
    have hlt:fixR (s.take n)<256 ^ 3:=Nat.lt_of_lt_of_le (fixR_lt _) (Nat.pow_le_pow_right (by omega) (by rw[List.length_take];omega))
    have hlt:fixR (s.take n)<16777216:=hlt
    have e1:w64 (((fixR (s.take n):Nat):Int) * 2 ^ (min 8 64))=((fixR (s.take n) * 256:Nat):Int):=by
     show w64 (((fixR (s.take n):Nat):Int) * 256)=_
     rw[w64_id (by omega) (by omega)];omega
    have e2:w64 (bAt s (n:Int))=((s[n].toNat:Nat):Int):=by rw[bAt_nat s n hs];exact w64_nat (by omega)
    have e3:=or64 (fixR (s.take n)) s[n].toNat (by omega) (by omega)
    rw[←fixR_take_succ s n hs] at e3
    simp only[ψW.l0,h4,decide_true,cond_true,inB_nat,hs,e1,e2,e3,w64_succ (show n+1<9223372036854775808 by omega),ih () h trivial]
   ·have:n=4:=by omega
    subst this
    simp[ψW.l0])
  (by omega) 0 () (Nat.zero_le _) trivial
 have key:lp ψW.l0 (s,0,4,0)=_:=key
 simp only[c,c1,decide_false,cond_false,key,Option.bind_some,if_false]
def unframe (s:List UInt8):List UInt8×Int:=
 if s.length<4 then ([],0) else
 match rvT 7 true (s.drop 4) with
 | none=>([],0)
 | some (n,k)=>if 200<n∨s.length<4+k+n then ([],0) else
  if frame ((s.take (4+k+n)).drop (4+k))=s.take (4+k+n) then ((s.take (4+k+n)).drop (4+k),((4+k+n:Nat):Int)) else ([],0)
theorem impl_Unframe_eq (s:List UInt8) (hl:s.length<1000000000000):ψv.f s=some (unframe s):=by
 unfold ψv.f unframe
 by_cases c:s.length<4
 ·have c1:(s.length:Int)<4:=by omega
  simp[c,c1]
 have c1:¬(s.length:Int)<4:=by omega
 have c2:(decide (0≤(4:Int)) && decide ((4:Int)≤(s.length:Int)))=true:=by simp;omega
 have hd:(s.drop 4).length<2 ^ 62:=by rw[List.length_drop];omega
 simp only[c,c1,decide_false,cond_false,c2,cond_true,impl_ReadVar_eq (s.drop 4) hd,Option.bind_some,if_false]
 unfold readVar
 cases hr:rvT 7 true (s.drop 4) with
 | none=>simp
 | some p=>
  obtain ⟨n,k⟩:=p
  obtain ⟨q1,q2,q3,q4,q5⟩:=rvT_some 7 true (s.drop 4) n k hr
  have q5:n<562949953421312:=q5
  rw[List.length_drop] at q3
  have d1:(((k:Nat):Int)==0)=false:=by simp;omega
  simp only[d1,cond_false]
  by_cases c3:200<n
  ·have c4:((n:Nat):Int) > 200:=by omega
   simp[c3,c4]
  have c4:¬((n:Nat):Int) > 200:=by omega
  have e1:w64 (w64 ((s.length:Int) - 4) - (k:Int))=(s.length:Int) - 4 - k:=by rw[w64_id (n:=(s.length:Int) - 4) (by omega) (by omega),w64_id (by omega) (by omega)]
  have e2:w64 (4+(k:Int))=((4+k:Nat):Int):=by rw[w64_id (by omega) (by omega)];omega
  have e3:w64 (((4+k:Nat):Int)+(n:Int))=((4+k+n:Nat):Int):=by rw[w64_id (by omega) (by omega)];omega
  by_cases c5:s.length<4+k+n
  ·have c6:((n:Nat):Int) > (s.length:Int) - 4 - k:=by omega
   simp[c3,c4,c5,c6,e1]
  have c6:¬((n:Nat):Int) > (s.length:Int) - 4 - k:=by omega
  have c7:(decide (0≤((4+k+n:Nat):Int)) && decide (((4+k+n:Nat):Int)≤(s.length:Int)))=true:=by simp;omega
  have c8:(decide (0≤((4+k:Nat):Int)) && decide (((4+k:Nat):Int)≤((4+k+n:Nat):Int)))=true:=by simp;omega
  have hl2:((s.take (4+k+n)).drop (4+k)).length<2 ^ 62:=by rw[List.length_drop,List.length_take];omega
  simp only[c3,c4,c5,c6,e1,e2,e3,c7,c8,decide_false,cond_false,cond_true,Int.toNat_natCast,impl_Frame_eq _ hl2,Option.bind_some,or_self,if_false]
  by_cases c9:frame ((s.take (4+k+n)).drop (4+k))=s.take (4+k+n)
  ·have d9:(frame ((s.take (4+k+n)).drop (4+k))==s.take (4+k+n))=true:=by simpa using c9
   simp only[d9,Bool.not_true,cond_false]
   rw[if_pos c9]
  ·have d9:(frame ((s.take (4+k+n)).drop (4+k))==s.take (4+k+n))=false:=by simpa using c9
   simp only[d9,Bool.not_false,cond_true]
   rw[if_neg c9]
theorem spec_Unframe_eq (s:List UInt8) (hl:s.length<1000000000000):ψ2W.f s=some (unframe s):=by
 unfold ψ2W.f unframe
 by_cases c:s.length<5
 ·have c1:(s.length:Int)<5:=by omega
  by_cases c4:s.length<4
  ·simp[c4,c1]
  ·have e:s.drop 4=[]:=by rw[List.drop_eq_nil_iff];omega
   have e2:s.length=4:=by omega
   rcases Nat.lt_or_ge s.length 4 with h | h
   ·exact absurd h c4
   ·have hn:rvT 7 true (s.drop 4)=none:=by
     cases hr:rvT 7 true (s.drop 4) with
     | none=>rfl
     | some p=>
      obtain ⟨n,k⟩:=p
      have q:=rvT_some 7 true (s.drop 4) n k hr
      rw[List.length_drop] at q
      omega
    simp[c4,c1,hn]
 have c4:¬s.length<4:=by omega
 have c1:¬(s.length:Int)<5:=by omega
 have c2:(decide (0≤(4:Int)) && decide ((4:Int)≤(s.length:Int)))=true:=by simp;omega
 have hd:(s.drop 4).length<2 ^ 62:=by rw[List.length_drop];omega
 simp only[c4,c1,decide_false,cond_false,c2,cond_true,spec_ReadVar_eq (s.drop 4) hd,Option.bind_some,if_false]
 unfold readVar
 cases hr:rvT 7 true (s.drop 4) with
 | none=>simp
 | some p=>
  obtain ⟨n,k⟩:=p
  obtain ⟨q1,q2,q3,q4,q5⟩:=rvT_some 7 true (s.drop 4) n k hr
  have q5:n<562949953421312:=q5
  rw[List.length_drop] at q3
  have d1:(((k:Nat):Int)==0)=false:=by simp;omega
  simp only[d1,cond_false]
  by_cases c3:200<n
  ·have c4:((n:Nat):Int) > 200:=by omega
   simp[c3,c4]
  have c4:¬((n:Nat):Int) > 200:=by omega
  have e1:w64 (w64 ((s.length:Int) - 4) - (k:Int))=(s.length:Int) - 4 - k:=by rw[w64_id (n:=(s.length:Int) - 4) (by omega) (by omega),w64_id (by omega) (by omega)]
  have e2:w64 (4+(k:Int))=((4+k:Nat):Int):=by rw[w64_id (by omega) (by omega)];omega
  have e3:w64 (((4+k:Nat):Int)+(n:Int))=((4+k+n:Nat):Int):=by rw[w64_id (by omega) (by omega)];omega
  by_cases c5:s.length<4+k+n
  ·have c6:((n:Nat):Int) > (s.length:Int) - 4 - k:=by omega
   simp[c3,c4,c5,c6,e1]
  have c6:¬((n:Nat):Int) > (s.length:Int) - 4 - k:=by omega
  have c7:(decide (0≤((4+k+n:Nat):Int)) && decide (((4+k+n:Nat):Int)≤(s.length:Int)))=true:=by simp;omega
  have c8:(decide (0≤((4+k:Nat):Int)) && decide (((4+k:Nat):Int)≤((4+k+n:Nat):Int)))=true:=by simp;omega
  have hl2:((s.take (4+k+n)).drop (4+k)).length<2 ^ 62:=by rw[List.length_drop,List.length_take];omega
  simp only[c3,c4,c5,c6,e1,e2,e3,c7,c8,decide_false,cond_false,cond_true,Int.toNat_natCast,spec_Frame_eq _ hl2,Option.bind_some,or_self,if_false]
  by_cases c9:frame ((s.take (4+k+n)).drop (4+k))=s.take (4+k+n)
  ·have d9:(s.take (4+k+n)==frame ((s.take (4+k+n)).drop (4+k)))=true:=by simpa using c9.symm
   simp only[d9,Bool.not_true,cond_false]
   rw[if_pos c9]
  ·have d9:(s.take (4+k+n)==frame ((s.take (4+k+n)).drop (4+k)))=false:=by simpa using fun e=>c9 e.symm
   simp only[d9,Bool.not_false,cond_true]
   rw[if_neg c9]
abbrev ScanT:=List UInt8×Bool
def numIn (n:Int):Prop:=0≤n∧n≤562949953421311
theorem varT_in {n:Int} (h:numIn n):∃m:Nat,n=(m:Int)∧m<562949953421312∧varT n=varN m:=by
 unfold numIn at h
 obtain ⟨m,rfl⟩:∃m:Nat,n=(m:Int):=⟨n.toNat,by omega⟩
 exact ⟨m,rfl,by omega,varT_nat m (by omega)⟩
theorem readVar_back {n:Int} (h:numIn n) (r:List UInt8):readVar (varT n++r)=(n,((varT n).length:Int))∧1≤(varT n).length:=by
 obtain ⟨m,rfl,hm,e⟩:=varT_in h
 rw[e]
 have hb:=rvT_back 7 true m r hm (by simp) (by omega)
 unfold readVar
 rw[hb]
 exact ⟨rfl,(varN_len 6 m hm).1⟩
theorem num_back {n:Int} (h:numIn n) (r:List UInt8) (hl:(varT n++r).length<2 ^ 62):ψ1B.f (varT n++r,false)=some (n,(r,false)):=by
 obtain ⟨h1,h2⟩:=readVar_back h r
 have d:((((varT n).length:Nat):Int)==0)=false:=by simp;intro e;rw[e] at h2;simp at h2
 have c:(decide (0≤(((varT n).length:Nat):Int)) && decide ((((varT n).length:Nat):Int)≤((varT n++r).length:Int)))=true:=by
  rw[List.length_append];simp;omega
 unfold ψ1B.f
 simp only[impl_ReadVar_eq _ hl,h1,Option.bind_some,cond_false,d,c,cond_true,Int.toNat_natCast,List.drop_left]
theorem num_cases (s:List UInt8) (hl:s.length<2 ^ 62):(∃n r,ψ1B.f (s,false)=some (n,(r,false))∧s=varT n++r∧numIn n)∨ψ1B.f (s,false)=some (0,(s,true)):=by
 rcases readVar_cases s with h | ⟨n,k,_,h,h1,h2,h3,h4,h5⟩
 ·right
  unfold ψ1B.f
  simp only[impl_ReadVar_eq s hl,h,Option.bind_some,cond_false,show ((0:Int)==0)=true from rfl,cond_true]
 ·left
  have hn:numIn (n:Int):=⟨by omega,by omega⟩
  have e:s=varT (n:Int)++s.drop k:=by rw[varT_nat n (by omega),←h4,List.take_append_drop]
  have hb:=num_back hn (s.drop k) (by rw[←e];exact hl)
  rw[←e] at hb
  exact ⟨(n:Int),s.drop k,hb,e,hn⟩
theorem num_bad (s:List UInt8) (hl:s.length<2 ^ 62):ψ1B.f (s,true)=some (0,(s,true)):=by
 unfold ψ1B.f
 simp only[impl_ReadVar_eq s hl,Option.bind_some,cond_true]
theorem bytes_back (t r:List UInt8):ψ1A.f (t++r,false) (t.length:Int)=some (t,(r,false)):=by
 unfold ψ1A.f
 have c1:¬((t.length:Nat):Int) > ((t++r).length:Int):=by rw[List.length_append];omega
 have c2:(decide (0≤((t.length:Nat):Int)) && decide (((t.length:Nat):Int)≤((t++r).length:Int)))=true:=by rw[List.length_append];simp;omega
 simp only[cond_false,c1,decide_false,c2,cond_true,Int.toNat_natCast,List.take_left,List.drop_left]
theorem bytes_cases (s:List UInt8) (n:Int) (hn:0≤n):(∃t r,ψ1A.f (s,false) n=some (t,(r,false))∧s=t++r∧(t.length:Int)=n)∨ψ1A.f (s,false) n=some ([],(s,true)):=by
 by_cases c:n > (s.length:Int)
 ·right
  unfold ψ1A.f
  simp only[cond_false,c,decide_true,cond_true]
 ·left
  have hl:((s.take n.toNat).length:Int)=n:=by rw[List.length_take];omega
  have:=bytes_back (s.take n.toNat) (s.drop n.toNat)
  rw[List.take_append_drop,hl] at this
  exact ⟨_,_,this,(List.take_append_drop _ _).symm,hl⟩
theorem bytes_bad (s:List UInt8) (n:Int):ψ1A.f (s,true) n=some ([],(s,true)):=by
 unfold ψ1A.f
 simp only[cond_true]
theorem text_back (t r:List UInt8) (ht:numIn (t.length:Int)) (hl:(varT (t.length:Int)++(t++r)).length<2 ^ 62):ψ1C.f (varT (t.length:Int)++(t++r),false)=some (t,(r,false)):=by
 unfold ψ1C.f
 simp only[num_back ht (t++r) hl,Option.bind_some,bytes_back]
theorem text_cases (s:List UInt8) (hl:s.length<2 ^ 62):(∃t r,ψ1C.f (s,false)=some (t,(r,false))∧s=varT (t.length:Int)++(t++r)∧numIn (t.length:Int))∨∃r,ψ1C.f (s,false)=some ([],(r,true))∧r.length≤s.length:=by
 unfold ψ1C.f
 rcases num_cases s hl with ⟨n,r,e,es,hn⟩ | e
 ·rw[e,Option.bind_some]
  rcases bytes_cases r n hn.1 with ⟨t,r2,e2,es2,ht⟩ | e2
  ·left
   refine ⟨t,r2,by simp only[e2,Option.bind_some],?_,by rw[ht];exact hn⟩
   rw[ht,←es2];exact es
  ·right
   refine ⟨r,by simp only[e2,Option.bind_some],?_⟩
   rw[es,List.length_append];omega
 ·right
  refine ⟨s,?_,Nat.le_refl _⟩
  rw[e,Option.bind_some]
  simp only[bytes_bad,Option.bind_some]
theorem text_bad (s:List UInt8) (hl:s.length<2 ^ 62):ψ1C.f (s,true)=some ([],(s,true)):=by
 unfold ψ1C.f
 simp only[num_bad s hl,Option.bind_some,bytes_bad]
theorem l5Text_back (t r:List UInt8) (ht:numIn (t.length:Int)) (hl:(varT (t.length:Int)++(t++r)).length<1000000000000000):ψ3C.f (varT (t.length:Int)++(t++r))=some (t,r,true):=by
 obtain ⟨h1,h2⟩:=readVar_back ht (t++r)
 have h3:=varT_len (t.length:Int)
 rw[List.length_append,List.length_append] at hl
 unfold ψ3C.f
 rw[spec_ReadVar_eq _ (by rw[List.length_append,List.length_append];omega),h1,Option.bind_some]
 generalize varT (t.length:Int)=v at *
 have d:(((v.length:Nat):Int)==0)=false:=by simp;intro e;rw[e] at h2;simp at h2
 have e1:w64 (((v++(t++r)).length:Int) - ((v.length:Nat):Int))=((t.length+r.length:Nat):Int):=by rw[List.length_append,List.length_append,w64_id (by omega) (by omega)];omega
 have c1:¬((t.length:Nat):Int) > ((t.length+r.length:Nat):Int):=by omega
 have e2:w64 (((v.length:Nat):Int)+((t.length:Nat):Int))=(((v++t).length:Nat):Int):=by rw[List.length_append,w64_id (by omega) (by omega)];omega
 have c2:(decide (0≤(((v++t).length:Nat):Int)) && decide ((((v++t).length:Nat):Int)≤((v++(t++r)).length:Int)))=true:=by simp;omega
 have c3:(decide (0≤((v.length:Nat):Int)) && decide (((v.length:Nat):Int)≤(((v++t).length:Nat):Int)))=true:=by simp;omega
 have e3:(v++(t++r)).take (v++t).length=v++t:=by rw[←List.append_assoc,List.take_left]
 have e4:(v++(t++r)).drop (v++t).length=r:=by rw[←List.append_assoc,List.drop_left]
 simp only[d,cond_false,e1,c1,decide_false,e2,c2,c3,cond_true,Int.toNat_natCast,e3,e4,List.drop_left]
theorem l5Text_tot (s:List UInt8) (hl:s.length<1000000000000000):∃t r b,ψ3C.f s=some (t,r,b)∧t.length≤s.length∧r.length≤s.length:=by
 rcases readVar_cases s with h | ⟨n,k,_,h,h1,h2,h3,h4,h5⟩
 ·refine ⟨[],[],false,?_,by simp,by simp⟩
  unfold ψ3C.f
  simp only[spec_ReadVar_eq s (by omega),h,Option.bind_some,show ((0:Int)==0)=true from rfl,cond_true]
 ·by_cases c:s.length<k+n
  ·refine ⟨[],[],false,?_,by simp,by simp⟩
   have d:(((k:Nat):Int)==0)=false:=by simp;omega
   have e1:w64 ((s.length:Int) - (k:Int))=(s.length:Int) - k:=w64_id (by omega) (by omega)
   have c1:((n:Nat):Int) > (s.length:Int) - k:=by omega
   unfold ψ3C.f
   simp only[spec_ReadVar_eq s (by omega),h,Option.bind_some,d,cond_false,e1,c1,decide_true,cond_true]
  ·have hn:numIn (n:Int):=⟨by omega,by omega⟩
   have ht:(((s.drop k).take n).length:Int)=n:=by rw[List.length_take,List.length_drop];omega
   have e:s=varT (((s.drop k).take n).length:Int)++((s.drop k).take n++(s.drop k).drop n):=by
    rw[ht,varT_nat n (by omega),←h4,List.take_append_drop,List.take_append_drop]
   have hb:=l5Text_back ((s.drop k).take n) ((s.drop k).drop n) (by rw[ht];exact hn) (by rw[←e];exact hl)
   rw[←e] at hb
   exact ⟨_,_,_,hb,by rw[List.length_take,List.length_drop];omega,by rw[List.length_drop,List.length_drop];omega⟩
def isRec (s:List UInt8) (r:RecT):Prop:=recOk r=true∧showRec r=s
theorem rec_in {r:RecT} (h:recOk r=true):numIn r.1∧numIn r.2.1∧(r.1=1∨r.1=4→r.2.2.1.length≤8∧r.2.2.2.1.length≤24∧r.2.2.2.2.1=0∧r.2.2.2.2.2=0) ∧
  (r.1=2→r.2.2.1.length≤8∧r.2.2.2.1=[]∧r.2.2.2.2.1=0∧r.2.2.2.2.2=0) ∧
  (¬(r.1=1∨r.1=4)→¬r.1=2→r.2.2.1=[]∧r.2.2.2.1=[]∧numIn r.2.2.2.2.1∧0≤r.2.2.2.2.2∧r.2.2.2.2.2≤4294967295):=by
 obtain ⟨k,b,ky,v,c,s⟩:=r
 unfold recOk keyOk at h
 simp only[Bool.and_eq_true,decide_eq_true_eq] at h
 obtain ⟨⟨h1,_⟩,h⟩:=h
 unfold numIn
 simp only
 by_cases c1:k=1∨k=4
 ·rw[if_pos c1] at h
  simp only[Bool.and_eq_true,decide_eq_true_eq,beq_iff_eq] at h
  exact ⟨by omega,by omega,fun _=>by omega,fun e=>by omega,fun e=>absurd c1 e⟩
 rw[if_neg c1] at h
 by_cases c2:k=2
 ·rw[if_pos c2] at h
  simp only[Bool.and_eq_true,decide_eq_true_eq,beq_iff_eq] at h
  exact ⟨by omega,by omega,fun e=>absurd e c1,fun _=>⟨by omega,h.2.1,h.2.2⟩,fun _ e=>absurd c2 e⟩
 rw[if_neg c2] at h
 by_cases c3:k=3
 ·rw[if_pos c3] at h
  simp only[Bool.and_eq_true,decide_eq_true_eq,beq_iff_eq] at h
  exact ⟨by omega,by omega,fun e=>absurd e c1,fun e=>absurd e c2,fun _ _=>⟨h.1,h.2.1,by omega,by omega,by omega⟩⟩
 rw[if_neg c3] at h
 by_cases c5:k=5
 ·rw[if_pos c5] at h
  simp only[Bool.and_eq_true,decide_eq_true_eq,beq_iff_eq] at h
  exact ⟨by omega,by omega,fun e=>absurd e c1,fun e=>absurd e c2,fun _ _=>⟨h.1,h.2.1,by omega,by omega,by omega⟩⟩
 ·rw[if_neg c5] at h;simp at h
theorem fix4_len4 {n:Int} (h:0≤n∧n≤4294967295):(fix4 n).length=4:=by
 unfold fix4;rw[if_pos h,fixL_len]
theorem readFix4_back {n:Int} (h:0≤n∧n≤4294967295) (r:List UInt8):readFix4 (fix4 n++r)=(n,true):=by
 have hl:=fix4_len4 h
 unfold readFix4
 rw[if_neg (by rw[List.length_append];omega)]
 have e:(fix4 n++r).take 4=fix4 n:=by rw[←hl,List.take_left]
 rw[e]
 unfold fix4
 rw[if_pos h,fixR_L 4 n.toNat (by show _<4294967296;omega)]
 congr 1;omega
theorem fix4_read (t:List UInt8) (h:t.length=4):fix4 (readFix4 t).1=t∧0≤(readFix4 t).1∧(readFix4 t).1≤4294967295:=by
 have hlt:=fixR_lt t
 rw[h] at hlt
 have hlt:fixR t<4294967296:=hlt
 unfold readFix4
 rw[if_neg (by omega),show t.take 4=t by rw[←h,List.take_length]]
 refine ⟨?_,by simp only;omega,by simp only;omega⟩
 unfold fix4
 rw[if_pos (by simp only;omega)]
 show fixL ((fixR t:Nat):Int).toNat 4=t
 rw[Int.toNat_natCast,←h,fixL_R]
theorem kind_eq (k:Int) {α β γ:Type} (x:α) (y:β) (z:γ):(bif k==1 then some (x,y,z,k,k==1) else some (x,y,z,k,k==4))=some (x,y,z,k,decide (k=1∨k=4)):=by
 by_cases c1:k=1
 ·subst c1;rfl
 ·have b1:(k==1)=false:=by simpa using c1
  rw[b1,cond_false]
  by_cases c4:k=4
  ·subst c4;rfl
  ·have b4:(k==4)=false:=by simpa using c4
   rw[b4,decide_eq_false (by omega)]
theorem kind_eq4 (k:Int) {α β γ δ:Type} (x:α) (y:β) (z:γ) (u:δ):(bif k==1 then some (x,y,z,u,k,k==1) else some (x,y,z,u,k,k==4))=some (x,y,z,u,k,decide (k=1∨k=4)):=by
 by_cases c1:k=1
 ·subst c1;rfl
 ·have b1:(k==1)=false:=by simpa using c1
  rw[b1,cond_false]
  by_cases c4:k=4
  ·subst c4;rfl
  ·have b4:(k==4)=false:=by simpa using c4
   rw[b4,decide_eq_false (by omega)]
theorem app3 {a b c:List UInt8} {n:Nat} (h:(a++(b++c)).length≤n):(b++c).length≤n∧c.length≤n:=by simp only[List.length_append] at h ⊢;omega
theorem app2 {a b:List UInt8} {n:Nat} (h:(a++b).length≤n):b.length≤n:=by simp only[List.length_append] at h;omega
theorem lt15 {a:List UInt8} (h:a.length≤60):a.length<1000000000000000:=by omega
theorem lt62 {a:List UInt8} (h:a.length≤60):a.length<2 ^ 62:=by omega
def zeroRec:RecT:=(0,0,[],[],0,0)
theorem impl_ReadRec_back {s:List UInt8} {r:RecT} (h:isRec s r):ψZ.f s=some (r,true):=by
 obtain ⟨hok,rfl⟩:=h
 have hl:=showRec_len r
 obtain ⟨i1,i2,i3,i4,i5⟩:=rec_in hok
 have hok2:¬recOk r=false:=by rw[hok];simp
 obtain ⟨k,b,ky,v,c,sm⟩:=r
 simp only at i1 i2 i3 i4 i5
 by_cases c1:k=1∨k=4
 ·obtain ⟨j1,j2,rfl,rfl⟩:=i3 c1
  have es:showRec (k,b,ky,v,0,0)=varT k++(varT b++(varT (ky.length:Int)++(ky++(varT (v.length:Int)++(v++[]))))):=by
   unfold showRec;rw[if_neg hok2,if_pos c1];simp[List.append_assoc]
  rw[es] at hl ⊢
  have x2:=text_back v [] ⟨by omega,by omega⟩ (lt62 (app3 (app3 hl).2).2)
  have x1:=text_back ky (varT (v.length:Int)++(v++[])) ⟨by omega,by omega⟩ (lt62 (app3 hl).2)
  have n2:=num_back i2 (varT (ky.length:Int)++(ky++(varT (v.length:Int)++(v++[])))) (lt62 (app2 hl))
  have n1:=num_back i1 (varT b++(varT (ky.length:Int)++(ky++(varT (v.length:Int)++(v++[]))))) (lt62 hl)
  have hcd:decide (k=1∨k=4)=true:=decide_eq_true c1
  unfold ψZ.f
  simp only[n1,n2,Option.bind_some,kind_eq,hcd,cond_true,x1,x2,cond_false,impl_RecOk_eq,hok,Bool.not_true]
  rfl
 have hcd:decide (k=1∨k=4)=false:=decide_eq_false c1
 by_cases c2:k=2
 ·obtain ⟨j1,rfl,rfl,rfl⟩:=i4 c2
  have es:showRec (k,b,ky,[],0,0)=varT k++(varT b++(varT (ky.length:Int)++(ky++[]))):=by
   unfold showRec;rw[if_neg hok2,if_neg c1,if_pos c2];simp[List.append_assoc]
  rw[es] at hl ⊢
  have x1:=text_back ky [] ⟨by omega,by omega⟩ (lt62 (app3 hl).2)
  have n2:=num_back i2 (varT (ky.length:Int)++(ky++[])) (lt62 (app2 hl))
  have n1:=num_back i1 (varT b++(varT (ky.length:Int)++(ky++[]))) (lt62 hl)
  have b2:(k==2)=true:=by simpa using c2
  unfold ψZ.f
  simp only[n1,n2,Option.bind_some,kind_eq,hcd,b2,cond_true,x1,cond_false,impl_RecOk_eq,hok,Bool.not_true]
  rfl
 ·obtain ⟨rfl,rfl,j3,j4⟩:=i5 c1 c2
  have l4:=fix4_len4 j4
  have es:showRec (k,b,[],[],c,sm)=varT k++(varT b++(varT c++(fix4 sm++[]))):=by
   unfold showRec;rw[if_neg hok2,if_neg c1,if_neg c2];simp[List.append_assoc]
  rw[es] at hl ⊢
  have x1:=bytes_back (fix4 sm) []
  rw[l4] at x1
  have x1:ψ1A.f (fix4 sm++[],false) 4=_:=x1
  have n3:=num_back j3 (fix4 sm++[]) (lt62 (app3 hl).2)
  have n2:=num_back i2 (varT c++(fix4 sm++[])) (lt62 (app2 hl))
  have n1:=num_back i1 (varT b++(varT c++(fix4 sm++[]))) (lt62 hl)
  have b2:(k==2)=false:=by simpa using c2
  have f4:=readFix4_back j4 []
  rw[List.append_nil] at f4
  unfold ψZ.f
  simp only[n1,n2,n3,Option.bind_some,kind_eq,hcd,b2,cond_true,x1,cond_false,impl_RecOk_eq,hok,Bool.not_true,impl_ReadFixed_eq (fix4 sm) (show (fix4 sm).length<2 ^ 62 by omega),f4]
  rfl
theorem spec_ReadRec_back {s:List UInt8} {r:RecT} (h:isRec s r):ψ2D.f s=some (r,true):=by
 obtain ⟨hok,rfl⟩:=h
 have hl:=showRec_len r
 have hsh:=spec_ShowRec_eq r
 obtain ⟨i1,i2,i3,i4,i5⟩:=rec_in hok
 have hok2:¬recOk r=false:=by rw[hok];simp
 obtain ⟨k,b,ky,v,c,sm⟩:=r
 simp only at i1 i2 i3 i4 i5
 have head:∀T:List UInt8,(varT k++(varT b++T)).length≤60→showRec (k,b,ky,v,c,sm)=varT k++(varT b++T) →
   ∃a d:Nat,ψ2E.f (varT k++(varT b++T))=some (k,(a:Int))∧(decide (0≤(a:Int)) && decide ((a:Int)≤((varT k++(varT b++T)).length:Int)))=true∧(varT k++(varT b++T)).drop (a:Int).toNat=varT b++T ∧
    ψ2E.f (varT b++T)=some (b,(d:Int))∧((a:Int)==0)=false∧((d:Int)==0)=false∧(decide (0≤w64 ((a:Int)+(d:Int))) && decide (w64 ((a:Int)+(d:Int))≤((varT k++(varT b++T)).length:Int)))=true ∧
    (varT k++(varT b++T)).drop (w64 ((a:Int)+(d:Int))).toNat=T∧(varT k++(varT b++T)==[])=false:=by
  intro T hT _
  obtain ⟨p1,p2⟩:=readVar_back i1 (varT b++T)
  obtain ⟨q1,q2⟩:=readVar_back i2 T
  have hT2:=hT
  simp only[List.length_append] at hT2
  have ew:w64 (((varT k).length:Int)+((varT b).length:Int))=(((varT k).length+(varT b).length:Nat):Int):=by rw[w64_id (by omega) (by omega)];omega
  refine ⟨(varT k).length,(varT b).length,?_,?_,?_,?_,?_,?_,?_,?_,?_⟩
  ·rw[spec_ReadVar_eq _ (by omega),p1]
  ·simp only[List.length_append];simp;omega
  ·rw[Int.toNat_natCast,List.drop_left]
  ·rw[spec_ReadVar_eq _ (by simp only[List.length_append];omega),q1]
  ·simp;intro e;rw[e] at p2;simp at p2
  ·simp;intro e;rw[e] at q2;simp at q2
  ·rw[ew];simp only[List.length_append];simp;omega
  ·rw[ew,Int.toNat_natCast,←List.append_assoc,←List.length_append,List.drop_left]
  ·cases hv:varT k with
   | nil=>rw[hv] at p2;simp at p2
   | cons x l=>rfl
 by_cases c1:k=1∨k=4
 ·obtain ⟨j1,j2,rfl,rfl⟩:=i3 c1
  have hcd:decide (k=1∨k=4)=true:=decide_eq_true c1
  have es:showRec (k,b,ky,v,0,0)=varT k++(varT b++(varT (ky.length:Int)++(ky++(varT (v.length:Int)++(v++[]))))):=by
   unfold showRec;rw[if_neg hok2,if_pos c1];simp[List.append_assoc]
  rw[es] at hl hsh ⊢
  obtain ⟨a,d,e1,e2,e3,e4,e5,e6,e7,e8,e9⟩:=head _ hl es
  have x2:=l5Text_back v [] ⟨by omega,by omega⟩ (lt15 (app3 (app3 hl).2).2)
  have x1:=l5Text_back ky (varT (v.length:Int)++(v++[])) ⟨by omega,by omega⟩ (lt15 (app3 hl).2)
  unfold ψ2D.f
  simp only[e1,e2,e3,e4,e5,e6,e7,e8,e9,Option.bind_some,kind_eq4,hcd,cond_true,x1,x2,cond_false,hsh,beq_self_eq_true,Bool.not_true]
 have hcd:decide (k=1∨k=4)=false:=decide_eq_false c1
 by_cases c2:k=2
 ·obtain ⟨j1,rfl,rfl,rfl⟩:=i4 c2
  have b2:(k==2)=true:=by simpa using c2
  have es:showRec (k,b,ky,[],0,0)=varT k++(varT b++(varT (ky.length:Int)++(ky++[]))):=by
   unfold showRec;rw[if_neg hok2,if_neg c1,if_pos c2];simp[List.append_assoc]
  rw[es] at hl hsh ⊢
  obtain ⟨a,d,e1,e2,e3,e4,e5,e6,e7,e8,e9⟩:=head _ hl es
  have x1:=l5Text_back ky [] ⟨by omega,by omega⟩ (lt15 (app3 hl).2)
  unfold ψ2D.f
  simp only[e1,e2,e3,e4,e5,e6,e7,e8,e9,Option.bind_some,kind_eq4,hcd,b2,cond_true,x1,cond_false,hsh,beq_self_eq_true,Bool.not_true]
 ·obtain ⟨rfl,rfl,j3,j4⟩:=i5 c1 c2
  have b2:(k==2)=false:=by simpa using c2
  have l4:=fix4_len4 j4
  have es:showRec (k,b,[],[],c,sm)=varT k++(varT b++(varT c++(fix4 sm++[]))):=by
   unfold showRec;rw[if_neg hok2,if_neg c1,if_neg c2];simp[List.append_assoc]
  rw[es] at hl hsh ⊢
  obtain ⟨a,d,e1,e2,e3,e4,e5,e6,e7,e8,e9⟩:=head _ hl es
  obtain ⟨p1,p2⟩:=readVar_back j3 (fix4 sm++[])
  have hl3:=(app3 hl).2
  have r1:ψ2E.f (varT c++(fix4 sm++[]))=some (c,((varT c).length:Int)):=by rw[spec_ReadVar_eq _ (lt62 hl3),p1]
  have r2:(decide (0≤((varT c).length:Int)) && decide (((varT c).length:Int)≤((varT c++(fix4 sm++[])).length:Int)))=true:=by simp only[List.length_append];simp;omega
  have r3:(varT c++(fix4 sm++[])).drop (((varT c).length:Int)).toNat=fix4 sm++[]:=by rw[Int.toNat_natCast,List.drop_left]
  have r4:ψ2A.f (fix4 sm++[]) 4=some (sm,true):=by rw[spec_ReadFixed_eq _ (lt62 (app2 hl3)),readFix4_back j4]
  unfold ψ2D.f
  simp only[e1,e2,e3,e4,e5,e6,e7,e8,e9,Option.bind_some,kind_eq4,hcd,b2,cond_true,r1,r2,r3,r4,cond_false,hsh,beq_self_eq_true,Bool.not_true]
noncomputable def restI (k b:Int) (st:ScanT):Option (RecT×Bool):=
 ((bif k==1 then some ((0,0,[],[],0,0),st,(k,b,[],[],0,0),k,k==1)
 else some ((0,0,[],[],0,0),st,(k,b,[],[],0,0),k,k==4):Option ((Int×Int×List UInt8×List UInt8×Int×Int)×(List UInt8×Bool)×(Int×Int×List UInt8×List UInt8×Int×Int)×Int×Bool)).bind (fun (x2,x4,x5,x16,x27)=>
 bif x27 then
 (ψ1C.f x4).bind fun (t3_0,t3_1)=>
 (ψ1C.f t3_1).bind fun (t4_0,t4_1)=>
 some (x2,t4_1,(x5.1,x5.2.1,t3_0,t4_0,x5.2.2.2.2))
 else
 (bif x16==2 then
 (ψ1C.f x4).bind fun (t5_0,t5_1)=>
 some (x2,t5_1,(x5.1,x5.2.1,t5_0,x5.2.2.2))
 else
 (ψ1B.f x4).bind fun (t6_0,t6_1)=>
 (ψ1A.f t6_1 4).bind fun (t7_0,t7_1)=>
 (ψW.f t7_0 4).bind fun (t8_0,t8_1)=>
 some (x2,t7_1,(x5.1,x5.2.1,x5.2.2.1,x5.2.2.2.1,t6_0,t8_0)):Option ((Int×Int×List UInt8×List UInt8×Int×Int)×(List UInt8×Bool)×Int×Int×List UInt8×List UInt8×Int×Int)).bind (fun (x2,x4,x5)=>
 some (x2,x4,x5))):Option ((Int×Int×List UInt8×List UInt8×Int×Int)×(List UInt8×Bool)×Int×Int×List UInt8×List UInt8×Int×Int)).bind (fun (x2,x4,x5)=>
 bif x4.2 then
 some ((0,0,[],[],0,0),false)
 else
 bif !(x4.1==[]) then
 some ((0,0,[],[],0,0),false)
 else
 (ψc.f x5).bind fun t9=>
 bif !t9 then
 some ((0,0,[],[],0,0),false)
 else
 some (x5,true))
theorem rest_split (s:List UInt8):ψZ.f s=(ψ1B.f (s,false)).bind fun p=>(ψ1B.f p.2).bind fun q=>restI p.1 q.1 q.2:=rfl
theorem rest_bad (k b:Int) (s:List UInt8) (hl:s.length<2 ^ 62):restI k b (s,true)=some (zeroRec,false):=by
 have hf:ψW.f [] 4=some (0,false):=impl_ReadFixed_eq [] (by show 0<2 ^ 62;decide)
 unfold restI
 simp only[kind_eq,Option.bind_some]
 cases decide (k=1∨k=4)
 ·cases (k==2)
  ·simp only[cond_false,num_bad s hl,Option.bind_some,bytes_bad,hf,cond_true];rfl
  ·simp only[cond_false,cond_true,text_bad s hl,Option.bind_some];rfl
 ·simp only[cond_true,text_bad s hl,Option.bind_some];rfl
theorem rest_end (S:List UInt8) (r:RecT) (st:ScanT) (h:st.2=false→st.1=[]→recOk r=true→showRec r=S) :
  ∃res:RecT×Bool,(bif st.2 then some (((0,0,[],[],0,0):RecT),false) else bif !(st.1==[]) then some ((0,0,[],[],0,0),false) else (ψc.f r).bind fun t9=>bif !t9 then some ((0,0,[],[],0,0),false) else some (r,true))=some res∧(res=(zeroRec,false)∨∃r,res=(r,true)∧isRec S r):=by
 cases hb:st.2
 rotate_left
 ·exact ⟨(zeroRec,false),rfl,.inl rfl⟩
 simp only[cond_false]
 by_cases he:st.1=[]
 ·have he2:(st.1==[])=true:=by simpa using he
  simp only[he2,Bool.not_true,cond_false,impl_RecOk_eq,Option.bind_some]
  cases hr:recOk r
  ·exact ⟨(zeroRec,false),rfl,.inl rfl⟩
  ·exact ⟨(r,true),rfl,.inr ⟨r,rfl,hr,h hb he hr⟩⟩
 ·have he2:(st.1==[])=false:=by simpa using he
  simp only[he2,Bool.not_false,cond_true]
  exact ⟨(zeroRec,false),rfl,.inl rfl⟩
theorem impl_ReadRec_tot (s:List UInt8) (hl:s.length<1000000000000):∃res:RecT×Bool,ψZ.f s=some res∧(res=(zeroRec,false)∨∃r,res=(r,true)∧isRec s r):=by
 rw[rest_split]
 rcases num_cases s (by omega) with ⟨k,s1,e1,q1,i1⟩ | e1
 rotate_left
 ·rw[e1,Option.bind_some]
  simp only[num_bad s (show s.length<2 ^ 62 by omega),Option.bind_some,rest_bad 0 0 s (show s.length<2 ^ 62 by omega)]
  exact ⟨_,rfl,.inl rfl⟩
 have l1:s1.length≤s.length:=by rw[q1,List.length_append];omega
 rw[e1,Option.bind_some]
 rcases num_cases s1 (by omega) with ⟨b,s2,e2,q2,i2⟩ | e2
 rotate_left
 ·simp only[e2,Option.bind_some,rest_bad k 0 s1 (show s1.length<2 ^ 62 by omega)]
  exact ⟨_,rfl,.inl rfl⟩
 have l2:s2.length≤s.length:=by rw[q2,List.length_append] at l1;omega
 simp only[e2,Option.bind_some]
 unfold restI
 simp only[kind_eq,Option.bind_some]
 by_cases c1:k=1∨k=4
 ·have hcd:decide (k=1∨k=4)=true:=decide_eq_true c1
  simp only[hcd,cond_true]
  rcases text_cases s2 (by omega) with ⟨ky,s3,e3,q3,i3⟩ | ⟨s3,e3,l3⟩
  rotate_left
  ·simp only[e3,Option.bind_some,text_bad s3 (show s3.length<2 ^ 62 by omega)]
   exact ⟨_,rfl,.inl rfl⟩
  have l3:s3.length≤s.length:=by rw[q3,List.length_append,List.length_append] at l2;omega
  rcases text_cases s3 (by omega) with ⟨v,s4,e4,q4,i4⟩ | ⟨s4,e4,l4⟩
  rotate_left
  ·simp only[e3,e4,Option.bind_some]
   exact ⟨_,rfl,.inl rfl⟩
  simp only[e3,e4,Option.bind_some]
  exact rest_end s (k,b,ky,v,0,0) (s4,false) fun _ he hr=>by
   have he:s4=[]:=he
   subst he
   unfold showRec
   rw[if_neg (by rw[hr];simp),if_pos c1,q1,q2,q3,q4]
   simp[List.append_assoc]
 have hcd:decide (k=1∨k=4)=false:=decide_eq_false c1
 by_cases c2:k=2
 ·have b2:(k==2)=true:=by simpa using c2
  simp only[hcd,b2,cond_true,cond_false]
  rcases text_cases s2 (by omega) with ⟨ky,s3,e3,q3,i3⟩ | ⟨s3,e3,l3⟩
  rotate_left
  ·simp only[e3,Option.bind_some]
   exact ⟨_,rfl,.inl rfl⟩
  simp only[e3,Option.bind_some]
  exact rest_end s (k,b,ky,[],0,0) (s3,false) fun _ he hr=>by
   have he:s3=[]:=he
   subst he
   unfold showRec
   rw[if_neg (by rw[hr];simp),if_neg c1,if_pos c2,q1,q2,q3]
   simp[List.append_assoc]
 ·have b2:(k==2)=false:=by simpa using c2
  simp only[hcd,b2,cond_false]
  rcases num_cases s2 (by omega) with ⟨c,s3,e3,q3,i3⟩ | e3
  rotate_left
  ·have hf:ψW.f [] 4=some (0,false):=impl_ReadFixed_eq [] (by show 0<2 ^ 62;decide)
   simp only[e3,Option.bind_some,bytes_bad,hf]
   exact ⟨_,rfl,.inl rfl⟩
  rcases bytes_cases s3 4 (by omega) with ⟨t,s4,e4,q4,i4⟩ | e4
  rotate_left
  ·have hf:ψW.f [] 4=some (0,false):=impl_ReadFixed_eq [] (by show 0<2 ^ 62;decide)
   simp only[e3,e4,Option.bind_some,hf]
   exact ⟨_,rfl,.inl rfl⟩
  have ht:t.length=4:=by omega
  have hf:=impl_ReadFixed_eq t (by omega)
  obtain ⟨f1,f2,f3⟩:=fix4_read t ht
  simp only[e3,e4,Option.bind_some,hf]
  exact rest_end s (k,b,[],[],c,(readFix4 t).1) (s4,false) fun _ he hr=>by
   have he:s4=[]:=he
   subst he
   unfold showRec
   rw[if_neg (by rw[hr];simp),if_neg c1,if_neg c2,q1,q2,q3,q4]
   simp only
   rw[f1]
   simp[List.append_assoc]
theorem spec_end (S:List UInt8) (r:RecT):∃res:RecT×Bool,((ψ2R.f r).bind fun t9=>bif !(t9==S) then some (((0,0,[],[],0,0):RecT),false) else bif S==[] then some ((0,0,[],[],0,0),false) else some (r,true))=some res∧(res=(zeroRec,false)∨∃r,res=(r,true)∧isRec S r):=by
 rw[spec_ShowRec_eq,Option.bind_some]
 by_cases c:showRec r=S
 ·have c1:(showRec r==S)=true:=by simpa using c
  simp only[c1,Bool.not_true,cond_false]
  by_cases e:S=[]
  ·have e1:(S==[])=true:=by simpa using e
   simp only[e1,cond_true]
   exact ⟨_,rfl,.inl rfl⟩
  ·have e1:(S==[])=false:=by simpa using e
   simp only[e1,cond_false]
   refine ⟨_,rfl,.inr ⟨r,rfl,?_,c⟩⟩
   cases hr:recOk r with
   | true=>rfl
   | false=>
    exfalso
    apply e
    rw[←c]
    unfold showRec
    rw[if_pos hr]
 ·have c1:(showRec r==S)=false:=by simpa using c
  simp only[c1,Bool.not_false,cond_true]
  exact ⟨_,rfl,.inl rfl⟩
theorem readVar_len (s:List UInt8):0≤(readVar s).2∧(readVar s).2≤s.length∧(readVar s).2≤7:=by
 rcases readVar_cases s with h | ⟨n,k,_,h,h1,h2,h3,h4,h5⟩
 ·rw[h];simp
 ·rw[h];simp only;omega
theorem spec_ReadRec_tot (s:List UInt8) (hl:s.length<1000000000000):∃res:RecT×Bool,ψ2D.f s=some res∧(res=(zeroRec,false)∨∃r,res=(r,true)∧isRec s r):=by
 unfold ψ2D.f
 rw[spec_ReadVar_eq s (by omega),Option.bind_some]
 obtain ⟨a1,a2,a3⟩:=readVar_len s
 generalize readVar s=p at *
 obtain ⟨k,a⟩:=p
 simp only at a1 a2 a3
 have c1:(decide (0≤a) && decide (a≤(s.length:Int)))=true:=by simp;omega
 have hd:(s.drop a.toNat).length=s.length - a.toNat:=List.length_drop
 simp only[c1,cond_true,spec_ReadVar_eq (s.drop a.toNat) (show (s.drop a.toNat).length<2 ^ 62 by omega),Option.bind_some]
 obtain ⟨b1,b2,b3⟩:=readVar_len (s.drop a.toNat)
 generalize readVar (s.drop a.toNat)=q at *
 obtain ⟨b,d⟩:=q
 simp only at b1 b2 b3 ⊢
 cases ea:(a==0)
 rotate_left
 ·simp only[cond_true];exact ⟨_,rfl,.inl rfl⟩
 cases ed:(d==0)
 rotate_left
 ·simp only[cond_true,cond_false];exact ⟨_,rfl,.inl rfl⟩
 have ew:w64 (a+d)=a+d:=w64_id (by omega) (by omega)
 have c2:(decide (0≤a+d) && decide (a+d≤(s.length:Int)))=true:=by simp;omega
 simp only[cond_false,ew,c2,cond_true,kind_eq4,Option.bind_some]
 have hx:(s.drop (a+d).toNat).length≤s.length:=by rw[List.length_drop];omega
 generalize s.drop (a+d).toNat=x at *
 cases decide (k=1∨k=4)
 rotate_left
 ·obtain ⟨t,r,f,e1,l1,l2⟩:=l5Text_tot x (by omega)
  obtain ⟨t',r',f',e2,l3,l4⟩:=l5Text_tot r (by omega)
  simp only[cond_true,e1,e2,Option.bind_some]
  exact spec_end s (k,b,t,t',0,0)
 cases (k==2)
 rotate_left
 ·obtain ⟨t,r,f,e1,l1,l2⟩:=l5Text_tot x (by omega)
  simp only[cond_true,cond_false,e1,Option.bind_some]
  exact spec_end s (k,b,t,[],0,0)
 ·simp only[cond_false,spec_ReadVar_eq x (show x.length<2 ^ 62 by omega),Option.bind_some]
  obtain ⟨g1,g2,g3⟩:=readVar_len x
  generalize readVar x=u at *
  obtain ⟨c,g⟩:=u
  simp only at g1 g2 g3 ⊢
  have c3:(decide (0≤g) && decide (g≤(x.length:Int)))=true:=by simp;omega
  simp only[c3,cond_true,spec_ReadFixed_eq (x.drop g.toNat) (show (x.drop g.toNat).length<2 ^ 62 by rw[List.length_drop];omega),Option.bind_some]
  exact spec_end s (k,b,[],[],c,(readFix4 (x.drop g.toNat)).1)
noncomputable def readRec (s:List UInt8):RecT×Bool:=@dite (RecT×Bool) (∃r,isRec s r) (Classical.propDecidable _) (fun h=>(h.choose,true)) (fun _=>(zeroRec,false))
theorem readRec_of {s:List UInt8} {o:Option (RecT×Bool)} (h1:∀r,isRec s r→o=some (r,true)) (h2:∃res:RecT×Bool,o=some res∧(res=(zeroRec,false)∨∃r,res=(r,true)∧isRec s r)):o=some (readRec s):=by
 unfold readRec
 by_cases h:∃r,isRec s r
 ·rw[dif_pos h];exact h1 _ h.choose_spec
 ·rw[dif_neg h]
  obtain ⟨res,e,k | ⟨r,_,hr⟩⟩:=h2
  ·rw[e,k]
  ·exact absurd ⟨r,hr⟩ h
theorem impl_ReadRec_eq (s:List UInt8) (hl:s.length<1000000000000):ψZ.f s=some (readRec s):=readRec_of (fun _ h=>impl_ReadRec_back h) (impl_ReadRec_tot s hl)
theorem spec_ReadRec_eq (s:List UInt8) (hl:s.length<1000000000000):ψ2D.f s=some (readRec s):=readRec_of (fun _ h=>spec_ReadRec_back h) (spec_ReadRec_tot s hl)
theorem readRec_cases (s:List UInt8):readRec s=(zeroRec,false)∧(¬∃r,isRec s r)∨∃r,readRec s=(r,true)∧isRec s r:=by
 unfold readRec
 by_cases h:∃r,isRec s r
 ·rw[dif_pos h];exact .inr ⟨_,rfl,h.choose_spec⟩
 ·rw[dif_neg h];exact .inl ⟨rfl,h⟩
theorem unframe_len (s:List UInt8):(unframe s).1.length≤s.length:=by
 unfold unframe
 split
 ·simp
 split
 ·simp
 ·split
  ·simp
  split
  ·simp only[List.length_drop,List.length_take];omega
  ·simp
noncomputable def recAt (s:List UInt8) (a n:Int):RecT×Bool:=
 if 0≤a∧a≤(s.length:Int)∧1≤n∧n≤(s.length:Int) - a then
  (if (unframe ((s.take (a+n).toNat).drop a.toNat)).2=n then readRec (unframe ((s.take (a+n).toNat).drop a.toNat)).1 else (zeroRec,false))
 else (zeroRec,false)
theorem impl_RecAt_eq (s:List UInt8) (a n:Int) (hl:s.length<1000000000):ψb.f s a n=some (recAt s a n):=by
 unfold ψb.f recAt
 rw[impl_in_eq,Option.bind_some]
 by_cases c1:0≤a∧a≤(s.length:Int)
 rotate_left
 ·simp only[c1,decide_false,Bool.not_false,cond_true]
  rw[if_neg (fun k=>c1 ⟨k.1,k.2.1⟩)];rfl
 have ew:w64 ((s.length:Int) - a)=(s.length:Int) - a:=w64_id (by omega) (by omega)
 have c1b:decide (0≤a∧a≤(s.length:Int))=true:=decide_eq_true c1
 simp only[c1b,Bool.not_true,cond_false,impl_in_eq,Option.bind_some,ew]
 by_cases c2:0≤n∧n≤(s.length:Int) - a
 rotate_left
 ·simp only[c2,decide_false,Bool.not_false,cond_true]
  rw[if_neg (fun k=>c2 ⟨by omega,k.2.2.2⟩)];rfl
 have e2:w64 (a+n)=a+n:=w64_id (by omega) (by omega)
 have c3:(decide (0≤a+n) && decide (a+n≤(s.length:Int)))=true:=by simp;omega
 have c4:(decide (0≤a) && decide (a≤a+n))=true:=by simp;omega
 have hlx:((s.take (a+n).toNat).drop a.toNat).length<1000000000:=by rw[List.length_drop,List.length_take];omega
 have c2b:decide (0≤n∧n≤(s.length:Int) - a)=true:=decide_eq_true c2
 have hx0:n=0→(unframe ((s.take (a+n).toNat).drop a.toNat)).2=0:=fun e=>by
  have:((s.take (a+n).toNat).drop a.toNat)=[]:=by rw[List.drop_eq_nil_iff,List.length_take];omega
  rw[this];rfl
 have hlen:=unframe_len ((s.take (a+n).toNat).drop a.toNat)
 have hun:=impl_Unframe_eq _ (show ((s.take (a+n).toNat).drop a.toNat).length<1000000000000 by omega)
 by_cases c5:n=0
 ·rw[if_neg (fun z=>by omega)]
  simp only[c2b,Bool.not_true,cond_false,e2,c3,c4,cond_true,hun,Option.bind_some]
  have hk:=hx0 c5
  have d:((unframe ((s.take (a+n).toNat).drop a.toNat)).2==0)=true:=by simpa using hk
  simp only[d,cond_true];rfl
 rw[if_pos ⟨c1.1,c1.2,by omega,c2.2⟩]
 simp only[c2b,Bool.not_true,cond_false,e2,c3,c4,cond_true,hun,Option.bind_some]
 generalize unframe ((s.take (a+n).toNat).drop a.toNat)=u at *
 obtain ⟨t,k⟩:=u
 simp only at hx0 hlen ⊢
 by_cases c6:k=n
 ·have d:(k==0)=false:=by simp;omega
  have d2:(k != n)=false:=by simpa using c6
  simp only[d,d2,cond_false,impl_ReadRec_eq t (show t.length<1000000000000 by omega),Option.bind_some]
  rw[if_pos c6]
 ·have d2:(k != n)=true:=by simpa using c6
  rw[if_neg c6]
  cases d:(k==0)
  ·simp only[d2,cond_false,cond_true];rfl
  ·simp only[cond_true];rfl
theorem spec_RecAt_eq (s:List UInt8) (a n:Int) (hl:s.length<1000000000):ψ2F.f s a n=some (recAt s a n):=by
 unfold ψ2F.f recAt
 rw[spec_l1In_eq,Option.bind_some]
 by_cases c1:0≤a∧a≤(s.length:Int)
 rotate_left
 ·simp only[c1,decide_false,Bool.not_false,cond_true]
  rw[if_neg (fun k=>c1 ⟨k.1,k.2.1⟩)];rfl
 have ew:w64 ((s.length:Int) - a)=(s.length:Int) - a:=w64_id (by omega) (by omega)
 have c1b:decide (0≤a∧a≤(s.length:Int))=true:=decide_eq_true c1
 simp only[c1b,Bool.not_true,cond_false,spec_l1In_eq,Option.bind_some,ew]
 by_cases c2:1≤n∧n≤(s.length:Int) - a
 rotate_left
 ·rw[if_neg (fun k=>c2 ⟨k.2.2.1,k.2.2.2⟩)]
  simp only[c2,decide_false,Bool.not_false,cond_true];rfl
 have e2:w64 (a+n)=a+n:=w64_id (by omega) (by omega)
 have c3:(decide (0≤a+n) && decide (a+n≤(s.length:Int)))=true:=by simp;omega
 have c4:(decide (0≤a) && decide (a≤a+n))=true:=by simp;omega
 have hlx:((s.take (a+n).toNat).drop a.toNat).length<1000000000:=by rw[List.length_drop,List.length_take];omega
 have c2b:decide (1≤n∧n≤(s.length:Int) - a)=true:=decide_eq_true c2
 have hlen:=unframe_len ((s.take (a+n).toNat).drop a.toNat)
 have hun:=spec_Unframe_eq _ (show ((s.take (a+n).toNat).drop a.toNat).length<1000000000000 by omega)
 rw[if_pos ⟨c1.1,c1.2,c2.1,c2.2⟩]
 simp only[c2b,Bool.not_true,cond_false,e2,c3,c4,cond_true,hun,Option.bind_some]
 generalize unframe ((s.take (a+n).toNat).drop a.toNat)=u at *
 obtain ⟨t,k⟩:=u
 simp only at hlen ⊢
 rw[spec_ReadRec_eq t (by omega),Option.bind_some]
 by_cases c6:k=n
 ·have d2:(k != n)=false:=by simpa using c6
  rw[if_pos c6]
  simp only[d2,cond_false]
  rcases readRec_cases t with ⟨e,_⟩ | ⟨r,e,_⟩<;>rw[e]<;>rfl
 ·have d2:(k != n)=true:=by simpa using c6
  rw[if_neg c6]
  simp only[d2,cond_true];rfl
theorem recAt_nil (a n:Int):recAt [] a n=(zeroRec,false):=by
 unfold recAt
 rw[if_neg]
 simp only[List.length_nil]
 omega
noncomputable def getP (s:StoreT) (d:DiskT) (key:List UInt8):PairT×Int:=
 if (dirGet s.2.1 key).2=false then (([],[],0),8) else
 let e:=(dirGet s.2.1 key).1
 let r:=recAt (fileText d (segName e.2.1)).1 e.2.2.1 e.2.2.2.1
 if r.2=true∧(r.1.1=1∨r.1.1=4)∧r.1.2.2.1=key then ((key,r.1.2.2.2.1,r.1.2.1),0) else (([],[],0),3)
theorem impl_Get_eq (s:StoreT) (d:DiskT) (key:List UInt8) (h:dlim d) (hu:usedN d.1<1000000000) (hs:s.2.1.length<2 ^ 62):ψJ.f s d key=some (getP s d key):=by
 unfold ψJ.f getP
 rw[impl_DirGet_eq s.2.1 key hs,Option.bind_some]
 generalize dirGet s.2.1 key=g at *
 obtain ⟨e,is⟩:=g
 simp only
 cases is
 ·rfl
 have hl:=fileText_len d (segName e.2.1) h
 simp only[Bool.not_true,cond_false,impl_SegName_eq,Option.bind_some,impl_FileText_eq d _ h,impl_RecAt_eq (fileText d (segName e.2.1)).1 e.2.2.1 e.2.2.2.1 (show (fileText d (segName e.2.1)).1.length<1000000000 by omega),Bool.true_eq_false,if_false]
 generalize recAt (fileText d (segName e.2.1)).1 e.2.2.1 e.2.2.2.1=r at *
 obtain ⟨r,ok⟩:=r
 simp only
 cases ok
 ·simp
 simp only[Bool.not_true,cond_false,true_and]
 by_cases k:r.2.2.1=key
 ·have k2:(r.2.2.1==key)=true:=by simpa using k
  by_cases c1:r.1=1
  ·have d1:(r.1 != 1)=false:=by simpa using c1
   simp only[d1,k2,Bool.not_true,cond_false]
   rw[if_pos ⟨.inl c1,k⟩,k]
  ·have d1:(r.1 != 1)=true:=by simpa using c1
   by_cases c4:r.1=4
   ·have d4:(r.1 != 4)=false:=by simpa using c4
    simp only[d1,d4,k2,Bool.not_true,cond_false,cond_true]
    rw[if_pos ⟨.inr c4,k⟩,k]
   ·have d4:(r.1 != 4)=true:=by simpa using c4
    simp only[d1,d4,cond_true]
    rw[if_neg (by intro z;exact z.1.elim c1 c4)]
 ·have k2:(r.2.2.1==key)=false:=by simpa using k
  rw[if_neg (fun z=>k z.2)]
  cases (r.1 != 1)<;>cases (r.1 != 4)<;>simp only[k2,Bool.not_false,cond_false,cond_true]
theorem spec_Get_eq (s:StoreT) (d:DiskT) (key:List UInt8) (h:dlim d) (hu:usedN d.1<1000000000) (hs:s.2.1.length<2 ^ 62):ψ1w.f s d key=some (getP s d key):=by
 unfold ψ1w.f getP
 rw[spec_DirGet_eq s.2.1 key hs,Option.bind_some]
 generalize dirGet s.2.1 key=g at *
 obtain ⟨e,is⟩:=g
 simp only
 cases is
 ·rfl
 have hl:=fileText_len d (segName e.2.1) h
 simp only[Bool.not_true,cond_false,spec_SegName_eq,Option.bind_some,spec_FileText_eq d _ h,spec_RecAt_eq (fileText d (segName e.2.1)).1 e.2.2.1 e.2.2.2.1 (show (fileText d (segName e.2.1)).1.length<1000000000 by omega),Bool.true_eq_false,if_false]
 have hno:(fileText d (segName e.2.1)).2=false→recAt (fileText d (segName e.2.1)).1 e.2.2.1 e.2.2.2.1=(zeroRec,false):=fun hf=>by
  have:(fileText d (segName e.2.1)).1=[]:=by
   unfold fileText at hf ⊢
   split
   ·rfl
   ·rename_i c
    rw[if_neg c] at hf
    split
    ·rename_i i hi;rw[hi] at hf;simp at hf
    ·rfl
  rw[this];exact recAt_nil _ _
 generalize recAt (fileText d (segName e.2.1)).1 e.2.2.1 e.2.2.2.1=r at *
 cases hf:(fileText d (segName e.2.1)).2
 ·rw[hno hf];simp
 obtain ⟨r,ok⟩:=r
 simp only[Bool.not_true,cond_false]
 cases ok
 ·simp
 simp only[Bool.not_true,cond_false,true_and]
 by_cases k:r.2.2.1=key
 ·have k2:(r.2.2.1==key)=true:=by simpa using k
  simp only[k2,Bool.not_true,cond_false]
  by_cases c1:r.1=1
  ·have d1:(r.1 != 1)=false:=by simpa using c1
   simp only[d1,cond_false]
   rw[if_pos ⟨.inl c1,k⟩]
  ·have d1:(r.1 != 1)=true:=by simpa using c1
   by_cases c4:r.1=4
   ·have d4:(r.1 != 4)=false:=by simpa using c4
    simp only[d1,d4,cond_false,cond_true]
    rw[if_pos ⟨.inr c4,k⟩]
   ·have d4:(r.1 != 4)=true:=by simpa using c4
    simp only[d1,d4,cond_true]
    rw[if_neg (by intro z;exact z.1.elim c1 c4)]
 ·have k2:(r.2.2.1==key)=false:=by simpa using k
  simp only[k2,Bool.not_false,cond_true]
  rw[if_neg (fun z=>k z.2)]
abbrev SpotT:=Int×Int×RecT
theorem unframe_pos (s:List UInt8):(unframe s).2=0∨∃n:Nat,(unframe s).2=(n:Int)∧5≤n∧n≤s.length:=by
 unfold unframe
 split
 ·exact .inl rfl
 split
 ·exact .inl rfl
 ·rename_i n k hr
  obtain ⟨q1,q2,q3,q4,q5⟩:=rvT_some 7 true (s.drop 4) n k hr
  split
  ·exact .inl rfl
  rename_i c
  split
  ·exact .inr ⟨4+k+n,rfl,by omega,by omega⟩
  ·exact .inl rfl
noncomputable def scanG:Nat→List UInt8→Nat→List SpotT×Nat
 | 0,_,a=>([],a)
 | f+1,s,a=>
  if (unframe (s.drop a)).2=0∨(readRec (unframe (s.drop a)).1).2=false then ([],a) else
  (((a:Int),(unframe (s.drop a)).2,(readRec (unframe (s.drop a)).1).1)::(scanG f s (a+(unframe (s.drop a)).2.toNat)).1,(scanG f s (a+(unframe (s.drop a)).2.toNat)).2)
theorem scanG_fuel:∀(f g:Nat) (s:List UInt8) (a:Nat),a≤s.length→s.length<a+f→s.length<a+g→scanG f s a=scanG g s a
 | 0,_,s,a,ha,hf,_=>by omega
 | f+1,0,s,a,ha,_,hg=>by omega
 | f+1,g+1,s,a,ha,hf,hg=>by
  unfold scanG
  by_cases c:(unframe (s.drop a)).2=0∨(readRec (unframe (s.drop a)).1).2=false
  ·rw[if_pos c,if_pos c]
  ·rw[if_neg c,if_neg c]
   rcases unframe_pos (s.drop a) with h | ⟨n,h,h5,hn⟩
   ·exact absurd (.inl h) c
   ·rw[List.length_drop] at hn
    rw[h,Int.toNat_natCast,scanG_fuel f g s (a+n) (by omega) (by omega) (by omega)]
noncomputable def scanAt (s:List UInt8) (a:Nat):List SpotT×Nat:=scanG (s.length+1 - a) s a
noncomputable def scan (s:List UInt8):List SpotT×Nat:=scanAt s 0
theorem scanAt_stop {s:List UInt8} {a:Nat} (ha:a≤s.length) (h:(unframe (s.drop a)).2=0∨(readRec (unframe (s.drop a)).1).2=false):scanAt s a=([],a):=by
 unfold scanAt
 rw[show s.length+1 - a=(s.length - a)+1 by omega,scanG,if_pos h]
theorem scanAt_step {s:List UInt8} {a n:Nat} (hn:(unframe (s.drop a)).2=(n:Int)) (h0:5≤n) (hl:a+n≤s.length) (hr:(readRec (unframe (s.drop a)).1).2=true) :
  scanAt s a=(((a:Int),(n:Int),(readRec (unframe (s.drop a)).1).1)::(scanAt s (a+n)).1,(scanAt s (a+n)).2):=by
 unfold scanAt
 rw[show s.length+1 - a=(s.length - a)+1 by omega,scanG,if_neg (by rw[hn,hr];simp;omega),hn,Int.toNat_natCast,scanG_fuel (s.length - a) (s.length+1 - (a+n)) s (a+n) (by omega) (by omega) (by omega)]
theorem scanAt_end {s:List UInt8}:scanAt s s.length=([],s.length):=
 scanAt_stop (Nat.le_refl _) (.inl (by rw[List.drop_length];rfl))
theorem scanAt_len:∀(k:Nat) (s:List UInt8) (a:Nat),a≤s.length→s.length - a=k→(scanAt s a).2≤s.length∧a≤(scanAt s a).2∧(scanAt s a).1.length≤s.length - a:=by
 intro k
 induction k using Nat.strongRecOn with
 | ind k ih=>
  intro s a ha hk
  by_cases c:(unframe (s.drop a)).2=0∨(readRec (unframe (s.drop a)).1).2=false
  ·rw[scanAt_stop ha c];exact ⟨ha,Nat.le_refl _,by simp⟩
  ·rcases unframe_pos (s.drop a) with h | ⟨n,h,h5,hn⟩
   ·exact absurd (.inl h) c
   ·rw[List.length_drop] at hn
    have hr:(readRec (unframe (s.drop a)).1).2=true:=by
     cases e:(readRec (unframe (s.drop a)).1).2 with
     | true=>rfl
     | false=>exact absurd (.inr e) c
    rw[scanAt_step h h5 (by omega) hr]
    have:=ih (s.length - (a+n)) (by omega) s (a+n) (by omega) rfl
    simp only[List.length_cons]
    omega
theorem scan_len (s:List UInt8):(scan s).2≤s.length∧(scan s).1.length≤s.length:=by
 have:=scanAt_len s.length s 0 (Nat.zero_le _) (by omega)
 unfold scan
 omega
def entryOk (e:EntryT):Bool:=keyOk e.1 && (decide (1≤e.2.1∧e.2.1≤100000) && (decide (0≤e.2.2.1) && (decide (1≤e.2.2.2.1∧e.2.2.2.1≤210) && decide (1≤e.2.2.2.2∧e.2.2.2.2≤1000000))))
def riseE:Option (List UInt8)→List EntryT→Bool
 | _,[]=>true
 | p,e::r=>entryOk e && ((match p with | none=>true | some q=>Op.bytesLess q e.1) && riseE (some e.1) r)
def beforeE (l:List EntryT):Nat→Option (List UInt8)
 | 0=>none
 | n+1=>some (l.getD n ([],0,0,0,0)).1
theorem beforeE_succ (l:List EntryT) (n:Nat) (h:n<l.length):beforeE l (n+1)=some l[n].1:=by
 show some (l.getD n ([],0,0,0,0)).1=_
 rw[getD_lt h]
def dirOk (l:List EntryT):Bool:=riseE none l && decide (l.length≤20)
theorem lim80 {a:Nat} (h:a<1000000000001):(a+1) * 80≤140737488355328:=by omega
theorem impl_ScanRecs_eq (s:List UInt8) (hl:s.length<1000000000):ψj.f s=some ((scan s).1,((scan s).2:Int)):=by
 have key:=lp_eq (step:=ψj.l0) (a:=(s,([]:List SpotT),((0:Nat):Int))) (fun a=>(a.2.1++(scanAt s a.2.2.toNat).1,((scanAt s a.2.2.toNat).2:Int))) (fun a=>a.1=s∧∃n:Nat,a.2.2=(n:Int)∧n≤s.length∧a.2.1.length≤n) (fun a=>s.length - a.2.2.toNat)
  (fun rec a ha ih=>by
   obtain ⟨x,out,k⟩:=a
   obtain ⟨hx,n,hn,hle,hol⟩:=ha
   simp only at hx hn hol ih ⊢
   subst hx hn
   have c1:(decide (0≤(n:Int)) && decide ((n:Int)≤(x.length:Int)))=true:=by simp;omega
   have hd:(x.drop n).length<1000000000000:=by rw[List.length_drop];omega
   have hu:=unframe_len (x.drop n)
   simp only[ψj.l0,c1,cond_true,Int.toNat_natCast,impl_Unframe_eq (x.drop n) hd,impl_ReadRec_eq (unframe (x.drop n)).1 (show (unframe (x.drop n)).1.length<1000000000000 by omega),Option.bind_some]
   rcases unframe_pos (x.drop n) with h | ⟨m,h,h5,hm⟩
   ·have d:((unframe (x.drop n)).2==0)=true:=by simpa using h
    rw[scanAt_stop hle (.inl h)]
    simp only[d,cond_true,List.append_nil]
   have d:(((m:Nat):Int)==0)=false:=by simp;omega
   rw[List.length_drop] at hm
   cases hr:(readRec (unframe (x.drop n)).1).2
   ·rw[scanAt_stop hle (.inr hr)]
    simp only[h,d,cond_false,Bool.not_false,cond_true,List.append_nil]
   ·have hb:∀{α:Type} (v:α),(out.length+[v].length) * 80≤140737488355328:=fun v=>lim80 (by omega)
    have ew:w64 ((n:Int)+(m:Int))=((n+m:Nat):Int):=by rw[w64_id (by omega) (by omega)];omega
    have ih:=ih (x,out++[((n:Int),(m:Int),(readRec (unframe (x.drop n)).1).1)],((n+m:Nat):Int)) ⟨rfl,n+m,rfl,by omega,by simp only[List.length_append,List.length_singleton];omega⟩ (by simp only[Int.toNat_natCast];omega)
    simp only[Int.toNat_natCast] at ih
    rw[scanAt_step h h5 (by omega) hr]
    simp only[h,d,cond_false,Bool.not_true,hb,decide_true,cond_true,ew,ih]
    simp[List.append_assoc])
  ⟨rfl,0,rfl,Nat.zero_le _,by simp⟩ (by simp only;omega)
 have key:lp ψj.l0 (s,[],0)=_:=key
 unfold ψj.f
 rw[key,Option.bind_some]
 rfl
theorem spec_ScanRecs_eq (s:List UInt8) (hl:s.length<1000000000):ψ2N.f s=some ((scan s).1,((scan s).2:Int)):=by
 have key:=lp_ok (step:=ψ2N.l0) (a:=(s,([]:List SpotT),((0:Nat):Int))) (fun a=>a.1=s∧∃n:Nat,a.2.2=(n:Int)∧n≤s.length∧a.2.1.length≤n∧scan s=(a.2.1++(scanAt s n).1,(scanAt s n).2)) (fun a=>s.length - a.2.2.toNat)
  (fun b=>b=.inl ((scan s).1,((scan s).2:Int))∨b=.inr ((scan s).1,((scan s).2:Int)))
  (fun rec a ha=>by
   obtain ⟨x,out,k⟩:=a
   obtain ⟨hx,n,hn,hle,hol,hs⟩:=ha
   simp only at hx hn hol hs
   subst hx hn
   rcases Nat.lt_or_ge n x.length with hlt | hge
   rotate_left
   ·left
    have:n=x.length:=by omega
    subst this
    rw[scanAt_end] at hs
    refine ⟨_,?_,.inl rfl⟩
    rw[hs]
    simp[ψ2N.l0]
   have c0:(n:Int)<(x.length:Int):=by omega
   have c1:(decide (0≤(n:Int)) && decide ((n:Int)≤(x.length:Int)))=true:=by simp;omega
   have hd:(x.drop n).length<1000000000000:=by rw[List.length_drop];omega
   have hu:=unframe_len (x.drop n)
   simp only[ψ2N.l0,c0,decide_true,c1,cond_true,Int.toNat_natCast,spec_Unframe_eq (x.drop n) hd,spec_ReadRec_eq (unframe (x.drop n)).1 (show (unframe (x.drop n)).1.length<1000000000000 by omega),Option.bind_some]
   rcases unframe_pos (x.drop n) with h | ⟨m,h,h5,hm⟩
   ·left
    have d:((unframe (x.drop n)).2==0)=true:=by simpa using h
    rw[scanAt_stop hle (.inl h)] at hs
    simp only[List.append_nil] at hs
    exact ⟨.inr (out,(n:Int)),by simp only[d,cond_true],.inr (by rw[hs])⟩
   have d:(((m:Nat):Int)==0)=false:=by simp;omega
   rw[List.length_drop] at hm
   cases hr:(readRec (unframe (x.drop n)).1).2
   ·left
    rw[scanAt_stop hle (.inr hr)] at hs
    simp only[List.append_nil] at hs
    exact ⟨.inr (out,(n:Int)),by simp only[h,d,cond_false,Bool.not_false,cond_true],.inr (by rw[hs])⟩
   ·right
    have hb:∀{α:Type} (v:α),(out.length+[v].length) * 80≤140737488355328:=fun v=>lim80 (by omega)
    have ew:w64 ((n:Int)+(m:Int))=((n+m:Nat):Int):=by rw[w64_id (by omega) (by omega)];omega
    rw[scanAt_step h h5 (by omega) hr] at hs
    refine ⟨(x,out++[((n:Int),(m:Int),(readRec (unframe (x.drop n)).1).1)],((n+m:Nat):Int)),⟨rfl,n+m,rfl,by omega,by simp only[List.length_append,List.length_singleton];omega,by simpa [List.append_assoc] using hs⟩,by simp only[Int.toNat_natCast];omega,?_⟩
    simp only[h,d,cond_false,Bool.not_true,hb,decide_true,cond_true,ew])
  ⟨rfl,0,rfl,Nat.zero_le _,by simp,by unfold scan;simp⟩ (by simp only;omega)
 obtain ⟨b,e,hb⟩:=key
 have e:lp ψ2N.l0 (s,[],0)=some b:=e
 unfold ψ2N.f
 rw[e,Option.bind_some]
 rcases hb with rfl | rfl<;>rfl
theorem impl_DirOk_l0 (l:List EntryT) (hl:l.length<2 ^ 62):lp ψ9.l0 (l,l,(l.length:Int),0)=some (if riseE none l=true then .inl l else .inr false):=by
 have key:=lp_up (step:=ψ9.l0) (fun n (_:Unit)=>(l,l,(l.length:Int),(n:Int))) l.length (fun n _=>if riseE (beforeE l n) (l.drop n)=true then .inl l else .inr false) (fun _ _=>True)
  (fun rec n s hn' _ ih=>by
   rcases Nat.lt_or_ge n l.length with h | h
   ·have hw:w64 ((n:Int)+1)=((n+1:Nat):Int):=w64_succ (by omega)
    have ih2:=ih () h trivial
    rw[beforeE_succ l n h] at ih2
    rw[List.drop_eq_getElem_cons h]
    simp only[riseE,ψ9.l0,Int.ofNat_lt,h,decide_true,cond_true,inB_nat,rdA_nat,getD_lt h,Option.bind_some,impl_in_eq,impl_KeyOk_eq]
    unfold entryOk
    have hneg:decide (l[n].2.2.1<0)=!decide (0≤l[n].2.2.1):=by
     by_cases c:0≤l[n].2.2.1
     ·have:¬l[n].2.2.1<0:=by omega
      simp[c,this]
     ·have:l[n].2.2.1<0:=by omega
      simp[c,this]
    rw[hneg]
    rcases Bool.eq_false_or_eq_true (keyOk l[n].1) with k1 | k1
    rotate_left
    ·simp[k1]
    rcases Bool.eq_false_or_eq_true (decide (1≤l[n].2.1∧l[n].2.1≤100000)) with k2 | k2
    rotate_left
    ·simp only[k1,k2,Bool.not_true,Bool.not_false,cond_false,cond_true,Option.bind_some,caseS_r];simp
    rcases Bool.eq_false_or_eq_true (decide (0≤l[n].2.2.1)) with k3 | k3
    rotate_left
    ·simp only[k1,k2,k3,Bool.not_true,Bool.not_false,cond_false,cond_true,Option.bind_some,caseS_r];simp
    rcases Bool.eq_false_or_eq_true (decide (1≤l[n].2.2.2.1∧l[n].2.2.2.1≤210)) with k4 | k4
    rotate_left
    ·simp only[k1,k2,k3,k4,Bool.not_true,Bool.not_false,cond_false,cond_true,Option.bind_some,caseS_r];simp
    rcases Bool.eq_false_or_eq_true (decide (1≤l[n].2.2.2.2∧l[n].2.2.2.2≤1000000)) with k5 | k5
    rotate_left
    ·simp only[k1,k2,k3,k4,k5,Bool.not_true,Bool.not_false,cond_false,cond_true,Option.bind_some,caseS_r];simp
    simp only[k1,k2,k3,k4,k5,Bool.not_true,cond_false,Bool.true_and]
    cases n with
    | zero=>
     have z:¬((0:Nat):Int) > 0:=by omega
     simp only[z,decide_false,cond_false,Option.bind_some,caseS_l,hw,ih2,beforeE,Bool.true_and]
    | succ m=>
     have z:((m+1:Nat):Int) > 0:=by omega
     have hm:m<l.length:=by omega
     have z2:w64 (((m+1:Nat):Int) - 1)=(m:Int):=by rw[w64_id (by omega) (by omega)];omega
     rw[beforeE_succ l m hm]
     simp only[z,decide_true,cond_true,z2,inB_nat,hm,rdA_nat,getD_lt hm]
     rcases Bool.eq_false_or_eq_true (Op.bytesLess l[m].1 l[m+1].1) with k6 | k6
     ·simp only[k6,Bool.not_true,cond_false,Option.bind_some,caseS_l,hw,ih2,Bool.true_and]
     ·simp[k6]
   ·have:n=l.length:=by omega
    subst this
    simp[ψ9.l0,riseE])
  hl 0 () (Nat.zero_le _) trivial
 have key:lp ψ9.l0 (l,l,(l.length:Int),0)=_:=key
 rw[key,List.drop_zero];rfl
theorem neg_dec (a:Int):decide (a<0)=!decide (0≤a):=by
 by_cases c:0≤a
 ·have:¬a<0:=by omega
  simp[c,this]
 ·have:a<0:=by omega
  simp[c,this]
theorem spec_DirOk_l0 (l:List EntryT) (hl:l.length<2 ^ 62):lp ψ1n.l0 (l,0)=some (if riseE none l=true then .inl () else .inr false):=by
 have key:=lp_up (step:=ψ1n.l0) (fun n (_:Unit)=>(l,(n:Int))) l.length (fun n _=>if riseE (beforeE l n) (l.drop n)=true then .inl () else .inr false) (fun _ _=>True)
  (fun rec n s hn' _ ih=>by
   rcases Nat.lt_or_ge n l.length with h | h
   ·have hw:w64 ((n:Int)+1)=((n+1:Nat):Int):=w64_succ (by omega)
    have ih2:=ih () h trivial
    rw[beforeE_succ l n h] at ih2
    rw[List.drop_eq_getElem_cons h]
    simp only[riseE,ψ1n.l0,Int.ofNat_lt,h,decide_true,cond_true,inB_nat,rdA_nat,getD_lt h,Option.bind_some,spec_l1In_eq,spec_KeyOk_eq]
    unfold entryOk
    rw[neg_dec]
    rcases Bool.eq_false_or_eq_true (keyOk l[n].1) with k1 | k1
    rotate_left
    ·simp[k1]
    rcases Bool.eq_false_or_eq_true (decide (1≤l[n].2.1∧l[n].2.1≤100000)) with k2 | k2
    rotate_left
    ·simp only[k1,k2,Bool.not_true,Bool.not_false,cond_false,cond_true,Option.bind_some,caseS_r];simp
    rcases Bool.eq_false_or_eq_true (decide (0≤l[n].2.2.1)) with k3 | k3
    rotate_left
    ·simp only[k1,k2,k3,Bool.not_true,Bool.not_false,cond_false,cond_true,Option.bind_some,caseS_r];simp
    rcases Bool.eq_false_or_eq_true (decide (1≤l[n].2.2.2.1∧l[n].2.2.2.1≤210)) with k4 | k4
    rotate_left
    ·simp only[k1,k2,k3,k4,Bool.not_true,Bool.not_false,cond_false,cond_true,Option.bind_some,caseS_r];simp
    rcases Bool.eq_false_or_eq_true (decide (1≤l[n].2.2.2.2∧l[n].2.2.2.2≤1000000)) with k5 | k5
    rotate_left
    ·simp only[k1,k2,k3,k4,k5,Bool.not_true,Bool.not_false,cond_false,cond_true,Option.bind_some,caseS_r];simp
    simp only[k1,k2,k3,k4,k5,Bool.not_true,cond_false,Bool.true_and]
    cases n with
    | zero=>
     have z:¬((0:Nat):Int) > 0:=by omega
     simp only[z,decide_false,cond_false,Option.bind_some,caseS_l,hw,ih2,beforeE,Bool.true_and]
    | succ m=>
     have z:((m+1:Nat):Int) > 0:=by omega
     have hm:m<l.length:=by omega
     have z2:w64 (((m+1:Nat):Int) - 1)=(m:Int):=by rw[w64_id (by omega) (by omega)];omega
     have z3:(Op.bytesLess l[m+1].1 l[m].1 || l[m+1].1==l[m].1)=!Op.bytesLess l[m].1 l[m+1].1:=leK_not _ _
     rw[beforeE_succ l m hm]
     simp only[z,decide_true,cond_true,z2,inB_nat,hm,rdA_nat,getD_lt hm,z3]
     rcases Bool.eq_false_or_eq_true (Op.bytesLess l[m].1 l[m+1].1) with k6 | k6
     ·simp only[k6,Bool.not_true,cond_false,Option.bind_some,caseS_l,hw,ih2,Bool.true_and]
     ·simp[k6]
   ·have:n=l.length:=by omega
    subst this
    simp[ψ1n.l0,riseE])
  hl 0 () (Nat.zero_le _) trivial
 have key:lp ψ1n.l0 (l,0)=_:=key
 rw[key,List.drop_zero];rfl
theorem impl_DirOk_eq (l:List EntryT) (hl:l.length<2 ^ 62):ψ9.f l=some (dirOk l):=by
 unfold ψ9.f dirOk
 rw[impl_DirOk_l0 l hl,Option.bind_some]
 have e:decide ((l.length:Int)≤20)=decide (l.length≤20):=decide_eq_decide.2 (by omega)
 cases riseE none l<;>simp[e]
theorem spec_DirOk_eq (l:List EntryT) (hl:l.length<2 ^ 62):ψ1n.f l=some (dirOk l):=by
 unfold ψ1n.f dirOk
 rw[spec_DirOk_l0 l hl]
 by_cases c:l.length≤20
 ·have c1:¬(l.length:Int) > 20:=by omega
  simp only[c,c1,decide_true,decide_false,cond_false,Bool.and_true,Option.bind_some]
  cases riseE none l<;>rfl
 ·have c1:(l.length:Int) > 20:=by omega
  simp[c,c1]
noncomputable def segOk (d:DiskT) (size:Int) (last:Bool) (id:Int):Bool:=
 (fileText d (segName id)).2 && (decide ((scan (fileText d (segName id)).1).2=(fileText d (segName id)).1.length) && (!last || decide (size=((fileText d (segName id)).1.length:Int))))
noncomputable def segsOk (d:DiskT) (size:Int):List Int→Bool
 | []=>true
 | id::r=>segOk d size r.isEmpty id && segsOk d size r
noncomputable def entOk (d:DiskT) (batch:Int) (e:EntryT):Bool:=
 let r:=recAt (fileText d (segName e.2.1)).1 e.2.2.1 e.2.2.2.1
 r.2 && ((r.1.1==1 || r.1.1==4) && (r.1.2.2.1==e.1 && (r.1.2.1==e.2.2.2.2 && !decide (e.2.2.2.2≥batch))))
noncomputable def storeOk (s:StoreT) (d:DiskT):Bool:=
 diskOk d && (liveOk s.1 && (dirOk s.2.1 && (decide (1≤s.2.2.1∧s.2.2.1≤1000001) && (segsOk d s.2.2.2.1 s.1.2 && s.2.1.all (entOk d s.2.2.1)))))
theorem impl_StoreOk_l0 (s:StoreT) (d:DiskT) (h:dlim d) (hu:usedN d.1<1000000000) (hl:s.1.2.length<1000000000):lp ψo.l0 (s,d,s.1.2,(s.1.2.length:Int),0)=some (if segsOk d s.2.2.2.1 s.1.2=true then .inl (s,d) else .inr false):=by
 have key:=lp_up (step:=ψo.l0) (fun n (_:Unit)=>(s,d,s.1.2,(s.1.2.length:Int),(n:Int))) s.1.2.length (fun n _=>if segsOk d s.2.2.2.1 (s.1.2.drop n)=true then .inl (s,d) else .inr false) (fun _ _=>True)
  (fun rec n a hn _ ih=>by
   rcases Nat.lt_or_ge n s.1.2.length with h1 | h1
   ·have hw:=w64_succ (show n+1<9223372036854775808 by omega)
    have hw2:w64 ((s.1.2.length:Int) - 1)=(s.1.2.length:Int) - 1:=w64_id (by omega) (by omega)
    have hft:=fileText_len d (segName s.1.2[n]) h
    have ih:=ih () h1 trivial
    rw[List.drop_eq_getElem_cons h1]
    have hlast:(s.1.2.drop (n+1)).isEmpty=((n:Int)==(s.1.2.length:Int) - 1):=by
     by_cases c:n+1=s.1.2.length
     ·have c1:((n:Int)==(s.1.2.length:Int) - 1)=true:=by simp;omega
      rw[c1,c,List.drop_length];rfl
     ·have c1:((n:Int)==(s.1.2.length:Int) - 1)=false:=by simp;omega
      rw[c1]
      cases e:s.1.2.drop (n+1) with
      | nil=>rw[List.drop_eq_nil_iff] at e;omega
      | cons x r=>rfl
    simp only[segsOk,hlast,ψo.l0,Int.ofNat_lt,h1,decide_true,cond_true,inB_nat,rdA_nat,getD_lt h1,impl_SegName_eq,impl_FileText_eq d _ h,impl_ScanRecs_eq (fileText d (segName s.1.2[n])).1 (show (fileText d (segName s.1.2[n])).1.length<1000000000 by omega),Option.bind_some,hw2]
    unfold segOk
    cases hb:(fileText d (segName s.1.2[n])).2
    ·simp
    simp only[Bool.not_true,cond_false,Bool.true_and]
    by_cases c1:(scan (fileText d (segName s.1.2[n])).1).2=(fileText d (segName s.1.2[n])).1.length
    rotate_left
    ·have d1:(((scan (fileText d (segName s.1.2[n])).1).2:Int) != ((fileText d (segName s.1.2[n])).1.length:Int))=true:=by simp;omega
     simp only[d1,cond_true,Option.bind_some,caseS_r,c1,decide_false];simp
    have d1:(((scan (fileText d (segName s.1.2[n])).1).2:Int) != ((fileText d (segName s.1.2[n])).1.length:Int))=false:=by simp;omega
    simp only[c1,bne_self_eq_false,cond_false,decide_true,Bool.true_and]
    cases hz:((n:Int)==(s.1.2.length:Int) - 1)
    ·simp only[cond_false,Option.bind_some,caseS_l,hw,ih,Bool.not_false,Bool.true_or,Bool.true_and]
    ·by_cases c2:s.2.2.2.1=((fileText d (segName s.1.2[n])).1.length:Int)
     ·have d2:(s.2.2.2.1 != ((fileText d (segName s.1.2[n])).1.length:Int))=false:=by simpa using c2
      simp only[cond_true,d2,cond_false,Option.bind_some,caseS_l,hw,ih,Bool.not_true,Bool.false_or,decide_eq_true c2,Bool.true_and]
     ·have d2:(s.2.2.2.1 != ((fileText d (segName s.1.2[n])).1.length:Int))=true:=by simpa using c2
      simp only[cond_true,d2,Option.bind_some,caseS_r,Bool.not_true,Bool.false_or,decide_eq_false c2,Bool.false_and,Bool.false_eq_true,if_false]
   ·have:n=s.1.2.length:=by omega
    subst this
    simp[ψo.l0,segsOk])
  (by omega) 0 () (Nat.zero_le _) trivial
 have key:lp ψo.l0 (s,d,s.1.2,(s.1.2.length:Int),0)=_:=key
 rw[key,List.drop_zero]
theorem impl_StoreOk_l2 (s:StoreT) (d:DiskT) (h:dlim d) (hu:usedN d.1<1000000000) (hl:s.2.1.length<1000000000):lp ψo.l2 (s,d,s.2.1,(s.2.1.length:Int),0)=some (if s.2.1.all (entOk d s.2.2.1)=true then .inl () else .inr false):=by
 refine all_loop (step:=ψo.l2) s.2.1 (entOk d s.2.2.1) (fun n=>(s,d,s.2.1,(s.2.1.length:Int),(n:Int))) () (by omega) ?_ ?_
 ·intro rec n hn
  have hw:=w64_succ (show n+1<9223372036854775808 by omega)
  have hft:=fileText_len d (segName s.2.1[n].2.1) h
  simp only[ψo.l2,Int.ofNat_lt,hn,decide_true,cond_true,inB_nat,rdA_nat,getD_lt hn,impl_SegName_eq,impl_FileText_eq d _ h,impl_RecAt_eq (fileText d (segName s.2.1[n].2.1)).1 _ _ (show (fileText d (segName s.2.1[n].2.1)).1.length<1000000000 by omega),Option.bind_some,hw,entOk]
  obtain ⟨r,hr⟩:∃r,recAt (fileText d (segName s.2.1[n].2.1)).1 s.2.1[n].2.2.1 s.2.1[n].2.2.2.1=r:=⟨_,rfl⟩
  simp only[hr]
  rcases Bool.eq_false_or_eq_true r.2 with h1 | h1<;>rcases Bool.eq_false_or_eq_true (r.1.1==1) with h2 | h2<;>rcases Bool.eq_false_or_eq_true (r.1.1==4) with h3 | h3<;>rcases Bool.eq_false_or_eq_true (r.1.2.2.1==s.2.1[n].1) with h4 | h4<;>rcases Bool.eq_false_or_eq_true (r.1.2.1==s.2.1[n].2.2.2.2) with h5 | h5<;>rcases Bool.eq_false_or_eq_true (decide (s.2.1[n].2.2.2.2≥s.2.2.1)) with h6 | h6<;>simp only[bne,h1,h2,h3,h4,h5,h6,caseS_l,caseS_r,Bool.not_true,Bool.not_false,cond_true,cond_false,Option.bind_some,Bool.true_and,Bool.false_and,Bool.and_true,Bool.and_false,Bool.or_true,Bool.or_false,Bool.true_or,Bool.false_or,if_true,if_false,Bool.false_eq_true,hw]
 ·intro rec
  simp[ψo.l2]
theorem spec_StoreOk_l2 (s:StoreT) (d:DiskT) (h:dlim d) (hu:usedN d.1<1000000000) (hl:s.2.1.length<1000000000):lp ψ2S.l2 (s,d,0)=some (if s.2.1.all (entOk d s.2.2.1)=true then .inl () else .inr false):=by
 refine all_loop (step:=ψ2S.l2) s.2.1 (entOk d s.2.2.1) (fun n=>(s,d,(n:Int))) () (by omega) ?_ ?_
 ·intro rec n hn
  have hw:=w64_succ (show n+1<9223372036854775808 by omega)
  have hft:=fileText_len d (segName s.2.1[n].2.1) h
  simp only[ψ2S.l2,Int.ofNat_lt,hn,decide_true,cond_true,inB_nat,rdA_nat,getD_lt hn,spec_SegName_eq,spec_FileText_eq d _ h,spec_RecAt_eq (fileText d (segName s.2.1[n].2.1)).1 _ _ (show (fileText d (segName s.2.1[n].2.1)).1.length<1000000000 by omega),Option.bind_some,hw,entOk]
  obtain ⟨r,hr⟩:∃r,recAt (fileText d (segName s.2.1[n].2.1)).1 s.2.1[n].2.2.1 s.2.1[n].2.2.2.1=r:=⟨_,rfl⟩
  simp only[hr]
  rcases Bool.eq_false_or_eq_true r.2 with h1 | h1<;>rcases Bool.eq_false_or_eq_true (r.1.1==1) with h2 | h2<;>rcases Bool.eq_false_or_eq_true (r.1.1==4) with h3 | h3<;>rcases Bool.eq_false_or_eq_true (r.1.2.2.1==s.2.1[n].1) with h4 | h4<;>rcases Bool.eq_false_or_eq_true (r.1.2.1==s.2.1[n].2.2.2.2) with h5 | h5<;>rcases Bool.eq_false_or_eq_true (decide (s.2.1[n].2.2.2.2≥s.2.2.1)) with h6 | h6<;>simp only[bne,h1,h2,h3,h4,h5,h6,caseS_l,caseS_r,Bool.not_true,Bool.not_false,cond_true,cond_false,Option.bind_some,Bool.true_and,Bool.false_and,Bool.and_true,Bool.and_false,Bool.or_true,Bool.or_false,Bool.true_or,Bool.false_or,if_true,if_false,Bool.false_eq_true,hw]
 ·intro rec
  simp[ψ2S.l2]
theorem spec_StoreOk_l0 (s:StoreT) (d:DiskT) (h:dlim d) (hu:usedN d.1<1000000000) (hl:s.1.2.length<1000000000):lp ψ2S.l0 (s,d,0)=some (if segsOk d s.2.2.2.1 s.1.2=true then .inl (s,d) else .inr false):=by
 have key:=lp_up (step:=ψ2S.l0) (fun n (_:Unit)=>(s,d,(n:Int))) s.1.2.length (fun n _=>if segsOk d s.2.2.2.1 (s.1.2.drop n)=true then .inl (s,d) else .inr false) (fun _ _=>True)
  (fun rec n a hn _ ih=>by
   rcases Nat.lt_or_ge n s.1.2.length with h1 | h1
   ·have hw:=w64_succ (show n+1<9223372036854775808 by omega)
    have hft:=fileText_len d (segName s.1.2[n]) h
    have hsl:=(scan_len (fileText d (segName s.1.2[n])).1).1
    have ih:=ih () h1 trivial
    rw[List.drop_eq_getElem_cons h1]
    have hlast:(s.1.2.drop (n+1)).isEmpty=(((n+1:Nat):Int)==(s.1.2.length:Int)):=by
     by_cases c:n+1=s.1.2.length
     ·have c1:(((n+1:Nat):Int)==(s.1.2.length:Int))=true:=by simp;omega
      rw[c1,c,List.drop_length];rfl
     ·have c1:(((n+1:Nat):Int)==(s.1.2.length:Int))=false:=by simp;omega
      rw[c1]
      cases e:s.1.2.drop (n+1) with
      | nil=>rw[List.drop_eq_nil_iff] at e;omega
      | cons x r=>rfl
    simp only[segsOk,hlast,ψ2S.l0,Int.ofNat_lt,h1,decide_true,cond_true,inB_nat,rdA_nat,getD_lt h1,spec_SegName_eq,spec_FileText_eq d _ h,spec_ScanRecs_eq (fileText d (segName s.1.2[n])).1 (show (fileText d (segName s.1.2[n])).1.length<1000000000 by omega),Option.bind_some,hw]
    unfold segOk
    cases hb:(fileText d (segName s.1.2[n])).2
    ·simp
    simp only[Bool.not_true,cond_false,Bool.true_and]
    by_cases c1:(scan (fileText d (segName s.1.2[n])).1).2=(fileText d (segName s.1.2[n])).1.length
    rotate_left
    ·have d1:(scan (fileText d (segName s.1.2[n])).1).2<(fileText d (segName s.1.2[n])).1.length:=by omega
     simp only[d1,decide_true,cond_true,Option.bind_some,caseS_r,c1,decide_false];simp
    simp only[c1,Nat.lt_irrefl,decide_false,cond_false,decide_true,Bool.true_and]
    cases hz:(((n+1:Nat):Int)==(s.1.2.length:Int))
    ·simp only[cond_false,Option.bind_some,caseS_l,hw,ih,Bool.not_false,Bool.true_or,Bool.true_and]
    ·by_cases c2:s.2.2.2.1=((fileText d (segName s.1.2[n])).1.length:Int)
     ·have d2:(s.2.2.2.1 != ((fileText d (segName s.1.2[n])).1.length:Int))=false:=by simpa using c2
      simp only[cond_true,d2,cond_false,Option.bind_some,caseS_l,hw,ih,Bool.not_true,Bool.false_or,decide_eq_true c2,Bool.true_and]
     ·have d2:(s.2.2.2.1 != ((fileText d (segName s.1.2[n])).1.length:Int))=true:=by simpa using c2
      simp only[cond_true,d2,Option.bind_some,caseS_r,Bool.not_true,Bool.false_or,decide_eq_false c2,Bool.false_and,Bool.false_eq_true,if_false]
   ·have:n=s.1.2.length:=by omega
    subst this
    simp[ψ2S.l0,segsOk])
  (by omega) 0 () (Nat.zero_le _) trivial
 have key:lp ψ2S.l0 (s,d,0)=_:=key
 rw[key,List.drop_zero]
theorem impl_StoreOk_eq (s:StoreT) (d:DiskT) (h:dlim d) (hu:usedN d.1<1000000000) (h1:s.1.2.length<1000000000) (h2:s.2.1.length<1000000000):ψo.f s d=some (storeOk s d):=by
 unfold ψo.f storeOk
 rw[impl_DiskOk_eq d h,impl_LiveOk_eq s.1 (by omega),impl_DirOk_eq s.2.1 (by omega),impl_in_eq,impl_StoreOk_l0 s d h hu h1]
 simp only[Option.bind_some]
 cases diskOk d<;>simp only[Bool.not_true,Bool.not_false,cond_true,cond_false,Bool.true_and,Bool.false_and]
 cases liveOk s.1<;>simp only[Bool.not_true,Bool.not_false,cond_true,cond_false,Bool.true_and,Bool.false_and]
 cases dirOk s.2.1<;>simp only[Bool.not_true,Bool.not_false,cond_true,cond_false,Bool.true_and,Bool.false_and]
 cases decide (1≤s.2.2.1∧s.2.2.1≤1000001)<;>simp only[Bool.not_true,Bool.not_false,cond_true,cond_false,Bool.true_and,Bool.false_and]
 cases segsOk d s.2.2.2.1 s.1.2<;>simp only[if_true,if_false,Bool.false_eq_true,caseS_l,caseS_r,Bool.true_and,Bool.false_and]
 rw[impl_StoreOk_l2 s d h hu h2,Option.bind_some]
 cases s.2.1.all (entOk d s.2.2.1)<;>simp only[if_true,if_false,Bool.false_eq_true,caseS_l,caseS_r]
theorem spec_StoreOk_eq (s:StoreT) (d:DiskT) (h:dlim d) (hu:usedN d.1<1000000000) (h1:s.1.2.length<1000000000) (h2:s.2.1.length<1000000000):ψ2S.f s d=some (storeOk s d):=by
 unfold ψ2S.f storeOk
 rw[spec_DiskOk_eq d h,spec_LiveOk_eq s.1 (by omega),spec_DirOk_eq s.2.1 (by omega),spec_l1In_eq,spec_StoreOk_l0 s d h hu h1]
 simp only[Option.bind_some]
 cases diskOk d<;>simp only[Bool.not_true,Bool.not_false,cond_true,cond_false,Bool.true_and,Bool.false_and]
 cases liveOk s.1<;>simp only[Bool.not_true,Bool.not_false,cond_true,cond_false,Bool.true_and,Bool.false_and]
 cases dirOk s.2.1<;>simp only[Bool.not_true,Bool.not_false,cond_true,cond_false,Bool.true_and,Bool.false_and]
 cases decide (1≤s.2.2.1∧s.2.2.1≤1000001)<;>simp only[Bool.not_true,Bool.not_false,cond_true,cond_false,Bool.true_and,Bool.false_and]
 cases segsOk d s.2.2.2.1 s.1.2<;>simp only[if_true,if_false,Bool.false_eq_true,caseS_l,caseS_r,Bool.true_and,Bool.false_and]
 rw[spec_StoreOk_l2 s d h hu h2,Option.bind_some]
 cases s.2.1.all (entOk d s.2.2.1)<;>simp only[if_true,if_false,Bool.false_eq_true,caseS_l,caseS_r]
theorem pw_rise:∀(l:List FileT) (p:List UInt8),(∀x∈l,Op.bytesLess p x.1=true)→srt l→riseF (some p) l=true
 | [],_,_,_=>rfl
 | f::l,p,h,hs=>by
  simp only[riseF,h f List.mem_cons_self,Bool.true_and]
  have hs2:=List.pairwise_cons.1 hs
  exact pw_rise l f.1 hs2.1 hs2.2
theorem pw_rise0 (l:List FileT) (hs:srt l):riseF none l=true:=by
 cases l with
 | nil=>rfl
 | cons f l=>
  have hs2:=List.pairwise_cons.1 hs
  exact pw_rise l f.1 hs2.1 hs2.2
def okF (cap:Int) (l:List FileT):Prop:=l.length≤130∧(usedN l:Int)≤cap∧(∀f∈l,fileOk f=true)∧srt l
theorem diskOk_iff (d:DiskT):diskOk d=true↔(0≤d.2.1∧d.2.1≤100000)∧(-1≤d.2.2.1∧d.2.2.1≤100000)∧okF d.2.1 d.1:=by
 unfold diskOk okF filesOk
 simp only[Bool.and_eq_true,decide_eq_true_eq,List.all_eq_true]
 constructor
 ·rintro ⟨h1,h2,h3,h4,h5,h6⟩
  exact ⟨h2,h3,h1,h4,h5,rise_pw0 _ h6⟩
 ·rintro ⟨h2,h3,h1,h4,h5,h6⟩
  exact ⟨h1,h2,h3,h4,h5,pw_rise0 _ h6⟩
theorem dk_tick {d:DiskT} (h:diskOk d=true):diskOk (tick d)=true:=by
 rw[diskOk_iff] at h ⊢
 obtain ⟨h1,h2,h3⟩:=h
 rw[tick_cap,tick_fst]
 refine ⟨h1,?_,h3⟩
 unfold tick;split
 ·exact ⟨by show -1≤d.2.2.1 - 1;omega,by show d.2.2.1 - 1≤100000;omega⟩
 ·exact h2
theorem dk_dstep {d:DiskT} {act:List FileT→Int×List FileT} (h:diskOk d=true) (ha:okF d.2.1 d.1→okF d.2.1 (act d.1).2):diskOk (dstep d act).1=true:=by
 have ht:=dk_tick h
 rw[diskOk_iff] at h ht
 unfold dstep
 split
 ·rename_i k;rw[(diskOk_iff d).2 h] at k;exact absurd k (by simp)
 ·split
  ·exact (diskOk_iff _).2 h
  ·refine (diskOk_iff _).2 ⟨?_,ht.2.1,?_⟩
   ·show 0≤(tick d).2.1∧(tick d).2.1≤100000
    exact ht.1
   ·show okF (tick d).2.1 (act d.1).2
    rw[tick_cap];exact ha h.2.2
theorem okF_sub {cap:Int} {l m:List FileT} (h:okF cap l) (hs:m.Sublist l):okF cap m:=by
 have:=sumN_sub (fun f:FileT=>f.2.1.length) hs
 have:=hs.length_le
 have h2:=h.2.1
 refine ⟨by have:=h.1;omega,?_,fun f hf=>h.2.2.1 f (hs.subset hf),h.2.2.2.sublist hs⟩
 unfold usedN at *;omega
theorem usedN_insB (l:List FileT) (f:FileT):usedN (insB l f)=usedN l+f.2.1.length:=by
 unfold usedN
 induction l with
 | nil=>simp[insB,sumN]
 | cons x l ih=>
  rw[insB_cons]
  split
  ·simp only[sumN,ih];omega
  ·simp only[sumN];omega
theorem usedN_remIx (l:List FileT) (i:Nat) (h:i<l.length):usedN (remIx l i)+l[i].2.1.length=usedN l:=by
 unfold usedN remIx
 induction l generalizing i with
 | nil=>simp at h
 | cons x l ih=>
  cases i with
  | zero=>simp only[List.take_zero,List.drop_succ_cons,List.drop_zero,List.nil_append,List.getElem_cons_zero,sumN];omega
  | succ i=>
   have:=ih i (by simpa using h)
   simp only[List.take_succ_cons,List.drop_succ_cons,List.cons_append,sumN,List.getElem_cons_succ] at *
   omega
theorem usedN_set2 (l:List FileT) (i:Nat) (f:FileT) (h:i<l.length):usedN (l.set i f)+l[i].2.1.length=usedN l+f.2.1.length:=by
 unfold usedN
 induction l generalizing i with
 | nil=>simp at h
 | cons x l ih=>
  cases i with
  | zero=>simp only[List.set_cons_zero,List.getElem_cons_zero,sumN];omega
  | succ i=>
   have:=ih i (by simpa using h)
   simp only[List.set_cons_succ,sumN,List.getElem_cons_succ] at *
   omega
theorem srtF_set {α:Type} {l:List (List UInt8×α)} (h:srt l) (i:Nat) (hi:i<l.length) (f:List UInt8×α) (hf:f.1=l[i].1):srt (l.set i f):=by
 unfold srt at *
 have e:(l.set i f).map (·.1)=l.map (·.1):=by
  apply List.ext_getElem
  ·simp
  ·intro n h1 h2
   simp only[List.getElem_map,List.getElem_set]
   split
   ·rename_i c;subst c;exact hf
   ·rfl
 have h2:(l.map (·.1)).Pairwise (fun a b=>Op.bytesLess a b=true):=List.pairwise_map.2 h
 rw[←e] at h2
 exact List.pairwise_map.1 h2
theorem okF_set {cap:Int} {l:List FileT} (h:okF cap l) (i:Nat) (hi:i<l.length) (f:FileT) (hn:f.1=l[i].1) (hf:fileOk f=true) (hu:(usedN l:Int)+f.2.1.length - l[i].2.1.length≤cap):okF cap (l.set i f):=by
 have:=usedN_set2 l i f hi
 refine ⟨by rw[List.length_set];exact h.1,by omega,fun g hg=>?_,srtF_set h.2.2.2 i hi f hn⟩
 rcases List.mem_or_eq_of_mem_set hg with hg | e
 ·exact h.2.2.1 g hg
 ·rw[e];exact hf
theorem okF_ins {cap:Int} {l:List FileT} (h:okF cap l) (f:FileT) (h1:l.length<130) (hne:∀x∈l,x.1≠f.1) (hf:fileOk f=true) (hu:(usedN l:Int)+f.2.1.length≤cap):okF cap (insB l f):=by
 refine ⟨by rw[insB_len];omega,by rw[usedN_insB];omega,fun g hg=>?_,srt_insB f l h.2.2.2 hne⟩
 rcases (mem_insB g f l).1 hg with e | hg
 ·rw[e];exact hf
 ·exact h.2.2.1 g hg
theorem dk_Remove {d:DiskT} (h:diskOk d=true) (n:List UInt8):diskOk (dRemove n d).1=true:=
 dk_dstep h fun k=>by
  unfold actRemove;split
  ·exact okF_sub k (remIx_sub _ _)
  ·exact k
theorem dk_Gone {d:DiskT} (h:diskOk d=true) (n:List UInt8):diskOk (dGone n d).1=true:=by
 unfold dGone;split
 ·exact dk_Remove h n
 ·exact h
theorem dk_Create {d:DiskT} (h:diskOk d=true) (n:List UInt8):diskOk (dCreate n d).1=true:=
 dk_dstep h fun k=>by
  unfold actCreate;split
  ·exact k
  ·rename_i k1
   split
   ·exact k
   ·rename_i k2
    split
    ·exact k
    ·rename_i k3
     rcases fileIx_cases d.1 n with ⟨e,hno⟩ | ⟨i,hi,e,_⟩
     ·refine okF_ins k _ (by omega) hno ?_ (by have:=k.2.1;simp;exact this)
      unfold fileOk;simp at k1 ⊢;exact k1
     ·omega
theorem dk_Append {d:DiskT} (h:diskOk d=true) (n t:List UInt8):diskOk (dAppend n t d).1=true:=
 dk_dstep h fun k=>by
  unfold actAppend
  rcases fileIx_cases d.1 n with ⟨e,_⟩ | ⟨i,hi,e,_⟩
  ·rw[ix_none e];exact k
  ·rw[ix_some e]
   simp only
   split
   ·exact k
   ·rename_i k1
    rw[getD_lt hi]
    refine okF_set k i hi _ rfl ?_ ?_
    ·have:=k.2.2.1 _ (List.getElem_mem hi)
     unfold fileOk at *
     simp only[Bool.and_eq_true,decide_eq_true_eq,List.length_append] at *
     exact ⟨this.1,by omega,by omega⟩
    ·simp only[List.length_append];omega
theorem dk_Sync {d:DiskT} (h:diskOk d=true) (n:List UInt8):diskOk (dSync n d).1=true:=
 dk_dstep h fun k=>by
  unfold actSync
  rcases fileIx_cases d.1 n with ⟨e,_⟩ | ⟨i,hi,e,_⟩
  ·rw[ix_none e];exact k
  ·rw[ix_some e]
   simp only
   rw[getD_lt hi]
   refine okF_set k i hi _ rfl ?_ ?_
   ·have:=k.2.2.1 _ (List.getElem_mem hi)
    unfold fileOk at *
    simp only[Bool.and_eq_true,decide_eq_true_eq] at *
    exact ⟨this.1,by omega,by omega⟩
   ·have:=k.2.1;simp only;omega
theorem dk_Trunc {d:DiskT} (h:diskOk d=true) (n:List UInt8) (z:Int):diskOk (dstep d (actTrunc n z)).1=true:=
 dk_dstep h fun k=>by
  unfold actTrunc
  rcases fileIx_cases d.1 n with ⟨e,_⟩ | ⟨i,hi,e,_⟩
  ·rw[ix_none e];exact k
  ·rw[ix_some e]
   simp only
   rw[getD_lt hi]
   split
   ·rename_i k1
    refine okF_set k i hi _ rfl ?_ ?_
    ·have:=k.2.2.1 _ (List.getElem_mem hi)
     unfold fileOk at *
     simp only[Bool.and_eq_true,decide_eq_true_eq,List.length_take] at *
     exact ⟨this.1,by omega,by omega⟩
    ·have:=k.2.1
     simp only[List.length_take];omega
   ·exact k
theorem dk_Rename {d:DiskT} (h:diskOk d=true) (a b:List UInt8):diskOk (dRename a b d).1=true:=
 dk_dstep h fun k=>by
  unfold actRename
  split
  ·exact k
  ·rename_i k0
   rcases fileIx_cases d.1 a with ⟨e,_⟩ | ⟨i,hi,e,_⟩
   ·rw[ix_none e];exact k
   ·rw[ix_some e]
    simp only
    split
    ·exact k
    ·rw[getD_lt hi]
     have hs:(dropF (remIx d.1 i) b).Sublist d.1:=(dropF_sub _ _).trans (remIx_sub _ _)
     have h2:=usedN_remIx d.1 i hi
     have h3:=remIx_len hi
     have h4:=dropF_len (remIx d.1 i) b
     have h5:usedN (dropF (remIx d.1 i) b)≤usedN (remIx d.1 i):=sumN_sub (fun f:FileT=>f.2.1.length) (dropF_sub _ _)
     have k1:=k.1
     have k2:=k.2.1
     refine okF_ins (okF_sub k hs) _ (by omega) (dropF_ne (k.2.2.2.sublist (remIx_sub d.1 i))) ?_ (by simp only;omega)
     have:=k.2.2.1 _ (List.getElem_mem hi)
     unfold fileOk at *
     simp only[Bool.and_eq_true,decide_eq_true_eq,Bool.not_eq_false] at *
     exact ⟨k0,this.2⟩
theorem dk_sstep {w:WorkT} {op:DiskT→DiskT×Int} (h:diskOk w.1=true) (ho:diskOk w.1=true→diskOk (op w.1).1=true):diskOk (sstep op w).1=true:=by
 unfold sstep;split
 ·exact ho h
 ·exact h
theorem dk_wstep {w:WorkT} {op:DiskT→DiskT×Int} (h:diskOk w.1=true) (ho:diskOk w.1=true→diskOk (op w.1).1=true):diskOk (wstep op w).1=true:=by
 unfold wstep;split
 ·exact ho h
 ·exact h
theorem dk_sFile {w:WorkT} (h:diskOk w.1=true) (n t:List UInt8):diskOk (sFile n t w).1=true:=
 dk_sstep (op:=dSync n) (dk_sstep (op:=dAppend n t) (dk_sstep (op:=dCreate n) (dk_sstep (op:=dGone n) h fun k=>dk_Gone k n) fun k=>dk_Create k n) fun k=>dk_Append k n t) fun k=>dk_Sync k n
theorem dk_sPut {w:WorkT} (h:diskOk w.1=true) (v:LiveT):diskOk (sPut v w).1=true:=
 dk_sstep (op:=dRename _ _) (dk_sFile h _ _) fun k=>dk_Rename k _ _
theorem dl_dk {d:DiskT} (h:diskOk d=true):dl 100001 d:=by
 rw[diskOk_iff] at h
 obtain ⟨h1,h2,h3,h4,h5,h6⟩:=h
 refine ⟨by omega,by omega,fun f hf=>?_⟩
 have:=h5 f hf
 unfold fileOk at this
 simp only[Bool.and_eq_true] at this
 have:=nameOk_len this.1
 omega
theorem lim16 {a:Nat} (h:a<1000000000001):(a+1) * 16≤140737488355328:=by omega
theorem impl_DirKeys_eq (l:List EntryT) (hl:l.length<1000000000):ψ8.f l=some (l.map (·.1)):=by
 have key:=lp_up (step:=ψ8.l0) (fun n (acc:List (List UInt8))=>(acc,l,(l.length:Int),(n:Int))) l.length (fun n acc=>acc++(l.drop n).map (·.1)) (fun n acc=>acc.length=n)
  (fun rec n acc hn ha ih=>by
   rcases Nat.lt_or_ge n l.length with h | h
   ·have hw:=w64_succ (show n+1<9223372036854775808 by omega)
    have hb:(acc.length+([l[n].1]:List (List UInt8)).length) * 16≤140737488355328:=lim16 (by omega)
    have ih:=ih (acc++[l[n].1]) h (by rw[List.length_append,ha];rfl)
    simp only[ψ8.l0,Int.ofNat_lt,h,decide_true,cond_true,inB_nat,rdA_nat,getD_lt h,hb,hw,ih]
    rw[List.drop_eq_getElem_cons h,List.map_cons,List.append_assoc];rfl
   ·have:n=l.length:=by omega
    subst this
    simp[ψ8.l0])
  (by omega) 0 [] (Nat.zero_le _) rfl
 have key:lp ψ8.l0 ([],l,(l.length:Int),0)=_:=key
 unfold ψ8.f
 rw[key,Option.bind_some]
 simp
noncomputable def dumpL (s:StoreT) (d:DiskT):List EntryT→List PairT→List PairT×Int
 | [],acc=>(acc,0)
 | e::r,acc=>if (getP s d e.1).2≠0 then ([],(getP s d e.1).2) else dumpL s d r (acc++[(getP s d e.1).1])
noncomputable def dumpP (s:StoreT) (d:DiskT):List PairT×Int:=dumpL s d s.2.1 []
theorem dumpL_len (s:StoreT) (d:DiskT):∀(l:List EntryT) (acc:List PairT),(dumpL s d l acc).1.length≤acc.length+l.length
 | [],acc=>by simp[dumpL]
 | e::r,acc=>by
  unfold dumpL;split
  ·simp
  ·have:=dumpL_len s d r (acc++[(getP s d e.1).1])
   simp only[List.length_append,List.length_cons,List.length_nil] at *;omega
theorem dumpP_len (s:StoreT) (d:DiskT):(dumpP s d).1.length≤s.2.1.length:=by
 have:=dumpL_len s d s.2.1 []
 unfold dumpP
 simpa using this
theorem spec_Dump_eq (s:StoreT) (d:DiskT) (h:dlim d) (hu:usedN d.1<1000000000) (hs:s.2.1.length<1000000000):ψ1s.f s d=some (dumpP s d):=by
 have key:=lp_up (step:=ψ1s.l0) (fun n (acc:List PairT)=>(s,d,acc,(n:Int))) s.2.1.length (fun n acc=>if (dumpL s d (s.2.1.drop n) acc).2=0 then .inl (dumpL s d (s.2.1.drop n) acc).1 else .inr ([],(dumpL s d (s.2.1.drop n) acc).2)) (fun n acc=>acc.length=n)
  (fun rec n acc hn ha ih=>by
   rcases Nat.lt_or_ge n s.2.1.length with h1 | h1
   ·have hw:=w64_succ (show n+1<9223372036854775808 by omega)
    rw[List.drop_eq_getElem_cons h1]
    simp only[ψ1s.l0,Int.ofNat_lt,h1,decide_true,cond_true,inB_nat,rdA_nat,getD_lt h1,hw,spec_Get_eq s d _ h hu (show s.2.1.length<2 ^ 62 by omega),Option.bind_some,dumpL]
    by_cases c:(getP s d (s.2.1[n]).1).2=0
    ·have c1:((getP s d (s.2.1[n]).1).2 != 0)=false:=by simpa using c
     have hb:(acc.length+([(getP s d (s.2.1[n]).1).1]:List PairT).length) * 40≤140737488355328:=lim40 (by omega)
     have ih:=ih (acc++[(getP s d (s.2.1[n]).1).1]) h1 (by rw[List.length_append,ha];rfl)
     simp only[c1,cond_false,hb,decide_true,cond_true,ih,c,ne_eq,not_true_eq_false,if_false,bne_self_eq_false]
    ·have c1:((getP s d (s.2.1[n]).1).2 != 0)=true:=by simpa using c
     simp only[c1,cond_true,c,ne_eq,not_false_eq_true,if_true,if_false]
   ·have:n=s.2.1.length:=by omega
    subst this
    simp[ψ1s.l0,dumpL])
  (by omega) 0 [] (Nat.zero_le _) rfl
 have key:lp ψ1s.l0 (s,d,[],0)=_:=key
 unfold ψ1s.f dumpP
 rw[key,Option.bind_some,List.drop_zero]
 have hz:∀(l:List EntryT) (acc:List PairT),(dumpL s d l acc).2≠0→(dumpL s d l acc).1=[]:=by
  intro l
  induction l with
  | nil=>intro acc hh;simp[dumpL] at hh
  | cons e r ih=>
   intro acc hh
   unfold dumpL at hh ⊢
   split
   ·rfl
   ·rename_i c;rw[if_neg c] at hh;exact ih _ hh
 have hz':=hz s.2.1 []
 generalize dumpL s d s.2.1 []=R at hz' ⊢
 obtain ⟨L,c⟩:=R
 by_cases e:c=0
 ·subst e;rfl
 ·have:=hz' e
  simp only at this
  subst this
  simp[e]
theorem impl_Dump_eq (s:StoreT) (d:DiskT) (h:dlim d) (hu:usedN d.1<1000000000) (hs:s.2.1.length<1000000000):ψF.f s d=some (dumpP s d):=by
 have hkl:(s.2.1.map (·.1)).length=s.2.1.length:=List.length_map _
 have key:=lp_up (step:=ψF.l0) (fun n (acc:List PairT)=>(s,d,acc,s.2.1.map (·.1),((s.2.1.map (·.1)).length:Int),(n:Int))) s.2.1.length (fun n acc=>if (dumpL s d (s.2.1.drop n) acc).2=0 then .inl (dumpL s d (s.2.1.drop n) acc).1 else .inr ([],(dumpL s d (s.2.1.drop n) acc).2)) (fun n acc=>acc.length=n)
  (fun rec n acc hn ha ih=>by
   rcases Nat.lt_or_ge n s.2.1.length with h1 | h1
   ·have hw:=w64_succ (show n+1<9223372036854775808 by omega)
    have h2:n<(s.2.1.map (·.1)).length:=by rw[hkl];exact h1
    rw[List.drop_eq_getElem_cons h1]
    simp only[ψF.l0,Int.ofNat_lt,h2,decide_true,cond_true,inB_nat,rdA_nat,getD_lt h2,List.getElem_map,hw,impl_Get_eq s d _ h hu (show s.2.1.length<2 ^ 62 by omega),Option.bind_some,dumpL]
    by_cases c:(getP s d (s.2.1[n]).1).2=0
    ·have c1:((getP s d (s.2.1[n]).1).2 != 0)=false:=by simpa using c
     have hb:(acc.length+([(getP s d (s.2.1[n]).1).1]:List PairT).length) * 40≤140737488355328:=lim40 (by omega)
     have ih:=ih (acc++[(getP s d (s.2.1[n]).1).1]) h1 (by rw[List.length_append,ha];rfl)
     simp only[c1,cond_false,hb,decide_true,cond_true,ih,c,ne_eq,not_true_eq_false,if_false,bne_self_eq_false]
    ·have c1:((getP s d (s.2.1[n]).1).2 != 0)=true:=by simpa using c
     simp only[c1,cond_true,c,ne_eq,not_false_eq_true,if_true,if_false]
   ·have:n=s.2.1.length:=by omega
    subst this
    simp[ψF.l0,dumpL])
  (by omega) 0 [] (Nat.zero_le _) rfl
 have key:lp ψF.l0 (s,d,[],s.2.1.map (·.1),((s.2.1.map (·.1)).length:Int),0)=_:=key
 unfold ψF.f dumpP
 rw[impl_DirKeys_eq _ hs,Option.bind_some,key,Option.bind_some,List.drop_zero]
 have hz:∀(l:List EntryT) (acc:List PairT),(dumpL s d l acc).2≠0→(dumpL s d l acc).1=[]:=by
  intro l
  induction l with
  | nil=>intro acc hh;simp[dumpL] at hh
  | cons e r ih=>
   intro acc hh
   unfold dumpL at hh ⊢
   split
   ·rfl
   ·rename_i c;rw[if_neg c] at hh;exact ih _ hh
 have hz':=hz s.2.1 []
 generalize dumpL s d s.2.1 []=R at hz' ⊢
 obtain ⟨L,c⟩:=R
 by_cases e:c=0
 ·subst e;rfl
 ·have:=hz' e
  simp only at this
  subst this
  simp[e]
theorem idsOk_snoc {hi hi':Int} (x:Int) (h1:hi≤hi') (h2:1≤x∧x≤hi'):∀(l:List Int) (p:Option Int),idsOk hi p l=true→(∀y∈l,y<x)→(∀q,p=some q→q<x)→idsOk hi' p (l++[x])=true
 | [],p,_,_,hp=>by
  cases p with
  | none=>simp[idsOk,h2]
  | some q=>simp[idsOk,h2,hp q rfl]
 | y::l,p,h,hl,_=>by
  simp only[idsOk,Bool.and_eq_true,decide_eq_true_eq] at h
  have ih:=idsOk_snoc x h1 h2 l (some y) h.2.2 (fun z hz=>hl z (List.mem_cons_of_mem _ hz)) (fun q hq=>by injection hq with hq;subst hq;exact hl y List.mem_cons_self)
  simp only[List.cons_append,idsOk,Bool.and_eq_true,decide_eq_true_eq]
  exact ⟨⟨h.1.1,by omega⟩,h.2.1,ih⟩
theorem idsOk_mem {hi:Int}:∀(l:List Int) (p:Option Int),idsOk hi p l=true→∀y∈l,1≤y∧y≤hi
 | [],_,_,y,hy=>by simp at hy
 | x::l,p,h,y,hy=>by
  simp only[idsOk,Bool.and_eq_true,decide_eq_true_eq] at h
  rcases List.mem_cons.1 hy with e | hy
  ·subst e;exact h.1
  ·exact idsOk_mem l (some x) h.2.2 y hy
theorem liveOk_iff (v:LiveT):liveOk v=true↔idsOk (w64 (v.1 - 1)) none v.2=true∧(1≤v.1∧v.1≤100000)∧1≤v.2.length∧v.2.length≤60:=by
 unfold liveOk
 simp only[Bool.and_eq_true,decide_eq_true_eq]
 constructor
 ·rintro ⟨h1,h2,h3⟩;exact ⟨h1,h2,by omega,by omega⟩
 ·rintro ⟨h1,h2,h3⟩;exact ⟨h1,h2,by omega,by omega⟩
theorem liveOk_more {v:LiveT} (h:liveOk v=true) (h1:v.2.length<60) (h2:v.1<100000):liveOk (v.1+1,v.2++[v.1])=true:=by
 rw[liveOk_iff] at h ⊢
 obtain ⟨k1,k2,k3⟩:=h
 rw[w64_id (by omega) (by omega)] at k1
 have hm:=idsOk_mem _ _ k1
 refine ⟨?_,by simp only;omega,by simp only[List.length_append,List.length_cons,List.length_nil];omega⟩
 simp only
 rw[w64_id (by omega) (by omega)]
 exact idsOk_snoc v.1 (by omega) (by omega) v.2 none k1 (fun y hy=>by have:=hm y hy;omega) (fun q hq=>by cases hq)
def sDrop (names:List (List UInt8)) (w:WorkT):WorkT:=names.foldl (fun w n=>sstep (dGone n) w) w
def wDrop (names:List (List UInt8)) (w:WorkT):WorkT:=names.foldl (fun w n=>wstep (dGone n) w) w
theorem wDrop_told (names:List (List UInt8)):∀w:WorkT,wDrop names (toldW w)=toldW (sDrop names w):=by
 induction names with
 | nil=>intro w;rfl
 | cons n l ih=>
  intro w
  show wDrop l (wstep (dGone n) (toldW w))=toldW (sDrop l (sstep (dGone n) w))
  rw[wstep_told,ih]
theorem sDrop_ne (names:List (List UInt8)) {d:DiskT} {c:Int} (h:c≠0):sDrop names (d,c)=(d,c):=by
 induction names with
 | nil=>rfl
 | cons n l ih=>show sDrop l (sstep (dGone n) (d,c))=_;rw[sstep_ne h,ih]
theorem dk_sDrop (names:List (List UInt8)):∀{w:WorkT},diskOk w.1=true→diskOk (sDrop names w).1=true:=by
 induction names with
 | nil=>intro w h;exact h
 | cons n l ih=>intro w h;exact ih (dk_sstep (op:=dGone n) h fun k=>dk_Gone k n)
def cleanW (names:List (List UInt8)) (w:WorkT):WorkT:=
 if w.2=2 then (if (toldW (sDrop names (w.1,0))).2=0 then ((toldW (sDrop names (w.1,0))).1,2) else toldW (sDrop names (w.1,0))) else w
theorem dk_cleanW (names:List (List UInt8)) {w:WorkT} (h:diskOk w.1=true):diskOk (cleanW names w).1=true:=by
 have:=dk_sDrop names (w:=(w.1,0)) h
 unfold cleanW;split
 ·split
  ·exact this
  ·exact this
 ·exact h
theorem impl_clean_eq (w:WorkT) (names:List (List UInt8)) (h:diskOk w.1=true) (hn:names.length<1000):ψ1O.f w names=some (cleanW names w):=by
 unfold ψ1O.f cleanW
 by_cases c:w.2=2
 rotate_left
 ·have c1:(w.2 != 2)=true:=by simpa using c
  simp[c,c1]
 have key:=fold_loop (step:=ψ1O.l0) names (fun (w:WorkT) n=>wstep (dGone n) w) (fun n (a:WorkT)=>((([],w.1.2),w.2),a,names,(names.length:Int),(n:Int))) (fun a=>((([],w.1.2),w.2),a)) (fun _ a=>diskOk a.1=true) (by omega)
  (fun rec n a h1 ha=>by
   have hw:=w64_succ (show n+1<9223372036854775808 by omega)
   simp only[ψ1O.l0,Int.ofNat_lt,h1,decide_true,cond_true,inB_nat,rdA_nat,getD_lt h1,w_gone_eq a names[n] (dl_dk ha) (by omega),Option.bind_some,hw])
  (fun n a h1 ha=>dk_wstep (op:=dGone names[n]) ha fun k=>dk_Gone k _)
  (fun rec a ha=>by simp[ψ1O.l0])
  (w.1,0) h
 have key:lp ψ1O.l0 ((([],w.1.2),w.2),(w.1,0),names,(names.length:Int),0)=some ((([],w.1.2),w.2),wDrop names (w.1,0)):=key
 have e:wDrop names (w.1,0)=toldW (sDrop names (w.1,0)):=wDrop_told names (w.1,0)
 have c1:(w.2 != 2)=false:=by simpa using c
 rw[c1,cond_false,key,Option.bind_some,e]
 generalize toldW (sDrop names (w.1,0))=r
 obtain ⟨x,k⟩:=r
 by_cases c2:k=0
 ·subst c2;simp[c]
 ·have c3:(k != 0)=true:=by simpa using c2
  simp[c,c2,c3]
theorem spec_l14Drop_eq (d:DiskT) (names:List (List UInt8)) (h:diskOk d=true) (hn:names.length<1000):ψ2p.f d names=some (sDrop names (d,0)):=by
 have key:=lp_up (step:=ψ2p.l0) (fun n (a:DiskT)=>(names,a,([],0,0,false),(n:Int))) names.length (fun n a=>if (sDrop (names.drop n) (a,0)).2=0 then .inl ((sDrop (names.drop n) (a,0)).1,([],0,0,false)) else .inr (sDrop (names.drop n) (a,0))) (fun _ a=>diskOk a=true)
  (fun rec n a hn' ha ih=>by
   rcases Nat.lt_or_ge n names.length with h1 | h1
   ·have hw:=w64_succ (show n+1<9223372036854775808 by omega)
    have hd:=dl_lim (dl_dk ha) (by omega)
    rw[List.drop_eq_getElem_cons h1]
    have es:sDrop (names[n]::names.drop (n+1)) (a,0)=sDrop (names.drop (n+1)) (dGone names[n] a):=by
     show sDrop _ (sstep (dGone names[n]) (a,0))=_;rw[sstep_z]
    simp only[es,ψ2p.l0,Int.ofNat_lt,h1,decide_true,cond_true,inB_nat,rdA_nat,getD_lt h1,spec_l3Find_eq a names[n] (by have:=hd.1;omega),Option.bind_some,hw]
    by_cases c2:fileIx a.1 names[n]≥0
    ·have c3:¬fileIx a.1 names[n]<0:=by omega
     have e:dGone names[n] a=dRemove names[n] a:=by unfold dGone;simp[c2]
     have er:ψ2I.f a names[n]=some (dRemove names[n] a):=spec_Remove_eq a names[n] hd
     have hk:=dk_Remove ha names[n]
     rw[e]
     simp only[c3,decide_false,cond_false,er,Option.bind_some]
     generalize dRemove names[n] a=r at *
     obtain ⟨x,c⟩:=r
     by_cases c4:c=0
     ·subst c4
      simp only[bne_self_eq_false,cond_false,Option.bind_some,caseS_l,hw,ih x h1 hk]
     ·have c5:(c != 0)=true:=by simpa using c4
      simp only[c5,cond_true,Option.bind_some,caseS_r,sDrop_ne _ c4,c4,if_false]
    ·have c3:fileIx a.1 names[n]<0:=by omega
     have e:dGone names[n] a=(a,0):=by unfold dGone;simp[c2]
     rw[e]
     simp only[c3,decide_true,cond_true,Option.bind_some,caseS_l,hw,ih a h1 ha]
   ·have:n=names.length:=by omega
    subst this
    simp[ψ2p.l0,sDrop])
  (by omega) 0 d (Nat.zero_le _) h
 have key:lp ψ2p.l0 (names,d,([],0,0,false),0)=_:=key
 unfold ψ2p.f
 rw[key,Option.bind_some,List.drop_zero]
 generalize sDrop names (d,0)=r
 obtain ⟨x,c⟩:=r
 by_cases c4:c=0
 ·subst c4;rfl
 ·simp only[c4,if_false,caseS_r]
def lastI (l:List Int):Int:=l.getD (l.length - 1) 0
def actN (s:StoreT):List UInt8:=segName (lastI s.1.2)
theorem last_rd {l:List Int} (h:1≤l.length) (hl:l.length<2 ^ 62):w64 ((l.length:Int) - 1)=((l.length - 1:Nat):Int)∧inB ((l.length - 1:Nat):Int) l.length=true∧rdA 0 l ((l.length - 1:Nat):Int)=lastI l:=by
 refine ⟨by rw[w64_id (by omega) (by omega)];omega,?_,?_⟩
 ·rw[inB_nat];simp;omega
 ·rw[rdA_nat];rfl
theorem spec_l12Active_eq (s:StoreT) (h:1≤s.1.2.length) (hl:s.1.2.length<2 ^ 62):ψ2g.f s=some (actN s):=by
 obtain ⟨e1,e2,e3⟩:=last_rd h hl
 unfold ψ2g.f actN
 simp only[e1,e2,e3,cond_true,spec_SegName_eq,Option.bind_some]
theorem lim8 {a:Nat} (h:a<1000000000001):(a+1) * 8≤140737488355328:=by omega
theorem lim8' {a:Nat} (h:a<1000000000001):(0+a) * 8≤140737488355328:=by omega
theorem lim48' {a:Nat} (h:a<1000000000001):(0+a) * 48≤140737488355328:=by omega
theorem impl_copyLive_eq (v:LiveT) (h:v.2.length<1000000000):ψz.f v=some v:=by
 unfold ψz.f
 have:(([]:List Int).length+v.2.length) * 8≤140737488355328:=lim8' (by omega)
 simp only[this,decide_true,cond_true,List.nil_append]
theorem impl_copyDir_eq (v:List EntryT) (h:v.length<1000000000):ψx.f v=some v:=by
 unfold ψx.f
 have:(([]:List EntryT).length+v.length) * 48≤140737488355328:=lim48' (by omega)
 simp only[this,decide_true,cond_true,List.nil_append]
theorem impl_copyStore_eq (s:StoreT) (h1:s.1.2.length<1000000000) (h2:s.2.1.length<1000000000):ψ10.f s=some s:=by
 unfold ψ10.f
 rw[impl_copyLive_eq _ h1,Option.bind_some,impl_copyDir_eq _ h2];rfl
theorem spec_l12Copy_eq (s:StoreT) (h1:s.1.2.length<1000000000) (h2:s.2.1.length<1000000000):ψ2l.f s=some s:=by
 unfold ψ2l.f
 have k1:(([]:List Int).length+s.1.2.length) * 8≤140737488355328:=lim8' (by omega)
 have k2:(([]:List EntryT).length+s.2.1.length) * 48≤140737488355328:=lim48' (by omega)
 simp only[k1,k2,decide_true,cond_true,List.nil_append]
def rotP (s:StoreT) (d:DiskT):StoreT×DiskT×Int:=
 if 60≤s.1.2.length∨100000≤s.1.1 then (s,d,5) else
 if (dSync (actN s) d).2≠0 then (s,(dSync (actN s) d).1,told (dSync (actN s) d).2) else
 let w2:=sstep (dCreate (segName s.1.1)) (dGone (segName s.1.1) (dSync (actN s) d).1)
 if w2.2≠0 then (((s.1.1+1,s.1.2),s.2),w2.1,told w2.2) else
 let w3:=toldW (sPut (s.1.1+1,s.1.2++[s.1.1]) (w2.1,0))
 if w3.2≠0 then (((s.1.1+1,s.1.2),s.2),cleanW [[116,101,109,112],segName s.1.1] w3) else
 (((s.1.1+1,s.1.2++[s.1.1]),s.2.1,s.2.2.1,0,s.2.2.2.2),w3.1,0)
theorem told_ne (c:Int):(told c != 0)=(c != 0):=by
 by_cases h:c=0
 ·subst h;rfl
 ·have h2:told c≠0:=fun e=>h ((told_zero c).1 e)
  rw[show (told c != 0)=true by simpa using h2,show (c != 0)=true by simpa using h]
theorem spec_l12Rotate_eq (s:StoreT) (d:DiskT) (h:diskOk d=true) (hv:liveOk s.1=true):ψ2n.f s d=some (rotP s d):=by
 obtain ⟨k1,k2,k3,k4⟩:=(liveOk_iff s.1).1 hv
 unfold ψ2n.f rotP
 by_cases c1:60≤s.1.2.length
 ·have d1:(s.1.2.length:Int)≥60:=by omega
  simp[c1,d1]
 have d1:¬(s.1.2.length:Int)≥60:=by omega
 by_cases c2:100000≤s.1.1
 ·have d2:s.1.1≥100000:=c2
  simp[c1,c2,d1,d2]
 have d2:¬s.1.1≥100000:=c2
 have hm:=liveOk_more hv (by omega) (by omega)
 have hs:=dk_Sync h (actN s)
 have hg:=dk_Gone hs (segName s.1.1)
 have hc:diskOk (sstep (dCreate (segName s.1.1)) (dGone (segName s.1.1) (dSync (actN s) d).1)).1=true:=dk_sstep (op:=dCreate _) hg fun k=>dk_Create k _
 have hn:=segName_len s.1.1
 have es:ψ2U.f d (actN s)=some (dSync (actN s) d):=spec_Sync_eq d (actN s) (dl_lim (dl_dk h) (by omega))
 simp only[c1,c2,d1,d2,decide_false,cond_false,or_self,if_false,spec_l12Active_eq s k3 (by omega),Option.bind_some,es]
 generalize dSync (actN s) d=r1 at *
 obtain ⟨x1,q1⟩:=r1
 by_cases c3:q1=0
 rotate_left
 ·have d3:(q1 != 0)=true:=by simpa using c3
  simp only[d3,cond_true,c3,ne_eq,not_false_eq_true,if_true,spec_l11Code_eq,Option.bind_some]
 subst c3
 simp only[bne_self_eq_false,cond_false,ne_eq,not_true_eq_false,if_false,spec_SegName_eq,Option.bind_some,spec_l11Fresh_eq x1 (segName s.1.1) (dl_dk hs) (by omega) (by omega)]
 generalize sstep (dCreate (segName s.1.1)) (dGone (segName s.1.1) x1)=r2 at *
 obtain ⟨x2,q2⟩:=r2
 rw[show w64 (s.1.1+1)=s.1.1+1 from w64_id (by omega) (by omega)]
 by_cases c4:q2=0
 rotate_left
 ·have d3:(q2 != 0)=true:=by simpa using c4
  simp only[d3,cond_true,c4,not_false_eq_true,if_true,spec_l11Code_eq,Option.bind_some]
 subst c4
 have hp:diskOk (toldW (sPut (s.1.1+1,s.1.2++[s.1.1]) (x2,0))).1=true:=dk_sPut (w:=(x2,0)) hc _
 have e3:ψ27.f x2 (s.1.1+1,s.1.2++[s.1.1])=some (toldW (sPut (s.1.1+1,s.1.2++[s.1.1]) (x2,0))):=by
  rw[spec_PutLive_eq _ _ (dl_dk hc) (by omega) (by simp only[List.length_append,List.length_cons,List.length_nil];omega)]
  unfold putLive
  rw[if_neg (by rw[hm,show diskOk x2=true from hc];simp)]
 have hb:(s.1.2.length+[s.1.1].length) * 8≤140737488355328:=lim8 (by omega)
 have hb0:(([]:List Int).length+s.1.2.length) * 8≤140737488355328:=lim8' (by omega)
 simp only[bne_self_eq_false,cond_false,not_true_eq_false,if_false,hb0,List.nil_append,Option.bind_some,hb,decide_true,cond_true,e3]
 generalize toldW (sPut (s.1.1+1,s.1.2++[s.1.1]) (x2,0))=r3 at *
 obtain ⟨x3,q3⟩:=r3
 by_cases c5:q3=0
 ·subst c5
  simp only[show ((0:Int)==2)=false from rfl,bne_self_eq_false,cond_false,not_true_eq_false,if_false]
 ·have d5:(q3 != 0)=true:=by simpa using c5
  unfold cleanW
  by_cases c6:q3=2
  ·have d6:(q3==2)=true:=by simpa using c6
   simp only[c6,if_true,show ((2:Int)==2)=true from rfl,cond_true,spec_l14Drop_eq x3 [[116,101,109,112],segName s.1.1] hp (by simp),Option.bind_some,spec_l11Code_eq,show ¬(2:Int)=0 by decide,not_false_eq_true]
   generalize sDrop [[116,101,109,112],segName s.1.1] (x3,0)=r4
   obtain ⟨x4,q4⟩:=r4
   by_cases c7:q4=0
   ·subst c7;rfl
   ·have d7:(q4 != 0)=true:=by simpa using c7
    have c8:¬told q4=0:=fun e=>c7 ((told_zero q4).1 e)
    show _=some (_,if told q4=0 then _ else _)
    rw[if_neg c8]
    simp only[d7,cond_true];rfl
  ·have d6:(q3==2)=false:=by simpa using c6
   simp only[d6,d5,cond_false,cond_true,c5,c6,not_false_eq_true,if_true,if_false]
theorem storeOk_parts {s:StoreT} {d:DiskT} (h:storeOk s d=true):diskOk d=true∧liveOk s.1=true∧dirOk s.2.1=true∧(1≤s.2.2.1∧s.2.2.1≤1000001)∧segsOk d s.2.2.2.1 s.1.2=true:=by
 unfold storeOk at h
 simp only[Bool.and_eq_true,decide_eq_true_eq] at h
 exact ⟨h.1,h.2.1,h.2.2.1,h.2.2.2.1,h.2.2.2.2.1⟩
theorem rotP_ok {s:StoreT} {d:DiskT} (h:diskOk d=true) (hv:liveOk s.1=true):diskOk (rotP s d).2.1=true∧(rotP s d).1.1.2.length≤s.1.2.length+1∧(rotP s d).1.2.1=s.2.1∧(rotP s d).1.2.2.1=s.2.2.1 ∧
  (((rotP s d).2.2=0→liveOk (rotP s d).1.1=true))∧((rotP s d).1.2.2.2.1=s.2.2.2.1∨(rotP s d).1.2.2.2.1=0):=by
 have hs:=dk_Sync h (actN s)
 have hc:diskOk (sstep (dCreate (segName s.1.1)) (dGone (segName s.1.1) (dSync (actN s) d).1)).1=true:=dk_sstep (op:=dCreate _) (dk_Gone hs _) fun k=>dk_Create k _
 unfold rotP
 split
 ·exact ⟨h,Nat.le_succ _,rfl,rfl,fun e=>absurd e (by simp),.inl rfl⟩
 rename_i c1
 split
 ·rename_i c2
  exact ⟨hs,Nat.le_succ _,rfl,rfl,fun e=>absurd ((told_zero _).1 e) c2,.inl rfl⟩
 simp only
 split
 ·rename_i c2
  exact ⟨hc,Nat.le_succ _,rfl,rfl,fun e=>absurd ((told_zero _).1 e) c2,.inl rfl⟩
 have hp:=dk_sPut (w:=((sstep (dCreate (segName s.1.1)) (dGone (segName s.1.1) (dSync (actN s) d).1)).1,0)) hc (s.1.1+1,s.1.2++[s.1.1])
 split
 ·rename_i c3
  refine ⟨dk_cleanW _ hp,Nat.le_succ _,rfl,rfl,fun e=>?_,.inl rfl⟩
  exfalso
  revert e
  unfold cleanW
  split
  ·split
   ·simp
   ·rename_i c4;exact c4
  ·exact c3
 ·refine ⟨hp,by simp,rfl,rfl,fun _=>liveOk_more hv (by omega) (by omega),.inr rfl⟩
theorem lim48 {a:Nat} (h:a<1000000000001):(a+1) * 48≤140737488355328:=by omega
theorem impl_DirDrop_eq (l:List EntryT) (key:List UInt8) (hl:l.length<1000000000):ψ6.f l key=some (dropK l key):=by
 have hk:=fold_loop (step:=ψ6.l0) l (fun s x=>if (!(x.1==key))=true then s++[x] else s) (fun n (s:List EntryT)=>(key,s,l,(l.length:Int),(n:Int))) id (fun n s=>s.length≤n) (by omega)
  (fun rec n s h hi=>by
   have hb:(s.length+([(l[n].1,l[n].2.1,l[n].2.2.1,l[n].2.2.2.1,l[n].2.2.2.2)]:List EntryT).length) * 48≤140737488355328:=lim48 (by omega)
   have hw:=w64_succ (show n+1<9223372036854775808 by omega)
   simp only[ψ6.l0,Int.ofNat_lt,h,decide_true,cond_true,inB_nat,rdA_nat,getD_lt h,hb]
   cases l[n].1==key<;>simp only[Bool.not_true,Bool.not_false,cond_true,cond_false,Option.bind_some,hw,if_true,if_false,Bool.false_eq_true])
  (fun n s h hi=>by
   have:∀b:Bool,(if b=true then s++[l[n]] else s).length≤n+1:=fun b=>by cases b<;>simp<;>omega
   exact this _)
  (fun rec s hi=>by simp[ψ6.l0]) [] (by simp)
 have hk:lp ψ6.l0 (key,[],l,(l.length:Int),0)=_:=hk
 unfold ψ6.f
 rw[hk,foldl_filter];rfl
theorem spec_DirDrop_eq (l:List EntryT) (key:List UInt8) (hl:l.length<1000000000):ψ1l.f l key=some (dropK l key):=by
 have hk:=fold_loop (step:=ψ1l.l0) l (fun s x=>if (!(x.1==key))=true then s++[x] else s) (fun n (s:List EntryT)=>(l,key,s,(n:Int))) id (fun n s=>s.length≤n) (by omega)
  (fun rec n s h hi=>by
   have hb:(s.length+([(l[n].1,l[n].2.1,l[n].2.2.1,l[n].2.2.2.1,l[n].2.2.2.2)]:List EntryT).length) * 48≤140737488355328:=lim48 (by omega)
   have hw:=w64_succ (show n+1<9223372036854775808 by omega)
   simp only[ψ1l.l0,Int.ofNat_lt,h,decide_true,cond_true,inB_nat,rdA_nat,getD_lt h,hb]
   cases l[n].1==key<;>simp only[Bool.not_true,Bool.not_false,cond_true,cond_false,Option.bind_some,hw,if_true,if_false,Bool.false_eq_true])
  (fun n s h hi=>by
   have:∀b:Bool,(if b=true then s++[l[n]] else s).length≤n+1:=fun b=>by cases b<;>simp<;>omega
   exact this _)
  (fun rec s hi=>by simp[ψ1l.l0]) [] (by simp)
 have hk:lp ψ1l.l0 (l,key,[],0)=_:=hk
 unfold ψ1l.f
 rw[hk,foldl_filter];rfl
theorem impl_DirPut_l0 (rest:List EntryT) (p:EntryT) (hl:rest.length<2 ^ 62) :
  lp ψA.l0 (p,rest,0)=some (p,rest,((rest.takeWhile fun x=>leK x.1 p.1).length:Int)):=by
 have key:=lp_up (step:=ψA.l0) (fun n (_:Unit)=>(p,rest,(n:Int))) rest.length (fun n _=>(p,rest,((n+((rest.drop n).takeWhile fun x=>leK x.1 p.1).length:Nat):Int))) (fun _ _=>True)
  (fun rec n s hn _ ih=>by
   rcases Nat.lt_or_ge n rest.length with h | h
   ·rw[takeWhile_drop _ _ _ h]
    simp only[ψA.l0,Int.ofNat_lt,h,decide_true,cond_true,inB_nat,rdA_nat,getD_lt h,w64_succ (show n+1<9223372036854775808 by omega)]
    show (bif leK rest[n].1 p.1 then _ else _)=_
    cases leK rest[n].1 p.1
    ·simp
    ·simp only[cond_true,if_true]
     rw[ih () h trivial]
     congr 4;omega
   ·have:n=rest.length:=by omega
    subst this
    simp[ψA.l0])
  hl 0 () (Nat.zero_le _) trivial
 simpa using key
theorem impl_DirPut_eq (l:List EntryT) (e:EntryT) (hl:l.length<1000000000):ψA.f l e=some (insB (dropK l e.1) e):=by
 have hd:=dropK_len l e.1
 have htw:((dropK l e.1).takeWhile fun x=>leK x.1 e.1).length≤(dropK l e.1).length:=(List.takeWhile_sublist _).length_le
 unfold ψA.f
 rw[impl_DirDrop_eq l e.1 hl,Option.bind_some,impl_DirPut_l0 _ _ (by omega),Option.bind_some]
 generalize hk:((dropK l e.1).takeWhile fun x=>leK x.1 e.1).length=k at *
 have c1:(0:Int)≤(k:Int):=by omega
 have c2:(k:Int)≤((dropK l e.1).length:Int):=by omega
 have c3:(List.take k (dropK l e.1)).length<1000000000:=by simp;omega
 have c4:((List.take k (dropK l e.1)).length+[e].length) * 48≤140737488355328:=lim48 (by omega)
 have c5:((List.take k (dropK l e.1)++[e]).length+(List.drop k (dropK l e.1)).length) * 48≤140737488355328:=by simp;omega
 have hins:insB (dropK l e.1) e=List.take k (dropK l e.1)++[e]++List.drop k (dropK l e.1):=by
  unfold insB;simp only[hk]
 simp only[c1,c2,decide_true,Bool.and_self,cond_true,Int.toNat_natCast,impl_copyDir_eq _ c3,Option.bind_some,c4,c5,hins]
def setG {α:Type} (p:List UInt8×α) (s:List (List UInt8×α)×Bool) (x:List UInt8×α):List (List UInt8×α)×Bool:=
 if (x.1==p.1)=true then s else if s.2=false∧leK x.1 p.1=false then (s.1++[p]++[x],true) else (s.1++[x],s.2)
theorem setG_len {α:Type} (p:List UInt8×α) (s:List (List UInt8×α)×Bool) (x:List UInt8×α):(setG p s x).1.length≤s.1.length+2:=by
 unfold setG;split
 ·omega
 ·split<;>simp<;>omega
theorem setG_true {α:Type} (p:List UInt8×α):∀(l out:List (List UInt8×α)),l.foldl (setG p) (out,true)=(out++dropK l p.1,true)
 | [],out=>by simp[dropK]
 | x::l,out=>by
  rw[List.foldl_cons]
  by_cases h:(x.1==p.1)=true
  ·have e1:setG p (out,true) x=(out,true):=by unfold setG;rw[if_pos h]
   rw[e1,setG_true p l]
   simp[dropK,h]
  ·have e1:setG p (out,true) x=(out++[x],true):=by unfold setG;rw[if_neg h,if_neg (by simp)]
   rw[e1,setG_true p l]
   simp[dropK,h]
theorem setG_false {α:Type} (p:List UInt8×α):∀(l out:List (List UInt8×α)),(let s:=l.foldl (setG p) (out,false);if s.2=true then s.1 else s.1++[p])=out++insB (dropK l p.1) p
 | [],out=>by simp[dropK,insB]
 | x::l,out=>by
  rw[List.foldl_cons]
  by_cases h:(x.1==p.1)=true
  ·have e1:setG p (out,false) x=(out,false):=by unfold setG;rw[if_pos h]
   have e2:dropK (x::l) p.1=dropK l p.1:=by simp[dropK,h]
   rw[e1,e2];exact setG_false p l out
  ·have e2:dropK (x::l) p.1=x::dropK l p.1:=by simp[dropK,h]
   rw[e2]
   cases hk:leK x.1 p.1
   ·have e1:setG p (out,false) x=(out++[p]++[x],true):=by unfold setG;rw[if_neg h,if_pos ⟨rfl,hk⟩]
    rw[e1,setG_true]
    simp[insB,hk]
   ·have e1:setG p (out,false) x=(out++[x],false):=by unfold setG;rw[if_neg h,if_neg (by simp[hk])]
    rw[e1,setG_false p l (out++[x])]
    simp[insB,hk]
theorem spec_DirPut_eq (l:List EntryT) (p:EntryT) (hl:l.length<1000000000):ψ1o.f l p=some (insB (dropK l p.1) p):=by
 have hk:=fold_loop (step:=ψ1o.l0) l (setG p) (fun n (s:List EntryT×Bool)=>(l,p,s.1,s.2,(n:Int))) (fun s=>(p,s.1,s.2)) (fun n s=>s.1.length≤2 * n) (by omega)
  (fun rec n s h hi=>by
   have hi:s.1.length≤2 * n:=hi
   have hq:s.1.length<1000000000000:=by omega
   have hb1:(s.1.length+[p].length) * 48≤140737488355328:=lim48 (Nat.lt_succ_of_lt hq)
   have hb2:(s.1.length+([(l[n].1,l[n].2.1,l[n].2.2.1,l[n].2.2.2.1,l[n].2.2.2.2)]:List EntryT).length) * 48≤140737488355328:=lim48 (Nat.lt_succ_of_lt hq)
   have hb3:((s.1++[p]).length+([(l[n].1,l[n].2.1,l[n].2.2.1,l[n].2.2.2.1,l[n].2.2.2.2)]:List EntryT).length) * 48≤140737488355328:=by rw[List.length_append];exact lim48 (Nat.succ_lt_succ hq)
   have hw:=w64_succ (show n+1<9223372036854775808 by omega)
   have hle:(Op.bytesLess l[n].1 p.1 || l[n].1==p.1)=leK l[n].1 p.1:=rfl
   simp only[ψ1o.l0,Int.ofNat_lt,h,decide_true,cond_true,inB_nat,rdA_nat,getD_lt h,hle]
   unfold setG
   rcases Bool.eq_false_or_eq_true (l[n].1==p.1) with h1 | h1
   ·simp only[h1,cond_true,Option.bind_some,hw,if_true]
   ·rcases Bool.eq_false_or_eq_true s.2 with h2 | h2
    ·simp only[h1,h2,cond_false,Bool.not_true,Option.bind_some,inB_nat,rdA_nat,getD_lt h,h,decide_true,cond_true,hb2,hw,Bool.false_eq_true,Bool.true_eq_false,false_and,if_false]
    ·rcases Bool.eq_false_or_eq_true (leK l[n].1 p.1) with h3 | h3
     ·simp only[h1,h2,h3,cond_false,Bool.not_true,Bool.not_false,cond_true,Option.bind_some,inB_nat,rdA_nat,getD_lt h,h,decide_true,hb2,hw,Bool.false_eq_true,Bool.true_eq_false,and_false,if_false]
     ·simp only[h1,h2,h3,cond_false,Bool.not_true,Bool.not_false,cond_true,Option.bind_some,inB_nat,rdA_nat,getD_lt h,h,decide_true,hb1,hb3,hw,Bool.false_eq_true,and_self,if_true,if_false])
  (fun n s h hi=>by have:=setG_len p s l[n];have hi:s.1.length≤2 * n:=hi;show _≤2 * (n+1);omega)
  (fun rec s hi=>by simp[ψ1o.l0]) ([],false) (by simp)
 have hk:lp ψ1o.l0 (l,p,[],false,0)=_:=hk
 have hlen:∀(m:List EntryT) (s:List EntryT×Bool),(m.foldl (setG p) s).1.length≤s.1.length+2 * m.length:=by
  intro m
  induction m with
  | nil=>intro s;simp
  | cons x m ih=>intro s;rw[List.foldl_cons];have:=ih (setG p s x);have:=setG_len p s x;simp only[List.length_cons];omega
 unfold ψ1o.f
 rw[hk,Option.bind_some]
 have hf:=setG_false p l []
 have hb:=hlen l ([],false)
 generalize l.foldl (setG p) ([],false)=s at *
 obtain ⟨s1,s2⟩:=s
 simp only[List.length_nil,Nat.zero_add] at hb
 have hb1:(s1.length+[p].length) * 48≤140737488355328:=lim48 (by omega)
 cases s2
 ·simp only[Bool.false_eq_true,if_false,List.nil_append] at hf ⊢
  simp only[Bool.not_false,cond_true,hb1,decide_true,hf]
 ·simp only[if_true,List.nil_append] at hf
  simp[hf]
def dirStep (dir:List EntryT) (x:PutT×EntryT):List EntryT:=if x.1.2.1=true then dropK dir x.1.1 else insB (dropK dir x.2.1) x.2
def dirW (dir:List EntryT) (l:List (PutT×EntryT)):List EntryT:=l.foldl dirStep dir
theorem dirStep_len (dir:List EntryT) (x:PutT×EntryT):(dirStep dir x).length≤dir.length+1:=by
 unfold dirStep;split
 ·have:=dropK_len dir x.1.1;omega
 ·rw[insB_len];have:=dropK_len dir x.2.1;omega
theorem dirW_len:∀(l:List (PutT×EntryT)) (dir:List EntryT),(dirW dir l).length≤dir.length+l.length
 | [],dir=>by simp[dirW]
 | x::l,dir=>by
  have h1:=dirW_len l (dirStep dir x)
  have h2:=dirStep_len dir x
  show (dirW (dirStep dir x) l).length≤_
  simp only[List.length_cons];omega
def bareE (p:PutT):EntryT:=(p.1,0,0,0,0)
def keysP (dir:List EntryT) (l:List PutT):Nat:=(dirW dir (l.zip (l.map bareE))).length
theorem zip_bare (l:List PutT):l.zip (l.map bareE)=l.map fun p=>(p,bareE p):=by
 induction l with
 | nil=>rfl
 | cons x l ih=>simp[ih]
theorem spec_l12After_eq (dir:List EntryT) (l:List PutT) (hd:dir.length<100000000) (hl:l.length<100000000):ψ2i.f dir l=some (keysP dir l:Int):=by
 have key:=fold_loop (step:=ψ2i.l0) l (fun s p=>dirStep s (p,bareE p)) (fun n (s:List EntryT)=>(s,l,(n:Int))) id (fun n s=>s.length≤dir.length+n) (by omega)
  (fun rec n s h hi=>by
   have hi:s.length≤dir.length+n:=hi
   have hw:=w64_succ (show n+1<9223372036854775808 by omega)
   simp only[ψ2i.l0,Int.ofNat_lt,h,decide_true,cond_true,inB_nat,rdA_nat,getD_lt h,spec_DirDrop_eq s l[n].1 (by omega),Option.bind_some]
   have e2:ψ1o.f s (l[n].1,0,0,0,0)=some (insB (dropK s l[n].1) (l[n].1,0,0,0,0)):=spec_DirPut_eq s (l[n].1,0,0,0,0) (by omega)
   simp only[e2,Option.bind_some]
   unfold dirStep bareE
   simp only
   cases l[n].2.1
   ·simp only[cond_false,Option.bind_some,hw,Bool.false_eq_true,if_false]
   ·simp only[cond_true,Option.bind_some,hw,if_true])
  (fun n s h hi=>by have:=dirStep_len s (l[n],bareE l[n]);have hi:s.length≤dir.length+n:=hi;show _≤_;omega)
  (fun rec s hi=>by simp[ψ2i.l0])
  dir (by simp)
 have key:lp ψ2i.l0 (dir,l,0)=_:=key
 unfold ψ2i.f keysP dirW
 rw[key,Option.bind_some,zip_bare,List.foldl_map];rfl
def recOf (b:Int) (p:PutT):RecT:=if p.2.1=true then (2,b,p.1,[],0,0) else (1,b,p.1,p.2.2,0,0)
def recsOf (b:Int) (l:List PutT):List RecT:=l.map (recOf b)++[(3,b,[],[],(l.length:Int),sumOf (l.map (recOf b)))]
theorem lim64R {a:Nat} (h:a<1000000000001):(a+1) * 64≤140737488355328:=by omega
def addR (s:StoreT) (d:DiskT) (t:List UInt8):StoreT×DiskT×Int:=if s.2.2.2.1 > 0∧s.2.2.2.1+(t.length:Int) > 200 then rotP s d else (s,d,0)
def addP (s:StoreT) (d:DiskT) (r:RecT):StoreT×DiskT×Int×EntryT:=
 let R:=addR s d (frame (showRec r))
 if R.2.2≠0 then (R.1,R.2.1,R.2.2,([],0,0,0,0)) else
 let w:=dAppend (actN R.1) (frame (showRec r)) R.2.1
 let e:EntryT:=(r.2.2.1,lastI R.1.1.2,R.1.2.2.2.1,((frame (showRec r)).length:Int),r.2.1)
 if w.2≠0 then (R.1,w.1,told w.2,e) else ((R.1.1,R.1.2.1,R.1.2.2.1,R.1.2.2.2.1+((frame (showRec r)).length:Int),R.1.2.2.2.2),w.1,0,e)
structure Good2 (k:Int) (s:StoreT) (d:DiskT):Prop where
 dk:diskOk d=true
 lv:liveOk s.1=true
 s0:0≤s.2.2.2.1
 s1:s.2.2.2.1≤k
theorem addR_ok {s:StoreT} {d:DiskT} {k:Int} (h:Good2 k s d) (t:List UInt8):diskOk (addR s d t).2.1=true∧(addR s d t).1.1.2.length≤s.1.2.length+1∧(addR s d t).1.2.1=s.2.1∧((addR s d t).2.2=0→Good2 k (addR s d t).1 (addR s d t).2.1):=by
 unfold addR
 split
 ·obtain ⟨r1,r2,r3,r4,r5,r6⟩:=rotP_ok h.dk h.lv
  refine ⟨r1,r2,r3,fun e=>⟨r1,r5 e,?_,?_⟩⟩
  ·have:=h.s0;omega
  ·have:=h.s1;have:=h.s0;omega
 ·exact ⟨h.dk,Nat.le_succ _,rfl,fun _=>h⟩
theorem addP_ok {s:StoreT} {d:DiskT} {k:Int} (h:Good2 k s d) (r:RecT):diskOk (addP s d r).2.1=true∧(addP s d r).1.1.2.length≤s.1.2.length+1∧(addP s d r).1.2.1=s.2.1∧((addP s d r).2.2.1=0→Good2 (k+211) (addP s d r).1 (addP s d r).2.1):=by
 obtain ⟨q1,q2,q3,q4⟩:=addR_ok h (frame (showRec r))
 have hf:=frame_len (showRec r)
 unfold addP
 generalize addR s d (frame (showRec r))=R at *
 simp only
 split
 ·rename_i c;exact ⟨q1,q2,q3,fun e=>absurd e c⟩
 rename_i c
 have c:R.2.2=0:=by simpa using c
 have g:=q4 c
 have ha:=dk_Append q1 (actN R.1) (frame (showRec r))
 split
 ·rename_i c2;exact ⟨ha,q2,q3,fun e=>absurd ((told_zero _).1 e) c2⟩
 ·refine ⟨ha,q2,q3,fun _=>⟨ha,g.lv,?_,?_⟩⟩
  ·have:=g.s0;show 0≤R.1.2.2.2.1+_;omega
  ·have:=g.s1;show R.1.2.2.2.1+_≤_;omega
theorem spec_add_eq {s:StoreT} {d:DiskT} {k:Int} (h:Good2 k s d) (hk:k≤1000000000000) (r:RecT):∃p,ψ2h.f s d r=some ((addP s d r).1,(addP s d r).2.1,p,(addP s d r).2.2.1) ∧
  ((addP s d r).2.2.1=0→p=((addP s d r).2.2.2.2.1,(addP s d r).2.2.2.2.2.1,(addP s d r).2.2.2.2.2.2.1,r)∧(addP s d r).2.2.2.1=r.2.2.1∧(addP s d r).2.2.2.2.2.2.2=r.2.1):=by
 have h0:=h.s0
 have h1:=h.s1
 have hf:=frame_len (showRec r)
 have hsr:=showRec_len r
 obtain ⟨q1,q2,q3,q4⟩:=addR_ok h (frame (showRec r))
 have hw:w64 (s.2.2.2.1+((frame (showRec r)).length:Int))=s.2.2.2.1+((frame (showRec r)).length:Int):=w64_id (by omega) (by omega)
 unfold ψ2h.f addP
 simp only[spec_ShowRec_eq r,spec_Frame_eq (showRec r) (show (showRec r).length<2 ^ 62 by omega),Option.bind_some,hw,spec_l12Rotate_eq s d h.dk h.lv]
 obtain ⟨X,hX⟩:∃X,addR s d (frame (showRec r))=X:=⟨_,rfl⟩
 have eX:∀{β:Type} (f:_→Option β) (g:_→Option β),((bif decide (s.2.2.2.1 > 0) then bif decide (s.2.2.2.1+((frame (showRec r)).length:Int) > 200) then (bif (rotP s d).2.2 != 0 then some (Sum.inr ((rotP s d).1,(rotP s d).2.1,((0,0,0,0,0,[],[],0,0):Int×Int×Int×RecT),(rotP s d).2.2)) else some (Sum.inl ((rotP s d).1,(rotP s d).2.1,r,(((0,[]),[],0,0,0):StoreT),(([],0,0,false):DiskT),((0,0,0,0,0,[],[],0,0):Int×Int×Int×RecT),frame (showRec r)))) else some (Sum.inl (s,d,r,((0,[]),[],0,0,0),([],0,0,false),(0,0,0,0,0,[],[],0,0),frame (showRec r))) else some (Sum.inl (s,d,r,((0,[]),[],0,0,0),([],0,0,false),(0,0,0,0,0,[],[],0,0),frame (showRec r)))).bind fun o4=>caseS o4 f g) =
   if X.2.2≠0 then g (X.1,X.2.1,(0,0,0,0,0,[],[],0,0),X.2.2) else f (X.1,X.2.1,r,((0,[]),[],0,0,0),([],0,0,false),(0,0,0,0,0,[],[],0,0),frame (showRec r)):=by
  intro β f g
  rw[←hX]
  unfold addR
  by_cases c1:s.2.2.2.1 > 0
  ·by_cases c2:s.2.2.2.1+((frame (showRec r)).length:Int) > 200
   ·by_cases c3:(rotP s d).2.2=0
    ·simp only[c1,c2,decide_true,cond_true,and_self,if_true,c3,bne_self_eq_false,cond_false,Option.bind_some,caseS_l,ne_eq,not_true_eq_false,if_false]
    ·have d3:((rotP s d).2.2 != 0)=true:=by simpa using c3
     simp only[c1,c2,decide_true,cond_true,and_self,if_true,c3,d3,Option.bind_some,caseS_r,ne_eq,not_false_eq_true]
   ·simp only[c1,c2,decide_true,decide_false,cond_true,cond_false,and_false,if_false,Option.bind_some,caseS_l,ne_eq,not_true_eq_false]
  ·simp only[c1,decide_false,cond_false,false_and,if_false,Option.bind_some,caseS_l,ne_eq,not_true_eq_false]
 rw[eX]
 rw[hX] at q1 q2 q3 q4 ⊢
 obtain ⟨S,D,c⟩:=X
 simp only at q1 q2 q3 q4 ⊢
 by_cases c1:c=0
 rotate_left
 ·simp only[c1,ne_eq,not_false_eq_true,if_true]
  exact ⟨_,rfl,fun e=>e.elim⟩
 subst c1
 have g:=q4 rfl
 have g0:0≤S.2.2.2.1:=g.s0
 have g1:S.2.2.2.1≤k:=g.s1
 have g2:liveOk S.1=true:=g.lv
 obtain ⟨k1,k2,k3,k4⟩:=(liveOk_iff S.1).1 g2
 obtain ⟨l1,l2,l3⟩:=last_rd k3 (by omega)
 have hw2:w64 (S.2.2.2.1+((frame (showRec r)).length:Int))=S.2.2.2.1+((frame (showRec r)).length:Int):=w64_id (by omega) (by omega)
 have ea:ψ1g.f D (actN S) (frame (showRec r))=some (dAppend (actN S) (frame (showRec r)) D):=spec_Append_eq D (actN S) (frame (showRec r)) (dl_lim (dl_dk q1) (by omega)) (by omega)
 simp only[ne_eq,not_true_eq_false,if_false,l1,l2,l3,cond_true,spec_l12Active_eq S k3 (by omega),Option.bind_some,ea]
 generalize dAppend (actN S) (frame (showRec r)) D=w at *
 obtain ⟨x,c2⟩:=w
 by_cases c3:c2=0
 ·subst c3
  simp only[bne_self_eq_false,cond_false,not_true_eq_false,if_false,hw2]
  refine ⟨_,rfl,fun _=>?_⟩
  simp
 ·have c4:¬told c2=0:=fun e=>c3 ((told_zero c2).1 e)
  have d4:(c2 != 0)=true:=by simpa using c3
  simp only[d4,cond_true,c3,not_false_eq_true,if_true,spec_l11Code_eq,Option.bind_some]
  exact ⟨_,rfl,fun e=>absurd e c4⟩
def commitG:List RecT→StoreT→DiskT→StoreT×DiskT×Int×List EntryT
 | [],s,d=>(s,d,0,[])
 | r::rs,s,d=>if (addP s d r).2.2.1≠0 then ((addP s d r).1,(addP s d r).2.1,(addP s d r).2.2.1,[]) else
   let g:=commitG rs (addP s d r).1 (addP s d r).2.1
   (g.1,g.2.1,g.2.2.1,(addP s d r).2.2.2::g.2.2.2)
theorem commitG_ok:∀(rs:List RecT) (s:StoreT) (d:DiskT) (k:Int),Good2 k s d→diskOk (commitG rs s d).2.1=true∧(commitG rs s d).1.1.2.length≤61∧(commitG rs s d).1.2.1=s.2.1 ∧
  ((commitG rs s d).2.2.1=0→Good2 (k+211 * (rs.length:Int)) (commitG rs s d).1 (commitG rs s d).2.1∧(commitG rs s d).2.2.2.length=rs.length)
 | [],s,d,k,h=>by
  have:=((liveOk_iff _).1 h.lv).2.2.2
  refine ⟨h.dk,by show s.1.2.length≤61;omega,rfl,fun _=>⟨⟨h.dk,h.lv,h.s0,by have:=h.s1;show s.2.2.2.1≤_;simp;omega⟩,rfl⟩⟩
 | r::rs,s,d,k,h=>by
  obtain ⟨q1,q2,q3,q4⟩:=addP_ok h r
  have:=((liveOk_iff _).1 h.lv).2.2.2
  unfold commitG
  split
  ·rename_i c
   exact ⟨q1,by show (addP s d r).1.1.2.length≤61;omega,q3,fun e=>absurd e c⟩
  ·rename_i c
   have c:(addP s d r).2.2.1=0:=by simpa using c
   obtain ⟨p1,p2,p3,p4⟩:=commitG_ok rs _ _ _ (q4 c)
   refine ⟨p1,p2,by show (commitG rs _ _).1.2.1=_;rw[p3,q3],fun e=>?_⟩
   obtain ⟨g,hl⟩:=p4 e
   refine ⟨⟨g.dk,g.lv,g.s0,?_⟩,by show _+1=_+1;rw[hl]⟩
   have:=g.s1
   simp only[List.length_cons]
   show (commitG rs _ _).1.2.2.2.1≤_
   push_cast;omega
theorem commitG_snoc (x:RecT):∀(rs:List RecT) (s:StoreT) (d:DiskT),commitG (rs++[x]) s d =
  if (commitG rs s d).2.2.1≠0 then commitG rs s d else
  if (addP (commitG rs s d).1 (commitG rs s d).2.1 x).2.2.1≠0 then ((addP (commitG rs s d).1 (commitG rs s d).2.1 x).1,(addP (commitG rs s d).1 (commitG rs s d).2.1 x).2.1,(addP (commitG rs s d).1 (commitG rs s d).2.1 x).2.2.1,(commitG rs s d).2.2.2) else
  ((addP (commitG rs s d).1 (commitG rs s d).2.1 x).1,(addP (commitG rs s d).1 (commitG rs s d).2.1 x).2.1,0,(commitG rs s d).2.2.2++[(addP (commitG rs s d).1 (commitG rs s d).2.1 x).2.2.2])
 | [],s,d=>by
  show (if (addP s d x).2.2.1≠0 then _ else _)=if (0:Int)≠0 then _ else if (addP s d x).2.2.1≠0 then _ else _
  rw[if_neg (show ¬(0:Int)≠0 by simp)]
  by_cases c:(addP s d x).2.2.1=0
  ·simp only[c,ne_eq,not_true_eq_false,if_false];rfl
  ·simp only[c,ne_eq,not_false_eq_true,if_true];rfl
 | r::rs,s,d=>by
  have ih:=commitG_snoc x rs (addP s d r).1 (addP s d r).2.1
  simp only[List.cons_append,commitG]
  by_cases c:(addP s d r).2.2.1=0
  rotate_left
  ·simp only[c,ne_eq,not_false_eq_true,if_true]
  simp only[c,ne_eq,not_true_eq_false,if_false]
  rw[ih]
  by_cases c2:(commitG rs (addP s d r).1 (addP s d r).2.1).2.2.1=0
  rotate_left
  ·simp only[c2,ne_eq,not_false_eq_true,if_true]
  simp only[c2,ne_eq,not_true_eq_false,if_false]
  split<;>rfl
def commitP (s:StoreT) (d:DiskT) (l:List PutT):StoreT×DiskT×Int:=
 let g:=commitG (recsOf s.2.2.1 l) (s.1,s.2.1,s.2.2.1+1,s.2.2.2) d
 if g.2.2.1≠0 then (g.1,g.2.1,g.2.2.1) else
 let w:=dSync (actN g.1) g.2.1
 if w.2≠0 then (g.1,w.1,told w.2) else ((g.1.1,dirW g.1.2.1 (l.zip g.2.2.2),g.1.2.2),w.1,0)
theorem spec_l9Put_eq (dir:List EntryT) (p:Int×Int×Int×RecT) (hd:dir.length<100000000):ψ3I.f dir p=some (if p.2.2.2.1=2 then dropK dir p.2.2.2.2.2.1 else insB (dropK dir p.2.2.2.2.2.1) (p.2.2.2.2.2.1,p.1,p.2.1,p.2.2.1,p.2.2.2.2.1)):=by
 unfold ψ3I.f
 by_cases c:p.2.2.2.1=2
 ·have d:(p.2.2.2.1==2)=true:=by simpa using c
  simp only[d,cond_true,c,if_true,beq_self_eq_true,spec_DirDrop_eq dir _ (show dir.length<1000000000 by omega),Option.bind_some]
 ·have d:(p.2.2.2.1==2)=false:=by simpa using c
  simp only[d,cond_false,c,if_false,spec_DirPut_eq dir (p.2.2.2.2.2.1,p.1,p.2.1,p.2.2.1,p.2.2.2.2.1) (show dir.length<1000000000 by omega),Option.bind_some]
theorem spec_commit_l0 (l:List PutT) (hp:putsOk l=true) (b:Int) (dir:List EntryT) (s:StoreT) (d:DiskT) (k:Int) (h:Good2 k s d) (hk:k≤100000000000) (hr:l.length<1000000) (hd:dir.length≤1000000) :
  lp ψ2k.l0 (l,s,d,((0,[]),[],0,0,0),([],0,0,false),b,[],dir,0)=some (if (commitG (l.map (recOf b)) s d).2.2.1=0 then .inl ((commitG (l.map (recOf b)) s d).1,(commitG (l.map (recOf b)) s d).2.1,((0,[]),[],0,0,0),([],0,0,false),b,l.map (recOf b),dirW dir (l.zip (commitG (l.map (recOf b)) s d).2.2.2)) else .inr ((commitG (l.map (recOf b)) s d).1,(commitG (l.map (recOf b)) s d).2.1,(commitG (l.map (recOf b)) s d).2.2.1)):=by
 have key:=lp_up (step:=ψ2k.l0) (fun n (a:StoreT×DiskT×List RecT×List EntryT)=>(l,a.1,a.2.1,((0,[]),[],0,0,0),([],0,0,false),b,a.2.2.1,a.2.2.2,(n:Int))) l.length
  (fun n a=>if (commitG ((l.drop n).map (recOf b)) a.1 a.2.1).2.2.1=0 then .inl ((commitG ((l.drop n).map (recOf b)) a.1 a.2.1).1,(commitG ((l.drop n).map (recOf b)) a.1 a.2.1).2.1,((0,[]),[],0,0,0),([],0,0,false),b,a.2.2.1++(l.drop n).map (recOf b),dirW a.2.2.2 ((l.drop n).zip (commitG ((l.drop n).map (recOf b)) a.1 a.2.1).2.2.2)) else .inr ((commitG ((l.drop n).map (recOf b)) a.1 a.2.1).1,(commitG ((l.drop n).map (recOf b)) a.1 a.2.1).2.1,(commitG ((l.drop n).map (recOf b)) a.1 a.2.1).2.2.1))
  (fun n a=>Good2 (k+211 * (n:Int)) a.1 a.2.1∧a.2.2.1.length=n∧a.2.2.2.length≤1000000+n)
  (fun rec n a hn ha ih=>by
   obtain ⟨S,D,acc,dr⟩:=a
   obtain ⟨ha,hacc,hdr⟩:=ha
   simp only at ha hacc hdr
   rcases Nat.lt_or_ge n l.length with h1 | h1
   ·have hw:=w64_succ (show n+1<9223372036854775808 by omega)
    have hpn:putOk l[n]=true:=by
     unfold putsOk at hp
     simp only[Bool.and_eq_true,List.all_eq_true] at hp
     exact hp.2 _ (List.getElem_mem h1)
    obtain ⟨q1,q2,q3,q4⟩:=addP_ok ha (recOf b l[n])
    obtain ⟨pl,ea,epl⟩:=spec_add_eq ha (by omega) (recOf b l[n])
    have hb:∀{α:Type} (x:α),decide ((acc.length+[x].length) * 64≤140737488355328)=true:=fun x=>decide_eq_true (lim64R (by omega))
    have er:(bif l[n].2.1 then some (l,S,D,(((0,[]),[],0,0,0):StoreT),(([],0,0,false):DiskT),b,acc,dr,(n:Int),(2,b,l[n].1,l[n].2.2,0,0)) else some (l,S,D,((0,[]),[],0,0,0),([],0,0,false),b,acc,dr,(n:Int),(1,b,l[n].1,l[n].2.2,0,0)))=some (l,S,D,((0,[]),[],0,0,0),([],0,0,false),b,acc,dr,(n:Int),recOf b l[n]):=by
     unfold recOf
     unfold putOk at hpn
     revert hpn
     cases hdel:l[n].2.1
     ·intro _;simp
     ·intro hpn;simp at hpn;simp[hpn]
    rw[List.drop_eq_getElem_cons h1]
    simp only[List.map_cons,commitG,ψ2k.l0,Int.ofNat_lt,h1,decide_true,cond_true,inB_nat,rdA_nat,getD_lt h1,er,Option.bind_some,ea,hb]
    by_cases c:(addP S D (recOf b l[n])).2.2.1=0
    ·have g:=q4 c
     obtain ⟨e1,e2,e3⟩:=epl c
     have ed:ψ3I.f dr pl=some (dirStep dr (l[n],(addP S D (recOf b l[n])).2.2.2)):=by
      rw[spec_l9Put_eq dr pl (by omega),e1]
      unfold dirStep
      simp only
      congr 1
      have k1:(recOf b l[n]).2.2.1=l[n].1:=by unfold recOf;split<;>rfl
      have k2:((recOf b l[n]).1=2)↔l[n].2.1=true:=by
       unfold recOf;split
       ·rename_i z;simp[z]
       ·rename_i z;simp[z]
      by_cases z:l[n].2.1=true
      ·rw[if_pos (k2.2 z),if_pos z,k1]
      ·rw[if_neg (fun y=>z (k2.1 y)),if_neg z,e2,←e2,←e3]
     have hds:=dirStep_len dr (l[n],(addP S D (recOf b l[n])).2.2.2)
     have ih:=ih ((addP S D (recOf b l[n])).1,(addP S D (recOf b l[n])).2.1,acc++[recOf b l[n]],dirStep dr (l[n],(addP S D (recOf b l[n])).2.2.2)) h1 ⟨by
      refine ⟨g.dk,g.lv,g.s0,?_⟩
      have:=g.s1;simp only;push_cast;omega,by rw[List.length_append,hacc];rfl,by simp only;omega⟩
     simp only at ih
     simp only[c,bne_self_eq_false,cond_false,ed,Option.bind_some,ne_eq,not_true_eq_false,if_false,hw,ih,List.append_assoc,List.singleton_append,List.zip_cons_cons];rfl
    ·have d1:((addP S D (recOf b l[n])).2.2.1 != 0)=true:=by simpa using c
     simp only[d1,cond_true,c,ne_eq,not_false_eq_true,if_true,if_false]
   ·have:n=l.length:=by omega
    subst this
    simp[ψ2k.l0,commitG,dirW])
  (by omega) 0 (s,d,[],dir) (Nat.zero_le _) ⟨by simpa using h,rfl,by simpa using hd⟩
 have key:lp ψ2k.l0 (l,s,d,((0,[]),[],0,0,0),([],0,0,false),b,[],dir,0)=_:=key
 rw[key,List.drop_zero,List.nil_append]
theorem zip_more {α β:Type}:∀(l:List α) (es x:List β),l.length≤es.length→l.zip (es++x)=l.zip es
 | [],_,_,_=>by simp
 | a::l,[],x,h=>by simp at h
 | a::l,e::es,x,h=>by
  rw[List.cons_append,List.zip_cons_cons,List.zip_cons_cons,zip_more l es x (by simpa using h)]
theorem spec_commit_eq {s:StoreT} {d:DiskT} {k:Int} (h:Good2 k s d) (hk:k≤100000000) (l:List PutT) (hl:l.length≤8) (hp:putsOk l=true) (hb:0≤s.2.2.1∧s.2.2.1≤1000001) (hd:s.2.1.length≤1000000):ψ2k.f s d l=some (commitP s d l):=by
 have h':Good2 k (s.1,s.2.1,s.2.2.1+1,s.2.2.2) d:=⟨h.dk,h.lv,h.s0,h.s1⟩
 obtain ⟨p1,p2,p3,p4⟩:=commitG_ok (l.map (recOf s.2.2.1)) _ _ _ h'
 have hb48:(([]:List EntryT).length+s.2.1.length) * 48≤140737488355328:=lim48' (by omega)
 have hml:(l.map (recOf s.2.2.1)).length=l.length:=List.length_map _
 unfold ψ2k.f commitP
 rw[show recsOf s.2.2.1 l=l.map (recOf s.2.2.1)++[(3,s.2.2.1,[],[],(l.length:Int),sumOf (l.map (recOf s.2.2.1)))] from rfl,commitG_snoc]
 simp only[show w64 (s.2.2.1+1)=s.2.2.1+1 from w64_id (by omega) (by omega),hb48,decide_true,cond_true,List.nil_append,spec_commit_l0 l hp s.2.2.1 s.2.1 (s.1,s.2.1,s.2.2.1+1,s.2.2.2) d k h' (by omega) (by omega) hd,Option.bind_some]
 generalize commitG (l.map (recOf s.2.2.1)) (s.1,s.2.1,s.2.2.1+1,s.2.2.2) d=g at *
 obtain ⟨S,D,c,es⟩:=g
 by_cases c1:c=0
 rotate_left
 ·simp only[c1,if_false,caseS_r,ne_eq,not_false_eq_true,if_true]
 subst c1
 obtain ⟨g,hes⟩:=p4 rfl
 have hes:es.length=(l.map (recOf s.2.2.1)).length:=hes
 have p3:S.2.1=s.2.1:=p3
 have g':Good2 (k+211 * ((l.map (recOf s.2.2.1)).length:Int)) S D:=g
 have esl:ψ3K.f (l.map (recOf s.2.2.1)) s.2.2.1 3=some (3,s.2.2.1,[],[],(l.length:Int),sumOf (l.map (recOf s.2.2.1))):=by
  unfold ψ3K.f
  rw[spec_SumOf_eq _ (by omega),Option.bind_some,hml]
 obtain ⟨pl,ea,_⟩:=spec_add_eq g' (by omega) (3,s.2.2.1,[],[],(l.length:Int),sumOf (l.map (recOf s.2.2.1)))
 obtain ⟨a1,a2,a3,a4⟩:=addP_ok g' (3,s.2.2.1,[],[],(l.length:Int),sumOf (l.map (recOf s.2.2.1)))
 simp only[if_true,caseS_l,ne_eq,not_true_eq_false,if_false,esl,Option.bind_some,ea]
 generalize addP S D (3,s.2.2.1,[],[],(l.length:Int),sumOf (l.map (recOf s.2.2.1)))=A at *
 obtain ⟨S2,D2,c2,e2⟩:=A
 by_cases c3:c2=0
 rotate_left
 ·have d3:(c2 != 0)=true:=by simpa using c3
  simp only[d3,cond_true,c3,not_false_eq_true,if_true]
 subst c3
 have g3:=a4 rfl
 have g4:liveOk S2.1=true:=g3.lv
 have g5:diskOk D2=true:=g3.dk
 have a3:S2.2.1=S.2.1:=a3
 obtain ⟨k1,k2,k3,k4⟩:=(liveOk_iff S2.1).1 g4
 have ey:ψ2U.f D2 (actN S2)=some (dSync (actN S2) D2):=spec_Sync_eq D2 (actN S2) (dl_lim (dl_dk g5) (by omega))
 simp only[bne_self_eq_false,cond_false,not_true_eq_false,if_false,spec_l12Active_eq S2 k3 (by omega),Option.bind_some,ey]
 generalize dSync (actN S2) D2=w at *
 obtain ⟨x,c4⟩:=w
 by_cases c5:c4=0
 ·subst c5
  have ez:l.zip (es++[e2])=l.zip es:=zip_more l es [e2] (by omega)
  simp only[bne_self_eq_false,cond_false,not_true_eq_false,if_false,ez,a3,p3]
 ·have d5:(c4 != 0)=true:=by simpa using c5
  simp only[d5,cond_true,c5,not_false_eq_true,if_true,spec_l11Code_eq,Option.bind_some]
theorem segs_size {d:DiskT} (hd:dlim d) {size:Int}:∀(l:List Int),l≠[]→segsOk d size l=true→0≤size∧size≤(usedN d.1:Int)
 | [],h,_=>absurd rfl h
 | [id],_,h=>by
  unfold segsOk segOk at h
  simp only[Bool.and_eq_true,List.isEmpty_nil,Bool.not_true,Bool.false_or,decide_eq_true_eq] at h
  have:=fileText_len d (segName id) hd
  have e:=h.1.2.2
  omega
 | id::id2::r,_,h=>by
  have h2:segsOk d size (id2::r)=true:=by
   unfold segsOk at h
   simp only[Bool.and_eq_true] at h
   exact h.2
  exact segs_size hd (id2::r) (by simp) h2
theorem storeOk_good {s:StoreT} {d:DiskT} (h:storeOk s d=true):Good2 100000 s d:=by
 obtain ⟨q1,q2,q3,q4,q5⟩:=storeOk_parts h
 have hl:=dl_dk q1
 have hd:=dl_lim hl (by omega)
 have k:=(liveOk_iff s.1).1 q2
 have:=segs_size hd s.1.2 (fun e=>by rw[e] at k;simp at k) q5
 have:=(diskOk_cap q1)
 exact ⟨q1,q2,by omega,by omega⟩
theorem commitP_ok {s:StoreT} {d:DiskT} {k:Int} (h:Good2 k s d) (l:List PutT):diskOk (commitP s d l).2.1=true∧(commitP s d l).1.1.2.length≤61∧(commitP s d l).1.2.1.length≤s.2.1.length+l.length:=by
 have h':Good2 k (s.1,s.2.1,s.2.2.1+1,s.2.2.2) d:=⟨h.dk,h.lv,h.s0,h.s1⟩
 obtain ⟨p1,p2,p3,p4⟩:=commitG_ok (recsOf s.2.2.1 l) _ _ _ h'
 unfold commitP
 generalize commitG (recsOf s.2.2.1 l) (s.1,s.2.1,s.2.2.1+1,s.2.2.2) d=g at *
 have p3:g.1.2.1=s.2.1:=p3
 simp only
 have hs:=dk_Sync p1 (actN g.1)
 split
 ·exact ⟨p1,p2,by simp only;rw[p3];omega⟩
 split
 ·exact ⟨hs,p2,by simp only;rw[p3];omega⟩
 ·refine ⟨hs,p2,?_⟩
  have:=dirW_len (l.zip g.2.2.2) g.1.2.1
  have:=List.length_zip (l₁:=l) (l₂:=g.2.2.2)
  rw[←p3]
  simp only;omega
theorem impl_HintName_eq (id:Int):ψM.f id=some (hintName id):=by
 unfold ψM.f hintName
 rw[impl_named_eq [104,105,110,116] id (by show 4≤100;decide),Option.bind_some]
theorem spec_HintName_eq (id:Int):ψ1y.f id=some (hintName id):=by
 unfold ψ1y.f hintName nameN
 rw[spec_l1In_eq,Option.bind_some]
 by_cases h:1≤id∧id≤100000
 ·obtain ⟨n,rfl⟩:∃n:Nat,id=(n:Int):=⟨id.toNat,by omega⟩
  have hl:=digits_len 5 n (by show n<1000000;omega)
  have hb:([104,105,110,116]:List UInt8).length+(Lib.decDigits n).length≤9223372036854775807:=by show 4+_≤_;omega
  simp only[h,and_self,decide_true,Bool.not_true,cond_false,spec_Dec_eq n (by omega),Option.bind_some,hb,cond_true,if_true,Int.toNat_natCast]
 ·simp[h]
theorem hintName_len (id:Int):(hintName id).length≤10:=by
 unfold hintName nameN
 split
 ·have hl:=digits_len 5 id.toNat (by show _<1000000;omega)
  rw[List.length_append];show 4+_≤10;omega
 ·simp
abbrev HintT:=Int×Int×List EntryT
def sameSeg (h:HintT) (e:EntryT):Bool:=!(e.2.1 != ((h.2.2.getD 0 ([],0,0,0,0)).2.1)) && !decide (e.2.2.1 > 100000)
def hintOk (h:HintT):Bool:=h.2.2.all (sameSeg h) && (decide (0≤h.1∧h.1≤100000) && (decide (0≤h.2.1∧h.2.1≤1000000) && dirOk h.2.2))
theorem impl_hintOk_eq (h:HintT) (hl:h.2.2.length<1000000000):ψ14.f h=some (hintOk h):=by
 have key:=all_loop (step:=ψ14.l0) h.2.2 (sameSeg h) (fun n=>(h,h.2.2,(h.2.2.length:Int),(n:Int))) h (by omega)
  (fun rec n h1=>by
   have hw:=w64_succ (show n+1<9223372036854775808 by omega)
   have h0:inB 0 h.2.2.length=true:=by rw[show (0:Int)=((0:Nat):Int) from rfl,inB_nat];simp;omega
   have r0:rdA ([],0,0,0,0) h.2.2 0=h.2.2.getD 0 ([],0,0,0,0):=by rw[show (0:Int)=((0:Nat):Int) from rfl,rdA_nat]
   simp only[ψ14.l0,Int.ofNat_lt,h1,decide_true,cond_true,inB_nat,rdA_nat,getD_lt h1,h0,r0,hw]
   unfold sameSeg
   cases (h.2.2[n].2.1 != (h.2.2.getD 0 ([],0,0,0,0)).2.1)<;>cases decide (h.2.2[n].2.2.1 > 100000)<;>rfl)
  (fun rec=>by simp[ψ14.l0])
 have key:lp ψ14.l0 (h,h.2.2,(h.2.2.length:Int),0)=_:=key
 unfold ψ14.f hintOk
 rw[key,Option.bind_some]
 simp only[impl_in_eq,impl_DirOk_eq h.2.2 (by omega),Option.bind_some]
 cases h.2.2.all (sameSeg h)
 ·simp
 simp only[if_true,caseS_l,Bool.true_and]
 cases decide (0≤h.1∧h.1≤100000)<;>cases decide (0≤h.2.1∧h.2.1≤1000000)<;>simp[impl_DirOk_eq h.2.2 (show h.2.2.length<2 ^ 62 by omega)]
theorem spec_l10Ok_eq (h:HintT) (hl:h.2.2.length<1000000000):ψ2Y.f h=some (hintOk h):=by
 have key:=all_loop (step:=ψ2Y.l0) h.2.2 (sameSeg h) (fun n=>(h,(n:Int))) () (by omega)
  (fun rec n h1=>by
   have hw:=w64_succ (show n+1<9223372036854775808 by omega)
   have h0:inB 0 h.2.2.length=true:=by rw[show (0:Int)=((0:Nat):Int) from rfl,inB_nat];simp;omega
   have r0:rdA ([],0,0,0,0) h.2.2 0=h.2.2.getD 0 ([],0,0,0,0):=by rw[show (0:Int)=((0:Nat):Int) from rfl,rdA_nat]
   simp only[ψ2Y.l0,Int.ofNat_lt,h1,decide_true,cond_true,inB_nat,rdA_nat,getD_lt h1,h0,r0,hw]
   unfold sameSeg
   cases (h.2.2[n].2.1 != (h.2.2.getD 0 ([],0,0,0,0)).2.1)<;>cases decide (h.2.2[n].2.2.1 > 100000)<;>rfl)
  (fun rec=>by simp[ψ2Y.l0])
 have key:lp ψ2Y.l0 (h,0)=_:=key
 unfold ψ2Y.f hintOk
 rw[key]
 simp only[spec_l1In_eq,spec_DirOk_eq h.2.2 (by omega),Option.bind_some]
 cases h.2.2.all (sameSeg h)<;>cases decide (0≤h.1∧h.1≤100000)<;>cases decide (0≤h.2.1∧h.2.1≤1000000)<;>cases dirOk h.2.2<;>rfl
def entT (e:EntryT):List UInt8:=varT (e.1.length:Int)++e.1++varT e.2.1++varT e.2.2.1++varT e.2.2.2.1++varT e.2.2.2.2
def hintBd (h:HintT):List UInt8:=varT h.1++varT h.2.1++varT (h.2.2.length:Int)++(h.2.2.map entT).flatten
def showHint (h:HintT):List UInt8:=if hintOk h=false then [] else fix4 (crcT (hintBd h))++hintBd h
theorem entry_key {e:EntryT} (h:entryOk e=true):e.1.length≤8:=by
 unfold entryOk keyOk at h
 simp only[Bool.and_eq_true,decide_eq_true_eq] at h
 omega
theorem riseE_mem:∀(l:List EntryT) (p:Option (List UInt8)),riseE p l=true→∀e∈l,entryOk e=true
 | [],_,_,e,he=>by simp at he
 | x::l,p,h,e,he=>by
  simp only[riseE,Bool.and_eq_true] at h
  rcases List.mem_cons.1 he with c | he
  ·subst c;exact h.1
  ·exact riseE_mem l _ h.2.2 e he
theorem dirOk_mem {l:List EntryT} (h:dirOk l=true):l.length≤20∧∀e∈l,entryOk e=true:=by
 unfold dirOk at h
 simp only[Bool.and_eq_true,decide_eq_true_eq] at h
 exact ⟨h.2,riseE_mem l none h.1⟩
theorem entT_len {e:EntryT} (h:e.1.length≤8):(entT e).length≤43:=by
 unfold entT
 have:=varT_len (e.1.length:Int)
 have:=varT_len e.2.1
 have:=varT_len e.2.2.1
 have:=varT_len e.2.2.2.1
 have:=varT_len e.2.2.2.2
 simp only[List.length_append];omega
theorem entsT_len:∀{l:List EntryT},(∀e∈l,e.1.length≤8)→((l.map entT).flatten).length≤43 * l.length
 | [],_=>by simp
 | e::l,h=>by
  have h1:=entT_len (h e List.mem_cons_self)
  have h2:=entsT_len (l:=l) fun x hx=>h x (List.mem_cons_of_mem _ hx)
  rw[List.map_cons,List.flatten_cons,List.length_append,List.length_cons];omega
theorem hint_parts {h:HintT} (k:hintOk h=true):h.2.2.length≤20∧∀e∈h.2.2,e.1.length≤8:=by
 unfold hintOk at k
 simp only[Bool.and_eq_true] at k
 have:=dirOk_mem k.2.2.2
 exact ⟨this.1,fun e he=>entry_key (this.2 e he)⟩
theorem hintB_len {h:HintT} (k:hintOk h=true):(hintBd h).length≤1000:=by
 obtain ⟨k1,k2⟩:=hint_parts k
 have:=entsT_len k2
 have:=varT_len h.1
 have:=varT_len h.2.1
 have:=varT_len (h.2.2.length:Int)
 unfold hintBd
 simp only[List.length_append];omega
theorem showHint_len (h:HintT):(showHint h).length≤1004:=by
 unfold showHint;split
 ·simp
 ·rename_i k
  have:=hintB_len (by simpa using k)
  have:=fix4_len (crcT (hintBd h))
  rw[List.length_append];omega
theorem impl_ShowHint_eq (h:HintT) (hl:h.2.2.length<1000000000):ψl.f h=some (showHint h):=by
 unfold ψl.f showHint
 rw[impl_hintOk_eq h hl,Option.bind_some]
 rcases Bool.eq_false_or_eq_true (hintOk h) with k | k
 rotate_left
 ·simp[k]
 obtain ⟨k1,k2⟩:=hint_parts k
 have hB:=hintB_len k
 have hf:=fix4_len (crcT (hintBd h))
 have v1:=varT_len h.1
 have v2:=varT_len h.2.1
 have v3:=varT_len (h.2.2.length:Int)
 have e0:ψ1M.f [h.1,h.2.1,(h.2.2.length:Int)]=some (varT h.1++varT h.2.1++varT (h.2.2.length:Int)):=by
  rw[impl_vars_eq _ (by simp)];simp
 have key:=lp_up (step:=ψl.l0) (fun n (acc:List UInt8)=>(acc,h.2.2,(h.2.2.length:Int),(n:Int))) h.2.2.length (fun n acc=>acc++((h.2.2.drop n).map entT).flatten) (fun n acc=>acc.length≤21+43 * n)
  (fun rec n acc hn ha ih=>by
   rcases Nat.lt_or_ge n h.2.2.length with h1 | h1
   ·have hw:=w64_succ (show n+1<9223372036854775808 by omega)
    have hk:=k2 _ (List.getElem_mem h1)
    have he:=entT_len hk
    have ih:=ih (acc++entT h.2.2[n]) h1 (by rw[List.length_append];omega)
    have e1:ψ1M.f [h.2.2[n].2.1,h.2.2[n].2.2.1,h.2.2[n].2.2.2.1,h.2.2[n].2.2.2.2]=some (varT h.2.2[n].2.1++varT h.2.2[n].2.2.1++varT h.2.2[n].2.2.2.1++varT h.2.2[n].2.2.2.2):=by
     rw[impl_vars_eq _ (by simp)];simp
    have e2:(varT (h.2.2[n].1.length:Int)++h.2.2[n].1)++(varT h.2.2[n].2.1++varT h.2.2[n].2.2.1++varT h.2.2[n].2.2.2.1++varT h.2.2[n].2.2.2.2)=entT h.2.2[n]:=by
     unfold entT;simp only[List.append_assoc]
    have e3:(varT (h.2.2[n].1.length:Int)++h.2.2[n].1).length+(varT h.2.2[n].2.1++varT h.2.2[n].2.2.1++varT h.2.2[n].2.2.2.1++varT h.2.2[n].2.2.2.2).length≤1000000000000000:=by
     rw[←List.length_append,e2];omega
    simp only[ψl.l0,Int.ofNat_lt,h1,decide_true,cond_true,inB_nat,rdA_nat,getD_lt h1,impl_textOf_eq h.2.2[n].1 (show h.2.2[n].1.length<2 ^ 62 by omega),e1,Option.bind_some,lim63 e3,e2,lim63 (show acc.length+(entT h.2.2[n]).length≤1000000000000000 by omega),hw,ih]
    rw[List.drop_eq_getElem_cons h1,List.map_cons,List.flatten_cons,List.append_assoc]
   ·have:n=h.2.2.length:=by omega
    subst this
    simp[ψl.l0])
  (by omega) 0 (varT h.1++varT h.2.1++varT (h.2.2.length:Int)) (Nat.zero_le _) (by simp only[List.length_append];omega)
 have key:lp ψl.l0 (varT h.1++varT h.2.1++varT (h.2.2.length:Int),h.2.2,(h.2.2.length:Int),0)=some (hintBd h):=by rw[show (0:Int)=((0:Nat):Int) from rfl,key];rfl
 simp only[k,Bool.not_true,cond_false,e0,Option.bind_some,key,impl_Crc_eq (hintBd h) (by omega),impl_Fixed_eq,lim63 (show (fix4 (crcT (hintBd h))).length+(hintBd h).length≤1000000000000000 by omega),cond_true,Bool.true_eq_false,if_false]
theorem spec_ShowHint_eq (h:HintT) (hl:h.2.2.length<1000000000):ψ2P.f h=some (showHint h):=by
 unfold ψ2P.f showHint
 rw[spec_l10Ok_eq h hl,Option.bind_some]
 rcases Bool.eq_false_or_eq_true (hintOk h) with k | k
 rotate_left
 ·simp[k]
 obtain ⟨k1,k2⟩:=hint_parts k
 have hB:=hintB_len k
 have hf:=fix4_len (crcT (hintBd h))
 have hr:=crcT_range (hintBd h)
 have v1:=varT_len h.1
 have v2:=varT_len h.2.1
 have v3:=varT_len (h.2.2.length:Int)
 have key:=lp_up (step:=ψ2P.l0) (fun n (acc:List UInt8)=>(h,acc,(n:Int))) h.2.2.length (fun n acc=>acc++((h.2.2.drop n).map entT).flatten) (fun n acc=>acc.length≤21+43 * n)
  (fun rec n acc hn ha ih=>by
   rcases Nat.lt_or_ge n h.2.2.length with h1 | h1
   ·have hw:=w64_succ (show n+1<9223372036854775808 by omega)
    have hk:=k2 _ (List.getElem_mem h1)
    have he:=entT_len hk
    have ih:=ih (acc++entT h.2.2[n]) h1 (by rw[List.length_append];omega)
    have w1:=varT_len (h.2.2[n].1.length:Int)
    have w2:=varT_len h.2.2[n].2.1
    have w3:=varT_len h.2.2[n].2.2.1
    have w4:=varT_len h.2.2[n].2.2.2.1
    have w5:=varT_len h.2.2[n].2.2.2.2
    have e2:acc++varT (h.2.2[n].1.length:Int)++h.2.2[n].1++varT h.2.2[n].2.1++varT h.2.2[n].2.2.1++varT h.2.2[n].2.2.2.1++varT h.2.2[n].2.2.2.2=acc++entT h.2.2[n]:=by
     unfold entT;simp only[List.append_assoc]
    simp only[ψ2P.l0,Int.ofNat_lt,h1,decide_true,cond_true,inB_nat,rdA_nat,getD_lt h1,spec_Var_eq,Option.bind_some,
     lim63 (show acc.length+(varT (h.2.2[n].1.length:Int)).length≤1000000000000000 by omega),
     lim63 (show (acc++varT (h.2.2[n].1.length:Int)).length+h.2.2[n].1.length≤1000000000000000 by simp only[List.length_append];omega),
     lim63 (show (acc++varT (h.2.2[n].1.length:Int)++h.2.2[n].1).length+(varT h.2.2[n].2.1).length≤1000000000000000 by simp only[List.length_append];omega),
     lim63 (show (acc++varT (h.2.2[n].1.length:Int)++h.2.2[n].1++varT h.2.2[n].2.1).length+(varT h.2.2[n].2.2.1).length≤1000000000000000 by simp only[List.length_append];omega),
     lim63 (show (acc++varT (h.2.2[n].1.length:Int)++h.2.2[n].1++varT h.2.2[n].2.1++varT h.2.2[n].2.2.1).length+(varT h.2.2[n].2.2.2.1).length≤1000000000000000 by simp only[List.length_append];omega),
     lim63 (show (acc++varT (h.2.2[n].1.length:Int)++h.2.2[n].1++varT h.2.2[n].2.1++varT h.2.2[n].2.2.1++varT h.2.2[n].2.2.2.1).length+(varT h.2.2[n].2.2.2.2).length≤1000000000000000 by simp only[List.length_append];omega),e2,hw,ih]
    rw[List.drop_eq_getElem_cons h1,List.map_cons,List.flatten_cons,List.append_assoc]
   ·have:n=h.2.2.length:=by omega
    subst this
    simp[ψ2P.l0])
  (by omega) 0 (varT h.1++varT h.2.1++varT (h.2.2.length:Int)) (Nat.zero_le _) (by simp only[List.length_append];omega)
 have key:lp ψ2P.l0 (h,varT h.1++varT h.2.1++varT (h.2.2.length:Int),0)=some (hintBd h):=by rw[show (0:Int)=((0:Nat):Int) from rfl,key];rfl
 simp only[k,Bool.not_true,cond_false,spec_Var_eq,lim63 (show (varT h.1).length+(varT h.2.1).length≤1000000000000000 by omega),lim63 (show (varT h.1++varT h.2.1).length+(varT (h.2.2.length:Int)).length≤1000000000000000 by simp only[List.length_append];omega),Option.bind_some,key,spec_Crc_eq (hintBd h) (by omega),spec_Fixed_eq _ (show crcT (hintBd h)<9223372036854775808 by omega),lim63 (show (fix4 (crcT (hintBd h))).length+(hintBd h).length≤1000000000000000 by omega),cond_true,Bool.true_eq_false,if_false]
abbrev PlaceT:=Int×SpotT
theorem impl_placed_eq (id:Int) (l:List SpotT) (hl:l.length<1000000000):ψ19.f id l=some (l.map fun x=>((id,x):PlaceT)):=by
 have key:=lp_up (step:=ψ19.l0) (fun n (acc:List PlaceT)=>(id,acc,l,(l.length:Int),(n:Int))) l.length (fun n acc=>acc++(l.drop n).map fun x=>((id,x):PlaceT)) (fun n acc=>acc.length=n)
  (fun rec n acc hn ha ih=>by
   rcases Nat.lt_or_ge n l.length with h | h
   ·have hw:=w64_succ (show n+1<9223372036854775808 by omega)
    have hb:∀{α:Type} (x:α),decide ((acc.length+[x].length) * 88≤140737488355328)=true:=fun x=>decide_eq_true (by show (acc.length+1) * 88≤_;omega)
    have ih:=ih (acc++[(id,l[n])]) h (by rw[List.length_append,ha];rfl)
    simp only[ψ19.l0,Int.ofNat_lt,h,decide_true,cond_true,inB_nat,rdA_nat,getD_lt h,hb,hw,ih]
    rw[List.drop_eq_getElem_cons h,List.map_cons,List.append_assoc];rfl
   ·have:n=l.length:=by omega
    subst this
    simp[ψ19.l0])
  (by omega) 0 [] (Nat.zero_le _) rfl
 have key:lp ψ19.l0 (id,[],l,(l.length:Int),0)=_:=key
 unfold ψ19.f
 rw[key,Option.bind_some]
 simp
def fitsR (r:RecT) (l:List RecT):Bool:=(r.2.2.2.2.1==(l.length:Int)) && (r.2.2.2.2.2==sumOf l)
theorem impl_fits_eq (r:RecT) (l:List PlaceT) (hl:l.length<1000000000):ψ12.f r l=some (fitsR r (l.map (·.2.2.2))):=by
 have key:=lp_up (step:=ψ12.l0) (fun n (acc:List RecT)=>(r,acc,l,(l.length:Int),(n:Int))) l.length (fun n acc=>(r,acc++(l.drop n).map (·.2.2.2))) (fun n acc=>acc.length=n)
  (fun rec n acc hn ha ih=>by
   rcases Nat.lt_or_ge n l.length with h | h
   ·have hw:=w64_succ (show n+1<9223372036854775808 by omega)
    have hb:∀{α:Type} (x:α),decide ((acc.length+[x].length) * 64≤140737488355328)=true:=fun x=>decide_eq_true (lim64R (by omega))
    have ih:=ih (acc++[l[n].2.2.2]) h (by rw[List.length_append,ha];rfl)
    simp only[ψ12.l0,Int.ofNat_lt,h,decide_true,cond_true,inB_nat,rdA_nat,getD_lt h,hb,hw,ih]
    rw[List.drop_eq_getElem_cons h,List.map_cons,List.append_assoc];rfl
   ·have:n=l.length:=by omega
    subst this
    simp[ψ12.l0])
  (by omega) 0 [] (Nat.zero_le _) rfl
 have key:lp ψ12.l0 (r,[],l,(l.length:Int),0)=_:=key
 unfold ψ12.f fitsR
 rw[key,Option.bind_some,List.drop_zero,List.nil_append]
 simp only[impl_SumOf_eq (l.map (·.2.2.2)) (by rw[List.length_map];omega),Option.bind_some]
 cases (r.2.2.2.2.1==((l.map (·.2.2.2)).length:Int))<;>rfl
abbrev zSpot:SpotT:=(0,0,0,0,[],[],0,0)
def entS (id:Int) (x:SpotT):EntryT:=(x.2.2.2.2.1,id,x.1,x.2.1,x.2.2.2.1)
def riseS (mark:Int):Option (List UInt8)→List SpotT→Bool
 | _,[]=>true
 | p,x::r=>(x.2.2.1==4) && (!decide (x.2.2.2.1 > mark) && ((match p with | none=>true | some q=>Op.bytesLess q x.2.2.2.2.1) && riseS mark (some x.2.2.2.2.1) r))
def beforeS (l:List SpotT):Nat→Option (List UInt8)
 | 0=>none
 | n+1=>some (l.getD n zSpot).2.2.2.2.1
theorem beforeS_succ (l:List SpotT) (n:Nat) (h:n<l.length):beforeS l (n+1)=some l[n].2.2.2.2.1:=by
 show some (l.getD n zSpot).2.2.2.2.1=_
 rw[getD_lt h]
theorem impl_HintOf_l0 (id e mark:Int) (l:List SpotT) (k:Nat) (hk:k≤l.length) (hl:l.length<1000000000) :
  lp ψN.l0 (id,(0,0,[]),l,(e,mark,[]),l.take k,((l.take k).length:Int),0)=some (if riseS mark none (l.take k)=true then .inl ((0,0,[]),(e,mark,(l.take k).map (entS id))) else .inr ((0,0,[]),false)):=by
 have hlen:(l.take k).length=k:=by rw[List.length_take];omega
 have key:=lp_up (step:=ψN.l0) (fun n (acc:List EntryT)=>(id,(0,0,[]),l,(e,mark,acc),l.take k,((l.take k).length:Int),(n:Int))) k (fun n acc=>if riseS mark (beforeS l n) ((l.take k).drop n)=true then .inl ((0,0,[]),(e,mark,acc++((l.take k).drop n).map (entS id))) else .inr ((0,0,[]),false)) (fun n acc=>acc.length=n)
  (fun rec n acc hn ha ih=>by
   rcases Nat.lt_or_ge n k with h | h
   ·have hw:=w64_succ (show n+1<9223372036854775808 by omega)
    have h1:n<(l.take k).length:=by omega
    have h2:n<l.length:=by omega
    have hx:(l.take k)[n]=l[n]:=List.getElem_take
    have hb:∀{α:Type} (x:α),decide ((acc.length+[x].length) * 48≤140737488355328)=true:=fun x=>decide_eq_true (lim48 (by omega))
    have ih:=ih (acc++[entS id l[n]]) h (by rw[List.length_append,ha];rfl)
    rw[beforeS_succ l n h2] at ih
    rw[List.drop_eq_getElem_cons h1,hx]
    simp only[riseS,ψN.l0,Int.ofNat_lt,h1,decide_true,cond_true,inB_nat,rdA_nat,getD_lt h1,hx]
    rcases Bool.eq_false_or_eq_true (l[n].2.2.1==4) with k1 | k1
    rotate_left
    ·simp only[bne,k1,Bool.not_false,cond_true,Option.bind_some,caseS_r,Bool.false_and,Bool.false_eq_true,if_false]
    rcases Bool.eq_false_or_eq_true (decide (l[n].2.2.2.1 > mark)) with k2 | k2
    ·simp only[bne,k1,k2,Bool.not_true,Bool.not_false,cond_false,cond_true,Option.bind_some,caseS_r,Bool.false_and,Bool.true_and,Bool.false_eq_true,if_false]
    simp only[bne,k1,k2,Bool.not_true,Bool.not_false,cond_false,Bool.true_and,List.map_cons]
    cases n with
    | zero=>
     have z:¬((0:Nat):Int) > 0:=by omega
     simp only[z,decide_false,cond_false,Option.bind_some,caseS_l,hb,cond_true,hw,beforeS,Bool.true_and]
     rw[show acc++entS id l[0]::List.map (entS id) (List.drop (0+1) (List.take k l))=acc++[entS id l[0]]++List.map (entS id) (List.drop (0+1) (List.take k l)) by rw[List.append_assoc];rfl]
     exact ih
    | succ m=>
     have z:((m+1:Nat):Int) > 0:=by omega
     have hm:m<l.length:=by omega
     have z2:w64 (((m+1:Nat):Int) - 1)=(m:Int):=by rw[w64_id (by omega) (by omega)];omega
     rw[beforeS_succ l m hm]
     simp only[z,decide_true,cond_true,z2,inB_nat,hm,rdA_nat,getD_lt hm]
     rcases Bool.eq_false_or_eq_true (Op.bytesLess l[m].2.2.2.2.1 l[m+1].2.2.2.2.1) with k3 | k3
     ·simp only[k3,Bool.not_true,cond_false,Option.bind_some,caseS_l,hb,cond_true,hw,Bool.true_and]
      rw[show acc++entS id l[m+1]::List.map (entS id) (List.drop (m+1+1) (List.take k l))=acc++[entS id l[m+1]]++List.map (entS id) (List.drop (m+1+1) (List.take k l)) by rw[List.append_assoc];rfl]
      exact ih
     ·simp only[k3,Bool.not_false,cond_true,Option.bind_some,caseS_r,Bool.false_and,Bool.false_eq_true,if_false]
   ·have:n=k:=by omega
    subst this
    have hd:(l.take n).drop n=[]:=by rw[List.drop_eq_nil_iff];omega
    rw[hd]
    simp[ψN.l0,riseS,hlen])
  (by omega) 0 [] (Nat.zero_le _) rfl
 have key:lp ψN.l0 (id,(0,0,[]),l,(e,mark,[]),l.take k,((l.take k).length:Int),0)=_:=key
 rw[key,List.drop_zero,List.nil_append];rfl
theorem spec_HintOf_l0 (id e mark:Int) (l:List SpotT) (h0:1≤l.length) (hl:l.length<1000000000) :
  lp ψ1z.l0 (id,(0,0,[]),l,(e,mark,[]),[],0)=some (if riseS mark none (l.take (l.length - 1))=true then .inl ((0,0,[]),l,(e,mark,(l.take (l.length - 1)).map (entS id)),(l.take (l.length - 1)).map (·.2.2)) else .inr ((0,0,[]),false)):=by
 obtain ⟨k,hk⟩:∃k,l.length=k+1:=⟨l.length - 1,by omega⟩
 have e1:l.length - 1=k:=by omega
 rw[e1]
 have hlen:(l.take k).length=k:=by rw[List.length_take];omega
 have key:=lp_up (step:=ψ1z.l0) (fun n (a:List EntryT×List RecT)=>(id,(0,0,[]),l,(e,mark,a.1),a.2,(n:Int))) k (fun n a=>if riseS mark (beforeS l n) ((l.take k).drop n)=true then .inl ((0,0,[]),l,(e,mark,a.1++((l.take k).drop n).map (entS id)),a.2++((l.take k).drop n).map (·.2.2)) else .inr ((0,0,[]),false)) (fun n a=>a.1.length=n∧a.2.length=n)
  (fun rec n a hn ha ih=>by
   obtain ⟨acc,rs⟩:=a
   obtain ⟨ha,hr⟩:=ha
   simp only at ha hr
   rcases Nat.lt_or_ge n k with h | h
   ·have hw:=w64_succ (show n+1<9223372036854775808 by omega)
    have h1:n<(l.take k).length:=by omega
    have h2:n<l.length:=by omega
    have h3:n+1<l.length:=by omega
    have hx:(l.take k)[n]=l[n]:=List.getElem_take
    have hb:∀{α:Type} (x:α),decide ((acc.length+[x].length) * 48≤140737488355328)=true:=fun x=>decide_eq_true (lim48 (by omega))
    have hb2:∀{α:Type} (x:α),decide ((rs.length+[x].length) * 64≤140737488355328)=true:=fun x=>decide_eq_true (lim64R (by omega))
    have ih:=ih (acc++[entS id l[n]],rs++[l[n].2.2]) h ⟨by rw[List.length_append,ha];rfl,by rw[List.length_append,hr];rfl⟩
    simp only at ih
    rw[beforeS_succ l n h2] at ih
    rw[List.drop_eq_getElem_cons h1,hx]
    simp only[riseS,ψ1z.l0,hw,Int.ofNat_lt,h2,h3,decide_true,cond_true,inB_nat,rdA_nat,getD_lt h2]
    rcases Bool.eq_false_or_eq_true (l[n].2.2.1==4) with k1 | k1
    rotate_left
    ·simp only[bne,k1,Bool.not_false,cond_true,Option.bind_some,caseS_r,Bool.false_and,Bool.false_eq_true,if_false]
    rcases Bool.eq_false_or_eq_true (decide (l[n].2.2.2.1 > mark)) with k2 | k2
    ·simp only[bne,k1,k2,Bool.not_true,Bool.not_false,cond_false,cond_true,Option.bind_some,caseS_r,Bool.false_and,Bool.true_and,Bool.false_eq_true,if_false]
    simp only[bne,k1,k2,Bool.not_true,Bool.not_false,cond_false,Bool.true_and,List.map_cons]
    cases n with
    | zero=>
     have z:¬((0:Nat):Int) > 0:=by omega
     simp only[z,decide_false,cond_false,Option.bind_some,caseS_l,hb,hb2,cond_true,inB_nat,h2,decide_true,rdA_nat,getD_lt h2,hw,beforeS,Bool.true_and]
     rw[show acc++entS id l[0]::List.map (entS id) (List.drop (0+1) (List.take k l))=acc++[entS id l[0]]++List.map (entS id) (List.drop (0+1) (List.take k l)) by rw[List.append_assoc];rfl,
      show rs++l[0].2.2::List.map (·.2.2) (List.drop (0+1) (List.take k l))=rs++[l[0].2.2]++List.map (·.2.2) (List.drop (0+1) (List.take k l)) by rw[List.append_assoc];rfl]
     exact ih
    | succ m=>
     have z:((m+1:Nat):Int) > 0:=by omega
     have hm:m<l.length:=by omega
     have z2:w64 (((m+1:Nat):Int) - 1)=(m:Int):=by rw[w64_id (by omega) (by omega)];omega
     have hle:(Op.bytesLess l[m+1].2.2.2.2.1 l[m].2.2.2.2.1 || l[m+1].2.2.2.2.1==l[m].2.2.2.2.1)=!Op.bytesLess l[m].2.2.2.2.1 l[m+1].2.2.2.2.1:=leK_not _ _
     rw[beforeS_succ l m hm]
     simp only[z,decide_true,cond_true,z2,inB_nat,hm,rdA_nat,getD_lt hm,hle]
     rcases Bool.eq_false_or_eq_true (Op.bytesLess l[m].2.2.2.2.1 l[m+1].2.2.2.2.1) with k3 | k3
     ·simp only[k3,Bool.not_true,cond_false,Option.bind_some,caseS_l,hb,hb2,cond_true,inB_nat,h2,decide_true,rdA_nat,getD_lt h2,hw,Bool.true_and]
      rw[show acc++entS id l[m+1]::List.map (entS id) (List.drop (m+1+1) (List.take k l))=acc++[entS id l[m+1]]++List.map (entS id) (List.drop (m+1+1) (List.take k l)) by rw[List.append_assoc];rfl,
       show rs++l[m+1].2.2::List.map (·.2.2) (List.drop (m+1+1) (List.take k l))=rs++[l[m+1].2.2]++List.map (·.2.2) (List.drop (m+1+1) (List.take k l)) by rw[List.append_assoc];rfl]
      exact ih
     ·simp only[k3,Bool.not_false,cond_true,Option.bind_some,caseS_r,Bool.false_and,Bool.false_eq_true,if_false]
   ·have:n=k:=by omega
    subst this
    have hd:(l.take n).drop n=[]:=by rw[List.drop_eq_nil_iff];omega
    have hw:=w64_succ (show n+1<9223372036854775808 by omega)
    rw[hd]
    simp[ψ1z.l0,riseS,hk,hw])
  (by omega) 0 ([],[]) (Nat.zero_le _) ⟨rfl,rfl⟩
 have key:lp ψ1z.l0 (id,(0,0,[]),l,(e,mark,[]),[],0)=_:=key
 rw[key,List.drop_zero,List.nil_append,List.nil_append];rfl
noncomputable def hintOf (id:Int) (t:List UInt8):HintT×Bool:=
 let l:=(scan t).1
 let z:=l.getD (l.length - 1) zSpot
 if l.length=0∨(scan t).2≠t.length∨¬(1≤id∧id≤100000)∨z.2.2.1≠5∨fitsR z.2.2 ((l.take (l.length - 1)).map (·.2.2))=false∨riseS z.2.2.2.1 none (l.take (l.length - 1))=false then ((0,0,[]),false)
 else (((t.length:Int),z.2.2.2.1,(l.take (l.length - 1)).map (entS id)),true)
theorem hintOf_len (id:Int) (t:List UInt8):(hintOf id t).1.2.2.length≤t.length:=by
 have:=(scan_len t).2
 unfold hintOf
 simp only
 split
 ·simp
 ·simp only[List.length_map,List.length_take];omega
theorem segName_nil (id:Int):(segName id==[])=!decide (1≤id∧id≤100000):=by
 unfold segName nameN
 by_cases h:1≤id∧id≤100000
 ·simp[h]
 ·simp[h]
theorem impl_HintOf_eq (id:Int) (t:List UInt8) (ht:t.length<100000000):ψN.f id t=some (hintOf id t):=by
 have hs:=scan_len t
 unfold ψN.f hintOf
 rw[impl_ScanRecs_eq t (by omega),Option.bind_some]
 generalize (scan t).1=l at *
 generalize (scan t).2=e at *
 simp only
 rcases Nat.eq_zero_or_pos l.length with h0 | h0
 ·have:decide (w64 (((0:Nat):Int) - 1)<0)=true:=by decide
  simp only[h0,this,cond_true,true_or,if_true]
 obtain ⟨k,hk⟩:∃k,l.length=k+1:=⟨l.length - 1,by omega⟩
 have hw:w64 ((l.length:Int) - 1)=(k:Int):=by rw[w64_id (by omega) (by omega)];omega
 have e1:l.length - 1=k:=by omega
 have hkl:k<l.length:=by omega
 have n0:¬(k:Int)<0:=by omega
 have n1:(0:Int)≤(k:Int):=by omega
 have n2:(k:Int)≤(l.length:Int):=by omega
 have n3:¬l.length=0:=by omega
 rw[e1]
 simp only[hw,n0,n1,n2,n3,decide_false,decide_true,cond_false,Bool.and_self,cond_true,impl_in_eq,Option.bind_some,inB_nat,hkl,rdA_nat,Int.toNat_natCast,false_or]
 by_cases c1:e=t.length
 rotate_left
 ·have d1:((e:Int) != (t.length:Int))=true:=by simp;omega
  simp only[d1,cond_true,c1,ne_eq,not_false_eq_true,true_or,if_true]
 have d1:((e:Int) != (t.length:Int))=false:=by simp;omega
 by_cases c2:1≤id∧id≤100000
 rotate_left
 ·simp only[d1,cond_false,c2,decide_false,Bool.not_false,cond_true,not_false_eq_true,true_or,or_true,if_true]
 by_cases c3:(l.getD k zSpot).2.2.1=5
 rotate_left
 ·have d3:((l.getD k zSpot).2.2.1 != 5)=true:=by simpa using c3
  simp only[d1,d3,cond_false,c2,decide_true,Bool.not_true,cond_true,and_self,c3,ne_eq,not_false_eq_true,true_or,or_true,if_true]
 have d3:((l.getD k zSpot).2.2.1 != 5)=false:=by simpa using c3
 have hpl:=impl_placed_eq id (l.take k) (by rw[List.length_take];omega)
 have hft:=impl_fits_eq (l.getD k zSpot).2.2 ((l.take k).map fun x=>((id,x):PlaceT)) (by rw[List.length_map,List.length_take];omega)
 have hmm:((l.take k).map fun x=>((id,x):PlaceT)).map (·.2.2.2)=(l.take k).map (·.2.2):=by rw[List.map_map];rfl
 rw[hmm] at hft
 subst c1
 simp only[d1,d3,cond_false,c2,decide_true,Bool.not_true,and_self,hpl,Option.bind_some,hft]
 simp only[c3,ne_eq,not_true_eq_false,false_or]
 rcases Bool.eq_false_or_eq_true (fitsR (l.getD k zSpot).2.2 ((l.take k).map (·.2.2))) with c4 | c4
 rotate_left
 ·simp only[c4,Bool.not_false,cond_true,true_or,if_true]
 simp only[c4,Bool.not_true,cond_false,Bool.true_eq_false,false_or,impl_HintOf_l0 id (t.length:Int) (l.getD k zSpot).2.2.2.1 l k (by omega) (by omega),Option.bind_some]
 rcases Bool.eq_false_or_eq_true (riseS (l.getD k zSpot).2.2.2.1 none (l.take k)) with c5 | c5
 ·simp only[c5,if_true,caseS_l,Bool.true_eq_false,if_false]
 ·simp only[c5,Bool.false_eq_true,if_false,caseS_r,if_true]
theorem spec_HintOf_eq (id:Int) (t:List UInt8) (ht:t.length<100000000):ψ1z.f id t=some (hintOf id t):=by
 have hs:=scan_len t
 unfold ψ1z.f hintOf
 rw[spec_ScanRecs_eq t (by omega),Option.bind_some]
 generalize (scan t).1=l at *
 generalize (scan t).2=e at *
 simp only
 by_cases c1:e=t.length
 rotate_left
 ·have d1:((e:Int) != (t.length:Int))=true:=by simp;omega
  simp only[d1,cond_true,c1,ne_eq,not_false_eq_true,true_or,or_true,if_true]
 have d1:((e:Int) != (t.length:Int))=false:=by simp;omega
 rcases Nat.eq_zero_or_pos l.length with h0 | h0
 ·have d2:(((0:Nat):Int)==0)=true:=rfl
  simp only[d1,h0,d2,cond_false,cond_true,true_or,if_true]
 obtain ⟨k,hk⟩:∃k,l.length=k+1:=⟨l.length - 1,by omega⟩
 have hw:w64 ((l.length:Int) - 1)=(k:Int):=by rw[w64_id (by omega) (by omega)];omega
 have e1:l.length - 1=k:=by omega
 have hkl:k<l.length:=by omega
 have n3:¬l.length=0:=by omega
 have d2:((l.length:Int)==0)=false:=beq_eq_false_iff_ne.2 (by omega)
 have hl0:=spec_HintOf_l0 id (t.length:Int) (l.getD k zSpot).2.2.2.1 l (by omega) (by omega)
 rw[e1] at hl0 ⊢
 subst c1
 simp only[d1,d2,n3,cond_false,hw,inB_nat,hkl,decide_true,cond_true,rdA_nat,spec_SegName_eq,segName_nil,Option.bind_some,false_or,ne_eq,not_true_eq_false]
 by_cases c3:(l.getD k zSpot).2.2.1=5
 rotate_left
 ·have d3:((l.getD k zSpot).2.2.1 != 5)=true:=by simpa using c3
  simp only[d3,cond_true,c3,not_false_eq_true,true_or,or_true,if_true]
 have d3:((l.getD k zSpot).2.2.1 != 5)=false:=by simpa using c3
 by_cases c2:1≤id∧id≤100000
 rotate_left
 ·simp only[d3,cond_false,c2,decide_false,Bool.not_false,cond_true,not_false_eq_true,true_or,or_true,if_true]
 simp only[d3,cond_false,c2,decide_true,Bool.not_true,and_self,not_true_eq_false,false_or,hl0,Option.bind_some]
 simp only[c3,not_true_eq_false,false_or]
 rcases Bool.eq_false_or_eq_true (riseS (l.getD k zSpot).2.2.2.1 none (l.take k)) with c5 | c5
 rotate_left
 ·simp only[c5,Bool.false_eq_true,if_false,caseS_r,or_true,if_true]
 have hlen:((l.take k).map (·.2.2)).length=k:=by rw[List.length_map,List.length_take];omega
 simp only[c5,if_true,caseS_l,Bool.true_eq_false,or_false,hw,inB_nat,hkl,decide_true,cond_true,rdA_nat,spec_SumOf_eq ((l.take k).map (·.2.2)) (by omega),Option.bind_some]
 unfold fitsR
 rcases Bool.eq_false_or_eq_true ((l.getD k zSpot).2.2.2.2.2.2.1==(((l.take k).map (·.2.2)).length:Int)) with c6 | c6
 rotate_left
 ·simp only[bne,c6,Bool.not_false,cond_true,Bool.false_and,if_true]
 rcases Bool.eq_false_or_eq_true ((l.getD k zSpot).2.2.2.2.2.2.2==sumOf ((l.take k).map (·.2.2))) with c7 | c7
 rotate_left
 ·simp only[bne,c6,c7,Bool.not_false,Bool.not_true,cond_false,cond_true,Bool.true_and,if_true]
 simp only[bne,c6,c7,Bool.not_true,cond_false,Bool.true_and,Bool.true_eq_false,if_false]
def sNew (n:List UInt8) (w:WorkT):WorkT:=sstep (dCreate n) (sstep (dGone n) w)
theorem dk_sNew {w:WorkT} (h:diskOk w.1=true) (n:List UInt8):diskOk (sNew n w).1=true:=
 dk_sstep (op:=dCreate n) (dk_sstep (op:=dGone n) h fun k=>dk_Gone k n) fun k=>dk_Create k n
theorem w_anew_eq (w:WorkT) (n:List UInt8) (h:diskOk w.1=true) (hn:n.length<1000):ψ1N.f (toldW w) n=some (toldW (sNew n w)):=by
 unfold ψ1N.f sNew
 have g1:diskOk (wstep (dGone n) (toldW w)).1=true:=dk_wstep (op:=dGone _) h fun k=>dk_Gone k _
 rw[w_gone_eq (toldW w) n (dl_dk h) (by omega),Option.bind_some,w_create_eq _ _ (dl_dk g1) (by omega) (by omega),Option.bind_some,wstep_told,wstep_told]
theorem sNew_ne {d:DiskT} {c:Int} (h:c≠0) (n:List UInt8):sNew n (d,c)=(d,c):=by
 unfold sNew;rw[sstep_ne h,sstep_ne h]
theorem spec_Fresh_eq (d:DiskT) (n:List UInt8) (h:diskOk d=true) (hn:n.length<1000):ψ2d.f d n=some (sNew n (d,0)):=by
 unfold sNew
 rw[spec_l11Fresh_eq d n (dl_dk h) (by omega) (by omega),sstep_z]
def sApp (n:List UInt8) (recs:List RecT) (w:WorkT):WorkT:=recs.foldl (fun w r=>sstep (dAppend n (frame (showRec r))) w) w
theorem dk_sApp (n:List UInt8) (recs:List RecT):∀{w:WorkT},diskOk w.1=true→diskOk (sApp n recs w).1=true:=by
 induction recs with
 | nil=>intro w h;exact h
 | cons r l ih=>intro w h;exact ih (dk_sstep (op:=dAppend n (frame (showRec r))) h fun k=>dk_Append k _ _)
theorem sApp_ne (n:List UInt8) (recs:List RecT) {d:DiskT} {c:Int} (h:c≠0):sApp n recs (d,c)=(d,c):=by
 induction recs with
 | nil=>rfl
 | cons r l ih=>show sApp n l (sstep _ (d,c))=_;rw[sstep_ne h,ih]
theorem sApp_snoc (n:List UInt8) (recs:List RecT) (r:RecT) (w:WorkT):sApp n (recs++[r]) w=sstep (dAppend n (frame (showRec r))) (sApp n recs w):=by
 unfold sApp;rw[List.foldl_append];rfl
def entsG (m:Int):Int→List RecT→List EntryT
 | _,[]=>[]
 | a,r::rs=>if r.1=4 then (r.2.2.1,m,a,((frame (showRec r)).length:Int),r.2.1)::entsG m (a+((frame (showRec r)).length:Int)) rs else entsG m (a+((frame (showRec r)).length:Int)) rs
theorem entsG_len (m:Int):∀(recs:List RecT) (a:Int),(entsG m a recs).length≤recs.length
 | [],_=>Nat.le_refl _
 | r::rs,a=>by
  have:=entsG_len m rs (a+((frame (showRec r)).length:Int))
  unfold entsG;split
  ·simp only[List.length_cons];omega
  ·simp only[List.length_cons];omega
theorem entsG_snoc (m:Int) (r:RecT) (hr:r.1≠4):∀(recs:List RecT) (a:Int),entsG m a (recs++[r])=entsG m a recs
 | [],a=>by simp[entsG,hr]
 | x::l,a=>by
  simp only[List.cons_append,entsG]
  rw[entsG_snoc m r hr l]
theorem impl_writeMerged_l0 (m:Int) (recs:List RecT) (w:WorkT) (h:diskOk w.1=true) (hr:recs.length<1000000) :
  lp ψ1d.l0 (toldW w,m,[],0,recs,(recs.length:Int),0)=some (toldW (sApp (segName m) recs w),m,entsG m 0 recs):=by
 have hsn:=segName_len m
 have key:=lp_up (step:=ψ1d.l0) (fun n (a:WorkT×List EntryT×Nat)=>(toldW a.1,m,a.2.1,(a.2.2:Int),recs,(recs.length:Int),(n:Int))) recs.length (fun n a=>(toldW (sApp (segName m) (recs.drop n) a.1),m,a.2.1++entsG m (a.2.2:Int) (recs.drop n)))
  (fun n a=>diskOk a.1.1=true∧a.2.1.length≤n∧a.2.2≤211 * n)
  (fun rec n a hn ha ih=>by
   obtain ⟨W,acc,at_⟩:=a
   obtain ⟨ha,hacc,hat⟩:=ha
   simp only at ha hacc hat
   rcases Nat.lt_or_ge n recs.length with h1 | h1
   ·have hw:=w64_succ (show n+1<9223372036854775808 by omega)
    have hf:=frame_len (showRec recs[n])
    have hsr:=showRec_len recs[n]
    have hb:∀{α:Type} (x:α),decide ((acc.length+[x].length) * 48≤140737488355328)=true:=fun x=>decide_eq_true (lim48 (by omega))
    have es:ψn.f (recs[n].1,recs[n].2.1,recs[n].2.2.1,recs[n].2.2.2.1,recs[n].2.2.2.2.1,recs[n].2.2.2.2.2)=some (showRec recs[n]):=impl_ShowRec_eq recs[n]
    have ep:ψ1W.f (toldW W) (segName m) (frame (showRec recs[n]))=some (toldW (sstep (dAppend (segName m) (frame (showRec recs[n]))) W)):=by
     rw[w_put_eq (toldW W) (segName m) (frame (showRec recs[n])) (dl_dk ha) (by omega) (by omega),wstep_told]
    have hd:diskOk (sstep (dAppend (segName m) (frame (showRec recs[n]))) W).1=true:=dk_sstep (op:=dAppend _ _) ha fun k=>dk_Append k _ _
    have hw2:w64 ((at_:Int)+((frame (showRec recs[n])).length:Int))=(at_:Int)+((frame (showRec recs[n])).length:Int):=w64_id (by omega) (by omega)
    have hcast:((at_+(frame (showRec recs[n])).length:Nat):Int)=(at_:Int)+((frame (showRec recs[n])).length:Int):=by omega
    rw[List.drop_eq_getElem_cons h1]
    simp only[ψ1d.l0,Int.ofNat_lt,h1,decide_true,cond_true,inB_nat,rdA_nat,getD_lt h1,es,impl_Frame_eq (showRec recs[n]) (show (showRec recs[n]).length<2 ^ 62 by omega),impl_SegName_eq,Option.bind_some,ep,hb,hw2,hw,entsG]
    by_cases c:recs[n].1=4
    ·have d1:(recs[n].1==4)=true:=by simpa using c
     have ih:=ih (sstep (dAppend (segName m) (frame (showRec recs[n]))) W,acc++[(recs[n].2.2.1,m,(at_:Int),((frame (showRec recs[n])).length:Int),recs[n].2.1)],at_+(frame (showRec recs[n])).length) h1 ⟨hd,by rw[List.length_append];show _+1≤_;omega,by simp only;omega⟩
     simp only at ih
     rw[hcast] at ih
     simp only[c,beq_self_eq_true,cond_true,Option.bind_some,hw2,hw,ih,if_true,List.append_assoc,List.singleton_append];rfl
    ·have d1:(recs[n].1==4)=false:=by simpa using c
     have ih:=ih (sstep (dAppend (segName m) (frame (showRec recs[n]))) W,acc,at_+(frame (showRec recs[n])).length) h1 ⟨hd,by simp only;omega,by simp only;omega⟩
     simp only at ih
     rw[hcast] at ih
     simp only[d1,cond_false,Option.bind_some,hw2,hw,ih,c,if_false];rfl
   ·have:n=recs.length:=by omega
    subst this
    simp[ψ1d.l0,entsG,sApp])
  (by omega) 0 (w,[],0) (Nat.zero_le _) ⟨h,Nat.zero_le _,Nat.zero_le _⟩
 have key:lp ψ1d.l0 (toldW w,m,[],0,recs,(recs.length:Int),0)=_:=key
 rw[key,List.drop_zero,List.nil_append];rfl
def sWM (m:Int) (recs:List RecT) (w:WorkT):WorkT:=sstep (dSync (segName m)) (sApp (segName m) recs (sNew (segName m) w))
theorem dk_sWM (m:Int) (recs:List RecT) {w:WorkT} (h:diskOk w.1=true):diskOk (sWM m recs w).1=true:=
 dk_sstep (op:=dSync _) (dk_sApp _ _ (dk_sNew h _)) fun k=>dk_Sync k _
theorem impl_writeMerged_eq (m:Int) (recs:List RecT) (w:WorkT) (h:diskOk w.1=true) (hr:recs.length<1000000) (hm:0≤m∧m≤100000) :
  ψ1d.f (toldW w) m recs=some (entsG m 0 recs,toldW (sNew (segName (m+1)) (sWM m recs w))):=by
 have hsn:=segName_len m
 have hsn1:=segName_len (m+1)
 have h1:=dk_sNew h (segName m)
 have h2:=dk_sApp (segName m) recs h1
 have h3:=dk_sWM m recs h
 unfold ψ1d.f
 simp only[impl_SegName_eq,Option.bind_some,w_anew_eq w (segName m) h (by omega),impl_writeMerged_l0 m recs _ h1 hr,show w64 (m+1)=m+1 from w64_id (by omega) (by omega)]
 rw[w_sync_eq (toldW (sApp (segName m) recs (sNew (segName m) w))) (segName m) (dl_dk h2) (by omega),wstep_told,Option.bind_some]
 show (ψ1N.f (toldW (sWM m recs w)) (segName (m+1))).bind _=_
 rw[w_anew_eq _ _ h3 (by omega)];rfl
def writeG (m:Int):List PairT→List EntryT→WorkT→List RecT→Int→List EntryT×WorkT×List RecT
 | [],dir,w,recs,_=>(dir,w,recs)
 | p::ps,dir,w,recs,a=>if w.2≠0 then (dir,w,recs) else
   writeG m ps (dir++[(p.1,m,a,((frame (showRec (keepOf p))).length:Int),p.2.2)]) (dAppend (segName m) (frame (showRec (keepOf p))) w.1) (recs++[keepOf p]) (a+((frame (showRec (keepOf p))).length:Int))
theorem writeG_eq (m:Int):∀(l:List PairT) (dir:List EntryT) (w:WorkT) (recs:List RecT) (a:Int),(writeG m l dir w recs a).2.1=sApp (segName m) (l.map keepOf) w ∧
  ((writeG m l dir w recs a).2.1.2=0→(writeG m l dir w recs a).1=dir++entsG m a (l.map keepOf)∧(writeG m l dir w recs a).2.2=recs++l.map keepOf)
 | [],dir,w,recs,a=>⟨rfl,fun _=>by simp[writeG,entsG]⟩
 | p::ps,dir,w,recs,a=>by
  unfold writeG
  split
  ·rename_i c
   obtain ⟨d,k⟩:=w
   refine ⟨(sApp_ne _ _ c).symm,fun e=>absurd e c⟩
  ·rename_i c
   have c:w.2=0:=by simpa using c
   obtain ⟨q1,q2⟩:=writeG_eq m ps (dir++[(p.1,m,a,((frame (showRec (keepOf p))).length:Int),p.2.2)]) (dAppend (segName m) (frame (showRec (keepOf p))) w.1) (recs++[keepOf p]) (a+((frame (showRec (keepOf p))).length:Int))
   refine ⟨?_,fun e=>?_⟩
   ·rw[q1]
    show _=sApp _ (ps.map keepOf) (sstep _ w)
    congr 1
    unfold sstep;rw[if_pos c]
   ·obtain ⟨e1,e2⟩:=q2 e
    rw[e1,e2]
    constructor
    ·rw[List.map_cons,entsG,if_pos (show (keepOf p).1=4 from rfl),List.append_assoc];rfl
    ·rw[List.map_cons,List.append_assoc];rfl
theorem spec_l14Write_l0 (m mark:Int) (l:List PairT) (w:WorkT) (h:diskOk w.1=true) (hl:l.length<1000000) :
  lp ψ2t.l0 (m,l,mark,([],0,0,false),[],w.1,w.2,[],0,0)=some (m,mark,([],0,0,false),(writeG m l [] w [] 0).1,(writeG m l [] w [] 0).2.1.1,(writeG m l [] w [] 0).2.1.2,(writeG m l [] w [] 0).2.2):=by
 have hsn:=segName_len m
 have key:=lp_up (step:=ψ2t.l0) (fun n (a:List EntryT×WorkT×List RecT×Nat)=>(m,l,mark,([],0,0,false),a.1,a.2.1.1,a.2.1.2,a.2.2.1,(a.2.2.2:Int),(n:Int))) l.length
  (fun n a=>(m,mark,([],0,0,false),(writeG m (l.drop n) a.1 a.2.1 a.2.2.1 (a.2.2.2:Int)).1,(writeG m (l.drop n) a.1 a.2.1 a.2.2.1 (a.2.2.2:Int)).2.1.1,(writeG m (l.drop n) a.1 a.2.1 a.2.2.1 (a.2.2.2:Int)).2.1.2,(writeG m (l.drop n) a.1 a.2.1 a.2.2.1 (a.2.2.2:Int)).2.2))
  (fun n a=>diskOk a.2.1.1=true∧a.1.length=n∧a.2.2.1.length=n∧a.2.2.2≤211 * n)
  (fun rec n a hn ha ih=>by
   obtain ⟨dir,⟨x,c⟩,recs,at_⟩:=a
   obtain ⟨ha,hdir,hrecs,hat⟩:=ha
   simp only at ha hdir hrecs hat
   rcases Nat.lt_or_ge n l.length with h1 | h1
   ·have hw:=w64_succ (show n+1<9223372036854775808 by omega)
    rw[List.drop_eq_getElem_cons h1]
    simp only[ψ2t.l0,Int.ofNat_lt,h1,decide_true,cond_true,inB_nat,rdA_nat,getD_lt h1,writeG]
    by_cases c1:c=0
    rotate_left
    ·have d1:(c==0)=false:=by simpa using c1
     simp only[d1,cond_false,c1,ne_eq,not_false_eq_true,if_true]
    subst c1
    have hf:=frame_len (showRec (keepOf l[n]))
    have hsr:=showRec_len (keepOf l[n])
    have hb:∀{α:Type} (x:α),decide ((dir.length+[x].length) * 48≤140737488355328)=true:=fun x=>decide_eq_true (lim48 (by omega))
    have hb2:∀{α:Type} (x:α),decide ((recs.length+[x].length) * 64≤140737488355328)=true:=fun x=>decide_eq_true (lim64R (by omega))
    have ek:ψ2r.f (l[n].1,l[n].2)=some (keepOf l[n]):=rfl
    have ea:ψ1g.f x (segName m) (frame (showRec (keepOf l[n])))=some (dAppend (segName m) (frame (showRec (keepOf l[n]))) x):=spec_Append_eq x (segName m) _ (dl_lim (dl_dk ha) (by omega)) (by omega)
    have hd:=dk_Append ha (segName m) (frame (showRec (keepOf l[n])))
    have hw2:w64 ((at_:Int)+((frame (showRec (keepOf l[n]))).length:Int))=(at_:Int)+((frame (showRec (keepOf l[n]))).length:Int):=w64_id (by omega) (by omega)
    have hcast:((at_+(frame (showRec (keepOf l[n]))).length:Nat):Int)=(at_:Int)+((frame (showRec (keepOf l[n]))).length:Int):=by omega
    have ih:=ih (dir++[(l[n].1,m,(at_:Int),((frame (showRec (keepOf l[n]))).length:Int),l[n].2.2)],dAppend (segName m) (frame (showRec (keepOf l[n]))) x,recs++[keepOf l[n]],at_+(frame (showRec (keepOf l[n]))).length) h1 ⟨hd,by rw[List.length_append];show _+1=_;omega,by rw[List.length_append];show _+1=_;omega,by simp only;omega⟩
    simp only at ih
    simp only[beq_self_eq_true,cond_true,ek,Option.bind_some,spec_ShowRec_eq (keepOf l[n]),spec_Frame_eq (showRec (keepOf l[n])) (show (showRec (keepOf l[n])).length<2 ^ 62 by omega),spec_SegName_eq,ea,hb,hb2,hw2,hw,ne_eq,not_true_eq_false,if_false]
    rw[hcast] at ih
    exact ih
   ·have:n=l.length:=by omega
    subst this
    simp[ψ2t.l0,writeG])
  (by omega) 0 ([],w,[],0) (Nat.zero_le _) ⟨h,rfl,rfl,Nat.zero_le _⟩
 have key:lp ψ2t.l0 (m,l,mark,([],0,0,false),[],w.1,w.2,[],0,0)=_:=key
 rw[key,List.drop_zero];rfl
theorem spec_l14Write_eq (d:DiskT) (m:Int) (l:List PairT) (mark:Int) (h:diskOk d=true) (hl:l.length<1000000) :
  ∃dir,ψ2t.f d m l mark=some ((sWM m (keepsOf l mark) (d,0)).1,dir,told (sWM m (keepsOf l mark) (d,0)).2)∧((sWM m (keepsOf l mark) (d,0)).2=0→dir=entsG m 0 (keepsOf l mark)):=by
 have hsn:=segName_len m
 have h1:=dk_sNew (w:=(d,0)) h (segName m)
 have h2:=dk_sApp (segName m) (l.map keepOf) h1
 obtain ⟨q1,q2⟩:=writeG_eq m l [] (sNew (segName m) (d,0)) [] 0
 have hml:(l.map keepOf).length=l.length:=List.length_map _
 refine ⟨(writeG m l [] (sNew (segName m) (d,0)) [] 0).1,?_,?_⟩
 rotate_left
 ·intro e
  unfold sWM keepsOf at e
  rw[sApp_snoc] at e
  rw[←q1] at e
  have:(writeG m l [] (sNew (segName m) (d,0)) [] 0).2.1.2=0:=by
   revert e
   generalize (writeG m l [] (sNew (segName m) (d,0)) [] 0).2.1=w
   obtain ⟨x,c⟩:=w
   intro e
   by_cases c1:c=0
   ·exact c1
   ·rw[sstep_ne c1,sstep_ne c1] at e;exact e
  rw[(q2 this).1]
  unfold keepsOf
  rw[entsG_snoc m _ (show ¬(5:Int)=4 by decide),List.nil_append]
 unfold ψ2t.f sWM keepsOf
 rw[sApp_snoc]
 simp only[spec_SegName_eq,Option.bind_some,spec_Fresh_eq d (segName m) h (by omega)]
 rw[spec_l14Write_l0 m mark l (sNew (segName m) (d,0)) h1 hl,Option.bind_some]
 generalize writeG m l [] (sNew (segName m) (d,0)) [] 0=G at *
 obtain ⟨dir,⟨x,c⟩,recs⟩:=G
 simp only at q1 q2 ⊢
 rw[←q1] at h2 ⊢
 by_cases c1:c=0
 rotate_left
 ·have d1:(c==0)=false:=by simpa using c1
  rw[sstep_ne c1,sstep_ne c1]
  simp only[d1,cond_false,Option.bind_some,spec_l11Code_eq]
 subst c1
 obtain ⟨_,e2⟩:=q2 rfl
 rw[List.nil_append] at e2
 subst e2
 have hsl:ψ3K.f (l.map keepOf) mark 5=some (5,mark,[],[],(l.length:Int),sumOf (l.map keepOf)):=by
  unfold ψ3K.f
  rw[spec_SumOf_eq _ (by omega),Option.bind_some,hml]
 have hf:=frame_len (showRec (5,mark,[],[],(l.length:Int),sumOf (l.map keepOf)))
 have hsr:=showRec_len (5,mark,[],[],(l.length:Int),sumOf (l.map keepOf))
 have ea:ψ1g.f x (segName m) (frame (showRec (5,mark,[],[],(l.length:Int),sumOf (l.map keepOf))))=some (dAppend (segName m) (frame (showRec (5,mark,[],[],(l.length:Int),sumOf (l.map keepOf)))) x):=spec_Append_eq x (segName m) _ (dl_lim (dl_dk h2) (by omega)) (by omega)
 have h3:=dk_Append h2 (segName m) (frame (showRec (5,mark,[],[],(l.length:Int),sumOf (l.map keepOf))))
 rw[sstep_z]
 simp only[beq_self_eq_true,cond_true,hsl,Option.bind_some,spec_ShowRec_eq,spec_Frame_eq _ (show (showRec (5,mark,[],[],(l.length:Int),sumOf (l.map keepOf))).length<2 ^ 62 by omega),ea]
 generalize dAppend (segName m) (frame (showRec (5,mark,[],[],(l.length:Int),sumOf (l.map keepOf)))) x=w at *
 obtain ⟨y,c2⟩:=w
 by_cases c3:c2=0
 rotate_left
 ·have d1:(c2==0)=false:=by simpa using c3
  rw[sstep_ne c3]
  simp only[d1,cond_false,Option.bind_some,spec_l11Code_eq]
 subst c3
 have ey:ψ2U.f y (segName m)=some (dSync (segName m) y):=spec_Sync_eq y (segName m) (dl_lim (dl_dk h3) (by omega))
 rw[sstep_z]
 simp only[beq_self_eq_true,cond_true,ey,Option.bind_some,spec_l11Code_eq]
theorem Remove_ne2 (n:List UInt8) (d:DiskT):(dRemove n d).2≠2:=by
 unfold dRemove dstep
 split
 ·simp
 ·split
  ·simp
  ·unfold actRemove;split<;>simp
theorem Gone_ne2 (n:List UInt8) (d:DiskT):(dGone n d).2≠2:=by
 unfold dGone;split
 ·exact Remove_ne2 n d
 ·simp
theorem told_two (c:Int):told c=2↔c=2:=by
 unfold told;split
 ·rename_i h;subst h;simp
 ·split
  ·rename_i h;subst h;simp
  ·split
   ·rename_i h;simp[h]
   ·rename_i h;simp[h]
noncomputable def hintStep (m:Int) (d:DiskT):WorkT:=
 let f:=sFile (hintName m) (showHint (hintOf m (fileText d (segName m)).1).1) (d,0)
 if f.2=2 then dGone (hintName m) f.1 else f
noncomputable def sHint (m:Int) (w:WorkT):WorkT:=if w.2≠0 then w else hintStep m w.1
theorem hintStep_ne2 (m:Int) (d:DiskT):(hintStep m d).2≠2:=by
 unfold hintStep
 simp only
 split
 ·exact Gone_ne2 _ _
 ·rename_i h;exact h
theorem dk_hintStep (m:Int) {d:DiskT} (h:diskOk d=true):diskOk (hintStep m d).1=true:=by
 have:=dk_sFile (w:=(d,0)) h (hintName m) (showHint (hintOf m (fileText d (segName m)).1).1)
 unfold hintStep
 simp only
 split
 ·exact dk_Gone this _
 ·exact this
theorem hint_txt (m:Int) {d:DiskT} (h:diskOk d=true):(fileText d (segName m)).1.length≤100000∧(hintOf m (fileText d (segName m)).1).1.2.2.length≤100000:=by
 have hl:=dl_dk h
 have h1:=fileText_len d (segName m) (dl_lim hl (by omega))
 have h2:=hintOf_len m (fileText d (segName m)).1
 have:=hl.2.1
 omega
end Go.Rf.G
