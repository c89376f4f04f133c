import Derived.Test.YtakpldeobnelfabGreatDoorLConflictsLem2
open Option renaming bind_some→bS
open List renaming length_append→lA,append_assoc→aA,mem_cons_of_mem→mC,mem_append→mA,mem_append_right→mR,mem_append_left→mL,mem_cons→mc,drop_eq_getElem_cons→dG,length_take→lT,length_drop→lD,mem_map→mM,length_map→lM,length_cons→lC,length_nil→lN,getElem_mem→gM,map_append→mp,mem_singleton→mZ
open Bool renaming and_eq_true→bA,eq_false_or_eq_true→bE,not_true→nZ,not_false→nF,true_and→tA,not_not→nn
open Int renaming toNat_natCast→tN,ofNat_lt→oL
namespace Go.Rf.G
open Go Go.Rf
set_option linter.unusedVariables false
set_option linter.unusedSimpArgs false
set_option synthInstance.maxSize 4000
theorem φMG (h:φ1E) (hl:h.2.2.length<1000000000):ψu.f h=some (φ1P h):=by
 unfold ψu.f φ1P
 rw[φIb h hl,bS]
 rcases bE (φ2J h) with k | k
 rotate_left
 ·simp[k]
 obtain ⟨k1,k2⟩:=φAu k
 have hB:=φ8d k
 have hf:=φ4R (crcT (φ1q h))
 have v1:=φk h.1
 have v2:=φk h.2.1
 have v3:=φk (h.2.2.length:Int)
 have e0:ψ1p.f [h.1,h.2.1,(h.2.2.length:Int)]=some (varT h.1++varT h.2.1++varT (h.2.2.length:Int)):=by
  rw[φ7J _ (by simp)];simp
 have key:=φe (step:=ψu.l0) (fun n (acc:List UInt8)=>(acc,h.2.2,(h.2.2.length:Int),(n:Int))) h.2.2.length (fun n acc=>acc++((h.2.2.drop n).map entT).flatten) (fun n acc=>acc.length≤21+43 * n)
  (fun rec n acc hn ha ih=>by
   rcases Nat.lt_or_ge n h.2.2.length with h1 | h1
   ·have hw:=φJ (show n+1<9223372036854775808 by omega)
    have hk:=k2 _ (gM h1)
    have he:=φBZ hk
    have ih:=ih (acc++entT h.2.2[n]) h1 (by rw[lA];omega)
    have e1:ψ1p.f [h.2.2[n].2.1,h.2.2[n].2.2.1,h.2.2[n].2.2.2.1,h.2.2[n].2.2.2.2]=some (varT h.2.2[n].2.1++varT h.2.2[n].2.2.1++varT h.2.2[n].2.2.2.1++varT h.2.2[n].2.2.2.2):=by
     rw[φ7J _ (by simp)];simp
    have e2:(varT (h.2.2[n].1.length:Int)++h.2.2[n].1)++(varT h.2.2[n].2.1++varT h.2.2[n].2.2.1++varT h.2.2[n].2.2.2.1++varT h.2.2[n].2.2.2.2)=entT h.2.2[n]:=by
     unfold entT;simp only[aA]
    have e3:(varT (h.2.2[n].1.length:Int)++h.2.2[n].1).length+(varT h.2.2[n].2.1++varT h.2.2[n].2.2.1++varT h.2.2[n].2.2.2.1++varT h.2.2[n].2.2.2.2).length≤1000000000000000:=by
     rw[←lA,e2];omega
    simp only[ψu.l0,oL,h1,dT,cT,φD,φG,φ8 h1,φ6k h.2.2[n].1 (show h.2.2[n].1.length<2 ^ 62 by omega),e1,bS,φ1B e3,e2,φ1B (show acc.length+(entT h.2.2[n]).length≤1000000000000000 by omega),hw,ih]
    rw[dG h1,List.map_cons,List.flatten_cons,aA]
   ·have:n=h.2.2.length:=by omega
    subst this
    simp[ψu.l0])
  (by omega) 0 (varT h.1++varT h.2.1++varT (h.2.2.length:Int)) (Nat.zero_le _) (by simp only[lA];omega)
 have key:lp ψu.l0 (varT h.1++varT h.2.1++varT (h.2.2.length:Int),h.2.2,(h.2.2.length:Int),0)=some (φ1q h):=by rw[show (0:Int)=((0:Nat):Int) from rfl,key];rfl
 simp only[k,nZ,cF,e0,bS,key,φ9A (φ1q h) (by omega),φB3,φ1B (show (fix4 (crcT (φ1q h))).length+(φ1q h).length≤1000000000000000 by omega),cT,Bool.true_eq_false,if_false]
theorem φAl (h:φ1E) (hl:h.2.2.length<1000000000):ψ2z.f h=some (φ1P h):=by
 unfold ψ2z.f φ1P
 rw[φIr h hl,bS]
 rcases bE (φ2J h) with k | k
 rotate_left
 ·simp[k]
 obtain ⟨k1,k2⟩:=φAu k
 have hB:=φ8d k
 have hf:=φ4R (crcT (φ1q h))
 have hr:=φ4i (φ1q h)
 have v1:=φk h.1
 have v2:=φk h.2.1
 have v3:=φk (h.2.2.length:Int)
 have key:=φe (step:=ψ2z.l0) (fun n (acc:List UInt8)=>(h,acc,(n:Int))) h.2.2.length (fun n acc=>acc++((h.2.2.drop n).map entT).flatten) (fun n acc=>acc.length≤21+43 * n)
  (fun rec n acc hn ha ih=>by
   rcases Nat.lt_or_ge n h.2.2.length with h1 | h1
   ·have hw:=φJ (show n+1<9223372036854775808 by omega)
    have hk:=k2 _ (gM h1)
    have he:=φBZ hk
    have ih:=ih (acc++entT h.2.2[n]) h1 (by rw[lA];omega)
    have w1:=φk (h.2.2[n].1.length:Int)
    have w2:=φk h.2.2[n].2.1
    have w3:=φk h.2.2[n].2.2.1
    have w4:=φk h.2.2[n].2.2.2.1
    have w5:=φk h.2.2[n].2.2.2.2
    have e2:acc++varT (h.2.2[n].1.length:Int)++h.2.2[n].1++varT h.2.2[n].2.1++varT h.2.2[n].2.2.1++varT h.2.2[n].2.2.2.1++varT h.2.2[n].2.2.2.2=acc++entT h.2.2[n]:=by
     unfold entT;simp only[aA]
    simp only[ψ2z.l0,oL,h1,dT,cT,φD,φG,φ8 h1,φ4m,bS,
     φ1B (show acc.length+(varT (h.2.2[n].1.length:Int)).length≤1000000000000000 by omega),
     φ1B (show (acc++varT (h.2.2[n].1.length:Int)).length+h.2.2[n].1.length≤1000000000000000 by simp only[lA];omega),
     φ1B (show (acc++varT (h.2.2[n].1.length:Int)++h.2.2[n].1).length+(varT h.2.2[n].2.1).length≤1000000000000000 by simp only[lA];omega),
     φ1B (show (acc++varT (h.2.2[n].1.length:Int)++h.2.2[n].1++varT h.2.2[n].2.1).length+(varT h.2.2[n].2.2.1).length≤1000000000000000 by simp only[lA];omega),
     φ1B (show (acc++varT (h.2.2[n].1.length:Int)++h.2.2[n].1++varT h.2.2[n].2.1++varT h.2.2[n].2.2.1).length+(varT h.2.2[n].2.2.2.1).length≤1000000000000000 by simp only[lA];omega),
     φ1B (show (acc++varT (h.2.2[n].1.length:Int)++h.2.2[n].1++varT h.2.2[n].2.1++varT h.2.2[n].2.2.1++varT h.2.2[n].2.2.2.1).length+(varT h.2.2[n].2.2.2.2).length≤1000000000000000 by simp only[lA];omega),e2,hw,ih]
    rw[dG h1,List.map_cons,List.flatten_cons,aA]
   ·have:n=h.2.2.length:=by omega
    subst this
    simp[ψ2z.l0])
  (by omega) 0 (varT h.1++varT h.2.1++varT (h.2.2.length:Int)) (Nat.zero_le _) (by simp only[lA];omega)
 have key:lp ψ2z.l0 (h,varT h.1++varT h.2.1++varT (h.2.2.length:Int),0)=some (φ1q h):=by rw[show (0:Int)=((0:Nat):Int) from rfl,key];rfl
 simp only[k,nZ,cF,φ4m,φ1B (show (varT h.1).length+(varT h.2.1).length≤1000000000000000 by omega),φ1B (show (varT h.1++varT h.2.1).length+(varT (h.2.2.length:Int)).length≤1000000000000000 by simp only[lA];omega),bS,key,φBK (φ1q h) (by omega),φBT _ (show crcT (φ1q h)<9223372036854775808 by omega),φ1B (show (fix4 (crcT (φ1q h))).length+(φ1q h).length≤1000000000000000 by omega),cT,Bool.true_eq_false,if_false]
abbrev φB:=Int×φ1S
theorem φI6 (id:Int) (l:List φ1S) (hl:l.length<1000000000):ψ1Y.f id l=some (l.map fun x=>((id,x):φB)):=by
 have key:=φe (step:=ψ1Y.l0) (fun n (acc:List φB)=>(id,acc,l,(l.length:Int),(n:Int))) l.length (fun n acc=>acc++(l.drop n).map fun x=>((id,x):φB)) (fun n acc=>acc.length=n)
  (fun rec n acc hn ha ih=>by
   rcases Nat.lt_or_ge n l.length with h | h
   ·have hw:=φJ (show n+1<9223372036854775808 by omega)
    have hb:∀{α:Type} (x:α),decide ((acc.length+[x].length) * 88≤140737488355328)=true:=fun x=>decide_eq_true (by show (acc.length+1) * 88≤_;omega)
    have ih:=ih (acc++[(id,l[n])]) h (by rw[lA,ha];rfl)
    simp only[ψ1Y.l0,oL,h,dT,cT,φD,φG,φ8 h,hb,hw,ih]
    rw[dG h,List.map_cons,aA];rfl
   ·have:n=l.length:=by omega
    subst this
    simp[ψ1Y.l0])
  (by omega) 0 [] (Nat.zero_le _) rfl
 have key:lp ψ1Y.l0 (id,[],l,(l.length:Int),0)=_:=key
 unfold ψ1Y.f
 rw[key,bS]
 simp
def φ2j (r:RecT) (l:List RecT):Bool:=(r.2.2.2.2.1==(l.length:Int)) && (r.2.2.2.2.2==φ1I l)
theorem φM4 (r:RecT) (l:List φB) (hl:l.length<1000000000):ψ1O.f r l=some (φ2j r (l.map (·.2.2.2))):=by
 have key:=φe (step:=ψ1O.l0) (fun n (acc:List RecT)=>(r,acc,l,(l.length:Int),(n:Int))) l.length (fun n acc=>(r,acc++(l.drop n).map (·.2.2.2))) (fun n acc=>acc.length=n)
  (fun rec n acc hn ha ih=>by
   rcases Nat.lt_or_ge n l.length with h | h
   ·have hw:=φJ (show n+1<9223372036854775808 by omega)
    have hb:∀{α:Type} (x:α),decide ((acc.length+[x].length) * 64≤140737488355328)=true:=fun x=>decide_eq_true (φ5Q (by omega))
    have ih:=ih (acc++[l[n].2.2.2]) h (by rw[lA,ha];rfl)
    simp only[ψ1O.l0,oL,h,dT,cT,φD,φG,φ8 h,hb,hw,ih]
    rw[dG h,List.map_cons,aA];rfl
   ·have:n=l.length:=by omega
    subst this
    simp[ψ1O.l0])
  (by omega) 0 [] (Nat.zero_le _) rfl
 have key:lp ψ1O.l0 (r,[],l,(l.length:Int),0)=_:=key
 unfold ψ1O.f φ2j
 rw[key,bS,List.drop_zero,List.nil_append]
 simp only[φBd (l.map (·.2.2.2)) (by rw[lM];omega),bS]
 cases (r.2.2.2.2.1==((l.map (·.2.2.2)).length:Int))<;>rfl
abbrev φ27:φ1S:=(0,0,0,0,[],[],0,0)
def entS (id:Int) (x:φ1S):φ9:=(x.2.2.2.2.1,id,x.1,x.2.1,x.2.2.2.1)
def φ2Z (mark:Int):Option (List UInt8)→List φ1S→Bool
 | _,[]=>true
 | p,x::r=>(x.2.2.1==4) && (!decide (x.2.2.2.1 > mark) && ((match p with | none=>true | some q=>Op.bytesLess q x.2.2.2.2.1) && φ2Z mark (some x.2.2.2.2.1) r))
def φ7B (l:List φ1S):Nat→Option (List UInt8)
 | 0=>none
 | n+1=>some (l.getD n φ27).2.2.2.2.1
theorem φ7V (l:List φ1S) (n:Nat) (h:n<l.length):φ7B l (n+1)=some l[n].2.2.2.2.1:=by
 show some (l.getD n φ27).2.2.2.2.1=_
 rw[φ8 h]
theorem φJK (id e mark:Int) (l:List φ1S) (k:Nat) (hk:k≤l.length) (hl:l.length<1000000000) :
  lp ψT.l0 (id,(0,0,[]),l,(e,mark,[]),l.take k,((l.take k).length:Int),0)=some (if φ2Z mark none (l.take k)=true then .inl ((0,0,[]),(e,mark,(l.take k).map (entS id))) else .inr ((0,0,[]),false)):=by
 have hlen:(l.take k).length=k:=by rw[lT];omega
 have key:=φe (step:=ψT.l0) (fun n (acc:List φ9)=>(id,(0,0,[]),l,(e,mark,acc),l.take k,((l.take k).length:Int),(n:Int))) k (fun n acc=>if φ2Z mark (φ7B l n) ((l.take k).drop n)=true then .inl ((0,0,[]),(e,mark,acc++((l.take k).drop n).map (entS id))) else .inr ((0,0,[]),false)) (fun n acc=>acc.length=n)
  (fun rec n acc hn ha ih=>by
   rcases Nat.lt_or_ge n k with h | h
   ·have hw:=φJ (show n+1<9223372036854775808 by omega)
    have h1:n<(l.take k).length:=by omega
    have h2:n<l.length:=by omega
    have hx:(l.take k)[n]=l[n]:=List.getElem_take
    have hb:∀{α:Type} (x:α),decide ((acc.length+[x].length) * 48≤140737488355328)=true:=fun x=>decide_eq_true (φ3K (by omega))
    have ih:=ih (acc++[entS id l[n]]) h (by rw[lA,ha];rfl)
    rw[φ7V l n h2] at ih
    rw[dG h1,hx]
    simp only[φ2Z,ψT.l0,oL,h1,dT,cT,φD,φG,φ8 h1,hx]
    rcases bE (l[n].2.2.1==4) with k1 | k1
    rotate_left
    ·simp only[bne,k1,nF,cT,bS,φd,Bool.false_and,Bool.false_eq_true,if_false]
    rcases bE (decide (l[n].2.2.2.1 > mark)) with k2 | k2
    ·simp only[bne,k1,k2,nZ,nF,cF,cT,bS,φd,Bool.false_and,tA,Bool.false_eq_true,if_false]
    simp only[bne,k1,k2,nZ,nF,cF,tA,List.map_cons]
    cases n with
    | zero=>
     have z:¬((0:Nat):Int) > 0:=by omega
     simp only[z,dF,cF,bS,φX,hb,cT,hw,φ7B,tA]
     rw[show acc++entS id l[0]::List.map (entS id) (List.drop (0+1) (List.take k l))=acc++[entS id l[0]]++List.map (entS id) (List.drop (0+1) (List.take k l)) by rw[aA];rfl]
     exact ih
    | succ m=>
     have z:((m+1:Nat):Int) > 0:=by omega
     have hm:m<l.length:=by omega
     have z2:w64 (((m+1:Nat):Int) - 1)=(m:Int):=by rw[φE (by omega) (by omega)];omega
     rw[φ7V l m hm]
     simp only[z,dT,cT,z2,φD,hm,φG,φ8 hm]
     rcases bE (Op.bytesLess l[m].2.2.2.2.1 l[m+1].2.2.2.2.1) with k3 | k3
     ·simp only[k3,nZ,cF,bS,φX,hb,cT,hw,tA]
      rw[show acc++entS id l[m+1]::List.map (entS id) (List.drop (m+1+1) (List.take k l))=acc++[entS id l[m+1]]++List.map (entS id) (List.drop (m+1+1) (List.take k l)) by rw[aA];rfl]
      exact ih
     ·simp only[k3,nF,cT,bS,φd,Bool.false_and,Bool.false_eq_true,if_false]
   ·have:n=k:=by omega
    subst this
    have hd:(l.take n).drop n=[]:=by rw[List.drop_eq_nil_iff];omega
    rw[hd]
    simp[ψT.l0,φ2Z,hlen])
  (by omega) 0 [] (Nat.zero_le _) rfl
 have key:lp ψT.l0 (id,(0,0,[]),l,(e,mark,[]),l.take k,((l.take k).length:Int),0)=_:=key
 rw[key,List.drop_zero,List.nil_append];rfl
theorem φJn (id e mark:Int) (l:List φ1S) (h0:1≤l.length) (hl:l.length<1000000000) :
  lp ψ2Y.l0 (id,(0,0,[]),l,(e,mark,[]),[],0)=some (if φ2Z mark none (l.take (l.length - 1))=true then .inl ((0,0,[]),l,(e,mark,(l.take (l.length - 1)).map (entS id)),(l.take (l.length - 1)).map (·.2.2)) else .inr ((0,0,[]),false)):=by
 obtain ⟨k,hk⟩:∃k,l.length=k+1:=⟨l.length - 1,by omega⟩
 have e1:l.length - 1=k:=by omega
 rw[e1]
 have hlen:(l.take k).length=k:=by rw[lT];omega
 have key:=φe (step:=ψ2Y.l0) (fun n (a:List φ9×List RecT)=>(id,(0,0,[]),l,(e,mark,a.1),a.2,(n:Int))) k (fun n a=>if φ2Z mark (φ7B l n) ((l.take k).drop n)=true then .inl ((0,0,[]),l,(e,mark,a.1++((l.take k).drop n).map (entS id)),a.2++((l.take k).drop n).map (·.2.2)) else .inr ((0,0,[]),false)) (fun n a=>a.1.length=n∧a.2.length=n)
  (fun rec n a hn ha ih=>by
   obtain ⟨acc,rs⟩:=a
   obtain ⟨ha,hr⟩:=ha
   simp only at ha hr
   rcases Nat.lt_or_ge n k with h | h
   ·have hw:=φJ (show n+1<9223372036854775808 by omega)
    have h1:n<(l.take k).length:=by omega
    have h2:n<l.length:=by omega
    have h3:n+1<l.length:=by omega
    have hx:(l.take k)[n]=l[n]:=List.getElem_take
    have hb:∀{α:Type} (x:α),decide ((acc.length+[x].length) * 48≤140737488355328)=true:=fun x=>decide_eq_true (φ3K (by omega))
    have hb2:∀{α:Type} (x:α),decide ((rs.length+[x].length) * 64≤140737488355328)=true:=fun x=>decide_eq_true (φ5Q (by omega))
    have ih:=ih (acc++[entS id l[n]],rs++[l[n].2.2]) h ⟨by rw[lA,ha];rfl,by rw[lA,hr];rfl⟩
    simp only at ih
    rw[φ7V l n h2] at ih
    rw[dG h1,hx]
    simp only[φ2Z,ψ2Y.l0,hw,oL,h2,h3,dT,cT,φD,φG,φ8 h2]
    rcases bE (l[n].2.2.1==4) with k1 | k1
    rotate_left
    ·simp only[bne,k1,nF,cT,bS,φd,Bool.false_and,Bool.false_eq_true,if_false]
    rcases bE (decide (l[n].2.2.2.1 > mark)) with k2 | k2
    ·simp only[bne,k1,k2,nZ,nF,cF,cT,bS,φd,Bool.false_and,tA,Bool.false_eq_true,if_false]
    simp only[bne,k1,k2,nZ,nF,cF,tA,List.map_cons]
    cases n with
    | zero=>
     have z:¬((0:Nat):Int) > 0:=by omega
     simp only[z,dF,cF,bS,φX,hb,hb2,cT,φD,h2,dT,φG,φ8 h2,hw,φ7B,tA]
     rw[show acc++entS id l[0]::List.map (entS id) (List.drop (0+1) (List.take k l))=acc++[entS id l[0]]++List.map (entS id) (List.drop (0+1) (List.take k l)) by rw[aA];rfl,
      show rs++l[0].2.2::List.map (·.2.2) (List.drop (0+1) (List.take k l))=rs++[l[0].2.2]++List.map (·.2.2) (List.drop (0+1) (List.take k l)) by rw[aA];rfl]
     exact ih
    | succ m=>
     have z:((m+1:Nat):Int) > 0:=by omega
     have hm:m<l.length:=by omega
     have z2:w64 (((m+1:Nat):Int) - 1)=(m:Int):=by rw[φE (by omega) (by omega)];omega
     have hle:(Op.bytesLess l[m+1].2.2.2.2.1 l[m].2.2.2.2.1 || l[m+1].2.2.2.2.1==l[m].2.2.2.2.1)=!Op.bytesLess l[m].2.2.2.2.1 l[m+1].2.2.2.2.1:=φ7U _ _
     rw[φ7V l m hm]
     simp only[z,dT,cT,z2,φD,hm,φG,φ8 hm,hle]
     rcases bE (Op.bytesLess l[m].2.2.2.2.1 l[m+1].2.2.2.2.1) with k3 | k3
     ·simp only[k3,nZ,cF,bS,φX,hb,hb2,cT,φD,h2,dT,φG,φ8 h2,hw,tA]
      rw[show acc++entS id l[m+1]::List.map (entS id) (List.drop (m+1+1) (List.take k l))=acc++[entS id l[m+1]]++List.map (entS id) (List.drop (m+1+1) (List.take k l)) by rw[aA];rfl,
       show rs++l[m+1].2.2::List.map (·.2.2) (List.drop (m+1+1) (List.take k l))=rs++[l[m+1].2.2]++List.map (·.2.2) (List.drop (m+1+1) (List.take k l)) by rw[aA];rfl]
      exact ih
     ·simp only[k3,nF,cT,bS,φd,Bool.false_and,Bool.false_eq_true,if_false]
   ·have:n=k:=by omega
    subst this
    have hd:(l.take n).drop n=[]:=by rw[List.drop_eq_nil_iff];omega
    have hw:=φJ (show n+1<9223372036854775808 by omega)
    rw[hd]
    simp[ψ2Y.l0,φ2Z,hk,hw])
  (by omega) 0 ([],[]) (Nat.zero_le _) ⟨rfl,rfl⟩
 have key:lp ψ2Y.l0 (id,(0,0,[]),l,(e,mark,[]),[],0)=_:=key
 rw[key,List.drop_zero,List.nil_append,List.nil_append];rfl
noncomputable def φ17 (id:Int) (t:List UInt8):φ1E×Bool:=
 let l:=(scan t).1
 let z:=l.getD (l.length - 1) φ27
 if l.length=0∨(scan t).2≠t.length∨¬(1≤id∧id≤100000)∨z.2.2.1≠5∨φ2j z.2.2 ((l.take (l.length - 1)).map (·.2.2))=false∨φ2Z z.2.2.2.1 none (l.take (l.length - 1))=false then ((0,0,[]),false)
 else (((t.length:Int),z.2.2.2.1,(l.take (l.length - 1)).map (entS id)),true)
theorem φGk (id:Int) (t:List UInt8):(φ17 id t).1.2.2.length≤t.length:=by
 have:=(φ4b t).2
 unfold φ17
 simp only
 split
 ·simp
 ·simp only[lM,lT];omega
theorem φK9 (id:Int):(φ0 id==[])=!decide (1≤id∧id≤100000):=by
 unfold φ0 φ28
 by_cases h:1≤id∧id≤100000
 ·simp[h]
 ·simp[h]
theorem φHg (id:Int) (t:List UInt8) (ht:t.length<100000000):ψT.f id t=some (φ17 id t):=by
 have hs:=φ4b t
 unfold ψT.f φ17
 rw[φBq t (by omega),bS]
 generalize (scan t).1=l at *
 generalize (scan t).2=e at *
 simp only
 rcases Nat.eq_zero_or_pos l.length with h0 | h0
 ·have:decide (w64 (((0:Nat):Int) - 1)<0)=true:=by decide
  simp only[h0,this,cT,true_or,if_true]
 obtain ⟨k,hk⟩:∃k,l.length=k+1:=⟨l.length - 1,by omega⟩
 have hw:w64 ((l.length:Int) - 1)=(k:Int):=by rw[φE (by omega) (by omega)];omega
 have e1:l.length - 1=k:=by omega
 have hkl:k<l.length:=by omega
 have n0:¬(k:Int)<0:=by omega
 have n1:(0:Int)≤(k:Int):=by omega
 have n2:(k:Int)≤(l.length:Int):=by omega
 have n3:¬l.length=0:=by omega
 rw[e1]
 simp only[hw,n0,n1,n2,n3,dF,dT,cF,Bool.and_self,cT,φ25,bS,φD,hkl,φG,tN,false_or]
 by_cases c1:e=t.length
 rotate_left
 ·have d1:((e:Int) != (t.length:Int))=true:=by simp;omega
  simp only[d1,cT,c1,ne_eq,not_false_eq_true,true_or,if_true]
 have d1:((e:Int) != (t.length:Int))=false:=by simp;omega
 by_cases c2:1≤id∧id≤100000
 rotate_left
 ·simp only[d1,cF,c2,dF,nF,cT,not_false_eq_true,true_or,or_true,if_true]
 by_cases c3:(l.getD k φ27).2.2.1=5
 rotate_left
 ·have d3:((l.getD k φ27).2.2.1 != 5)=true:=by simpa using c3
  simp only[d1,d3,cF,c2,dT,nZ,cT,and_self,c3,ne_eq,not_false_eq_true,true_or,or_true,if_true]
 have d3:((l.getD k φ27).2.2.1 != 5)=false:=by simpa using c3
 have hpl:=φI6 id (l.take k) (by rw[lT];omega)
 have hft:=φM4 (l.getD k φ27).2.2 ((l.take k).map fun x=>((id,x):φB)) (by rw[lM,lT];omega)
 have hmm:((l.take k).map fun x=>((id,x):φB)).map (·.2.2.2)=(l.take k).map (·.2.2):=by rw[List.map_map];rfl
 rw[hmm] at hft
 subst c1
 simp only[d1,d3,cF,c2,dT,nZ,and_self,hpl,bS,hft]
 simp only[c3,ne_eq,not_true_eq_false,false_or]
 rcases bE (φ2j (l.getD k φ27).2.2 ((l.take k).map (·.2.2))) with c4 | c4
 rotate_left
 ·simp only[c4,nF,cT,true_or,if_true]
 simp only[c4,nZ,cF,Bool.true_eq_false,false_or,φJK id (t.length:Int) (l.getD k φ27).2.2.2.1 l k (by omega) (by omega),bS]
 rcases bE (φ2Z (l.getD k φ27).2.2.2.1 none (l.take k)) with c5 | c5
 ·simp only[c5,if_true,φX,Bool.true_eq_false,if_false]
 ·simp only[c5,Bool.false_eq_true,if_false,φd,if_true]
theorem φD1 (id:Int) (t:List UInt8) (ht:t.length<100000000):ψ2Y.f id t=some (φ17 id t):=by
 have hs:=φ4b t
 unfold ψ2Y.f φ17
 rw[φ7D t (by omega),bS]
 generalize (scan t).1=l at *
 generalize (scan t).2=e at *
 simp only
 by_cases c1:e=t.length
 rotate_left
 ·have d1:((e:Int) != (t.length:Int))=true:=by simp;omega
  simp only[d1,cT,c1,ne_eq,not_false_eq_true,true_or,or_true,if_true]
 have d1:((e:Int) != (t.length:Int))=false:=by simp;omega
 rcases Nat.eq_zero_or_pos l.length with h0 | h0
 ·have d2:(((0:Nat):Int)==0)=true:=rfl
  simp only[d1,h0,d2,cF,cT,true_or,if_true]
 obtain ⟨k,hk⟩:∃k,l.length=k+1:=⟨l.length - 1,by omega⟩
 have hw:w64 ((l.length:Int) - 1)=(k:Int):=by rw[φE (by omega) (by omega)];omega
 have e1:l.length - 1=k:=by omega
 have hkl:k<l.length:=by omega
 have n3:¬l.length=0:=by omega
 have d2:((l.length:Int)==0)=false:=beq_eq_false_iff_ne.2 (by omega)
 have hl0:=φJn id (t.length:Int) (l.getD k φ27).2.2.2.1 l (by omega) (by omega)
 rw[e1] at hl0 ⊢
 subst c1
 simp only[d1,d2,n3,cF,hw,φD,hkl,dT,cT,φG,φ2L,φK9,bS,false_or,ne_eq,not_true_eq_false]
 by_cases c3:(l.getD k φ27).2.2.1=5
 rotate_left
 ·have d3:((l.getD k φ27).2.2.1 != 5)=true:=by simpa using c3
  simp only[d3,cT,c3,not_false_eq_true,true_or,or_true,if_true]
 have d3:((l.getD k φ27).2.2.1 != 5)=false:=by simpa using c3
 by_cases c2:1≤id∧id≤100000
 rotate_left
 ·simp only[d3,cF,c2,dF,nF,cT,not_false_eq_true,true_or,or_true,if_true]
 simp only[d3,cF,c2,dT,nZ,and_self,not_true_eq_false,false_or,hl0,bS]
 simp only[c3,not_true_eq_false,false_or]
 rcases bE (φ2Z (l.getD k φ27).2.2.2.1 none (l.take k)) with c5 | c5
 rotate_left
 ·simp only[c5,Bool.false_eq_true,if_false,φd,or_true,if_true]
 have hlen:((l.take k).map (·.2.2)).length=k:=by rw[lM,lT];omega
 simp only[c5,if_true,φX,Bool.true_eq_false,or_false,hw,φD,hkl,dT,cT,φG,φ7z ((l.take k).map (·.2.2)) (by omega),bS]
 unfold φ2j
 rcases bE ((l.getD k φ27).2.2.2.2.2.2.1==(((l.take k).map (·.2.2)).length:Int)) with c6 | c6
 rotate_left
 ·simp only[bne,c6,nF,cT,Bool.false_and,if_true]
 rcases bE ((l.getD k φ27).2.2.2.2.2.2.2==φ1I ((l.take k).map (·.2.2))) with c7 | c7
 rotate_left
 ·simp only[bne,c6,c7,nF,nZ,cF,cT,tA,if_true]
 simp only[bne,c6,c7,nZ,cF,tA,Bool.true_eq_false,if_false]
def sNew (n:List UInt8) (w:φH):φH:=φI (φa n) (φI (φF n) w)
theorem φ3v {w:φH} (h:φ5 w.1=true) (n:List UInt8):φ5 (sNew n w).1=true:=
 φ1e (op:=φa n) (φ1e (op:=φF n) h fun k=>φ2U k n) fun k=>φ34 k n
theorem φFP (w:φH) (n:List UInt8) (h:φ5 w.1=true) (hn:n.length<1000):ψ1q.f (φC w) n=some (φC (sNew n w)):=by
 unfold ψ1q.f sNew
 have g1:φ5 (φ18 (φF n) (φC w)).1=true:=φ9b (op:=φF _) h fun k=>φ2U k _
 rw[φ5R (φC w) n (φu h) (by omega),bS,φ9r _ _ (φu g1) (by omega) (by omega),bS,φ3C,φ3C]
theorem φK1 {d:φ1} {c:Int} (h:c≠0) (n:List UInt8):sNew n (d,c)=(d,c):=by
 unfold sNew;rw[φ2E h,φ2E h]
theorem φEm (d:φ1) (n:List UInt8) (h:φ5 d=true) (hn:n.length<1000):ψ3H.f d n=some (sNew n (d,0)):=by
 unfold sNew
 rw[φBN d n (φu h) (by omega) (by omega),φ1v]
def sApp (n:List UInt8) (recs:List RecT) (w:φH):φH:=recs.foldl (fun w r=>φI (φU n (frame (φ7 r))) w) w
theorem φ6Q (n:List UInt8) (recs:List RecT):∀{w:φH},φ5 w.1=true→φ5 (sApp n recs w).1=true:=by
 induction recs with
 | nil=>intro w h;exact h
 | cons r l ih=>intro w h;exact ih (φ1e (op:=φU n (frame (φ7 r))) h fun k=>φ3d k _ _)
theorem φBA (n:List UInt8) (recs:List RecT) {d:φ1} {c:Int} (h:c≠0):sApp n recs (d,c)=(d,c):=by
 induction recs with
 | nil=>rfl
 | cons r l ih=>show sApp n l (φI _ (d,c))=_;rw[φ2E h,ih]
theorem φDs (n:List UInt8) (recs:List RecT) (r:RecT) (w:φH):sApp n (recs++[r]) w=φI (φU n (frame (φ7 r))) (sApp n recs w):=by
 unfold sApp;rw[List.foldl_append];rfl
def φw (m:Int):Int→List RecT→List φ9
 | _,[]=>[]
 | a,r::rs=>if r.1=4 then (r.2.2.1,m,a,((frame (φ7 r)).length:Int),r.2.1)::φw m (a+((frame (φ7 r)).length:Int)) rs else φw m (a+((frame (φ7 r)).length:Int)) rs
theorem φ7s (m:Int) (r:RecT) (hr:r.1≠4):∀(recs:List RecT) (a:Int),φw m a (recs++[r])=φw m a recs
 | [],a=>by simp[φw,hr]
 | x::l,a=>by
  simp only[List.cons_append,φw]
  rw[φ7s m r hr l]
theorem φHB (m:Int) (recs:List RecT) (w:φH) (h:φ5 w.1=true) (hr:recs.length<1000000) :
  lp ψ26.l0 (φC w,m,[],0,recs,(recs.length:Int),0)=some (φC (sApp (φ0 m) recs w),m,φw m 0 recs):=by
 have hsn:=φ4A m
 have key:=φe (step:=ψ26.l0) (fun n (a:φH×List φ9×Nat)=>(φC a.1,m,a.2.1,(a.2.2:Int),recs,(recs.length:Int),(n:Int))) recs.length (fun n a=>(φC (sApp (φ0 m) (recs.drop n) a.1),m,a.2.1++φw m (a.2.2:Int) (recs.drop n)))
  (fun n a=>φ5 a.1.1=true∧a.2.1.length≤n∧a.2.2≤211 * n)
  (fun rec n a hn ha ih=>by
   obtain ⟨W,acc,at_⟩:=a
   obtain ⟨ha,hacc,hat⟩:=ha
   simp only at ha hacc hat
   rcases Nat.lt_or_ge n recs.length with h1 | h1
   ·have hw:=φJ (show n+1<9223372036854775808 by omega)
    have hf:=φ4x (φ7 recs[n])
    have hsr:=φ39 recs[n]
    have hb:∀{α:Type} (x:α),decide ((acc.length+[x].length) * 48≤140737488355328)=true:=fun x=>decide_eq_true (φ3K (by omega))
    have es:ψw.f (recs[n].1,recs[n].2.1,recs[n].2.2.1,recs[n].2.2.2.1,recs[n].2.2.2.2.1,recs[n].2.2.2.2.2)=some (φ7 recs[n]):=φB9 recs[n]
    have ep:ψ1z.f (φC W) (φ0 m) (frame (φ7 recs[n]))=some (φC (φI (φU (φ0 m) (frame (φ7 recs[n]))) W)):=by
     rw[φBG (φC W) (φ0 m) (frame (φ7 recs[n])) (φu ha) (by omega) (by omega),φ3C]
    have hd:φ5 (φI (φU (φ0 m) (frame (φ7 recs[n]))) W).1=true:=φ1e (op:=φU _ _) ha fun k=>φ3d k _ _
    have hw2:w64 ((at_:Int)+((frame (φ7 recs[n])).length:Int))=(at_:Int)+((frame (φ7 recs[n])).length:Int):=φE (by omega) (by omega)
    have hcast:((at_+(frame (φ7 recs[n])).length:Nat):Int)=(at_:Int)+((frame (φ7 recs[n])).length:Int):=by omega
    rw[dG h1]
    simp only[ψ26.l0,oL,h1,dT,cT,φD,φG,φ8 h1,es,φ8M (φ7 recs[n]) (show (φ7 recs[n]).length<2 ^ 62 by omega),φ44,bS,ep,hb,hw2,hw,φw]
    by_cases c:recs[n].1=4
    ·have d1:(recs[n].1==4)=true:=by simpa using c
     have ih:=ih (φI (φU (φ0 m) (frame (φ7 recs[n]))) W,acc++[(recs[n].2.2.1,m,(at_:Int),((frame (φ7 recs[n])).length:Int),recs[n].2.1)],at_+(frame (φ7 recs[n])).length) h1 ⟨hd,by rw[lA];show _+1≤_;omega,by simp only;omega⟩
     simp only at ih
     rw[hcast] at ih
     simp only[c,beq_self_eq_true,cT,bS,hw2,hw,ih,if_true,aA,List.singleton_append];rfl
    ·have d1:(recs[n].1==4)=false:=by simpa using c
     have ih:=ih (φI (φU (φ0 m) (frame (φ7 recs[n]))) W,acc,at_+(frame (φ7 recs[n])).length) h1 ⟨hd,by simp only;omega,by simp only;omega⟩
     simp only at ih
     rw[hcast] at ih
     simp only[d1,cF,bS,hw2,hw,ih,c,if_false];rfl
   ·have:n=recs.length:=by omega
    subst this
    simp[ψ26.l0,φw,sApp])
  (by omega) 0 (w,[],0) (Nat.zero_le _) ⟨h,Nat.zero_le _,Nat.zero_le _⟩
 have key:lp ψ26.l0 (φC w,m,[],0,recs,(recs.length:Int),0)=_:=key
 rw[key,List.drop_zero,List.nil_append];rfl
def sWM (m:Int) (recs:List RecT) (w:φH):φH:=φI (φN (φ0 m)) (sApp (φ0 m) recs (sNew (φ0 m) w))
theorem φ6E (m:Int) (recs:List RecT) {w:φH} (h:φ5 w.1=true):φ5 (sWM m recs w).1=true:=
 φ1e (op:=φN _) (φ6Q _ _ (φ3v h _)) fun k=>φ36 k _
theorem φHe (m:Int) (recs:List RecT) (w:φH) (h:φ5 w.1=true) (hr:recs.length<1000000) (hm:0≤m∧m≤100000) :
  ψ26.f (φC w) m recs=some (φw m 0 recs,φC (sNew (φ0 (m+1)) (sWM m recs w))):=by
 have hsn:=φ4A m
 have hsn1:=φ4A (m+1)
 have h1:=φ3v h (φ0 m)
 have h2:=φ6Q (φ0 m) recs h1
 have h3:=φ6E m recs h
 unfold ψ26.f
 simp only[φ44,bS,φFP w (φ0 m) h (by omega),φHB m recs _ h1 hr,show w64 (m+1)=m+1 from φE (by omega) (by omega)]
 rw[φ86 (φC (sApp (φ0 m) recs (sNew (φ0 m) w))) (φ0 m) (φu h2) (by omega),φ3C,bS]
 show (ψ1q.f (φC (sWM m recs w)) (φ0 (m+1))).bind _=_
 rw[φFP _ _ h3 (by omega)];rfl
def φ21 (m:Int):List φg→List φ9→φH→List RecT→Int→List φ9×φH×List RecT
 | [],dir,w,recs,_=>(dir,w,recs)
 | p::ps,dir,w,recs,a=>if w.2≠0 then (dir,w,recs) else
   φ21 m ps (dir++[(p.1,m,a,((frame (φ7 (φQ p))).length:Int),p.2.2)]) (φU (φ0 m) (frame (φ7 (φQ p))) w.1) (recs++[φQ p]) (a+((frame (φ7 (φQ p))).length:Int))
theorem φDX (m:Int):∀(l:List φg) (dir:List φ9) (w:φH) (recs:List RecT) (a:Int),(φ21 m l dir w recs a).2.1=sApp (φ0 m) (l.map φQ) w ∧
  ((φ21 m l dir w recs a).2.1.2=0→(φ21 m l dir w recs a).1=dir++φw m a (l.map φQ)∧(φ21 m l dir w recs a).2.2=recs++l.map φQ)
 | [],dir,w,recs,a=>⟨rfl,fun _=>by simp[φ21,φw]⟩
 | p::ps,dir,w,recs,a=>by
  unfold φ21
  split
  ·rename_i c
   obtain ⟨d,k⟩:=w
   refine ⟨(φBA _ _ c).symm,fun e=>absurd e c⟩
  ·rename_i c
   have c:w.2=0:=by simpa using c
   obtain ⟨q1,q2⟩:=φDX m ps (dir++[(p.1,m,a,((frame (φ7 (φQ p))).length:Int),p.2.2)]) (φU (φ0 m) (frame (φ7 (φQ p))) w.1) (recs++[φQ p]) (a+((frame (φ7 (φQ p))).length:Int))
   refine ⟨?_,fun e=>?_⟩
   ·rw[q1]
    show _=sApp _ (ps.map φQ) (φI _ w)
    congr 1
    unfold φI;rw[if_pos c]
   ·obtain ⟨e1,e2⟩:=q2 e
    rw[e1,e2]
    constructor
    ·rw[List.map_cons,φw,if_pos (show (φQ p).1=4 from rfl),aA];rfl
    ·rw[List.map_cons,aA];rfl
theorem φJr (m mark:Int) (l:List φg) (w:φH) (h:φ5 w.1=true) (hl:l.length<1000000) :
  lp ψ3V.l0 (m,l,mark,([],0,0,false),[],w.1,w.2,[],0,0)=some (m,mark,([],0,0,false),(φ21 m l [] w [] 0).1,(φ21 m l [] w [] 0).2.1.1,(φ21 m l [] w [] 0).2.1.2,(φ21 m l [] w [] 0).2.2):=by
 have hsn:=φ4A m
 have key:=φe (step:=ψ3V.l0) (fun n (a:List φ9×φH×List RecT×Nat)=>(m,l,mark,([],0,0,false),a.1,a.2.1.1,a.2.1.2,a.2.2.1,(a.2.2.2:Int),(n:Int))) l.length
  (fun n a=>(m,mark,([],0,0,false),(φ21 m (l.drop n) a.1 a.2.1 a.2.2.1 (a.2.2.2:Int)).1,(φ21 m (l.drop n) a.1 a.2.1 a.2.2.1 (a.2.2.2:Int)).2.1.1,(φ21 m (l.drop n) a.1 a.2.1 a.2.2.1 (a.2.2.2:Int)).2.1.2,(φ21 m (l.drop n) a.1 a.2.1 a.2.2.1 (a.2.2.2:Int)).2.2))
  (fun n a=>φ5 a.2.1.1=true∧a.1.length=n∧a.2.2.1.length=n∧a.2.2.2≤211 * n)
  (fun rec n a hn ha ih=>by
   obtain ⟨dir,⟨x,c⟩,recs,at_⟩:=a
   obtain ⟨ha,hdir,hrecs,hat⟩:=ha
   simp only at ha hdir hrecs hat
   rcases Nat.lt_or_ge n l.length with h1 | h1
   ·have hw:=φJ (show n+1<9223372036854775808 by omega)
    rw[dG h1]
    simp only[ψ3V.l0,oL,h1,dT,cT,φD,φG,φ8 h1,φ21]
    by_cases c1:c=0
    rotate_left
    ·have d1:(c==0)=false:=by simpa using c1
     simp only[d1,cF,c1,ne_eq,not_false_eq_true,if_true]
    subst c1
    have hf:=φ4x (φ7 (φQ l[n]))
    have hsr:=φ39 (φQ l[n])
    have hb:∀{α:Type} (x:α),decide ((dir.length+[x].length) * 48≤140737488355328)=true:=fun x=>decide_eq_true (φ3K (by omega))
    have hb2:∀{α:Type} (x:α),decide ((recs.length+[x].length) * 64≤140737488355328)=true:=fun x=>decide_eq_true (φ5Q (by omega))
    have ek:ψ3T.f (l[n].1,l[n].2)=some (φQ l[n]):=rfl
    have ea:ψ2A.f x (φ0 m) (frame (φ7 (φQ l[n])))=some (φU (φ0 m) (frame (φ7 (φQ l[n]))) x):=φ8m x (φ0 m) _ (φ1J (φu ha) (by omega)) (by omega)
    have hd:=φ3d ha (φ0 m) (frame (φ7 (φQ l[n])))
    have hw2:w64 ((at_:Int)+((frame (φ7 (φQ l[n]))).length:Int))=(at_:Int)+((frame (φ7 (φQ l[n]))).length:Int):=φE (by omega) (by omega)
    have hcast:((at_+(frame (φ7 (φQ l[n]))).length:Nat):Int)=(at_:Int)+((frame (φ7 (φQ l[n]))).length:Int):=by omega
    have ih:=ih (dir++[(l[n].1,m,(at_:Int),((frame (φ7 (φQ l[n]))).length:Int),l[n].2.2)],φU (φ0 m) (frame (φ7 (φQ l[n]))) x,recs++[φQ l[n]],at_+(frame (φ7 (φQ l[n]))).length) h1 ⟨hd,by rw[lA];show _+1=_;omega,by rw[lA];show _+1=_;omega,by simp only;omega⟩
    simp only at ih
    simp only[beq_self_eq_true,cT,ek,bS,φ6H (φQ l[n]),φ7E (φ7 (φQ l[n])) (show (φ7 (φQ l[n])).length<2 ^ 62 by omega),φ2L,ea,hb,hb2,hw2,hw,ne_eq,not_true_eq_false,if_false]
    rw[hcast] at ih
    exact ih
   ·have:n=l.length:=by omega
    subst this
    simp[ψ3V.l0,φ21])
  (by omega) 0 ([],w,[],0) (Nat.zero_le _) ⟨h,rfl,rfl,Nat.zero_le _⟩
 have key:lp ψ3V.l0 (m,l,mark,([],0,0,false),[],w.1,w.2,[],0,0)=_:=key
 rw[key,List.drop_zero];rfl
theorem φHh (d:φ1) (m:Int) (l:List φg) (mark:Int) (h:φ5 d=true) (hl:l.length<1000000) :
  ∃dir,ψ3V.f d m l mark=some ((sWM m (φb l mark) (d,0)).1,dir,told (sWM m (φb l mark) (d,0)).2)∧((sWM m (φb l mark) (d,0)).2=0→dir=φw m 0 (φb l mark)):=by
 have hsn:=φ4A m
 have h1:=φ3v (w:=(d,0)) h (φ0 m)
 have h2:=φ6Q (φ0 m) (l.map φQ) h1
 obtain ⟨q1,q2⟩:=φDX m l [] (sNew (φ0 m) (d,0)) [] 0
 have hml:(l.map φQ).length=l.length:=lM _
 refine ⟨(φ21 m l [] (sNew (φ0 m) (d,0)) [] 0).1,?_,?_⟩
 rotate_left
 ·intro e
  unfold sWM φb at e
  rw[φDs] at e
  rw[←q1] at e
  have:(φ21 m l [] (sNew (φ0 m) (d,0)) [] 0).2.1.2=0:=by
   revert e
   generalize (φ21 m l [] (sNew (φ0 m) (d,0)) [] 0).2.1=w
   obtain ⟨x,c⟩:=w
   intro e
   by_cases c1:c=0
   ·exact c1
   ·rw[φ2E c1,φ2E c1] at e;exact e
  rw[(q2 this).1]
  unfold φb
  rw[φ7s m _ (show ¬(5:Int)=4 by decide),List.nil_append]
 unfold ψ3V.f sWM φb
 rw[φDs]
 simp only[φ2L,bS,φEm d (φ0 m) h (by omega)]
 rw[φJr m mark l (sNew (φ0 m) (d,0)) h1 hl,bS]
 generalize φ21 m l [] (sNew (φ0 m) (d,0)) [] 0=G at *
 obtain ⟨dir,⟨x,c⟩,recs⟩:=G
 simp only at q1 q2 ⊢
 rw[←q1] at h2 ⊢
 by_cases c1:c=0
 rotate_left
 ·have d1:(c==0)=false:=by simpa using c1
  rw[φ2E c1,φ2E c1]
  simp only[d1,cF,bS,φ2S]
 subst c1
 obtain ⟨_,e2⟩:=q2 rfl
 rw[List.nil_append] at e2
 subst e2
 have hsl:ψ3y.f (l.map φQ) mark 5=some (5,mark,[],[],(l.length:Int),φ1I (l.map φQ)):=by
  unfold ψ3y.f
  rw[φ7z _ (by omega),bS,hml]
 have hf:=φ4x (φ7 (5,mark,[],[],(l.length:Int),φ1I (l.map φQ)))
 have hsr:=φ39 (5,mark,[],[],(l.length:Int),φ1I (l.map φQ))
 have ea:ψ2A.f x (φ0 m) (frame (φ7 (5,mark,[],[],(l.length:Int),φ1I (l.map φQ))))=some (φU (φ0 m) (frame (φ7 (5,mark,[],[],(l.length:Int),φ1I (l.map φQ)))) x):=φ8m x (φ0 m) _ (φ1J (φu h2) (by omega)) (by omega)
 have h3:=φ3d h2 (φ0 m) (frame (φ7 (5,mark,[],[],(l.length:Int),φ1I (l.map φQ))))
 rw[φ1v]
 simp only[beq_self_eq_true,cT,hsl,bS,φ6H,φ7E _ (show (φ7 (5,mark,[],[],(l.length:Int),φ1I (l.map φQ))).length<2 ^ 62 by omega),ea]
 generalize φU (φ0 m) (frame (φ7 (5,mark,[],[],(l.length:Int),φ1I (l.map φQ)))) x=w at *
 obtain ⟨y,c2⟩:=w
 by_cases c3:c2=0
 rotate_left
 ·have d1:(c2==0)=false:=by simpa using c3
  rw[φ2E c3]
  simp only[d1,cF,bS,φ2S]
 subst c3
 have ey:ψ34.f y (φ0 m)=some (φN (φ0 m) y):=φ6w y (φ0 m) (φ1J (φu h3) (by omega))
 rw[φ1v]
 simp only[beq_self_eq_true,cT,ey,bS,φ2S]
theorem φJV (n:List UInt8) (d:φ1):(φ20 n d).2≠2:=by
 unfold φ20 φW
 split
 ·simp
 ·split
  ·simp
  ·unfold φ2X;split<;>simp
theorem φKR (n:List UInt8) (d:φ1):(φF n d).2≠2:=by
 unfold φF;split
 ·exact φJV n d
 ·simp
theorem φDo (c:Int):told c=2↔c=2:=by
 unfold told;split
 ·rename_i h;subst h;simp
 ·split
  ·rename_i h;subst h;simp
  ·split
   ·rename_i h;simp[h]
   ·rename_i h;simp[h]
noncomputable def φ2D (m:Int) (d:φ1):φH:=
 let f:=φ1f (φM m) (φ1P (φ17 m (φ2 d (φ0 m)).1).1) (d,0)
 if f.2=2 then φF (φM m) f.1 else f
noncomputable def φ11 (m:Int) (w:φH):φH:=if w.2≠0 then w else φ2D m w.1
theorem φIL (m:Int) (d:φ1):(φ2D m d).2≠2:=by
 unfold φ2D
 simp only
 split
 ·exact φKR _ _
 ·rename_i h;exact h
theorem φ7L (m:Int) {d:φ1} (h:φ5 d=true):φ5 (φ2D m d).1=true:=by
 have:=φ4L (w:=(d,0)) h (φM m) (φ1P (φ17 m (φ2 d (φ0 m)).1).1)
 unfold φ2D
 simp only
 split
 ·exact φ2U this _
 ·exact this
theorem φC7 (m:Int) {d:φ1} (h:φ5 d=true):(φ2 d (φ0 m)).1.length≤100000∧(φ17 m (φ2 d (φ0 m)).1).1.2.2.length≤100000:=by
 have hl:=φu h
 have h1:=φ4Z d (φ0 m) (φ1J hl (by omega))
 have h2:=φGk m (φ2 d (φ0 m)).1
 have:=hl.2.1
 omega
theorem φLI (m:Int) (w:φH) (h:φ5 w.1=true):ψ25.f (φC w) m=some (φC (φ11 m w)):=by
 obtain ⟨d,c⟩:=w
 have h:φ5 d=true:=h
 unfold ψ25.f φ11
 show (bif told c != 0 then _ else _)=_
 rw[φ5Z]
 by_cases c1:c=0
 rotate_left
 ·have d1:(c != 0)=true:=by simpa using c1
  simp only[d1,cT,c1,ne_eq,not_false_eq_true,if_true]
 subst c1
 obtain ⟨t1,t2⟩:=φC7 m (d:=d) h
 have hn:=φF0 m
 have hsl:=φBx (φ17 m (φ2 d (φ0 m)).1).1
 have hd:dlim d:=φ1J (φu h) (by omega)
 simp only[bne_self_eq_false,cF,ne_eq,not_true_eq_false,if_false,φ44,bS]
 rw[show ψM.f (φC (d,0)).1 (φ0 m)=some (φ2 d (φ0 m)) from φ7u d (φ0 m) hd]
 simp only[bS,φHg m (φ2 d (φ0 m)).1 (by omega),φAq,φMG (φ17 m (φ2 d (φ0 m)).1).1 (by omega)]
 rw[φDi (φC (d,0)) (φM m) _ (φu h) (by omega),bS,φDB]
 unfold φ2D
 have hf:=φ4L (w:=(d,0)) h (φM m) (φ1P (φ17 m (φ2 d (φ0 m)).1).1)
 simp only
 generalize φ1f (φM m) (φ1P (φ17 m (φ2 d (φ0 m)).1).1) (d,0)=f at *
 obtain ⟨x,k⟩:=f
 have hf:φ5 x=true:=hf
 show (bif told k==2 then _ else _)=_
 by_cases c2:k=2
 ·subst c2
  have e:ψ1w.f (x,0) (φM m)=some (φ18 (φF (φM m)) (x,0)):=φ5R (x,0) (φM m) (φu hf) (by omega)
  simp only[show (told 2==2)=true from rfl,cT,if_true]
  show (ψ1w.f (x,0) (φM m)).bind _=_
  rw[e,bS]
  rw[show φ18 (φF (φM m)) (x,0)=φC (φF (φM m) x) by unfold φ18;simp;rfl]
 ·have c3:¬told k=2:=fun e=>c2 ((φDo k).1 e)
  have d3:(told k==2)=false:=by simpa using c3
  simp only[d3,cF,c2,if_false]
def φ3q (m:Int):List (List UInt8):=[[116,101,109,112],φ0 m,φ0 (m+1),φM m]
def sOld (ids:List Int) (w:φH):φH:=ids.foldl (fun w id=>φh [φ0 id,φM id] w) w
theorem φHT (ids:List Int):∀{w:φH},φ5 w.1=true→φ5 (sOld ids w).1=true:=by
 induction ids with
 | nil=>intro w h;exact h
 | cons n l ih=>intro w h;exact ih (φ4c [φ0 n,φM n] h)
theorem φMk (ids:List Int) {d:φ1} {c:Int} (h:c≠0):sOld ids (d,c)=(d,c):=by
 induction ids with
 | nil=>rfl
 | cons n l ih=>show sOld l (φh _ (d,c))=_;rw[φ9O _ h,ih]
noncomputable def φ1C (s:φA) (d:φ1) (l:List φg):φA×φ1×Int:=
 let m:=s.1.1
 let w1:=sNew (φ0 (m+1)) (sWM m (φb l (s.2.2.1 - 1)) (d,0))
 let w2:=φ11 m w1
 let w3:=if w2.2=0 then φC (sPut (m+2,[m,m+1]) w2) else φC w2
 if w3.2≠0 then (((m+2,s.1.2),s.2),φ1c (φ3q m) w3) else
 (((m+2,[m,m+1]),φw m 0 (φb l (s.2.2.1 - 1)),s.2.2.1,0,0),φC (sOld s.1.2 (w3.1,0)))
theorem φE5 (l:List φg) (mark:Int):(φb l mark).length=l.length+1:=by unfold φb;simp
theorem φHi (S:φA) (ids:List Int) (w:φH) (h:φ5 w.1=true) (hl:ids.length<1000000) :
  lp ψ11.l0 (S,φC w,ids,(ids.length:Int),0)=some (S,φC (sOld ids w)):=by
 have key:=φ2I (step:=ψ11.l0) ids (fun (w:φH) id=>φh [φ0 id,φM id] w) (fun n (a:φH)=>(S,φC a,ids,(ids.length:Int),(n:Int))) (fun a=>(S,φC a)) (fun _ a=>φ5 a.1=true) (by omega)
  (fun rec n a h1 ha=>by
   have hw:=φJ (show n+1<9223372036854775808 by omega)
   have g1:φ5 (φI (φF (φ0 ids[n])) a).1=true:=φ1e (op:=φF _) ha fun k=>φ2U k _
   have e1:ψ1w.f (φC a) (φ0 ids[n])=some (φC (φI (φF (φ0 ids[n])) a)):=by rw[φ5R (φC a) _ (φu ha) (by omega),φ3C]
   have e2:ψ1w.f (φC (φI (φF (φ0 ids[n])) a)) (φM ids[n])=some (φC (φI (φF (φM ids[n])) (φI (φF (φ0 ids[n])) a))):=by rw[φ5R (φC _) _ (φu g1) (by omega),φ3C]
   simp only[ψ11.l0,oL,h1,dT,cT,φD,φG,φ8 h1,φ44,φAq,e1,e2,bS,hw];rfl)
  (fun n a h1 ha=>φ4c [φ0 ids[n],φM ids[n]] ha)
  (fun rec a ha=>by simp[ψ11.l0])
  w h
 exact key
theorem φMT (s:φA) (d:φ1) (l:List φg) (h:φ5 d=true) (hv:φm s.1=true) (h2:s.1.1+2≤100000) (hb:1≤s.2.2.1∧s.2.2.1≤1000001) (hl:l.length<100000):ψ11.f s (d,0) l=some (φ1C s d l):=by
 obtain ⟨k1,k2,k3,k4⟩:=(φ12 s.1).1 hv
 have hkl:=φE5 l (s.2.2.1 - 1)
 have g1:=φ6E s.1.1 (φb l (s.2.2.1 - 1)) (w:=(d,0)) h
 have g2:=φ3v g1 (φ0 (s.1.1+1))
 unfold ψ11.f φ1C
 simp only[show w64 (s.1.1+2)=s.1.1+2 from φE (by omega) (by omega),show w64 (s.1.1+1)=s.1.1+1 from φE (by omega) (by omega),show w64 (s.2.2.1 - 1)=s.2.2.1 - 1 from φE (by omega) (by omega),φMZ l (s.2.2.1 - 1) (by omega),bS]
 rw[show ((d,0):φH)=φC (d,0) from rfl,φHe s.1.1 (φb l (s.2.2.1 - 1)) (d,0) h (by omega) (by omega)]
 simp only[bS]
 rw[show φC (d,0)=((d,0):φH) from rfl]
 generalize sNew (φ0 (s.1.1+1)) (sWM s.1.1 (φb l (s.2.2.1 - 1)) (d,0))=w1 at *
 have g3:φ5 (φ11 s.1.1 w1).1=true:=by
  unfold φ11;split
  ·exact g2
  ·exact φ7L _ g2
 rw[φLI s.1.1 w1 g2,bS]
 generalize φ11 s.1.1 w1=w2 at *
 obtain ⟨x,c⟩:=w2
 have g3:φ5 x=true:=g3
 have g4:=φ3r (w:=(x,0)) g3 (s.1.1+2,[s.1.1,s.1.1+1])
 have e3:(bif (φC (x,c)).2==0 then (ψ20.f (φC (x,c)) (s.1.1+2,[s.1.1,s.1.1+1])).bind fun t6=>some ((((s.1.1+2,s.1.2),s.2):φA),t6,s.1.1,φw s.1.1 0 (φb l (s.2.2.1 - 1)),((s.1.1+2,[s.1.1,s.1.1+1]):φS)) else some (((s.1.1+2,s.1.2),s.2),φC (x,c),s.1.1,φw s.1.1 0 (φb l (s.2.2.1 - 1)),(s.1.1+2,[s.1.1,s.1.1+1]))) =
   some (((s.1.1+2,s.1.2),s.2),(if c=0 then φC (sPut (s.1.1+2,[s.1.1,s.1.1+1]) (x,c)) else φC (x,c)),s.1.1,φw s.1.1 0 (φb l (s.2.2.1 - 1)),(s.1.1+2,[s.1.1,s.1.1+1])):=by
  by_cases c1:c=0
  ·subst c1
   rw[φCF (φC (x,0)) (s.1.1+2,[s.1.1,s.1.1+1]) (φu g3) (by omega) (by simp),φDv];rfl
  ·have c2:¬told c=0:=fun e=>c1 ((φ1L c).1 e)
   have d2:((φC (x,c)).2==0)=false:=by simpa [φC] using c2
   rw[d2];simp only[cF,c1,if_false]
 rw[e3,bS]
 have g5:φ5 (if c=0 then φC (sPut (s.1.1+2,[s.1.1,s.1.1+1]) (x,c)) else φC (x,c)).1=true:=by
  split
  ·rename_i c1;subst c1;exact g4
  ·exact g3
 simp only
 generalize (if c=0 then φC (sPut (s.1.1+2,[s.1.1,s.1.1+1]) (x,c)) else φC (x,c))=w3 at *
 obtain ⟨y,c3⟩:=w3
 have g5:φ5 y=true:=g5
 by_cases c4:c3=0
 ·subst c4
  simp only[bne_self_eq_false,cF,ne_eq,not_true_eq_false,if_false]
  rw[show ((y,0):φH)=φC (y,0) from rfl,φHi _ s.1.2 (y,0) g5 (by omega)];rfl
 ·have d4:(c3 != 0)=true:=by simpa using c4
  simp only[d4,cT,c4,ne_eq,not_false_eq_true,if_true,φ44,φAq,bS,show w64 (s.1.1+1)=s.1.1+1 from φE (by omega) (by omega)]
  rw[φFY (y,c3) [[116,101,109,112],φ0 s.1.1,φ0 (s.1.1+1),φM s.1.1] g5 (by simp)];rfl
theorem φAb (s:φA) (d:φ1) (m c:Int) (h:φ5 d=true) (hm:0≤m∧m≤100000) (hc:c≠0):ψ3S.f s d m c=some (s,φ1c (φ3q m) (d,c)):=by
 unfold ψ3S.f φ1c
 by_cases c1:c=2
 rotate_left
 ·have d1:(c != 2)=true:=by simpa using c1
  simp only[d1,cT,c1,if_false]
 subst c1
 simp only[bne_self_eq_false,cF,if_true,φ2L,φ7O,show w64 (m+1)=m+1 from φE (by omega) (by omega),bS]
 rw[φ7d d [[116,101,109,112],φ0 m,φ0 (m+1),φM m] h (by simp),bS]
 show (bif (φh (φ3q m) (d,0)).2 != 0 then _ else _)=_
 rw[show φh [[116,101,109,112],φ0 m,φ0 (m+1),φM m] (d,0)=φh (φ3q m) (d,0) from rfl]
 generalize φh (φ3q m) (d,0)=r
 obtain ⟨x,k⟩:=r
 by_cases c2:k=0
 ·subst c2;rfl
 ·have d2:(k != 0)=true:=by simpa using c2
  have c3:¬told k=0:=fun e=>c2 ((φ1L k).1 e)
  have c4:¬(φC (x,k)).2=0:=c3
  simp only[d2,cT,φ2S,bS,c4,if_false];rfl
theorem φL5 (S:φA) (ids:List Int) (d:φ1) (h:φ5 d=true) (hl:ids.length<1000000) :
  lp ψ3U.l0 (S,((0,[]),[],0,0,0),([],0,0,false),d,ids,0)=some (if (sOld ids (d,0)).2=0 then .inl (S,((0,[]),[],0,0,0),([],0,0,false),(sOld ids (d,0)).1) else .inr (S,(sOld ids (d,0)).1,told (sOld ids (d,0)).2)):=by
 have key:=φe (step:=ψ3U.l0) (fun n (a:φ1)=>(S,((0,[]),[],0,0,0),([],0,0,false),a,ids,(n:Int))) ids.length (fun n a=>if (sOld (ids.drop n) (a,0)).2=0 then .inl (S,((0,[]),[],0,0,0),([],0,0,false),(sOld (ids.drop n) (a,0)).1) else .inr (S,(sOld (ids.drop n) (a,0)).1,told (sOld (ids.drop n) (a,0)).2)) (fun _ a=>φ5 a=true)
  (fun rec n a hn ha ih=>by
   rcases Nat.lt_or_ge n ids.length with h1 | h1
   ·have hw:=φJ (show n+1<9223372036854775808 by omega)
    have hk:=φ4c [φ0 ids[n],φM ids[n]] (w:=(a,0)) ha
    rw[dG h1]
    have es:sOld (ids[n]::ids.drop (n+1)) (a,0)=sOld (ids.drop (n+1)) (φh [φ0 ids[n],φM ids[n]] (a,0)):=rfl
    simp only[es,ψ3U.l0,oL,h1,dT,cT,φD,φG,φ8 h1,φ2L,φ7O,φ7d a [φ0 ids[n],φM ids[n]] ha (by simp),bS]
    generalize φh [φ0 ids[n],φM ids[n]] (a,0)=r at *
    obtain ⟨x,c⟩:=r
    by_cases c1:c=0
    ·subst c1
     simp only[bne_self_eq_false,cF,hw,ih x h1 hk]
    ·have d1:(c != 0)=true:=by simpa using c1
     simp only[d1,cT,φ2S,bS,φMk _ c1,c1,if_false]
   ·have:n=ids.length:=by omega
    subst this
    simp[ψ3U.l0,sOld])
  (by omega) 0 d (Nat.zero_le _) h
 have key:lp ψ3U.l0 (S,((0,[]),[],0,0,0),([],0,0,false),d,ids,0)=_:=key
 rw[key,List.drop_zero]
theorem φAc (m:Int) (h:1≤m) (h2:m+2≤100000):φm (m+2,[m,m+1])=true:=by
 rw[φ12]
 refine ⟨?_,by simp only;omega,by simp,by simp⟩
 simp only[φ1X,Bool.and_true,tA,bA,decide_eq_true_eq]
 rw[φE (by omega) (by omega)]
 omega
theorem φLo (s:φA) (d:φ1) (l:List φg) (h:φ5 d=true) (hv:φm s.1=true) (h2:s.1.1+2≤100000) (hb:1≤s.2.2.1∧s.2.2.1≤1000001) (hl:l.length<100000):ψ3U.f s d l=some (φ1C s d l):=by
 obtain ⟨k1,k2,k3,k4⟩:=(φ12 s.1).1 hv
 have hkl:=φE5 l (s.2.2.1 - 1)
 have hlv:=φAc s.1.1 (by omega) h2
 have hsn:=φ4A s.1.1
 have hsn1:=φ4A (s.1.1+1)
 have hhn:=φF0 s.1.1
 have g1:=φ6E s.1.1 (φb l (s.2.2.1 - 1)) (w:=(d,0)) h
 obtain ⟨dir,ew,edir⟩:=φHh d s.1.1 l (s.2.2.1 - 1) h (by omega)
 unfold ψ3U.f φ1C
 simp only[show w64 (s.1.1+2)=s.1.1+2 from φE (by omega) (by omega),show w64 (s.1.1+1)=s.1.1+1 from φE (by omega) (by omega),show w64 (s.2.2.1 - 1)=s.2.2.1 - 1 from φE (by omega) (by omega),ew,bS,φ5Z]
 generalize sWM s.1.1 (φb l (s.2.2.1 - 1)) (d,0)=w0 at *
 obtain ⟨x0,c0⟩:=w0
 have g1:φ5 x0=true:=g1
 by_cases c1:c0=0
 rotate_left
 ·have d1:(c0 != 0)=true:=by simpa using c1
  have c2:told c0≠0:=fun e=>c1 ((φ1L c0).1 e)
  have e1:φ11 s.1.1 (x0,c0)=(x0,c0):=by unfold φ11;rw[if_pos c1]
  rw[φK1 c1,e1]
  simp only[d1,cT,c1,if_false,φAb _ x0 s.1.1 (told c0) g1 (by omega) c2,bS]
  rw[if_pos (show (φC (x0,c0)).2≠0 from c2)];rfl
 subst c1
 have edir:=edir rfl
 subst edir
 have g2:=φ3v (w:=(x0,0)) g1 (φ0 (s.1.1+1))
 simp only[bne_self_eq_false,cF,φ2L,φEm x0 (φ0 (s.1.1+1)) g1 (by omega),bS]
 generalize sNew (φ0 (s.1.1+1)) (x0,0)=w1 at *
 obtain ⟨x1,c1⟩:=w1
 have g2:φ5 x1=true:=g2
 by_cases c2:c1=0
 rotate_left
 ·have d1:(c1 != 0)=true:=by simpa using c2
  have c3:told c1≠0:=fun e=>c2 ((φ1L c1).1 e)
  have e1:φ11 s.1.1 (x1,c1)=(x1,c1):=by unfold φ11;rw[if_pos c2]
  rw[e1]
  simp only[d1,cT,c2,if_false,φ2S,φAb _ x1 s.1.1 (told c1) g2 (by omega) c3,bS]
  rw[if_pos (show (φC (x1,c1)).2≠0 from c3)];rfl
 subst c2
 obtain ⟨t1,t2⟩:=φC7 s.1.1 (d:=x1) g2
 have hsl:=φBx (φ17 s.1.1 (φ2 x1 (φ0 s.1.1)).1).1
 have hd:dlim x1:=φ1J (φu g2) (by omega)
 have g3:=φ7L s.1.1 g2
 have n2:=φIL s.1.1 x1
 have e1:φ11 s.1.1 (x1,0)=φ2D s.1.1 x1:=by unfold φ11;rw[if_neg (by simp)]
 rw[e1]
 simp only[bne_self_eq_false,cF,φ4j x1 (φ0 s.1.1) hd,bS,φD1 s.1.1 (φ2 x1 (φ0 s.1.1)).1 (by omega),φ7O,φAl (φ17 s.1.1 (φ2 x1 (φ0 s.1.1)).1).1 (by omega),φEI x1 (φM s.1.1) _ (φu g2) (show 100001+1+(φM s.1.1).length+(φ1P (φ17 s.1.1 (φ2 x1 (φ0 s.1.1)).1).1).length≤1000000000 by omega)]
 have hf:=φ4L (w:=(x1,0)) g2 (φM s.1.1) (φ1P (φ17 s.1.1 (φ2 x1 (φ0 s.1.1)).1).1)
 have eh:φ2D s.1.1 x1=if (φ1f (φM s.1.1) (φ1P (φ17 s.1.1 (φ2 x1 (φ0 s.1.1)).1).1) (x1,0)).2=2 then φF (φM s.1.1) (φ1f (φM s.1.1) (φ1P (φ17 s.1.1 (φ2 x1 (φ0 s.1.1)).1).1) (x1,0)).1 else φ1f (φM s.1.1) (φ1P (φ17 s.1.1 (φ2 x1 (φ0 s.1.1)).1).1) (x1,0):=rfl
 generalize φ1f (φM s.1.1) (φ1P (φ17 s.1.1 (φ2 x1 (φ0 s.1.1)).1).1) (x1,0)=f at *
 obtain ⟨xf,cf⟩:=f
 have hf:φ5 xf=true:=hf
 have e4:(bif cf==2 then (ψ3R.f xf [φM s.1.1]).bind fun (t15_0,t15_1)=>some ((((s.1.1+2,s.1.2),s.2):φA),(((0,[]),[],0,0,0):φA),(([],0,0,false):φ1),s.1.1,t15_0,φw s.1.1 0 (φb l (s.2.2.1 - 1)),t15_1) else some (((s.1.1+2,s.1.2),s.2),((0,[]),[],0,0,0),([],0,0,false),s.1.1,xf,φw s.1.1 0 (φb l (s.2.2.1 - 1)),cf)) =
   some (((s.1.1+2,s.1.2),s.2),((0,[]),[],0,0,0),([],0,0,false),s.1.1,(φ2D s.1.1 x1).1,φw s.1.1 0 (φb l (s.2.2.1 - 1)),(φ2D s.1.1 x1).2):=by
  rw[eh]
  by_cases c5:cf=2
  ·subst c5
   rw[φ7d xf [φM s.1.1] hf (by simp)]
   simp only[beq_self_eq_true,cT,bS,if_true]
   rw[show φh [φM s.1.1] (xf,0)=φF (φM s.1.1) xf by show φI (φF (φM s.1.1)) (xf,0)=_;rw[φ1v]]
  ·have d5:(cf==2)=false:=by simpa using c5
   simp only[d5,cF,c5,if_false]
 rw[e4,bS]
 clear e4 eh
 generalize φ2D s.1.1 x1=w2 at *
 obtain ⟨x2,c2⟩:=w2
 have g3:φ5 x2=true:=g3
 have n2:c2≠2:=n2
 by_cases c5:c2=0
 rotate_left
 ·have d1:(c2 != 0)=true:=by simpa using c5
  have c6:told c2≠0:=fun e=>c5 ((φ1L c2).1 e)
  have c7:¬told c2=2:=fun e=>n2 ((φDo c2).1 e)
  simp only[d1,cT,c5,if_false,φ2S,bS]
  rw[if_pos (show (φC (x2,c2)).2≠0 from c6)]
  unfold φ1c
  rw[if_neg (show ¬(φC (x2,c2)).2=2 from c7)];rfl
 subst c5
 have hb0:(([]:List Int).length+s.1.2.length) * 8≤140737488355328:=φ8W (by omega)
 have g4:=φ3r (w:=(x2,0)) g3 (s.1.1+2,[s.1.1,s.1.1+1])
 have ep:ψ2i.f x2 (s.1.1+2,[s.1.1,s.1.1+1])=some (φC (sPut (s.1.1+2,[s.1.1,s.1.1+1]) (x2,0))):=by
  rw[φBk _ _ (φu g3) (by omega) (by simp)]
  unfold φ6m
  rw[if_neg (by rw[hlv,g3];simp)]
 simp only[bne_self_eq_false,cF,if_true,hb0,dT,cT,List.nil_append,show w64 (s.1.1+2)=s.1.1+2 from φE (by omega) (by omega),show w64 (s.1.1+1)=s.1.1+1 from φE (by omega) (by omega),ep,bS]
 have g5:φ5 (φC (sPut (s.1.1+2,[s.1.1,s.1.1+1]) (x2,0))).1=true:=g4
 generalize φC (sPut (s.1.1+2,[s.1.1,s.1.1+1]) (x2,0))=w3 at *
 obtain ⟨x3,c3⟩:=w3
 have g5:φ5 x3=true:=g5
 by_cases c6:c3=0
 rotate_left
 ·have d6:(c3 != 0)=true:=by simpa using c6
  simp only[d6,cT,c6,ne_eq,not_false_eq_true,if_true,φAb _ x3 s.1.1 c3 g5 (by omega) c6,bS]
 subst c6
 simp only[bne_self_eq_false,cF,ne_eq,not_true_eq_false,if_false,φL5 _ s.1.2 x3 g5 (by omega),bS]
 generalize sOld s.1.2 (x3,0)=w4
 obtain ⟨x4,c4⟩:=w4
 by_cases c7:c4=0
 ·subst c7;rfl
 ·simp only[c7,if_false,φd];rfl
theorem φ6i {c:CurT} (h:Cur c) (l:List Int) (hl:0<l.length):∃x c',ψ3j.f c l=some (x,c')∧x∈l∧Cur c':=by
 obtain ⟨x,c',e,h1,h2,_,h'⟩:=φ3y h (l.length:Int)
 have h2:=h2 (by omega)
 unfold ψ3j.f
 obtain ⟨n,rfl⟩:∃n:Nat,x=(n:Int):=⟨x.toNat,by omega⟩
 have hn:n<l.length:=by omega
 simp only[e,bS,φD,hn,dT,cT,φG,φ8 hn]
 exact ⟨_,_,rfl,gM hn,h'⟩
theorem φCm {α:Type} {l:List (List UInt8×α)} (h:srt l) {i j:Nat} (hi:i<l.length) (hj:j<l.length) (e:l[i].1=l[j].1):i=j:=by
 unfold srt at h
 rw[List.pairwise_iff_getElem] at h
 rcases Nat.lt_trichotomy i j with c | c | c
 ·have:=h i j hi hj c;rw[e,φ4u] at this;simp at this
 ·exact c
 ·have:=h j i hj hi c;rw[e,φ4u] at this;simp at this
theorem φ3i {d:φ1} (h:φ5 d=true) {f:φ6} (hf:f∈d.1):φ2 d f.1=(f.2.1,true):=by
 have hs:=((φ3f d).1 h).2.2.2.2.2
 unfold φ2
 rw[if_neg (by rw[h];simp)]
 rcases φz d.1 f.1 with ⟨e,hno⟩ | ⟨i,hi,e,hn⟩
 ·exact absurd rfl (hno f hf)
 ·rw[φ16 e]
  obtain ⟨j,hj,ej⟩:=List.getElem_of_mem hf
  have:i=j:=φCm hs hi hj (by rw[hn,ej])
  subst this
  simp only
  rw[φ8 hi,ej]
theorem φLO {d:φ1} {n:List UInt8} (h:∀f∈d.1,f.1≠n):(φ2 d n).2=false:=by
 unfold φ2
 split
 ·rfl
 ·rcases φz d.1 n with ⟨e,hno⟩ | ⟨i,hi,e,hn⟩
  ·rw[φ19 e]
  ·exact absurd hn (h _ (gM hi))
def φ3J (n:List UInt8) (z:Int) (d:φ1):φ1×Int:=φW d (φ5A n z)
theorem φ6J {d:φ1} {act:List φ6→Int×List φ6} (h:(φW d act).2=0):φ5 d=true∧(act d.1).1=0∧(φW d act).1=((act d.1).2,(tick d).2):=by
 unfold φW at h ⊢
 split at h
 ·simp at h
 rename_i c
 split at h
 ·simp at h
 rename_i c2
 rw[if_neg c,if_neg c2]
 exact ⟨by simpa using c,h,rfl⟩
theorem φ8i {d:φ1} {n t:List UInt8} (h:(φU n t d).2=0):(φ2 d n).2=true∧φ2 (φU n t d).1 n=((φ2 d n).1++t,true):=by
 obtain ⟨k,ha,hx⟩:=φ6J h
 have hk:φ5 (φU n t d).1=true:=φ3d k n t
 have hx:(φU n t d).1=_:=hx
 unfold φ2f at ha hx
 rcases φz d.1 n with ⟨e,_⟩ | ⟨i,hi,e,hn⟩
 ·rw[φ19 e] at ha;simp at ha
 rw[φ16 e] at ha hx
 simp only at ha hx
 split at ha
 ·simp at ha
 rename_i c
 rw[if_neg c,φ8 hi] at hx
 have e1:=φ3i k (gM hi)
 rw[hn] at e1
 have hm:((n,d.1[i].2.1++t,d.1[i].2.2):φ6)∈(φU n t d).1.1:=by
  rw[hx,←hn]
  exact List.mem_iff_getElem.2 ⟨i,by simpa using hi,by simp⟩
 have e2:=φ3i hk hm
 rw[e1]
 exact ⟨rfl,e2⟩
theorem φJi {d:φ1} {n:List UInt8} (h:(φ20 n d).2=0):(φ2 (φ20 n d).1 n).2=false:=by
 obtain ⟨k,ha,hx⟩:=φ6J h
 have hx:(φ20 n d).1=_:=hx
 unfold φ2X at ha hx
 rcases φz d.1 n with ⟨e,_⟩ | ⟨i,hi,e,hn⟩
 ·rw[φ19 e] at ha;simp at ha
 rw[φ16 e] at hx
 simp only at hx
 apply φLO
 rw[hx]
 intro f hf
 have:=φAW hi (φ6K k) f hf
 rw[hn] at this
 exact this
theorem φHO {d:φ1} {a b:List UInt8} (h:(φ3B a b d).2=0):φ2 (φ3B a b d).1 b=((φ2 d a).1,true):=by
 obtain ⟨k,ha,hx⟩:=φ6J h
 have hk:φ5 (φ3B a b d).1=true:=φBh k a b
 have hx:(φ3B a b d).1=_:=hx
 unfold φ2n at ha hx
 split at ha
 ·simp at ha
 rename_i c
 rw[if_neg c] at hx
 rcases φz d.1 a with ⟨e,_⟩ | ⟨i,hi,e,hn⟩
 ·rw[φ19 e] at ha;simp at ha
 rw[φ16 e] at hx
 simp only at hx
 have e1:=φ3i k (gM hi)
 rw[hn] at e1
 rw[e1]
 have hm:((b,d.1[i].2):φ6)∈(φ3B a b d).1.1:=by
  rw[hx]
  simp only
  split
  ·rename_i c2
   rw[←c2,←hn];exact gM hi
  ·rw[φ3Y,φ8 hi];exact .inl rfl
 exact φ3i hk hm
theorem φFT:∀(l:List φ9) (p:Option (List UInt8)),φ2R p l=true→(∀q,p=some q→∀x∈l,Op.bytesLess q x.1=true)∧srt l
 | [],p,_=>⟨fun _ _ x hx=>by simp at hx,List.Pairwise.nil⟩
 | e::l,p,h=>by
  simp only[φ2R,bA] at h
  obtain ⟨h1,h2⟩:=φFT l (some e.1) h.2.2
  refine ⟨fun q hq x hx=>?_,List.Pairwise.cons (h1 e.1 rfl) h2⟩
  subst hq
  have hqe:Op.bytesLess q e.1=true:=h.2.1
  rcases mc.1 hx with c | hx
  ·rw[c];exact hqe
  ·exact φ6Z _ _ _ hqe (h1 e.1 rfl x hx)
theorem φ5L {l:List φ9} (h:φ1i l=true):srt l:=by
 unfold φ1i at h
 simp only[bA] at h
 exact (φFT l none h.1).2
theorem φGS {l:List φ9} (h:srt l) {e:φ9} (he:e∈l):φ2m l e.1=(e,true):=by
 unfold φ2m
 have hf:(l.find? fun x=>x.1==e.1)=some e:=by
  induction l with
  | nil=>simp at he
  | cons x l ih=>
   have h2:=List.pairwise_cons.1 h
   rw[List.find?_cons]
   rcases mc.1 he with c | he
   ·subst c;simp
   ·have:(x.1==e.1)=false:=by simpa using φ5f (h2.1 e he)
    rw[this]
    exact ih h2.2 he
 rw[hf]
theorem φFw {s:φA} {d:φ1} (h:φo s d=true):∀e∈s.2.1,φ1x d s.2.2.1 e=true:=by
 unfold φo at h
 simp only[bA,List.all_eq_true] at h
 exact h.2.2.2.2.2
theorem φMA {s:φA} {d:φ1} (h:φo s d=true) {e:φ9} (he:e∈s.2.1):(getP s d e.1).2=0∧(getP s d e.1).1.1=e.1:=by
 obtain ⟨q1,q2,q3,q4,q5⟩:=φ56 h
 have hs:=φ5L q3
 have k:=φFw h e he
 unfold φ1x at k
 simp only[bA,Bool.or_eq_true,beq_iff_eq] at k
 unfold getP
 rw[φGS hs he]
 simp only[Bool.true_eq_false,if_false]
 rw[if_pos ⟨k.1,k.2.1,k.2.2.1⟩]
 exact ⟨rfl,rfl⟩
theorem φD3 {s:φA} {d:φ1}:∀(l:List φ9) (acc:List φg),(∀e∈l,(getP s d e.1).2=0)→φ1U s d l acc=(acc++l.map fun e=>(getP s d e.1).1,0)
 | [],acc,_=>by simp[φ1U]
 | e::r,acc,h=>by
  unfold φ1U
  rw[if_neg (by rw[h e List.mem_cons_self];simp),φD3 r _ fun x hx=>h x (mC _ hx)]
  simp
theorem φJA {s:φA} {d:φ1} (h:φo s d=true):φT s d=(s.2.1.map fun e=>(getP s d e.1).1,0):=by
 unfold φT
 rw[φD3 s.2.1 [] fun e he=>(φMA h he).1]
 simp
theorem φBM (n:Int) (h:0≤n∧n≤100000):φ5 (([],n,-1,false):φ1)=true:=by
 rw[φ3f];exact ⟨h,(show (-1:Int)≤-1∧(-1:Int)≤100000 by decide),(show 0≤130 by decide),h.1,by simp,List.Pairwise.nil⟩
theorem φ7q {d:φ1} {n:List UInt8} (h:∀f∈d.1,f.1≠n):φ2 d n=([],false):=by
 unfold φ2
 split
 ·rfl
 ·rcases φz d.1 n with ⟨e,hno⟩ | ⟨i,hi,e,hn⟩
  ·rw[φ19 e]
  ·exact absurd hn (h _ (gM hi))
theorem φJG {d e:φ1} (hd:φ5 d=true) (he:φ5 e=true) (n:List UInt8) (hm:∀t,(∃s,((n,t,s):φ6)∈d.1)↔∃s,((n,t,s):φ6)∈e.1):φ2 e n=φ2 d n:=by
 by_cases c:∃t s,((n,t,s):φ6)∈d.1
 ·obtain ⟨t,s,hs⟩:=c
  obtain ⟨s',hs'⟩:=(hm t).1 ⟨s,hs⟩
  have e1:=φ3i hd hs
  have e2:=φ3i he hs'
  exact e2.trans e1.symm
 ·have h1:∀f∈d.1,f.1≠n:=fun f hf e=>c ⟨f.2.1,f.2.2,by rw[←e];exact hf⟩
  have h2:∀f∈e.1,f.1≠n:=fun f hf e'=>by
   obtain ⟨s,hs⟩:=(hm f.2.1).2 ⟨f.2.2,by rw[←e'];exact hf⟩
   exact c ⟨_,_,hs⟩
  rw[φ7q h1,φ7q h2]
theorem φ60 {d:φ1} {act:List φ6→Int×List φ6} (h:φ5 d=true) (hk:φ5 (φW d act).1=true) (n:List UInt8) (hm:∀t,(∃s,((n,t,s):φ6)∈d.1)↔∃s,((n,t,s):φ6)∈(act d.1).2):φ2 (φW d act).1 n=φ2 d n:=by
 refine φJG h hk n fun t=>?_
 have hx:(φW d act).1.1=d.1∨(φW d act).1.1=(act d.1).2:=by
  unfold φW
  split
  ·exact .inl rfl
  ·split
   ·exact .inl rfl
   ·exact .inr rfl
 rcases hx with e | e
 ·rw[e]
 ·rw[e];exact hm t
theorem φ5k {l:List φ6} {i:Nat} (hi:i<l.length) {f:φ6} (hf:f.1=l[i].1) {x:φ6} (hx:x.1≠l[i].1):x∈l.set i f↔x∈l:=by
 constructor
 ·intro h
  rcases List.mem_or_eq_of_mem_set h with h | e
  ·exact h
  ·rw[e] at hx;exact absurd hf hx
 ·intro h
  obtain ⟨j,hj,e⟩:=List.getElem_of_mem h
  have hij:i≠j:=fun c=>by subst c;rw[e] at hx;exact hx rfl
  exact List.mem_iff_getElem.2 ⟨j,by simpa using hj,by rw[List.getElem_set,if_neg hij];exact e⟩
theorem φ6R {l:List φ6} {i:Nat} (hi:i<l.length) {x:φ6} (hx:x.1≠l[i].1):x∈φl l i↔x∈l:=by
 constructor
 ·intro h;exact (φ5M l i).subset h
 ·intro h
  rw[φ93 hi] at h
  unfold φl
  rcases mA.1 h with h | h
  ·exact mL _ h
  ·rcases mc.1 h with e | h
   ·rw[e] at hx;exact absurd rfl hx
   ·exact mR _ h
theorem φGI {d:φ1} (h:φ5 d=true) {m n:List UInt8} (hne:n≠m):φ2 (φ20 m d).1 n=φ2 d n:=by
 refine φ60 h (φ8o h m) n fun t=>?_
 unfold φ2X
 rcases φz d.1 m with ⟨e,_⟩ | ⟨i,hi,e,hn⟩
 ·rw[φ19 e]
 ·rw[φ16 e]
  simp only
  constructor
  ·rintro ⟨s,hs⟩;exact ⟨s,(φ6R hi (by rw[hn];exact hne)).2 hs⟩
  ·rintro ⟨s,hs⟩;exact ⟨s,(φ6R hi (by rw[hn];exact hne)).1 hs⟩
theorem φ4e {d:φ1} (h:φ5 d=true) {m n:List UInt8} (hne:n≠m):φ2 (φF m d).1 n=φ2 d n:=by
 unfold φF;split
 ·exact φGI h hne
 ·rfl
theorem φAY {d:φ1} (h:φ5 d=true) {m n:List UInt8} (hne:n≠m):φ2 (φa m d).1 n=φ2 d n:=by
 refine φ60 h (φ34 h m) n fun t=>?_
 unfold φ2o
 split
 ·exact Iff.rfl
 split
 ·exact Iff.rfl
 split
 ·exact Iff.rfl
 ·constructor
  ·rintro ⟨s,hs⟩;exact ⟨s,(φ3Y _ _ _).2 (.inr hs)⟩
  ·rintro ⟨s,hs⟩
   rcases (φ3Y _ _ _).1 hs with e | hs
   ·exact absurd (congrArg (·.1) e) hne
   ·exact ⟨s,hs⟩
theorem φ7A {d:φ1} (h:φ5 d=true) {m n t0:List UInt8} (hne:n≠m):φ2 (φU m t0 d).1 n=φ2 d n:=by
 refine φ60 h (φ3d h m t0) n fun t=>?_
 unfold φ2f
 rcases φz d.1 m with ⟨e,_⟩ | ⟨i,hi,e,hn⟩
 ·rw[φ19 e]
 ·rw[φ16 e]
  simp only
  split
  ·exact Iff.rfl
  ·rw[φ8 hi]
   constructor
   ·rintro ⟨s,hs⟩;exact ⟨s,(φ5k (f:=(d.1[i].1,d.1[i].2.1++t0,d.1[i].2.2)) hi rfl (by rw[hn];exact hne)).2 hs⟩
   ·rintro ⟨s,hs⟩;exact ⟨s,(φ5k (f:=(d.1[i].1,d.1[i].2.1++t0,d.1[i].2.2)) hi rfl (by rw[hn];exact hne)).1 hs⟩
theorem φ2e {d:φ1} (h:φ5 d=true) (m n:List UInt8):φ2 (φN m d).1 n=φ2 d n:=by
 refine φ60 h (φ36 h m) n fun t=>?_
 unfold φ2a
 rcases φz d.1 m with ⟨e,_⟩ | ⟨i,hi,e,hn⟩
 ·rw[φ19 e]
 ·rw[φ16 e]
  simp only
  rw[φ8 hi]
  by_cases hne:n=m
  ·subst hne
   have hs:=((φ3f d).1 h).2.2.2.2.2
   have uniq:∀t s,((n,t,s):φ6)∈d.1→d.1[i]=(n,t,s):=fun t s hx=>by
    obtain ⟨j,hj,ej⟩:=List.getElem_of_mem hx
    have:i=j:=φCm hs hi hj (by rw[hn,ej])
    subst this;exact ej
   constructor
   ·rintro ⟨s,hx⟩
    refine ⟨(d.1[i].2.1.length:Int),List.mem_iff_getElem.2 ⟨i,by simpa using hi,?_⟩⟩
    rw[List.getElem_set_self,uniq t s hx]
   ·rintro ⟨s,hx⟩
    rcases List.mem_or_eq_of_mem_set hx with hx | e
    ·exact ⟨s,hx⟩
    ·have e1:t=d.1[i].2.1:=congrArg (·.2.1) e
     refine ⟨d.1[i].2.2,?_⟩
     rw[e1,←hn];exact gM hi
  ·constructor
   ·rintro ⟨s,hs⟩;exact ⟨s,(φ5k (f:=(d.1[i].1,d.1[i].2.1,(d.1[i].2.1.length:Int))) hi rfl (by rw[hn];exact hne)).2 hs⟩
   ·rintro ⟨s,hs⟩;exact ⟨s,(φ5k (f:=(d.1[i].1,d.1[i].2.1,(d.1[i].2.1.length:Int))) hi rfl (by rw[hn];exact hne)).1 hs⟩
theorem φDE {l:List φ6} {b:List UInt8} {x:φ6} (hx:x.1≠b):x∈φ1h l b↔x∈l:=by
 unfold φ1h
 rcases φz l b with ⟨e,_⟩ | ⟨i,hi,e,hn⟩
 ·rw[φ19 e]
 ·rw[φ16 e];exact φ6R hi (by rw[hn];exact hx)
theorem φJh {d:φ1} (h:φ5 d=true) {a b n:List UInt8} (h1:n≠a) (h2:n≠b):φ2 (φ3B a b d).1 n=φ2 d n:=by
 refine φ60 h (φBh h a b) n fun t=>?_
 unfold φ2n
 split
 ·exact Iff.rfl
 rcases φz d.1 a with ⟨e,_⟩ | ⟨i,hi,e,hn⟩
 ·rw[φ19 e]
 ·rw[φ16 e]
  simp only
  split
  ·exact Iff.rfl
  ·constructor
   ·rintro ⟨s,hs⟩;exact ⟨s,(φ3Y _ _ _).2 (.inr ((φDE h2).2 ((φ6R hi (by rw[hn];exact h1)).2 hs)))⟩
   ·rintro ⟨s,hs⟩
    rcases (φ3Y _ _ _).1 hs with e | hs
    ·exact absurd (congrArg (·.1) e) h2
    ·exact ⟨s,(φ6R hi (by rw[hn];exact h1)).1 ((φDE h2).1 hs)⟩
theorem φ2c {w:φH} {op:φ1→φ1×Int} {n:List UInt8} (ho:φ2 (op w.1).1 n=φ2 w.1 n):φ2 (φI op w).1 n=φ2 w.1 n:=by
 unfold φI;split
 ·exact ho
 ·rfl
theorem φ6M {w:φH} (h:φ5 w.1=true) {m n:List UInt8} (hne:n≠m):φ2 (sNew m w).1 n=φ2 w.1 n:=by
 have h1:φ5 (φI (φF m) w).1=true:=φ1e (op:=φF m) h fun k=>φ2U k m
 unfold sNew
 rw[φ2c (op:=φa m) (φAY h1 hne),φ2c (op:=φF m) (φ4e h hne)]
theorem φ58 {w:φH} (h:φ5 w.1=true) {m n t:List UInt8} (hne:n≠m):φ2 (φ1f m t w).1 n=φ2 w.1 n:=by
 have h2:φ5 (sNew m w).1=true:=φ3v h m
 have h3:φ5 (φI (φU m t) (sNew m w)).1=true:=φ1e (op:=φU m t) h2 fun k=>φ3d k m t
 show φ2 (φI (φN m) (φI (φU m t) (sNew m w))).1 n=_
 rw[φ2c (op:=φN m) (φ2e h3 m n),φ2c (op:=φU m t) (φ7A h2 hne),φ6M h hne]
abbrev φ2O:List UInt8:=[116,101,109,112]
abbrev φn:List UInt8:=[108,105,118,101]
theorem φ74 {w:φH} (h:φ5 w.1=true) (v:φS) {n:List UInt8} (h1:n≠φ2O) (h2:n≠φn):φ2 (sPut v w).1 n=φ2 w.1 n:=by
 have h3:=φ4L h φ2O (φ10 v)
 unfold sPut
 rw[φ2c (op:=φ3B φ2O φn) (φJh h3 h1 h2),φ58 h h1]
theorem φ8v {n:List UInt8}:∀(names:List (List UInt8)) {w:φH},φ5 w.1=true→(∀m∈names,n≠m)→φ2 (φh names w).1 n=φ2 w.1 n
 | [],w,_,_=>rfl
 | m::l,w,h,hne=>by
  have h1:φ5 (φI (φF m) w).1=true:=φ1e (op:=φF m) h fun k=>φ2U k m
  show φ2 (φh l (φI (φF m) w)).1 n=_
  rw[φ8v l h1 fun x hx=>hne x (mC _ hx),φ2c (op:=φF m) (φ4e h (hne m List.mem_cons_self))]
theorem φ8g {names:List (List UInt8)} {w:φH} {n:List UInt8} (h:φ5 w.1=true) (hne:∀m∈names,n≠m):φ2 (φ1c names w).1 n=φ2 w.1 n:=by
 have:=φ8v (n:=n) names (w:=(w.1,0)) h hne
 unfold φ1c;split
 ·split
  ·exact this
  ·exact this
 ·rfl
theorem φCh {d:φ1} {n:List UInt8} (h:(φa n d).2=0):φ2 (φa n d).1 n=([],true):=by
 obtain ⟨k,ha,hx⟩:=φ6J h
 have hk:φ5 (φa n d).1=true:=φ34 k n
 have hx:(φa n d).1=_:=hx
 unfold φ2o at ha hx
 split at ha
 ·simp at ha
 rename_i c1
 rw[if_neg c1] at hx
 split at ha
 ·simp at ha
 rename_i c2
 rw[if_neg c2] at hx
 split at ha
 ·simp at ha
 rename_i c3
 rw[if_neg c3] at hx
 have hm:((n,[],0):φ6)∈(φa n d).1.1:=by rw[hx];exact (φ3Y _ _ _).2 (.inl rfl)
 exact φ3i hk hm
theorem φAD:∀(k a b:Nat),a<k→Lib.decDigits a=Lib.decDigits b→a=b
 | 0,a,b,h,_=>by omega
 | k+1,a,b,h,e=>by
  have last:∀n:Nat,(Lib.decDigits n).getLast?=some (UInt8.ofNat (48+n % 10)):=fun n=>by
   by_cases c:n<10
   ·rw[Lib.decDigits_one c,Nat.mod_eq_of_lt c];rfl
   ·have:=φ4X (n:=n) (by omega)
    unfold digs at this
    rw[if_neg (by omega),if_neg (by omega)] at this
    rw[this];simp
  have hm:a % 10=b % 10:=by
   have h1:=last a
   rw[e,last b] at h1
   have h2:UInt8.ofNat (48+b % 10)=UInt8.ofNat (48+a % 10):=Option.some.inj h1
   have h3:=congrArg UInt8.toNat h2
   simp only[UInt8.toNat_ofNat'] at h3
   omega
  by_cases ca:a<10
  ·by_cases cb:b<10
   ·omega
   ·exfalso
    have:=φ4X (n:=b) (by omega)
    unfold digs at this
    rw[if_neg (by omega),if_neg (by omega)] at this
    rw[this,Lib.decDigits_one ca] at e
    have hl:=congrArg List.length e
    have h0:0<(Lib.decDigits (b / 10)).length:=by
     cases hd:Lib.decDigits (b / 10) with
     | nil=>have:=last (b / 10);rw[hd] at this;simp at this
     | cons x l=>simp
    simp only[lA,lC,lN] at hl
    omega
  ·by_cases cb:b<10
   ·exfalso
    have:=φ4X (n:=a) (by omega)
    unfold digs at this
    rw[if_neg (by omega),if_neg (by omega)] at this
    rw[this,Lib.decDigits_one cb] at e
    have hl:=congrArg List.length e
    have h0:0<(Lib.decDigits (a / 10)).length:=by
     cases hd:Lib.decDigits (a / 10) with
     | nil=>have:=last (a / 10);rw[hd] at this;simp at this
     | cons x l=>simp
    simp only[lA,lC,lN] at hl
    omega
   ·have e1:=φ4X (n:=a) (by omega)
    have e2:=φ4X (n:=b) (by omega)
    unfold digs at e1 e2
    rw[if_neg (by omega),if_neg (by omega)] at e1 e2
    rw[e1,e2] at e
    have:=(List.append_inj' e rfl).1
    have:=φAD k (a / 10) (b / 10) (by omega) this
    omega
theorem φ3p {i j:Int} (hi:1≤i∧i≤100000) (hj:1≤j∧j≤100000) (h:φ0 i=φ0 j):i=j:=by
 unfold φ0 φ28 at h
 rw[if_pos hi,if_pos hj] at h
 have:=φAD (i.toNat+1) i.toNat j.toNat (by omega) (List.append_cancel_left h)
 omega
theorem φ43 (i:Int):φ0 i≠φ2O:=by
 unfold φ0 φ28
 split
 ·intro h;have:=congrArg List.head? h;simp at this
 ·simp
theorem φ2N (i:Int):φ0 i≠φn:=by
 unfold φ0 φ28
 split
 ·intro h;have:=congrArg List.head? h;simp at this
 ·simp
theorem φ3o (i j:Int) (hi:1≤i∧i≤100000):φ0 i≠φM j:=by
 unfold φ0 φM φ28
 rw[if_pos hi]
 split
 ·intro h;have:=congrArg List.head? h;simp at this
 ·simp
theorem φAZ {m n:List UInt8} (hne:n≠m):∀(recs:List RecT) {w:φH},φ5 w.1=true→φ2 (sApp m recs w).1 n=φ2 w.1 n
 | [],w,_=>rfl
 | r::l,w,h=>by
  have h1:φ5 (φI (φU m (frame (φ7 r))) w).1=true:=φ1e (op:=φU m _) h fun k=>φ3d k m _
  show φ2 (sApp m l (φI _ w)).1 n=_
  rw[φAZ hne l h1,φ2c (op:=φU m _) (φ7A h hne)]
theorem φA7 {s:φA} {d:φ1} (h:φ5 d=true):((rotP s d).1.1.1=s.1.1∧∀n,φ2 (rotP s d).2.1 n=φ2 d n) ∨
  ((rotP s d).1.1.1=s.1.1+1∧s.1.1<100000∧∀n,n≠φ0 s.1.1→n≠φ2O→n≠φn→φ2 (rotP s d).2.1 n=φ2 d n):=by
 have hs:=φ36 h (actN s)
 have hg:=φ2U hs (φ0 s.1.1)
 have hc:φ5 (φI (φa (φ0 s.1.1)) (φF (φ0 s.1.1) (φN (actN s) d).1)).1=true:=φ1e (op:=φa _) hg fun k=>φ34 k _
 have f1:∀n,φ2 (φN (actN s) d).1 n=φ2 d n:=fun n=>φ2e h _ n
 have f2:∀n,n≠φ0 s.1.1→φ2 (φI (φa (φ0 s.1.1)) (φF (φ0 s.1.1) (φN (actN s) d).1)).1 n=φ2 d n:=fun n hn=>by
  rw[φ2c (op:=φa _) (φAY hg hn),φ4e hs hn,f1]
 unfold rotP
 split
 ·exact .inl ⟨rfl,fun _=>rfl⟩
 rename_i c1
 simp only[not_or,Nat.not_le,Int.not_le] at c1
 split
 ·exact .inl ⟨rfl,f1⟩
 simp only
 split
 ·exact .inr ⟨rfl,c1.2,fun n h1 _ _=>f2 n h1⟩
 have hp:=φ3r (w:=((φI (φa (φ0 s.1.1)) (φF (φ0 s.1.1) (φN (actN s) d).1)).1,0)) hc (s.1.1+1,s.1.2++[s.1.1])
 have f3:∀n,n≠φ0 s.1.1→n≠φ2O→n≠φn→φ2 (sPut (s.1.1+1,s.1.2++[s.1.1]) ((φI (φa (φ0 s.1.1)) (φF (φ0 s.1.1) (φN (actN s) d).1)).1,0)).1 n=φ2 d n:=fun n h1 h2 h3=>by
  rw[φ74 (w:=((φI (φa (φ0 s.1.1)) (φF (φ0 s.1.1) (φN (actN s) d).1)).1,0)) hc _ h2 h3]
  exact f2 n h1
 split
 ·refine .inr ⟨rfl,c1.2,fun n h1 h2 h3=>?_⟩
  show φ2 (φ1c _ _).1 n=_
  rw[φ8g (w:=φC _) hp (fun m hm=>by
   simp only[mc,List.not_mem_nil,or_false] at hm
   rcases hm with rfl | rfl
   ·exact h2
   ·exact h1)]
  exact f3 n h1 h2 h3
 ·exact .inr ⟨rfl,c1.2,f3⟩
theorem φBF {v:φS} (h:φm v=true):1≤φL v.2∧φL v.2<v.1∧φL v.2≤100000:=by
 obtain ⟨k1,k2,k3,k4⟩:=(φ12 v).1 h
 rw[φE (by omega) (by omega)] at k1
 have hm:φL v.2∈v.2:=by
  unfold φL
  rw[φ8 (show v.2.length - 1<v.2.length by omega)]
  exact gM _
 have:=φ3g _ _ k1 _ hm
 omega
theorem φ6G {n:List UInt8}:∀(ids:List Int) {w:φH},φ5 w.1=true→(∀id∈ids,n≠φ0 id∧n≠φM id)→φ2 (sOld ids w).1 n=φ2 w.1 n
 | [],w,_,_=>rfl
 | i::l,w,h,hne=>by
  have h1:=φ4c [φ0 i,φM i] h
  show φ2 (sOld l (φh [φ0 i,φM i] w)).1 n=_
  rw[φ6G l h1 fun x hx=>hne x (mC _ hx),φ8v _ h (fun m hm=>by
   simp only[mc,List.not_mem_nil,or_false] at hm
   have:=hne i List.mem_cons_self
   rcases hm with rfl | rfl
   ·exact this.1
   ·exact this.2)]
theorem φ77 {v:φS} (h:φm v=true):v.2≠[]:=fun e=>by
 have:=((φ12 v).1 h).2.2.1
 rw[e] at this;simp at this
theorem φI0 {d d':φ1} {b:Int} {e:φ9} (hf:φ2 d' (φ0 e.2.1)=φ2 d (φ0 e.2.1)):φ1x d' b e=φ1x d b e:=by
 unfold φ1x;rw[hf]
theorem φ7X:scan []=([],0):=by
 have:=φ8w (s:=[])
 exact this
theorem φCN {d d':φ1} {z:Int} {m:Int} (hm:φ2 d' (φ0 m)=([],true)):∀(ids:List Int),(∀id∈ids,φ2 d' (φ0 id)=φ2 d (φ0 id))→φ1W d z ids=true→φ1W d' 0 (ids++[m])=true
 | [],_,_=>by
  show (φ4O d' 0 true m && true)=true
  unfold φ4O
  rw[hm]
  simp only[φ7X]
  simp
 | x::l,hf,h=>by
  unfold φ1W at h
  simp only[bA] at h
  have ih:=φCN hm l (fun id hi=>hf id (mC _ hi)) h.2
  rw[List.cons_append]
  unfold φ1W
  rw[ih,Bool.and_true]
  have hx:=h.1
  unfold φ4O at hx ⊢
  rw[hf x List.mem_cons_self]
  simp only[bA] at hx ⊢
  refine ⟨hx.1,hx.2.1,?_⟩
  have:(l++[m]).isEmpty=false:=by cases l<;>rfl
  rw[this];rfl
theorem φBf {s:φA} {d:φ1} (h:φ5 d=true) (hc:(rotP s d).2.2=0):(rotP s d).1=((s.1.1+1,s.1.2++[s.1.1]),s.2.1,s.2.2.1,0,s.2.2.2.2)∧φ2 (rotP s d).2.1 (φ0 s.1.1)=([],true)∧s.1.2.length<60∧s.1.1<100000:=by
 have hs:=φ36 h (actN s)
 have hg:=φ2U hs (φ0 s.1.1)
 have hd:φ5 (φI (φa (φ0 s.1.1)) (φF (φ0 s.1.1) (φN (actN s) d).1)).1=true:=φ1e (op:=φa _) hg fun k=>φ34 k _
 unfold rotP at hc ⊢
 split at hc
 ·exact absurd hc (show ¬(5:Int)=0 by decide)
 rename_i c1
 split at hc
 ·rename_i c2;exact absurd ((φ1L _).1 hc) c2
 rename_i c2
 simp only at hc
 split at hc
 ·rename_i c3;exact absurd ((φ1L _).1 hc) c3
 rename_i c3
 split at hc
 ·rename_i c4
  exfalso
  revert hc
  unfold φ1c
  simp only
  split
  ·split
   ·simp
   ·rename_i c5;exact c5
  ·exact c4
 rename_i c4
 rw[if_neg c1,if_neg c2]
 simp only
 rw[if_neg c3,if_neg c4]
 simp only[not_or,Nat.not_le,Int.not_le] at c1
 refine ⟨rfl,?_,c1.1,c1.2⟩
 have c3:(φI (φa (φ0 s.1.1)) (φF (φ0 s.1.1) (φN (actN s) d).1)).2=0:=by simpa using c3
 show φ2 (sPut _ _).1 _=_
 rw[φ74 (w:=((φI (φa (φ0 s.1.1)) (φF (φ0 s.1.1) (φN (actN s) d).1)).1,0)) hd _ (φ43 _) (φ2N _)]
 show φ2 (φI (φa (φ0 s.1.1)) (φF (φ0 s.1.1) (φN (actN s) d).1)).1 _=_
 generalize φF (φ0 s.1.1) (φN (actN s) d).1=g at *
 obtain ⟨x,k⟩:=g
 by_cases hk:k=0
 ·subst hk
  rw[φ1v] at c3 ⊢
  exact φCh c3
 ·rw[φ2E hk] at c3;exact absurd c3 hk
theorem φIV {s:φA} {d:φ1} (hk:φo s d=true) (hx:∀e∈s.2.1,e.2.1≠s.1.1):(∀e∈s.2.1,φ2 (rotP s d).2.1 (φ0 e.2.1)=φ2 d (φ0 e.2.1))∧∀id∈s.1.2,φ2 (rotP s d).2.1 (φ0 id)=φ2 d (φ0 id):=by
 obtain ⟨q1,q2,q3,q4,q5⟩:=φ56 hk
 obtain ⟨k1,k2,k3,k4⟩:=(φ12 s.1).1 q2
 rw[φE (by omega) (by omega)] at k1
 have key:∀i:Int,1≤i∧i≤100000→i≠s.1.1→φ2 (rotP s d).2.1 (φ0 i)=φ2 d (φ0 i):=fun i hi hne=>by
  rcases φA7 (s:=s) q1 with ⟨_,e2⟩ | ⟨_,_,e2⟩
  ·exact e2 _
  ·exact e2 _ (fun hh=>hne (φ3p hi (by omega) hh)) (φ43 i) (φ2N i)
 refine ⟨fun e he=>key _ ?_ (hx e he),fun id hi=>key _ ?_ ?_⟩
 ·have:=(φ3x q3).2 e he
  unfold φ2l at this
  simp only[bA,decide_eq_true_eq] at this
  exact this.2.1
 ·have:=φ3g _ _ k1 id hi;omega
 ·have:=φ3g _ _ k1 id hi;omega
theorem φDS {s:φA} {d:φ1} (hk:φo s d=true) (hx:∀e∈s.2.1,e.2.1≠s.1.1) (hc:(rotP s d).2.2=0):φo (rotP s d).1 (rotP s d).2.1=true∧segN (rotP s d).2.1 ((rotP s d).1.1.2.take 60)=segN d (s.1.2.take 60):=by
 obtain ⟨q1,q2,q3,q4,q5⟩:=φ56 hk
 obtain ⟨k1,k2,k3,k4⟩:=(φ12 s.1).1 q2
 obtain ⟨r1,r2,r3,r4,r5,r6⟩:=φ8h q1 q2
 obtain ⟨f1,f2⟩:=φIV hk hx
 obtain ⟨e1,e2,e3,e4⟩:=φBf q1 hc
 have hent:=φFw hk
 constructor
 ·unfold φo
  have h5:=φCN (d:=d) (z:=s.2.2.2.1) e2 s.1.2 f2 q5
  rw[e1] at *
  simp only[bA,decide_eq_true_eq,List.all_eq_true]
  refine ⟨r1,φBR q2 e3 e4,q3,q4,h5,fun e he=>?_⟩
  rw[φI0 (f1 e he)]
  exact hent e he
 ·rw[e1]
  simp only
  have t1:s.1.2.take 60=s.1.2:=List.take_of_length_le (by omega)
  have t2:(s.1.2++[s.1.1]).take 60=s.1.2++[s.1.1]:=List.take_of_length_le (by simp;omega)
  rw[t1,t2]
  unfold segN
  rw[φCS]
  simp only[e2,lN,Nat.add_zero]
  generalize s.1.2=l at f2
  induction l with
  | nil=>rfl
  | cons x l ih=>
   simp only[sumN]
   rw[f2 x List.mem_cons_self,ih fun id hi=>f2 id (mC _ hi)]
theorem φ7j {t:List UInt8} (h:t.length≤200):frame t=fix4 (crcT (varT (t.length:Int)++t))++(varN t.length++t)∧(fix4 (crcT (varT (t.length:Int)++t))).length=4:=by
 unfold frame
 rw[if_neg (by omega),φ4q t.length (by omega)]
 exact ⟨rfl,φ6h (φ4i _)⟩
theorem φ7H {t:List UInt8} (h:t.length≤200) (r:List UInt8):φY (frame t++r)=(t,((frame t).length:Int)):=by
 obtain ⟨e,h4⟩:=φ7j h
 have hb:=φ7x 7 true t.length (t++r) (by omega) (by simp) (by omega)
 generalize hC:fix4 (crcT (varT (t.length:Int)++t))=C at *
 have hl:(frame t).length=4+(varN t.length).length+t.length:=by rw[e];simp only[lA,h4];omega
 have e1:(frame t++r).drop 4=varN t.length++(t++r):=by
  rw[e,aA,←h4,List.drop_left,aA]
 have e2:(frame t++r).take (4+(varN t.length).length+t.length)=frame t:=by rw[←hl,List.take_left]
 have e3:(frame t).drop (4+(varN t.length).length)=t:=by
  rw[e,show C++(varN t.length++t)=(C++varN t.length)++t by rw[aA],show 4+(varN t.length).length=(C++varN t.length).length by rw[lA,h4],List.drop_left]
 unfold φY
 rw[if_neg (by rw[lA];omega),e1,hb]
 simp only
 rw[if_neg (by rw[lA];omega),e2,e3,if_pos rfl,hl]
theorem φDR {s:List UInt8} (h:(φY s).2≠0):∃t r,s=frame t++r∧t.length≤200∧φY s=(t,((frame t).length:Int)):=by
 have key:∃t r,s=frame t++r∧t.length≤200:=by
  unfold φY at h
  split at h
  ·exact absurd rfl h
  split at h
  ·exact absurd rfl h
  rename_i n k hr
  split at h
  ·exact absurd rfl h
  rename_i c
  split at h
  ·rename_i c2
   refine ⟨_,s.drop (4+k+n),by rw[c2,List.take_append_drop],?_⟩
   rw[lD,lT];omega
  ·exact absurd rfl h
 obtain ⟨t,r,e,hl⟩:=key
 exact ⟨t,r,e,hl,by rw[e];exact φ7H hl r⟩
theorem φ91 {t:List UInt8} (h:t.length≤200):5≤(frame t).length:=by
 obtain ⟨e,h4⟩:=φ7j h
 have:=(φ7l 6 t.length (by omega)).1
 rw[e];simp only[lA,h4];omega
theorem φJt {s:List UInt8} {r q:RecT} (h:φ2s s r) (k:φ2s s q):r=q:=by
 have a:=φAI h
 rw[φAI k] at a
 simp only[Option.some.injEq,Prod.mk.injEq,and_true] at a
 exact a.symm
theorem φBD {r:RecT} (h:φc r=true):φ1M (φ7 r)=(r,true):=by
 rcases φ6f (φ7 r) with ⟨_,e⟩ | ⟨q,e,hq⟩
 ·exact absurd ⟨r,h,rfl⟩ e
 ·rw[e,φJt hq ⟨h,rfl⟩]
def fr (r:RecT):List UInt8:=frame (φ7 r)
def txt (rs:List RecT):List UInt8:=(rs.map fr).flatten
theorem φ76 (r:RecT):5≤(fr r).length∧(fr r).length≤71:=by
 have h:=φ39 r
 refine ⟨φ91 (by omega),?_⟩
 obtain ⟨e,h4⟩:=φ7j (t:=φ7 r) (by omega)
 have:=(φ7l 0 (φ7 r).length (by omega)).2
 unfold fr
 rw[e];simp only[lA,h4];omega
theorem φ3R (r:RecT) (rs:List RecT):txt (r::rs)=fr r++txt rs:=rfl
theorem φAz (rs:List RecT) (r:RecT):txt (rs++[r])=txt rs++fr r:=by unfold txt;simp
theorem φIs (rs qs:List RecT):txt (rs++qs)=txt rs++txt qs:=by unfold txt;simp
theorem φEA:∀(rs:List RecT) (p:List UInt8),(∀r∈rs,φc r=true)→(φ2A (p++txt rs) p.length).2=p.length+(txt rs).length
 | [],p,_=>by
  have:p++txt []=p:=by simp[txt]
  rw[this,φ8w];simp[txt]
 | r::rs,p,h=>by
  have hs:=φ39 r
  have hb:=φ7H (t:=φ7 r) (by omega) (txt rs)
  have hd:(p++txt (r::rs)).drop p.length=frame (φ7 r)++txt rs:=by rw[List.drop_left];rfl
  have hl:=φ76 r
  rw[φ5X (n:=(fr r).length) (by rw[hd,hb];rfl) hl.1 (by rw[φ3R];simp only[lA];omega) (by rw[hd,hb];simp only;rw[φBD (h r List.mem_cons_self)])]
  have ih:=φEA rs (p++fr r) (fun x hx=>h x (mC _ hx))
  rw[aA,lA] at ih
  show (φ2A (p++(fr r++txt rs)) (p.length+(fr r).length)).2=_
  rw[ih,φ3R,lA];omega
theorem φGQ {rs:List RecT} (h:∀r∈rs,φc r=true):(scan (txt rs)).2=(txt rs).length:=by
 have:=φEA rs [] h
 simpa [scan] using this
theorem φHQ:∀(k:Nat) (s:List UInt8) (a:Nat),a≤s.length→s.length - a=k→(φ2A s a).2=s.length→∃rs:List RecT,(∀r∈rs,φc r=true)∧s.drop a=txt rs:=by
 intro k
 induction k using Nat.strongRecOn with
 | ind k ih=>
  intro s a ha hk hw
  by_cases c:(φY (s.drop a)).2=0∨(φ1M (φY (s.drop a)).1).2=false
  ·rw[φ54 ha c] at hw
   have hw:a=s.length:=hw
   exact ⟨[],by simp,by rw[hw,List.drop_length];rfl⟩
  ·have c1:(φY (s.drop a)).2≠0:=fun e=>c (.inl e)
   have hr:(φ1M (φY (s.drop a)).1).2=true:=by
    cases e:(φ1M (φY (s.drop a)).1).2 with
    | true=>rfl
    | false=>exact absurd (.inr e) c
   obtain ⟨t,r,e1,e2,e3⟩:=φDR c1
   have h5:=φ91 e2
   have hlen:a+(frame t).length≤s.length:=by
    have:(s.drop a).length=(frame t++r).length:=by rw[←e1]
    rw[lD,lA] at this;omega
   rw[φ5X (n:=(frame t).length) (by rw[e3]) h5 hlen hr] at hw
   obtain ⟨rs,g1,g2⟩:=ih (s.length - (a+(frame t).length)) (by omega) s (a+(frame t).length) hlen rfl hw
   have hd:s.drop (a+(frame t).length)=r:=by rw[←List.drop_drop,e1,List.drop_left]
   rw[e3] at hr
   rcases φ6f t with ⟨z,_⟩ | ⟨q,z,hq⟩
   ·rw[z] at hr;simp at hr
   ·refine ⟨q::rs,?_,?_⟩
    ·intro x hx
     rcases mc.1 hx with rfl | hx
     ·exact hq.1
     ·exact g1 x hx
    ·rw[e1,φ3R,←g2,hd]
     show _=frame (φ7 q)++r
     rw[hq.2]
def φ2V (s:List UInt8):Prop:=(scan s).2=s.length
theorem φ92 (s:List UInt8):φ2V s↔∃rs:List RecT,(∀r∈rs,φc r=true)∧s=txt rs:=by
 constructor
 ·intro h
  obtain ⟨rs,h1,h2⟩:=φHQ s.length s 0 (Nat.zero_le _) rfl h
  exact ⟨rs,h1,by simpa using h2⟩
 ·rintro ⟨rs,h1,rfl⟩
  exact φGQ h1
theorem φCn:φ2V []:=(φ92 []).2 ⟨[],by simp,rfl⟩
theorem φIT {s:List UInt8} {r:RecT} (h:φ2V s) (hr:φc r=true):φ2V (s++fr r):=by
 obtain ⟨rs,h1,rfl⟩:=(φ92 s).1 h
 refine (φ92 _).2 ⟨rs++[r],?_,(φAz rs r).symm⟩
 intro x hx
 rcases mA.1 hx with hx | hx
 ·exact h1 x hx
 ·rw[mZ.1 hx];exact hr
theorem φF3 {s:List UInt8} {a n:Int} (t:List UInt8) (h:(φ1D s a n).2=true):φ1D (s++t) a n=φ1D s a n:=by
 unfold φ1D at h ⊢
 split at h
 ·rename_i c
  rw[if_pos c,if_pos (show 0≤a∧a≤((s++t).length:Int)∧1≤n∧n≤((s++t).length:Int) - a by rw[lA];omega)]
  rw[show (s++t).take (a+n).toNat=s.take (a+n).toNat from List.take_append_of_le_length (by omega)]
 ·simp at h
theorem φFI (s:List UInt8) {r:RecT} (h:φc r=true):φ1D (s++fr r) (s.length:Int) ((fr r).length:Int)=(r,true):=by
 have hl:=φ76 r
 have hs:=φ39 r
 unfold φ1D
 rw[if_pos (by rw[lA];omega)]
 have e1:((s.length:Int)+((fr r).length:Int)).toNat=(s++fr r).length:=by rw[lA];omega
 rw[e1,List.take_length,tN,List.drop_left]
 have hb:=φ7H (t:=φ7 r) (by omega) []
 rw[List.append_nil] at hb
 rw[show φY (fr r)=_ from hb]
 show (if ((fr r).length:Int)=((fr r).length:Int) then φ1M (φ7 r) else _)=_
 rw[if_pos rfl]
 exact φBD h
theorem φDN (x:Int):φL [x]=x:=rfl
theorem φG4 (x y:Int) (l:List Int):φL (x::y::l)=φL (y::l):=by
 unfold φL
 simp only[lC,Nat.add_sub_cancel]
 rfl
theorem φ4H:∀{l:List Int},l≠[]→φL l∈l
 | [],h=>absurd rfl h
 | [x],_=>by simp[φDN]
 | x::y::l,_=>by rw[φG4];exact mC _ (φ4H (by simp))
theorem φLq (l:List Int) (x:Int):φL (l++[x])=x:=by
 unfold φL;simp
theorem φ2d {d:φ1} {z:Int}:∀(ids:List Int),φ1W d z ids=true↔(∀id∈ids,(φ2 d (φ0 id)).2=true∧φ2V (φ2 d (φ0 id)).1)∧(ids≠[]→z=((φ2 d (φ0 (φL ids))).1.length:Int))
 | []=>by simp[φ1W]
 | [x]=>by
  unfold φ1W φ4O φ1W φ2V
  simp only[List.isEmpty_nil,nZ,Bool.false_or,Bool.and_true,bA,decide_eq_true_eq,mZ,forall_eq,φDN]
  constructor
  ·rintro ⟨h1,h2,h3⟩;exact ⟨⟨h1,h2⟩,fun _=>h3⟩
  ·rintro ⟨⟨h1,h2⟩,h3⟩;exact ⟨h1,h2,h3 (by simp)⟩
 | x::y::l=>by
  have ih:=φ2d (d:=d) (z:=z) (y::l)
  unfold φ1W φ4O
  rw[bA,ih]
  simp only[List.isEmpty_cons,nF,Bool.true_or,Bool.and_true,bA,decide_eq_true_eq,φG4]
  constructor
  ·rintro ⟨⟨h1,h2⟩,h3,h4⟩
   refine ⟨fun id hid=>?_,fun _=>h4 (by simp)⟩
   rcases mc.1 hid with rfl | hid
   ·exact ⟨h1,h2⟩
   ·exact h3 id hid
  ·rintro ⟨h3,h4⟩
   exact ⟨h3 x List.mem_cons_self,fun id hid=>h3 id (mC _ hid),fun _=>h4 (by simp)⟩
noncomputable def φ1H (d:φ1) (e:φ9):RecT×Bool:=φ1D (φ2 d (φ0 e.2.1)).1 e.2.2.1 e.2.2.2.1
theorem φ3L {d:φ1} {b:Int} {e:φ9}:φ1x d b e=true↔(φ1H d e).2=true∧((φ1H d e).1.1=1∨(φ1H d e).1.1=4)∧(φ1H d e).1.2.2.1=e.1∧(φ1H d e).1.2.1=e.2.2.2.2∧e.2.2.2.2<b:=by
 unfold φ1x φ1H
 simp only[bA,Bool.or_eq_true,beq_iff_eq,Bool.not_eq_true',decide_eq_false_iff_not,ge_iff_le,Int.not_le]
def φ2i (m:Int) (d d':φ1):Prop:=∀e:φ9,1≤e.2.1→e.2.1<m→(φ1H d e).2=true→φ1H d' e=φ1H d e
theorem φ2i.trans {m m':Int} {d d' d'':φ1} (h:φ2i m d d') (h':φ2i m' d' d'') (hm:m≤m'):φ2i m d d'':=fun e h1 h2 h3=>by
 have k:=h e h1 h2 h3
 rw[h' e h1 (by omega) (by rw[k];exact h3),k]
def φ49 (s:φA):Prop:=∀e∈s.2.1,e.2.1<s.1.1
theorem φ15 {s:φA} {d:φ1}:φo s d=true↔φ5 d=true∧φm s.1=true∧φ1i s.2.1=true∧(1≤s.2.2.1∧s.2.2.1≤1000001)∧φ1W d s.2.2.2.1 s.1.2=true∧∀e∈s.2.1,φ1x d s.2.2.1 e=true:=by
 unfold φo
 simp only[bA,decide_eq_true_eq,List.all_eq_true]
theorem φBJ {l:List φ9} (h:φ1i l=true) {e:φ9} (he:e∈l):1≤e.2.1∧e.2.1≤100000:=by
 have:=(φ3x h).2 e he
 unfold φ2l at this
 simp only[bA,decide_eq_true_eq] at this
 exact this.2.1
theorem φ6e {s:φA} {d d':φ1} {m b':Int} (h:φo s d=true) (hk:φ2i m d d') (hm:∀e∈s.2.1,e.2.1<m) (hb:s.2.2.1≤b'):∀e∈s.2.1,φ1x d' b' e=true:=fun e he=>by
 obtain ⟨q1,q2,q3,q4,q5,q6⟩:=φ15.1 h
 have k:=φ3L.1 (q6 e he)
 have:=hk e (φBJ q3 he).1 (hm e he) k.1
 rw[φ3L,this]
 exact ⟨k.1,k.2.1,k.2.2.1,k.2.2.2.1,by omega⟩
theorem φFp {s:φA} {d:φ1} (hk:φ5 d=true) (hm:s.1.1≤100000):φ2i s.1.1 d (rotP s d).2.1:=fun e h1 h2 h3=>by
 unfold φ1H
 rcases φA7 (s:=s) hk with ⟨_,e2⟩ | ⟨_,_,e2⟩
 ·rw[e2]
 ·rw[e2 _ (fun hh=>by have:=φ3p (by omega) (by omega) hh;omega) (φ43 _) (φ2N _)]
theorem φGn {s:φA} {d:φ1} {r:RecT} (h:φo s d=true) (hr:φc r=true) (hc:(φU (actN s) (fr r) d).2=0) :
  φo (s.1,s.2.1,s.2.2.1,s.2.2.2.1+((fr r).length:Int),s.2.2.2.2) (φU (actN s) (fr r) d).1=true∧φ2i 100001 d (φU (actN s) (fr r) d).1 ∧
  ∀k b,φ1H (φU (actN s) (fr r) d).1 (k,φL s.1.2,s.2.2.2.1,((fr r).length:Int),b)=(r,true):=by
 obtain ⟨q1,q2,q3,q4,q5,q6⟩:=φ15.1 h
 obtain ⟨k1,k2,k3,k4⟩:=(φ12 s.1).1 q2
 rw[φE (by omega) (by omega)] at k1
 obtain ⟨g1,g2⟩:=(φ2d _).1 q5
 have hne:s.1.2≠[]:=φ77 q2
 have g2:=g2 hne
 obtain ⟨a1,a2⟩:=φ8i hc
 have hl:=φBF q2
 have a2:φ2 (φU (actN s) (fr r) d).1 (φ0 (φL s.1.2))=((φ2 d (φ0 (φL s.1.2))).1++fr r,true):=a2
 have hoth:∀id,1≤id∧id≤100000→id≠φL s.1.2→φ2 (φU (actN s) (fr r) d).1 (φ0 id)=φ2 d (φ0 id):=fun id h1 h2=>
  φ7A q1 (fun hh=>h2 (φ3p h1 ⟨hl.1,hl.2.2⟩ hh))
 have hkeep:φ2i 100001 d (φU (actN s) (fr r) d).1:=fun e h1 h2 h3=>by
  unfold φ1H at h3 ⊢
  by_cases c:e.2.1=φL s.1.2
  ·rw[c] at h3 ⊢;rw[a2];exact φF3 _ h3
  ·rw[hoth _ ⟨h1,by omega⟩ c]
 have hents:∀e∈s.2.1,φ1x (φU (actN s) (fr r) d).1 s.2.2.1 e=true:=φ6e h hkeep (fun e he=>by have:=φBJ q3 he;omega) (Int.le_refl _)
 refine ⟨φ15.2 ⟨φ3d q1 _ _,q2,q3,q4,?_,hents⟩,hkeep,fun k b=>?_⟩
 ·refine (φ2d _).2 ⟨fun id hid=>?_,fun _=>?_⟩
  ·have hm:=φ3g _ _ k1 id hid
   by_cases c:id=φL s.1.2
   ·rw[c,a2];exact ⟨rfl,φIT (g1 _ (φ4H hne)).2 hr⟩
   ·rw[hoth id (by omega) c];exact g1 id hid
  ·show s.2.2.2.1+_=_
   rw[a2,g2];simp
 ·unfold φ1H
  show φ1D (φ2 _ (φ0 (φL s.1.2))).1 s.2.2.2.1 _=_
  rw[a2,g2]
  exact φFI _ hr
structure NewOk (d:φ1) (m:Int) (r:RecT) (e:φ9):Prop where
 key:e.1=r.2.2.1
 at_:φ1H d e=(r,true)
 seg:1≤e.2.1∧e.2.1<m∧e.2.1≤100000
 off:0≤e.2.2.1
 len:1≤e.2.2.2.1∧e.2.2.2.1≤210
 bat:e.2.2.2.2=r.2.1
theorem NewOk.keep {d d':φ1} {m m':Int} {r:RecT} {e:φ9} (h:NewOk d m r e) (hk:φ2i m d d') (hm:m≤m'):NewOk d' m' r e:=
 ⟨h.key,by rw[hk e h.seg.1 h.seg.2.1 (by rw[h.at_]),h.at_],⟨h.seg.1,by have:=h.seg.2.1;omega,h.seg.2.2⟩,h.off,h.len,h.bat⟩
structure AddOk (s:φA) (d:φ1) (s':φA) (d':φ1):Prop where
 ok:φo s' d'=true
 dir:s'.2.1=s.2.1
 bat:s'.2.2.1=s.2.2.1
 nxt:s.1.1≤s'.1.1
 kp:φ2i s.1.1 d d'
theorem AddOk.lt {s:φA} {d:φ1} {s':φA} {d':φ1} (h:AddOk s d s' d') (hl:φ49 s):φ49 s':=fun e he=>by
 rw[h.dir] at he
 have:=hl e he
 have:=h.nxt
 omega
theorem AddOk.trans {s:φA} {d:φ1} {s':φA} {d':φ1} {s'':φA} {d'':φ1} (h:AddOk s d s' d') (k:AddOk s' d' s'' d''):AddOk s d s'' d'':=
 ⟨k.ok,by rw[k.dir,h.dir],by rw[k.bat,h.bat],by have:=h.nxt;have:=k.nxt;omega,h.kp.trans k.kp h.nxt⟩
theorem φKK {s:φA} {d:φ1} (t:List UInt8) (h:φo s d=true) (hl:φ49 s) (hc:(addR s d t).2.2=0):AddOk s d (addR s d t).1 (addR s d t).2.1:=by
 obtain ⟨q1,q2,q3,q4,q5,q6⟩:=φ15.1 h
 have k:=(φ12 s.1).1 q2
 unfold addR at hc ⊢
 split
 ·rename_i c
  rw[if_pos c] at hc
  obtain ⟨r1,r2,r3,r4,r5,r6⟩:=φ8h q1 q2
  have hr:=φDS h (fun e he=>by have:=hl e he;omega) hc
  have hn:=φBf q1 hc
  exact ⟨hr.1,r3,r4,by rw[hn.1];show s.1.1≤s.1.1+1;omega,φFp q1 k.2.1.2⟩
 ·exact ⟨h,rfl,rfl,Int.le_refl _,fun e _ _ _=>rfl⟩
theorem φIC {s:φA} {d:φ1} {r:RecT} (h:φo s d=true) (hl:φ49 s) (hr:φc r=true) (hc:(addP s d r).2.2.1=0) :
  AddOk s d (addP s d r).1 (addP s d r).2.1∧NewOk (addP s d r).2.1 (addP s d r).1.1.1 r (addP s d r).2.2.2:=by
 have hR:=φKK (frame (φ7 r)) h hl
 have hf:=φ76 r
 unfold addP at hc ⊢
 generalize addR s d (frame (φ7 r))=R at *
 simp only at hc ⊢
 by_cases c:R.2.2=0
 rotate_left
 ·rw[if_pos c] at hc;exact absurd hc c
 rw[if_neg (by simpa using c)] at hc ⊢
 have hR:=hR c
 have hA:=φGn hR.ok hr
 by_cases c2:(φU (actN R.1) (frame (φ7 r)) R.2.1).2=0
 rotate_left
 ·rw[if_pos c2] at hc;exact absurd ((φ1L _).1 hc) c2
 rw[if_neg (by simpa using c2)]
 obtain ⟨a1,a2,a3⟩:=hA c2
 obtain ⟨q1,q2,q3,q4,q5,q6⟩:=φ15.1 hR.ok
 have k:=(φ12 _).1 q2
 have hll:=φBF q2
 have hg:=φAk hR.ok
 exact ⟨hR.trans ⟨a1,rfl,rfl,Int.le_refl _,fun e h1 h2 h3=>a2 e h1 (by omega) h3⟩,⟨rfl,a3 _ _,⟨hll.1,hll.2.1,hll.2.2⟩,hg.s0,by show 1≤((fr r).length:Int)∧((fr r).length:Int)≤210;omega,rfl⟩⟩
theorem φCb:∀(rs:List RecT) (s:φA) (d:φ1),φo s d=true→φ49 s→(∀r∈rs,φc r=true)→(φP rs s d).2.2.1=0 →
  AddOk s d (φP rs s d).1 (φP rs s d).2.1∧(φP rs s d).2.2.2.length=rs.length∧∀p∈rs.zip (φP rs s d).2.2.2,NewOk (φP rs s d).2.1 (φP rs s d).1.1.1 p.1 p.2
 | [],s,d,h,hl,_,_=>⟨⟨h,rfl,rfl,Int.le_refl _,fun _ _ _ _=>rfl⟩,rfl,fun p hp=>by simp at hp⟩
 | r::rs,s,d,h,hl,hr,hc=>by
  have hA:=φIC h hl (hr r List.mem_cons_self)
  unfold φP at hc ⊢
  by_cases c:(addP s d r).2.2.1=0
  rotate_left
  ·rw[if_pos c] at hc;exact absurd hc c
  rw[if_neg (by simpa using c)] at hc ⊢
  obtain ⟨a1,a2⟩:=hA c
  obtain ⟨b1,b2,b3⟩:=φCb rs _ _ a1.ok (a1.lt hl) (fun x hx=>hr x (mC _ hx)) hc
  refine ⟨a1.trans b1,by simp[b2],fun p hp=>?_⟩
  simp only[List.zip_cons_cons] at hp
  rcases mc.1 hp with rfl | hp
  ·exact a2.keep b1.kp b1.nxt
  ·exact b3 p hp
def mapG {α β:Type} (g:α→β) (l:List (List UInt8×α)):List (List UInt8×β):=l.map fun x=>(x.1,g x.2)
theorem φ9c {α β:Type} (g:α→β) (k:List UInt8):∀l:List (List UInt8×α),mapG g (φZ l k)=φZ (mapG g l) k
 | []=>rfl
 | x::l=>by
  have ih:=φ9c g k l
  unfold mapG φZ at *
  simp only[List.filter_cons,List.map_cons]
  by_cases c:x.1=k
  ·simp only[c,beq_self_eq_true,nZ,Bool.false_eq_true,if_false];exact ih
  ·have:(x.1==k)=false:=by simpa using c
   simp only[this,nF,if_true,List.map_cons];rw[ih]
theorem φD8 {α β:Type} (g:α→β) (p:List UInt8×α):∀l:List (List UInt8×α),mapG g (insB l p)=insB (mapG g l) (p.1,g p.2)
 | []=>rfl
 | x::l=>by
  have ih:=φD8 g p l
  show mapG g (insB (x::l) p)=insB ((x.1,g x.2)::mapG g l) (p.1,g p.2)
  rw[φ5v,φ5v]
  simp only
  split
  ·show (x.1,g x.2)::mapG g (insB l p)=_
   rw[ih]
  ·rfl
theorem φ87 {β:Type} (g:Int×Int×Int×Int→β) (v:PutT→β):∀(l:List (PutT×φ9)) (dir:List φ9),(∀p∈l,p.2.1=p.1.1∧(p.1.2.1=false→g p.2.2=v p.1)) →
  mapG g (dirW dir l)=(l.map (·.1)).foldl (fun a p=>if p.2.1=true then φZ a p.1 else insB (φZ a p.1) (p.1,v p)) (mapG g dir)
 | [],dir,_=>rfl
 | p::l,dir,h=>by
  have ih:=φ87 g v l (φ22 dir p) (fun q hq=>h q (mC _ hq))
  obtain ⟨h1,h2⟩:=h p List.mem_cons_self
  show mapG g (dirW (φ22 dir p) l)=(l.map (·.1)).foldl _ _
  rw[ih]
  congr 1
  show mapG g (φ22 dir p)=if p.1.2.1=true then φZ (mapG g dir) p.1.1 else insB (φZ (mapG g dir) p.1.1) (p.1.1,v p.1)
  unfold φ22
  by_cases c:p.1.2.1=true
  ·rw[if_pos c,if_pos c,φ9c]
  ·rw[if_neg c,if_neg c,φD8,φ9c,h1,h2 (by simpa using c)]
theorem φMd (dir:List φ9) (l:List (PutT×φ9)) (h:∀p∈l,p.2.1=p.1.1):(dirW dir l).length=(dirW dir ((l.map (·.1)).zip ((l.map (·.1)).map φ41))).length:=by
 have e1:=φ87 (fun _=>()) (fun _=>()) l dir (fun p hp=>⟨h p hp,fun _=>rfl⟩)
 have e2:=φ87 (fun _=>()) (fun _=>()) ((l.map (·.1)).zip ((l.map (·.1)).map φ41)) dir (fun p hp=>⟨by
  generalize l.map (·.1)=m at hp
  induction m with
  | nil=>simp at hp
  | cons x m ih=>
   simp only[List.map_cons,List.zip_cons_cons] at hp
   rcases mc.1 hp with rfl | hp
   ·rfl
   ·exact ih hp,fun _=>rfl⟩)
 have e3:((l.map (·.1)).zip ((l.map (·.1)).map φ41)).map (·.1)=l.map (·.1):=List.map_fst_zip (by simp)
 rw[e3] at e2
 have:=congrArg List.length (e1.trans e2.symm)
 simpa [mapG] using this
theorem φ8G:∀(l:List (PutT×φ9)) (dir:List φ9) (x:φ9),x∈dirW dir l→x∈dir∨∃p∈l,x=p.2∧p.1.2.1=false
 | [],dir,x,h=>.inl h
 | p::l,dir,x,h=>by
  rcases φ8G l (φ22 dir p) x h with h | ⟨q,hq,e⟩
  ·unfold φ22 at h
   split at h
   ·exact .inl ((φ6d _ _ _).1 h).1
   ·rename_i c
    rcases (φ3Y _ _ _).1 h with e | h
    ·exact .inr ⟨p,List.mem_cons_self,e,by simpa using c⟩
    ·exact .inl ((φ6d _ _ _).1 h).1
  ·exact .inr ⟨q,mC _ hq,e⟩
theorem φFX:∀(l:List (PutT×φ9)) {dir:List φ9},srt dir→srt (dirW dir l)
 | [],_,h=>h
 | p::l,dir,h=>by
  refine φFX l (dir:=φ22 dir p) ?_
  unfold φ22
  split
  ·exact φD5 h _
  ·exact φ9f _ _ (φD5 h _) (fun x hx=>((φ6d _ _ _).1 hx).2)
theorem φBp:∀(l:List φ9) (p:Option (List UInt8)),srt l→(∀e∈l,φ2l e=true)→(∀q,p=some q→∀x∈l,Op.bytesLess q x.1=true)→φ2R p l=true
 | [],_,_,_,_=>rfl
 | e::l,p,h,ho,hp=>by
  have h2:=List.pairwise_cons.1 h
  have ih:=φBp l (some e.1) h2.2 (fun x hx=>ho x (mC _ hx)) (fun q hq x hx=>by
   have hq:e.1=q:=by simpa using hq
   rw[←hq];exact h2.1 x hx)
  unfold φ2R
  rw[ho e List.mem_cons_self,ih]
  cases p with
  | none=>rfl
  | some q=>simp[hp q rfl e List.mem_cons_self]
theorem φD2 {l:List φ9} (h:srt l) (ho:∀e∈l,φ2l e=true) (hl:l.length≤20):φ1i l=true:=by
 unfold φ1i
 rw[φBp l none h ho (fun q hq=>by simp at hq)]
 simpa using hl
noncomputable def φ1O (d:φ1) (x:Int×Int×Int×Int):List UInt8×Int:=
 ((φ1D (φ2 d (φ0 x.1)).1 x.2.1 x.2.2.1).1.2.2.2.1,(φ1D (φ2 d (φ0 x.1)).1 x.2.1 x.2.2.1).1.2.1)
theorem φ2q {s:φA} {d:φ1} (h:φo s d=true):φT s d=(mapG (φ1O d) s.2.1,0):=by
 rw[φJA h]
 congr 1
 unfold mapG
 refine List.map_congr_left fun e he=>?_
 obtain ⟨q1,q2,q3,q4,q5,q6⟩:=φ15.1 h
 have k:=φ3L.1 (q6 e he)
 unfold φ1H at k
 unfold getP
 rw[φGS (φ5L q3) he]
 simp only[Bool.true_eq_false,if_false]
 rw[if_pos ⟨k.1,k.2.1,k.2.2.1⟩]
 rfl
theorem φFt {s:φA} {d d':φ1} {m:Int} (h:φo s d=true) (hk:φ2i m d d') (hm:∀e∈s.2.1,e.2.1<m):mapG (φ1O d') s.2.1=mapG (φ1O d) s.2.1:=by
 unfold mapG
 refine List.map_congr_left fun e he=>?_
 obtain ⟨q1,q2,q3,q4,q5,q6⟩:=φ15.1 h
 have k:=φ3L.1 (q6 e he)
 have:=hk e (φBJ q3 he).1 (hm e he) k.1
 unfold φ1H at this
 unfold φ1O
 rw[this]
theorem φLD {b:Int} {p:PutT} (hb:1≤b∧b≤1000000) (hp:φ2W p=true):φc (φV b p)=true:=by
 unfold φ2W at hp
 simp only[bA,decide_eq_true_eq,Bool.or_eq_true,Bool.not_eq_true',beq_iff_eq] at hp
 obtain ⟨h1,h2,h3⟩:=hp
 have hb0:(b==0)=false:=by
  have:¬b=0:=by omega
  simpa using this
 unfold φV
 split
 ·rename_i c
  unfold φc
  simp[h1,hb0];omega
 ·unfold φc
  simp[h1,h2,hb0];omega
theorem φJH {b c z:Int} (hb:1≤b∧b≤1000000) (hc:0≤c∧c≤8) (hz:0≤z∧z≤4294967295):φc (3,b,[],[],c,z)=true:=by
 have hb0:(b==0)=false:=by
  have:¬b=0:=by omega
  simpa using this
 unfold φc
 simp[hb0];omega
theorem φBV {b:Int} {l:List PutT} (hb:1≤b∧b≤1000000) (hl:φ1m l=true):∀r∈φ2G b l,φc r=true:=fun r hr=>by
 unfold φ1m at hl
 simp only[bA,decide_eq_true_eq,List.all_eq_true] at hl
 unfold φ2G at hr
 rcases mA.1 hr with hr | hr
 ·obtain ⟨p,hp,rfl⟩:=mM.1 hr
  exact φLD hb (hl.2 p hp)
 ·rw[mZ.1 hr]
  exact φJH hb (by have:=hl.1;omega) (φ4i _)
theorem φGm {b:Int}:∀(l:List PutT) (es:List φ9) (x:List RecT) (P:RecT→φ9→Prop),(∀p∈(l.map (φV b)++x).zip es,P p.1 p.2)→∀p∈l.zip es,P (φV b p.1) p.2
 | [],es,x,P,_=>fun p hp=>by simp at hp
 | a::l,[],x,P,_=>fun p hp=>by simp at hp
 | a::l,e::es,x,P,h=>fun p hp=>by
  simp only[List.map_cons,List.cons_append,List.zip_cons_cons] at h
  rcases mc.1 hp with rfl | hp
  ·exact h _ List.mem_cons_self
  ·exact φGm l es x P (fun q hq=>h q (mC _ hq)) p hp
theorem φD6 {s:φA} {d:φ1} {l:List PutT} (h:φo s d=true) (hl:φ49 s) (hp:φ1m l=true) (hb:s.2.2.1≤1000000) (hk:φ35 s.2.1 l≤20) (hc:(φ1n s d l).2.2=0) :
  φo (φ1n s d l).1 (φ1n s d l).2.1=true∧φ49 (φ1n s d l).1∧(φT (φ1n s d l).1 (φ1n s d l).2.1).1=φ72 (φT s d).1 l s.2.2.1∧(φ1n s d l).1.2.2.1=s.2.2.1+1∧(φ1n s d l).1.2.1.length=φ35 s.2.1 l:=by
 obtain ⟨q1,q2,q3,q4,q5,q6⟩:=φ15.1 h
 have hents:∀e∈s.2.1,φ1x d (s.2.2.1+1) e=true:=φ6e (m:=s.1.1) h (fun e _ _ _=>rfl) hl (by omega)
 have h0:φo (s.1,s.2.1,s.2.2.1+1,s.2.2.2) d=true:=φ15.2 ⟨q1,q2,q3,by show 1≤s.2.2.1+1∧s.2.2.1+1≤1000001;omega,q5,hents⟩
 have hl0:φ49 (s.1,s.2.1,s.2.2.1+1,s.2.2.2):=hl
 have hG:=φCb (φ2G s.2.2.1 l) _ d h0 hl0 (φBV ⟨q4.1,hb⟩ hp)
 have hnum:=φAK s.2.2.1 l
 unfold φ1n at hc ⊢
 generalize φP (φ2G s.2.2.1 l) (s.1,s.2.1,s.2.2.1+1,s.2.2.2) d=g at *
 obtain ⟨S,D,gc,es⟩:=g
 simp only at hc hG ⊢
 by_cases c:gc=0
 rotate_left
 ·rw[if_pos c] at hc;exact absurd hc c
 rw[if_neg (by simpa using c)] at hc ⊢
 obtain ⟨g1,g2,g3⟩:=hG c
 have hdir:S.2.1=s.2.1:=g1.dir
 have hbat:S.2.2.1=s.2.2.1+1:=g1.bat
 obtain ⟨p1,p2,p3,p4,p5,p6⟩:=φ15.1 g1.ok
 by_cases c2:(φN (actN S) D).2=0
 rotate_left
 ·rw[if_pos c2] at hc;exact absurd ((φ1L _).1 hc) c2
 rw[if_neg (by simpa using c2)]
 simp only
 have ft:∀n,φ2 (φN (actN S) D).1 n=φ2 D n:=fun n=>φ2e p1 _ n
 have hea:∀e,φ1H (φN (actN S) D).1 e=φ1H D e:=fun e=>by unfold φ1H;rw[ft]
 have hva:∀x,φ1O (φN (actN S) D).1 x=φ1O D x:=fun x=>by unfold φ1O;rw[ft]
 have hes:∀p∈l.zip es,NewOk D S.1.1 (φV s.2.2.1 p.1) p.2:=φGm l es _ (fun r e=>NewOk D S.1.1 r e) (by
  intro p hp;exact g3 p hp)
 have hlen:l.length≤es.length:=by omega
 have hz:(l.zip es).map (·.1)=l:=List.map_fst_zip hlen
 have hkey:∀p∈l.zip es,p.2.1=p.1.1:=fun p hp=>by
  rw[(hes p hp).key];unfold φV;split<;>rfl
 have hkl:(dirW s.2.1 (l.zip es)).length=φ35 s.2.1 l:=by
  rw[φMd s.2.1 _ hkey,hz];rfl
 rw[hdir] at *
 have hput:∀p∈l.zip es,φ2W p.1=true:=fun p hpm=>by
  unfold φ1m at hp
  simp only[bA,decide_eq_true_eq,List.all_eq_true] at hp
  exact hp.2 _ (List.of_mem_zip hpm).1
 have hnew:∀p∈l.zip es,p.1.2.1=false→φV s.2.2.1 p.1=(1,s.2.2.1,p.1.1,p.1.2.2,0,0):=fun p hpm hd=>by
  unfold φV;rw[if_neg (by rw[hd];simp)]
 have hold:=φ6e (b':=s.2.2.1+1) h g1.kp hl (by omega)
 have hlt:∀e∈dirW s.2.1 (l.zip es),e.2.1<S.1.1:=fun e he=>by
  rcases φ8G _ _ _ he with he | ⟨p,hpm,rfl,_⟩
  ·have:=hl e he;have:=g1.nxt;have:s.1.1≤S.1.1:=this;omega
  ·exact (hes p hpm).seg.2.1
 have hdirok:φ1i (dirW s.2.1 (l.zip es))=true:=by
  refine φD2 (φFX _ (φ5L q3)) (fun e he=>?_) (by rw[hkl];exact hk)
  rcases φ8G _ _ _ he with he | ⟨p,hpm,rfl,hd⟩
  ·exact (φ3x q3).2 e he
  ·have n:=hes p hpm
   have ho:=hput p hpm
   unfold φ2W at ho
   simp only[bA] at ho
   unfold φ2l
   rw[hkey p hpm,ho.1,n.bat,hnew p hpm hd]
   have h1:=n.seg
   have h2:=n.off
   have h3:=n.len
   simp only[tA,bA,decide_eq_true_eq]
   exact ⟨⟨h1.1,h1.2.2⟩,h2,h3,q4.1,hb⟩
 have hent:∀e∈dirW s.2.1 (l.zip es),φ1x (φN (actN S) D).1 S.2.2.1 e=true:=fun e he=>by
  rw[φ3L,hea,hbat,←φ3L]
  rcases φ8G _ _ _ he with he | ⟨p,hpm,rfl,hd⟩
  ·exact hold e he
  ·have n:=hes p hpm
   rw[φ3L,n.at_,n.bat,hkey p hpm,hnew p hpm hd]
   refine ⟨rfl,.inl rfl,rfl,rfl,?_⟩
   show s.2.2.1<s.2.2.1+1
   omega
 have hfin:φo (S.1,dirW s.2.1 (l.zip es),S.2.2) (φN (actN S) D).1=true:=φ15.2 ⟨φ36 p1 _,p2,hdirok,p4,by
  refine (φ2d _).2 ?_
  simp only[ft]
  exact (φ2d _).1 p5,hent⟩
 refine ⟨hfin,hlt,?_,hbat,hkl⟩
 rw[φ2q hfin,φ2q h]
 show mapG (φ1O (φN (actN S) D).1) (dirW s.2.1 (l.zip es))=φ72 (mapG (φ1O d) s.2.1) l s.2.2.1
 rw[show mapG (φ1O (φN (actN S) D).1) (dirW s.2.1 (l.zip es))=mapG (φ1O D) (dirW s.2.1 (l.zip es)) by unfold mapG;simp only[hva]]
 rw[φ87 (φ1O D) (fun p=>(p.2.2,s.2.2.1)) _ _ (fun p hpm=>⟨hkey p hpm,fun hd=>by
  have n:=(hes p hpm).at_
  unfold φ1H at n
  unfold φ1O
  rw[n,hnew p hpm hd]⟩),hz,φFt h g1.kp hl]
 rfl
theorem φCu:∀(k n:Nat),n<k→(Lib.decDigits n).all φ4E=true
 | 0,n,h=>by omega
 | k+1,n,h=>by
  have hb:∀m,m<10→φ4E (UInt8.ofNat (48+m))=true:=fun m hm=>by
   unfold φ4E
   have:(UInt8.ofNat (48+m)).toNat=48+m:=by simp only[UInt8.toNat_ofNat'];omega
   rw[this]
   simp;omega
  by_cases c:n<10
  ·rw[Lib.decDigits_one c,List.all_cons,hb n c];rfl
  ·have:=φ4X (n:=n) (by omega)
   unfold digs at this
   rw[if_neg (by omega),if_neg (by omega)] at this
   rw[this,List.all_append,φCu k (n / 10) (by omega),List.all_cons,hb (n % 10) (by omega)];rfl
theorem φ94 {d:φ1} {n:List UInt8} (h:(φ2 d n).2=true):∃i:Nat,∃hi:i<d.1.length,d.1.findIdx? (fun f=>f.1==n)=some i∧d.1[i].1=n∧φ1b d.1 n=(i:Int):=by
 rcases φz d.1 n with ⟨e,_⟩ | ⟨i,hi,e,hn⟩
 ·unfold φ2 at h
  split at h
  ·simp at h
  ·rw[φ19 e] at h;simp at h
 ·exact ⟨i,hi,φ16 e,hn,e⟩
theorem φH6 {d:φ1} {n:List UInt8} (hk:φ5 d=true) (h:(φ2 d n).2=false):φ1b d.1 n=-1:=by
 rcases φz d.1 n with ⟨e,_⟩ | ⟨i,hi,e,hn⟩
 ·exact e
 ·unfold φ2 at h
  rw[if_neg (by rw[hk];simp),φ16 e] at h;simp at h
noncomputable def φ2K (s:φA) (d:φ1) (l:List PutT):φA×φ1×Int:=
 if φo s d=false∨φ1m l=false then (s,d,4) else if l.length=0 then (s,d,0) else
 if 20<φ35 s.2.1 l∨s.2.2.1 > 1000000 then (s,d,5) else φ1n s d l
structure SmallS (s:φA) (d:φ1):Prop where
 sm:dl 200000 d
 ids:s.1.2.length≤1000
 dir:s.2.1.length≤1000
theorem SmallS.lim {s:φA} {d:φ1} (h:SmallS s d):dlim d∧φO d.1<1000000000:=⟨φ1J h.sm (by omega),by have:=h.sm.2.1;omega⟩
theorem φJ6 {s:φA} {d:φ1} (h:SmallS s d) (l:List PutT) (hl:l.length≤1000):ψ2.f s d l=some (φ2K s d l):=by
 obtain ⟨hd,hu⟩:=h.lim
 have h1:=h.ids
 have h2:=h.dir
 have h3:=h.sm.1
 unfold ψ2.f φ2K
 simp only[φDM s d hd hu (show s.1.2.length<1000000000 by omega) (show s.2.1.length<1000000000 by omega),bS,φ9m s (show s.1.2.length<1000000000 by omega) (show s.2.1.length<1000000000 by omega),φ7P d (show d.1.length<1000000000000 by omega),φHy l (show l.length<2 ^ 62 by omega),φHY s.2.1 l (show s.2.1.length<100000000 by omega) (show l.length<100000000 by omega)]
 cases hk:φo s d with
 | false=>simp
 | true=>
  obtain ⟨q1,q2,q3,q4,q5⟩:=φ56 hk
  have hg:=φAk hk
  cases hp:φ1m l with
  | false=>simp
  | true=>
   have hl8:l.length≤8:=by
    unfold φ1m at hp
    simp only[bA,decide_eq_true_eq] at hp
    exact hp.1
   simp only[nZ,cF,Bool.true_eq_false,or_self,if_false]
   by_cases e1:l.length=0
   ·have d1:((l.length:Int)==0)=true:=by rw[e1];rfl
    simp only[d1,cT]
    rw[if_pos e1]
   have d1:((l.length:Int)==0)=false:=by
    have:¬(l.length:Int)=0:=by omega
    simpa using this
   simp only[d1,cF]
   rw[if_neg e1]
   by_cases e2:(φ35 s.2.1 l:Int) > 20
   ·simp only[e2,dT,cT]
    rw[if_pos (by omega)]
   simp only[e2,dF,cF]
   by_cases e3:s.2.2.1 > 1000000
   ·simp only[e3,dT,cT,or_true,if_true]
   have e4:¬(20<φ35 s.2.1 l∨s.2.2.1 > 1000000):=by omega
   rw[if_neg e4]
   simp only[e3,dF,cF,φJS hg (by omega) l hl8 (by omega) (by omega),bS]
theorem φGy {s:φA} {d:φ1} (h:φo s d=true):SmallS s d:=by
 obtain ⟨q1,q2,q3,q4,q5⟩:=φ56 h
 have:=((φ12 s.1).1 q2).2.2.2
 exact ⟨φ3T (φu q1) (by omega),by omega,by have:=(φ3x q3).1;omega⟩
theorem φKA {α β:Type} (g:α→β) {l:List (List UInt8×α)} (h:srt l):srt (mapG g l):=by
 unfold srt mapG
 rw[List.pairwise_map]
 exact h
theorem φJm (u:Nat) (h:1≤u):Lib.itoa (-(u:Int))=[45]++Lib.decDigits u:=by
 unfold Lib.itoa
 rw[if_pos (by omega)]
 simp
theorem φHm (n:Nat) (h1:1≤n) (hn:n<1000000000000000000):ψ2E.f (-(n:Int))=some ([45]++Lib.decDigits n):=by
 unfold ψ2E.f
 have c1:((-(n:Int))==0)=false:=by
  have:¬(-(n:Int))=0:=by omega
  simpa using this
 have c2:decide ((-(n:Int))<0)=true:=by simp;omega
 have key:=φ5g (step:=ψ2E.l0) (a:=((-(n:Int)),([]:List UInt8),true)) (fun a=>(digs (-a.1).toNat++a.2.1,true)) (fun a=>a.1≤0∧a.2.2=true∧a.2.1.length+(-a.1).toNat≤n) (fun a=>(-a.1).toNat)
  (fun rec a ha ih=>by
   obtain ⟨x,s,f⟩:=a
   obtain ⟨h0,hf,hl⟩:=ha
   simp only at hf hl h0 ih ⊢
   subst hf
   obtain ⟨m,rfl⟩:∃m:Nat,x=-(m:Int):=⟨(-x).toNat,by omega⟩
   simp only[Int.neg_neg,tN] at hl ih ⊢
   by_cases d:m=0
   ·subst d
    simp[ψ2E.l0,digs]
   ·have d1:((-(m:Int)) != 0)=true:=by
     have:¬(-(m:Int))=0:=by omega
     simpa using this
    have e1:Int.tmod (-(m:Int)) 10=-((m % 10:Nat):Int):=by rw[Int.neg_tmod];rfl
    have e2:w64 (Int.tdiv (-(m:Int)) 10)=-((m / 10:Nat):Int):=by
     rw[Int.neg_tdiv,show Int.tdiv (m:Int) 10=((m / 10:Nat):Int) from rfl];exact φE (by omega) (by omega)
    have e5:w64 (0 - -((m % 10:Nat):Int))=((m % 10:Nat):Int):=by rw[φE (by omega) (by omega)];omega
    have e4:φ1G [IntKind.wrap .u8 (w64 (48+((m % 10:Nat):Int)))]=[UInt8.ofNat (48+m % 10)]:=by
     have e:w64 (48+((m % 10:Nat):Int))=((48+m % 10:Nat):Int):=by rw[φE (by omega) (by omega)];omega
     rw[e]
     unfold φ1G
     simp only[List.map_cons,List.map_nil,φ5z]
    have hb:([UInt8.ofNat (48+m % 10)]:List UInt8).length+s.length≤9223372036854775807:=by show 1+_≤_;omega
    have ih:=ih (-((m / 10:Nat):Int),[UInt8.ofNat (48+m % 10)]++s,true) ⟨by simp only;omega,rfl,by simp only[lA,List.length_singleton,Int.neg_neg,tN];omega⟩ (by simp only[Int.neg_neg,tN];omega)
    simp only[Int.neg_neg,tN] at ih
    have e6:(bif decide (-((m % 10:Nat):Int)<0) then some (-(m:Int),s,true,w64 (0 - -((m % 10:Nat):Int))) else some (-(m:Int),s,true,-((m % 10:Nat):Int)))=some (-(m:Int),s,true,((m % 10:Nat):Int)):=by
     rw[e5]
     by_cases z:-((m % 10:Nat):Int)<0
     ·simp only[z,dT,cT]
     ·have:((m % 10:Nat):Int)=0:=by omega
      simp only[decide_eq_false z,cF]
      rw[this];rfl
    simp only[ψ2E.l0,d1,cT,e1,e2,e6,bS,e4,hb,dT,ih]
    rw[φ4X d,aA])
  ⟨by simp only;omega,rfl,by simp⟩ (by simp only[Int.neg_neg,tN];omega)
 have hd:decide (([45]:List UInt8).length+(digs n++[]).length≤9223372036854775807)=true:=by
  have:=φ4v 17 n (by omega)
  refine φ1B ?_
  unfold digs
  rw[if_neg (by omega),List.append_nil]
  show 1+_≤_;omega
 simp only[Int.neg_neg,tN] at key
 simp only[c1,c2,cF,key,bS,cT,hd]
 unfold digs
 rw[if_neg (by omega),List.append_nil]
theorem φHL (n:Int) (h:-1000000000000000000<n∧n<1000000000000000000):ψ2E.f n=some (Lib.itoa n):=by
 rcases Int.lt_or_le n 0 with c | c
 ·obtain ⟨m,rfl⟩:∃m:Nat,n=-(m:Int):=⟨(-n).toNat,by omega⟩
  rw[φHm m (by omega) (by omega),φJm m (by omega)]
 ·obtain ⟨m,rfl⟩:∃m:Nat,n=(m:Int):=⟨n.toNat,by omega⟩
  rw[φAn m (by omega),φ9e]
def φ5h (b:UInt8):Bool:=decide (48≤b.toNat) && decide (b.toNat≤57)
def φ2B (a:Nat×Nat) (b:UInt8):Nat×Nat:=if φ5h b=true then (a.1 * 10+(b.toNat - 48),a.2+1) else a
def φ1j (s:List UInt8):Nat×Nat:=s.foldl φ2B (0,0)
theorem φGi (l:List UInt8):∀(a:Nat×Nat) (n:Nat),a.1<10 ^ n→a.2≤n→(l.foldl φ2B a).1<10 ^ (n+l.length)∧(l.foldl φ2B a).2≤n+l.length:=by
 induction l with
 | nil=>intro a n h1 h2;exact ⟨h1,h2⟩
 | cons b l ih=>
  intro a n h1 h2
  have b1:(φ2B a b).1<10 ^ (n+1):=by
   unfold φ2B φ5h
   rw[Nat.pow_succ]
   split
   ·rename_i c
    simp only[bA,decide_eq_true_eq] at c
    show a.1 * 10+(b.toNat - 48)<_
    omega
   ·omega
  have b2:(φ2B a b).2≤n+1:=by
   unfold φ2B
   split
   ·show a.2+1≤n+1;omega
   ·omega
  have:=ih (φ2B a b) (n+1) b1 b2
  rw[List.foldl_cons,lC,show n+(l.length+1)=n+1+l.length by omega]
  exact this
def sgn:List UInt8→Bool
 | []=>false
 | b::_=>b==45
def φ3t (s:List UInt8):Int×Bool:=
 let p:=φ1j (s.take 11)
 let n:Int:=if sgn s=true then -(p.1:Int) else (p.1:Int)
 if 9<p.2∨10<s.length∨Lib.itoa n≠s then (0,false) else (n,true)
theorem φKG (s:List UInt8) (hl:s.length<1000000000000):lp ψ2k.l0 (s,0,0,0)=some (s,((φ1j (s.take 11)).1:Int),((φ1j (s.take 11)).2:Int)):=by
 have hN:(s.take 11).length=min 11 s.length:=lT
 have key:=φe (step:=ψ2k.l0) (fun n (p:Nat×Nat)=>(s,(p.1:Int),(p.2:Int),(n:Int))) (s.take 11).length (fun n p=>(s,((((s.take 11).drop n).foldl φ2B p).1:Int),((((s.take 11).drop n).foldl φ2B p).2:Int))) (fun n p=>p.1<10 ^ n∧p.2≤n)
  (fun rec n p hn hp ih=>by
   rcases Nat.lt_or_ge n (s.take 11).length with h | h
   ·have hs:n<s.length:=by omega
    have h11:n<11:=by omega
    have hw:=φJ (show n+1<9223372036854775808 by omega)
    have c1:(n:Int)<(s.length:Int):=by omega
    have c2:(n:Int)<11:=by omega
    have hg:(s.take 11)[n]=s[n]:=List.getElem_take
    have hpow:10 ^ n≤10 ^ 10:=Nat.pow_le_pow_right (by omega) (by omega)
    have hp1:p.1<10000000000:=Nat.lt_of_lt_of_le hp.1 hpow
    rw[dG h,hg,List.foldl_cons]
    have hstep:=φGi [s[n]] p n hp.1 hp.2
    have ih:=ih (φ2B p s[n]) h hstep
    simp only[ψ2k.l0,c1,c2,dT,cT,φD,hs,φ4S s n hs]
    have hlt:=UInt8.toNat_lt s[n]
    by_cases d1:48≤s[n].toNat
    ·have d1':((s[n].toNat:Nat):Int)≥48:=by omega
     by_cases d2:s[n].toNat≤57
     ·have d2':((s[n].toNat:Nat):Int)≤57:=by omega
      have e1:w64 (IntKind.wrap .u8 ((s[n].toNat:Int) - 48))=((s[n].toNat - 48:Nat):Int):=by
       have:(s[n].toNat:Int) - 48=((s[n].toNat - 48:Nat):Int):=by omega
       rw[this,show IntKind.wrap .u8 ((s[n].toNat - 48:Nat):Int)=((s[n].toNat - 48:Nat):Int) by unfold IntKind.wrap;show ((((s[n].toNat - 48:Nat):Int)) % 256:Int)=_;omega]
       exact φ3M (by omega)
      have e2:w64 ((p.1:Int) * 10)=((p.1 * 10:Nat):Int):=by rw[φE (by omega) (by omega)];omega
      have e3:w64 (((p.1 * 10:Nat):Int)+((s[n].toNat - 48:Nat):Int))=((p.1 * 10+(s[n].toNat - 48):Nat):Int):=by rw[φE (by omega) (by omega)];omega
      have e4:w64 ((p.2:Int)+1)=((p.2+1:Nat):Int):=φJ (by have:=hp.2;omega)
      have e5:φ2B p s[n]=(p.1 * 10+(s[n].toNat - 48),p.2+1):=by
       unfold φ2B φ5h
       rw[if_pos (by simp[d1,d2])]
      rw[e5] at ih ⊢
      simp only[d1',d2',dT,cT,e1,e2,e3,e4,bS,hw,ih]
     ·have d2':¬((s[n].toNat:Nat):Int)≤57:=by omega
      have e5:φ2B p s[n]=p:=by unfold φ2B φ5h;rw[if_neg (by simp[d2])]
      rw[e5] at ih ⊢
      simp only[d1',d2',dT,dF,cT,cF,bS,hw,ih]
    ·have d1':¬((s[n].toNat:Nat):Int)≥48:=by omega
     have e5:φ2B p s[n]=p:=by unfold φ2B φ5h;rw[if_neg (by simp[d1])]
     rw[e5] at ih ⊢
     simp only[d1',dF,cF,bS,hw,ih]
   ·have hn2:n=(s.take 11).length:=by omega
    have hnil:(s.take 11).drop n=[]:=List.drop_eq_nil_of_le (by omega)
    rw[hnil,List.foldl_nil]
    by_cases c:n<s.length
    ·have c1:(n:Int)<(s.length:Int):=by omega
     have c2:¬(n:Int)<11:=by omega
     simp only[ψ2k.l0,c1,c2,dT,dF,cT,cF]
    ·have c1:¬(n:Int)<(s.length:Int):=by omega
     simp only[ψ2k.l0,c1,dF,cF])
  (by omega) 0 (0,0) (Nat.zero_le _) ⟨by decide,Nat.le_refl _⟩
 exact key
theorem φMN (s:List UInt8) (hl:s.length<1000000000000):ψ2k.f s=some (φ3t s):=by
 have hb:=φGi (s.take 11) (0,0) 0 (by decide) (Nat.le_refl _)
 have h11:(s.take 11).length≤11:=by rw[lT];omega
 have hpow:10 ^ (0+(s.take 11).length)≤10 ^ 11:=Nat.pow_le_pow_right (by omega) (by omega)
 have hv:(φ1j (s.take 11)).1<100000000000:=Nat.lt_of_lt_of_le hb.1 hpow
 unfold ψ2k.f φ3t
 rw[φKG s hl,bS]
 have e1:(bif decide ((s.length:Int) > 0) then
   bif inB 0 s.length then
   bif (bAt s 0)==45 then some (s,w64 (0 - ((φ1j (s.take 11)).1:Int)),((φ1j (s.take 11)).2:Int)) else some (s,((φ1j (s.take 11)).1:Int),((φ1j (s.take 11)).2:Int))
   else none
   else some (s,((φ1j (s.take 11)).1:Int),((φ1j (s.take 11)).2:Int)):Option (List UInt8×Int×Int)) =
   some (s,(if sgn s=true then -((φ1j (s.take 11)).1:Int) else ((φ1j (s.take 11)).1:Int)),((φ1j (s.take 11)).2:Int)):=by
  cases s with
  | nil=>rfl
  | cons b r=>
   have c1:((b::r).length:Int) > 0:=by simp
   have c2:inB 0 (b::r).length=true:=by unfold inB;simp
   have c3:bAt (b::r) 0=(b.toNat:Int):=rfl
   simp only[c1,dT,cT,c2,c3,sgn]
   by_cases z:b=45
   ·subst z
    have hw:w64 (0 - ((φ1j (((45:UInt8)::r).take 11)).1:Int))=-((φ1j (((45:UInt8)::r).take 11)).1:Int):=by rw[φE (by omega) (by omega)];omega
    rw[hw];rfl
   ·have z1:((b.toNat:Int)==45)=false:=by
     have:¬(b.toNat:Int)=45:=fun h=>z (by
      have:b.toNat=45:=by omega
      exact UInt8.toNat_inj.1 (by rw[this];rfl))
     simpa using this
    have z2:(b==45)=false:=by simpa using z
    simp only[z1,cF,z2,Bool.false_eq_true,if_false]
 dsimp only
 rw[e1,bS]
 dsimp only
 have hvb:-1000000000000000000<(if sgn s=true then -((φ1j (s.take 11)).1:Int) else ((φ1j (s.take 11)).1:Int))∧(if sgn s=true then -((φ1j (s.take 11)).1:Int) else ((φ1j (s.take 11)).1:Int))<1000000000000000000:=by split<;>omega
 generalize (if sgn s=true then -((φ1j (s.take 11)).1:Int) else ((φ1j (s.take 11)).1:Int))=v at hvb ⊢
 generalize (φ1j (s.take 11)).2=q
 have hd:=φHL v hvb
 by_cases c1:9<q
 ·have h1:decide ((q:Int) > 9)=true:=by simp;omega
  rw[h1,cT,if_pos (.inl c1)]
 have h1:decide ((q:Int) > 9)=false:=by simp;omega
 rw[h1,cF]
 by_cases c2:10<s.length
 ·have h2:decide ((s.length:Int) > 10)=true:=by simp;omega
  rw[h2,cT,if_pos (.inr (.inl c2))]
 have h2:decide ((s.length:Int) > 10)=false:=by simp;omega
 rw[h2,cF,hd,bS]
 by_cases c3:Lib.itoa v=s
 ·rw[if_neg (by simp only[not_or,ne_eq,Decidable.not_not];exact ⟨c1,c2,c3⟩)]
  have:(Lib.itoa v==s)=true:=by rw[c3];simp
  simp only[this,nZ,cF]
 ·rw[if_pos (.inr (.inr c3))]
  have:(Lib.itoa v==s)=false:=by simpa using c3
  simp only[this,nF,cT]
theorem φ9z:∀(k n:Nat),n<k→∀(a:Nat×Nat),(Lib.decDigits n).foldl φ2B a=(a.1 * 10 ^ (Lib.decDigits n).length+n,a.2+(Lib.decDigits n).length)
 | 0,n,h,a=>by omega
 | k+1,n,h,a=>by
  have hd:∀m,m<10→∀a:Nat×Nat,φ2B a (UInt8.ofNat (48+m))=(a.1 * 10+m,a.2+1):=fun m hm a=>by
   have e:(UInt8.ofNat (48+m)).toNat=48+m:=by simp only[UInt8.toNat_ofNat'];omega
   unfold φ2B φ5h
   rw[e,if_pos (by simp;omega)]
   simp
  by_cases c:n<10
  ·rw[Lib.decDigits_one c]
   simp only[List.foldl_cons,List.foldl_nil,lC,lN]
   rw[hd n c]
  ·have:=φ4X (n:=n) (by omega)
   unfold digs at this
   rw[if_neg (by omega),if_neg (by omega)] at this
   rw[this,List.foldl_append,φ9z k (n / 10) (by omega),List.foldl_cons,List.foldl_nil,hd _ (by omega)]
   simp only[lA,lC,lN,Nat.zero_add,Prod.mk.injEq]
   constructor
   ·rw[Nat.pow_succ,←Nat.mul_assoc,Nat.add_mul];omega
   ·omega
theorem φKs {n:Nat} (h:n≤100000):φ3t (Lib.decDigits n)=((n:Int),true):=by
 have hl:=φ4v 5 n (by show _<1000000;omega)
 have ht:(Lib.decDigits n).take 11=Lib.decDigits n:=List.take_of_length_le (by omega)
 have hf:φ1j (Lib.decDigits n)=(n,(Lib.decDigits n).length):=by
  unfold φ1j
  rw[φ9z (n+1) n (by omega)]
  simp
 have hh:sgn (Lib.decDigits n)=false:=by
  have ha:=φCu (n+1) n (by omega)
  rw[List.all_eq_true] at ha
  cases e:Lib.decDigits n with
  | nil=>rfl
  | cons b r=>
   have:=ha b (by rw[e];exact List.mem_cons_self)
   show (b==45)=false
   cases h:b==45 with
   | false=>rfl
   | true=>
    have:b=45:=by simpa using h
    subst this
    revert this;decide
 unfold φ3t
 simp only[ht,hf,hh,Bool.false_eq_true,if_false]
 rw[if_neg]
 simp only[not_or,ne_eq,Decidable.not_not]
 exact ⟨by omega,by omega,φ9e n⟩
theorem φGT {i j:Int} (hi:1≤i∧i≤100000) (hj:1≤j∧j≤100000) (h:φM i=φM j):i=j:=by
 unfold φM φ28 at h
 rw[if_pos hi,if_pos hj] at h
 have:=φAD (i.toNat+1) i.toNat j.toNat (by omega) (List.append_cancel_left h)
 omega
def φ3E (name:List UInt8) (id:Int):Prop:=(1≤id∧id≤100000)∧(name=φ0 id∨name=φM id)
theorem φDU {name:List UInt8} {i j:Int} (hi:φ3E name i) (hj:φ3E name j):i=j:=by
 obtain ⟨h1,h2⟩:=hi
 obtain ⟨k1,k2⟩:=hj
 rcases h2 with h2 | h2<;>rcases k2 with k2 | k2
 ·exact φ3p h1 k1 (h2.symm.trans k2)
 ·exact absurd (h2.symm.trans k2) (φ3o i j h1)
 ·exact absurd (k2.symm.trans h2) (φ3o j i k1)
 ·exact φGT h1 k1 (h2.symm.trans k2)
noncomputable def idOf (name:List UInt8):Int×Bool:=@dite (Int×Bool) (∃id,φ3E name id) (Classical.propDecidable _) (fun h=>(h.choose,true)) (fun _=>(0,false))
theorem φAo {name:List UInt8} {id:Int} (h:φ3E name id):idOf name=(id,true):=by
 have hx:∃id,φ3E name id:=⟨id,h⟩
 unfold idOf
 rw[dif_pos hx,φDU hx.choose_spec h]
theorem φFN {name:List UInt8} (h:¬∃id,φ3E name id):idOf name=(0,false):=by
 unfold idOf;rw[dif_neg h]
theorem φI1 {name:List UInt8} {id:Int} (h:idOf name=(id,true)):φ3E name id:=by
 by_cases hx:∃id,φ3E name id
 ·obtain ⟨j,hj⟩:=hx
  rw[φAo hj] at h
  simp only[Prod.mk.injEq,and_true] at h
  rw[←h];exact hj
 ·rw[φFN hx] at h;simp at h
noncomputable def idAt (name:List UInt8) (k:Nat):Option Int:=
 if k<name.length∧(φ3t (name.drop k)).2=true∧1≤(φ3t (name.drop k)).1∧(φ0 (φ3t (name.drop k)).1=name∨φM (φ3t (name.drop k)).1=name) then some (φ3t (name.drop k)).1 else none
theorem φDF {name:List UInt8} {k:Nat} {n:Int} (h:idAt name k=some n):φ3E name n:=by
 unfold idAt at h
 split at h
 ·rename_i c
  have h:(φ3t (name.drop k)).1=n:=Option.some.inj h
  rw[h] at c
  obtain ⟨c1,c2,c3,c4⟩:=c
  have hr:n≤100000:=by
   rcases Int.lt_or_le 100000 n with z | z
   ·exfalso
    unfold φ0 φM φ28 at c4
    rw[if_neg (by omega),if_neg (by omega)] at c4
    rcases c4 with e | e<;>rw[←e] at c1<;>simp at c1
   ·exact z
  exact ⟨⟨c3,hr⟩,c4.imp Eq.symm Eq.symm⟩
 ·simp at h
theorem φIN {name:List UInt8} {id:Int} (h:φ3E name id):idAt name 3=some id∨idAt name 4=some id:=by
 obtain ⟨h1,h2⟩:=h
 obtain ⟨n,rfl⟩:∃n:Nat,id=(n:Int):=⟨id.toNat,by omega⟩
 have hr:=φKs (n:=n) (by omega)
 have hne:(Lib.decDigits n)≠[]:=fun e=>by
  have:=φ9z (n+1) n (by omega) (0,0)
  rw[e] at this
  simp at this;omega
 have hpos:0<(Lib.decDigits n).length:=List.length_pos_iff.2 hne
 rcases h2 with h2 | h2
 ·left
  have e:name=[115,101,103]++Lib.decDigits n:=by rw[h2];unfold φ0 φ28;rw[if_pos h1,tN]
  have hd:name.drop 3=Lib.decDigits n:=by rw[e];rfl
  unfold idAt
  rw[hd,hr]
  rw[if_pos ⟨by rw[e,lA];show 3<3+_;omega,rfl,h1.1,.inl h2.symm⟩]
 ·right
  have e:name=[104,105,110,116]++Lib.decDigits n:=by rw[h2];unfold φM φ28;rw[if_pos h1,tN]
  have hd:name.drop 4=Lib.decDigits n:=by rw[e];rfl
  unfold idAt
  rw[hd,hr]
  rw[if_pos ⟨by rw[e,lA];show 4<4+_;omega,rfl,h1.1,.inr h2.symm⟩]
theorem φKf (name:List UInt8) (hl:name.length<1000000000000):ψ2Z.f name=some (idOf name):=by
 have key:=φe (step:=ψ2Z.l0) (fun n (_:Unit)=>(name,(n:Int))) 5 (fun n _=>match (if n=3 then idAt name 3 else none),(if n≤4 then idAt name 4 else none) with | some x,_=>.inr (x,true) | none,some x=>.inr (x,true) | none,none=>.inl ()) (fun n _=>3≤n)
  (fun rec n _ hn h3 ih=>by
   rcases Nat.lt_or_ge n 5 with h | h
   ·have hw:=φJ (show n+1<9223372036854775808 by omega)
    have c1:(n:Int)≤4:=by omega
    have hone:(bif decide ((name.length:Int) > (n:Int)) then
      bif (decide (0≤(n:Int)) && decide ((n:Int)≤(name.length:Int))) then
      (ψ2k.f (name.drop (n:Int).toNat)).bind fun (t1_0,t1_1)=>
      (bif t1_1 then
      bif decide (t1_0≥1) then
      (ψ2y.f t1_0).bind fun t2=>
      bif t2==name then
      some (Sum.inr (t1_0,true))
      else
      (ψ2X.f t1_0).bind fun t3=>
      bif t3==name then
      some (Sum.inr (t1_0,true))
      else
      some (Sum.inl (name,(n:Int)))
      else
      some (Sum.inl (name,(n:Int)))
      else
      some (Sum.inl (name,(n:Int))):Option ((List UInt8×Int) ⊕ (Int×Bool))).bind (fun o4=>φK o4 (fun (x0,x4)=>
      some (Sum.inl (x0,x4))) (fun (x2,x3)=>
      some (Sum.inr (x2,x3))))
      else none
      else
      some (Sum.inl (name,(n:Int))):Option ((List UInt8×Int) ⊕ (Int×Bool)))=some (match idAt name n with | some x=>.inr (x,true) | none=>.inl (name,(n:Int))):=by
     by_cases d:n<name.length
     ·have d1:(name.length:Int) > (n:Int):=by omega
      have d2:(decide (0≤(n:Int)) && decide ((n:Int)≤(name.length:Int)))=true:=by simp;omega
      simp only[d1,dT,cT,d2,tN,φMN (name.drop n) (by rw[lD];omega),bS]
      unfold idAt
      generalize φ3t (name.drop n)=p
      obtain ⟨v,b⟩:=p
      simp only[φ2L,φ7O,bS]
      cases b
      ·simp
      ·by_cases e:v≥1
       ·by_cases e1:φ0 v=name
        ·simp[d,e,e1,φd]
        ·have e1':(φ0 v==name)=false:=by simpa using e1
         by_cases e2:φM v=name
         ·simp[d,e,e1',e1,e2,φd]
         ·have e2':(φM v==name)=false:=by simpa using e2
          simp[d,e,e1',e1,e2',e2,φX]
       ·have e':¬1≤v:=e
        simp[d,e,e',φX]
     ·have d1:¬(name.length:Int) > (n:Int):=by omega
      simp only[d1,dF,cF]
      unfold idAt
      rw[if_neg (fun z=>d z.1)]
    simp only[ψ2Z.l0,c1,dT,cT]
    erw [hone]
    simp only[bS]
    have ih:=ih () h (by omega)
    have:n=3∨n=4:=by omega
    rcases this with rfl | rfl
    ·cases e3:idAt name 3 with
     | some x=>simp[φd]
     | none=>
      simp only[φX,hw]
      rw[ih]
      simp
    ·cases e4:idAt name 4 with
     | some x=>simp[φd]
     | none=>
      simp only[φX,hw]
      rw[ih]
      simp
   ·have:n=5:=by omega
    subst this
    simp[ψ2Z.l0])
  (by omega) 3 () (by omega) (Nat.le_refl _)
 have key:lp ψ2Z.l0 (name,3)=_:=key
 unfold ψ2Z.f
 rw[key,bS]
 simp only[if_true,show (3:Nat)≤4 by omega]
 cases e3:idAt name 3 with
 | some x=>simp only[φd];rw[φAo (φDF e3)]
 | none=>
  cases e4:idAt name 4 with
  | some x=>simp only[φd];rw[φAo (φDF e4)]
  | none=>
   simp only[φX]
   rw[φFN]
   rintro ⟨id,h⟩
   rcases φIN h with z | z
   ·rw[e3] at z;simp at z
   ·rw[e4] at z;simp at z
noncomputable def φ4T (v:φS) (f:φ6):Bool:=((idOf f.1).2 && !(v.2.any fun i=>i==(idOf f.1).1)) || f.1==φ2O
noncomputable def φ2u (d:φ1) (v:φS):List (List UInt8):=if φ5 d=false then [] else (d.1.filter (φ4T v)).map (·.1)
theorem φMU (d:φ1) (v:φS) (acc:List (List UInt8)) (i id:Int) (is:Bool) (hv:v.2.length<1000000000) :
  lp ψ2g.l2 (d,v,acc,i,id,is,false,0)=some (d,v,acc,i,is,v.2.any fun x=>x==id):=by
 have key:=φe (step:=ψ2g.l2) (fun n (b:Bool)=>(d,v,acc,i,id,is,b,(n:Int))) v.2.length (fun n b=>(d,v,acc,i,is,b || (v.2.drop n).any fun x=>x==id)) (fun _ _=>True)
  (fun rec n b hn _ ih=>by
   rcases Nat.lt_or_ge n v.2.length with h | h
   ·have hw:=φJ (show n+1<9223372036854775808 by omega)
    rw[dG h,List.any_cons]
    simp only[ψ2g.l2,oL,h,dT,cT,φD,φG,φ8 h]
    cases b
    ·simp only[cF,bS,hw,ih _ h trivial,Bool.false_or]
    ·simp only[cT,bS,hw,ih _ h trivial,Bool.true_or]
   ·have:n=v.2.length:=by omega
    subst this
    simp[ψ2g.l2])
  (by omega) 0 false (Nat.zero_le _) trivial
 have key:lp ψ2g.l2 (d,v,acc,i,id,is,false,0)=_:=key
 rw[key,List.drop_zero,Bool.false_or]
theorem φKX {a:Nat} (h:a<1000000000001):(a+1) * 16≤140737488355328:=by omega
theorem φHA (d:φ1) (v:φS) (hd:dlim d) (hv:v.2.length<1000000000):ψ2g.f d v=some (φ2u d v):=by
 have key:=φe (step:=ψ2g.l0) (fun n (acc:List (List UInt8))=>(d,v,acc,(n:Int))) d.1.length (fun n acc=>acc++((d.1.drop n).filter (φ4T v)).map (·.1)) (fun n acc=>acc.length≤n)
  (fun rec n acc hn ha ih=>by
   rcases Nat.lt_or_ge n d.1.length with h | h
   ·have hlen:=hd.1
    have hw:=φJ (show n+1<9223372036854775808 by omega)
    have hnm:=hd.2.2 _ (gM h)
    have hb:(acc.length+([d.1[n].1]:List (List UInt8)).length) * 16≤140737488355328:=φKX (by omega)
    have i1:=ih (acc++[d.1[n].1]) h (by rw[lA];show acc.length+1≤n+1;omega)
    have i2:=ih acc h (by omega)
    rw[dG h,List.filter_cons]
    simp only[ψ2g.l0,oL,h,dT,cT,φD,φG,φ8 h]
    rw[φKf d.1[n].1 hnm,bS]
    simp only[φMU d v acc (n:Int) _ _ hv,bS,hb,dT,cT]
    have hob:φ4T v d.1[n]=(((idOf d.1[n].1).2 && !(v.2.any fun i=>i==(idOf d.1[n].1).1)) || d.1[n].1==φ2O):=rfl
    rw[hob]
    obtain ⟨tb,hT⟩:∃tb,(d.1[n].1==φ2O)=tb:=⟨_,rfl⟩
    have ht:(d.1[n].1==[116,101,109,112])=tb:=hT
    rw[hT]
    cases (idOf d.1[n].1).2<;>cases (v.2.any fun i=>i==(idOf d.1[n].1).1)<;>cases tb <;>
     simp only[φD,h,φG,φ8 h,ht,hb,dT,cT,cF,bS,nZ,nF,Bool.and_true,Bool.and_false,Bool.or_true,Bool.or_false,tA,Bool.false_and,Bool.false_or,Bool.true_or,if_true,Bool.false_eq_true,if_false,hw,i1,i2,List.map_cons,aA,List.singleton_append]
   ·have:n=d.1.length:=by omega
    subst this
    simp[ψ2g.l0])
  (by have:=hd.1;omega) 0 [] (Nat.zero_le _) (Nat.le_refl _)
 have key:lp ψ2g.l0 (d,v,[],0)=_:=key
 unfold ψ2g.f φ2u
 rw[φ5y d hd,bS]
 cases φ5 d
 ·simp
 ·simp only[nZ,cF,key,bS,List.drop_zero,List.nil_append,Bool.true_eq_false,if_false]
theorem φ40 {op:φ1→φ1×Int} {w:φH} (h:(φI op w).2=0):w.2=0∧(op w.1).2=0∧φI op w=op w.1:=by
 unfold φI at h ⊢
 split at h
 ·rename_i c;rw[if_pos c];exact ⟨c,h,rfl⟩
 ·rename_i c;exact absurd h c
theorem φCd {d:φ1} {n:List UInt8} (h:(φF n d).2=0):(φ2 (φF n d).1 n).2=false:=by
 unfold φF at h ⊢
 rcases φz d.1 n with ⟨e,hno⟩ | ⟨i,hi,e,hn⟩
 ·rw[if_neg (by omega)]
  show (φ2 d n).2=false
  unfold φ2
  split
  ·rfl
  ·rw[φ19 e]
 ·rw[if_pos (by omega)] at h ⊢
  exact φJi h
theorem φIW {d:φ1} (hk:φ5 d=true) {n m:List UInt8} (h:(φ2 d n).2=false):(φ2 (φF m d).1 n).2=false:=by
 by_cases c:n=m
 ·subst c
  unfold φF
  rw[if_neg (by rw[φH6 hk h];omega)]
  exact h
 ·rw[φ4e hk c];exact h
theorem φAA {w:φH} {n:List UInt8} (h:(sNew n w).2=0):w.2=0∧φ2 (sNew n w).1 n=([],true):=by
 unfold sNew at h ⊢
 obtain ⟨h1,h2,h3⟩:=φ40 (op:=φa n) h
 obtain ⟨k1,_,_⟩:=φ40 (op:=φF n) h1
 rw[h3]
 exact ⟨k1,φCh h2⟩
theorem φCq {n:List UInt8}:∀(recs:List RecT) {w:φH},(sApp n recs w).2=0→(φ2 w.1 n).2=true→w.2=0∧φ2 (sApp n recs w).1 n=((φ2 w.1 n).1++txt recs,true)
 | [],w,h,ht=>⟨h,by
  show φ2 w.1 n=_
  have:txt []=[]:=rfl
  rw[this,List.append_nil,←ht]⟩
 | r::recs,w,h,ht=>by
  have h:(sApp n recs (φI (φU n (frame (φ7 r))) w)).2=0:=h
  have hz:(φI (φU n (frame (φ7 r))) w).2=0:=by
   by_cases c:(φI (φU n (frame (φ7 r))) w).2=0
   ·exact c
   ·generalize φI (φU n (frame (φ7 r))) w=v at h c
    obtain ⟨x,k⟩:=v
    rw[φBA n recs c] at h
    exact h
  obtain ⟨h1,h2,h3⟩:=φ40 (op:=φU n _) hz
  obtain ⟨a1,a2⟩:=φ8i h2
  obtain ⟨b1,b2⟩:=φCq recs h (by rw[h3,a2])
  refine ⟨h1,?_⟩
  show φ2 (sApp n recs (φI (φU n (frame (φ7 r))) w)).1 n=_
  rw[b2,h3,a2,φ3R,←aA];rfl
theorem φFh:∀(names:List (List UInt8)) {w:φH},φ5 w.1=true→(φh names w).2=0→w.2=0∧(∀n,(φ2 w.1 n).2=false→(φ2 (φh names w).1 n).2=false)∧∀n∈names,(φ2 (φh names w).1 n).2=false
 | [],w,_,h=>⟨h,fun n hn=>hn,fun n hn=>by simp at hn⟩
 | m::names,w,hk,h=>by
  have h:(φh names (φI (φF m) w)).2=0:=h
  have hk1:φ5 (φI (φF m) w).1=true:=φ1e (op:=φF m) hk fun k=>φ2U k m
  obtain ⟨a1,a2,a3⟩:=φFh names hk1 h
  obtain ⟨h1,h2,h3⟩:=φ40 (op:=φF m) a1
  have hab:∀n,(φ2 w.1 n).2=false→(φ2 (φI (φF m) w).1 n).2=false:=fun n hn=>by
   rw[h3];exact φIW hk hn
  refine ⟨h1,fun n hn=>a2 n (hab n hn),fun n hn=>?_⟩
  rcases mc.1 hn with rfl | hn
  ·refine a2 _ ?_
   rw[h3];exact φCd h2
  ·exact a3 n hn
theorem φC5:∀(ids:List Int) {w:φH},φ5 w.1=true→(sOld ids w).2=0→w.2=0∧(∀n,(φ2 w.1 n).2=false→(φ2 (sOld ids w).1 n).2=false)∧∀id∈ids,(φ2 (sOld ids w).1 (φ0 id)).2=false∧(φ2 (sOld ids w).1 (φM id)).2=false
 | [],w,_,h=>⟨h,fun n hn=>hn,fun n hn=>by simp at hn⟩
 | i::ids,w,hk,h=>by
  have h:(sOld ids (φh [φ0 i,φM i] w)).2=0:=h
  have hk1:φ5 (φh [φ0 i,φM i] w).1=true:=φ4c _ hk
  obtain ⟨a1,a2,a3⟩:=φC5 ids hk1 h
  obtain ⟨h1,h2,h3⟩:=φFh [φ0 i,φM i] hk a1
  refine ⟨h1,fun n hn=>a2 n (h2 n hn),fun id hid=>?_⟩
  rcases mc.1 hid with rfl | hid
  ·exact ⟨a2 _ (h3 _ (by simp)),a2 _ (h3 _ (by simp))⟩
  ·exact a3 id hid
structure Merged (s:φA) (d:φ1) (l:List φg) (S:φA) (y:φ1):Prop where
 st:S=((s.1.1+2,[s.1.1,s.1.1+1]),φw s.1.1 0 (φb l (s.2.2.1 - 1)),s.2.2.1,0,0)
 dk:φ5 y=true
 one:φ2 y (φ0 s.1.1)=(txt (φb l (s.2.2.1 - 1)),true)
 two:φ2 y (φ0 (s.1.1+1))=([],true)
 old:∀id∈s.1.2,(φ2 y (φ0 id)).2=false∧(φ2 y (φM id)).2=false
 oth:∀n,n≠φ0 s.1.1→n≠φ0 (s.1.1+1)→n≠φM s.1.1→n≠φ2O→n≠φn→(∀id∈s.1.2,n≠φ0 id∧n≠φM id)→φ2 y n=φ2 d n
theorem φGp {s:φA} {d:φ1} (l:List φg) (h:φ5 d=true) (hv:φm s.1=true) (h2:s.1.1+2≤100000) (hc:(φ1C s d l).2.2=0):Merged s d l (φ1C s d l).1 (φ1C s d l).2.1:=by
 obtain ⟨k1,k2,k3,k4⟩:=(φ12 s.1).1 hv
 rw[φE (by omega) (by omega)] at k1
 have hids:=φ3g _ _ k1
 have g0:=φ3v (w:=(d,0)) h (φ0 s.1.1)
 have g0a:=φ6Q (φ0 s.1.1) (φb l (s.2.2.1 - 1)) g0
 have g1:=φ6E s.1.1 (φb l (s.2.2.1 - 1)) (w:=(d,0)) h
 have g2:=φ3v g1 (φ0 (s.1.1+1))
 have f1:∀n,n≠φ0 s.1.1→n≠φ0 (s.1.1+1)→φ2 (sNew (φ0 (s.1.1+1)) (sWM s.1.1 (φb l (s.2.2.1 - 1)) (d,0))).1 n=φ2 d n:=fun n q1 q2=>by
  rw[φ6M g1 q2]
  unfold sWM
  rw[φ2c (op:=φN _) (φ2e g0a _ n),φAZ q1 _ g0,φ6M (w:=(d,0)) h q1]
 have hne:φ0 s.1.1≠φ0 (s.1.1+1):=fun hh=>by have:=φ3p (by omega) (by omega) hh;omega
 have t1:(sNew (φ0 (s.1.1+1)) (sWM s.1.1 (φb l (s.2.2.1 - 1)) (d,0))).2=0→φ2 (sNew (φ0 (s.1.1+1)) (sWM s.1.1 (φb l (s.2.2.1 - 1)) (d,0))).1 (φ0 s.1.1)=(txt (φb l (s.2.2.1 - 1)),true) ∧
   φ2 (sNew (φ0 (s.1.1+1)) (sWM s.1.1 (φb l (s.2.2.1 - 1)) (d,0))).1 (φ0 (s.1.1+1))=([],true):=fun e=>by
  obtain ⟨n1,n2⟩:=φAA e
  refine ⟨?_,n2⟩
  rw[φ6M g1 hne]
  unfold sWM at n1 ⊢
  obtain ⟨s1,s2,s3⟩:=φ40 (op:=φN _) n1
  rw[φ2c (op:=φN _) (φ2e g0a _ _)]
  have hz:(sNew (φ0 s.1.1) (d,0)).2=0:=by
   by_cases c:(sNew (φ0 s.1.1) (d,0)).2=0
   ·exact c
   ·generalize sNew (φ0 s.1.1) (d,0)=v at s1 c
    obtain ⟨x,k⟩:=v
    rw[φBA _ _ c] at s1
    exact s1
  obtain ⟨m1,m2⟩:=φAA hz
  obtain ⟨a1,a2⟩:=φCq (φb l (s.2.2.1 - 1)) s1 (by rw[m2])
  rw[a2,m2];rfl
 unfold φ1C at hc ⊢
 simp only at hc ⊢
 generalize sNew (φ0 (s.1.1+1)) (sWM s.1.1 (φb l (s.2.2.1 - 1)) (d,0))=w1 at *
 have g3:φ5 (φ11 s.1.1 w1).1=true:=by
  unfold φ11;split
  ·exact g2
  ·exact φ7L _ g2
 have z2:(φ11 s.1.1 w1).2=0→w1.2=0:=fun e=>by
  unfold φ11 at e
  split at e
  ·exact e
  ·rename_i c;simpa using c
 have f2:∀n,n≠φM s.1.1→φ2 (φ11 s.1.1 w1).1 n=φ2 w1.1 n:=fun n q=>by
  unfold φ11
  split
  ·rfl
  ·unfold φ2D
   simp only
   have hf:=φ4L (w:=(w1.1,0)) g2 (φM s.1.1) (φ1P (φ17 s.1.1 (φ2 w1.1 (φ0 s.1.1)).1).1)
   split
   ·rw[φ4e hf q,φ58 (w:=(w1.1,0)) g2 q]
   ·rw[φ58 (w:=(w1.1,0)) g2 q]
 generalize φ11 s.1.1 w1=w2 at *
 have g5:φ5 (if w2.2=0 then φC (sPut (s.1.1+2,[s.1.1,s.1.1+1]) w2) else φC w2).1=true:=by
  split
  ·exact φ3r g3 _
  ·exact g3
 have z3:(if w2.2=0 then φC (sPut (s.1.1+2,[s.1.1,s.1.1+1]) w2) else φC w2).2=0→w2.2=0:=fun e=>by
  by_cases c:w2.2=0
  ·exact c
  ·rw[if_neg c] at e;exact (φ1L _).1 e
 have f3:∀n,n≠φ2O→n≠φn→φ2 (if w2.2=0 then φC (sPut (s.1.1+2,[s.1.1,s.1.1+1]) w2) else φC w2).1 n=φ2 w2.1 n:=fun n q1 q2=>by
  split
  ·exact φ74 g3 _ q1 q2
  ·rfl
 generalize (if w2.2=0 then φC (sPut (s.1.1+2,[s.1.1,s.1.1+1]) w2) else φC w2)=w3 at *
 by_cases c:w3.2=0
 rotate_left
 ·rw[if_pos c] at hc
  exfalso
  revert hc
  unfold φ1c
  split
  ·split
   ·simp
   ·rename_i c4;exact c4
  ·exact c
 rw[if_neg (by simpa using c)] at hc ⊢
 have hc:(sOld s.1.2 (w3.1,0)).2=0:=(φ1L _).1 hc
 obtain ⟨o1,o2,o3⟩:=φC5 s.1.2 (w:=(w3.1,0)) g5 hc
 obtain ⟨u1,u2⟩:=t1 (z2 (z3 c))
 have hseg:∀id,1≤id∧id≤100000→s.1.1≤id→∀i∈s.1.2,φ0 id≠φ0 i∧φ0 id≠φM i:=fun id q1 q2 i hi=>⟨fun hh=>by
  have:=hids i hi
  have:=φ3p q1 (by omega) hh;omega,φ3o id _ q1⟩
 refine ⟨rfl,φHT s.1.2 (w:=(w3.1,0)) g5,?_,?_,o3,fun n q1 q2 q3 q4 q5 q6=>?_⟩
 ·show φ2 (sOld s.1.2 (w3.1,0)).1 _=_
  rw[φ6G s.1.2 (w:=(w3.1,0)) g5 (hseg _ (by omega) (by omega)),f3 _ (φ43 _) (φ2N _),f2 _ (φ3o _ _ (by omega)),u1]
 ·show φ2 (sOld s.1.2 (w3.1,0)).1 _=_
  rw[φ6G s.1.2 (w:=(w3.1,0)) g5 (hseg _ (by omega) (by omega)),f3 _ (φ43 _) (φ2N _),f2 _ (φ3o _ _ (by omega)),u2]
 ·show φ2 (sOld s.1.2 (w3.1,0)).1 _=_
  rw[φ6G s.1.2 (w:=(w3.1,0)) g5 q6,f3 _ q4 q5,f2 _ q3,f1 _ q1 q2]
theorem φJ8 (A B:List UInt8) {r:RecT} (h:φc r=true):φ1D (A++(fr r++B)) (A.length:Int) ((fr r).length:Int)=(r,true):=by
 have k:=φFI A h
 rw[←aA,φF3 _ (by rw[k]),k]
theorem φCR (m:Int) (g:Int×Int×Int×Int→List UInt8×Int):∀(recs:List RecT) (pre post:List UInt8),(∀r∈recs,φc r=true∧r.1=4) →
  (∀a n b,g (m,a,n,b)=((φ1D (pre++(txt recs++post)) a n).1.2.2.2.1,(φ1D (pre++(txt recs++post)) a n).1.2.1)) →
  mapG g (φw m (pre.length:Int) recs)=recs.map (fun r=>(r.2.2.1,r.2.2.2.1,r.2.1)) ∧
  ∀e∈φw m (pre.length:Int) recs,∃r∈recs,e.1=r.2.2.1∧e.2.1=m∧0≤e.2.2.1∧1≤e.2.2.2.1∧e.2.2.2.1≤210∧e.2.2.2.2=r.2.1∧φ1D (pre++(txt recs++post)) e.2.2.1 e.2.2.2.1=(r,true)
 | [],pre,post,_,_=>⟨rfl,fun e he=>by simp[φw] at he⟩
 | r::recs,pre,post,h,hg=>by
  obtain ⟨hr,h4⟩:=h r List.mem_cons_self
  have hfr:=φ76 r
  have hT:pre++(txt (r::recs)++post)=(pre++fr r)++(txt recs++post):=by rw[φ3R];simp only[aA]
  have hat:φ1D (pre++(txt (r::recs)++post)) (pre.length:Int) ((fr r).length:Int)=(r,true):=by
   rw[show pre++(txt (r::recs)++post)=pre++(fr r++(txt recs++post)) by rw[φ3R,aA]]
   exact φJ8 _ _ hr
  obtain ⟨i1,i2⟩:=φCR m g recs (pre++fr r) post (fun x hx=>h x (mC _ hx)) (fun a n b=>by rw[hg,hT])
  have hl:((pre++fr r).length:Int)=(pre.length:Int)+((frame (φ7 r)).length:Int):=by rw[lA];simp only[fr];omega
  rw[hl] at i1 i2
  have hent:φw m (pre.length:Int) (r::recs)=(r.2.2.1,m,(pre.length:Int),((frame (φ7 r)).length:Int),r.2.1)::φw m ((pre.length:Int)+((frame (φ7 r)).length:Int)) recs:=by
   rw[φw,if_pos h4]
  rw[hent]
  constructor
  ·show (r.2.2.1,g (m,(pre.length:Int),((fr r).length:Int),r.2.1))::mapG g (φw m _ recs)=_
   rw[i1,hg,hat];rfl
  ·intro e he
   rcases mc.1 he with rfl | he
   ·exact ⟨r,List.mem_cons_self,rfl,rfl,by show 0≤(pre.length:Int);omega,by show 1≤((fr r).length:Int);omega,by show ((fr r).length:Int)≤210;omega,rfl,hat⟩
   ·obtain ⟨q,hq,z⟩:=i2 e he
    rw[←hT] at z
    exact ⟨q,mC _ hq,z⟩
theorem φKn {s:List UInt8} {a n:Int} (h:(φ1D s a n).2=true):φc (φ1D s a n).1=true:=by
 unfold φ1D at h ⊢
 split at h
 ·rename_i c1
  rw[if_pos c1]
  split at h
  ·rename_i c2
   rw[if_pos c2]
   rcases φ6f (φY ((s.take (a+n).toNat).drop a.toNat)).1 with ⟨e,_⟩ | ⟨r,e,hr⟩
   ·rw[e] at h;simp at h
   ·rw[e];exact hr.1
  ·simp at h
 ·simp at h
theorem φFq {s:φA} {d:φ1} (h:φo s d=true):∀r∈(φT s d).1.map φQ,φc r=true∧r.1=4:=fun r hr=>by
 obtain ⟨p,hp,rfl⟩:=mM.1 hr
 rw[φ2q h] at hp
 obtain ⟨e,he,rfl⟩:=mM.1 hp
 obtain ⟨q1,q2,q3,q4,q5,q6⟩:=φ15.1 h
 have k:=φ3L.1 (q6 e he)
 have ho:=φKn (s:=(φ2 d (φ0 e.2.1)).1) (a:=e.2.2.1) (n:=e.2.2.2.1) k.1
 have hkey:=(φ3x q3).2 e he
 unfold φ2l at hkey
 simp only[bA,decide_eq_true_eq] at hkey
 refine ⟨?_,rfl⟩
 have hb:(φ1H d e).1.2.1=e.2.2.2.2:=k.2.2.2.1
 have hbb:=hkey.2.2.2.2
 unfold φ1H at k hb
 obtain ⟨R,hR⟩:∃R,φ1D (φ2 d (φ0 e.2.1)).1 e.2.2.1 e.2.2.2.1=R:=⟨_,rfl⟩
 rw[hR] at k hb ho
 have hvl:=(φBW ho).2.2.1 k.2.1
 show φc (φQ (e.1,φ1O d e.2))=true
 have hv:(φQ (e.1,φ1O d e.2))=(4,(φ1O d e.2).2,e.1,(φ1O d e.2).1,0,0):=rfl
 rw[hv]
 have e2:φ1O d e.2=(R.1.2.2.2.1,R.1.2.1):=by
  unfold φ1O
  rw[hR]
 rw[e2]
 have hb0:(R.1.2.1==0)=false:=by
  have:¬R.1.2.1=0:=by omega
  simpa using this
 unfold φc
 simp[hkey.1,hb0]
 omega
theorem φHb {α β:Type} (g:α→β) {l:List (List UInt8×α)} (h:srt (mapG g l)):srt l:=by
 unfold srt mapG at *
 rw[List.pairwise_map] at h
 exact h
theorem φEa:∀rs:List RecT,(txt rs).length=φEP rs
 | []=>rfl
 | r::rs=>by
  rw[φ3R,lA,φEa rs];rfl
theorem φLe {r:RecT} (h:φc r=true) (h4:r.1=4):φ1T r.2.2.1=true∧1≤r.2.1∧r.2.1≤1000000:=by
 obtain ⟨k,b,ky,v,c,s⟩:=r
 have h4:k=4:=h4
 subst h4
 unfold φc at h
 simp only[bA,decide_eq_true_eq] at h
 obtain ⟨⟨h1,h2⟩,h⟩:=h
 rw[if_pos (by simp)] at h
 simp only[bA] at h
 have hb:¬b=0:=fun e=>by subst e;simp at h2
 exact ⟨h.1,by show 1≤b;omega,by show b≤1000000;omega⟩
theorem φD4 {b c z:Int} (hb:0≤b∧b≤1000000) (hc:0≤c∧c≤20) (hz:0≤z∧z≤4294967295):φc (5,b,[],[],c,z)=true:=by
 unfold φc
 simp;omega
theorem φDh {s:φA} {d:φ1} (h:φo s d=true):∀p∈(φT s d).1,p.2.2<s.2.2.1:=fun p hp=>by
 rw[φ2q h] at hp
 obtain ⟨e,he,rfl⟩:=mM.1 hp
 obtain ⟨q1,q2,q3,q4,q5,q6⟩:=φ15.1 h
 have k:=φ3L.1 (q6 e he)
 have hb:(φ1O d e.2).2=(φ1H d e).1.2.1:=rfl
 show (φ1O d e.2).2<s.2.2.1
 rw[hb,k.2.2.2.1];exact k.2.2.2.2
theorem φAL {s:φA} {d:φ1} {S:φA} {y:φ1} (h:φo s d=true) (h2:s.1.1+2≤100000) (hM:Merged s d (φT s d).1 S y) :
  φo S y=true∧φT S y=φT s d∧φ49 S∧segN y (S.1.2.take 60)=φEP (φb (φT s d).1 (s.2.2.1 - 1)):=by
 obtain ⟨q1,q2,q3,q4,q5,q6⟩:=φ15.1 h
 obtain ⟨k1,k2,k3,k4⟩:=(φ12 s.1).1 q2
 have hkeep:=φFq h
 have hbat:=φDh h
 have hsl:srt (φT s d).1:=by rw[φ2q h];exact φKA _ (φ5L q3)
 have hd0:φT s d=((φT s d).1,0):=by rw[φ2q h]
 have hl20:(φT s d).1.length≤20:=by have:=φ95 s d;have:=(φ3x q3).1;omega
 obtain ⟨hst,hdk,hone,htwo,_,_⟩:=hM
 generalize (φT s d).1=l at *
 have hmk:φc (5,s.2.2.1 - 1,[],[],(l.length:Int),φ1I (l.map φQ))=true:=φD4 (by omega) (by omega) (φ4i _)
 have hall:∀r∈φb l (s.2.2.1 - 1),φc r=true:=fun r hr=>by
  unfold φb at hr
  rcases mA.1 hr with hr | hr
  ·exact (hkeep r hr).1
  ·rw[mZ.1 hr];exact hmk
 have hents:φw s.1.1 0 (φb l (s.2.2.1 - 1))=φw s.1.1 0 (l.map φQ):=φ7s s.1.1 _ (show (5:Int)≠4 by decide) _ _
 have htx:txt (φb l (s.2.2.1 - 1))=[]++(txt (l.map φQ)++fr (5,s.2.2.1 - 1,[],[],(l.length:Int),φ1I (l.map φQ))):=by
  unfold φb;rw[φAz];rfl
 obtain ⟨e1,e2⟩:=φCR s.1.1 (φ1O y) (l.map φQ) [] (fr (5,s.2.2.1 - 1,[],[],(l.length:Int),φ1I (l.map φQ))) hkeep (fun a n b=>by
  unfold φ1O
  simp only
  rw[hone,htx])
 have e1:mapG (φ1O y) (φw s.1.1 0 (l.map φQ))=l:=by
  have:(([]:List UInt8).length:Int)=0:=rfl
  rw[this] at e1
  rw[e1,List.map_map]
  exact List.map_id' l
 have e2:∀e∈φw s.1.1 0 (l.map φQ),∃r∈l.map φQ,e.1=r.2.2.1∧e.2.1=s.1.1∧0≤e.2.2.1∧1≤e.2.2.2.1∧e.2.2.2.1≤210∧e.2.2.2.2=r.2.1∧φ1H y e=(r,true):=fun e he=>by
  obtain ⟨r,hr,z1,z2,z3,z4,z5,z6,z7⟩:=e2 e he
  refine ⟨r,hr,z1,z2,z3,z4,z5,z6,?_⟩
  unfold φ1H
  rw[z2,hone,htx];exact z7
 subst hst
 rw[hents]
 have hdir:φ1i (φw s.1.1 0 (l.map φQ))=true:=by
  refine φD2 (φHb (φ1O y) (by rw[e1];exact hsl)) (fun e he=>?_) ?_
  ·obtain ⟨r,hr,z1,z2,z3,z4,z5,z6,z7⟩:=e2 e he
   obtain ⟨w1,w2,w3⟩:=φLe (hkeep r hr).1 (hkeep r hr).2
   unfold φ2l
   rw[z1,w1,z2,z6]
   simp only[tA,bA,decide_eq_true_eq]
   exact ⟨⟨k2.1,k2.2⟩,z3,⟨z4,z5⟩,w2,w3⟩
  ·have:=congrArg List.length e1
   unfold mapG at this
   rw[lM] at this
   omega
 have hent:∀e∈φw s.1.1 0 (l.map φQ),φ1x y s.2.2.1 e=true:=fun e he=>by
  obtain ⟨r,hr,z1,z2,z3,z4,z5,z6,z7⟩:=e2 e he
  obtain ⟨p,hp,rfl⟩:=mM.1 hr
  rw[φ3L,z7,z6]
  exact ⟨rfl,.inr rfl,z1.symm,rfl,hbat p hp⟩
 have hok:φo ((s.1.1+2,[s.1.1,s.1.1+1]),φw s.1.1 0 (l.map φQ),s.2.2.1,0,0) y=true:=φ15.2 ⟨hdk,φAc s.1.1 k2.1 h2,hdir,q4,by
  refine (φ2d _).2 ⟨fun id hid=>?_,fun _=>?_⟩
  ·simp only[mc,List.not_mem_nil,or_false] at hid
   rcases hid with rfl | rfl
   ·rw[hone];exact ⟨rfl,φGQ hall⟩
   ·rw[htwo];exact ⟨rfl,φCn⟩
  ·show (0:Int)=((φ2 y (φ0 (s.1.1+1))).1.length:Int)
   rw[htwo];rfl,hent⟩
 refine ⟨hok,?_,fun e he=>?_,?_⟩
 ·rw[φ2q hok,hd0]
  show (mapG (φ1O y) (φw s.1.1 0 (l.map φQ)),(0:Int))=_
  rw[e1]
 ·obtain ⟨r,hr,z1,z2,_⟩:=e2 e he
  show e.2.1<s.1.1+2
  omega
 ·show segN y [s.1.1,s.1.1+1]=_
  unfold segN
  simp only[sumN]
  rw[hone,htwo,φEa];simp
theorem φIZ {α:Type} {l:List (List UInt8×α)} (h:srt l):(l.map (·.1)).Nodup:=by
 unfold srt at h
 unfold List.Nodup
 rw[List.pairwise_map]
 exact h.imp fun hab=>φ5f hab
noncomputable def φ4f (s:φA) (d:φ1):φA×φ1×Int:=
 if φo s d=false then (s,d,4) else if s.1.1+2 > 100000 then (s,d,5) else φ1C s d (φT s d).1
theorem φMQ {s:φA} {d:φ1} (h:SmallS s d):ψX.f s d=some (φ4f s d)∧ψ2c.f s d=some (φ4f s d):=by
 obtain ⟨hd,hu⟩:=h.lim
 have h1:=h.ids
 have h2:=h.dir
 have h3:=h.sm.1
 unfold ψ2c.f ψX.f φ4f
 simp only[φDM s d hd hu (show s.1.2.length<1000000000 by omega) (show s.2.1.length<1000000000 by omega),φFk s d hd hu (show s.1.2.length<1000000000 by omega) (show s.2.1.length<1000000000 by omega),bS,φ9h s (show s.1.2.length<1000000000 by omega) (show s.2.1.length<1000000000 by omega),φ9m s (show s.1.2.length<1000000000 by omega) (show s.2.1.length<1000000000 by omega),φ4y d (show d.1.length<1000000000000 by omega),φ7P d (show d.1.length<1000000000000 by omega),
   φDw s d hd hu (show s.2.1.length<1000000000 by omega),φCM s d hd hu (show s.2.1.length<1000000000 by omega)]
 cases hk:φo s d with
 | false=>simp
 | true=>
  obtain ⟨q1,q2,q3,q4,q5⟩:=φ56 hk
  have hd20:s.2.1.length≤20:=(φ3x q3).1
  have hdl:=φ95 s d
  have hlv:=(φ12 s.1).1 q2
  have hc0:(φT s d).2=0:=by rw[φ2q hk]
  simp only[nZ,cF,show w64 (s.1.1+2)=s.1.1+2 from φE (by omega) (by omega),Bool.true_eq_false,if_false]
  by_cases e1:s.1.1+2 > 100000
  ·rw[if_pos e1]
   simp only[e1,dT,cT,and_self]
  ·rw[if_neg e1]
   simp only[e1,dF,cF,hc0,bne_self_eq_false,φMT s d _ q1 q2 (show s.1.1+2≤100000 by omega) q4 (show (φT s d).1.length<100000 by omega),φLo s d _ q1 q2 (show s.1.1+2≤100000 by omega) q4 (show (φT s d).1.length<100000 by omega),bS,and_self]
def φ3k (s:List UInt8) (v:φS):Prop:=φm v=true∧φ10 v=s
def φ2Y:φS:=(0,[])
def φ5b (v:φS):List UInt8:=varT v.1++varT (v.2.length:Int)++(v.2.map varT).flatten
theorem φBw {v:φS} (h:φm v=true):φ1V v.1∧(∀x∈v.2,φ1V x∧x≤100000)∧1≤v.2.length∧v.2.length≤60∧v.1≤100000:=by
 obtain ⟨k1,k2,k3,k4⟩:=(φ12 v).1 h
 rw[φE (by omega) (by omega)] at k1
 have:=φ3g _ _ k1
 refine ⟨⟨by omega,by omega⟩,fun x hx=>?_,k3,k4,k2.2⟩
 have:=this x hx
 exact ⟨⟨by omega,by omega⟩,by omega⟩
theorem φAf {n:Int} (h:0≤n∧n≤100000):(varT n).length≤3:=by
 obtain ⟨m,rfl⟩:∃m:Nat,n=(m:Int):=⟨n.toNat,by omega⟩
 rw[φ4q m (by omega)]
 exact (φ7l 2 m (by show m<2097152;omega)).2
theorem φC4 {l:List Int} (h:∀x∈l,0≤x∧x≤100000):((l.map varT).flatten).length≤3 * l.length:=by
 induction l with
 | nil=>simp
 | cons x l ih=>
  have h1:=φAf (h x List.mem_cons_self)
  have h2:=ih (fun y hy=>h y (mC _ hy))
  simp only[List.map_cons,List.flatten_cons,lA,lC]
  omega
theorem φ9a {v:φS} (h:φm v=true):(φ5b v).length≤200:=by
 obtain ⟨h1,h2,h3,h4,h5⟩:=φBw h
 have a1:=φAf ⟨h1.1,h5⟩
 have a2:=φAf (n:=(v.2.length:Int)) (by omega)
 have a3:=φC4 (l:=v.2) (fun x hx=>⟨(h2 x hx).1.1,(h2 x hx).2⟩)
 unfold φ5b
 simp only[lA];omega
theorem φIO {s:List UInt8} {v:φS} (h:φ3k s v):s=frame (φ5b v)∧φY s=(φ5b v,(s.length:Int))∧5≤s.length:=by
 have e:s=frame (φ5b v):=by
  rw[←h.2];unfold φ10;rw[if_neg (by rw[h.1];simp)];rfl
 have hb:=φ7H (φ9a h.1) []
 rw[List.append_nil,←e] at hb
 exact ⟨e,hb,by rw[e];exact φ91 (φ9a h.1)⟩
theorem φGN {s:List UInt8} {v:φS} (h:φ3k s v):ψ2n.f s=some (v,true):=by
 obtain ⟨e1,e2,e3⟩:=φIO h
 obtain ⟨n1,n2,n3,n4,n5⟩:=φBw h.1
 have hbl:=φ9a h.1
 have hsl:s.length≤211:=by rw[e1];exact φ4x _
 have hsh:=h.2
 obtain ⟨nx,ids⟩:=v
 have n4:ids.length≤60:=n4
 have hcnt:φ1V (ids.length:Int):=⟨by omega,by omega⟩
 have hbd:φ5b (nx,ids)=varT nx++(varT (ids.length:Int)++(ids.map varT).flatten):=by unfold φ5b;rw[aA]
 have hbl2:=hbl
 rw[hbd] at hbl2
 simp only[lA] at hbl2
 have r1:=φ3z n1 (varT (ids.length:Int)++(ids.map varT).flatten)
 have r2:=φ3z hcnt (ids.map varT).flatten
 generalize hT:varT nx++(varT (ids.length:Int)++(ids.map varT).flatten)=T at *
 have hTl:T.length=(varT nx).length+((varT (ids.length:Int)).length+((ids.map varT).flatten).length):=by rw[←hT];simp only[lA]
 have hat:∀n,n≤ids.length→T.drop ((varT nx).length+(varT (ids.length:Int)).length+((ids.take n).map varT).flatten.length)=((ids.drop n).map varT).flatten:=fun n hn=>by
  have e:T=(varT nx++varT (ids.length:Int)++((ids.take n).map varT).flatten)++((ids.drop n).map varT).flatten:=by
   rw[←hT]
   simp only[aA]
   congr 2
   rw[←List.flatten_append,←mp,List.take_append_drop]
  rw[e,show (varT nx).length+(varT (ids.length:Int)).length+((ids.take n).map varT).flatten.length=(varT nx++varT (ids.length:Int)++((ids.take n).map varT).flatten).length by simp only[lA],List.drop_left]
 have hfle:∀n,((ids.take n).map varT).flatten.length≤200:=fun n=>by
  have:((ids.take n).map varT).flatten.length≤3 * (ids.take n).length:=φC4 (fun x hx=>⟨(n2 x (List.mem_of_mem_take hx)).1.1,(n2 x (List.mem_of_mem_take hx)).2⟩)
  rw[lT] at this;omega
 have key:=φe (step:=ψ2n.l0) (fun n (_:Unit)=>(s,((0,[]):φS),T,(ids.length:Int),((nx,ids.take n):φS),(((varT nx).length+(varT (ids.length:Int)).length+((ids.take n).map varT).flatten.length:Nat):Int),(n:Int))) ids.length (fun _ _=>(s,(0,[]),(nx,ids))) (fun _ _=>True)
  (fun rec n _ hn _ ih=>by
   rcases Nat.lt_or_ge n ids.length with h1 | h1
   ·have hw:=φJ (show n+1<9223372036854775808 by omega)
    have hin:=(n2 _ (gM h1)).1
    have hc60:(n:Int)<60:=by omega
    have hd:((ids.drop n).map varT).flatten=varT ids[n]++((ids.drop (n+1)).map varT).flatten:=by
     rw[dG h1];rfl
    have hta:((ids.take (n+1)).map varT).flatten.length=((ids.take n).map varT).flatten.length+(varT ids[n]).length:=by
     rw[List.take_succ_eq_append_getElem h1,mp,List.flatten_append,lA]
     show _+(varT ids[n]++[]).length=_
     rw[List.append_nil]
    have hdl:=congrArg List.length (hat n hn)
    rw[lD] at hdl
    have r3:=φ3z hin ((ids.drop (n+1)).map varT).flatten
    have h200:=hfle n
    have hvl:=φk ids[n]
    have hvl1:=φk nx
    have hvl2:=φk (ids.length:Int)
    have hdl2:=congrArg List.length hd
    rw[lA] at hdl2
    have hin2:(decide (0≤(((varT nx).length+(varT (ids.length:Int)).length+((ids.take n).map varT).flatten.length:Nat):Int)) && decide ((((varT nx).length+(varT (ids.length:Int)).length+((ids.take n).map varT).flatten.length:Nat):Int)≤(T.length:Int)))=true:=by
     simp only[bA,decide_eq_true_eq];omega
    have hb:((ids.take n).length+([ids[n]]:List Int).length) * 8≤140737488355328:=lim8 (by rw[lT];omega)
    have hi:ids.take n++[ids[n]]=ids.take (n+1):=(List.take_succ_eq_append_getElem h1).symm
    have hwo:w64 ((((varT nx).length+(varT (ids.length:Int)).length+((ids.take n).map varT).flatten.length:Nat):Int)+((varT ids[n]).length:Int))=(((varT nx).length+(varT (ids.length:Int)).length+((ids.take (n+1)).map varT).flatten.length:Nat):Int):=by
     rw[φE (by omega) (by omega),hta];omega
    simp only[ψ2n.l0,oL,h1,hc60,dT,cT,hin2,tN,hat n hn]
    rw[φ2M _ (by omega),hd,r3.1,bS]
    simp only[hb,dT,cT,hi,hwo,hw,ih () h1 trivial]
   ·have:n=ids.length:=by omega
    subst this
    simp[ψ2n.l0])
  (by omega) 0 () (Nat.zero_le _) trivial
 have key:lp ψ2n.l0 (s,(0,[]),T,(ids.length:Int),(nx,[]),(((varT nx).length+(varT (ids.length:Int)).length+((ids.take 0).map varT).flatten.length:Nat):Int),((0:Nat):Int))=_:=key
 have hv1:=φk nx
 have hv2:=φk (ids.length:Int)
 have c1:((s.length:Int)==0)=false:=by
  have:¬(s.length:Int)=0:=by omega
  simpa using this
 have c2:(((varT nx).length:Int)==0)=false:=by
  have:1≤(varT nx).length:=r1.2
  have:¬((varT nx).length:Int)=0:=by omega
  simpa using this
 have c3:(decide (0≤((varT nx).length:Int)) && decide (((varT nx).length:Int)≤(T.length:Int)))=true:=by simp only[bA,decide_eq_true_eq];omega
 have hd1:T.drop (varT nx).length=varT (ids.length:Int)++(ids.map varT).flatten:=by rw[←hT,List.drop_left]
 have hw1:w64 (((varT nx).length:Int)+((varT (ids.length:Int)).length:Int))=(((varT nx).length+(varT (ids.length:Int)).length+((ids.take 0).map varT).flatten.length:Nat):Int):=by
  rw[φE (by omega) (by omega)];simp
 unfold ψ2n.f
 rw[φ7p s (by omega),e2,hbd,bS]
 simp only
 rw[φ2M T (by omega),r1.1,bS]
 simp only[bne_self_eq_false,cF,c1,c2,c3,cT,tN,hd1]
 rw[φ2M _ (by rw[←hd1,lD];omega),r2.1,bS]
 simp only[hw1]
 have key:lp ψ2n.l0 (s,(0,[]),T,(ids.length:Int),(nx,[]),(((varT nx).length+(varT (ids.length:Int)).length+((ids.take 0).map varT).flatten.length:Nat):Int),0)=_:=key
 rw[key,bS]
 simp only[φA4 (nx,ids) (by show ids.length<2 ^ 62;omega),bS,hsh,beq_self_eq_true,nZ,cF]
theorem φGw (s:List UInt8) (hl:s.length<1000000000):∃res:φS×Bool,ψ2n.f s=some res∧(res=(φ2Y,false)∨∃v,res=(v,true)∧φ3k s v):=by
 have hul:=φ6S s
 unfold ψ2n.f
 rw[φ7p s (by omega),bS]
 simp only
 rw[φ2M _ (by omega),bS]
 by_cases c2:(φY s).2=(s.length:Int)
 rotate_left
 ·have d2:((φY s).2 != (s.length:Int))=true:=by simpa using c2
  exact ⟨(φ2Y,false),by simp only[d2,cT];rfl,.inl rfl⟩
 have d2:((φY s).2 != (s.length:Int))=false:=by simpa using c2
 simp only[d2,cF]
 by_cases c1:(φY s).2=0
 ·have d1:((φY s).2==0)=true:=by simpa using c1
  exact ⟨(φ2Y,false),by simp only[d1,cT];rfl,.inl rfl⟩
 have d1:((φY s).2==0)=false:=by simpa using c1
 simp only[d1,cF]
 generalize hT:(φY s).1=T at *
 have v1:=φ5Y T
 by_cases c3:(φi T).2=0
 ·have d3:((φi T).2==0)=true:=by simpa using c3
  exact ⟨(φ2Y,false),by simp only[d3,cT];rfl,.inl rfl⟩
 have d3:((φi T).2==0)=false:=by simpa using c3
 have d4:(decide (0≤(φi T).2) && decide ((φi T).2≤(T.length:Int)))=true:=by simp only[bA,decide_eq_true_eq];omega
 simp only[d3,d4,cF,cT]
 rw[φ2M _ (by rw[lD];omega),bS]
 generalize hR:T.drop (φi T).2.toNat=R
 have v2:=φ5Y R
 have hRl:R.length+(φi T).2.toNat=T.length:=by rw[←hR,lD];omega
 generalize (φi T).1=n1
 generalize (φi R).1=cnt
 have hw1:w64 ((φi T).2+(φi R).2)=(φi T).2+(φi R).2:=φE (by omega) (by omega)
 simp only[hw1]
 have hp0:0≤(φi T).2+(φi R).2∧(φi T).2+(φi R).2≤T.length:=by omega
 generalize (φi T).2+(φi R).2=pos at hp0
 have key:=φ7T (step:=ψ2n.l0) (a:=(s,((0,[]):φS),T,cnt,((n1,[]):φS),pos,0))
  (fun a=>∃(ids:List Int) (p:Int),a=(s,(0,[]),T,cnt,(n1,ids),p,(ids.length:Int))∧0≤p∧p≤(T.length:Int)∧ids.length≤60)
  (fun a=>61 - a.2.2.2.2.1.2.length)
  (fun b=>∃ids:List Int,b=(s,(0,[]),(n1,ids))∧ids.length≤60)
  (fun rec a ha=>by
   obtain ⟨ids,p,rfl,h1,h2,h3⟩:=ha
   by_cases c:(ids.length:Int)<cnt
   rotate_left
   ·left;exact ⟨_,by simp only[ψ2n.l0,c,dF,cF,cT],ids,rfl,h3⟩
   by_cases cc:(ids.length:Int)<60
   rotate_left
   ·left;exact ⟨_,by simp only[ψ2n.l0,c,cc,dT,dF,cT,cF,cT],ids,rfl,h3⟩
   right
   have hin:(decide (0≤p) && decide (p≤(T.length:Int)))=true:=by simp only[bA,decide_eq_true_eq];omega
   have v3:=φ5Y (T.drop p.toNat)
   rw[lD] at v3
   have hw:=φJ (show ids.length+1<9223372036854775808 by omega)
   have hwp:w64 (p+(φi (T.drop p.toNat)).2)=p+(φi (T.drop p.toNat)).2:=φE (by omega) (by omega)
   have hb:(ids.length+([(φi (T.drop p.toNat)).1]:List Int).length) * 8≤140737488355328:=lim8 (by omega)
   refine ⟨(s,(0,[]),T,cnt,(n1,ids++[(φi (T.drop p.toNat)).1]),p+(φi (T.drop p.toNat)).2,((ids.length+1:Nat):Int)),⟨ids++[(φi (T.drop p.toNat)).1],p+(φi (T.drop p.toNat)).2,by simp only[lA,List.length_singleton],by omega,by omega,by simp only[lA,List.length_singleton];omega⟩,by simp only[lA,List.length_singleton];omega,?_⟩
   simp only[ψ2n.l0,c,cc,dT,cT,hin]
   rw[φ2M _ (by rw[lD];omega),bS]
   simp only[hb,dT,cT,hwp,hw])
  ⟨[],pos,rfl,hp0.1,by omega,by simp⟩ (by simp)
 obtain ⟨b,eb,ids,rfl,h60⟩:=key
 rw[eb,bS]
 simp only[φA4 (n1,ids) (by show ids.length<2 ^ 62;omega),bS]
 by_cases c5:φ10 (n1,ids)=s
 rotate_left
 ·have d5:(φ10 (n1,ids)==s)=false:=by simpa using c5
  exact ⟨(φ2Y,false),by simp only[d5,nF,cT];rfl,.inl rfl⟩
 have d5:(φ10 (n1,ids)==s)=true:=by simpa using c5
 refine ⟨((n1,ids),true),by simp only[d5,nZ,cF],.inr ⟨(n1,ids),rfl,?_,c5⟩⟩
 cases hk:φm (n1,ids) with
 | true=>rfl
 | false=>
  exfalso
  have:φ10 (n1,ids)=[]:=by unfold φ10;rw[if_pos hk]
  rw[this] at c5
  apply c1
  rw[c2,←c5];rfl
noncomputable def φ3l (s:List UInt8):φS×Bool:=@dite (φS×Bool) (∃v,φ3k s v) (Classical.propDecidable _) (fun h=>(h.choose,true)) (fun _=>(φ2Y,false))
theorem φH1 {s:List UInt8} {o:Option (φS×Bool)} (h1:∀v,φ3k s v→o=some (v,true)) (h2:∃res:φS×Bool,o=some res∧(res=(φ2Y,false)∨∃v,res=(v,true)∧φ3k s v)):o=some (φ3l s):=by
 unfold φ3l
 by_cases h:∃v,φ3k s v
 ·rw[dif_pos h];exact h1 _ h.choose_spec
 ·rw[dif_neg h]
  obtain ⟨res,e,k | ⟨v,_,hv⟩⟩:=h2
  ·rw[e,k]
  ·exact absurd ⟨v,hv⟩ h
theorem φC1 (s:List UInt8) (hl:s.length<1000000000):ψ2n.f s=some (φ3l s):=φH1 (fun _ h=>φGN h) (φGw s hl)
theorem φGE (s:List UInt8):φ3l s=(φ2Y,false)∧(¬∃v,φ3k s v)∨∃v,φ3l s=(v,true)∧φ3k s v:=by
 unfold φ3l
 by_cases h:∃v,φ3k s v
 ·rw[dif_pos h];exact .inr ⟨_,rfl,h.choose_spec⟩
 ·rw[dif_neg h];exact .inl ⟨rfl,h⟩
def φ42 (s:List UInt8) (h:φ1E):Prop:=φ2J h=true∧φ1P h=s
def φ4a:φ1E:=(0,0,[])
theorem φD0 {a:Nat} (h:a<1000000000001):(a+1) * 48≤140737488355328:=by omega
theorem φDI {h:φ1E} (k:φ2J h=true):φ1V h.1∧φ1V h.2.1∧h.2.2.length≤20∧∀e∈h.2.2,e.1.length≤8∧φ1V e.2.1∧φ1V e.2.2.1∧φ1V e.2.2.2.1∧φ1V e.2.2.2.2:=by
 unfold φ2J at k
 simp only[bA,decide_eq_true_eq,List.all_eq_true] at k
 obtain ⟨k1,k2,k3,k4⟩:=k
 have hd:=φ3x k4
 refine ⟨⟨k2.1,by omega⟩,⟨k3.1,by omega⟩,hd.1,fun e he=>?_⟩
 have ho:=hd.2 e he
 have hs:=k1 e he
 have hk:=φFW ho
 unfold φ2l at ho
 unfold φ4N at hs
 simp only[bA,decide_eq_true_eq,Bool.not_eq_true',decide_eq_false_iff_not] at ho hs
 unfold φ1V
 omega
theorem φLn {s:List UInt8} {h:φ1E} (k:φ42 s h):s=fix4 (crcT (φ1q h))++φ1q h∧(fix4 (crcT (φ1q h))).length=4:=by
 refine ⟨?_,φ6h (φ4i _)⟩
 rw[←k.2];unfold φ1P;rw[if_neg (by rw[k.1];simp)]
theorem φJl (e:φ9) (r:List UInt8):entT e++r=varT (e.1.length:Int)++(e.1++(varT e.2.1++(varT e.2.2.1++(varT e.2.2.2.1++(varT e.2.2.2.2++r))))):=by
 unfold entT;simp only[aA]
theorem φCH (pre:List UInt8) (ns:List Int) (r:List UInt8) (hn:∀x∈ns,φ1V x) (hl:(pre++((ns.map varT).flatten++r)).length<1000000000) :
  ψ3D.f (pre++((ns.map varT).flatten++r)) (pre.length:Int) (ns.length:Int)=some (ns,(((pre++(ns.map varT).flatten).length:Nat):Int)):=by
 have hat:∀n,(pre++((ns.map varT).flatten++r)).drop (pre++((ns.take n).map varT).flatten).length=((ns.drop n).map varT).flatten++r:=fun n=>by
  have e:pre++((ns.map varT).flatten++r)=(pre++((ns.take n).map varT).flatten)++(((ns.drop n).map varT).flatten++r):=by
   simp only[aA]
   congr 1
   rw[←aA,←List.flatten_append,←mp,List.take_append_drop]
  rw[e,List.drop_left]
 have hnl:ns.length≤((ns.map varT).flatten).length:=by
  clear hl hat
  induction ns with
  | nil=>simp
  | cons x l ih=>
   have:=(φ3z (hn x List.mem_cons_self) []).2
   have:=ih (fun y hy=>hn y (mC _ hy))
   simp only[List.map_cons,List.flatten_cons,lA,lC];omega
 generalize hT:pre++((ns.map varT).flatten++r)=T at *
 have hTl:T.length=pre.length+(((ns.map varT).flatten).length+r.length):=by rw[←hT];simp only[lA]
 have key:=φe (step:=ψ3D.l0) (fun n (_:Unit)=>(T,(((pre++((ns.take n).map varT).flatten).length:Nat):Int),(ns.length:Int),ns.take n,(n:Int))) ns.length (fun _ _=>.inl ((((pre++(ns.map varT).flatten).length:Nat):Int),ns)) (fun _ _=>True)
  (fun rec n _ hn' _ ih=>by
   rcases Nat.lt_or_ge n ns.length with h1 | h1
   ·have hw:=φJ (show n+1<9223372036854775808 by omega)
    have hin:=hn _ (gM h1)
    have hd:((ns.drop n).map varT).flatten=varT ns[n]++((ns.drop (n+1)).map varT).flatten:=by
     rw[dG h1];rfl
    have hta:(pre++((ns.take (n+1)).map varT).flatten).length=(pre++((ns.take n).map varT).flatten).length+(varT ns[n]).length:=by
     rw[List.take_succ_eq_append_getElem h1,mp,List.flatten_append,lA,lA,lA]
     show _+(_+(varT ns[n]++[]).length)=_
     rw[List.append_nil,Nat.add_assoc]
    have r3:=φ3z hin (((ns.drop (n+1)).map varT).flatten++r)
    have hv:=φk ns[n]
    have hdl:T.length - (pre++((ns.take n).map varT).flatten).length=(varT ns[n]).length+(((ns.drop (n+1)).map varT).flatten++r).length:=by
     have:=congrArg List.length (hat n)
     rw[lD,hd,aA] at this
     rw[this,lA]
    have hin2:(decide (0≤(((pre++((ns.take n).map varT).flatten).length:Nat):Int)) && decide ((((pre++((ns.take n).map varT).flatten).length:Nat):Int)≤(T.length:Int)))=true:=by
     simp only[bA,decide_eq_true_eq];omega
    have hb:((ns.take n).length+([ns[n]]:List Int).length) * 8≤140737488355328:=lim8 (by rw[lT];omega)
    have hi:ns.take n++[ns[n]]=ns.take (n+1):=(List.take_succ_eq_append_getElem h1).symm
    have hwo:w64 ((((pre++((ns.take n).map varT).flatten).length:Nat):Int)+((varT ns[n]).length:Int))=(((pre++((ns.take (n+1)).map varT).flatten).length:Nat):Int):=by
     rw[φE (by omega) (by omega),hta];omega
    have hz:(((varT ns[n]).length:Int)==0)=false:=by
     have:=r3.2
     have:¬((varT ns[n]).length:Int)=0:=by omega
     simpa using this
    simp only[ψ3D.l0,oL,h1,dT,cT,hin2,tN,hat n,hd,aA]
    rw[φ2M _ (by rw[lA];omega),r3.1,bS]
    simp only[hz,cF,hb,dT,cT,hi,hwo,hw,ih () h1 trivial]
   ·have:n=ns.length:=by omega
    subst this
    simp[ψ3D.l0])
  (by omega) 0 () (Nat.zero_le _) trivial
 have key:lp ψ3D.l0 (T,(((pre++((ns.take 0).map varT).flatten).length:Nat):Int),(ns.length:Int),ns.take 0,0)=_:=key
 have h0:(pre++((ns.take 0).map varT).flatten).length=pre.length:=by simp
 rw[h0] at key
 have key:lp ψ3D.l0 (T,(pre.length:Int),(ns.length:Int),[],0)=_:=key
 unfold ψ3D.f
 rw[key,bS]
 simp only[φX]
theorem φG0 (s:List UInt8) (a:Int) (n:Nat) (ha:0≤a∧a≤(s.length:Int)) (hn:n≤10) (hl:s.length<1000000000) :
  ∃l b,ψ3D.f s a (n:Int)=some (l,b)∧l.length=n∧(b=-1∨(0≤b∧b≤(s.length:Int))):=by
 have key:=φ7T (step:=ψ3D.l0) (a:=(s,a,(n:Int),[],0))
  (fun x=>∃(l:List Int) (p:Int),x=(s,p,(n:Int),l,(l.length:Int))∧0≤p∧p≤(s.length:Int)∧l.length≤n)
  (fun x=>11 - x.2.2.2.1.length)
  (fun b=>(∃(l:List Int) (p:Int),b=.inl (p,l)∧0≤p∧p≤(s.length:Int)∧l.length=n)∨b=.inr (List.replicate n 0,-1))
  (fun rec x hx=>by
   obtain ⟨l,p,rfl,h1,h2,h3⟩:=hx
   by_cases c:l.length<n
   rotate_left
   ·left
    exact ⟨.inl (p,l),by simp[ψ3D.l0,c],.inl ⟨l,p,rfl,h1,h2,by omega⟩⟩
   have hin:(decide (0≤p) && decide (p≤(s.length:Int)))=true:=by simp only[bA,decide_eq_true_eq];omega
   have v3:=φ5Y (s.drop p.toNat)
   rw[lD] at v3
   have hw:=φJ (show l.length+1<9223372036854775808 by omega)
   have hwp:w64 (p+(φi (s.drop p.toNat)).2)=p+(φi (s.drop p.toNat)).2:=φE (by omega) (by omega)
   have hb:(l.length+([(φi (s.drop p.toNat)).1]:List Int).length) * 8≤140737488355328:=lim8 (by omega)
   have hrv:=φ2M (s.drop p.toNat) (by rw[lD];omega)
   by_cases c2:(φi (s.drop p.toNat)).2=0
   ·left
    have d2:((φi (s.drop p.toNat)).2==0)=true:=by simpa using c2
    have d3:(decide (0≤(n:Int)) && decide (8 * (n:Int)≤140737488355328))=true:=by simp only[bA,decide_eq_true_eq];omega
    refine ⟨.inr (List.replicate n 0,-1),?_,.inr rfl⟩
    simp only[ψ3D.l0,oL,c,dT,cT,hin,hrv,bS,d2,beq_self_eq_true,d3,tN]
   ·right
    have d2:((φi (s.drop p.toNat)).2==0)=false:=by simpa using c2
    refine ⟨(s,p+(φi (s.drop p.toNat)).2,(n:Int),l++[(φi (s.drop p.toNat)).1],((l.length+1:Nat):Int)),⟨l++[(φi (s.drop p.toNat)).1],p+(φi (s.drop p.toNat)).2,by simp only[lA,List.length_singleton],by omega,by omega,by simp only[lA,List.length_singleton];omega⟩,by simp only[lA,List.length_singleton];omega,?_⟩
    simp only[ψ3D.l0,oL,c,dT,cT,hin,hrv,bS,d2,cF,hb,hwp,hw])
  ⟨[],a,rfl,ha.1,ha.2,by simp⟩ (by simp)
 obtain ⟨b,eb,hb⟩:=key
 unfold ψ3D.f
 rw[eb,bS]
 rcases hb with ⟨l,p,rfl,h1,h2,h3⟩ | rfl
 ·simp only[φX];exact ⟨l,p,rfl,h3,.inr ⟨h1,h2⟩⟩
 ·simp only[φd];exact ⟨_,_,rfl,by simp,.inl rfl⟩
end Go.Rf.G
