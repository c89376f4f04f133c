import Derived.Test.YtakpldeobnelfaaGreatDoorRf5
import Derived.Test.YtakpldeobnelfaaGreatDoorLHintsUnseenFns
namespace Go.Rf.G
open Go Go.Rf
set_option linter.unusedVariables false
set_option linter.unusedSimpArgs false
set_option synthInstance.maxSize 4000
theorem loopF_eq {A B:Type} {step:(A→Option B)→A→Option B} {F:A→B} {P:A→Prop} {m:A→Nat}
  (h:∀rec a,P a→(∀a',P a'→m a'<m a→rec a'=some (F a'))→step rec a=some (F a)):∀n a,P a→m a<n→loopF step n a=some (F a)
 | 0,_,_,hn=>by omega
 | n+1,a,hp,hn=>h (loopF step n) a hp fun a' hp' hlt=>loopF_eq h n a' hp' (by omega)
theorem lp_eq {A B:Type} {step:(A→Option B)→A→Option B} (F:A→B) (P:A→Prop) (m:A→Nat)
  (h:∀rec a,P a→(∀a',P a'→m a'<m a→rec a'=some (F a'))→step rec a=some (F a)) {a:A} (hp:P a) (hm:m a<2 ^ 62):lp step a=some (F a):=
 loopF_eq h FUEL a hp (Nat.lt_of_lt_of_le hm fuel_le)
theorem lp_up {A B σ:Type} {step:(A→Option B)→A→Option B} (st:Nat→σ→A) (N:Nat) (F:Nat→σ→B) (Inv:Nat→σ→Prop)
  (h:∀rec n s,n≤N→Inv n s→(∀s',n<N→Inv (n+1) s'→rec (st (n+1) s')=some (F (n+1) s'))→step rec (st n s)=some (F n s))
  (hN:N<2 ^ 62):∀n s,n≤N→Inv n s→lp step (st n s)=some (F n s):=by
 have key:∀k f n s,n≤N→Inv n s→N - n=k→k<f→loopF step f (st n s)=some (F n s):=by
  intro k
  induction k with
  | zero=>
   intro f n s hn hi hk hf
   obtain ⟨f,rfl⟩:∃g,f=g+1:=⟨f - 1,by omega⟩
   exact h _ n s hn hi fun s' hlt=>by omega
  | succ k ih=>
   intro f n s hn hi hk hf
   obtain ⟨f,rfl⟩:∃g,f=g+1:=⟨f - 1,by omega⟩
   exact h _ n s hn hi fun s' hlt hi'=>ih f (n+1) s' hlt hi' (by omega) (by omega)
 intro n s hn hi
 exact key (N - n) FUEL n s hn hi rfl (Nat.lt_of_lt_of_le (by omega) fuel_le)
@[simp] theorem inB_nat (n m:Nat):inB (n:Int) m=decide (n<m):=by
 unfold inB
 by_cases h:n<m<;>simp[h,Int.natCast_nonneg]
@[simp] theorem rdA_nat {α:Type} (z:α) (xs:List α) (n:Nat):rdA z xs (n:Int)=xs.getD n z:=rfl
theorem w64_id {n:Int} (h1:-9223372036854775808≤n) (h2:n<9223372036854775808):w64 n=n:=by
 unfold w64 IntKind.wrap
 simp only[IntKind.bits,IntKind.signed]
 by_cases h:n % 2 ^ 64≥2 ^ 63<;>simp[h]<;>omega
theorem w64_nat {n:Nat} (h:n<9223372036854775808):w64 (n:Int)=n:=w64_id (by omega) (by omega)
theorem w64_succ {n:Nat} (h:n+1<9223372036854775808):w64 ((n:Int)+1)=((n+1:Nat):Int):=by
 rw[w64_id (by omega) (by omega)];omega
theorem getD_lt {α:Type} {xs:List α} {z:α} {n:Nat} (h:n<xs.length):xs.getD n z=xs[n]:=by simp[List.getD,h]
def sumN {α:Type} (f:α→Nat):List α→Nat
 | []=>0
 | x::r=>f x+sumN f r
theorem sumN_drop {α:Type} (f:α→Nat) {l:List α} {n:Nat} (h:n<l.length):sumN f (l.drop n)=f l[n]+sumN f (l.drop (n+1)):=by
 rw[List.drop_eq_getElem_cons h];rfl
theorem sumN_mem {α:Type} (f:α→Nat):∀{l:List α} {x:α},x∈l→f x≤sumN f l
 | y::l,x,h=>by
  rcases List.mem_cons.1 h with k | k
  ·subst k;exact Nat.le_add_right _ _
  ·exact Nat.le_trans (sumN_mem f k) (Nat.le_add_left _ _)
def markL {X:Type} (mk:Int→X→X) (c:Nat):List X→Int→List X
 | [],_=>[]
 | x::r,k=>mk k x::markL mk c r (k+c)
@[simp] theorem markL_len {X:Type} (mk:Int→X→X) (c:Nat):∀(l:List X) (k:Int),(markL mk c l k).length=l.length
 | [],_=>rfl
 | x::r,k=>by simp[markL,markL_len mk c r]
theorem all_loop {X A B:Type} {step:(A→Option (B ⊕ Bool))→A→Option (B ⊕ Bool)} (l:List X) (f:X→Bool) (st:Nat→A) (b:B) (hl:l.length<2 ^ 62)
  (hs:∀rec n,(h:n<l.length)→step rec (st n)=if f l[n]=true then rec (st (n+1)) else some (.inr false))
  (he:∀rec,step rec (st l.length)=some (.inl b)):lp step (st 0)=some (if l.all f=true then .inl b else .inr false):=by
 have:=lp_up (step:=step) (fun n (_:Unit)=>st n) l.length (fun n _=>if (l.drop n).all f=true then .inl b else .inr false) (fun _ _=>True)
  (fun rec n s hn _ ih=>by
   rcases Nat.lt_or_ge n l.length with h | h
   ·rw[hs rec n h,ih () h trivial,List.drop_eq_getElem_cons h,List.all_cons]
    cases f l[n]<;>simp
   ·have:n=l.length:=by omega
    subst this
    rw[he];simp) hl 0 () (Nat.zero_le _) trivial
 simpa using this
theorem find_loop {X A B C:Type} {step:(A→Option (B ⊕ C))→A→Option (B ⊕ C)} (l:List X) (f:X→Bool) (r:X→C) (st:Nat→A) (b:B) (hl:l.length<2 ^ 62)
  (hs:∀rec n,(h:n<l.length)→step rec (st n)=if f l[n]=true then some (.inr (r l[n])) else rec (st (n+1)))
  (he:∀rec,step rec (st l.length)=some (.inl b)):lp step (st 0)=some (match l.find? f with | some x=>.inr (r x) | none=>.inl b):=by
 have:=lp_up (step:=step) (fun n (_:Unit)=>st n) l.length (fun n _=>match (l.drop n).find? f with | some x=>.inr (r x) | none=>.inl b) (fun _ _=>True)
  (fun rec n s hn _ ih=>by
   rcases Nat.lt_or_ge n l.length with h | h
   ·rw[hs rec n h,ih () h trivial,List.drop_eq_getElem_cons h,List.find?_cons]
    cases hf:f l[n]<;>simp
   ·have:n=l.length:=by omega
    subst this
    rw[he];simp) hl 0 () (Nat.zero_le _) trivial
 simpa using this
theorem fold_loop {X A B S:Type} {step:(A→Option B)→A→Option B} (l:List X) (g:S→X→S) (st:Nat→S→A) (out:S→B) (Inv:Nat→S→Prop) (hl:l.length<2 ^ 62)
  (hs:∀rec n s,(h:n<l.length)→Inv n s→step rec (st n s)=rec (st (n+1) (g s l[n])))
  (hi:∀n s,(h:n<l.length)→Inv n s→Inv (n+1) (g s l[n]))
  (he:∀rec s,Inv l.length s→step rec (st l.length s)=some (out s)) (s:S) (h0:Inv 0 s):lp step (st 0 s)=some (out (l.foldl g s)):=by
 have:=lp_up (step:=step) st l.length (fun n s=>out ((l.drop n).foldl g s)) Inv
  (fun rec n s hn hv ih=>by
   rcases Nat.lt_or_ge n l.length with h | h
   ·rw[hs rec n s h hv,ih _ h (hi n s h hv),List.drop_eq_getElem_cons h];rfl
   ·have:n=l.length:=by omega
    subst this
    rw[he rec s hv];simp) hl 0 s (Nat.zero_le _) h0
 simpa using this
theorem lp_down {A B σ:Type} {step:(A→Option B)→A→Option B} (st:Nat→σ→A) (F:Nat→σ→B) (Inv:Nat→σ→Prop)
  (h:∀rec n s,Inv n s→(∀m s',n=m+1→Inv m s'→rec (st m s')=some (F m s'))→step rec (st n s)=some (F n s)):∀n s,n<2 ^ 62→Inv n s→lp step (st n s)=some (F n s):=by
 have key:∀n f s,n<f→Inv n s→loopF step f (st n s)=some (F n s):=by
  intro n
  induction n with
  | zero=>
   intro f s hf hi
   obtain ⟨f,rfl⟩:∃g,f=g+1:=⟨f - 1,by omega⟩
   exact h _ 0 s hi fun m s' he=>by omega
  | succ n ih=>
   intro f s hf hi
   obtain ⟨f,rfl⟩:∃g,f=g+1:=⟨f - 1,by omega⟩
   exact h _ (n+1) s hi fun m s' he hi'=>by
    have:m=n:=by omega
    subst this
    exact ih f s' (by omega) hi'
 intro n s hn hi
 exact key n FUEL s (Nat.lt_of_lt_of_le hn fuel_le) hi
@[simp] theorem caseS_l {A B C:Type} (a:A) (f:A→C) (g:B→C):caseS (.inl a) f g=f a:=rfl
@[simp] theorem caseS_r {A B C:Type} (b:B) (f:A→C) (g:B→C):caseS (.inr b) f g=g b:=rfl
theorem pair_eta {A B:Type} (p:A×B):(p.1,p.2)=p:=rfl
theorem rdA_set {α:Type} {z:α} {r:List α} {n:Nat} {v:α} (h:n<r.length):rdA z (r.set n v) (n:Int)=v:=by simp[List.getD,h]
theorem len_ne {a b:Nat} (h:a≠b):((a:Int) != (b:Int))=true:=by
 have:(a:Int)≠(b:Int):=by omega
 simpa using this
theorem len_eq {a b:Nat} (h:a=b):((a:Int) != (b:Int))=false:=by simp[h]
theorem impl_in_eq (n a b:Int):ψ15.f n a b=some (decide (a≤n∧n≤b)):=by
 unfold ψ15.f
 by_cases h:a≤n
 ·have h2:n≥a:=h
  simp[h,h2]
 ·have h2:¬n≥a:=h
  simp[h,h2]
theorem spec_l1In_eq (n a b:Int):ψ2w.f n a b=some (decide (a≤n∧n≤b)):=impl_in_eq n a b
def keyOk (s:List UInt8):Bool:=decide (1≤s.length∧s.length≤8)
theorem impl_KeyOk_eq (s:List UInt8):ψP.f s=some (keyOk s):=by
 unfold ψP.f keyOk
 rw[impl_in_eq,Option.bind_some]
 congr 1
 apply decide_eq_decide.2
 omega
theorem spec_KeyOk_eq (s:List UInt8):ψ21.f s=some (keyOk s):=impl_KeyOk_eq s
def putOk (p:List UInt8×Bool×List UInt8):Bool:=keyOk p.1 && (decide (p.2.2.length≤24) && (!p.2.1 || p.2.2==[]))
def putsOk (l:List (List UInt8×Bool×List UInt8)):Bool:=decide (l.length≤8) && l.all putOk
theorem spec_PutsOk_eq (l:List (List UInt8×Bool×List UInt8)) (hl:l.length<2 ^ 62):ψ28.f l=some (putsOk l):=by
 unfold ψ28.f putsOk
 by_cases h8:l.length≤8
 rotate_left
 ·have:(l.length:Int) > 8:=by omega
  simp[this,h8]
 have h9:¬(l.length:Int) > 8:=by omega
 have key:=all_loop (step:=ψ28.l0) l putOk (fun n=>(l,(n:Int))) () hl
  (fun rec n h=>by
   simp only[ψ28.l0,Int.ofNat_lt,h,decide_true,cond_true,inB_nat,rdA_nat,getD_lt h,pair_eta,spec_KeyOk_eq,Option.bind_some,w64_succ (show n+1<9223372036854775808 by omega),putOk]
   have hw:w64 ((n:Int)+1)=(n:Int)+1:=w64_id (by omega) (by omega)
   rcases Bool.eq_false_or_eq_true (keyOk l[n].1) with hko | hko
   rotate_left
   ·simp[hko]
   ·by_cases h24:l[n].2.2.length≤24
    ·have:¬(l[n].2.2.length:Int) > 24:=by omega
     rcases Bool.eq_false_or_eq_true l[n].2.1 with hd | hd
     ·rcases Bool.eq_false_or_eq_true (l[n].2.2==[]) with he | he<;>simp[this,h24,hd,he,hko,hw]
     ·simp[this,h24,hd,hko,hw]
    ·have:(l[n].2.2.length:Int) > 24:=by omega
     simp[this,h24,hko])
  (fun rec=>by simp[ψ28.l0])
 have key:lp ψ28.l0 (l,0)=_:=key
 rw[key]
 cases h:l.all putOk<;>simp[h8,h9]
abbrev PutT:=List UInt8×Bool×List UInt8
abbrev PairT:=List UInt8×List UInt8×Int
abbrev EntryT:=List UInt8×Int×Int×Int×Int
def dirGet (l:List EntryT) (key:List UInt8):EntryT×Bool:=
 match l.find? (fun e=>e.1==key) with
 | some e=>(e,true)
 | none=>(([],0,0,0,0),false)
theorem impl_DirGet_eq (l:List EntryT) (key:List UInt8) (hl:l.length<2 ^ 62):ψ7.f l key=some (dirGet l key):=by
 have hk:=find_loop (step:=ψ7.l0) l (fun e=>e.1==key) (fun e=>(e,true)) (fun n=>(key,([],0,0,0,0),l,(l.length:Int),(n:Int))) ([],0,0,0,0) hl
  (fun rec n h=>by
   simp only[ψ7.l0,Int.ofNat_lt,h,decide_true,cond_true,inB_nat,rdA_nat,getD_lt h,pair_eta,w64_succ (show n+1<9223372036854775808 by omega)]
   cases l[n].1==key<;>simp)
  (fun rec=>by simp[ψ7.l0])
 have hk:lp ψ7.l0 (key,([],0,0,0,0),l,(l.length:Int),0)=_:=hk
 unfold ψ7.f dirGet
 rw[hk,Option.bind_some]
 cases List.find? (fun e=>e.1==key) l<;>rfl
theorem spec_DirGet_eq (l:List EntryT) (key:List UInt8) (hl:l.length<2 ^ 62):ψ1m.f l key=some (dirGet l key):=by
 have hk:=find_loop (step:=ψ1m.l0) l (fun e=>e.1==key) (fun e=>(e,true)) (fun n=>(l,key,([],0,0,0,0),(n:Int))) ([],0,0,0,0) hl
  (fun rec n h=>by
   simp only[ψ1m.l0,Int.ofNat_lt,h,decide_true,cond_true,inB_nat,rdA_nat,getD_lt h,pair_eta,w64_succ (show n+1<9223372036854775808 by omega)]
   cases l[n].1==key<;>simp)
  (fun rec=>by simp[ψ1m.l0])
 have hk:lp ψ1m.l0 (l,key,([],0,0,0,0),0)=_:=hk
 unfold ψ1m.f dirGet
 rw[hk,Option.bind_some]
 cases List.find? (fun e=>e.1==key) l<;>rfl
theorem snoc_ind {α:Type} {P:List α→Prop} (h0:P []) (hs:∀l x,P l→P (l++[x])):∀l,P l:=by
 have key:∀n (l:List α),l.length=n→P l:=by
  intro n
  induction n with
  | zero=>intro l h;rw[List.eq_nil_of_length_eq_zero h];exact h0
  | succ n ih=>
   intro l h
   have hlt:n<l.length:=by omega
   have e:l.take n++[l[n]]=l:=by
    rw[←List.take_succ_eq_append_getElem hlt,List.take_of_length_le (by omega)]
   rw[←e]
   exact hs _ _ (ih _ (by simp;omega))
 exact fun l=>key l.length l rfl
theorem lim40 {a:Nat} (h:a<1000000000001):(a+1) * 40≤140737488355328:=by omega
def leK (a b:List UInt8):Bool:=Op.bytesLess a b || a==b
def insB {α:Type} (l:List (List UInt8×α)) (p:List UInt8×α):List (List UInt8×α):=
 let k:=(l.takeWhile fun x=>leK x.1 p.1).length
 l.take k++[p]++l.drop k
def dropK {α:Type} (l:List (List UInt8×α)) (key:List UInt8):List (List UInt8×α):=l.filter fun x=>!(x.1==key)
theorem insB_len {α:Type} (l:List (List UInt8×α)) (p:List UInt8×α):(insB l p).length=l.length+1:=by
 have:(l.takeWhile fun x=>leK x.1 p.1).length≤l.length:=(List.takeWhile_sublist _).length_le
 simp only[insB,List.length_append,List.length_take,List.length_drop,List.length_cons,List.length_nil];omega
theorem dropK_len {α:Type} (l:List (List UInt8×α)) (key:List UInt8):(dropK l key).length≤l.length:=List.length_filter_le _ _
theorem foldl_filter {α:Type} (f:α→Bool):∀(l s:List α),l.foldl (fun s x=>if f x=true then s++[x] else s) s=s++l.filter f
 | [],s=>by simp
 | x::l,s=>by
  rw[List.foldl_cons,foldl_filter f l,List.filter_cons]
  cases f x<;>simp
theorem takeWhile_drop {α:Type} (f:α→Bool) (l:List α) (n:Nat) (h:n<l.length):((l.drop n).takeWhile f).length=if f l[n]=true then ((l.drop (n+1)).takeWhile f).length+1 else 0:=by
 rw[List.drop_eq_getElem_cons h,List.takeWhile_cons]
 split<;>simp
theorem dnn {k:Int} (h:0≤k):decide (k<0)=false:=by
 have:¬k<0:=by omega
 simp[this]
theorem less_irrefl:∀a:List UInt8,Op.bytesLess a a=false
 | []=>rfl
 | x::a=>by simp[Op.bytesLess,less_irrefl a]
theorem u8_lt {a b:UInt8}:a<b↔a.toNat<b.toNat:=UInt8.lt_iff_toNat_lt
theorem u8_eq {a b:UInt8} (h:a.toNat=b.toNat):a=b:=UInt8.toNat.inj h
theorem less_trans:∀a b c:List UInt8,Op.bytesLess a b=true→Op.bytesLess b c=true→Op.bytesLess a c=true
 | _,[],_,h,_=>by simp[Op.bytesLess] at h
 | _,_::_,[],_,h=>by simp[Op.bytesLess] at h
 | [],_::_,_::_,_,_=>rfl
 | x::a,y::b,z::c,h1,h2=>by
  simp only[Op.bytesLess,Bool.or_eq_true,decide_eq_true_eq,Bool.and_eq_true,beq_iff_eq] at h1 h2 ⊢
  rcases h1 with h1 | ⟨h1,k1⟩
  ·rcases h2 with h2 | ⟨h2,k2⟩
   ·left;rw[u8_lt] at *;omega
   ·left;rw[←h2];exact h1
  ·rcases h2 with h2 | ⟨h2,k2⟩
   ·left;rw[h1];exact h2
   ·exact .inr ⟨h1.trans h2,less_trans a b c k1 k2⟩
theorem less_total:∀a b:List UInt8,Op.bytesLess a b=false→a≠b→Op.bytesLess b a=true
 | [],[],_,h=>absurd rfl h
 | [],_::_,h,_=>by simp[Op.bytesLess] at h
 | _::_,[],_,_=>rfl
 | x::a,y::b,h1,h2=>by
  simp only[Op.bytesLess,Bool.or_eq_false_iff,decide_eq_false_iff_not,Bool.and_eq_false_iff] at h1
  simp only[Op.bytesLess,Bool.or_eq_true,decide_eq_true_eq,Bool.and_eq_true,beq_iff_eq]
  by_cases e:x=y
  ·subst e
   right
   refine ⟨rfl,less_total a b ?_ fun e=>h2 (by rw[e])⟩
   rcases h1.2 with k | k
   ·simp at k
   ·exact k
  ·left
   rw[u8_lt] at *
   have:=h1.1
   have hne:x.toNat≠y.toNat:=fun k=>e (u8_eq k)
   omega
theorem less_asymm (a b:List UInt8) (h:Op.bytesLess a b=true):Op.bytesLess b a=false:=by
 cases hb:Op.bytesLess b a with
 | false=>rfl
 | true=>have:=less_trans a b a h hb;rw[less_irrefl] at this;simp at this
theorem less_ne {a b:List UInt8} (h:Op.bytesLess a b=true):a≠b:=fun e=>by rw[e,less_irrefl] at h;simp at h
theorem leK_not (a b:List UInt8):leK a b=!Op.bytesLess b a:=by
 unfold leK
 cases h:Op.bytesLess a b with
 | true=>rw[less_asymm a b h];rfl
 | false=>
  by_cases e:a=b
  ·subst e;simp[h]
  ·rw[less_total a b h e]
   have:(a==b)=false:=by simpa using e
   simp[this]
def nameB (b:UInt8):Bool:=(decide (97≤b.toNat) && decide (b.toNat≤122)) || (decide (48≤b.toNat) && decide (b.toNat≤57))
def nameOk (s:List UInt8):Bool:=s.all nameB && decide (1≤s.length∧s.length≤12)
theorem bAt_nat (s:List UInt8) (n:Nat) (h:n<s.length):bAt s (n:Int)=(s[n].toNat:Int):=by
 unfold bAt
 rw[Int.toNat_natCast,getD_lt h]
theorem dec_ge {a:Nat} {k:Nat}:decide ((a:Int)≥(k:Int))=decide (k≤a):=decide_eq_decide.2 (by omega)
theorem dec_le {a:Nat} {k:Nat}:decide ((a:Int)≤(k:Int))=decide (a≤k):=decide_eq_decide.2 (by omega)
theorem impl_NameOk_eq (s:List UInt8) (hl:s.length<2 ^ 62):ψS.f s=some (nameOk s):=by
 have key:=all_loop (step:=ψS.l0) s nameB (fun n=>(s,(n:Int))) s hl
  (fun rec n h=>by
   have hw:w64 ((n:Int)+1)=((n+1:Nat):Int):=w64_succ (by omega)
   have e1:decide ((s[n].toNat:Int)≥97)=decide (97≤s[n].toNat):=dec_ge (k:=97)
   have e2:decide ((s[n].toNat:Int)≤122)=decide (s[n].toNat≤122):=dec_le (k:=122)
   have e3:decide ((s[n].toNat:Int)≥48)=decide (48≤s[n].toNat):=dec_ge (k:=48)
   have e4:decide ((s[n].toNat:Int)≤57)=decide (s[n].toNat≤57):=dec_le (k:=57)
   simp only[ψS.l0,Int.ofNat_lt,h,decide_true,cond_true,inB_nat,bAt_nat s n h,e1,e2,e3,e4]
   unfold nameB
   cases decide (97≤s[n].toNat)<;>cases decide (s[n].toNat≤122)<;>cases decide (48≤s[n].toNat)<;>cases decide (s[n].toNat≤57)<;>simp[hw])
  (fun rec=>by simp[ψS.l0])
 have key:lp ψS.l0 (s,0)=_:=key
 unfold ψS.f nameOk
 rw[key,Option.bind_some]
 have e:decide ((1:Int)≤(s.length:Int)∧(s.length:Int)≤12)=decide (1≤s.length∧s.length≤12):=decide_eq_decide.2 (by omega)
 cases h:s.all nameB
 ·simp
 ·simp only[if_true,caseS_l,impl_in_eq,Option.bind_some,e,Bool.true_and]
theorem spec_NameOk_eq (s:List UInt8) (hl:s.length<2 ^ 62):ψ24.f s=some (nameOk s):=by
 have key:=all_loop (step:=ψ24.l0) s nameB (fun n=>(s,(n:Int))) s hl
  (fun rec n h=>by
   have hw:w64 ((n:Int)+1)=((n+1:Nat):Int):=w64_succ (by omega)
   have e1:decide ((s[n].toNat:Int)≥97)=decide (97≤s[n].toNat):=dec_ge (k:=97)
   have e2:decide ((s[n].toNat:Int)≤122)=decide (s[n].toNat≤122):=dec_le (k:=122)
   have e3:decide ((s[n].toNat:Int)≥48)=decide (48≤s[n].toNat):=dec_ge (k:=48)
   have e4:decide ((s[n].toNat:Int)≤57)=decide (s[n].toNat≤57):=dec_le (k:=57)
   simp only[ψ24.l0,Int.ofNat_lt,h,decide_true,cond_true,inB_nat,bAt_nat s n h,e1,e2,e3,e4]
   unfold nameB
   cases decide (97≤s[n].toNat)<;>cases decide (s[n].toNat≤122)<;>cases decide (48≤s[n].toNat)<;>cases decide (s[n].toNat≤57)<;>simp[hw])
  (fun rec=>by simp[ψ24.l0])
 have key:lp ψ24.l0 (s,0)=_:=key
 unfold ψ24.f nameOk
 rw[key,Option.bind_some]
 have e:decide ((1:Int)≤(s.length:Int)∧(s.length:Int)≤12)=decide (1≤s.length∧s.length≤12):=decide_eq_decide.2 (by omega)
 cases h:s.all nameB
 ·simp
 ·simp only[if_true,caseS_l,spec_l1In_eq,Option.bind_some,e,Bool.true_and]
abbrev FileT:=List UInt8×List UInt8×Int
abbrev DiskT:=List FileT×Int×Int×Bool
def usedN (l:List FileT):Nat:=sumN (fun f=>f.2.1.length) l
def fileOk (f:FileT):Bool:=nameOk f.1 && decide (0≤f.2.2∧f.2.2≤(f.2.1.length:Int))
def riseF:Option (List UInt8)→List FileT→Bool
 | _,[]=>true
 | none,f::r=>riseF (some f.1) r
 | some p,f::r=>Op.bytesLess p f.1 && riseF (some f.1) r
def filesOk (l:List FileT):Bool:=l.all fileOk && riseF none l
def diskOk (d:DiskT):Bool:=decide (d.1.length≤130) && (decide (0≤d.2.1∧d.2.1≤100000) && (decide (-1≤d.2.2.1∧d.2.2.1≤100000) && (decide ((usedN d.1:Int)≤d.2.1) && filesOk d.1)))
def before (l:List FileT):Nat→Option (List UInt8)
 | 0=>none
 | n+1=>some (l.getD n ([],[],0)).1
def okFrom (p:Option (List UInt8)) (l:List FileT):Bool:=l.all fileOk && riseF p l
def follows (p:Option (List UInt8)) (f:FileT):Bool:=match p with | none=>true | some q=>Op.bytesLess q f.1
theorem okFrom_cons (p:Option (List UInt8)) (f:FileT) (l:List FileT):okFrom p (f::l)=(fileOk f && follows p f && okFrom (some f.1) l):=by
 unfold okFrom follows
 cases p<;>simp only[List.all_cons,riseF]<;>cases fileOk f<;>simp[Bool.and_comm,Bool.and_assoc,Bool.and_left_comm]
theorem spec_l3Used_eq (d:DiskT) (hl:d.1.length<2 ^ 62) (hu:usedN d.1<2 ^ 62):ψ39.f d=some (usedN d.1:Int):=by
 have key:=lp_up (step:=ψ39.l0) (fun n (s:Int)=>(d,s,(n:Int))) d.1.length (fun n s=>s+(usedN (d.1.drop n):Int)) (fun n s=>0≤s∧s+(usedN (d.1.drop n):Int)<2 ^ 62)
  (fun rec n s hn hi ih=>by
   rcases Nat.lt_or_ge n d.1.length with h | h
   ·have e:usedN (d.1.drop n)=d.1[n].2.1.length+usedN (d.1.drop (n+1)):=sumN_drop _ h
    have h2:=hi.2
    have h1:=hi.1
    rw[e] at h2
    simp only[ψ39.l0,Int.ofNat_lt,h,decide_true,cond_true,inB_nat,rdA_nat,getD_lt h,w64_succ (show n+1<9223372036854775808 by omega)]
    rw[w64_id (by omega) (by omega),ih _ h ⟨by omega,by omega⟩,e]
    congr 1;omega
   ·have:n=d.1.length:=by omega
    subst this
    simp[ψ39.l0,usedN,sumN])
  hl 0 0 (Nat.zero_le _) ⟨by omega,by simp only[List.drop_zero];omega⟩
 have key:lp ψ39.l0 (d,0,0)=_:=key
 unfold ψ39.f
 rw[key];simp
theorem impl_used_eq (d:DiskT) (hl:d.1.length<2 ^ 62) (hu:usedN d.1<2 ^ 62):ψ1L.f d=some (usedN d.1:Int):=by
 have key:=lp_up (step:=ψ1L.l0) (fun n (s:Int)=>(s,d.1,(d.1.length:Int),(n:Int))) d.1.length (fun n s=>s+(usedN (d.1.drop n):Int)) (fun n s=>0≤s∧s+(usedN (d.1.drop n):Int)<2 ^ 62)
  (fun rec n s hn hi ih=>by
   rcases Nat.lt_or_ge n d.1.length with h | h
   ·have e:usedN (d.1.drop n)=d.1[n].2.1.length+usedN (d.1.drop (n+1)):=sumN_drop _ h
    have h2:=hi.2
    have h1:=hi.1
    rw[e] at h2
    simp only[ψ1L.l0,Int.ofNat_lt,h,decide_true,cond_true,inB_nat,rdA_nat,getD_lt h,w64_succ (show n+1<9223372036854775808 by omega)]
    rw[w64_id (by omega) (by omega),ih _ h ⟨by omega,by omega⟩,e]
    congr 1;omega
   ·have:n=d.1.length:=by omega
    subst this
    simp[ψ1L.l0,usedN,sumN])
  hl 0 0 (Nat.zero_le _) ⟨by omega,by simp only[List.drop_zero];omega⟩
 have key:lp ψ1L.l0 (0,d.1,(d.1.length:Int),0)=_:=key
 unfold ψ1L.f
 rw[key];simp
theorem before_succ (l:List FileT) (n:Nat) (h:n<l.length):before l (n+1)=some l[n].1:=by
 show some (l.getD n ([],[],0)).1=_
 rw[getD_lt h]
theorem nameOk_len {f:List UInt8} (h:nameOk f=true):f.length≤12:=by
 unfold nameOk at h
 simp only[Bool.and_eq_true,decide_eq_true_eq] at h
 exact h.2.2
theorem impl_DiskOk_l0 (d:DiskT) (hl:d.1.length<2 ^ 62) (hu:usedN d.1<2 ^ 62) (hn:∀f∈d.1,f.1.length<2 ^ 62):lp ψB.l0 (d,0,d.1,(d.1.length:Int),0)=some (if filesOk d.1=true then .inl (d,(usedN d.1:Int)) else .inr false):=by
 have key:=lp_up (step:=ψB.l0) (fun n (s:Int)=>(d,s,d.1,(d.1.length:Int),(n:Int))) d.1.length (fun n s=>if okFrom (before d.1 n) (d.1.drop n)=true then .inl (d,s+(usedN (d.1.drop n):Int)) else .inr false) (fun n s=>0≤s∧s+(usedN (d.1.drop n):Int)<2 ^ 62)
  (fun rec n s hn' hi ih=>by
   rcases Nat.lt_or_ge n d.1.length with h | h
   ·have e:usedN (d.1.drop n)=d.1[n].2.1.length+usedN (d.1.drop (n+1)):=sumN_drop _ h
    have h2:=hi.2
    have h1:=hi.1
    rw[e] at h2
    have hw:w64 ((n:Int)+1)=((n+1:Nat):Int):=w64_succ (by omega)
    have hw2:w64 (s+(d.1[n].2.1.length:Int))=s+(d.1[n].2.1.length:Int):=w64_id (by omega) (by omega)
    have ih2:=ih (s+(d.1[n].2.1.length:Int)) h ⟨by omega,by omega⟩
    have ea:s+(d.1[n].2.1.length:Int)+(usedN (d.1.drop (n+1)):Int)=s+((d.1[n].2.1.length+usedN (d.1.drop (n+1)):Nat):Int):=by omega
    rw[before_succ d.1 n h,ea] at ih2
    have hnm:=hn d.1[n] (List.getElem_mem h)
    rw[List.drop_eq_getElem_cons h,okFrom_cons,←List.drop_eq_getElem_cons h,e]
    simp only[ψB.l0,Int.ofNat_lt,h,decide_true,cond_true,inB_nat,rdA_nat,getD_lt h,impl_NameOk_eq _ hnm,Option.bind_some,impl_in_eq]
    unfold fileOk
    rcases Bool.eq_false_or_eq_true (nameOk d.1[n].1) with k1 | k1
    rotate_left
    ·simp[k1]
    rcases Bool.eq_false_or_eq_true (decide (0≤d.1[n].2.2∧d.1[n].2.2≤(d.1[n].2.1.length:Int))) with k2 | k2
    rotate_left
    ·simp only[k1,k2,Bool.not_true,Bool.not_false,cond_false,cond_true,Option.bind_some,caseS_r];simp
    simp only[k1,k2,Bool.not_true,cond_false,Bool.true_and]
    cases n with
    | zero=>
     have z:¬((0:Nat):Int) > 0:=by omega
     simp only[z,decide_false,cond_false,Option.bind_some,caseS_l,hw2,hw,ih2,before,follows,Bool.true_and]
    | succ m=>
     have z:((m+1:Nat):Int) > 0:=by omega
     have hm:m<d.1.length:=by omega
     have z2:w64 (((m+1:Nat):Int) - 1)=(m:Int):=by rw[w64_id (by omega) (by omega)];omega
     rw[before_succ d.1 m hm]
     simp only[z,decide_true,cond_true,z2,inB_nat,hm,rdA_nat,getD_lt hm,follows]
     rcases Bool.eq_false_or_eq_true (Op.bytesLess d.1[m].1 d.1[m+1].1) with k3 | k3
     ·simp only[k3,Bool.not_true,cond_false,Option.bind_some,caseS_l,hw2,hw,ih2,Bool.true_and]
     ·simp[k3]
   ·have:n=d.1.length:=by omega
    subst this
    simp[ψB.l0,okFrom,riseF,usedN,sumN])
  hl 0 0 (Nat.zero_le _) ⟨by omega,by simp only[List.drop_zero];omega⟩
 have key:lp ψB.l0 (d,0,d.1,(d.1.length:Int),0)=_:=key
 rw[key,List.drop_zero,Int.zero_add];rfl
theorem spec_DiskOk_l0 (d:DiskT) (hl:d.1.length<2 ^ 62) (hn:∀f∈d.1,f.1.length<2 ^ 62):lp ψ1q.l0 (d,0)=some (if filesOk d.1=true then .inl () else .inr false):=by
 have key:=lp_up (step:=ψ1q.l0) (fun n (_:Unit)=>(d,(n:Int))) d.1.length (fun n _=>if okFrom (before d.1 n) (d.1.drop n)=true then .inl () else .inr false) (fun _ _=>True)
  (fun rec n s hn' _ ih=>by
   rcases Nat.lt_or_ge n d.1.length with h | h
   ·have hw:w64 ((n:Int)+1)=((n+1:Nat):Int):=w64_succ (by omega)
    have ih2:=ih () h trivial
    rw[before_succ d.1 n h] at ih2
    have hnm:=hn d.1[n] (List.getElem_mem h)
    rw[List.drop_eq_getElem_cons h,okFrom_cons]
    simp only[ψ1q.l0,Int.ofNat_lt,h,decide_true,cond_true,inB_nat,rdA_nat,getD_lt h,spec_NameOk_eq _ hnm,Option.bind_some,spec_l1In_eq]
    unfold fileOk
    rcases Bool.eq_false_or_eq_true (nameOk d.1[n].1) with k1 | k1
    rotate_left
    ·simp[k1]
    rcases Bool.eq_false_or_eq_true (decide (0≤d.1[n].2.2∧d.1[n].2.2≤(d.1[n].2.1.length:Int))) with k2 | k2
    rotate_left
    ·simp only[k1,k2,Bool.not_true,Bool.not_false,cond_false,cond_true,Option.bind_some,caseS_r];simp
    simp only[k1,k2,Bool.not_true,cond_false,Bool.true_and]
    cases n with
    | zero=>
     have z:¬((0:Nat):Int) > 0:=by omega
     simp only[z,decide_false,cond_false,Option.bind_some,caseS_l,hw,ih2,before,follows,Bool.true_and]
    | succ m=>
     have z:((m+1:Nat):Int) > 0:=by omega
     have hm:m<d.1.length:=by omega
     have z2:w64 (((m+1:Nat):Int) - 1)=(m:Int):=by rw[w64_id (by omega) (by omega)];omega
     have z3:(Op.bytesLess d.1[m+1].1 d.1[m].1 || d.1[m+1].1==d.1[m].1)=!Op.bytesLess d.1[m].1 d.1[m+1].1:=leK_not _ _
     rw[before_succ d.1 m hm]
     simp only[z,decide_true,cond_true,z2,inB_nat,hm,rdA_nat,getD_lt hm,follows,z3]
     rcases Bool.eq_false_or_eq_true (Op.bytesLess d.1[m].1 d.1[m+1].1) with k3 | k3
     ·simp only[k3,Bool.not_true,cond_false,Option.bind_some,caseS_l,hw,ih2,Bool.true_and]
     ·simp[k3]
   ·have:n=d.1.length:=by omega
    subst this
    simp[ψ1q.l0,okFrom,riseF])
  hl 0 () (Nat.zero_le _) trivial
 have key:lp ψ1q.l0 (d,0)=_:=key
 rw[key,List.drop_zero];rfl
def dlim (d:DiskT):Prop:=d.1.length<1000000000∧usedN d.1<1000000000000∧∀f∈d.1,f.1.length<1000000000000
theorem impl_DiskOk_eq (d:DiskT) (h:dlim d):ψB.f d=some (diskOk d):=by
 obtain ⟨h1,h2,h3⟩:=h
 unfold ψB.f diskOk
 have e1:decide ((d.1.length:Int) > 130)=!decide (d.1.length≤130):=by
  by_cases c:d.1.length≤130
  ·have:¬(d.1.length:Int) > 130:=by omega
   simp[c,this]
  ·have:(d.1.length:Int) > 130:=by omega
   simp[c,this]
 rw[e1,impl_in_eq,impl_in_eq,impl_DiskOk_l0 d (by omega) (by omega) fun f hf=>by have:=h3 f hf;omega]
 cases decide (d.1.length≤130)
 ·rfl
 ·simp only[Bool.not_true,cond_false,Option.bind_some,Bool.true_and]
  cases decide (0≤d.2.1∧d.2.1≤100000)
  ·rfl
  ·simp only[Bool.not_true,cond_false,Option.bind_some,Bool.true_and]
   cases decide (-1≤d.2.2.1∧d.2.2.1≤100000)
   ·rfl
   ·cases filesOk d.1<;>simp
theorem spec_DiskOk_eq (d:DiskT) (h:dlim d):ψ1q.f d=some (diskOk d):=by
 obtain ⟨h1,h2,h3⟩:=h
 unfold ψ1q.f diskOk
 have e1:decide ((d.1.length:Int) > 130)=!decide (d.1.length≤130):=by
  by_cases c:d.1.length≤130
  ·have:¬(d.1.length:Int) > 130:=by omega
   simp[c,this]
  ·have:(d.1.length:Int) > 130:=by omega
   simp[c,this]
 have e2:decide ((usedN d.1:Int) > d.2.1)=!decide ((usedN d.1:Int)≤d.2.1):=by
  by_cases c:(usedN d.1:Int)≤d.2.1
  ·have:¬(usedN d.1:Int) > d.2.1:=by omega
   simp[c,this]
  ·have:(usedN d.1:Int) > d.2.1:=by omega
   simp[c,this]
 rw[e1,spec_l1In_eq,spec_l1In_eq,spec_l3Used_eq d (by omega) (by omega),spec_DiskOk_l0 d (by omega) fun f hf=>by have:=h3 f hf;omega]
 cases decide (d.1.length≤130)
 ·rfl
 ·simp only[Bool.not_true,cond_false,Option.bind_some,Bool.true_and]
  cases decide (0≤d.2.1∧d.2.1≤100000)
  ·rfl
  ·simp only[Bool.not_true,cond_false,Option.bind_some,Bool.true_and]
   cases decide (-1≤d.2.2.1∧d.2.2.1≤100000)
   ·rfl
   ·simp only[Bool.not_true,cond_false,Option.bind_some,Bool.true_and,e2]
    cases decide ((usedN d.1:Int)≤d.2.1)
    ·rfl
    ·cases filesOk d.1<;>simp
theorem impl_copyDisk_eq (d:DiskT) (h:d.1.length<1000000000000):ψy.f d=some d:=by
 unfold ψy.f
 have:(([]:List FileT).length+d.1.length) * 40≤140737488355328:=by simp;omega
 simp only[this,decide_true,cond_true,List.nil_append]
theorem spec_l3Copy_eq (d:DiskT) (h:d.1.length<1000000000000):ψ34.f d=some d:=impl_copyDisk_eq d h
def fileIx (l:List FileT) (name:List UInt8):Int:=match l.findIdx? (fun f=>f.1==name) with | some i=>(i:Int) | none=>-1
theorem fileIx_loop {A B:Type} {step:(A→Option (B ⊕ Int))→A→Option (B ⊕ Int)} (l:List FileT) (name:List UInt8) (st:Nat→A) (b:B) (hl:l.length<2 ^ 62)
  (hs:∀rec n,(h:n<l.length)→step rec (st n)=if (l[n].1==name)=true then some (.inr (n:Int)) else rec (st (n+1)))
  (he:∀rec,step rec (st l.length)=some (.inl b)):lp step (st 0)=some (match l.findIdx? (fun f=>f.1==name) with | some i=>.inr (i:Int) | none=>.inl b):=by
 have:=lp_up (step:=step) (fun n (_:Unit)=>st n) l.length (fun n _=>match (l.drop n).findIdx? (fun f=>f.1==name) with | some i=>.inr ((n+i:Nat):Int) | none=>.inl b) (fun _ _=>True)
  (fun rec n s hn _ ih=>by
   rcases Nat.lt_or_ge n l.length with h | h
   ·rw[hs rec n h,ih () h trivial,List.drop_eq_getElem_cons h,List.findIdx?_cons]
    cases hf:l[n].1==name
    ·simp only[Bool.false_eq_true,if_false]
     cases List.findIdx? (fun f=>f.1==name) (l.drop (n+1)) with
     | none=>rfl
     | some i=>simp only[Option.map_some];congr 2;omega
    ·simp
   ·have:n=l.length:=by omega
    subst this
    rw[he];simp) hl 0 () (Nat.zero_le _) trivial
 simpa using this
theorem impl_fileAt_eq (d:DiskT) (name:List UInt8) (hl:d.1.length<2 ^ 62):ψ11.f d name=some (fileIx d.1 name):=by
 have hk:=fileIx_loop (step:=ψ11.l0) d.1 name (fun n=>(name,d.1,(d.1.length:Int),(n:Int))) () hl
  (fun rec n h=>by
   simp only[ψ11.l0,Int.ofNat_lt,h,decide_true,cond_true,inB_nat,rdA_nat,getD_lt h,w64_succ (show n+1<9223372036854775808 by omega)]
   cases d.1[n].1==name<;>simp)
  (fun rec=>by simp[ψ11.l0])
 have hk:lp ψ11.l0 (name,d.1,(d.1.length:Int),0)=_:=hk
 unfold ψ11.f fileIx
 rw[hk,Option.bind_some]
 cases List.findIdx? (fun f=>f.1==name) d.1<;>rfl
theorem spec_l3Find_eq (d:DiskT) (name:List UInt8) (hl:d.1.length<2 ^ 62):ψ36.f d name=some (fileIx d.1 name):=by
 have hk:=fileIx_loop (step:=ψ36.l0) d.1 name (fun n=>(name,d,(n:Int))) () hl
  (fun rec n h=>by
   simp only[ψ36.l0,Int.ofNat_lt,h,decide_true,cond_true,inB_nat,rdA_nat,getD_lt h,w64_succ (show n+1<9223372036854775808 by omega)]
   cases d.1[n].1==name<;>simp)
  (fun rec=>by simp[ψ36.l0])
 have hk:lp ψ36.l0 (name,d,0)=_:=hk
 unfold ψ36.f fileIx
 rw[hk,Option.bind_some]
 cases List.findIdx? (fun f=>f.1==name) d.1<;>rfl
theorem fileIx_cases (l:List FileT) (name:List UInt8):(fileIx l name=-1∧∀f∈l,f.1≠name)∨∃i:Nat,∃h:i<l.length,fileIx l name=(i:Int)∧l[i].1=name:=by
 unfold fileIx
 cases hf:List.findIdx? (fun f=>f.1==name) l with
 | none=>
  left
  refine ⟨rfl,fun f hm=>?_⟩
  have:=List.findIdx?_eq_none_iff.1 hf f hm
  simpa using this
 | some i=>
  right
  obtain ⟨h,h1,_⟩:=List.findIdx?_eq_some_iff_getElem.1 hf
  exact ⟨i,h,rfl,by simpa using h1⟩
def tick (d:DiskT):DiskT:=if d.2.2.1 > 0 then (d.1,d.2.1,d.2.2.1 - 1,d.2.2.2) else d
def dstep (d:DiskT) (act:List FileT→Int×List FileT):DiskT×Int:=
 if diskOk d=false then (d,5) else if d.2.2.2=true∨d.2.2.1=0 then ((d.1,d.2.1,d.2.2.1,true),1)
 else (((act d.1).2,(tick d).2),(act d.1).1)
theorem diskOk_fuel {d:DiskT} (h:diskOk d=true):-1≤d.2.2.1∧d.2.2.1≤100000∧d.1.length≤130:=by
 unfold diskOk at h
 simp only[Bool.and_eq_true,decide_eq_true_eq] at h
 omega
theorem tick_fst (d:DiskT):(tick d).1=d.1:=by unfold tick;split<;>rfl
theorem spec_l3Begin_eq (d:DiskT) (h:dlim d):ψ33.f d=some (if diskOk d=false then (d,5) else if d.2.2.2=true∨d.2.2.1=0 then ((d.1,d.2.1,d.2.2.1,true),1) else (tick d,0)):=by
 unfold ψ33.f
 rw[spec_l3Copy_eq d (by have:=h.1;omega),spec_DiskOk_eq d h]
 simp only[Option.bind_some]
 rcases Bool.eq_false_or_eq_true (diskOk d) with k | k
 ·have hf:=diskOk_fuel k
  rcases Bool.eq_false_or_eq_true d.2.2.2 with k2 | k2
  ·simp[k,k2]
  ·by_cases k3:d.2.2.1=0
   ·simp[k,k2,k3]
   ·have k4:(d.2.2.1==0)=false:=by simpa using k3
    unfold tick
    by_cases k5:d.2.2.1 > 0
    ·simp[k,k2,k3,k4,k5,w64_id (show -9223372036854775808≤d.2.2.1 - 1 by omega) (by omega)]
    ·simp[k,k2,k3,k4,k5]
 ·simp[k]
theorem step_eq {C:Type} (d:DiskT) (h:dlim d) (c:C) (does:C→DiskT→Option (Int×DiskT)) (act:List FileT→Int×List FileT) (hd:diskOk d=true→does c (tick d)=some ((act d.1).1,(act d.1).2,(tick d).2)) :
  ((ψy.f d).bind fun t1=>(ψB.f d).bind fun t2=>
   bif !t2 then some (t1,5) else
   bif d.2.2.2 then some ((t1.1,t1.2.1,t1.2.2.1,true),1) else
   bif d.2.2.1==0 then some ((t1.1,t1.2.1,t1.2.2.1,true),1) else
   (bif decide (d.2.2.1 > 0) then let y3:=w64 (t1.2.2.1 - 1);some (c,(([],0,0,false):DiskT),(t1.1,t1.2.1,y3,t1.2.2.2)) else some (c,([],0,0,false),t1):Option (C×DiskT×DiskT)).bind fun (x1,x4,x6)=>
   (does x1 x6).bind fun (t4_0,t4_1)=>some (t4_1,t4_0))=some (dstep d act):=by
 rw[impl_copyDisk_eq d (by have:=h.1;omega),impl_DiskOk_eq d h]
 simp only[Option.bind_some]
 unfold dstep
 rcases Bool.eq_false_or_eq_true (diskOk d) with k | k
 ·have hf:=diskOk_fuel k
  have hd:=hd k
  rcases Bool.eq_false_or_eq_true d.2.2.2 with k2 | k2
  ·simp[k,k2]
  ·by_cases k3:d.2.2.1=0
   ·simp[k,k2,k3]
   ·have k4:(d.2.2.1==0)=false:=by simpa using k3
    have e:(bif decide (d.2.2.1 > 0) then some (c,(([],0,0,false):DiskT),((d.1,d.2.1,w64 (d.2.2.1 - 1),d.2.2.2):DiskT)) else some (c,([],0,0,false),d))=some (c,([],0,0,false),tick d):=by
     unfold tick
     by_cases k5:d.2.2.1 > 0
     ·simp[k5,w64_id (show -9223372036854775808≤d.2.2.1 - 1 by omega) (by omega)]
     ·simp[k5]
    simp only[k,k4,Bool.not_true,cond_false,e,Option.bind_some,hd]
    simp[k2,k3]
 ·simp[k]
theorem inB_ix {l:List FileT} {i:Nat} (h:i<l.length):inB (i:Int) l.length=true:=by simp[h]
theorem rdA_ix {l:List FileT} {i:Nat} (h:i<l.length):rdA ([],[],0) l (i:Int)=l[i]:=by rw[rdA_nat,getD_lt h]
theorem dlim_tick {d:DiskT} (h:dlim d):dlim (tick d):=by unfold dlim;rw[tick_fst];exact h
def actSync (name:List UInt8) (l:List FileT):Int×List FileT:=
 match l.findIdx? (fun f=>f.1==name) with
 | some i=>(0,l.set i ((l.getD i ([],[],0)).1,(l.getD i ([],[],0)).2.1,((l.getD i ([],[],0)).2.1.length:Int)))
 | none=>(3,l)
theorem ix_none {l:List FileT} {name:List UInt8} (h:fileIx l name=-1):l.findIdx? (fun f=>f.1==name)=none:=by
 unfold fileIx at h
 cases e:l.findIdx? (fun f=>f.1==name) with
 | none=>rfl
 | some i=>rw[e] at h;simp only at h;omega
theorem ix_some {l:List FileT} {name:List UInt8} {i:Nat} (h:fileIx l name=(i:Int)):l.findIdx? (fun f=>f.1==name)=some i:=by
 unfold fileIx at h
 cases e:l.findIdx? (fun f=>f.1==name) with
 | none=>rw[e] at h;simp only at h;omega
 | some j=>rw[e] at h;simp only at h;congr 1;omega
theorem impl_Sync_1_eq (d:DiskT) (name:List UInt8) (h:d.1.length<2 ^ 62):ψs.f d name=some ((actSync name d.1).1,(actSync name d.1).2,d.2):=by
 unfold ψs.f actSync
 rw[impl_fileAt_eq d name h,Option.bind_some]
 rcases fileIx_cases d.1 name with ⟨e,_⟩ | ⟨i,hi,e,_⟩
 ·rw[e,ix_none e];rfl
 ·rw[e,ix_some e]
  simp only[dnn (show (0:Int)≤(i:Int) by omega),cond_false,inB_ix hi,cond_true,rdA_ix hi,Int.toNat_natCast,getD_lt hi]
theorem impl_Sync_eq (d:DiskT) (name:List UInt8) (h:dlim d):ψr.f d name=some (dstep d (actSync name)):=by
 have hs:ψ1H.f d name=some (dstep d (actSync name)):=step_eq d h name (fun n x=>ψs.f x n) (actSync name) fun _=>by
  show ψs.f (tick d) name=_
  rw[impl_Sync_1_eq (tick d) name (by rw[tick_fst];have:=h.1;omega),tick_fst]
 unfold ψr.f
 rw[hs];rfl
theorem begin_ways (d:DiskT) (h:dlim d):(∃(x:DiskT) (c:Int),ψ33.f d=some (x,c)∧(c != 0)=true∧∀act,dstep d act=(x,c)) ∨
  (diskOk d=true∧ψ33.f d=some (tick d,0)∧∀act,dstep d act=(((act d.1).2,(tick d).2),(act d.1).1)):=by
 rw[spec_l3Begin_eq d h]
 unfold dstep
 rcases Bool.eq_false_or_eq_true (diskOk d) with k | k
 ·by_cases k2:d.2.2.2=true∨d.2.2.1=0
  ·left
   refine ⟨(d.1,d.2.1,d.2.2.1,true),1,?_,?_,fun act=>?_⟩
   ·rw[if_neg (by simp[k]),if_pos k2]
   ·rfl
   ·rw[if_neg (by simp[k]),if_pos k2]
  ·right
   refine ⟨k,?_,fun act=>?_⟩
   ·rw[if_neg (by simp[k]),if_neg k2]
   ·rw[if_neg (by simp[k]),if_neg k2]
 ·left
  refine ⟨d,5,?_,?_,fun act=>?_⟩
  ·rw[if_pos k]
  ·rfl
  ·rw[if_pos k]
theorem spec_Sync_eq (d:DiskT) (name:List UInt8) (h:dlim d):ψ2U.f d name=some (dstep d (actSync name)):=by
 have hl:d.1.length<2 ^ 62:=by have:=h.1;omega
 unfold ψ2U.f
 rcases begin_ways d h with ⟨x,c,e1,e2,e3⟩ | ⟨k,e1,e3⟩
 ·rw[e1,e3,Option.bind_some];simp only[e2,cond_true]
 rw[e1,e3,Option.bind_some]
 simp only[bne_self_eq_false,cond_false,spec_l3Find_eq d name hl,Option.bind_some]
 unfold actSync
 rcases fileIx_cases d.1 name with ⟨e,_⟩ | ⟨i,hi,e,_⟩
 ·rw[e,ix_none e]
  show some (tick d,3)=some ((d.1,(tick d).2),3)
  rw[←tick_fst d]
 ·rw[e,ix_some e]
  have ht:i<(tick d).1.length:=by rw[tick_fst];exact hi
  simp only[dnn (show (0:Int)≤(i:Int) by omega),cond_false,inB_ix hi,inB_ix ht,cond_true,rdA_ix hi,rdA_ix ht,Int.toNat_natCast,getD_lt hi]
  simp only[tick_fst]
def remIx (l:List FileT) (i:Nat):List FileT:=l.take i++l.drop (i+1)
theorem remIx_len {l:List FileT} {i:Nat} (h:i<l.length):(remIx l i).length=l.length - 1:=by
 unfold remIx
 rw[List.length_append,List.length_take,List.length_drop];omega
def dropF (l:List FileT) (name:List UInt8):List FileT:=
 match l.findIdx? (fun f=>f.1==name) with
 | some i=>remIx l i
 | none=>l
theorem dropF_len (l:List FileT) (name:List UInt8):(dropF l name).length≤l.length:=by
 unfold dropF
 cases e:l.findIdx? (fun f=>f.1==name) with
 | none=>exact Nat.le_refl _
 | some i=>
  obtain ⟨h,_⟩:=List.findIdx?_eq_some_iff_getElem.1 e
  have:=remIx_len h
  simp only;omega
theorem cut_eq2 (l:List FileT) (i:Nat) (h:i<l.length) (hl:l.length<1000000000000) {β:Type} (K:List FileT→Option β) :
  (bif (decide (0≤(i:Int)) && decide ((i:Int)≤(l.length:Int))) then
   bif decide ((([]:List FileT).length+(l.take (i:Int).toNat).length) * 40≤140737488355328) then
   bif (decide (0≤w64 ((i:Int)+1)) && decide (w64 ((i:Int)+1)≤(l.length:Int))) then
   bif decide (((([]:List FileT)++(l.take (i:Int).toNat)).length+(l.drop ((w64 ((i:Int)+1)).toNat)).length) * 40≤140737488355328) then
   K ((([]:List FileT)++(l.take (i:Int).toNat))++(l.drop ((w64 ((i:Int)+1)).toNat))) else none else none else none else none)=K (remIx l i):=by
 have hw:w64 ((i:Int)+1)=((i+1:Nat):Int):=w64_succ (by omega)
 rw[hw]
 have c1:(decide (0≤(i:Int)) && decide ((i:Int)≤(l.length:Int)))=true:=by simp;omega
 have c2:(decide (0≤((i+1:Nat):Int)) && decide (((i+1:Nat):Int)≤(l.length:Int)))=true:=by simp;omega
 have c3:(l.take i).length * 40≤140737488355328:=by rw[List.length_take];omega
 have c4:((l.take i).length+(l.drop (i+1)).length) * 40≤140737488355328:=by rw[List.length_take,List.length_drop];omega
 simp only[Int.toNat_natCast,List.nil_append,List.length_nil,Nat.zero_add,c1,c2]
 simp only[c3,c4,decide_true,cond_true];rfl
theorem impl_Disk_drop_eq (d:DiskT) (name:List UInt8) (h:d.1.length<1000000000):ψC.f d name=some (dropF d.1 name,d.2):=by
 unfold ψC.f dropF
 rw[impl_fileAt_eq d name (by omega),Option.bind_some]
 rcases fileIx_cases d.1 name with ⟨e,_⟩ | ⟨i,hi,e,_⟩
 ·rw[e,ix_none e];rfl
 ·rw[e,ix_some e]
  have c:(i:Int)≥0:=by omega
  simp only[c,decide_true,cond_true]
  exact cut_eq2 d.1 i hi (by omega) fun l=>some (l,d.2)
theorem spec_l3Without_eq (l:List FileT) (i:Nat) (hi:i<l.length) (h:l.length<1000000000):ψ3A.f l (i:Int)=some (remIx l i):=by
 unfold ψ3A.f
 exact cut_eq2 l i hi (by omega) fun l=>some l
def actRemove (name:List UInt8) (l:List FileT):Int×List FileT:=
 match l.findIdx? (fun f=>f.1==name) with
 | some i=>(0,remIx l i)
 | none=>(3,l)
theorem impl_Remove_1_eq (d:DiskT) (name:List UInt8) (h:d.1.length<1000000000):ψf.f d name=some ((actRemove name d.1).1,(actRemove name d.1).2,d.2):=by
 unfold ψf.f actRemove
 rw[impl_fileAt_eq d name (by omega),Option.bind_some,impl_Disk_drop_eq d name h]
 unfold dropF
 rcases fileIx_cases d.1 name with ⟨e,_⟩ | ⟨i,hi,e,_⟩
 ·rw[e,ix_none e];rfl
 ·rw[e,ix_some e]
  simp only[dnn (show (0:Int)≤(i:Int) by omega),cond_false,Option.bind_some]
theorem impl_Remove_eq (d:DiskT) (name:List UInt8) (h:dlim d):ψe.f d name=some (dstep d (actRemove name)):=by
 have hs:ψ1F.f d name=some (dstep d (actRemove name)):=step_eq d h name (fun n x=>ψf.f x n) (actRemove name) fun _=>by
  show ψf.f (tick d) name=_
  rw[impl_Remove_1_eq (tick d) name (by rw[tick_fst];exact h.1),tick_fst]
 unfold ψe.f
 rw[hs];rfl
theorem spec_Remove_eq (d:DiskT) (name:List UInt8) (h:dlim d):ψ2I.f d name=some (dstep d (actRemove name)):=by
 have hl:=h.1
 unfold ψ2I.f
 rcases begin_ways d h with ⟨x,c,e1,e2,e3⟩ | ⟨k,e1,e3⟩
 ·rw[e1,e3,Option.bind_some];simp only[e2,cond_true]
 rw[e1,e3,Option.bind_some]
 simp only[bne_self_eq_false,cond_false,spec_l3Find_eq d name (show d.1.length<2 ^ 62 by omega),Option.bind_some]
 unfold actRemove
 rcases fileIx_cases d.1 name with ⟨e,_⟩ | ⟨i,hi,e,_⟩
 ·rw[e,ix_none e]
  show some (tick d,3)=some ((d.1,(tick d).2),3)
  rw[←tick_fst d]
 ·rw[e,ix_some e]
  simp only[dnn (show (0:Int)≤(i:Int) by omega),cond_false,tick_fst,spec_l3Without_eq d.1 i hi hl,Option.bind_some]
def actTrunc (name:List UInt8) (n:Int) (l:List FileT):Int×List FileT:=
 match l.findIdx? (fun f=>f.1==name) with
 | some i=>if 0≤n∧n≤((l.getD i ([],[],0)).2.1.length:Int) then
   (0,l.set i ((l.getD i ([],[],0)).1,(l.getD i ([],[],0)).2.1.take n.toNat,if n<(l.getD i ([],[],0)).2.2 then n else (l.getD i ([],[],0)).2.2))
  else (5,l)
 | none=>(3,l)
theorem impl_Truncate_1_eq (d:DiskT) (name:List UInt8) (n:Int) (h:d.1.length<1000000000):ψu.f d name n=some ((actTrunc name n d.1).1,(actTrunc name n d.1).2,d.2):=by
 unfold ψu.f actTrunc
 rw[impl_fileAt_eq d name (by omega),Option.bind_some]
 rcases fileIx_cases d.1 name with ⟨e,_⟩ | ⟨i,hi,e,_⟩
 ·rw[e,ix_none e];rfl
 ·rw[e,ix_some e]
  simp only[dnn (show (0:Int)≤(i:Int) by omega),cond_false,inB_ix hi,cond_true,rdA_ix hi,impl_in_eq,Option.bind_some,getD_lt hi]
  by_cases c:0≤n∧n≤(d.1[i].2.1.length:Int)
  ·have c2:(decide (0≤n) && decide (n≤(d.1[i].2.1.length:Int)))=true:=by simp[c.1,c.2]
   simp only[c,c2,decide_true,Bool.not_true,cond_false,cond_true,Int.toNat_natCast,rdA_set hi,List.set_set,if_true,and_self,Bool.and_self]
  ·simp[c]
theorem impl_Truncate_eq (d:DiskT) (name:List UInt8) (n:Int) (h:dlim d):ψt.f d name n=some (dstep d (actTrunc name n)):=by
 have hs:ψ1I.f d (name,n)=some (dstep d (actTrunc name n)):=step_eq d h (name,n) (fun c x=>ψu.f x c.1 c.2) (actTrunc name n) fun _=>by
  show ψu.f (tick d) name n=_
  rw[impl_Truncate_1_eq (tick d) name n (by rw[tick_fst];exact h.1),tick_fst]
 unfold ψt.f
 rw[hs];rfl
theorem spec_Truncate_eq (d:DiskT) (name:List UInt8) (n:Int) (h:dlim d):ψ2V.f d name n=some (dstep d (actTrunc name n)):=by
 have hl:=h.1
 unfold ψ2V.f
 rcases begin_ways d h with ⟨x,c,e1,e2,e3⟩ | ⟨k,e1,e3⟩
 ·rw[e1,e3,Option.bind_some];simp only[e2,cond_true]
 rw[e1,e3,Option.bind_some]
 simp only[bne_self_eq_false,cond_false,spec_l3Find_eq d name (show d.1.length<2 ^ 62 by omega),Option.bind_some]
 unfold actTrunc
 rcases fileIx_cases d.1 name with ⟨e,_⟩ | ⟨i,hi,e,_⟩
 ·rw[e,ix_none e]
  show some (tick d,3)=some ((d.1,(tick d).2),3)
  rw[←tick_fst d]
 ·rw[e,ix_some e]
  have ht:i<(tick d).1.length:=by rw[tick_fst];exact hi
  simp only[dnn (show (0:Int)≤(i:Int) by omega),cond_false,inB_ix hi,inB_ix ht,cond_true,rdA_ix hi,rdA_ix ht,spec_l1In_eq,Option.bind_some,getD_lt hi]
  simp only[tick_fst]
  by_cases c:0≤n∧n≤(d.1[i].2.1.length:Int)
  ·have c2:(decide (0≤n) && decide (n≤(d.1[i].2.1.length:Int)))=true:=by simp[c.1,c.2]
   have hs:∀v:FileT,inB (i:Int) (d.1.set i v).length=true:=fun v=>by rw[List.length_set];exact inB_ix hi
   simp only[c,c2,decide_true,Bool.not_true,cond_false,cond_true,Int.toNat_natCast,hs,rdA_set hi,List.set_set,if_true,and_self,Bool.and_self]
  ·have e5:(5:Int)=5:=rfl
   simp only[c,decide_false,Bool.not_false,cond_true,if_false]
   rw[←tick_fst d]
def actAppend (cap:Int) (name text:List UInt8) (l:List FileT):Int×List FileT:=
 match l.findIdx? (fun f=>f.1==name) with
 | some i=>if (text.length:Int) > cap - (usedN l:Int) then (2,l) else
   (0,l.set i ((l.getD i ([],[],0)).1,(l.getD i ([],[],0)).2.1++text,(l.getD i ([],[],0)).2.2))
 | none=>(3,l)
theorem used_mem {l:List FileT} {f:FileT} (h:f∈l):f.2.1.length≤usedN l:=sumN_mem (fun f=>f.2.1.length) h
theorem diskOk_cap {d:DiskT} (h:diskOk d=true):0≤d.2.1∧d.2.1≤100000∧(usedN d.1:Int)≤d.2.1:=by
 unfold diskOk at h
 simp only[Bool.and_eq_true,decide_eq_true_eq] at h
 omega
theorem tick_cap (d:DiskT):(tick d).2.1=d.2.1:=by unfold tick;split<;>rfl
theorem impl_Append_1_eq (d:DiskT) (name text:List UInt8) (h:dlim d) (hc:0≤d.2.1∧d.2.1≤100000) (ht:text.length<1000000000000):ψ1.f d name text=some ((actAppend d.2.1 name text d.1).1,(actAppend d.2.1 name text d.1).2,d.2):=by
 obtain ⟨h1,h2,h3⟩:=h
 unfold ψ1.f actAppend
 rw[impl_fileAt_eq d name (by omega),Option.bind_some,impl_used_eq d (by omega) (by omega)]
 rcases fileIx_cases d.1 name with ⟨e,_⟩ | ⟨i,hi,e,_⟩
 ·rw[e,ix_none e];rfl
 ·rw[e,ix_some e]
  have hm:=used_mem (List.getElem_mem hi)
  have c1:d.1[i].2.1.length+text.length≤9223372036854775807:=by omega
  simp only[dnn (show (0:Int)≤(i:Int) by omega),cond_false,Option.bind_some,inB_ix hi,cond_true,rdA_ix hi,getD_lt hi,c1,decide_true,Int.toNat_natCast]
  rw[w64_id (by omega) (by omega)]
  by_cases c:(text.length:Int) > d.2.1 - (usedN d.1:Int)
  ·simp[c]
  ·simp[c]
theorem impl_Append_eq (d:DiskT) (name text:List UInt8) (h:dlim d) (ht:text.length<1000000000000):ψ0.f d name text=some (dstep d (actAppend d.2.1 name text)):=by
 have hs:ψ1D.f d (name,text)=some (dstep d (actAppend d.2.1 name text)):=step_eq d h (name,text) (fun c x=>ψ1.f x c.1 c.2) (actAppend d.2.1 name text) fun k=>by
  have hc:=diskOk_cap k
  show ψ1.f (tick d) name text=_
  rw[impl_Append_1_eq (tick d) name text (dlim_tick h) (by rw[tick_cap];omega) ht,tick_fst,tick_cap]
 unfold ψ0.f
 rw[hs];rfl
theorem spec_Append_eq (d:DiskT) (name text:List UInt8) (h:dlim d) (htx:text.length<1000000000000):ψ1g.f d name text=some (dstep d (actAppend d.2.1 name text)):=by
 have h1:=h.1
 have h2:=h.2.1
 unfold ψ1g.f
 rcases begin_ways d h with ⟨x,c,e1,e2,e3⟩ | ⟨k,e1,e3⟩
 ·rw[e1,e3,Option.bind_some];simp only[e2,cond_true]
 rw[e1,e3,Option.bind_some]
 have hc:=diskOk_cap k
 simp only[bne_self_eq_false,cond_false,spec_l3Find_eq d name (show d.1.length<2 ^ 62 by omega),Option.bind_some,spec_l3Used_eq d (show d.1.length<2 ^ 62 by omega) (show usedN d.1<2 ^ 62 by omega)]
 unfold actAppend
 rcases fileIx_cases d.1 name with ⟨e,_⟩ | ⟨i,hi,e,_⟩
 ·rw[e,ix_none e]
  show some (tick d,3)=some ((d.1,(tick d).2),3)
  rw[←tick_fst d]
 ·rw[e,ix_some e]
  have ht:i<(tick d).1.length:=by rw[tick_fst];exact hi
  have hm:=used_mem (List.getElem_mem hi)
  have c1:d.1[i].2.1.length+text.length≤9223372036854775807:=by omega
  simp only[dnn (show (0:Int)≤(i:Int) by omega),cond_false,inB_ix hi,inB_ix ht,cond_true,rdA_ix hi,rdA_ix ht,getD_lt hi,c1,decide_true,Int.toNat_natCast]
  rw[w64_id (by omega) (by omega)]
  simp only[tick_fst]
  by_cases c:(text.length:Int) > d.2.1 - (usedN d.1:Int)
  ·simp only[c,decide_true,cond_true,if_true]
   rw[←tick_fst d]
  ·simp only[c,decide_false,cond_false,if_false]
def putF (l:List FileT) (f:FileT):List FileT:=
 let k:=(l.takeWhile fun x=>Op.bytesLess x.1 f.1).length
 l.take k++[f]++l.drop k
theorem impl_Disk_put_eq (d:DiskT) (f:FileT) (h:d.1.length<1000000000):ψD.f d f=some (putF d.1 f,d.2):=by
 have key:=lp_up (step:=ψD.l0) (fun n (_:Unit)=>(d,f,(n:Int))) d.1.length (fun n _=>(d,f,((n+((d.1.drop n).takeWhile fun x=>Op.bytesLess x.1 f.1).length:Nat):Int))) (fun _ _=>True)
  (fun rec n s hn _ ih=>by
   rcases Nat.lt_or_ge n d.1.length with h2 | h2
   ·rw[takeWhile_drop _ _ _ h2]
    simp only[ψD.l0,Int.ofNat_lt,h2,decide_true,cond_true,inB_nat,rdA_nat,getD_lt h2,w64_succ (show n+1<9223372036854775808 by omega)]
    cases Op.bytesLess d.1[n].1 f.1
    ·simp
    ·simp only[cond_true,if_true]
     rw[ih () h2 trivial]
     congr 3;congr 1;omega
   ·have:n=d.1.length:=by omega
    subst this
    simp[ψD.l0])
  (by omega) 0 () (Nat.zero_le _) trivial
 have key:lp ψD.l0 (d,f,0)=_:=key
 unfold ψD.f putF
 rw[key,Option.bind_some]
 simp only[List.drop_zero,Nat.zero_add]
 have htw:(d.1.takeWhile fun x=>Op.bytesLess x.1 f.1).length≤d.1.length:=(List.takeWhile_sublist _).length_le
 generalize (d.1.takeWhile fun x=>Op.bytesLess x.1 f.1).length=k at *
 have c1:(decide (0≤(k:Int)) && decide ((k:Int)≤(d.1.length:Int)))=true:=by simp;omega
 have c2:(d.1.take k).length * 40≤140737488355328:=by rw[List.length_take];omega
 have c3:((d.1.take k).length+[f].length) * 40≤140737488355328:=by rw[List.length_take];exact lim40 (by omega)
 have c4:((d.1.take k++[f]).length+(d.1.drop k).length) * 40≤140737488355328:=by
  rw[List.length_append,List.length_take,List.length_drop]
  show (min k d.1.length+1+(d.1.length - k)) * 40≤_
  omega
 simp only[Int.toNat_natCast,List.nil_append,List.length_nil,Nat.zero_add,c1]
 simp only[c2,c3,c4,decide_true,cond_true]
def insStep (f:FileT) (s:List FileT×Bool) (x:FileT):List FileT×Bool:=
 if s.2=false∧leK x.1 f.1=false then (s.1++[f]++[x],true) else (s.1++[x],s.2)
theorem insStep_len (f:FileT) (s:List FileT×Bool) (x:FileT):(insStep f s x).1.length≤s.1.length+2:=by
 unfold insStep;split<;>simp<;>omega
theorem ins_true (f:FileT):∀(l out:List FileT),l.foldl (insStep f) (out,true)=(out++l,true)
 | [],out=>by simp
 | x::l,out=>by
  have e1:insStep f (out,true) x=(out++[x],true):=by unfold insStep;rw[if_neg (by simp)]
  rw[List.foldl_cons,e1,ins_true f l];simp
theorem ins_false (f:FileT):∀(l out:List FileT),(let s:=l.foldl (insStep f) (out,false);if s.2=true then s.1 else s.1++[f])=out++insB l f
 | [],out=>by simp[insB]
 | x::l,out=>by
  rw[List.foldl_cons]
  cases hk:leK x.1 f.1
  ·have e1:insStep f (out,false) x=(out++[f]++[x],true):=by unfold insStep;rw[if_pos ⟨rfl,hk⟩]
   rw[e1,ins_true]
   simp[insB,hk]
  ·have e1:insStep f (out,false) x=(out++[x],false):=by unfold insStep;rw[if_neg (by simp[hk])]
   rw[e1,ins_false f l (out++[x])]
   simp[insB,hk]
theorem spec_l3Insert_eq (l:List FileT) (f:FileT) (hl:l.length<1000000000):ψ37.f l f=some (insB l f):=by
 have hk:=fold_loop (step:=ψ37.l0) l (insStep f) (fun n (s:List FileT×Bool)=>(l,f,s.1,s.2,(n:Int))) (fun s=>(f,s.1,s.2)) (fun n s=>s.1.length≤2 * n) (by omega)
  (fun rec n s h hi=>by
   have hi:s.1.length≤2 * n:=hi
   have hq:s.1.length<1000000000000:=by omega
   have hb1:(s.1.length+[f].length) * 40≤140737488355328:=lim40 (Nat.lt_succ_of_lt hq)
   have hb2:(s.1.length+([l[n]]:List FileT).length) * 40≤140737488355328:=lim40 (Nat.lt_succ_of_lt hq)
   have hb3:((s.1++[f]).length+([l[n]]:List FileT).length) * 40≤140737488355328:=by rw[List.length_append];exact lim40 (Nat.succ_lt_succ hq)
   have hw:w64 ((n:Int)+1)=(n:Int)+1:=w64_id (by omega) (by omega)
   have hle:(Op.bytesLess l[n].1 f.1 || l[n].1==f.1)=leK l[n].1 f.1:=rfl
   simp only[ψ37.l0,Int.ofNat_lt,h,decide_true,cond_true,inB_nat,rdA_nat,getD_lt h,pair_eta,hle]
   unfold insStep
   rcases Bool.eq_false_or_eq_true s.2 with h2 | h2
   ·simp only[h2,cond_false,Bool.not_true,Option.bind_some,inB_nat,rdA_nat,getD_lt h,pair_eta,h,decide_true,cond_true,hb2]
    simp[hw]
   ·rcases Bool.eq_false_or_eq_true (leK l[n].1 f.1) with h3 | h3
    ·simp only[h2,h3,cond_false,Bool.not_true,Bool.not_false,Option.bind_some,inB_nat,rdA_nat,getD_lt h,pair_eta,h,decide_true,cond_true,hb2]
     simp[hw]
    ·simp only[h2,h3,cond_false,Bool.not_true,Bool.not_false,Option.bind_some,inB_nat,rdA_nat,getD_lt h,pair_eta,h,decide_true,cond_true,hb1,hb3]
     simp[hw])
  (fun n s h hi=>by have:=insStep_len f s l[n];have hi:s.1.length≤2 * n:=hi;show _≤2 * (n+1);omega)
  (fun rec s hi=>by simp[ψ37.l0]) ([],false) (by simp)
 have hk:lp ψ37.l0 (l,f,[],false,0)=_:=hk
 have hlen:∀(m:List FileT) (s:List FileT×Bool),(m.foldl (insStep f) s).1.length≤s.1.length+2 * m.length:=by
  intro m
  induction m with
  | nil=>intro s;simp
  | cons x m ih=>intro s;rw[List.foldl_cons];have:=ih (insStep f s x);have:=insStep_len f s x;simp only[List.length_cons];omega
 unfold ψ37.f
 rw[hk,Option.bind_some]
 have hf:=ins_false f l []
 have hb:=hlen l ([],false)
 generalize l.foldl (insStep f) ([],false)=s at *
 obtain ⟨s1,s2⟩:=s
 simp only[List.length_nil,Nat.zero_add] at hb
 have hb1:(s1.length+[f].length) * 40≤140737488355328:=lim40 (by omega)
 cases s2
 ·simp only[Bool.false_eq_true,if_false,List.nil_append] at hf
  simp only[Bool.not_false,cond_true,hb1,decide_true,hf]
 ·simp only[if_true,List.nil_append] at hf
  simp[hf]
theorem takeWhile_congr {α:Type} {f g:α→Bool}:∀{l:List α},(∀x∈l,f x=g x)→l.takeWhile f=l.takeWhile g
 | [],_=>rfl
 | x::l,h=>by
  rw[List.takeWhile_cons,List.takeWhile_cons,h x (by simp),takeWhile_congr fun y hy=>h y (List.mem_cons_of_mem _ hy)]
theorem putF_ins {l:List FileT} {f:FileT} (h:∀x∈l,x.1≠f.1):putF l f=insB l f:=by
 unfold putF insB
 have:(l.takeWhile fun x=>Op.bytesLess x.1 f.1)=l.takeWhile fun x=>leK x.1 f.1:=takeWhile_congr fun x hx=>by
  unfold leK
  have:(x.1==f.1)=false:=by simpa using h x hx
  rw[this,Bool.or_false]
 rw[this]
def actCreate (name:List UInt8) (l:List FileT):Int×List FileT:=
 if nameOk name=false then (5,l) else if fileIx l name≥0 then (4,l) else if 130≤l.length then (2,l) else (0,insB l (name,[],0))
theorem impl_Create_1_eq (d:DiskT) (name:List UInt8) (h:d.1.length<1000000000) (hn:name.length<2 ^ 62):ψ4.f d name=some ((actCreate name d.1).1,(actCreate name d.1).2,d.2):=by
 unfold ψ4.f actCreate
 rw[impl_NameOk_eq name hn,Option.bind_some,impl_fileAt_eq d name (by omega)]
 rcases Bool.eq_false_or_eq_true (nameOk name) with k | k
 rotate_left
 ·simp[k]
 simp only[k,Bool.not_true,cond_false,Option.bind_some,Bool.true_eq_false,if_false]
 rcases fileIx_cases d.1 name with ⟨e,hno⟩ | ⟨i,hi,e,_⟩
 ·have c:¬fileIx d.1 name≥0:=by omega
  simp only[c,decide_false,cond_false,if_false]
  by_cases c2:130≤d.1.length
  ·have c3:(d.1.length:Int)≥130:=by omega
   simp[c2,c3]
  ·have c3:¬(d.1.length:Int)≥130:=by omega
   simp only[c2,c3,decide_false,cond_false,if_false,impl_Disk_put_eq d _ h,Option.bind_some,putF_ins (l:=d.1) (f:=(name,[],0)) hno]
 ·have c:fileIx d.1 name≥0:=by omega
  simp[c]
theorem impl_Create_eq (d:DiskT) (name:List UInt8) (h:dlim d) (hn:name.length<2 ^ 62):ψ3.f d name=some (dstep d (actCreate name)):=by
 have hs:ψ1E.f d name=some (dstep d (actCreate name)):=step_eq d h name (fun n x=>ψ4.f x n) (actCreate name) fun _=>by
  show ψ4.f (tick d) name=_
  rw[impl_Create_1_eq (tick d) name (by rw[tick_fst];exact h.1) hn,tick_fst]
 unfold ψ3.f
 rw[hs];rfl
theorem spec_Create_eq (d:DiskT) (name:List UInt8) (h:dlim d) (hn:name.length<2 ^ 62):ψ1j.f d name=some (dstep d (actCreate name)):=by
 have hl:=h.1
 unfold ψ1j.f
 rcases begin_ways d h with ⟨x,c,e1,e2,e3⟩ | ⟨k,e1,e3⟩
 ·rw[e1,e3,Option.bind_some];simp only[e2,cond_true]
 rw[e1,e3,Option.bind_some]
 simp only[bne_self_eq_false,cond_false,spec_NameOk_eq name hn,spec_l3Find_eq d name (show d.1.length<2 ^ 62 by omega),Option.bind_some]
 unfold actCreate
 have ht:(d.1,(tick d).2)=tick d:=by rw[←tick_fst d]
 rcases Bool.eq_false_or_eq_true (nameOk name) with k | k
 rotate_left
 ·simp[k,ht]
 simp only[k,Bool.not_true,cond_false,Bool.true_eq_false,if_false]
 by_cases c:fileIx d.1 name≥0
 ·simp[c,ht]
 simp only[c,decide_false,cond_false,if_false]
 by_cases c2:130≤d.1.length
 ·have c3:(d.1.length:Int)≥130:=by omega
  simp[c2,c3,ht]
 ·have c3:¬(d.1.length:Int)≥130:=by omega
  simp only[c2,c3,decide_false,cond_false,if_false,tick_fst,spec_l3Insert_eq d.1 _ hl,Option.bind_some]
theorem rise_pw:∀(l:List FileT) (p:List UInt8),riseF (some p) l=true→(∀x∈l,Op.bytesLess p x.1=true)∧l.Pairwise (fun a b=>Op.bytesLess a.1 b.1=true)
 | [],p,_=>⟨by simp,List.Pairwise.nil⟩
 | f::l,p,h=>by
  simp only[riseF,Bool.and_eq_true] at h
  obtain ⟨h1,h2⟩:=rise_pw l f.1 h.2
  refine ⟨fun x hx=>?_,List.Pairwise.cons h1 h2⟩
  rcases List.mem_cons.1 hx with e | hx
  ·rw[e];exact h.1
  ·exact less_trans _ _ _ h.1 (h1 x hx)
theorem rise_pw0 (l:List FileT) (h:riseF none l=true):l.Pairwise (fun a b=>Op.bytesLess a.1 b.1=true):=by
 cases l with
 | nil=>exact List.Pairwise.nil
 | cons f l=>
  obtain ⟨h1,h2⟩:=rise_pw l f.1 h
  exact List.Pairwise.cons h1 h2
theorem diskOk_pw {d:DiskT} (h:diskOk d=true):d.1.Pairwise (fun a b=>Op.bytesLess a.1 b.1=true):=by
 unfold diskOk filesOk at h
 simp only[Bool.and_eq_true] at h
 exact rise_pw0 _ h.2.2.2.2.2
theorem remIx_split {l:List FileT} {i:Nat} (h:i<l.length):l=l.take i++l[i]::l.drop (i+1):=by
 rw[←List.drop_eq_getElem_cons h,List.take_append_drop]
theorem remIx_sub (l:List FileT) (i:Nat):(remIx l i).Sublist l:=by
 unfold remIx
 have:(l.take i++l.drop (i+1)).Sublist (l.take i++l.drop i):=List.Sublist.append (List.Sublist.refl _) (List.drop_sublist_drop_left l (by omega))
 rw[List.take_append_drop] at this
 exact this
theorem remIx_ne {l:List FileT} {i:Nat} (h:i<l.length) (hp:l.Pairwise (fun a b=>Op.bytesLess a.1 b.1=true)):∀x∈remIx l i,x.1≠l[i].1:=by
 rw[remIx_split h,List.pairwise_append] at hp
 obtain ⟨_,h2,h3⟩:=hp
 intro x hx
 rcases List.mem_append.1 hx with hx | hx
 ·exact less_ne (h3 x hx _ List.mem_cons_self)
 ·exact (less_ne ((List.pairwise_cons.1 h2).1 x hx)).symm
theorem dropF_ne {l:List FileT} {name:List UInt8} (hp:l.Pairwise (fun a b=>Op.bytesLess a.1 b.1=true)):∀x∈dropF l name,x.1≠name:=by
 unfold dropF
 rcases fileIx_cases l name with ⟨e,hno⟩ | ⟨i,hi,e,hn⟩
 ·rw[ix_none e];exact hno
 ·rw[ix_some e,←hn];exact remIx_ne hi hp
theorem dropF_no {l:List FileT} {name:List UInt8} (h:∀x∈l,x.1≠name):dropF l name=l:=by
 unfold dropF
 have:l.findIdx? (fun f=>f.1==name)=none:=by
  rw[List.findIdx?_eq_none_iff]
  intro x hx
  simpa using h x hx
 rw[this]
theorem putF_back {l:List FileT} {i:Nat} (h:i<l.length) (hp:l.Pairwise (fun a b=>Op.bytesLess a.1 b.1=true)):putF (remIx l i) l[i]=l:=by
 have hs:=hp
 rw[remIx_split h,List.pairwise_append] at hs
 obtain ⟨_,h2,h3⟩:=hs
 have e1:((remIx l i).takeWhile fun x=>Op.bytesLess x.1 l[i].1)=l.take i:=by
  unfold remIx
  rw[List.takeWhile_append_of_pos (fun x hx=>h3 x hx _ List.mem_cons_self)]
  have:(l.drop (i+1)).takeWhile (fun x=>Op.bytesLess x.1 l[i].1)=[]:=by
   cases e:l.drop (i+1) with
   | nil=>rfl
   | cons y r=>
    rw[List.takeWhile_cons,less_asymm _ _ ((List.pairwise_cons.1 h2).1 y (by rw[e];simp))];rfl
  rw[this,List.append_nil]
 unfold putF
 rw[e1]
 have hk:(l.take i).length=i:=by rw[List.length_take];omega
 simp only[hk]
 unfold remIx
 rw[List.take_append_of_le_length (by omega),List.take_take,Nat.min_self,List.drop_append_of_le_length (by omega),List.drop_take,Nat.sub_self,List.take_zero,List.nil_append,List.append_assoc,List.singleton_append]
 exact (remIx_split h).symm
def actRename (src dst:List UInt8) (l:List FileT):Int×List FileT:=
 if nameOk dst=false then (5,l) else
 match l.findIdx? (fun f=>f.1==src) with
 | some i=>(0,if src=dst then l else insB (dropF (remIx l i) dst) (dst,(l.getD i ([],[],0)).2))
 | none=>(3,l)
theorem impl_Rename_1_eq (d:DiskT) (src dst:List UInt8) (h:d.1.length<1000000000) (hn:dst.length<2 ^ 62) (hp:d.1.Pairwise (fun a b=>Op.bytesLess a.1 b.1=true)):ψh.f d src dst=some ((actRename src dst d.1).1,(actRename src dst d.1).2,d.2):=by
 unfold ψh.f actRename
 rw[impl_fileAt_eq d src (by omega),Option.bind_some,impl_NameOk_eq dst hn,Option.bind_some,impl_Disk_drop_eq d src h]
 rcases Bool.eq_false_or_eq_true (nameOk dst) with k | k
 rotate_left
 ·simp[k]
 simp only[k,Bool.not_true,cond_false,Bool.true_eq_false,if_false]
 rcases fileIx_cases d.1 src with ⟨e,_⟩ | ⟨i,hi,e,hsrc⟩
 ·rw[e,ix_none e];rfl
 ·have e0:dropF d.1 src=remIx d.1 i:=by unfold dropF;rw[ix_some e]
  rw[e,ix_some e,e0]
  have hl:=remIx_len hi
  have hl2:=dropF_len (remIx d.1 i) dst
  simp only[dnn (show (0:Int)≤(i:Int) by omega),cond_false,inB_ix hi,cond_true,rdA_ix hi,Option.bind_some,getD_lt hi,impl_Disk_drop_eq (remIx d.1 i,d.2) dst (show (remIx d.1 i).length<1000000000 by omega),impl_Disk_put_eq (dropF (remIx d.1 i) dst,d.2) (dst,d.1[i].2.1,d.1[i].2.2) (show (dropF (remIx d.1 i) dst).length<1000000000 by omega)]
  by_cases c:src=dst
  ·simp only[c,if_true]
   have hd:d.1[i].1=dst:=by rw[hsrc,c]
   have e2:dropF (remIx d.1 i) dst=remIx d.1 i:=dropF_no (by rw[←hd];exact remIx_ne hi hp)
   have e3:putF (remIx d.1 i) (dst,d.1[i].2.1,d.1[i].2.2)=d.1:=by
    have:=putF_back hi hp
    rw[←hd];exact this
   rw[e2,e3]
  ·simp only[c,if_false]
   rw[putF_ins (l:=dropF (remIx d.1 i) dst) (f:=(dst,d.1[i].2.1,d.1[i].2.2)) (dropF_ne (hp.sublist (remIx_sub d.1 i)))]
theorem impl_Rename_eq (d:DiskT) (src dst:List UInt8) (h:dlim d) (hn:dst.length<2 ^ 62):ψg.f d src dst=some (dstep d (actRename src dst)):=by
 have hs:ψ1G.f d (src,dst)=some (dstep d (actRename src dst)):=step_eq d h (src,dst) (fun c x=>ψh.f x c.1 c.2) (actRename src dst) fun k=>by
  show ψh.f (tick d) src dst=_
  rw[impl_Rename_1_eq (tick d) src dst (by rw[tick_fst];exact h.1) hn (by rw[tick_fst];exact diskOk_pw k),tick_fst]
 unfold ψg.f
 rw[hs];rfl
theorem spec_Rename_eq (d:DiskT) (src dst:List UInt8) (h:dlim d) (hn:dst.length<2 ^ 62):ψ2J.f d src dst=some (dstep d (actRename src dst)):=by
 have hl:=h.1
 unfold ψ2J.f
 rcases begin_ways d h with ⟨x,c,e1,e2,e3⟩ | ⟨k,e1,e3⟩
 ·rw[e1,e3,Option.bind_some];simp only[e2,cond_true]
 rw[e1,e3,Option.bind_some]
 have hp:=diskOk_pw k
 simp only[bne_self_eq_false,cond_false,spec_NameOk_eq dst hn,spec_l3Find_eq d src (show d.1.length<2 ^ 62 by omega),Option.bind_some]
 unfold actRename
 have ht:(d.1,(tick d).2)=tick d:=by rw[←tick_fst d]
 rcases Bool.eq_false_or_eq_true (nameOk dst) with k2 | k2
 rotate_left
 ·simp[k2,ht]
 simp only[k2,Bool.not_true,cond_false,Bool.true_eq_false,if_false]
 rcases fileIx_cases d.1 src with ⟨e,_⟩ | ⟨i,hi,e,hsrc⟩
 ·rw[e,ix_none e]
  show some (tick d,3)=some ((d.1,(tick d).2),3)
  rw[←tick_fst d]
 ·rw[e,ix_some e]
  have hlr:=remIx_len hi
  have hl2:=dropF_len (remIx d.1 i) dst
  simp only[dnn (show (0:Int)≤(i:Int) by omega),cond_false]
  by_cases c:src=dst
  ·simp[c,ht]
  have c1:(src==dst)=false:=by simpa using c
  simp only[c,c1,cond_false,if_false,inB_ix hi,cond_true,rdA_ix hi,getD_lt hi,tick_fst,spec_l3Without_eq d.1 i hi hl,Option.bind_some,spec_l3Find_eq (remIx d.1 i,(tick d).2) dst (show (remIx d.1 i).length<2 ^ 62 by omega)]
  rcases fileIx_cases (remIx d.1 i) dst with ⟨e',hno⟩ | ⟨j,hj,e',hdst⟩
  ·have c2:¬fileIx (remIx d.1 i) dst≥0:=by omega
   simp only[c2,decide_false,cond_false,Option.bind_some,spec_l3Insert_eq (remIx d.1 i) _ (show (remIx d.1 i).length<1000000000 by omega),dropF_no hno]
  ·have c2:fileIx (remIx d.1 i) dst≥0:=by omega
   have e4:dropF (remIx d.1 i) dst=remIx (remIx d.1 i) j:=by unfold dropF;rw[ix_some e']
   rw[e4] at hl2
   simp only[c2,decide_true,cond_true]
   simp only[e',spec_l3Without_eq (remIx d.1 i) j hj (by omega),Option.bind_some,spec_l3Insert_eq (remIx (remIx d.1 i) j) _ (show (remIx (remIx d.1 i) j).length<1000000000 by omega),e4]
def hintB (s:List UInt8):Bool:=decide (4≤s.length) && (s.take 4==[104,105,110,116])
theorem hasPrefix_eq (s:List UInt8):ψ3M.f s [104,105,110,116]=some (hintB s):=by
 unfold ψ3M.f ψ3O.f hintB
 have e:(([104,105,110,116]:List UInt8).length:Int)=4:=rfl
 rw[e]
 by_cases c:4≤s.length
 ·have c1:(s.length:Int)≥4:=by omega
  have c2:(4:Int)≤(s.length:Int):=by omega
  simp[c,c1,c2]
 ·have c1:¬(s.length:Int)≥4:=by omega
  simp[c,c1]
def dropStep (s:List FileT) (f:FileT):List FileT:=if hintB f.1=true then s else s++[f]
theorem dropStep_fold:∀(l s:List FileT),l.foldl dropStep s=s++l.filter fun f=>!hintB f.1
 | [],s=>by simp
 | f::l,s=>by
  rw[List.foldl_cons,dropStep_fold l]
  unfold dropStep
  cases h:hintB f.1<;>simp[h]
theorem dropStep_len (s:List FileT) (f:FileT):(dropStep s f).length≤s.length+1:=by
 unfold dropStep;split<;>simp
def noHints (d:DiskT):DiskT:=if diskOk d=false then d else (d.1.filter fun f=>!hintB f.1,d.2)
theorem impl_DropHints_eq (d:DiskT) (h:dlim d):ψE.f d=some (noHints d):=by
 have hl:=h.1
 unfold ψE.f noHints
 rw[impl_copyDisk_eq d (by omega),impl_DiskOk_eq d h]
 simp only[Option.bind_some]
 rcases Bool.eq_false_or_eq_true (diskOk d) with k | k
 rotate_left
 ·simp[k]
 have hk:=fold_loop (step:=ψE.l0) d.1 dropStep (fun n (s:List FileT)=>((([],0,0,false):DiskT),((s,d.2):DiskT),d.1,(d.1.length:Int),(n:Int))) (fun s=>((([],0,0,false):DiskT),((s,d.2):DiskT))) (fun n s=>s.length≤n) (by omega)
  (fun rec n s h hi=>by
   have hi:s.length≤n:=hi
   have hq:s.length<1000000000000:=by omega
   have hb1:(s.length+([(d.1[n].1,d.1[n].2.1,d.1[n].2.2)]:List FileT).length) * 40≤140737488355328:=lim40 (Nat.lt_succ_of_lt hq)
   have hw:w64 ((n:Int)+1)=(n:Int)+1:=w64_id (by omega) (by omega)
   simp only[ψE.l0,Int.ofNat_lt,h,decide_true,cond_true,inB_nat,rdA_nat,getD_lt h,hasPrefix_eq,Option.bind_some]
   unfold dropStep
   rcases Bool.eq_false_or_eq_true (hintB d.1[n].1) with h2 | h2
   ·simp[h2,hw]
   ·simp only[h2,Bool.not_false,cond_true,hb1,decide_true,Option.bind_some]
    simp[hw])
  (fun n s h hi=>by have:=dropStep_len s d.1[n];have hi:s.length≤n:=hi;show _≤n+1;omega)
  (fun rec s hi=>by simp[ψE.l0]) [] (by simp)
 have hk:lp ψE.l0 (([],0,0,false),([],d.2),d.1,(d.1.length:Int),0)=_:=hk
 simp only[k,Bool.not_true,cond_false,Bool.true_eq_false,if_false]
 rw[hk,Option.bind_some,dropStep_fold]
 rfl
theorem wrap64_nat {n:Nat} (h:n<9223372036854775808):IntKind.wrap .i64 (n:Int)=n:=w64_nat h
theorem wrap32_nat {n:Nat} (h:n<4294967296):IntKind.wrap .u32 (n:Int)=n:=by
 unfold IntKind.wrap
 simp only[IntKind.bits,IntKind.signed]
 simp;omega
theorem xor64 (a b:Nat) (ha:a<2 ^ 63) (hb:b<2 ^ 63):bits (fun _ a b=>a ^^^ b) .i64 (a:Int) (b:Int)=((a ^^^ b:Nat):Int):=by
 unfold bits
 have h:a ^^^ b<2 ^ 63:=Nat.xor_lt_two_pow ha hb
 have e:(BitVec.ofInt 64 (a:Int) ^^^ BitVec.ofInt 64 (b:Int)).toNat=a ^^^ b:=by
  rw[BitVec.ofInt_natCast,BitVec.ofInt_natCast,BitVec.toNat_xor,BitVec.toNat_ofNat,BitVec.toNat_ofNat,Nat.mod_eq_of_lt (by omega),Nat.mod_eq_of_lt (by omega)]
 show IntKind.wrap .i64 ((BitVec.ofInt 64 (a:Int) ^^^ BitVec.ofInt 64 (b:Int)).toNat:Int)=_
 rw[e]
 exact wrap64_nat (by omega)
theorem xor32 (a b:Nat) (ha:a<2 ^ 32) (hb:b<2 ^ 32):bits (fun _ a b=>a ^^^ b) .u32 (a:Int) (b:Int)=((a ^^^ b:Nat):Int):=by
 unfold bits
 have h:a ^^^ b<2 ^ 32:=Nat.xor_lt_two_pow ha hb
 have e:(BitVec.ofInt 32 (a:Int) ^^^ BitVec.ofInt 32 (b:Int)).toNat=a ^^^ b:=by
  rw[BitVec.ofInt_natCast,BitVec.ofInt_natCast,BitVec.toNat_xor,BitVec.toNat_ofNat,BitVec.toNat_ofNat,Nat.mod_eq_of_lt (by omega),Nat.mod_eq_of_lt (by omega)]
 show IntKind.wrap .u32 ((BitVec.ofInt 32 (a:Int) ^^^ BitVec.ofInt 32 (b:Int)).toNat:Int)=_
 rw[e]
 exact wrap32_nat (by omega)
theorem and32 (a:Nat) (ha:a<2 ^ 32):bits (fun _ a b=>a &&& b) .u32 (a:Int) 1=((a % 2:Nat):Int):=by
 unfold bits
 have e:(BitVec.ofInt 32 (a:Int) &&& BitVec.ofInt 32 ((1:Nat):Int)).toNat=a % 2:=by
  rw[BitVec.ofInt_natCast,BitVec.ofInt_natCast,BitVec.toNat_and,BitVec.toNat_ofNat,BitVec.toNat_ofNat,Nat.mod_eq_of_lt (by omega)]
  exact Nat.and_one_is_mod a
 show IntKind.wrap .u32 ((BitVec.ofInt 32 (a:Int) &&& BitVec.ofInt 32 ((1:Nat):Int)).toNat:Int)=_
 rw[e]
 exact wrap32_nat (by omega)
def crc1 (c:Nat):Nat:=if c % 2=1 then (c / 2) ^^^ 2197175160 else c / 2
def crcK:Nat→Nat→Nat
 | 0,c=>c
 | k+1,c=>crcK k (crc1 c)
def crcB (c:Nat) (b:UInt8):Nat:=crcK 8 (c ^^^ b.toNat)
def crcN (s:List UInt8):Nat:=s.foldl crcB 4294967295
def crcT (s:List UInt8):Int:=((4294967295 - crcN s:Nat):Int)
theorem crc1_lt {c:Nat} (h:c<2 ^ 32):crc1 c<2 ^ 32:=by
 unfold crc1
 split
 ·exact Nat.xor_lt_two_pow (by omega) (by decide)
 ·omega
theorem crcK_lt:∀(k:Nat) {c:Nat},c<2 ^ 32→crcK k c<2 ^ 32
 | 0,_,h=>h
 | k+1,_,h=>crcK_lt k (crc1_lt h)
theorem crcB_lt {c:Nat} (h:c<2 ^ 32) (b:UInt8):crcB c b<2 ^ 32:=
 crcK_lt 8 (Nat.xor_lt_two_pow h (by have:=b.toNat_lt;omega))
theorem crc_fold_lt:∀(s:List UInt8) {c:Nat},c<2 ^ 32→s.foldl crcB c<2 ^ 32
 | [],_,h=>h
 | b::s,_,h=>crc_fold_lt s (crcB_lt h b)
theorem crcT_range (s:List UInt8):0≤crcT s∧crcT s≤4294967295:=by unfold crcT;omega
theorem spec_Crc_l2 (s:List UInt8) (c:Nat) (i:Int) (hc:c<2 ^ 32):lp ψ1i.l2 (s,(c:Int),i,0)=some (s,((crcK 8 c:Nat):Int),i):=by
 have:=lp_up (step:=ψ1i.l2) (fun n (c:Nat)=>(s,(c:Int),i,(n:Int))) 8 (fun n c=>(s,((crcK (8 - n) c:Nat):Int),i)) (fun _ c=>c<2 ^ 32)
  (fun rec n c hn hc ih=>by
   rcases Nat.lt_or_ge n 8 with h | h
   ·have h8:(n:Int)<8:=by omega
    have hw:w64 ((n:Int)+1)=((n+1:Nat):Int):=w64_succ (by omega)
    have e1:w64 (Int.tdiv (c:Int) 2)=((c / 2:Nat):Int):=by
     rw[show Int.tdiv (c:Int) 2=((c / 2:Nat):Int) from rfl];exact w64_nat (by omega)
    have e2:Int.tmod (c:Int) 2=((c % 2:Nat):Int):=rfl
    have e3:bits (fun _ a b=>a ^^^ b) .i64 ((c / 2:Nat):Int) 2197175160=(((c / 2) ^^^ 2197175160:Nat):Int):=xor64 (c / 2) 2197175160 (by omega) (by decide)
    have e4:crcK (8 - n) c=crcK (8 - (n+1)) (crc1 c):=by
     rw[show 8 - n=(8 - (n+1))+1 by omega];rfl
    have ih:=ih (crc1 c) h (crc1_lt hc)
    rw[e4,←ih]
    simp only[ψ1i.l2,h8,decide_true,cond_true,e1,e2]
    unfold crc1
    by_cases k:c % 2=1
    ·have k2:(((c % 2:Nat):Int)==1)=true:=by rw[k];rfl
     simp only[k2,cond_true,e3,Option.bind_some,hw]
     rw[if_pos k]
    ·have k2:(((c % 2:Nat):Int)==1)=false:=by simp;omega
     simp only[k2,cond_false,Option.bind_some,hw]
     rw[if_neg k]
   ·have:n=8:=by omega
    subst this
    simp[ψ1i.l2,crcK])
  (by omega) 0 c (Nat.zero_le _) hc
 exact this
theorem impl_Crc_l2 (s:List UInt8) (c:Nat) (i:Int) (hc:c<2 ^ 32):lp ψ2.l2 (s,(c:Int),i,0)=some (s,((crcK 8 c:Nat):Int),i):=by
 have:=lp_up (step:=ψ2.l2) (fun n (c:Nat)=>(s,(c:Int),i,(n:Int))) 8 (fun n c=>(s,((crcK (8 - n) c:Nat):Int),i)) (fun _ c=>c<2 ^ 32)
  (fun rec n c hn hc ih=>by
   rcases Nat.lt_or_ge n 8 with h | h
   ·have h8:(n:Int)<8:=by omega
    have hw:w64 ((n:Int)+1)=((n+1:Nat):Int):=w64_succ (by omega)
    have e1:Int.fdiv (c:Int) (2 ^ (min 1 32))=((c / 2:Nat):Int):=by
     show Int.fdiv (c:Int) 2=_
     rw[Int.fdiv_eq_ediv_of_nonneg _ (by omega)];rfl
    have e3:bits (fun _ a b=>a ^^^ b) .u32 ((c / 2:Nat):Int) 2197175160=(((c / 2) ^^^ 2197175160:Nat):Int):=xor32 (c / 2) 2197175160 (by omega) (by decide)
    have e4:crcK (8 - n) c=crcK (8 - (n+1)) (crc1 c):=by
     rw[show 8 - n=(8 - (n+1))+1 by omega];rfl
    have ih:=ih (crc1 c) h (crc1_lt hc)
    rw[e4,←ih]
    simp only[ψ2.l2,h8,decide_true,cond_true,e1,and32 c hc]
    unfold crc1
    by_cases k:c % 2=1
    ·have k2:(((c % 2:Nat):Int)==1)=true:=by rw[k];rfl
     simp only[k2,cond_true,e3,Option.bind_some,hw]
     rw[if_pos k]
    ·have k2:(((c % 2:Nat):Int)==1)=false:=by simp;omega
     simp only[k2,cond_false,Option.bind_some,hw]
     rw[if_neg k]
   ·have:n=8:=by omega
    subst this
    simp[ψ2.l2,crcK])
  (by omega) 0 c (Nat.zero_le _) hc
 exact this
theorem spec_Crc_eq (s:List UInt8) (hl:s.length<2 ^ 62):ψ1i.f s=some (crcT s):=by
 have hk:=fold_loop (step:=ψ1i.l0) s crcB (fun n (c:Nat)=>(s,(c:Int),(n:Int))) (fun c=>(c:Int)) (fun _ c=>c<2 ^ 32) hl
  (fun rec n c h hc=>by
   have hc:c<2 ^ 32:=hc
   have hw:w64 ((n:Int)+1)=((n+1:Nat):Int):=w64_succ (by omega)
   have hb:=s[n].toNat_lt
   have e1:w64 (bAt s (n:Int))=((s[n].toNat:Nat):Int):=by rw[bAt_nat s n h];exact w64_nat (by omega)
   have e2:=xor64 c s[n].toNat (by omega) (by omega)
   simp only[ψ1i.l0,Int.ofNat_lt,h,decide_true,cond_true,inB_nat,e1,e2]
   rw[spec_Crc_l2 s _ _ (Nat.xor_lt_two_pow hc (by omega))]
   simp only[Option.bind_some,hw];rfl)
  (fun n c h hc=>crcB_lt hc _)
  (fun rec c hc=>by simp[ψ1i.l0]) 4294967295 (by decide)
 have hk:lp ψ1i.l0 (s,4294967295,0)=_:=hk
 unfold ψ1i.f crcT crcN
 rw[hk,Option.bind_some]
 have:=crc_fold_lt s (c:=4294967295) (by decide)
 generalize s.foldl crcB 4294967295=c at *
 simp only
 rw[w64_id (by omega) (by omega)]
 congr 1;omega
theorem all32 (c:Nat) (h:c<2 ^ 32):4294967295 ^^^ c=4294967295 - c:=by
 have e:(BitVec.allOnes 32 ^^^ BitVec.ofNat 32 c).toNat=(~~~ BitVec.ofNat 32 c).toNat:=by rw[BitVec.allOnes_xor]
 rw[BitVec.toNat_xor,BitVec.toNat_not,BitVec.toNat_allOnes,BitVec.toNat_ofNat,Nat.mod_eq_of_lt h] at e
 have e:4294967295 ^^^ c=4294967296 - 1 - c:=e
 omega
theorem impl_Crc_eq (s:List UInt8) (hl:s.length<2 ^ 62):ψ2.f s=some (crcT s):=by
 have hk:=fold_loop (step:=ψ2.l0) s crcB (fun n (c:Nat)=>(s,(c:Int),(n:Int))) (fun c=>(c:Int)) (fun _ c=>c<2 ^ 32) hl
  (fun rec n c h hc=>by
   have hc:c<2 ^ 32:=hc
   have hw:w64 ((n:Int)+1)=((n+1:Nat):Int):=w64_succ (by omega)
   have hb:=s[n].toNat_lt
   have e1:IntKind.wrap .u32 (bAt s (n:Int))=((s[n].toNat:Nat):Int):=by rw[bAt_nat s n h];exact wrap32_nat (by omega)
   have e2:=xor32 c s[n].toNat (by omega) (by omega)
   simp only[ψ2.l0,Int.ofNat_lt,h,decide_true,cond_true,inB_nat,e1,e2]
   rw[impl_Crc_l2 s _ _ (Nat.xor_lt_two_pow hc (by omega))]
   simp only[Option.bind_some,hw];rfl)
  (fun n c h hc=>crcB_lt hc _)
  (fun rec c hc=>by simp[ψ2.l0]) 4294967295 (by decide)
 have hk:lp ψ2.l0 (s,4294967295,0)=_:=hk
 unfold ψ2.f crcT crcN
 rw[hk,Option.bind_some]
 have:=crc_fold_lt s (c:=4294967295) (by decide)
 generalize s.foldl crcB 4294967295=c at *
 have e:bits (fun _ a b=>a ^^^ b) .u32 4294967295 (c:Int)=((4294967295 ^^^ c:Nat):Int):=xor32 4294967295 c (by decide) this
 simp only[e,all32 c this]
 rw[w64_nat (by omega)]
def vLow (n:Nat):List UInt8:=if h:n<128 then [] else UInt8.ofNat (128+n % 128)::vLow (n / 128)
termination_by n
decreasing_by omega
def vTop (n:Nat):Nat:=if h:n<128 then n else vTop (n / 128)
termination_by n
decreasing_by omega
theorem vLow_len:∀(k n:Nat),n<128 ^ (k+1)→(vLow n).length≤k
 | 0,n,h=>by unfold vLow;rw[dif_pos (by simpa using h)];simp
 | k+1,n,h=>by
  unfold vLow
  split
  ·simp
  ·have:=vLow_len k (n / 128) (by rw[Nat.div_lt_iff_lt_mul (by omega)];rw[Nat.pow_succ] at h;exact h)
   simp only[List.length_cons];omega
def varT (n:Int):List UInt8:=if 0≤n∧n≤562949953421311 then vLow n.toNat++[UInt8.ofNat (vTop n.toNat)] else []
theorem varT_len (n:Int):(varT n).length≤7:=by
 unfold varT
 split
 ·rename_i h
  have:=vLow_len 6 n.toNat (by show _<562949953421312;omega)
  rw[List.length_append,List.length_singleton];omega
 ·simp
theorem u8_wrap (n:Nat):UInt8.ofNat (IntKind.wrap .u8 (n:Int)).toNat=UInt8.ofNat n:=by
 have e:IntKind.wrap .u8 (n:Int)=((n % 256:Nat):Int):=by
  unfold IntKind.wrap
  simp only[IntKind.bits,IntKind.signed]
  simp
 rw[e,Int.toNat_natCast]
 exact UInt8.ofNat_mod_size
theorem impl_Var_l0_eq:ψw.l0=ψ2X.l0:=by
 funext rec x
 obtain ⟨x0,x3⟩:=x
 have e1:decide (x0 > 127)=decide (x0≥128):=decide_eq_decide.2 (by omega)
 simp only[ψw.l0,ψ2X.l0,e1,Int.add_comm 128]
theorem impl_Var_f_eq:ψw.f=ψ2X.f:=by
 funext n
 unfold ψw.f ψ2X.f
 rw[impl_in_eq,spec_l1In_eq,impl_Var_l0_eq]
theorem strOf_app (a b:List Int):strOf (a++b)=strOf a++strOf b:=List.map_append
def vLowI (n:Nat):List Int:=if h:n<128 then [] else IntKind.wrap .u8 (w64 (128+(n % 128:Nat)))::vLowI (n / 128)
termination_by n
decreasing_by omega
theorem vLowI_str (n:Nat):strOf (vLowI n)=vLow n:=by
 unfold vLowI vLow
 split
 ·rfl
 ·rw[show strOf (IntKind.wrap .u8 (w64 (128+(n % 128:Nat)))::vLowI (n / 128))=UInt8.ofNat (IntKind.wrap .u8 (w64 (128+(n % 128:Nat)))).toNat::strOf (vLowI (n / 128)) from rfl,vLowI_str (n / 128)]
  have e:w64 (128+((n % 128:Nat):Int))=((128+n % 128:Nat):Int):=by rw[w64_id (by omega) (by omega)];omega
  rw[e,u8_wrap]
termination_by n
decreasing_by omega
theorem vLowI_len (n:Nat):(vLowI n).length=(vLow n).length:=by rw[←vLowI_str];unfold strOf;rw[List.length_map]
theorem var_loop (m:Nat) (hm:m<128 ^ 7):lp ψ2X.l0 ((m:Int),[])=some (((vTop m:Nat):Int),vLowI m):=by
 have:=lp_eq (step:=ψ2X.l0) (a:=((m:Int),([]:List Int)))
  (fun a=>(((vTop a.1.toNat:Nat):Int),a.2++vLowI a.1.toNat)) (fun a=>0≤a.1∧a.2.length≤7∧a.1.toNat<128 ^ (7 - a.2.length)) (fun a=>a.1.toNat)
  (fun rec a ha ih=>by
   obtain ⟨x,l⟩:=a
   obtain ⟨n,rfl⟩:∃n:Nat,x=(n:Int):=⟨x.toNat,by have:=ha.1;simp only at this;omega⟩
   obtain ⟨_,h2,h3⟩:=ha
   simp only[Int.toNat_natCast] at h2 h3 ih ⊢
   have hn:n<128 ^ 7:=Nat.lt_of_lt_of_le h3 (Nat.pow_le_pow_right (by omega) (by omega))
   have hn:n<562949953421312:=hn
   by_cases c:n<128
   ·have c1:¬(n:Int)≥128:=by omega
    simp only[ψ2X.l0,c1,decide_false,cond_false]
    rw[show vTop n=n by unfold vTop;rw[dif_pos c],show vLowI n=[] by unfold vLowI;rw[dif_pos c],List.append_nil]
   ·have c1:(n:Int)≥128:=by omega
    have h4:l.length<7:=by
     rcases Nat.lt_or_ge l.length 7 with h | h
     ·exact h
     ·rw[show 7 - l.length=0 by omega] at h3;simp at h3;omega
    have e1:Int.tmod (n:Int) 128=((n % 128:Nat):Int):=rfl
    have e2:w64 (Int.tdiv (n:Int) 128)=((n / 128:Nat):Int):=by
     rw[show Int.tdiv (n:Int) 128=((n / 128:Nat):Int) from rfl];exact w64_nat (by omega)
    have hb:(l.length+[IntKind.wrap .u8 (w64 (128+((n % 128:Nat):Int)))].length) * 1≤140737488355328:=by
     show (l.length+1) * 1≤_;omega
    have ih:=ih (((n / 128:Nat):Int),l++[IntKind.wrap .u8 (w64 (128+((n % 128:Nat):Int)))]) ⟨by simp only;omega,by rw[List.length_append];show _+1≤_;omega,by
     rw[List.length_append,Int.toNat_natCast]
     show _<128 ^ (7 - (l.length+1))
     rw[Nat.div_lt_iff_lt_mul (by omega),←Nat.pow_succ,show (7 - (l.length+1)).succ=7 - l.length by omega];exact h3⟩ (by simp only[Int.toNat_natCast];omega)
    simp only[Int.toNat_natCast] at ih
    simp only[ψ2X.l0,c1,decide_true,cond_true,e1,e2,hb,ih]
    rw[show vTop n=vTop (n / 128) by rw[vTop,dif_neg c],show vLowI n=IntKind.wrap .u8 (w64 (128+(n % 128:Nat)))::vLowI (n / 128) by rw[vLowI,dif_neg c],List.append_assoc];rfl)
  ⟨by simp only;omega,by simp,by simpa using hm⟩ (by simp only[Int.toNat_natCast];have:m<562949953421312:=hm;omega)
 simpa using this
theorem spec_Var_eq (n:Int):ψ2X.f n=some (varT n):=by
 unfold ψ2X.f varT
 rw[spec_l1In_eq,Option.bind_some]
 by_cases h:0≤n∧n≤562949953421311
 rotate_left
 ·simp[h]
 obtain ⟨m,rfl⟩:∃m:Nat,n=(m:Int):=⟨n.toNat,by omega⟩
 have hm:m<128 ^ 7:=by show m<562949953421312;omega
 have key:∃L:List Int,strOf L=vLow m∧L.length≤7∧lp ψ2X.l0 ((m:Int),[])=some (((vTop m:Nat):Int),L):=
  ⟨vLowI m,vLowI_str m,by rw[vLowI_len];have:=vLow_len 6 m hm;omega,var_loop m hm⟩
 obtain ⟨L,e1,e2,e3⟩:=key
 have hb:(L.length+[IntKind.wrap .u8 ((vTop m:Nat):Int)].length) * 1≤140737488355328:=by
  show (L.length+1) * 1≤_;omega
 simp only[h,and_self,decide_true,Bool.not_true,cond_false,e3,Option.bind_some,hb,cond_true,if_true,strOf_app,e1,Int.toNat_natCast]
 unfold strOf
 simp only[List.map_cons,List.map_nil,u8_wrap]
theorem impl_Var_eq (n:Int):ψw.f n=some (varT n):=by rw[impl_Var_f_eq,spec_Var_eq]
def fixL (n:Nat):Nat→List UInt8
 | 0=>[]
 | k+1=>UInt8.ofNat (n / 256 ^ k)::fixL n k
theorem fixL_len (n:Nat):∀k,(fixL n k).length=k
 | 0=>rfl
 | k+1=>by simp[fixL,fixL_len n k]
theorem fixL_snoc (n:Nat):∀k,fixL n (k+1)=fixL (n / 256) k++[UInt8.ofNat n]
 | 0=>by simp[fixL]
 | k+1=>by
  rw[fixL,fixL_snoc n k]
  show _=UInt8.ofNat (n / 256 / 256 ^ k)::fixL (n / 256) k++[UInt8.ofNat n]
  rw[Nat.div_div_eq_div_mul,Nat.pow_succ,Nat.mul_comm (256 ^ k) 256];rfl
def fix4 (n:Int):List UInt8:=if 0≤n∧n≤4294967295 then fixL n.toNat 4 else []
theorem spec_Fixed_eq (n:Int) (hn:n<9223372036854775808):ψ1u.f n 4=some (fix4 n):=by
 unfold ψ1u.f fix4
 rw[spec_l1In_eq,Option.bind_some]
 by_cases h:0≤n
 rotate_left
 ·have h1:n<0:=by omega
  simp[h,h1]
 obtain ⟨m,rfl⟩:∃m:Nat,n=(m:Int):=⟨n.toNat,by omega⟩
 have key:=lp_up (step:=ψ1u.l0) (fun i (s:Nat×List UInt8)=>((s.1:Int),4,s.2,(i:Int))) 4 (fun i s=>(((s.1 / 256 ^ (4 - i):Nat):Int),fixL s.1 (4 - i)++s.2)) (fun i s=>s.1<9223372036854775808∧s.2.length≤i)
  (fun rec i s hi hv ih=>by
   obtain ⟨a,l⟩:=s
   obtain ⟨hv1,hv2⟩:=hv
   simp only at hv1 hv2 ih ⊢
   rcases Nat.lt_or_ge i 4 with h4 | h4
   ·have e0:(i:Int)<4:=by omega
    have e1:Int.tmod (a:Int) 256=((a % 256:Nat):Int):=rfl
    have e2:w64 (Int.tdiv (a:Int) 256)=((a / 256:Nat):Int):=by
     rw[show Int.tdiv (a:Int) 256=((a / 256:Nat):Int) from rfl];exact w64_nat (by omega)
    have e3:strOf [IntKind.wrap .u8 ((a % 256:Nat):Int)]=[UInt8.ofNat a]:=by
     unfold strOf
     simp only[List.map_cons,List.map_nil,u8_wrap]
     congr 1;exact UInt8.ofNat_mod_size
    have hw:w64 ((i:Int)+1)=((i+1:Nat):Int):=w64_succ (by omega)
    have hb:([UInt8.ofNat a]:List UInt8).length+l.length≤9223372036854775807:=by show 1+_≤_;omega
    have ih:=ih (a / 256,[UInt8.ofNat a]++l) h4 ⟨by simp only;omega,by simp;omega⟩
    simp only at ih
    simp only[ψ1u.l0,e0,decide_true,cond_true,e1,e2,e3,hb,hw,ih]
    rw[show 4 - i=(4 - (i+1))+1 by omega,fixL_snoc,Nat.pow_succ,Nat.mul_comm,←Nat.div_div_eq_div_mul,List.append_assoc]
   ·have:i=4:=by omega
    subst this
    simp[ψ1u.l0,fixL])
  (by omega) 0 (m,[]) (Nat.zero_le _) ⟨by simp only;omega,by simp⟩
 have key:lp ψ1u.l0 ((m:Int),4,[],0)=some (((m / 256 ^ 4:Nat):Int),fixL m 4++[]):=key
 have h1:¬(m:Int)<0:=by omega
 have h0:decide ((1:Int)≤4∧(4:Int)≤7)=true:=by decide
 have h2:(decide ((((m / 256 ^ 4:Nat):Int)) > 0))=!decide (0≤(m:Int)∧(m:Int)≤4294967295):=by
  have:m / 256 ^ 4=m / 4294967296:=rfl
  by_cases c:m≤4294967295
  ·have:m / 256 ^ 4=0:=by rw[this];omega
   rw[this];simp;omega
  ·have:0<m / 256 ^ 4:=by rw[this];omega
   have c2:¬(0≤(m:Int)∧(m:Int)≤4294967295):=by omega
   simp only[c2,decide_false,Bool.not_false,decide_eq_true_eq];omega
 simp only[h0,h1,decide_false,Bool.not_true,cond_false,key,Option.bind_some,h2,List.append_nil,Int.toNat_natCast]
 by_cases c:0≤(m:Int)∧(m:Int)≤4294967295
 ·simp[c]
 ·rw[if_neg c,decide_eq_false c];rfl
def fixI (n:Nat):Nat→List Int
 | 0=>[]
 | k+1=>IntKind.wrap .u8 ((n / 256 ^ k:Nat):Int)::fixI n k
theorem fixI_str (n:Nat):∀k,strOf (fixI n k)=fixL n k
 | 0=>rfl
 | k+1=>by
  rw[fixI,fixL,←fixI_str n k,←u8_wrap];rfl
theorem impl_Fixed_eq (n:Int):ψH.f n 4=some (fix4 n):=by
 unfold ψH.f fix4
 have h0:decide ((1:Int)≤4∧(4:Int)≤7)=true:=by decide
 have h1:decide (0≤w64 (8 * 4))=true:=by decide
 have h2:w64 (w64 (1 * 2 ^ (min (w64 (8 * 4)).toNat 64)) - 1)=4294967295:=by decide
 simp only[impl_in_eq,Option.bind_some,h0,h1,h2,Bool.not_true,cond_false,cond_true]
 by_cases h:0≤n∧n≤4294967295
 rotate_left
 ·simp[h]
 obtain ⟨m,rfl⟩:∃m:Nat,n=(m:Int):=⟨n.toNat,by omega⟩
 have key:=lp_eq (step:=ψH.l0) (a:=((m:Int),([]:List Int),(3:Int)))
  (fun a=>a.2.1++(fixI m (a.2.2+1).toNat)) (fun a=>a.1=(m:Int)∧-1≤a.2.2∧a.2.2≤3∧(a.2.1.length:Int)≤3 - a.2.2) (fun a=>(a.2.2+1).toNat)
  (fun rec a ha ih=>by
   obtain ⟨x,l,k⟩:=a
   obtain ⟨hx,ha1,ha2,ha3⟩:=ha
   simp only at hx ha1 ha2 ha3 ih ⊢
   subst hx
   by_cases c:k≥0
   ·obtain ⟨j,rfl⟩:∃j:Nat,k=(j:Int):=⟨k.toNat,by omega⟩
    have e1:w64 (8 * (j:Int))=((8 * j:Nat):Int):=by rw[w64_id (by omega) (by omega)];omega
    have e2:Int.fdiv (m:Int) (2 ^ (min ((8 * j:Nat):Int).toNat 64))=((m / 256 ^ j:Nat):Int):=by
     have e:(2:Int) ^ (8 * j)=((256 ^ j:Nat):Int):=by
      rw[show (256:Nat)=2 ^ 8 from rfl,←Nat.pow_mul,Int.natCast_pow];rfl
     rw[Int.toNat_natCast,Nat.min_eq_left (by omega),e,Int.fdiv_eq_ediv_of_nonneg _ (Int.natCast_nonneg _)]
     rfl
    have e3:w64 ((j:Int) - 1)=(j:Int) - 1:=w64_id (by omega) (by omega)
    have hb:(l.length+[IntKind.wrap .u8 ((m / 256 ^ j:Nat):Int)].length) * 1≤140737488355328:=by show (l.length+1) * 1≤_;omega
    have ih:=ih ((m:Int),l++[IntKind.wrap .u8 ((m / 256 ^ j:Nat):Int)],(j:Int) - 1) ⟨rfl,by simp only;omega,by simp only;omega,by simp only[List.length_append,List.length_singleton];omega⟩ (by simp only;omega)
    simp only at ih
    have h0:(0:Int)≤((8 * j:Nat):Int):=by omega
    simp only[ψH.l0,c,decide_true,cond_true,e1,h0,e2,hb,e3,ih]
    rw[show ((j:Int) - 1+1).toNat=j by omega,show ((j:Int)+1).toNat=j+1 by omega,fixI,List.append_assoc];rfl
   ·have:k=-1:=by omega
    subst this
    simp[ψH.l0,fixI])
  ⟨rfl,by simp only;omega,by simp only;omega,by simp⟩ (by show (4:Nat)<2 ^ 62;decide)
 have e9:w64 (4 - 1)=3:=by decide
 have key:lp ψH.l0 ((m:Int),[],3)=some (fixI m 4):=key
 simp only[h,and_self,decide_true,Bool.not_true,cond_false,e9,key,Option.bind_some,if_true,Int.toNat_natCast,fixI_str]
abbrev RecT:=Int×Int×List UInt8×List UInt8×Int×Int
def recOk (r:RecT):Bool:=
 decide (0≤r.2.1∧r.2.1≤1000000) && (!(r.2.1==0) || r.1==5) &&
 (if r.1=1∨r.1=4 then keyOk r.2.2.1 && (decide (r.2.2.2.1.length≤24) && (r.2.2.2.2.1==0 && r.2.2.2.2.2==0))
 else if r.1=2 then keyOk r.2.2.1 && (r.2.2.2.1==[] && (r.2.2.2.2.1==0 && r.2.2.2.2.2==0))
 else if r.1=3 then r.2.2.1==[] && (r.2.2.2.1==[] && (decide (0≤r.2.2.2.2.1∧r.2.2.2.2.1≤8) && decide (0≤r.2.2.2.2.2∧r.2.2.2.2.2≤4294967295)))
 else if r.1=5 then r.2.2.1==[] && (r.2.2.2.1==[] && (decide (0≤r.2.2.2.2.1∧r.2.2.2.2.1≤20) && decide (0≤r.2.2.2.2.2∧r.2.2.2.2.2≤4294967295)))
 else false)
theorem spec_RecOk_eq (r:RecT):ψ2G.f r=some (recOk r):=by
 obtain ⟨k,b,ky,v,c,s⟩:=r
 have e24:decide ((v.length:Int)≤24)=decide (v.length≤24):=decide_eq_decide.2 (by omega)
 unfold ψ2G.f recOk
 simp only[spec_l1In_eq,Option.bind_some,spec_KeyOk_eq,e24]
 by_cases hb:0≤b∧b≤1000000
 rotate_left
 ·simp only[hb,decide_false,Bool.not_false,cond_true,Option.bind_some,caseS_r,Bool.false_and]
 simp only[hb,and_self,decide_true,Bool.not_true,cond_false,Bool.true_and]
 rcases Bool.eq_false_or_eq_true (b==0 && k != 5) with h | h
 ·simp only[Bool.and_eq_true] at h
  have h2:(k==5)=false:=by have:=h.2;simpa [bne] using this
  simp only[h.1,h.2,h2,cond_true,Option.bind_some,caseS_r,Bool.not_true,Bool.false_or,Bool.false_and]
 have e1:(!(b==0) || k==5)=true:=by
  cases h3:(b==0)<;>cases h4:(k==5)<;>simp_all [bne]
 have e2:(bif b==0 then (bif k != 5 then some (Sum.inr false) else some (Sum.inl ((k,b,ky,v,c,s):RecT))) else some (Sum.inl (k,b,ky,v,c,s)):Option (RecT ⊕ Bool))=some (Sum.inl (k,b,ky,v,c,s)):=by
  cases h3:(b==0)
  ·rfl
  ·rw[h3] at h
   have h4:(k != 5)=false:=by simpa using h
   rw[h4];rfl
 simp only[e2,Option.bind_some,caseS_l,e1,Bool.true_and]
 by_cases k1:k=1
 ·subst k1
  simp only[cond_true,cond_false,Option.bind_some,e24,beq_self_eq_true,Bool.true_and,Bool.and_true,show ((1:Int)==1)=true from rfl,show ((4:Int)==1)=false from rfl,show ((4:Int)==4)=true from rfl,show ((2:Int)==2)=true from rfl,show ((3:Int)==2)=false from rfl,show ((3:Int)==3)=true from rfl,show ((5:Int)==5)=true from rfl,show ((5:Int)==3)=false from rfl,show ((5:Int)==2)=false from rfl,show ((4:Int)==5)=false from rfl,show ((3:Int)==5)=false from rfl,show ((2:Int)==5)=false from rfl,show ((1:Int)==5)=false from rfl]
  cases keyOk ky<;>cases decide (v.length≤24)<;>cases (c==0)<;>simp
 by_cases k4:k=4
 ·subst k4
  simp only[cond_true,cond_false,Option.bind_some,e24,beq_self_eq_true,Bool.true_and,Bool.and_true,show ((1:Int)==1)=true from rfl,show ((4:Int)==1)=false from rfl,show ((4:Int)==4)=true from rfl,show ((2:Int)==2)=true from rfl,show ((3:Int)==2)=false from rfl,show ((3:Int)==3)=true from rfl,show ((5:Int)==5)=true from rfl,show ((5:Int)==3)=false from rfl,show ((5:Int)==2)=false from rfl,show ((4:Int)==5)=false from rfl,show ((3:Int)==5)=false from rfl,show ((2:Int)==5)=false from rfl,show ((1:Int)==5)=false from rfl]
  cases keyOk ky<;>cases decide (v.length≤24)<;>cases (c==0)<;>simp
 have b1:(k==1)=false:=by simpa using k1
 have b4:(k==4)=false:=by simpa using k4
 simp only[b1,b4,cond_false,Option.bind_some,k1,k4,or_self,if_false]
 by_cases k2:k=2
 ·subst k2
  simp only[cond_true,cond_false,Option.bind_some,e24,beq_self_eq_true,Bool.true_and,Bool.and_true,show ((1:Int)==1)=true from rfl,show ((4:Int)==1)=false from rfl,show ((4:Int)==4)=true from rfl,show ((2:Int)==2)=true from rfl,show ((3:Int)==2)=false from rfl,show ((3:Int)==3)=true from rfl,show ((5:Int)==5)=true from rfl,show ((5:Int)==3)=false from rfl,show ((5:Int)==2)=false from rfl,show ((4:Int)==5)=false from rfl,show ((3:Int)==5)=false from rfl,show ((2:Int)==5)=false from rfl,show ((1:Int)==5)=false from rfl]
  cases keyOk ky<;>cases (v==[])<;>cases (c==0)<;>simp
 have b2:(k==2)=false:=by simpa using k2
 simp only[b2,cond_false,k2,if_false]
 by_cases k3:k=3
 ·subst k3
  simp only[cond_true,cond_false,Option.bind_some,e24,beq_self_eq_true,Bool.true_and,Bool.and_true,show ((1:Int)==1)=true from rfl,show ((4:Int)==1)=false from rfl,show ((4:Int)==4)=true from rfl,show ((2:Int)==2)=true from rfl,show ((3:Int)==2)=false from rfl,show ((3:Int)==3)=true from rfl,show ((5:Int)==5)=true from rfl,show ((5:Int)==3)=false from rfl,show ((5:Int)==2)=false from rfl,show ((4:Int)==5)=false from rfl,show ((3:Int)==5)=false from rfl,show ((2:Int)==5)=false from rfl,show ((1:Int)==5)=false from rfl]
  cases (ky==[])<;>cases (v==[])<;>cases decide (0≤c∧c≤8)<;>simp
 have b3:(k==3)=false:=by simpa using k3
 simp only[b3,cond_false,k3,if_false]
 by_cases k5:k=5
 ·subst k5
  simp only[cond_true,cond_false,Option.bind_some,e24,beq_self_eq_true,Bool.true_and,Bool.and_true,show ((1:Int)==1)=true from rfl,show ((4:Int)==1)=false from rfl,show ((4:Int)==4)=true from rfl,show ((2:Int)==2)=true from rfl,show ((3:Int)==2)=false from rfl,show ((3:Int)==3)=true from rfl,show ((5:Int)==5)=true from rfl,show ((5:Int)==3)=false from rfl,show ((5:Int)==2)=false from rfl,show ((4:Int)==5)=false from rfl,show ((3:Int)==5)=false from rfl,show ((2:Int)==5)=false from rfl,show ((1:Int)==5)=false from rfl]
  cases (ky==[])<;>cases (v==[])<;>cases decide (0≤c∧c≤20)<;>simp
 have b5:(k==5)=false:=by simpa using k5
 simp only[b5,cond_false,k5,if_false]
theorem impl_RecOk_eq (r:RecT):ψc.f r=some (recOk r):=by
 obtain ⟨k,b,ky,v,c,s⟩:=r
 have e24:decide ((v.length:Int)≤24)=decide (v.length≤24):=decide_eq_decide.2 (by omega)
 have hb0:decide (1≤b∧b≤1000000)=(decide (0≤b∧b≤1000000) && !(b==0)):=by
  by_cases h:b=0
  ·subst h;rfl
  ·have:(b==0)=false:=by simpa using h
   rw[this,Bool.not_false,Bool.and_true]
   exact decide_eq_decide.2 (by omega)
 unfold ψc.f recOk
 simp only[impl_in_eq,Option.bind_some,impl_KeyOk_eq,e24,hb0,beq_self_eq_true,Bool.true_and,Bool.and_true]
 by_cases k1:k=1
 ·subst k1
  simp only[cond_true,cond_false,Option.bind_some,e24,hb0,beq_self_eq_true,Bool.true_and,Bool.and_true,show ((1:Int)==1)=true from rfl,show ((4:Int)==1)=false from rfl,show ((4:Int)==4)=true from rfl,show ((2:Int)==2)=true from rfl,show ((3:Int)==2)=false from rfl,show ((3:Int)==3)=true from rfl,show ((5:Int)==5)=true from rfl,show ((5:Int)==3)=false from rfl,show ((5:Int)==2)=false from rfl,show ((4:Int)==5)=false from rfl,show ((3:Int)==5)=false from rfl,show ((2:Int)==5)=false from rfl,show ((1:Int)==5)=false from rfl]
  cases keyOk ky<;>cases decide (v.length≤24)<;>cases decide (0≤b∧b≤1000000)<;>cases (b==0)<;>simp
 by_cases k4:k=4
 ·subst k4
  simp only[cond_true,cond_false,Option.bind_some,e24,hb0,beq_self_eq_true,Bool.true_and,Bool.and_true,show ((1:Int)==1)=true from rfl,show ((4:Int)==1)=false from rfl,show ((4:Int)==4)=true from rfl,show ((2:Int)==2)=true from rfl,show ((3:Int)==2)=false from rfl,show ((3:Int)==3)=true from rfl,show ((5:Int)==5)=true from rfl,show ((5:Int)==3)=false from rfl,show ((5:Int)==2)=false from rfl,show ((4:Int)==5)=false from rfl,show ((3:Int)==5)=false from rfl,show ((2:Int)==5)=false from rfl,show ((1:Int)==5)=false from rfl]
  cases keyOk ky<;>cases decide (v.length≤24)<;>cases decide (0≤b∧b≤1000000)<;>cases (b==0)<;>simp
 have b1:(k==1)=false:=by simpa using k1
 have b4:(k==4)=false:=by simpa using k4
 simp only[b1,b4,cond_false,Option.bind_some,k1,k4,or_self,if_false]
 by_cases k2:k=2
 ·subst k2
  simp only[cond_true,cond_false,Option.bind_some,e24,hb0,beq_self_eq_true,Bool.true_and,Bool.and_true,show ((1:Int)==1)=true from rfl,show ((4:Int)==1)=false from rfl,show ((4:Int)==4)=true from rfl,show ((2:Int)==2)=true from rfl,show ((3:Int)==2)=false from rfl,show ((3:Int)==3)=true from rfl,show ((5:Int)==5)=true from rfl,show ((5:Int)==3)=false from rfl,show ((5:Int)==2)=false from rfl,show ((4:Int)==5)=false from rfl,show ((3:Int)==5)=false from rfl,show ((2:Int)==5)=false from rfl,show ((1:Int)==5)=false from rfl]
  cases keyOk ky<;>cases decide (0≤b∧b≤1000000)<;>cases (b==0)<;>simp
 have b2:(k==2)=false:=by simpa using k2
 simp only[b2,cond_false,k2,if_false]
 by_cases k3:k=3
 ·subst k3
  simp only[cond_true,cond_false,Option.bind_some,e24,hb0,beq_self_eq_true,Bool.true_and,Bool.and_true,show ((1:Int)==1)=true from rfl,show ((4:Int)==1)=false from rfl,show ((4:Int)==4)=true from rfl,show ((2:Int)==2)=true from rfl,show ((3:Int)==2)=false from rfl,show ((3:Int)==3)=true from rfl,show ((5:Int)==5)=true from rfl,show ((5:Int)==3)=false from rfl,show ((5:Int)==2)=false from rfl,show ((4:Int)==5)=false from rfl,show ((3:Int)==5)=false from rfl,show ((2:Int)==5)=false from rfl,show ((1:Int)==5)=false from rfl]
  cases decide (0≤c∧c≤8)<;>cases decide (0≤s∧s≤4294967295)<;>cases decide (0≤b∧b≤1000000)<;>cases (b==0)<;>simp
 have b3:(k==3)=false:=by simpa using k3
 simp only[b3,cond_false,k3,if_false]
 by_cases k5:k=5
 ·subst k5
  simp only[cond_true,cond_false,Option.bind_some,e24,hb0,beq_self_eq_true,Bool.true_and,Bool.and_true,show ((1:Int)==1)=true from rfl,show ((4:Int)==1)=false from rfl,show ((4:Int)==4)=true from rfl,show ((2:Int)==2)=true from rfl,show ((3:Int)==2)=false from rfl,show ((3:Int)==3)=true from rfl,show ((5:Int)==5)=true from rfl,show ((5:Int)==3)=false from rfl,show ((5:Int)==2)=false from rfl,show ((4:Int)==5)=false from rfl,show ((3:Int)==5)=false from rfl,show ((2:Int)==5)=false from rfl,show ((1:Int)==5)=false from rfl]
  cases decide (0≤c∧c≤20)<;>cases decide (0≤s∧s≤4294967295)<;>cases decide (0≤b∧b≤1000000)<;>simp
 have b5:(k==5)=false:=by simpa using k5
 simp only[b5,cond_false,k5,if_false,Bool.and_false]
def showRec (r:RecT):List UInt8:=
 if recOk r=false then [] else
 if r.1=1∨r.1=4 then varT r.1++varT r.2.1++varT (r.2.2.1.length:Int)++r.2.2.1++varT (r.2.2.2.1.length:Int)++r.2.2.2.1
 else if r.1=2 then varT r.1++varT r.2.1++varT (r.2.2.1.length:Int)++r.2.2.1
 else varT r.1++varT r.2.1++varT r.2.2.2.2.1++fix4 r.2.2.2.2.2
theorem fix4_len (n:Int):(fix4 n).length≤4:=by
 unfold fix4;split
 ·rw[fixL_len];omega
 ·simp
theorem showRec_len (r:RecT):(showRec r).length≤60:=by
 obtain ⟨k,b,ky,v,c,s⟩:=r
 unfold showRec
 split
 ·simp
 rename_i h
 have h:recOk (k,b,ky,v,c,s)=true:=by simpa using h
 have l1:=varT_len k
 have l2:=varT_len b
 have l3:=varT_len (ky.length:Int)
 have l4:=varT_len (v.length:Int)
 have l5:=varT_len c
 have l6:=fix4_len s
 unfold recOk keyOk at h
 simp only[Bool.and_eq_true] at h
 have h:=h.2
 split
 ·rename_i c1
  simp only at c1
  simp only[c1,if_true,Bool.and_eq_true,decide_eq_true_eq] at h
  simp only[List.length_append];omega
 ·rename_i c1
  simp only at c1
  split
  ·rename_i c2
   simp only at c2
   rw[if_neg c1,if_pos c2] at h
   simp only[Bool.and_eq_true,decide_eq_true_eq] at h
   simp only[List.length_append];omega
  ·simp only[List.length_append];omega
theorem lim63 {a b:Nat} (h:a+b≤1000000000000000):decide (a+b≤9223372036854775807)=true:=by
 rw[decide_eq_true_eq];omega
theorem spec_ShowRec_eq (r:RecT):ψ2R.f r=some (showRec r):=by
 obtain ⟨k,b,ky,v,c,s⟩:=r
 unfold ψ2R.f showRec
 rw[spec_RecOk_eq,Option.bind_some]
 rcases Bool.eq_false_or_eq_true (recOk (k,b,ky,v,c,s)) with h | h
 rotate_left
 ·simp[h]
 have hs:s<9223372036854775808∨k=1∨k=4∨k=2:=by
  unfold recOk at h
  simp only[Bool.and_eq_true] at h
  have h:=h.2
  by_cases c1:k=1∨k=4
  ·omega
  by_cases c2:k=2
  ·omega
  rw[if_neg c1,if_neg c2] at h
  left
  split at h
  ·simp only[Bool.and_eq_true,decide_eq_true_eq] at h;omega
  ·split at h
   ·simp only[Bool.and_eq_true,decide_eq_true_eq] at h;omega
   ·simp at h
 have hlen:k=1∨k=4∨k=2→ky.length≤8∧v.length≤24:=by
  intro hk
  unfold recOk keyOk at h
  simp only[Bool.and_eq_true] at h
  have h:=h.2
  by_cases c1:k=1∨k=4
  ·rw[if_pos c1] at h
   simp only[Bool.and_eq_true,decide_eq_true_eq] at h;omega
  by_cases c2:k=2
  ·rw[if_neg c1,if_pos c2] at h
   simp only[Bool.and_eq_true,decide_eq_true_eq,beq_iff_eq] at h
   rw[h.2.1];simp;omega
  ·omega
 have l1:=varT_len k
 have l2:=varT_len b
 have l3:=varT_len (ky.length:Int)
 have l4:=varT_len (v.length:Int)
 have l5:=varT_len c
 have l6:=fix4_len s
 simp only[h,Bool.not_true,cond_false,spec_Var_eq,Option.bind_some,lim63 (show (varT k).length+(varT b).length≤1000000000000000 by omega),cond_true,Bool.true_eq_false,if_false]
 have kk:(bif k==1 then some (((k,b,ky,v,c,s):RecT),varT k++varT b,k,k==1) else some ((k,b,ky,v,c,s),varT k++varT b,k,k==4))=some ((k,b,ky,v,c,s),varT k++varT b,k,decide (k=1∨k=4)):=by
  by_cases c1:k=1
  ·subst c1;rfl
  ·have b1:(k==1)=false:=by simpa using c1
   rw[b1,cond_false]
   by_cases c4:k=4
   ·subst c4;rfl
   ·have b4:(k==4)=false:=by simpa using c4
    rw[b4,decide_eq_false (by omega)]
 simp only[kk,Option.bind_some]
 by_cases c1:k=1∨k=4
 ·have hl:=hlen (by omega)
  simp only[c1,decide_true,cond_true,if_true,
   lim63 (show (varT k++varT b).length+(varT (ky.length:Int)).length≤1000000000000000 by simp only[List.length_append];omega),
   lim63 (show (varT k++varT b++varT (ky.length:Int)).length+ky.length≤1000000000000000 by simp only[List.length_append];omega),
   lim63 (show (varT k++varT b++varT (ky.length:Int)++ky).length+(varT (v.length:Int)).length≤1000000000000000 by simp only[List.length_append];omega),
   lim63 (show (varT k++varT b++varT (ky.length:Int)++ky++varT (v.length:Int)).length+v.length≤1000000000000000 by simp only[List.length_append];omega)]
 by_cases c2:k=2
 ·have hl:=hlen (by omega)
  have b2:(k==2)=true:=by simpa using c2
  simp only[c1,b2,decide_false,cond_false,cond_true,if_false,
   lim63 (show (varT k++varT b).length+(varT (ky.length:Int)).length≤1000000000000000 by simp only[List.length_append];omega),
   lim63 (show (varT k++varT b++varT (ky.length:Int)).length+ky.length≤1000000000000000 by simp only[List.length_append];omega)]
  rw[if_pos c2]
 ·have b2:(k==2)=false:=by simpa using c2
  simp only[c1,c2,b2,decide_false,cond_false,if_false,
   lim63 (show (varT k++varT b).length+(varT c).length≤1000000000000000 by simp only[List.length_append];omega),cond_true,
   spec_Fixed_eq s (by omega),Option.bind_some,
   lim63 (show (varT k++varT b++varT c).length+(fix4 s).length≤1000000000000000 by simp only[List.length_append];omega)]
theorem impl_textOf_eq (s:List UInt8) (h:s.length<2 ^ 62):ψ1J.f s=some (varT (s.length:Int)++s):=by
 have l:=varT_len (s.length:Int)
 unfold ψ1J.f
 have c:(varT (s.length:Int)).length+s.length≤9223372036854775807:=by omega
 simp only[impl_Var_eq,Option.bind_some,c,decide_true,cond_true]
theorem impl_vars_l0 (l:List Int):∀n (acc:List UInt8),n≤l.length→acc.length≤7 * n→l.length<1000000000000→lp ψ1M.l0 (acc,l,(l.length:Int),(n:Int))=some (acc++((l.drop n).map varT).flatten):=by
 intro n acc hn ha hl
 have:=lp_up (step:=ψ1M.l0) (fun n (acc:List UInt8)=>(acc,l,(l.length:Int),(n:Int))) l.length (fun n acc=>acc++((l.drop n).map varT).flatten) (fun n acc=>acc.length≤7 * n)
  (fun rec n acc hn ha ih=>by
   rcases Nat.lt_or_ge n l.length with h | h
   ·have hv:=varT_len l[n]
    have hb:acc.length+(varT l[n]).length≤9223372036854775807:=by omega
    have ih:=ih (acc++varT l[n]) h (by rw[List.length_append];omega)
    simp only[ψ1M.l0,Int.ofNat_lt,h,decide_true,cond_true,inB_nat,rdA_nat,getD_lt h,impl_Var_eq,Option.bind_some,hb,w64_succ (show n+1<9223372036854775808 by omega),ih]
    rw[List.drop_eq_getElem_cons h,List.map_cons,List.flatten_cons,List.append_assoc]
   ·have:n=l.length:=by omega
    subst this
    simp[ψ1M.l0])
  (by omega) n acc hn ha
 exact this
theorem impl_vars_eq (l:List Int) (hl:l.length<1000000000000):ψ1M.f l=some (l.map varT).flatten:=by
 unfold ψ1M.f
 have:=impl_vars_l0 l 0 [] (Nat.zero_le _) (by simp) hl
 have this:lp ψ1M.l0 ([],l,(l.length:Int),0)=_:=this
 rw[this];simp
theorem impl_ShowRec_eq (r:RecT):ψn.f r=some (showRec r):=by
 obtain ⟨k,b,ky,v,c,s⟩:=r
 unfold ψn.f showRec
 rw[impl_RecOk_eq,Option.bind_some]
 rcases Bool.eq_false_or_eq_true (recOk (k,b,ky,v,c,s)) with h | h
 rotate_left
 ·simp[h]
 have hlen:k=1∨k=4∨k=2→ky.length≤8∧v.length≤24:=by
  intro hk
  unfold recOk keyOk at h
  simp only[Bool.and_eq_true] at h
  have h:=h.2
  by_cases c1:k=1∨k=4
  ·rw[if_pos c1] at h
   simp only[Bool.and_eq_true,decide_eq_true_eq] at h;omega
  by_cases c2:k=2
  ·rw[if_neg c1,if_pos c2] at h
   simp only[Bool.and_eq_true,decide_eq_true_eq,beq_iff_eq] at h
   rw[h.2.1];simp;omega
  ·omega
 have l1:=varT_len k
 have l2:=varT_len b
 have l3:=varT_len (ky.length:Int)
 have l4:=varT_len (v.length:Int)
 have l5:=varT_len c
 have l6:=fix4_len s
 have hv:ψ1M.f [k,b]=some (varT k++varT b):=by rw[impl_vars_eq [k,b] (by show 2<1000000000000;decide)];simp
 simp only[h,Bool.not_true,cond_false,hv,Option.bind_some,Bool.true_eq_false,if_false]
 have kk:(bif k==1 then some (((k,b,ky,v,c,s):RecT),varT k++varT b,k,k==1) else some ((k,b,ky,v,c,s),varT k++varT b,k,k==4))=some ((k,b,ky,v,c,s),varT k++varT b,k,decide (k=1∨k=4)):=by
  by_cases c1:k=1
  ·subst c1;rfl
  ·have b1:(k==1)=false:=by simpa using c1
   rw[b1,cond_false]
   by_cases c4:k=4
   ·subst c4;rfl
   ·have b4:(k==4)=false:=by simpa using c4
    rw[b4,decide_eq_false (by omega)]
 simp only[kk,Option.bind_some]
 by_cases c1:k=1∨k=4
 ·have hl:=hlen (by omega)
  simp only[c1,decide_true,cond_true,if_true,impl_textOf_eq ky (by omega),impl_textOf_eq v (by omega),Option.bind_some,
   lim63 (show (varT k++varT b).length+(varT (ky.length:Int)++ky).length≤1000000000000000 by simp only[List.length_append];omega),
   lim63 (show (varT k++varT b++(varT (ky.length:Int)++ky)).length+(varT (v.length:Int)++v).length≤1000000000000000 by simp only[List.length_append];omega)]
  simp only[List.append_assoc]
 by_cases c2:k=2
 ·have hl:=hlen (by omega)
  have b2:(k==2)=true:=by simpa using c2
  simp only[c1,b2,decide_false,cond_false,cond_true,if_false,impl_textOf_eq ky (by omega),Option.bind_some,
   lim63 (show (varT k++varT b).length+(varT (ky.length:Int)++ky).length≤1000000000000000 by simp only[List.length_append];omega)]
  rw[if_pos c2]
  simp only[List.append_assoc]
 ·have b2:(k==2)=false:=by simpa using c2
  simp only[c1,c2,b2,decide_false,cond_false,if_false,impl_Var_eq,Option.bind_some,
   lim63 (show (varT k++varT b).length+(varT c).length≤1000000000000000 by simp only[List.length_append];omega),cond_true,
   impl_Fixed_eq s,Option.bind_some,
   lim63 (show (varT k++varT b++varT c).length+(fix4 s).length≤1000000000000000 by simp only[List.length_append];omega)]
def frame (s:List UInt8):List UInt8:=
 if 200<s.length then [] else fix4 (crcT (varT (s.length:Int)++s))++(varT (s.length:Int)++s)
theorem frame_len (s:List UInt8):(frame s).length≤211:=by
 unfold frame
 split
 ·simp
 ·have l1:=varT_len (s.length:Int)
  have l2:=fix4_len (crcT (varT (s.length:Int)++s))
  simp only[List.length_append];omega
theorem spec_Frame_eq (s:List UInt8) (h:s.length<2 ^ 62):ψ1v.f s=some (frame s):=by
 unfold ψ1v.f frame
 by_cases c:200<s.length
 ·have c1:(s.length:Int) > 200:=by omega
  simp[c,c1]
 have c1:¬(s.length:Int) > 200:=by omega
 have l1:=varT_len (s.length:Int)
 have l2:=fix4_len (crcT (varT (s.length:Int)++s))
 have r:=crcT_range (varT (s.length:Int)++s)
 simp only[c,c1,decide_false,cond_false,if_false,spec_Var_eq,Option.bind_some,lim63 (show (varT (s.length:Int)).length+s.length≤1000000000000000 by omega),cond_true,
  spec_Crc_eq (varT (s.length:Int)++s) (by rw[List.length_append];omega),spec_Fixed_eq _ (show crcT (varT (s.length:Int)++s)<9223372036854775808 by omega),
  lim63 (show (fix4 (crcT (varT (s.length:Int)++s))).length+(varT (s.length:Int)++s).length≤1000000000000000 by simp only[List.length_append];omega)]
theorem impl_Frame_eq (s:List UInt8) (h:s.length<2 ^ 62):ψI.f s=some (frame s):=by
 unfold ψI.f frame
 by_cases c:200<s.length
 ·have c1:(s.length:Int) > 200:=by omega
  simp[c,c1]
 have c1:¬(s.length:Int) > 200:=by omega
 have l1:=varT_len (s.length:Int)
 have l2:=fix4_len (crcT (varT (s.length:Int)++s))
 have r:=crcT_range (varT (s.length:Int)++s)
 simp only[c,c1,decide_false,cond_false,if_false,impl_textOf_eq s (by omega),Option.bind_some,cond_true,
  impl_Crc_eq (varT (s.length:Int)++s) (by rw[List.length_append];omega),impl_Fixed_eq,
  lim63 (show (fix4 (crcT (varT (s.length:Int)++s))).length+(varT (s.length:Int)++s).length≤1000000000000000 by simp only[List.length_append];omega)]
def showAll (l:List RecT):List UInt8:=(l.map showRec).flatten
def sumOf (l:List RecT):Int:=crcT (showAll l)
theorem showAll_len:∀(l:List RecT),(showAll l).length≤60 * l.length
 | []=>by simp[showAll]
 | r::l=>by
  have h1:=showAll_len l
  have h2:=showRec_len r
  unfold showAll at *
  rw[List.map_cons,List.flatten_cons,List.length_append,List.length_cons];omega
theorem showAll_snoc (l:List RecT) (r:RecT):showAll (l++[r])=showAll l++showRec r:=by
 unfold showAll;simp
theorem spec_SumOf_eq (l:List RecT) (hl:l.length<1000000000000):ψ2T.f l=some (sumOf l):=by
 have hk:=lp_up (step:=ψ2T.l0) (fun n (_:Unit)=>(l,showAll (l.take n),(n:Int))) l.length (fun _ _=>showAll l) (fun _ _=>True)
  (fun rec n s hn _ ih=>by
   rcases Nat.lt_or_ge n l.length with h | h
   ·have h1:=showAll_len (l.take n)
    have h2:=showRec_len l[n]
    rw[List.length_take] at h1
    have ih:=ih () h trivial
    rw[List.take_succ_eq_append_getElem h,showAll_snoc] at ih
    simp only[ψ2T.l0,Int.ofNat_lt,h,decide_true,cond_true,inB_nat,rdA_nat,getD_lt h,pair_eta,spec_ShowRec_eq,Option.bind_some,lim63 (show (showAll (l.take n)).length+(showRec l[n]).length≤1000000000000000 by omega),w64_succ (show n+1<9223372036854775808 by omega),ih]
   ·have:n=l.length:=by omega
    subst this
    simp[ψ2T.l0])
  (by omega) 0 () (Nat.zero_le _) trivial
 have hk:lp ψ2T.l0 (l,[],0)=_:=hk
 have hl2:=showAll_len l
 unfold ψ2T.f sumOf
 rw[hk,Option.bind_some,spec_Crc_eq _ (by omega),Option.bind_some]
theorem impl_SumOf_eq (l:List RecT) (hl:l.length<1000000000000):ψq.f l=some (sumOf l):=by
 have hk:=lp_up (step:=ψq.l0) (fun n (_:Unit)=>(showAll (l.take n),l,(l.length:Int),(n:Int))) l.length (fun _ _=>showAll l) (fun _ _=>True)
  (fun rec n s hn _ ih=>by
   rcases Nat.lt_or_ge n l.length with h | h
   ·have h1:=showAll_len (l.take n)
    have h2:=showRec_len l[n]
    rw[List.length_take] at h1
    have ih:=ih () h trivial
    rw[List.take_succ_eq_append_getElem h,showAll_snoc] at ih
    simp only[ψq.l0,Int.ofNat_lt,h,decide_true,cond_true,inB_nat,rdA_nat,getD_lt h,pair_eta,impl_ShowRec_eq,Option.bind_some,lim63 (show (showAll (l.take n)).length+(showRec l[n]).length≤1000000000000000 by omega),w64_succ (show n+1<9223372036854775808 by omega),ih]
   ·have:n=l.length:=by omega
    subst this
    simp[ψq.l0])
  (by omega) 0 () (Nat.zero_le _) trivial
 have hk:lp ψq.l0 ([],l,(l.length:Int),0)=_:=hk
 have hl2:=showAll_len l
 unfold ψq.f sumOf
 rw[hk,Option.bind_some,impl_Crc_eq _ (by omega),Option.bind_some]
theorem lim64' {a:Nat} (h:a<1000000000001):(a+1) * 64≤140737488355328:=by omega
def keepOf (p:PairT):RecT:=(4,p.2.2,p.1,p.2.1,0,0)
theorem sumN_snoc {α:Type} (f:α→Nat):∀(l:List α) (x:α),sumN f (l++[x])=sumN f l+f x
 | [],x=>by simp[sumN]
 | y::l,x=>by
  have:=sumN_snoc f l x
  simp only[List.cons_append,sumN,this];omega
def keepsOf (l:List PairT) (mark:Int):List RecT:=l.map keepOf++[(5,mark,[],[],(l.length:Int),sumOf (l.map keepOf))]
theorem take_map_succ (l:List PairT) (n:Nat) (h:n<l.length):(l.take (n+1)).map keepOf=(l.take n).map keepOf++[keepOf l[n]]:=by
 rw[List.take_succ_eq_append_getElem h,List.map_append];rfl
theorem impl_keeps_eq (l:List PairT) (mark:Int) (hl:l.length<1000000000):ψ16.f l mark=some (keepsOf l mark):=by
 have hk:=lp_up (step:=ψ16.l0) (fun n (_:Unit)=>(l,mark,(l.take n).map keepOf,l,(l.length:Int),(n:Int))) l.length (fun _ _=>(l,mark,l.map keepOf)) (fun _ _=>True)
  (fun rec n s hn _ ih=>by
   rcases Nat.lt_or_ge n l.length with h | h
   ·have ih:=ih () h trivial
    rw[take_map_succ l n h] at ih
    have hb:(((l.take n).map keepOf).length+([keepOf l[n]]:List RecT).length) * 64≤140737488355328:=by
     rw[List.length_map,List.length_take];exact lim64' (by omega)
    have hb2:(((l.take n).map keepOf).length+([(4,l[n].2.2,l[n].1,l[n].2.1,0,0)]:List RecT).length) * 64≤140737488355328:=hb
    have hkp:((4,l[n].2.2,l[n].1,l[n].2.1,0,0):RecT)=keepOf l[n]:=rfl
    simp only[ψ16.l0,Int.ofNat_lt,h,decide_true,cond_true,inB_nat,rdA_nat,getD_lt h,hkp,w64_succ (show n+1<9223372036854775808 by omega),ih]
    exact congrArg (fun b=>bif b then some (l,mark,l.map keepOf) else none) (decide_eq_true hb2)
   ·have:n=l.length:=by omega
    subst this
    simp[ψ16.l0])
  (by omega) 0 () (Nat.zero_le _) trivial
 have hk:lp ψ16.l0 (l,mark,[],l,(l.length:Int),0)=_:=hk
 unfold ψ16.f keepsOf
 rw[hk,Option.bind_some]
 have hb:((l.map keepOf).length+([((5,mark,[],[],(l.length:Int),sumOf (l.map keepOf)):RecT)]:List RecT).length) * 64≤140737488355328:=by
  rw[List.length_map];exact lim64' (by omega)
 simp only[impl_SumOf_eq (l.map keepOf) (by rw[List.length_map];omega),Option.bind_some,hb,decide_true,cond_true]
abbrev CurT:=List Int×Int×Int
def Cur (c:CurT):Prop:=0≤c.2.1∧c.1.length<2 ^ 60
theorem and255 (x:Int):0≤bits (fun _ a b=>a &&& b) .i64 x 255∧bits (fun _ a b=>a &&& b) .i64 x 255≤255:=by
 have e:bits (fun _ a b=>a &&& b) .i64 x 255=IntKind.wrap .i64 ((BitVec.ofInt 64 x &&& BitVec.ofInt 64 255).toNat:Int):=rfl
 have h:(BitVec.ofInt 64 x &&& BitVec.ofInt 64 255).toNat≤255:=by
  rw[BitVec.toNat_and]
  exact Nat.le_trans Nat.and_le_right (by decide)
 rw[e,wrap64_nat (by omega)]
 omega
theorem l1Byte_ok {c:CurT} (h:Cur c):∃x c',ψ2v.f c=some (x,c')∧0≤x∧x≤255∧Cur c':=by
 obtain ⟨l,i,s⟩:=c
 obtain ⟨h1,h2⟩:=h
 simp only at h1 h2
 unfold ψ2v.f
 simp only
 generalize bits (fun _ a b=>a ^^^ b) .i64 _ _=y
 by_cases c:i<(l.length:Int)
 ·obtain ⟨j,rfl⟩:∃j:Nat,i=(j:Int):=⟨i.toNat,by omega⟩
  have c2:j<l.length:=by omega
  simp only[c,decide_true,cond_true,inB_nat,c2]
  refine ⟨_,_,rfl,(and255 _).1,(and255 _).2,?_,h2⟩
  show 0≤w64 _
  rw[w64_id (by omega) (by omega)];omega
 ·simp only[c,decide_false,cond_false]
  exact ⟨_,_,rfl,(and255 _).1,(and255 _).2,h1,h2⟩
theorem tmod_range {x n:Int} (hx:0≤x) (hn:0<n):0≤Int.tmod x n∧Int.tmod x n<n:=by
 exact ⟨Int.tmod_nonneg n hx,Int.tmod_lt_of_pos x hn⟩
theorem l1Below_ok {c:CurT} (h:Cur c) (n:Int):∃x c',ψ2u.f c n=some (x,c')∧0≤x∧(0<n→x<n)∧(n≤0→x=0)∧Cur c':=by
 unfold ψ2u.f
 by_cases c0:n≤0
 ·simp only[c0,decide_true,cond_true]
  exact ⟨0,c,rfl,Int.le_refl _,fun h=>by omega,fun _=>rfl,h⟩
 have hn:(n != 0)=true:=by simp;omega
 by_cases c1:n≤256
 ·obtain ⟨x,c',e,h1,h2,h3⟩:=l1Byte_ok h
  simp only[c0,c1,decide_true,decide_false,cond_true,cond_false,e,Option.bind_some,hn]
  have:=tmod_range h1 (show 0<n by omega)
  exact ⟨_,_,rfl,this.1,fun _=>this.2,fun h=>h.elim,h3⟩
 ·obtain ⟨x,c1',e1,a1,b1,h1⟩:=l1Byte_ok h
  obtain ⟨y,c2',e2,a2,b2,h2⟩:=l1Byte_ok h1
  obtain ⟨z,c3',e3,a3,b3,h3⟩:=l1Byte_ok h2
  obtain ⟨w,c4',e4,a4,b4,h4⟩:=l1Byte_ok h3
  simp only[c0,c1,decide_false,cond_false,e1,e2,e3,e4,Option.bind_some,hn,cond_true]
  rw[w64_id (n:=x * 16777216) (by omega) (by omega),w64_id (n:=y * 65536) (by omega) (by omega),w64_id (n:=z * 256) (by omega) (by omega),w64_id (n:=x * 16777216+y * 65536) (by omega) (by omega),w64_id (n:=x * 16777216+y * 65536+z * 256) (by omega) (by omega),w64_id (n:=x * 16777216+y * 65536+z * 256+w) (by omega) (by omega)]
  have:=tmod_range (x:=x * 16777216+y * 65536+z * 256+w) (n:=n) (by omega) (by omega)
  exact ⟨_,_,rfl,this.1,fun _=>this.2,fun h=>h.elim,h4⟩
theorem l1Once_ok {c:CurT} (h:Cur c) (n:Int):∃b c',ψ2y.f c n=some (b,c')∧Cur c':=by
 obtain ⟨x,c',e,_,_,_,h'⟩:=l1Below_ok h n
 unfold ψ2y.f
 simp only[e,Option.bind_some]
 exact ⟨_,_,rfl,h'⟩
theorem l1Pick_ok {c:CurT} (h:Cur c) (l:List (List UInt8)) (hl:0<l.length):∃x c',ψ2z.f c l=some (x,c')∧x∈l∧Cur c':=by
 obtain ⟨x,c',e,h1,h2,_,h'⟩:=l1Below_ok h (l.length:Int)
 have h2:=h2 (by omega)
 unfold ψ2z.f
 simp only[e,Option.bind_some]
 obtain ⟨j,rfl⟩:∃j:Nat,x=(j:Int):=⟨x.toNat,by omega⟩
 have c2:j<l.length:=by omega
 simp only[inB_nat,c2,decide_true,cond_true,rdA_nat,getD_lt c2]
 exact ⟨_,_,rfl,List.getElem_mem c2,h'⟩
def keyList:List (List UInt8):=[[97],[98],[99],[107,101,121],[108,111,110,103,110,97,109,101]]
theorem l5Key_ok {c:CurT} (h:Cur c):∃x c',ψ3B.f c=some (x,c')∧keyOk x=true∧Cur c':=by
 obtain ⟨x,c',e,hm,h'⟩:=l1Pick_ok h keyList (by decide)
 unfold ψ3B.f
 have e:ψ2z.f c [[97],[98],[99],[107,101,121],[108,111,110,103,110,97,109,101]]=some (x,c'):=e
 simp only[e,Option.bind_some]
 refine ⟨_,_,rfl,?_,h'⟩
 have:∀y∈keyList,keyOk y=true:=by decide
 exact this x hm
theorem down_ok {A B σ:Type} {step:(A→Option B)→A→Option B} (st:Nat→σ→A) (Inv:Nat→σ→Prop) (Post:B→Prop)
  (hz:∀rec s,Inv 0 s→∃b,step rec (st 0 s)=some b∧Post b)
  (hs:∀rec n s,Inv (n+1) s→∃s',Inv n s'∧step rec (st (n+1) s)=rec (st n s')) (n:Nat) (s:σ) (hi:Inv n s) (hn:n<2 ^ 62):∃b,lp step (st n s)=some b∧Post b:=by
 have key:∀n f s,Inv n s→n<f→∃b,loopF step f (st n s)=some b∧Post b:=by
  intro n
  induction n with
  | zero=>
   intro f s hi hf
   obtain ⟨f,rfl⟩:∃g,f=g+1:=⟨f - 1,by omega⟩
   exact hz _ s hi
  | succ n ih=>
   intro f s hi hf
   obtain ⟨f,rfl⟩:∃g,f=g+1:=⟨f - 1,by omega⟩
   obtain ⟨s',hi',e⟩:=hs (loopF step f) n s hi
   show ∃b,step (loopF step f) (st (n+1) s)=some b∧Post b
   rw[e]
   exact ih f s' hi' (by omega)
 exact key n FUEL s hi (Nat.lt_of_lt_of_le hn fuel_le)
theorem lp_ok {A B:Type} {step:(A→Option B)→A→Option B} (P:A→Prop) (m:A→Nat) (Post:B→Prop)
  (h:∀rec a,P a→(∃b,step rec a=some b∧Post b)∨∃a',P a'∧m a'<m a∧step rec a=rec a') {a:A} (hp:P a) (hm:m a<2 ^ 62):∃b,lp step a=some b∧Post b:=by
 have key:∀f a,P a→m a<f→∃b,loopF step f a=some b∧Post b:=by
  intro f
  induction f with
  | zero=>intro a _ hf;omega
  | succ f ih=>
   intro a hp hf
   rcases h (loopF step f) a hp with hx | ⟨a',hp',hlt,e⟩
   ·exact hx
   ·show ∃b,step (loopF step f) a=some b∧Post b
    rw[e]
    exact ih a' hp' (by omega)
 exact key FUEL a hp (Nat.lt_of_lt_of_le hm fuel_le)
theorem l1Text_ok {c:CurT} (h:Cur c) (most:Int) (h0:0≤most) (h1:most<1000000000):∃x c',ψ31.f c most=some (x,c')∧(x.length:Int)≤most∧Cur c':=by
 obtain ⟨st,c1,e1,_,_,_,hc1⟩:=l1Below_ok h 4
 obtain ⟨n,c2,e2,a2,b2,_,hc2⟩:=l1Below_ok hc1 (most+1)
 have b2:=b2 (by omega)
 obtain ⟨m,rfl⟩:∃m:Nat,n=(m:Int):=⟨n.toNat,by omega⟩
 have key:=down_ok (step:=ψ31.l0) (fun k (s:CurT×List Int)=>(s.1,s.2,st,(k:Int))) (fun k s=>Cur s.1∧s.2.length+k=m) (fun b=>Cur b.1∧b.2.length=m)
  (fun rec s hi=>⟨_,by simp[ψ31.l0],hi.1,by simpa using hi.2⟩)
  (fun rec k s hi=>by
   obtain ⟨hi1,hi2⟩:=hi
   obtain ⟨x,c',e,_,_,h'⟩:=l1Byte_ok hi1
   have e0:((k+1:Nat):Int) > 0:=by omega
   have hw:w64 (((k+1:Nat):Int) - 1)=(k:Int):=by rw[w64_id (by omega) (by omega)];omega
   have hb:∀v:Int,(s.2.length+[v].length) * 1≤140737488355328:=fun v=>by show (s.2.length+1) * 1≤_;omega
   cases d1:(st==1)<;>cases d2:(st==2)<;>simp only[ψ31.l0,e0,decide_true,cond_true,cond_false,e,Option.bind_some,d1,d2,hb,hw]
   all_goals exact ⟨(c',s.2++[_]),⟨h',by simp only[List.length_append,List.length_singleton];omega⟩,rfl⟩)
  m (c2,[]) ⟨hc2,by simp⟩ (by omega)
 obtain ⟨⟨c3,xs⟩,e3,hc3,hl⟩:=key
 have e3:lp ψ31.l0 (c2,[],st,(m:Int))=some (c3,xs):=e3
 unfold ψ31.f
 rw[e1,Option.bind_some]
 simp only[w64_id (n:=most+1) (by omega) (by omega),e2,Option.bind_some,e3]
 refine ⟨_,_,rfl,?_,hc3⟩
 unfold strOf
 simp only at hl
 rw[List.length_map,hl];omega
theorem l1New_ok (l:List Int) (hl:l.length<2 ^ 60):∃c,ψ2x.f l=some c∧Cur c:=by
 have key:∃s,lp ψ2x.l0 (l,w64 (10101+(l.length:Int)),0)=some (l,s):=by
  have:=lp_ok (step:=ψ2x.l0) (a:=(l,w64 (10101+(l.length:Int)),((0:Nat):Int))) (fun a=>a.1=l∧∃n:Nat,a.2.2=(n:Int)∧n≤l.length) (fun a=>l.length - a.2.2.toNat) (fun b=>b.1=l)
   (fun rec a ha=>by
    obtain ⟨x,s,i⟩:=a
    obtain ⟨hx,n,hn,hle⟩:=ha
    simp only at hx hn
    subst hx hn
    by_cases c:n<x.length
    ·by_cases c2:(n:Int)<4000
     ·right
      have c3:(n:Int)<(x.length:Int):=by omega
      refine ⟨(x,bits (fun _ a b=>a &&& b) .i64 (w64 ((w64 ((w64 (s * 131))+(w64 (x.getD n 0))))+7)) 1073741823,((n+1:Nat):Int)),⟨rfl,n+1,rfl,c⟩,by simp only[Int.toNat_natCast];omega,?_⟩
      simp only[ψ2x.l0,c3,c2,decide_true,cond_true,inB_nat,c,rdA_nat,w64_succ (show n+1<9223372036854775808 by omega)]
     ·left
      have c3:(n:Int)<(x.length:Int):=by omega
      exact ⟨(x,s),by simp only[ψ2x.l0,c3,c2,decide_true,decide_false,cond_true,cond_false],rfl⟩
    ·left
     have c3:¬(n:Int)<(x.length:Int):=by omega
     exact ⟨(x,s),by simp only[ψ2x.l0,c3,decide_false,cond_false],rfl⟩)
   ⟨rfl,0,rfl,Nat.zero_le _⟩ (by simp only;omega)
  obtain ⟨⟨b1,b2⟩,e,hb⟩:=this
  simp only at hb
  subst hb
  exact ⟨b2,e⟩
 obtain ⟨s,e⟩:=key
 unfold ψ2x.f
 simp only[e,Option.bind_some]
 exact ⟨_,rfl,Int.le_refl _,hl⟩
theorem lim24 {a:Nat} (h:a<1000000000001):(a+1) * 24≤140737488355328:=by omega
theorem down1 {k:Nat} (hk:k<2 ^ 60):w64 (((k+1:Nat):Int) - 1)=(k:Int):=by rw[w64_id (by omega) (by omega)];omega
theorem l12Puts_ok {c:CurT} (h:Cur c):∃l c',ψ2m.f c=some (l,c')∧l.length≤3∧(∀p∈l,putOk p=true)∧Cur c':=by
 obtain ⟨n,c1,e1,a1,b1,_,h1⟩:=l1Below_ok h 4
 have b1:=b1 (by omega)
 obtain ⟨m,rfl⟩:∃m:Nat,n=(m:Int):=⟨n.toNat,by omega⟩
 have key:=down_ok (step:=ψ2m.l0) (fun k (s:CurT×List PutT)=>(s.1,s.2,(k:Int))) (fun k s=>Cur s.1∧s.2.length+k=m∧∀p∈s.2,putOk p=true) (fun b=>Cur b.1∧b.2.length=m∧∀p∈b.2,putOk p=true)
  (fun rec s hi=>⟨_,by simp[ψ2m.l0],hi.1,by simpa using hi.2.1,hi.2.2⟩)
  (fun rec k s hi=>by
   obtain ⟨hi1,hi2,hi3⟩:=hi
   obtain ⟨ky,c2,f1,g1,h2⟩:=l5Key_ok hi1
   obtain ⟨v,c3,f2,g2,h3⟩:=l1Text_ok h2 16 (by omega) (by omega)
   obtain ⟨o,c4,f3,h4⟩:=l1Once_ok h3 4
   have e0:((k+1:Nat):Int) > 0:=by omega
   have hw:=down1 (show k<2 ^ 60 by omega)
   have hb:∀v:PutT,(s.2.length+[v].length) * 40≤140737488355328:=fun v=>lim40 (by omega)
   cases o<;>simp only[ψ2m.l0,e0,decide_true,cond_true,cond_false,f1,f2,f3,Option.bind_some,hb,hw]
   ·exact ⟨(c4,s.2++[(ky,false,v)]),⟨h4,by simp only[List.length_append,List.length_singleton];omega,fun p hp=>by
     rcases List.mem_append.1 hp with hp | hp
     ·exact hi3 p hp
     ·rw[List.mem_singleton.1 hp];unfold putOk;simp[g1];omega⟩,rfl⟩
   ·exact ⟨(c4,s.2++[(ky,true,[])]),⟨h4,by simp only[List.length_append,List.length_singleton];omega,fun p hp=>by
     rcases List.mem_append.1 hp with hp | hp
     ·exact hi3 p hp
     ·rw[List.mem_singleton.1 hp];unfold putOk;simp[g1]⟩,rfl⟩)
  m (c1,[]) ⟨h1,by simp,by simp⟩ (by omega)
 obtain ⟨⟨c5,l⟩,e5,h5,hl,hp⟩:=key
 have e5:lp ψ2m.l0 (c1,[],(m:Int))=some (c5,l):=e5
 unfold ψ2m.f
 simp only[e1,Option.bind_some,e5]
 refine ⟨_,_,rfl,?_,hp,h5⟩
 simp only at hl;omega
theorem big_eq (l:List Int):ψ1f.f l=some (decide ((l.length:Int) > 1048576)):=rfl
def srt {α:Type} (l:List (List UInt8×α)):Prop:=l.Pairwise (fun a b=>Op.bytesLess a.1 b.1=true)
theorem insB_cons {α:Type} (x:List UInt8×α) (l:List (List UInt8×α)) (p:List UInt8×α):insB (x::l) p=if leK x.1 p.1=true then x::insB l p else p::x::l:=by
 cases h:leK x.1 p.1<;>simp[insB,h]
theorem mem_insB {α:Type} (y p:List UInt8×α):∀l:List (List UInt8×α),y∈insB l p↔y=p∨y∈l
 | []=>by simp[insB]
 | x::l=>by
  rw[insB_cons]
  split
  ·rw[List.mem_cons,mem_insB y p l,List.mem_cons]
   constructor
   ·rintro (h | h | h)
    ·exact .inr (.inl h)
    ·exact .inl h
    ·exact .inr (.inr h)
   ·rintro (h | h | h)
    ·exact .inr (.inl h)
    ·exact .inl h
    ·exact .inr (.inr h)
  ·rw[List.mem_cons]
theorem srt_insB {α:Type} (p:List UInt8×α):∀l:List (List UInt8×α),srt l→(∀x∈l,x.1≠p.1)→srt (insB l p)
 | [],_,_=>by simp[insB,srt]
 | x::l,h,hn=>by
  have h:=List.pairwise_cons.1 h
  rw[insB_cons]
  split
  ·rename_i c
   refine List.Pairwise.cons (fun y hy=>?_) (srt_insB p l h.2 fun y hy=>hn y (List.mem_cons_of_mem _ hy))
   rcases (mem_insB y p l).1 hy with e | hy
   ·rw[e]
    unfold leK at c
    rcases Bool.or_eq_true _ _ ▸ c with c | c
    ·exact c
    ·exact absurd (by simpa using c) (hn x List.mem_cons_self)
   ·exact h.1 y hy
  ·rename_i c
   have c2:Op.bytesLess p.1 x.1=true:=by
    rw[leK_not] at c
    simpa using c
   refine List.Pairwise.cons (fun y hy=>?_) (List.Pairwise.cons h.1 h.2)
   rcases List.mem_cons.1 hy with e | hy
   ·rw[e];exact c2
   ·exact less_trans _ _ _ c2 (h.1 y hy)
theorem mem_dropK {α:Type} (l:List (List UInt8×α)) (k:List UInt8) (y:List UInt8×α):y∈dropK l k↔y∈l∧y.1≠k:=by
 unfold dropK
 rw[List.mem_filter]
 simp
abbrev LiveT:=Int×List Int
def idsOk (hi:Int):Option Int→List Int→Bool
 | _,[]=>true
 | p,x::r=>decide (1≤x∧x≤hi) && ((match p with | none=>true | some q=>decide (q<x)) && idsOk hi (some x) r)
def beforeI (l:List Int):Nat→Option Int
 | 0=>none
 | n+1=>some (l.getD n 0)
theorem beforeI_succ (l:List Int) (n:Nat) (h:n<l.length):beforeI l (n+1)=some l[n]:=by
 show some (l.getD n 0)=_
 rw[getD_lt h]
def liveOk (v:LiveT):Bool:=idsOk (w64 (v.1 - 1)) none v.2 && (decide (1≤v.1∧v.1≤100000) && decide (1≤(v.2.length:Int)∧(v.2.length:Int)≤60))
theorem impl_LiveOk_l0 (v:LiveT) (hl:v.2.length<2 ^ 62):lp ψQ.l0 (v,v.2,(v.2.length:Int),0)=some (if idsOk (w64 (v.1 - 1)) none v.2=true then .inl v else .inr false):=by
 have key:=lp_up (step:=ψQ.l0) (fun n (_:Unit)=>(v,v.2,(v.2.length:Int),(n:Int))) v.2.length (fun n _=>if idsOk (w64 (v.1 - 1)) (beforeI v.2 n) (v.2.drop n)=true then .inl v else .inr false) (fun _ _=>True)
  (fun rec n s hn' _ ih=>by
   rcases Nat.lt_or_ge n v.2.length with h | h
   ·have hw:w64 ((n:Int)+1)=((n+1:Nat):Int):=w64_succ (by omega)
    have ih2:=ih () h trivial
    rw[beforeI_succ v.2 n h] at ih2
    rw[List.drop_eq_getElem_cons h]
    simp only[idsOk,ψQ.l0,Int.ofNat_lt,h,decide_true,cond_true,inB_nat,rdA_nat,getD_lt h,Option.bind_some,impl_in_eq]
    rcases Bool.eq_false_or_eq_true (decide (1≤v.2[n]∧v.2[n]≤w64 (v.1 - 1))) with k2 | k2
    rotate_left
    ·simp only[k2,Bool.not_false,cond_true,Option.bind_some,caseS_r];simp
    simp only[k2,Bool.not_true,cond_false,Bool.true_and]
    cases n with
    | zero=>
     have z:¬((0:Nat):Int) > 0:=by omega
     simp only[z,decide_false,cond_false,Option.bind_some,caseS_l,hw,ih2,beforeI,Bool.true_and]
    | succ m=>
     have z:((m+1:Nat):Int) > 0:=by omega
     have hm:m<v.2.length:=by omega
     have z2:w64 (((m+1:Nat):Int) - 1)=(m:Int):=by rw[w64_id (by omega) (by omega)];omega
     rw[beforeI_succ v.2 m hm]
     simp only[z,decide_true,cond_true,z2,inB_nat,hm,rdA_nat,getD_lt hm]
     by_cases k3:v.2[m]<v.2[m+1]
     ·have k4:¬v.2[m]≥v.2[m+1]:=by omega
      simp only[k3,k4,decide_true,decide_false,cond_false,Option.bind_some,caseS_l,hw,ih2,Bool.true_and]
     ·have k4:v.2[m]≥v.2[m+1]:=by omega
      simp[k3,k4]
   ·have:n=v.2.length:=by omega
    subst this
    simp[ψQ.l0,idsOk])
  hl 0 () (Nat.zero_le _) trivial
 have key:lp ψQ.l0 (v,v.2,(v.2.length:Int),0)=_:=key
 rw[key,List.drop_zero];rfl
theorem spec_LiveOk_l0 (v:LiveT) (hl:v.2.length<2 ^ 62):lp ψ22.l0 (v,0)=some (if idsOk (w64 (v.1 - 1)) none v.2=true then .inl () else .inr false):=by
 have key:=lp_up (step:=ψ22.l0) (fun n (_:Unit)=>(v,(n:Int))) v.2.length (fun n _=>if idsOk (w64 (v.1 - 1)) (beforeI v.2 n) (v.2.drop n)=true then .inl () else .inr false) (fun _ _=>True)
  (fun rec n s hn' _ ih=>by
   rcases Nat.lt_or_ge n v.2.length with h | h
   ·have hw:w64 ((n:Int)+1)=((n+1:Nat):Int):=w64_succ (by omega)
    have ih2:=ih () h trivial
    rw[beforeI_succ v.2 n h] at ih2
    rw[List.drop_eq_getElem_cons h]
    simp only[idsOk,ψ22.l0,Int.ofNat_lt,h,decide_true,cond_true,inB_nat,rdA_nat,getD_lt h,Option.bind_some,spec_l1In_eq]
    rcases Bool.eq_false_or_eq_true (decide (1≤v.2[n]∧v.2[n]≤w64 (v.1 - 1))) with k2 | k2
    rotate_left
    ·simp only[k2,Bool.not_false,cond_true,Option.bind_some,caseS_r];simp
    simp only[k2,Bool.not_true,cond_false,Bool.true_and]
    cases n with
    | zero=>
     have z:¬((0:Nat):Int) > 0:=by omega
     simp only[z,decide_false,cond_false,Option.bind_some,caseS_l,hw,ih2,beforeI,Bool.true_and]
    | succ m=>
     have z:((m+1:Nat):Int) > 0:=by omega
     have hm:m<v.2.length:=by omega
     have z2:w64 (((m+1:Nat):Int) - 1)=(m:Int):=by rw[w64_id (by omega) (by omega)];omega
     rw[beforeI_succ v.2 m hm]
     simp only[z,decide_true,cond_true,z2,inB_nat,hm,rdA_nat,getD_lt hm]
     by_cases k3:v.2[m]<v.2[m+1]
     ·have k4:¬v.2[m+1]≤v.2[m]:=by omega
      simp only[k3,k4,decide_true,decide_false,cond_false,Option.bind_some,caseS_l,hw,ih2,Bool.true_and]
     ·have k4:v.2[m+1]≤v.2[m]:=by omega
      simp[k3,k4]
   ·have:n=v.2.length:=by omega
    subst this
    simp[ψ22.l0,idsOk])
  hl 0 () (Nat.zero_le _) trivial
 have key:lp ψ22.l0 (v,0)=_:=key
 rw[key,List.drop_zero];rfl
theorem impl_LiveOk_eq (v:LiveT) (hl:v.2.length<2 ^ 62):ψQ.f v=some (liveOk v):=by
 unfold ψQ.f liveOk
 rw[impl_LiveOk_l0 v hl,Option.bind_some]
 rcases Bool.eq_false_or_eq_true (idsOk (w64 (v.1 - 1)) none v.2) with k | k
 rotate_left
 ·simp[k]
 simp only[k,if_true,caseS_l,impl_in_eq,Option.bind_some,Bool.true_and]
 cases decide (1≤v.1∧v.1≤100000)<;>rfl
theorem spec_LiveOk_eq (v:LiveT) (hl:v.2.length<2 ^ 62):ψ22.f v=some (liveOk v):=by
 unfold ψ22.f liveOk
 rw[spec_LiveOk_l0 v hl]
 simp only[spec_l1In_eq,Option.bind_some]
 rcases Bool.eq_false_or_eq_true (decide (1≤v.1∧v.1≤100000)) with k | k
 rotate_left
 ·simp only[k,Bool.not_false,cond_true,Bool.false_and,Bool.and_false]
 rcases Bool.eq_false_or_eq_true (decide (1≤(v.2.length:Int)∧(v.2.length:Int)≤60)) with k2 | k2
 rotate_left
 ·simp only[k,k2,Bool.not_false,Bool.not_true,cond_false,cond_true,Bool.and_false]
 simp only[k,k2,Bool.not_true,cond_false,Bool.and_true]
 cases idsOk (w64 (v.1 - 1)) none v.2<;>simp
theorem liveOk_len {v:LiveT} (h:liveOk v=true):v.2.length≤60:=by
 unfold liveOk at h
 simp only[Bool.and_eq_true,decide_eq_true_eq] at h
 omega
theorem varsT_len:∀l:List Int,((l.map varT).flatten).length≤7 * l.length
 | []=>by simp
 | x::l=>by
  have h1:=varsT_len l
  have h2:=varT_len x
  rw[List.map_cons,List.flatten_cons,List.length_append,List.length_cons];omega
def showLive (v:LiveT):List UInt8:=if liveOk v=false then [] else frame (varT v.1++varT (v.2.length:Int)++(v.2.map varT).flatten)
theorem showLive_len (v:LiveT):(showLive v).length≤211:=by
 unfold showLive;split
 ·simp
 ·exact frame_len _
theorem impl_ShowLive_eq (v:LiveT) (hl:v.2.length<2 ^ 62):ψm.f v=some (showLive v):=by
 unfold ψm.f showLive
 rw[impl_LiveOk_eq v hl,Option.bind_some]
 rcases Bool.eq_false_or_eq_true (liveOk v) with k | k
 rotate_left
 ·simp[k]
 have h60:=liveOk_len k
 have h1:=varsT_len v.2
 have h2:=varT_len v.1
 have h3:=varT_len (v.2.length:Int)
 have hv:ψ1M.f [v.1,(v.2.length:Int)]=some (varT v.1++varT (v.2.length:Int)):=by rw[impl_vars_eq [v.1,(v.2.length:Int)] (by show 2<1000000000000;decide)];simp
 simp only[k,Bool.not_true,cond_false,hv,Option.bind_some,impl_vars_eq v.2 (by omega),lim63 (show (varT v.1++varT (v.2.length:Int)).length+((v.2.map varT).flatten).length≤1000000000000000 by rw[List.length_append];omega),cond_true,impl_Frame_eq _ (show (varT v.1++varT (v.2.length:Int)++(v.2.map varT).flatten).length<2 ^ 62 by rw[List.length_append,List.length_append];omega),Bool.true_eq_false,if_false]
theorem spec_ShowLive_eq (v:LiveT) (hl:v.2.length<2 ^ 62):ψ2Q.f v=some (showLive v):=by
 unfold ψ2Q.f showLive
 rw[spec_LiveOk_eq v hl,Option.bind_some]
 rcases Bool.eq_false_or_eq_true (liveOk v) with k | k
 rotate_left
 ·simp[k]
 have h60:=liveOk_len k
 have h1:=varsT_len v.2
 have h2:=varT_len v.1
 have h3:=varT_len (v.2.length:Int)
 have key:=lp_up (step:=ψ2Q.l0) (fun n (acc:List UInt8)=>(v,acc,(n:Int))) v.2.length (fun n acc=>acc++((v.2.drop n).map varT).flatten) (fun n acc=>acc.length≤14+7 * n)
  (fun rec n acc hn ha ih=>by
   rcases Nat.lt_or_ge n v.2.length with h | h
   ·have hv:=varT_len v.2[n]
    have hb:acc.length+(varT v.2[n]).length≤9223372036854775807:=by omega
    have ih:=ih (acc++varT v.2[n]) h (by rw[List.length_append];omega)
    simp only[ψ2Q.l0,Int.ofNat_lt,h,decide_true,cond_true,inB_nat,rdA_nat,getD_lt h,spec_Var_eq,Option.bind_some,hb,w64_succ (show n+1<9223372036854775808 by omega),ih]
    rw[List.drop_eq_getElem_cons h,List.map_cons,List.flatten_cons,List.append_assoc]
   ·have:n=v.2.length:=by omega
    subst this
    simp[ψ2Q.l0])
  (by omega) 0 (varT v.1++varT (v.2.length:Int)) (Nat.zero_le _) (by rw[List.length_append];omega)
 have key:lp ψ2Q.l0 (v,varT v.1++varT (v.2.length:Int),0)=_:=key
 simp only[k,Bool.not_true,cond_false,spec_Var_eq,Option.bind_some,lim63 (show (varT v.1).length+(varT (v.2.length:Int)).length≤1000000000000000 by omega),cond_true,key,List.drop_zero,spec_Frame_eq _ (show (varT v.1++varT (v.2.length:Int)++(v.2.map varT).flatten).length<2 ^ 62 by rw[List.length_append,List.length_append];omega),Bool.true_eq_false,if_false]
def dl (k:Nat) (d:DiskT):Prop:=d.1.length<k∧usedN d.1<k∧∀f∈d.1,f.1.length<k
theorem dl_lim {k:Nat} {d:DiskT} (h:dl k d) (hk:k≤1000000000):dlim d:=⟨by have:=h.1;omega,by have:=h.2.1;omega,fun f hf=>by have:=h.2.2 f hf;omega⟩
theorem dl_mono {k m:Nat} {d:DiskT} (h:dl k d) (hk:k≤m):dl m d:=⟨by have:=h.1;omega,by have:=h.2.1;omega,fun f hf=>by have:=h.2.2 f hf;omega⟩
theorem dl_dstep {k m:Nat} {d:DiskT} {act:List FileT→Int×List FileT} (h:dl k d) (hm:k≤m) (ha:dl m ((act d.1).2,d.2)):dl m (dstep d act).1:=by
 unfold dstep
 split
 ·exact dl_mono h hm
 ·split
  ·exact dl_mono h hm
  ·exact ha
theorem sumN_sub {α:Type} (f:α→Nat) {a b:List α} (h:a.Sublist b):sumN f a≤sumN f b:=by
 induction h with
 | slnil=>exact Nat.le_refl _
 | cons x _ ih=>simp only[sumN];omega
 | cons_cons x _ ih=>simp only[sumN];omega
theorem dl_sub {k:Nat} {d:DiskT} {l:List FileT} (h:dl k d) (hs:l.Sublist d.1):dl k (l,d.2):=
 ⟨Nat.lt_of_le_of_lt hs.length_le h.1,Nat.lt_of_le_of_lt (sumN_sub _ hs) h.2.1,fun f hf=>h.2.2 f (hs.subset hf)⟩
def dRemove (n:List UInt8) (d:DiskT):DiskT×Int:=dstep d (actRemove n)
def dCreate (n:List UInt8) (d:DiskT):DiskT×Int:=dstep d (actCreate n)
def dAppend (n t:List UInt8) (d:DiskT):DiskT×Int:=dstep d (actAppend d.2.1 n t)
def dSync (n:List UInt8) (d:DiskT):DiskT×Int:=dstep d (actSync n)
def dRename (a b:List UInt8) (d:DiskT):DiskT×Int:=dstep d (actRename a b)
theorem dl_Remove {k:Nat} {d:DiskT} (h:dl k d) (n:List UInt8):dl k (dRemove n d).1:=
 dl_dstep h (Nat.le_refl _) (by
  unfold actRemove
  split
  ·exact dl_sub h (remIx_sub _ _)
  ·exact h)
theorem dl_ins {k m:Nat} {d:DiskT} (h:dl k d) (f:FileT) (h1:k+1≤m) (h2:k+f.2.1.length≤m) (h3:f.1.length<m):dl m (insB d.1 f,d.2):=by
 refine ⟨?_,?_,fun g hg=>?_⟩
 ·show (insB d.1 f).length<m
  rw[insB_len];have:=h.1;omega
 ·show usedN (insB d.1 f)<m
  have e:usedN (insB d.1 f)=usedN d.1+f.2.1.length:=by
   unfold usedN
   generalize d.1=l
   induction l with
   | nil=>simp[insB,sumN]
   | cons x l ih=>
    rw[insB_cons]
    split
    ·simp only[sumN,ih];omega
    ·simp only[sumN];omega
  rw[e];have:=h.2.1;omega
 ·rcases (mem_insB g f d.1).1 hg with e | hg
  ·rw[e];exact h3
  ·have:=h.2.2 g hg;omega
theorem dl_Create {k m:Nat} {d:DiskT} (h:dl k d) (n:List UInt8) (h1:k+1≤m) (h3:n.length<m):dl m (dCreate n d).1:=
 dl_dstep h (by omega) (by
  unfold actCreate
  split
  ·exact dl_mono h (by omega)
  split
  ·exact dl_mono h (by omega)
  split
  ·exact dl_mono h (by omega)
  ·exact dl_ins h _ h1 (by simp;omega) h3)
theorem usedN_set (l:List FileT) (i:Nat) (f:FileT) (k:Nat) (hi:i<l.length) (hf:f.2.1.length≤l[i].2.1.length+k):usedN (l.set i f)≤usedN l+k:=by
 unfold usedN
 induction l generalizing i with
 | nil=>simp at hi
 | cons x l ih=>
  cases i with
  | zero=>
   simp only[List.set_cons_zero,sumN]
   simp only[List.getElem_cons_zero] at hf
   omega
  | succ i=>
   simp only[List.set_cons_succ,sumN]
   have:=ih i (by simpa using hi) (by simpa using hf)
   omega
theorem dl_set {k m c:Nat} {d:DiskT} (h:dl k d) (i:Nat) (f:FileT) (hi:i<d.1.length) (hn:f.1=(d.1[i]).1) (hf:f.2.1.length≤d.1[i].2.1.length+c) (hm:k+c≤m):dl m (d.1.set i f,d.2):=by
 refine ⟨?_,?_,fun g hg=>?_⟩
 ·show (d.1.set i f).length<m
  rw[List.length_set];have:=h.1;omega
 ·show usedN (d.1.set i f)<m
  have:=usedN_set d.1 i f c hi hf
  have:=h.2.1;omega
 ·rcases List.mem_or_eq_of_mem_set hg with hg | e
  ·have:=h.2.2 g hg;omega
  ·rw[e,hn];have:=h.2.2 _ (List.getElem_mem hi);omega
theorem dl_Append {k m:Nat} {d:DiskT} (h:dl k d) (n t:List UInt8) (h1:k+t.length≤m):dl m (dAppend n t d).1:=
 dl_dstep h (by omega) (by
  unfold actAppend
  rcases fileIx_cases d.1 n with ⟨e,_⟩ | ⟨i,hi,e,_⟩
  ·rw[ix_none e];exact dl_mono h (by omega)
  ·rw[ix_some e]
   simp only
   split
   ·exact dl_mono h (by omega)
   ·rw[getD_lt hi]
    exact dl_set h i _ hi rfl (by simp) h1)
theorem dl_Sync {k:Nat} {d:DiskT} (h:dl k d) (n:List UInt8):dl k (dSync n d).1:=
 dl_dstep h (Nat.le_refl _) (by
  unfold actSync
  rcases fileIx_cases d.1 n with ⟨e,_⟩ | ⟨i,hi,e,_⟩
  ·rw[ix_none e];exact h
  ·rw[ix_some e]
   simp only
   rw[getD_lt hi]
   exact dl_set (c:=0) h i _ hi rfl (by simp) (Nat.le_refl _))
theorem dropF_sub (l:List FileT) (n:List UInt8):(dropF l n).Sublist l:=by
 unfold dropF;split
 ·exact remIx_sub _ _
 ·exact List.Sublist.refl _
abbrev WorkT:=DiskT×Int
def told (c:Int):Int:=if c=0 then 0 else if c=1 then 1 else if c=2 then 2 else 3
theorem told_zero (c:Int):told c=0↔c=0:=by
 unfold told;split
 ·simp[*]
 ·split
  ·simp[*]
  ·split
   ·simp[*]
   ·simp[*]
theorem impl_told_eq (c:Int):ψ1K.f c=some (told c):=by
 unfold ψ1K.f told
 by_cases h0:c=0
 ·simp[h0]
 ·by_cases h1:c=1
  ·simp[h1]
  ·by_cases h2:c=2
   ·simp[h2]
   ·have b0:(c==0)=false:=by simpa using h0
    have b1:(c==1)=false:=by simpa using h1
    have b2:(c==2)=false:=by simpa using h2
    rw[b0,b1,b2];simp[h0,h1,h2]
theorem spec_l11Code_eq (c:Int):ψ2a.f c=some (told c):=impl_told_eq c
def sstep (op:DiskT→DiskT×Int) (w:WorkT):WorkT:=if w.2=0 then op w.1 else w
def wstep (op:DiskT→DiskT×Int) (w:WorkT):WorkT:=if w.2=0 then ((op w.1).1,told (op w.1).2) else w
def toldW (w:WorkT):WorkT:=(w.1,told w.2)
theorem wstep_told (op:DiskT→DiskT×Int) (w:WorkT):wstep op (toldW w)=toldW (sstep op w):=by
 unfold wstep sstep toldW
 by_cases h:w.2=0
 ·have h2:told w.2=0:=(told_zero _).2 h
  simp only[h2,if_true]
  rw[if_pos h]
 ·have h2:¬told w.2=0:=fun e=>h ((told_zero _).1 e)
  simp[h,h2]
def dGone (n:List UInt8) (d:DiskT):DiskT×Int:=if fileIx d.1 n≥0 then dRemove n d else (d,0)
theorem dl_Gone {k:Nat} {d:DiskT} (h:dl k d) (n:List UInt8):dl k (dGone n d).1:=by
 unfold dGone;split
 ·exact dl_Remove h n
 ·exact h
theorem dl_sstep {k m:Nat} {w:WorkT} {op:DiskT→DiskT×Int} (h:dl k w.1) (hm:k≤m) (ho:dl m (op w.1).1):dl m (sstep op w).1:=by
 unfold sstep;split
 ·exact ho
 ·exact dl_mono h hm
theorem dl_wstep {k m:Nat} {w:WorkT} {op:DiskT→DiskT×Int} (h:dl k w.1) (hm:k≤m) (ho:dl m (op w.1).1):dl m (wstep op w).1:=by
 unfold wstep;split
 ·exact ho
 ·exact dl_mono h hm
theorem took_eq (w:WorkT) (d:DiskT) (c:Int):ψ1b.f w d c=some (d,told c):=by
 unfold ψ1b.f;rw[impl_told_eq];rfl
theorem w_gone_eq (w:WorkT) (n:List UInt8) {k:Nat} (h:dl k w.1) (hk:k≤1000000000):ψ1T.f w n=some (wstep (dGone n) w):=by
 have hd:=dl_lim h hk
 unfold ψ1T.f wstep dGone
 by_cases c:w.2=0
 ·have c1:(w.2==0)=true:=by simpa using c
  simp only[c1,cond_true,impl_fileAt_eq w.1 n (by have:=hd.1;omega),Option.bind_some,impl_Remove_eq w.1 n hd,took_eq]
  by_cases c2:fileIx w.1.1 n≥0
  ·simp only[c2,decide_true,cond_true,c,if_true];rfl
  ·simp only[c2,decide_false,cond_false,c,if_true,if_false]
   congr 1
   show w=(w.1,told 0)
   rw[show told 0=w.2 by rw[c];rfl]
 ·have c1:(w.2==0)=false:=by simpa using c
  simp[c,c1]
theorem w_create_eq (w:WorkT) (n:List UInt8) {k:Nat} (h:dl k w.1) (hk:k≤1000000000) (hn:n.length<2 ^ 62):ψ1P.f w n=some (wstep (dCreate n) w):=by
 have hd:=dl_lim h hk
 unfold ψ1P.f wstep
 by_cases c:w.2=0
 ·have c1:(w.2==0)=true:=by simpa using c
  simp only[c1,cond_true,impl_Create_eq w.1 n hd hn,Option.bind_some,took_eq,c,if_true];rfl
 ·have c1:(w.2==0)=false:=by simpa using c
  simp[c,c1]
theorem w_put_eq (w:WorkT) (n t:List UInt8) {k:Nat} (h:dl k w.1) (hk:k≤1000000000) (ht:t.length<1000000000000):ψ1W.f w n t=some (wstep (dAppend n t) w):=by
 have hd:=dl_lim h hk
 unfold ψ1W.f wstep
 by_cases c:w.2=0
 ·have c1:(w.2==0)=true:=by simpa using c
  simp only[c1,cond_true,impl_Append_eq w.1 n t hd ht,Option.bind_some,took_eq,c,if_true];rfl
 ·have c1:(w.2==0)=false:=by simpa using c
  simp[c,c1]
theorem w_sync_eq (w:WorkT) (n:List UInt8) {k:Nat} (h:dl k w.1) (hk:k≤1000000000):ψ1a.f w n=some (wstep (dSync n) w):=by
 have hd:=dl_lim h hk
 unfold ψ1a.f wstep
 by_cases c:w.2=0
 ·have c1:(w.2==0)=true:=by simpa using c
  simp only[c1,cond_true,impl_Sync_eq w.1 n hd,Option.bind_some,took_eq,c,if_true];rfl
 ·have c1:(w.2==0)=false:=by simpa using c
  simp[c,c1]
theorem w_rename_eq (w:WorkT) (a b:List UInt8) {k:Nat} (h:dl k w.1) (hk:k≤1000000000) (hb:b.length<2 ^ 62):ψ1Y.f w a b=some (wstep (dRename a b) w):=by
 have hd:=dl_lim h hk
 unfold ψ1Y.f wstep
 by_cases c:w.2=0
 ·have c1:(w.2==0)=true:=by simpa using c
  simp only[c1,cond_true,impl_Rename_eq w.1 a b hd hb,Option.bind_some,took_eq,c,if_true];rfl
 ·have c1:(w.2==0)=false:=by simpa using c
  simp[c,c1]
def sFile (n t:List UInt8) (w:WorkT):WorkT:=sstep (dSync n) (sstep (dAppend n t) (sstep (dCreate n) (sstep (dGone n) w)))
def wFile (n t:List UInt8) (w:WorkT):WorkT:=wstep (dSync n) (wstep (dAppend n t) (wstep (dCreate n) (wstep (dGone n) w)))
theorem wFile_told (n t:List UInt8) (w:WorkT):wFile n t (toldW w)=toldW (sFile n t w):=by
 unfold wFile sFile
 rw[wstep_told,wstep_told,wstep_told,wstep_told]
theorem dl_wFile {k m:Nat} {w:WorkT} (h:dl k w.1) (n t:List UInt8) (h1:k+1+n.length+t.length≤m):dl m (wFile n t w).1:=by
 have g1:=dl_wstep (op:=dGone n) h (Nat.le_refl _) (dl_Gone h n)
 have g2:=dl_wstep (op:=dCreate n) (m:=k+1+n.length) g1 (by omega) (dl_Create g1 n (by omega) (by omega))
 have g3:=dl_wstep (op:=dAppend n t) (m:=m) g2 (by omega) (dl_Append g2 n t (by omega))
 exact dl_wstep (op:=dSync n) g3 (Nat.le_refl _) (dl_Sync g3 n)
theorem dl_sFile {k m:Nat} {w:WorkT} (h:dl k w.1) (n t:List UInt8) (h1:k+1+n.length+t.length≤m):dl m (sFile n t w).1:=by
 have g1:=dl_sstep (op:=dGone n) h (Nat.le_refl _) (dl_Gone h n)
 have g2:=dl_sstep (op:=dCreate n) (m:=k+1+n.length) g1 (by omega) (dl_Create g1 n (by omega) (by omega))
 have g3:=dl_sstep (op:=dAppend n t) (m:=m) g2 (by omega) (dl_Append g2 n t (by omega))
 exact dl_sstep (op:=dSync n) g3 (Nat.le_refl _) (dl_Sync g3 n)
theorem w_fileOf_eq (w:WorkT) (n t:List UInt8) {k:Nat} (h:dl k w.1) (hk:k+1+n.length+t.length≤1000000000):ψ1Q.f w n t=some (wFile n t w):=by
 have g1:=dl_wstep (op:=dGone n) h (Nat.le_refl _) (dl_Gone h n)
 have g2:=dl_wstep (op:=dCreate n) (m:=k+1+n.length) g1 (by omega) (dl_Create g1 n (by omega) (by omega))
 have g3:=dl_wstep (op:=dAppend n t) (m:=k+1+n.length+t.length) g2 (by omega) (dl_Append g2 n t (by omega))
 unfold ψ1Q.f ψ1N.f wFile
 simp only[w_gone_eq w n h (by omega),Option.bind_some,w_create_eq _ n g1 (by omega) (by omega),w_put_eq _ n t g2 (by omega) (by omega),w_sync_eq _ n g3 (by omega)]
theorem sstep_ne {op:DiskT→DiskT×Int} {d:DiskT} {c:Int} (h:c≠0):sstep op (d,c)=(d,c):=by
 unfold sstep;simp[h]
theorem sstep_z {op:DiskT→DiskT×Int} {d:DiskT}:sstep op (d,0)=op d:=by
 unfold sstep;simp
theorem spec_l11Fresh_eq (d:DiskT) (n:List UInt8) {k:Nat} (h:dl k d) (hk:k≤1000000000) (hn:n.length<2 ^ 62):ψ2d.f d n=some (sstep (dCreate n) (dGone n d)):=by
 have hd:=dl_lim h hk
 unfold ψ2d.f
 rw[spec_l3Find_eq d n (by have:=hd.1;omega),Option.bind_some]
 by_cases c2:fileIx d.1 n≥0
 ·have e:dGone n d=dRemove n d:=by unfold dGone;simp[c2]
  have g:=dl_Remove h n
  rw[e]
  have er:ψ2I.f d n=some (dRemove n d):=spec_Remove_eq d n hd
  simp only[c2,decide_true,cond_true,er,Option.bind_some]
  generalize dRemove n d=r at *
  obtain ⟨x,c⟩:=r
  by_cases c3:c=0
  ·have c4:(c != 0)=false:=by simpa using c3
   subst c3
   rw[sstep_z]
   simp only[c4,cond_false,Option.bind_some,caseS_l,spec_Create_eq x n (dl_lim g hk) hn];rfl
  ·have c4:(c != 0)=true:=by simpa using c3
   rw[sstep_ne c3]
   simp only[c4,cond_true,Option.bind_some,caseS_r]
 ·have e:dGone n d=(d,0):=by unfold dGone;simp[c2]
  rw[e,sstep_z]
  simp only[c2,decide_false,cond_false,Option.bind_some,caseS_l,spec_Create_eq d n hd hn];rfl
theorem spec_l11File_eq (d:DiskT) (n t:List UInt8) {k:Nat} (h:dl k d) (hk:k+1+n.length+t.length≤1000000000):ψ2b.f d n t=some (sFile n t (d,0)):=by
 have g1:=dl_Gone h n
 have g2:dl (k+1+n.length) (sstep (dCreate n) (dGone n d)).1:=dl_sstep (op:=dCreate n) g1 (by omega) (dl_Create g1 n (by omega) (by omega))
 have g3:=dl_sstep (op:=dAppend n t) (m:=k+1+n.length+t.length) g2 (by omega) (dl_Append g2 n t (by omega))
 unfold ψ2b.f sFile
 rw[spec_l11Fresh_eq d n h (by omega) (by omega),Option.bind_some,sstep_z]
 generalize sstep (dCreate n) (dGone n d)=r at *
 obtain ⟨x,c⟩:=r
 have e2:(bif c==0 then (ψ1g.f x n t).bind fun (t2_0,t2_1)=>some (n,(([],0,0,false):DiskT),t2_0,t2_1) else some (n,([],0,0,false),x,c))=some (n,([],0,0,false),(sstep (dAppend n t) (x,c)).1,(sstep (dAppend n t) (x,c)).2):=by
  by_cases c0:c=0
  ·subst c0
   rw[sstep_z]
   simp only[show ((0:Int)==0)=true from rfl,cond_true,spec_Append_eq x n t (dl_lim g2 (by omega)) (by omega),Option.bind_some];rfl
  ·have c1:(c==0)=false:=by simpa using c0
   rw[sstep_ne c0,c1];rfl
 simp only[e2,Option.bind_some]
 generalize sstep (dAppend n t) (x,c)=r at *
 obtain ⟨x,c⟩:=r
 by_cases c0:c=0
 ·subst c0
  rw[sstep_z]
  simp only[show ((0:Int)==0)=true from rfl,cond_true,spec_Sync_eq x n (dl_lim g3 (by omega)),Option.bind_some];rfl
 ·have c1:(c==0)=false:=by simpa using c0
  rw[sstep_ne c0]
  simp only[c1,cond_false]
def sPut (v:LiveT) (w:WorkT):WorkT:=sstep (dRename [116,101,109,112] [108,105,118,101]) (sFile [116,101,109,112] (showLive v) w)
def wPut (v:LiveT) (w:WorkT):WorkT:=wstep (dRename [116,101,109,112] [108,105,118,101]) (wFile [116,101,109,112] (showLive v) w)
theorem wPut_told (v:LiveT) (w:WorkT):wPut v (toldW w)=toldW (sPut v w):=by
 unfold wPut sPut
 rw[wFile_told,wstep_told]
theorem w_putLive_eq (w:WorkT) (v:LiveT) {k:Nat} (h:dl k w.1) (hk:k+1000≤1000000000) (hl:v.2.length<2 ^ 62):ψ1X.f w v=some (wPut v w):=by
 have h1:=showLive_len v
 have g:=dl_wFile h [116,101,109,112] (showLive v) (m:=k+1000) (by show k+1+4+_≤_;omega)
 unfold ψ1X.f wPut
 simp only[impl_ShowLive_eq v hl,Option.bind_some,w_fileOf_eq w [116,101,109,112] (showLive v) h (show k+1+4+(showLive v).length≤1000000000 by omega),w_rename_eq _ [116,101,109,112] [108,105,118,101] g hk (by show 4<2 ^ 62;decide)]
def putLive (d:DiskT) (v:LiveT):DiskT×Int:=if diskOk d=false∨liveOk v=false then (d,4) else toldW (sPut v (d,0))
theorem spec_PutLive_eq (d:DiskT) (v:LiveT) {k:Nat} (h:dl k d) (hk:k+1000≤1000000000) (hl:v.2.length<2 ^ 62):ψ27.f d v=some (putLive d v):=by
 have hd:=dl_lim h (by omega)
 have h1:=showLive_len v
 unfold ψ27.f putLive
 rw[spec_DiskOk_eq d hd,Option.bind_some]
 rcases Bool.eq_false_or_eq_true (diskOk d) with k1 | k1
 rotate_left
 ·simp[k1,spec_l3Copy_eq d (by have:=hd.1;omega)]
 rcases Bool.eq_false_or_eq_true (liveOk v) with k2 | k2
 rotate_left
 ·simp[k1,k2,spec_LiveOk_eq v hl,spec_l3Copy_eq d (by have:=hd.1;omega)]
 have g:=dl_sFile (w:=(d,0)) h [116,101,109,112] (showLive v) (m:=k+1000) (by show k+1+4+_≤_;omega)
 simp only[k1,k2,Bool.not_true,cond_false,spec_LiveOk_eq v hl,spec_ShowLive_eq v hl,Option.bind_some,spec_l11File_eq d [116,101,109,112] (showLive v) h (show k+1+4+(showLive v).length≤1000000000 by omega),Bool.true_eq_false,or_self,if_false]
 unfold sPut
 generalize sFile [116,101,109,112] (showLive v) (d,0)=r at *
 obtain ⟨x,c⟩:=r
 by_cases c0:c=0
 ·subst c0
  rw[sstep_z]
  simp only[show ((0:Int)==0)=true from rfl,cond_true,spec_Rename_eq x [116,101,109,112] [108,105,118,101] (dl_lim g hk) (show 4<2 ^ 62 by decide),Option.bind_some,spec_l11Code_eq];rfl
 ·have c1:(c==0)=false:=by simpa using c0
  rw[sstep_ne c0]
  simp only[c1,cond_false,Option.bind_some,spec_l11Code_eq];rfl
abbrev StoreT:=LiveT×List EntryT×Int×Int×Int
theorem itoa_nat (n:Nat):Lib.itoa (n:Int)=Lib.decDigits n:=by
 unfold Lib.itoa
 rw[if_neg (by omega),Int.toNat_natCast]
theorem digits_len:∀(k n:Nat),n<10 ^ (k+1)→(Lib.decDigits n).length≤k+1
 | 0,n,h=>by rw[Lib.decDigits,dif_pos (by simpa using h)];simp
 | k+1,n,h=>by
  rw[Lib.decDigits]
  split
  ·simp
  ·have:=digits_len k (n / 10) (by rw[Nat.div_lt_iff_lt_mul (by omega)];rw[Nat.pow_succ] at h;exact h)
   simp only[List.length_append,List.length_singleton];omega
def digs (n:Nat):List UInt8:=if n=0 then [] else Lib.decDigits n
theorem digs_step {n:Nat} (h:n≠0):digs n=digs (n / 10)++[UInt8.ofNat (48+n % 10)]:=by
 unfold digs
 rw[if_neg h,Lib.decDigits]
 split
 ·rename_i h2
  rw[if_pos (by omega),Nat.mod_eq_of_lt h2];rfl
 ·rename_i h2
  rw[if_neg (by omega)]
theorem spec_Dec_eq (n:Nat) (hn:n<1000000000000000000):ψ1k.f (n:Int)=some (Lib.decDigits n):=by
 unfold ψ1k.f
 by_cases c:n=0
 ·subst c
  rw[Lib.decDigits];rfl
 have c1:((n:Int)==0)=false:=by simpa using c
 have c2:decide ((n:Int)<0)=false:=dnn (by omega)
 have key:=lp_eq (step:=ψ1k.l0) (a:=((n:Int),([]:List UInt8),false)) (fun a=>(digs a.1.toNat++a.2.1,false)) (fun a=>0≤a.1∧a.2.2=false∧a.2.1.length+a.1.toNat≤n) (fun a=>a.1.toNat)
  (fun rec a ha ih=>by
   obtain ⟨x,s,f⟩:=a
   obtain ⟨h0,hf,hl⟩:=ha
   simp only at hf hl h0 ih ⊢
   subst hf
   obtain ⟨m,rfl⟩:∃m:Nat,x=(m:Int):=⟨x.toNat,by omega⟩
   simp only[Int.toNat_natCast] at hl ih ⊢
   by_cases d:m=0
   ·subst d
    simp[ψ1k.l0,digs]
   ·have d1:((m:Int) != 0)=true:=by simpa using d
    have e1:Int.tmod (m:Int) 10=((m % 10:Nat):Int):=rfl
    have e2:w64 (Int.tdiv (m:Int) 10)=((m / 10:Nat):Int):=by
     rw[show Int.tdiv (m:Int) 10=((m / 10:Nat):Int) from rfl];exact w64_nat (by omega)
    have e3:decide (((m % 10:Nat):Int)<0)=false:=dnn (by omega)
    have e4:strOf [IntKind.wrap .u8 (w64 (48+((m % 10:Nat):Int)))]=[UInt8.ofNat (48+m % 10)]:=by
     have e:w64 (48+((m % 10:Nat):Int))=((48+m % 10:Nat):Int):=by rw[w64_id (by omega) (by omega)];omega
     rw[e]
     unfold strOf
     simp only[List.map_cons,List.map_nil,u8_wrap]
    have hb:([UInt8.ofNat (48+m % 10)]:List UInt8).length+s.length≤9223372036854775807:=by show 1+_≤_;omega
    have ih:=ih (((m / 10:Nat):Int),[UInt8.ofNat (48+m % 10)]++s,false) ⟨by simp only;omega,rfl,by simp only[List.length_append,List.length_singleton,Int.toNat_natCast];omega⟩ (by simp only[Int.toNat_natCast];omega)
    simp only[Int.toNat_natCast] at ih
    simp only[ψ1k.l0,d1,cond_true,e1,e2,e3,cond_false,Option.bind_some,e4,hb,decide_true,ih]
    rw[digs_step d,List.append_assoc])
  ⟨by simp only;omega,rfl,by simp⟩ (by simp only[Int.toNat_natCast];omega)
 simp only[c1,c2,cond_false,key,Option.bind_some,Int.toNat_natCast]
 unfold digs
 simp[c]
theorem Itoa_nat (n:Nat) (hn:n<1000000000000000000):strconv_Itoa.f (n:Int)=some (Lib.decDigits n):=by
 unfold strconv_Itoa.f
 have c:(decide (-9223372036854775808≤(n:Int)) && decide ((n:Int)≤9223372036854775807))=true:=by simp;omega
 rw[c,itoa_nat];rfl
def nameN (word:List UInt8) (id:Int):List UInt8:=if 1≤id∧id≤100000 then word++Lib.decDigits id.toNat else []
def segName (id:Int):List UInt8:=nameN [115,101,103] id
def hintName (id:Int):List UInt8:=nameN [104,105,110,116] id
theorem impl_named_eq (word:List UInt8) (id:Int) (hw:word.length≤100):ψ17.f word id=some (nameN word id):=by
 unfold ψ17.f nameN ψ5.f
 rw[impl_in_eq,Option.bind_some]
 by_cases h:1≤id∧id≤100000
 ·obtain ⟨n,rfl⟩:∃n:Nat,id=(n:Int):=⟨id.toNat,by omega⟩
  have hl:=digits_len 5 n (by show n<1000000;omega)
  have hb:word.length+(Lib.decDigits n).length≤9223372036854775807:=by omega
  simp only[h,and_self,decide_true,Bool.not_true,cond_false,Itoa_nat n (by omega),Option.bind_some,hb,cond_true,if_true,Int.toNat_natCast]
 ·simp[h]
theorem impl_SegName_eq (id:Int):ψk.f id=some (segName id):=by
 unfold ψk.f segName
 rw[impl_named_eq [115,101,103] id (by show 3≤100;decide),Option.bind_some]
theorem spec_SegName_eq (id:Int):ψ2O.f id=some (segName id):=by
 unfold ψ2O.f segName nameN
 rw[spec_l1In_eq,Option.bind_some]
 by_cases h:1≤id∧id≤100000
 ·obtain ⟨n,rfl⟩:∃n:Nat,id=(n:Int):=⟨id.toNat,by omega⟩
  have hl:=digits_len 5 n (by show n<1000000;omega)
  have hb:([115,101,103]:List UInt8).length+(Lib.decDigits n).length≤9223372036854775807:=by show 3+_≤_;omega
  simp only[h,and_self,decide_true,Bool.not_true,cond_false,spec_Dec_eq n (by omega),Option.bind_some,hb,cond_true,if_true,Int.toNat_natCast]
 ·simp[h]
theorem segName_len (id:Int):(segName id).length≤9:=by
 unfold segName nameN
 split
 ·have hl:=digits_len 5 id.toNat (by show _<1000000;omega)
  rw[List.length_append];show 3+_≤9;omega
 ·simp
def fileText (d:DiskT) (n:List UInt8):List UInt8×Bool:=
 if diskOk d=false then ([],false) else
 match d.1.findIdx? (fun f=>f.1==n) with
 | some i=>((d.1.getD i ([],[],0)).2.1,true)
 | none=>([],false)
theorem impl_FileText_eq (d:DiskT) (n:List UInt8) (h:dlim d):ψG.f d n=some (fileText d n):=by
 have hl:=h.1
 unfold ψG.f fileText
 rw[impl_fileAt_eq d n (by omega),Option.bind_some,impl_DiskOk_eq d h]
 rcases fileIx_cases d.1 n with ⟨e,_⟩ | ⟨i,hi,e,_⟩
 ·rw[e,ix_none e];simp
 ·rw[e,ix_some e]
  rcases Bool.eq_false_or_eq_true (diskOk d) with k | k
  ·simp only[dnn (show (0:Int)≤(i:Int) by omega),cond_false,Option.bind_some,k,Bool.not_true,inB_ix hi,cond_true,rdA_ix hi,getD_lt hi,Bool.true_eq_false,if_false]
  ·simp only[dnn (show (0:Int)≤(i:Int) by omega),cond_false,Option.bind_some,k,Bool.not_false,cond_true,if_true]
theorem spec_FileText_eq (d:DiskT) (n:List UInt8) (h:dlim d):ψ1t.f d n=some (fileText d n):=by
 have hl:=h.1
 unfold ψ1t.f fileText
 rw[spec_DiskOk_eq d h,Option.bind_some,spec_l3Find_eq d n (by omega)]
 rcases Bool.eq_false_or_eq_true (diskOk d) with k | k
 rotate_left
 ·simp[k]
 rcases fileIx_cases d.1 n with ⟨e,_⟩ | ⟨i,hi,e,_⟩
 ·rw[e,ix_none e];simp[k]
 ·rw[e,ix_some e]
  simp only[dnn (show (0:Int)≤(i:Int) by omega),cond_false,Option.bind_some,k,Bool.not_true,inB_ix hi,cond_true,rdA_ix hi,getD_lt hi,Bool.true_eq_false,if_false]
theorem fileText_len (d:DiskT) (n:List UInt8) (h:dlim d):(fileText d n).1.length≤usedN d.1:=by
 unfold fileText
 split
 ·simp
 ·rcases fileIx_cases d.1 n with ⟨e,_⟩ | ⟨i,hi,e,_⟩
  ·rw[ix_none e];simp
  ·rw[ix_some e]
   simp only[getD_lt hi]
   exact used_mem (List.getElem_mem hi)
def varN (n:Nat):List UInt8:=vLow n++[UInt8.ofNat (vTop n)]
theorem varT_nat (n:Nat) (h:n≤562949953421311):varT (n:Int)=varN n:=by
 unfold varT varN
 rw[if_pos (by omega),Int.toNat_natCast]
theorem varN_small {n:Nat} (h:n<128):varN n=[UInt8.ofNat n]:=by
 unfold varN
 rw[vLow,vTop,dif_pos h,dif_pos h];rfl
theorem varN_big {n:Nat} (h:¬n<128):varN n=UInt8.ofNat (128+n % 128)::varN (n / 128):=by
 unfold varN
 rw[vLow,vTop,dif_neg h,dif_neg h];rfl
theorem varN_len (k n:Nat) (h:n<128 ^ (k+1)):1≤(varN n).length∧(varN n).length≤k+1:=by
 have:=vLow_len k n h
 unfold varN
 rw[List.length_append,List.length_singleton];omega
def rvT:Nat→Bool→List UInt8→Option (Nat×Nat)
 | 0,_,_=>none
 | _+1,_,[]=>none
 | f+1,first,x::r=>if x.toNat<128 then (if x.toNat=0∧first=false then none else some (x.toNat,1)) else (rvT f false r).map fun p=>(x.toNat % 128+128 * p.1,p.2+1)
theorem rvT_pos:∀(f:Nat) (first:Bool) (s:List UInt8) (n k:Nat),rvT f first s=some (n,k)→(first=false→1≤n)
 | 0,_,_,_,_,h=>by simp[rvT] at h
 | f+1,_,[],_,_,h=>by simp[rvT] at h
 | f+1,first,x::r,n,k,h=>by
  intro hf
  unfold rvT at h
  split at h
  ·split at h
   ·simp at h
   ·rename_i h1 h2
    simp only[Option.some.injEq,Prod.mk.injEq] at h
    have:¬x.toNat=0:=fun e=>h2 ⟨e,hf⟩
    omega
  ·cases hr:rvT f false r with
   | none=>rw[hr] at h;simp at h
   | some p=>
    rw[hr] at h
    simp only[Option.map_some,Option.some.injEq,Prod.mk.injEq] at h
    have:=rvT_pos f false r p.1 p.2 hr rfl
    omega
theorem rvT_some:∀(f:Nat) (first:Bool) (s:List UInt8) (n k:Nat),rvT f first s=some (n,k)→1≤k∧k≤f∧k≤s.length∧s.take k=varN n∧n<128 ^ f
 | 0,_,_,_,_,h=>by simp[rvT] at h
 | f+1,_,[],_,_,h=>by simp[rvT] at h
 | f+1,first,x::r,n,k,h=>by
  have hx:=x.toNat_lt
  unfold rvT at h
  split at h
  ·rename_i h1
   split at h
   ·simp at h
   ·simp only[Option.some.injEq,Prod.mk.injEq] at h
    obtain ⟨rfl,rfl⟩:=h
    refine ⟨Nat.le_refl _,by omega,by simp,?_,?_⟩
    ·rw[varN_small h1];simp
    ·exact Nat.lt_of_lt_of_le h1 (by rw[Nat.pow_succ];have:=Nat.pow_pos (n:=f) (show 0<128 by omega);omega)
  ·rename_i h1
   cases hr:rvT f false r with
   | none=>rw[hr] at h;simp at h
   | some p=>
    obtain ⟨m,j⟩:=p
    rw[hr] at h
    simp only[Option.map_some,Option.some.injEq,Prod.mk.injEq] at h
    obtain ⟨rfl,rfl⟩:=h
    obtain ⟨q1,q2,q3,q4,q5⟩:=rvT_some f false r m j hr
    have hm:=rvT_pos f false r m j hr rfl
    have hbig:¬x.toNat % 128+128 * m<128:=by omega
    refine ⟨by omega,by omega,by simp;omega,?_,?_⟩
    ·rw[varN_big hbig,List.take_succ_cons,q4]
     have e1:(x.toNat % 128+128 * m) % 128=x.toNat % 128:=by omega
     have e2:(x.toNat % 128+128 * m) / 128=m:=by omega
     have e3:128+x.toNat % 128=x.toNat:=by omega
     rw[e1,e2,e3];simp
    ·rw[Nat.pow_succ];omega
theorem rvT_back:∀(f:Nat) (first:Bool) (n:Nat) (r:List UInt8),n<128 ^ f→(first=false→1≤n)→1≤f→rvT f first (varN n++r)=some (n,(varN n).length)
 | 0,_,_,_,_,_,h=>by omega
 | f+1,first,n,r,h,h1,_=>by
  by_cases c:n<128
  ·rw[varN_small c,List.singleton_append]
   unfold rvT
   have e:(UInt8.ofNat n).toNat=n:=by simp;omega
   rw[e,if_pos c,if_neg (by intro k;have:=h1 k.2;omega)];rfl
  ·rw[varN_big c,List.cons_append]
   unfold rvT
   have e:(UInt8.ofNat (128+n % 128)).toNat=128+n % 128:=by simp;omega
   have hf:1≤f:=by
    rcases Nat.eq_zero_or_pos f with k | k
    ·subst k;simp at h;omega
    ·exact k
   rw[e,if_neg (by omega),rvT_back f false (n / 128) r (by rw[Nat.div_lt_iff_lt_mul (by omega)];rw[Nat.pow_succ] at h;exact h) (fun _=>by omega) hf]
   simp only[Option.map_some,List.length_cons]
   congr 2;omega
def decV (l:List UInt8):Nat:=l.foldr (fun x a=>x.toNat % 128+128 * a) 0
theorem decV_lt:∀(l:List UInt8),decV l<128 ^ l.length
 | []=>by simp[decV]
 | x::l=>by
  have:=decV_lt l
  show x.toNat % 128+128 * decV l<128 ^ (l.length+1)
  rw[Nat.pow_succ];omega
theorem decV_varN:∀(k n:Nat),n<128 ^ (k+1)→decV (varN n)=n
 | 0,n,h=>by
  have h:n<128:=by simpa using h
  rw[varN_small h]
  show (UInt8.ofNat n).toNat % 128+128 * 0=n
  have e:(UInt8.ofNat n).toNat=n:=by simp;omega
  rw[e];omega
 | k+1,n,h=>by
  by_cases c:n<128
  ·rw[varN_small c]
   show (UInt8.ofNat n).toNat % 128+128 * 0=n
   have e:(UInt8.ofNat n).toNat=n:=by simp;omega
   rw[e];omega
  ·rw[varN_big c]
   show (UInt8.ofNat (128+n % 128)).toNat % 128+128 * decV (varN (n / 128))=n
   have e:(UInt8.ofNat (128+n % 128)).toNat=128+n % 128:=by simp;omega
   rw[e,decV_varN k (n / 128) (by rw[Nat.div_lt_iff_lt_mul (by omega)];rw[Nat.pow_succ] at h;exact h)]
   omega
def readVar (s:List UInt8):Int×Int:=match rvT 7 true s with
 | some (n,k)=>((n:Int),(k:Int))
 | none=>(0,0)
theorem readVar_cases (s:List UInt8):readVar s=(0,0)∨∃n k:Nat,rvT 7 true s=some (n,k)∧readVar s=((n:Int),(k:Int))∧1≤k∧k≤7∧k≤s.length∧s.take k=varN n∧n<562949953421312:=by
 unfold readVar
 cases h:rvT 7 true s with
 | none=>exact .inl rfl
 | some p=>
  obtain ⟨n,k⟩:=p
  obtain ⟨h1,h2,h3,h4,h5⟩:=rvT_some 7 true s n k h
  exact .inr ⟨n,k,rfl,rfl,h1,h2,h3,h4,h5⟩
theorem spec_ReadVar_l2 (s:List UInt8) (k4:Int) (k:Nat) (hk:k≤s.length) (h7:k≤7):lp ψ2E.l2 (s,k4,0,(k:Int) - 1)=some (s,k4,((decV (s.take k):Nat):Int)):=by
 have key:=lp_down (step:=ψ2E.l2) (fun n (a:Nat)=>(s,k4,(a:Int),(n:Int) - 1)) (fun n a=>(s,k4,((decV (s.take n)+128 ^ n * a:Nat):Int))) (fun n a=>n≤k∧a<128 ^ (k - n))
  (fun rec n a hi ih=>by
   obtain ⟨hn,ha⟩:=hi
   cases n with
   | zero=>
    simp[ψ2E.l2,decV]
   | succ n=>
    have h1:n<s.length:=by omega
    have e0:((n+1:Nat):Int) - 1=(n:Int):=by omega
    have c:(n:Int)≥0:=by omega
    have hx:=s[n].toNat_lt
    have hpow:(128:Nat) ^ (k - (n+1))≤128 ^ 7:=Nat.pow_le_pow_right (by omega) (by omega)
    have ha7:a<562949953421312:=Nat.lt_of_lt_of_le ha hpow
    have ha6:a<128 ^ 6:=Nat.lt_of_lt_of_le ha (Nat.pow_le_pow_right (by omega) (by omega))
    have ha6:a<4398046511104:=ha6
    have e1:w64 ((a:Int) * 128)=((a * 128:Nat):Int):=by rw[w64_id (by omega) (by omega)];omega
    have e2:w64 (bAt s (n:Int))=((s[n].toNat:Nat):Int):=by rw[bAt_nat s n h1];exact w64_nat (by omega)
    have e3:Int.tmod ((s[n].toNat:Nat):Int) 128=((s[n].toNat % 128:Nat):Int):=rfl
    have e4:w64 (((a * 128:Nat):Int)+((s[n].toNat % 128:Nat):Int))=((a * 128+s[n].toNat % 128:Nat):Int):=by rw[w64_id (by omega) (by omega)];omega
    have e5:w64 ((n:Int) - 1)=(n:Int) - 1:=w64_id (by omega) (by omega)
    have hlt:a * 128+s[n].toNat % 128<128 ^ (k - n):=by
     rw[show k - n=(k - (n+1))+1 by omega,Nat.pow_succ];omega
    have ih:=ih n (a * 128+s[n].toNat % 128) rfl ⟨by omega,hlt⟩
    simp only[ψ2E.l2,e0,c,decide_true,cond_true,inB_nat,h1,e1,e2,e3,e4,e5,ih]
    congr 4
    rw[List.take_succ_eq_append_getElem h1]
    have hd:decV (s.take n++[s[n]])=decV (s.take n)+128 ^ n * (s[n].toNat % 128):=by
     have gen:∀l:List UInt8,decV (l++[s[n]])=decV l+128 ^ l.length * (s[n].toNat % 128):=by
      intro l
      induction l with
      | nil=>simp[decV]
      | cons x l ih=>
       show x.toNat % 128+128 * decV (l++[s[n]])=x.toNat % 128+128 * decV l+128 ^ (l.length+1) * (s[n].toNat % 128)
       rw[ih,Nat.pow_succ,Nat.mul_add,Nat.mul_comm (128 ^ l.length) 128,Nat.mul_assoc];omega
     rw[gen,List.length_take,Nat.min_eq_left (by omega)]
    rw[hd,Nat.pow_succ,Nat.mul_add]
    have:128 ^ n * (a * 128)=128 ^ n * 128 * a:=by rw[Nat.mul_assoc,Nat.mul_comm a 128]
    omega)
  k 0 (by omega) ⟨Nat.le_refl _,by simp⟩
 simpa using key
theorem spec_ReadVar_eq (s:List UInt8) (hl:s.length<2 ^ 62):ψ2E.f s=some (readVar s):=by
 have key:=lp_eq (step:=ψ2E.l0) (a:=(s,(1:Int))) (fun a=>match rvT 7 true s with
   | some (n,k)=>if a.2≤(k:Int) then .inr ((n:Int),(k:Int)) else .inl ()
   | none=>.inl ()) (fun a=>a.1=s∧1≤a.2∧a.2≤8) (fun a=>(8 - a.2).toNat)
  (fun rec a ha ih=>by
   obtain ⟨x,k⟩:=a
   obtain ⟨hx,h1,h2⟩:=ha
   simp only at hx h1 h2 ih ⊢
   subst hx
   obtain ⟨m,rfl⟩:∃m:Nat,k=(m:Int):=⟨k.toNat,by omega⟩
   have out:∀n j,rvT 7 true x=some (n,j)→j≤7∧j≤x.length:=fun n j hr=>by
    have:=rvT_some 7 true x n j hr;exact ⟨this.2.1,this.2.2.1⟩
   by_cases c7:(m:Int)≤7
   rotate_left
   ·simp only[ψ2E.l0,c7,decide_false,cond_false]
    cases hr:rvT 7 true x with
    | none=>rfl
    | some p=>
     obtain ⟨n,j⟩:=p
     have:=(out n j hr).1
     simp only
     rw[if_neg (by omega)]
   by_cases cl:(m:Int)≤(x.length:Int)
   rotate_left
   ·simp only[ψ2E.l0,c7,cl,decide_true,decide_false,cond_true,cond_false]
    cases hr:rvT 7 true x with
    | none=>rfl
    | some p=>
     obtain ⟨n,j⟩:=p
     have:=(out n j hr).2
     simp only
     rw[if_neg (by omega)]
   have e1:w64 ((m:Int) - 1)=(m:Int) - 1:=w64_id (by omega) (by omega)
   have e2:=spec_ReadVar_l2 x (m:Int) m (by omega) (by omega)
   have hv:decV (x.take m)<128 ^ 7:=Nat.lt_of_lt_of_le (decV_lt _) (Nat.pow_le_pow_right (by omega) (by rw[List.length_take];omega))
   have hv2:decV (x.take m)<562949953421312:=hv
   have c0:(0:Int)≤(m:Int):=by omega
   have e3:w64 ((m:Int)+1)=((m+1:Nat):Int):=w64_succ (by omega)
   simp only[ψ2E.l0,c7,cl,decide_true,cond_true,e1,e2,Option.bind_some,spec_Var_eq,varT_nat _ (show decV (x.take m)≤562949953421311 by omega),c0,Bool.and_self,Int.toNat_natCast,e3]
   by_cases ck:varN (decV (x.take m))=x.take m
   ·have ck2:(varN (decV (x.take m))==x.take m)=true:=by simpa using ck
    have hr:rvT 7 true x=some (decV (x.take m),m):=by
     have hb:=rvT_back 7 true (decV (x.take m)) (x.drop m) hv (by simp) (by omega)
     rw[ck,List.take_append_drop,List.length_take,Nat.min_eq_left (by omega)] at hb
     exact hb
    simp only[ck2,cond_true,hr]
    rw[if_pos (Int.le_refl _)]
   ·have ck2:(varN (decV (x.take m))==x.take m)=false:=by simpa using ck
    have ih:=ih (x,((m+1:Nat):Int)) ⟨rfl,by simp only;omega,by simp only;omega⟩ (by simp only;omega)
    simp only[ck2,cond_false,ih]
    cases hr:rvT 7 true x with
    | none=>rfl
    | some p=>
     obtain ⟨n,j⟩:=p
     have hs:=rvT_some 7 true x n j hr
     have hne:j≠m:=fun e=>by
      subst e
      rw[hs.2.2.2.1,decV_varN 6 n hs.2.2.2.2] at ck
      exact ck rfl
     simp only
     by_cases cj:(m:Int)≤(j:Int)
     ·rw[if_pos cj,if_pos (by omega)]
     ·rw[if_neg cj,if_neg (by omega)])
  ⟨rfl,by simp only;omega,by simp only;omega⟩ (by show (7:Nat)<2 ^ 62;decide)
 unfold ψ2E.f readVar
 rw[key,Option.bind_some]
 cases hr:rvT 7 true s with
 | none=>rfl
 | some p=>
  obtain ⟨n,k⟩:=p
  have hs:=rvT_some 7 true s n k hr
  simp only
  rw[if_pos (by omega)];rfl
theorem impl_ReadVar_eq (s:List UInt8) (hl:s.length<2 ^ 62):ψa.f s=some (readVar s):=by
 have key:=lp_up (step:=ψa.l0) (fun i (a:Nat)=>(s,(a:Int),(i:Int))) 7 (fun i a=>match rvT (7 - i) (decide (i=0)) (s.drop i) with
   | some (n,k)=>.inr (((a+128 ^ i * n:Nat):Int),((i+k:Nat):Int))
   | none=>bif ((s.drop i).take (7 - i)).all (fun x=>decide (128≤x.toNat)) then .inl () else .inr (0,0)) (fun i a=>a<128 ^ i)
  (fun rec i a hi ha ih=>by
   have hpow:(128:Nat) ^ i≤128 ^ 7:=Nat.pow_le_pow_right (by omega) hi
   have ha7:a<562949953421312:=Nat.lt_of_lt_of_le ha hpow
   rcases Nat.lt_or_ge i 7 with h7 | h7
   rotate_left
   ·have:i=7:=by omega
    subst this
    simp[ψa.l0,rvT]
   have c7:(i:Int)<7:=by omega
   rcases Nat.lt_or_ge i s.length with hs | hs
   rotate_left
   ·have c:¬(i:Int)<(s.length:Int):=by omega
    have e:s.drop i=[]:=by rw[List.drop_eq_nil_iff];exact hs
    have e7:7 - i=(6 - i)+1:=by omega
    simp only[ψa.l0,c7,c,decide_true,decide_false,cond_true,cond_false,e,e7,rvT]
    simp
   have cs:(i:Int)<(s.length:Int):=by omega
   have hx:=s[i].toNat_lt
   have e1:w64 (bAt s (i:Int))=((s[i].toNat:Nat):Int):=by rw[bAt_nat s i hs];exact w64_nat (by omega)
   have e2:w64 (7 * (i:Int))=((7 * i:Nat):Int):=by rw[w64_id (by omega) (by omega)];omega
   have e3:(0:Int)≤((7 * i:Nat):Int):=by omega
   have e4:Int.tmod ((s[i].toNat:Nat):Int) 128=((s[i].toNat % 128:Nat):Int):=rfl
   have e5:((s[i].toNat % 128:Nat):Int) * 2 ^ (min ((7 * i:Nat):Int).toNat 64)=((s[i].toNat % 128 * 128 ^ i:Nat):Int):=by
    rw[Int.toNat_natCast,Nat.min_eq_left (by omega),show (2:Int) ^ (7 * i)=((128 ^ i:Nat):Int) by
     rw[show (128:Nat)=2 ^ 7 from rfl,←Nat.pow_mul,Int.natCast_pow];rfl]
    simp
   have hb6:(128:Nat) ^ i≤128 ^ 6:=Nat.pow_le_pow_right (by omega) (by omega)
   have hb6:(128:Nat) ^ i≤4398046511104:=hb6
   have hm:s[i].toNat % 128 * 128 ^ i≤127 * 128 ^ i:=Nat.mul_le_mul_right _ (by omega)
   have e6:w64 ((s[i].toNat % 128 * 128 ^ i:Nat):Int)=((s[i].toNat % 128 * 128 ^ i:Nat):Int):=w64_nat (by omega)
   have e7:w64 ((a:Int)+((s[i].toNat % 128 * 128 ^ i:Nat):Int))=((a+s[i].toNat % 128 * 128 ^ i:Nat):Int):=by rw[w64_id (by omega) (by omega)];omega
   have e8:w64 ((i:Int)+1)=((i+1:Nat):Int):=w64_succ (by omega)
   have e9:7 - i=(6 - i)+1:=by omega
   have e10:7 - (i+1)=6 - i:=by omega
   rw[List.drop_eq_getElem_cons hs,e9]
   by_cases cb:s[i].toNat<128
   ·have cb2:¬((s[i].toNat:Nat):Int)≥128:=by omega
    by_cases cz:s[i].toNat=0
    ·have cz2:(((s[i].toNat:Nat):Int)==0)=true:=by rw[cz];rfl
     by_cases ci:i=0
     ·subst ci
      have hi0:¬((0:Nat):Int) > 0:=by omega
      simp only[ψa.l0,c7,cs,decide_true,cond_true,inB_nat,hs,e1,e2,e3,e4,e5,e6,e7,e8,cb2,decide_false,cond_false,cz2,hi0,Option.bind_some,caseS_l]
      unfold rvT
      rw[if_pos cb,if_neg (by simp)]
      simp[cz]
     ·have hi0:(i:Int) > 0:=by omega
      have hd:decide (i=0)=false:=decide_eq_false ci
      simp only[ψa.l0,c7,cs,decide_true,cond_true,inB_nat,hs,e1,e2,e3,e4,e5,e6,e7,e8,cb2,decide_false,cond_false,cz2,hi0,Option.bind_some,caseS_r,hd]
      unfold rvT
      rw[if_pos cb,if_pos ⟨cz,rfl⟩]
      simp only[List.take_succ_cons]
      have hne:decide (128≤s[i].toNat)=false:=decide_eq_false (by omega)
      rw[List.all_cons,hne];rfl
    ·have cz2:(((s[i].toNat:Nat):Int)==0)=false:=by simp;omega
     simp only[ψa.l0,c7,cs,decide_true,cond_true,inB_nat,hs,e1,e2,e3,e4,e5,e6,e7,e8,cb2,decide_false,cond_false,cz2,Option.bind_some,caseS_l]
     unfold rvT
     rw[if_pos cb,if_neg (fun k=>cz k.1)]
     have e11:s[i].toNat % 128=s[i].toNat:=by omega
     simp only[e11]
     rw[Nat.mul_comm (128 ^ i)]
   ·have cb2:((s[i].toNat:Nat):Int)≥128:=by omega
    have hlt:a+s[i].toNat % 128 * 128 ^ i<128 ^ (i+1):=by rw[Nat.pow_succ];omega
    have ih:=ih (a+s[i].toNat % 128 * 128 ^ i) h7 hlt
    rw[e10] at ih
    simp only[ψa.l0,c7,cs,decide_true,cond_true,inB_nat,hs,e1,e2,e3,e4,e5,e6,e7,e8,cb2,ih]
    rw[rvT,if_neg cb,show decide (i+1=0)=false from decide_eq_false (by omega)]
    cases hr:rvT (6 - i) false (s.drop (i+1)) with
    | none=>
     simp only[Option.map_none,List.take_succ_cons]
     have hge:decide (128≤s[i].toNat)=true:=decide_eq_true (by omega)
     rw[List.all_cons,hge,Bool.true_and]
    | some p=>
     obtain ⟨n,k⟩:=p
     simp only[Option.map_some]
     congr 3
     ·rw[Nat.mul_add,Nat.pow_succ,Nat.mul_comm (128 ^ i) (s[i].toNat % 128)]
      have:128 ^ i * (128 * n)=128 ^ i * 128 * n:=by rw[Nat.mul_assoc]
      omega
     ·omega)
  (by omega) 0 0 (Nat.zero_le _) (by simp)
 have key:lp ψa.l0 (s,0,0)=_:=key
 unfold ψa.f readVar
 rw[key,Option.bind_some]
 simp only[Nat.sub_zero,List.drop_zero,decide_true]
 cases hr:rvT 7 true s with
 | none=>
  simp only
  cases (s.take 7).all (fun x=>decide (128≤x.toNat))<;>rfl
 | some p=>
  obtain ⟨n,k⟩:=p
  simp
def fixR (l:List UInt8):Nat:=l.foldl (fun n x=>n * 256+x.toNat) 0
theorem fixR_snoc (l:List UInt8) (x:UInt8):fixR (l++[x])=fixR l * 256+x.toNat:=by
 unfold fixR;rw[List.foldl_append];rfl
theorem fixR_lt (l:List UInt8):fixR l<256 ^ l.length:=by
 induction l using snoc_ind with
 | h0=>simp[fixR]
 | hs l x ih=>
  have:=x.toNat_lt
  rw[fixR_snoc,List.length_append,List.length_singleton,Nat.pow_succ];omega
theorem fixL_R (l:List UInt8):fixL (fixR l) l.length=l:=by
 induction l using snoc_ind with
 | h0=>rfl
 | hs l x ih=>
  have hx:=x.toNat_lt
  rw[fixR_snoc,List.length_append,List.length_singleton,fixL_snoc,show (fixR l * 256+x.toNat) / 256=fixR l by omega,ih]
  have:UInt8.ofNat (fixR l * 256+x.toNat)=x:=by
   have e:=UInt8.ofNat_mod_size (x:=fixR l * 256+x.toNat)
   have e2:(fixR l * 256+x.toNat) % 2 ^ 8=x.toNat:=by omega
   rw[e2] at e
   rw[←e];simp
  rw[this]
theorem fixR_L:∀(k n:Nat),n<256 ^ k→fixR (fixL n k)=n
 | 0,n,h=>by simp at h;subst h;rfl
 | k+1,n,h=>by
  rw[fixL_snoc,fixR_snoc,fixR_L k (n / 256) (by rw[Nat.div_lt_iff_lt_mul (by omega)];rw[Nat.pow_succ] at h;exact h)]
  have:(UInt8.ofNat n).toNat=n % 256:=by simp
  rw[this];omega
def readFix4 (s:List UInt8):Int×Bool:=if s.length<4 then (0,false) else (((fixR (s.take 4):Nat):Int),true)
theorem fixR_take_succ (s:List UInt8) (n:Nat) (h:n<s.length):fixR (s.take (n+1))=fixR (s.take n) * 256+s[n].toNat:=by
 rw[List.take_succ_eq_append_getElem h,fixR_snoc]
theorem spec_ReadFixed_eq (s:List UInt8) (hl:s.length<2 ^ 62):ψ2A.f s 4=some (readFix4 s):=by
 unfold ψ2A.f readFix4
 have h0:decide ((1:Int)≤4∧(4:Int)≤7)=true:=by decide
 simp only[spec_l1In_eq,Option.bind_some,h0,Bool.not_true,cond_false]
 by_cases c:s.length<4
 ·have c1:(s.length:Int)<4:=by omega
  simp[c,c1]
 have c1:¬(s.length:Int)<4:=by omega
 have key:=lp_up (step:=ψ2A.l0) (fun n (_:Unit)=>(s,4,((fixR (s.take n):Nat):Int),(n:Int))) 4 (fun _ _=>((fixR (s.take 4):Nat):Int)) (fun _ _=>True)
  (fun rec n a hn _ ih=>by
   rcases Nat.lt_or_ge n 4 with h | h
   ·have h4:(n:Int)<4:=by omega
    have hs:n<s.length:=by omega
    have hx:=s[n].toNat_lt
    have hlt:fixR (s.take n)<256 ^ 3:=Nat.lt_of_lt_of_le (fixR_lt _) (Nat.pow_le_pow_right (by omega) (by rw[List.length_take];omega))
    have hlt:fixR (s.take n)<16777216:=hlt
    have e1:w64 (((fixR (s.take n):Nat):Int) * 256)=((fixR (s.take n) * 256:Nat):Int):=by rw[w64_id (by omega) (by omega)];omega
    have e2:w64 (bAt s (n:Int))=((s[n].toNat:Nat):Int):=by rw[bAt_nat s n hs];exact w64_nat (by omega)
    have e3:w64 (((fixR (s.take n) * 256:Nat):Int)+((s[n].toNat:Nat):Int))=((fixR (s.take (n+1)):Nat):Int):=by
     rw[fixR_take_succ s n hs,w64_id (by omega) (by omega)];omega
    simp only[ψ2A.l0,h4,decide_true,cond_true,inB_nat,hs,e1,e2,e3,w64_succ (show n+1<9223372036854775808 by omega),ih () h trivial]
   ·have:n=4:=by omega
    subst this
    simp[ψ2A.l0])
  (by omega) 0 () (Nat.zero_le _) trivial
 have key:lp ψ2A.l0 (s,4,0,0)=_:=key
 simp only[c,c1,decide_false,cond_false,key,Option.bind_some,if_false]
theorem or64 (a b:Nat) (ha:a<2 ^ 32) (hb:b<256):bits (fun _ a b=>a ||| b) .i64 ((a * 256:Nat):Int) (b:Int)=((a * 256+b:Nat):Int):=by
 have e:(BitVec.ofInt 64 ((a * 256:Nat):Int) ||| BitVec.ofInt 64 (b:Int)).toNat=a * 256+b:=by
  rw[BitVec.ofInt_natCast,BitVec.ofInt_natCast,BitVec.toNat_or,BitVec.toNat_ofNat,BitVec.toNat_ofNat,Nat.mod_eq_of_lt (by omega),Nat.mod_eq_of_lt (by omega)]
  have:=Nat.shiftLeft_add_eq_or_of_lt (show b<2 ^ 8 from hb) a
  rw[Nat.shiftLeft_eq] at this
  exact this.symm
 show IntKind.wrap .i64 ((BitVec.ofInt 64 ((a * 256:Nat):Int) ||| BitVec.ofInt 64 (b:Int)).toNat:Int)=_
 rw[e]
 exact wrap64_nat (by omega)
end Go.Rf.G
