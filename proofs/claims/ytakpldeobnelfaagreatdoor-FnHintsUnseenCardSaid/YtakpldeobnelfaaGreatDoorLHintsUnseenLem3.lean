import Derived.Test.YtakpldeobnelfaaGreatDoorLHintsUnseenLem2
namespace Go.Rf.G
open Go Go.Rf
set_option linter.unusedVariables false
set_option linter.unusedSimpArgs false
set_option synthInstance.maxSize 4000
theorem impl_writeHint_eq (m:Int) (w:WorkT) (h:diskOk w.1=true):ψ1c.f (toldW w) m=some (toldW (sHint m w)):=by
 obtain ⟨d,c⟩:=w
 have h:diskOk d=true:=h
 unfold ψ1c.f sHint
 show (bif told c != 0 then _ else _)=_
 rw[told_ne]
 by_cases c1:c=0
 rotate_left
 ·have d1:(c != 0)=true:=by simpa using c1
  simp only[d1,cond_true,c1,ne_eq,not_false_eq_true,if_true]
 subst c1
 obtain ⟨t1,t2⟩:=hint_txt m (d:=d) h
 have hn:=hintName_len m
 have hsl:=showHint_len (hintOf m (fileText d (segName m)).1).1
 have hd:dlim d:=dl_lim (dl_dk h) (by omega)
 simp only[bne_self_eq_false,cond_false,ne_eq,not_true_eq_false,if_false,impl_SegName_eq,Option.bind_some]
 rw[show ψG.f (toldW (d,0)).1 (segName m)=some (fileText d (segName m)) from impl_FileText_eq d (segName m) hd]
 simp only[Option.bind_some,impl_HintOf_eq m (fileText d (segName m)).1 (by omega),impl_HintName_eq,impl_ShowHint_eq (hintOf m (fileText d (segName m)).1).1 (by omega)]
 rw[w_fileOf_eq (toldW (d,0)) (hintName m) _ (dl_dk h) (by omega),Option.bind_some,wFile_told]
 unfold hintStep
 have hf:=dk_sFile (w:=(d,0)) h (hintName m) (showHint (hintOf m (fileText d (segName m)).1).1)
 simp only
 generalize sFile (hintName m) (showHint (hintOf m (fileText d (segName m)).1).1) (d,0)=f at *
 obtain ⟨x,k⟩:=f
 have hf:diskOk x=true:=hf
 show (bif told k==2 then _ else _)=_
 by_cases c2:k=2
 ·subst c2
  have e:ψ1T.f (x,0) (hintName m)=some (wstep (dGone (hintName m)) (x,0)):=w_gone_eq (x,0) (hintName m) (dl_dk hf) (by omega)
  simp only[show (told 2==2)=true from rfl,cond_true,if_true]
  show (ψ1T.f (x,0) (hintName m)).bind _=_
  rw[e,Option.bind_some]
  rw[show wstep (dGone (hintName m)) (x,0)=toldW (dGone (hintName m) x) by unfold wstep;simp;rfl]
 ·have c3:¬told k=2:=fun e=>c2 ((told_two k).1 e)
  have d3:(told k==2)=false:=by simpa using c3
  simp only[d3,cond_false,c2,if_false]
def mNames (m:Int):List (List UInt8):=[[116,101,109,112],segName m,segName (m+1),hintName m]
def sOld (ids:List Int) (w:WorkT):WorkT:=ids.foldl (fun w id=>sDrop [segName id,hintName id] w) w
theorem dk_sOld (ids:List Int):∀{w:WorkT},diskOk w.1=true→diskOk (sOld ids w).1=true:=by
 induction ids with
 | nil=>intro w h;exact h
 | cons n l ih=>intro w h;exact ih (dk_sDrop [segName n,hintName n] h)
theorem sOld_ne (ids:List Int) {d:DiskT} {c:Int} (h:c≠0):sOld ids (d,c)=(d,c):=by
 induction ids with
 | nil=>rfl
 | cons n l ih=>show sOld l (sDrop _ (d,c))=_;rw[sDrop_ne _ h,ih]
noncomputable def mergeP (s:StoreT) (d:DiskT) (l:List PairT):StoreT×DiskT×Int:=
 let m:=s.1.1
 let w1:=sNew (segName (m+1)) (sWM m (keepsOf l (s.2.2.1 - 1)) (d,0))
 let w2:=sHint m w1
 let w3:=if w2.2=0 then toldW (sPut (m+2,[m,m+1]) w2) else toldW w2
 if w3.2≠0 then (((m+2,s.1.2),s.2),cleanW (mNames m) w3) else
 (((m+2,[m,m+1]),entsG m 0 (keepsOf l (s.2.2.1 - 1)),s.2.2.1,0,0),toldW (sOld s.1.2 (w3.1,0)))
theorem keepsOf_len (l:List PairT) (mark:Int):(keepsOf l mark).length=l.length+1:=by unfold keepsOf;simp
theorem impl_merge_l0 (S:StoreT) (ids:List Int) (w:WorkT) (h:diskOk w.1=true) (hl:ids.length<1000000) :
  lp ψp.l0 (S,toldW w,ids,(ids.length:Int),0)=some (S,toldW (sOld ids w)):=by
 have key:=fold_loop (step:=ψp.l0) ids (fun (w:WorkT) id=>sDrop [segName id,hintName id] w) (fun n (a:WorkT)=>(S,toldW a,ids,(ids.length:Int),(n:Int))) (fun a=>(S,toldW a)) (fun _ a=>diskOk a.1=true) (by omega)
  (fun rec n a h1 ha=>by
   have hw:=w64_succ (show n+1<9223372036854775808 by omega)
   have g1:diskOk (sstep (dGone (segName ids[n])) a).1=true:=dk_sstep (op:=dGone _) ha fun k=>dk_Gone k _
   have e1:ψ1T.f (toldW a) (segName ids[n])=some (toldW (sstep (dGone (segName ids[n])) a)):=by rw[w_gone_eq (toldW a) _ (dl_dk ha) (by omega),wstep_told]
   have e2:ψ1T.f (toldW (sstep (dGone (segName ids[n])) a)) (hintName ids[n])=some (toldW (sstep (dGone (hintName ids[n])) (sstep (dGone (segName ids[n])) a))):=by rw[w_gone_eq (toldW _) _ (dl_dk g1) (by omega),wstep_told]
   simp only[ψp.l0,Int.ofNat_lt,h1,decide_true,cond_true,inB_nat,rdA_nat,getD_lt h1,impl_SegName_eq,impl_HintName_eq,e1,e2,Option.bind_some,hw];rfl)
  (fun n a h1 ha=>dk_sDrop [segName ids[n],hintName ids[n]] ha)
  (fun rec a ha=>by simp[ψp.l0])
  w h
 exact key
theorem impl_merge_eq (s:StoreT) (d:DiskT) (l:List PairT) (h:diskOk d=true) (hv:liveOk s.1=true) (h2:s.1.1+2≤100000) (hb:1≤s.2.2.1∧s.2.2.1≤1000001) (hl:l.length<100000):ψp.f s (d,0) l=some (mergeP s d l):=by
 obtain ⟨k1,k2,k3,k4⟩:=(liveOk_iff s.1).1 hv
 have hkl:=keepsOf_len l (s.2.2.1 - 1)
 have g1:=dk_sWM s.1.1 (keepsOf l (s.2.2.1 - 1)) (w:=(d,0)) h
 have g2:=dk_sNew g1 (segName (s.1.1+1))
 unfold ψp.f mergeP
 simp only[show w64 (s.1.1+2)=s.1.1+2 from w64_id (by omega) (by omega),show w64 (s.1.1+1)=s.1.1+1 from w64_id (by omega) (by omega),show w64 (s.2.2.1 - 1)=s.2.2.1 - 1 from w64_id (by omega) (by omega),impl_keeps_eq l (s.2.2.1 - 1) (by omega),Option.bind_some]
 rw[show ((d,0):WorkT)=toldW (d,0) from rfl,impl_writeMerged_eq s.1.1 (keepsOf l (s.2.2.1 - 1)) (d,0) h (by omega) (by omega)]
 simp only[Option.bind_some]
 rw[show toldW (d,0)=((d,0):WorkT) from rfl]
 generalize sNew (segName (s.1.1+1)) (sWM s.1.1 (keepsOf l (s.2.2.1 - 1)) (d,0))=w1 at *
 have g3:diskOk (sHint s.1.1 w1).1=true:=by
  unfold sHint;split
  ·exact g2
  ·exact dk_hintStep _ g2
 rw[impl_writeHint_eq s.1.1 w1 g2,Option.bind_some]
 generalize sHint s.1.1 w1=w2 at *
 obtain ⟨x,c⟩:=w2
 have g3:diskOk x=true:=g3
 have g4:=dk_sPut (w:=(x,0)) g3 (s.1.1+2,[s.1.1,s.1.1+1])
 have e3:(bif (toldW (x,c)).2==0 then (ψ1X.f (toldW (x,c)) (s.1.1+2,[s.1.1,s.1.1+1])).bind fun t6=>some ((((s.1.1+2,s.1.2),s.2):StoreT),t6,s.1.1,entsG s.1.1 0 (keepsOf l (s.2.2.1 - 1)),((s.1.1+2,[s.1.1,s.1.1+1]):LiveT)) else some (((s.1.1+2,s.1.2),s.2),toldW (x,c),s.1.1,entsG s.1.1 0 (keepsOf l (s.2.2.1 - 1)),(s.1.1+2,[s.1.1,s.1.1+1]))) =
   some (((s.1.1+2,s.1.2),s.2),(if c=0 then toldW (sPut (s.1.1+2,[s.1.1,s.1.1+1]) (x,c)) else toldW (x,c)),s.1.1,entsG s.1.1 0 (keepsOf l (s.2.2.1 - 1)),(s.1.1+2,[s.1.1,s.1.1+1])):=by
  by_cases c1:c=0
  ·subst c1
   rw[w_putLive_eq (toldW (x,0)) (s.1.1+2,[s.1.1,s.1.1+1]) (dl_dk g3) (by omega) (by simp),wPut_told];rfl
  ·have c2:¬told c=0:=fun e=>c1 ((told_zero c).1 e)
   have d2:((toldW (x,c)).2==0)=false:=by simpa [toldW] using c2
   rw[d2];simp only[cond_false,c1,if_false]
 rw[e3,Option.bind_some]
 have g5:diskOk (if c=0 then toldW (sPut (s.1.1+2,[s.1.1,s.1.1+1]) (x,c)) else toldW (x,c)).1=true:=by
  split
  ·rename_i c1;subst c1;exact g4
  ·exact g3
 simp only
 generalize (if c=0 then toldW (sPut (s.1.1+2,[s.1.1,s.1.1+1]) (x,c)) else toldW (x,c))=w3 at *
 obtain ⟨y,c3⟩:=w3
 have g5:diskOk y=true:=g5
 by_cases c4:c3=0
 ·subst c4
  simp only[bne_self_eq_false,cond_false,ne_eq,not_true_eq_false,if_false]
  rw[show ((y,0):WorkT)=toldW (y,0) from rfl,impl_merge_l0 _ s.1.2 (y,0) g5 (by omega)];rfl
 ·have d4:(c3 != 0)=true:=by simpa using c4
  simp only[d4,cond_true,c4,ne_eq,not_false_eq_true,if_true,impl_SegName_eq,impl_HintName_eq,Option.bind_some,show w64 (s.1.1+1)=s.1.1+1 from w64_id (by omega) (by omega)]
  rw[impl_clean_eq (y,c3) [[116,101,109,112],segName s.1.1,segName (s.1.1+1),hintName s.1.1] g5 (by simp)];rfl
theorem spec_l14Fail_eq (s:StoreT) (d:DiskT) (m c:Int) (h:diskOk d=true) (hm:0≤m∧m≤100000) (hc:c≠0):ψ2q.f s d m c=some (s,cleanW (mNames m) (d,c)):=by
 unfold ψ2q.f cleanW
 by_cases c1:c=2
 rotate_left
 ·have d1:(c != 2)=true:=by simpa using c1
  simp only[d1,cond_true,c1,if_false]
 subst c1
 simp only[bne_self_eq_false,cond_false,if_true,spec_SegName_eq,spec_HintName_eq,show w64 (m+1)=m+1 from w64_id (by omega) (by omega),Option.bind_some]
 rw[spec_l14Drop_eq d [[116,101,109,112],segName m,segName (m+1),hintName m] h (by simp),Option.bind_some]
 show (bif (sDrop (mNames m) (d,0)).2 != 0 then _ else _)=_
 rw[show sDrop [[116,101,109,112],segName m,segName (m+1),hintName m] (d,0)=sDrop (mNames m) (d,0) from rfl]
 generalize sDrop (mNames m) (d,0)=r
 obtain ⟨x,k⟩:=r
 by_cases c2:k=0
 ·subst c2;rfl
 ·have d2:(k != 0)=true:=by simpa using c2
  have c3:¬told k=0:=fun e=>c2 ((told_zero k).1 e)
  have c4:¬(toldW (x,k)).2=0:=c3
  simp only[d2,cond_true,spec_l11Code_eq,Option.bind_some,c4,if_false];rfl
theorem spec_merge_l0 (S:StoreT) (ids:List Int) (d:DiskT) (h:diskOk d=true) (hl:ids.length<1000000) :
  lp ψ2s.l0 (S,((0,[]),[],0,0,0),([],0,0,false),d,ids,0)=some (if (sOld ids (d,0)).2=0 then .inl (S,((0,[]),[],0,0,0),([],0,0,false),(sOld ids (d,0)).1) else .inr (S,(sOld ids (d,0)).1,told (sOld ids (d,0)).2)):=by
 have key:=lp_up (step:=ψ2s.l0) (fun n (a:DiskT)=>(S,((0,[]),[],0,0,0),([],0,0,false),a,ids,(n:Int))) ids.length (fun n a=>if (sOld (ids.drop n) (a,0)).2=0 then .inl (S,((0,[]),[],0,0,0),([],0,0,false),(sOld (ids.drop n) (a,0)).1) else .inr (S,(sOld (ids.drop n) (a,0)).1,told (sOld (ids.drop n) (a,0)).2)) (fun _ a=>diskOk a=true)
  (fun rec n a hn ha ih=>by
   rcases Nat.lt_or_ge n ids.length with h1 | h1
   ·have hw:=w64_succ (show n+1<9223372036854775808 by omega)
    have hk:=dk_sDrop [segName ids[n],hintName ids[n]] (w:=(a,0)) ha
    rw[List.drop_eq_getElem_cons h1]
    have es:sOld (ids[n]::ids.drop (n+1)) (a,0)=sOld (ids.drop (n+1)) (sDrop [segName ids[n],hintName ids[n]] (a,0)):=rfl
    simp only[es,ψ2s.l0,Int.ofNat_lt,h1,decide_true,cond_true,inB_nat,rdA_nat,getD_lt h1,spec_SegName_eq,spec_HintName_eq,spec_l14Drop_eq a [segName ids[n],hintName ids[n]] ha (by simp),Option.bind_some]
    generalize sDrop [segName ids[n],hintName ids[n]] (a,0)=r at *
    obtain ⟨x,c⟩:=r
    by_cases c1:c=0
    ·subst c1
     simp only[bne_self_eq_false,cond_false,hw,ih x h1 hk]
    ·have d1:(c != 0)=true:=by simpa using c1
     simp only[d1,cond_true,spec_l11Code_eq,Option.bind_some,sOld_ne _ c1,c1,if_false]
   ·have:n=ids.length:=by omega
    subst this
    simp[ψ2s.l0,sOld])
  (by omega) 0 d (Nat.zero_le _) h
 have key:lp ψ2s.l0 (S,((0,[]),[],0,0,0),([],0,0,false),d,ids,0)=_:=key
 rw[key,List.drop_zero]
theorem live_two (m:Int) (h:1≤m) (h2:m+2≤100000):liveOk (m+2,[m,m+1])=true:=by
 rw[liveOk_iff]
 refine ⟨?_,by simp only;omega,by simp,by simp⟩
 simp only[idsOk,Bool.and_true,Bool.true_and,Bool.and_eq_true,decide_eq_true_eq]
 rw[w64_id (by omega) (by omega)]
 omega
theorem spec_merge_eq (s:StoreT) (d:DiskT) (l:List PairT) (h:diskOk d=true) (hv:liveOk s.1=true) (h2:s.1.1+2≤100000) (hb:1≤s.2.2.1∧s.2.2.1≤1000001) (hl:l.length<100000):ψ2s.f s d l=some (mergeP s d l):=by
 obtain ⟨k1,k2,k3,k4⟩:=(liveOk_iff s.1).1 hv
 have hkl:=keepsOf_len l (s.2.2.1 - 1)
 have hlv:=live_two s.1.1 (by omega) h2
 have hsn:=segName_len s.1.1
 have hsn1:=segName_len (s.1.1+1)
 have hhn:=hintName_len s.1.1
 have g1:=dk_sWM s.1.1 (keepsOf l (s.2.2.1 - 1)) (w:=(d,0)) h
 obtain ⟨dir,ew,edir⟩:=spec_l14Write_eq d s.1.1 l (s.2.2.1 - 1) h (by omega)
 unfold ψ2s.f mergeP
 simp only[show w64 (s.1.1+2)=s.1.1+2 from w64_id (by omega) (by omega),show w64 (s.1.1+1)=s.1.1+1 from w64_id (by omega) (by omega),show w64 (s.2.2.1 - 1)=s.2.2.1 - 1 from w64_id (by omega) (by omega),ew,Option.bind_some,told_ne]
 generalize sWM s.1.1 (keepsOf l (s.2.2.1 - 1)) (d,0)=w0 at *
 obtain ⟨x0,c0⟩:=w0
 have g1:diskOk x0=true:=g1
 by_cases c1:c0=0
 rotate_left
 ·have d1:(c0 != 0)=true:=by simpa using c1
  have c2:told c0≠0:=fun e=>c1 ((told_zero c0).1 e)
  have e1:sHint s.1.1 (x0,c0)=(x0,c0):=by unfold sHint;rw[if_pos c1]
  rw[sNew_ne c1,e1]
  simp only[d1,cond_true,c1,if_false,spec_l14Fail_eq _ x0 s.1.1 (told c0) g1 (by omega) c2,Option.bind_some]
  rw[if_pos (show (toldW (x0,c0)).2≠0 from c2)];rfl
 subst c1
 have edir:=edir rfl
 subst edir
 have g2:=dk_sNew (w:=(x0,0)) g1 (segName (s.1.1+1))
 simp only[bne_self_eq_false,cond_false,spec_SegName_eq,spec_Fresh_eq x0 (segName (s.1.1+1)) g1 (by omega),Option.bind_some]
 generalize sNew (segName (s.1.1+1)) (x0,0)=w1 at *
 obtain ⟨x1,c1⟩:=w1
 have g2:diskOk x1=true:=g2
 by_cases c2:c1=0
 rotate_left
 ·have d1:(c1 != 0)=true:=by simpa using c2
  have c3:told c1≠0:=fun e=>c2 ((told_zero c1).1 e)
  have e1:sHint s.1.1 (x1,c1)=(x1,c1):=by unfold sHint;rw[if_pos c2]
  rw[e1]
  simp only[d1,cond_true,c2,if_false,spec_l11Code_eq,spec_l14Fail_eq _ x1 s.1.1 (told c1) g2 (by omega) c3,Option.bind_some]
  rw[if_pos (show (toldW (x1,c1)).2≠0 from c3)];rfl
 subst c2
 obtain ⟨t1,t2⟩:=hint_txt s.1.1 (d:=x1) g2
 have hsl:=showHint_len (hintOf s.1.1 (fileText x1 (segName s.1.1)).1).1
 have hd:dlim x1:=dl_lim (dl_dk g2) (by omega)
 have g3:=dk_hintStep s.1.1 g2
 have n2:=hintStep_ne2 s.1.1 x1
 have e1:sHint s.1.1 (x1,0)=hintStep s.1.1 x1:=by unfold sHint;rw[if_neg (by simp)]
 rw[e1]
 simp only[bne_self_eq_false,cond_false,spec_FileText_eq x1 (segName s.1.1) hd,Option.bind_some,spec_HintOf_eq s.1.1 (fileText x1 (segName s.1.1)).1 (by omega),spec_HintName_eq,spec_ShowHint_eq (hintOf s.1.1 (fileText x1 (segName s.1.1)).1).1 (by omega),spec_l11File_eq x1 (hintName s.1.1) _ (dl_dk g2) (show 100001+1+(hintName s.1.1).length+(showHint (hintOf s.1.1 (fileText x1 (segName s.1.1)).1).1).length≤1000000000 by omega)]
 have hf:=dk_sFile (w:=(x1,0)) g2 (hintName s.1.1) (showHint (hintOf s.1.1 (fileText x1 (segName s.1.1)).1).1)
 have eh:hintStep s.1.1 x1=if (sFile (hintName s.1.1) (showHint (hintOf s.1.1 (fileText x1 (segName s.1.1)).1).1) (x1,0)).2=2 then dGone (hintName s.1.1) (sFile (hintName s.1.1) (showHint (hintOf s.1.1 (fileText x1 (segName s.1.1)).1).1) (x1,0)).1 else sFile (hintName s.1.1) (showHint (hintOf s.1.1 (fileText x1 (segName s.1.1)).1).1) (x1,0):=rfl
 generalize sFile (hintName s.1.1) (showHint (hintOf s.1.1 (fileText x1 (segName s.1.1)).1).1) (x1,0)=f at *
 obtain ⟨xf,cf⟩:=f
 have hf:diskOk xf=true:=hf
 have e4:(bif cf==2 then (ψ2p.f xf [hintName s.1.1]).bind fun (t15_0,t15_1)=>some ((((s.1.1+2,s.1.2),s.2):StoreT),(((0,[]),[],0,0,0):StoreT),(([],0,0,false):DiskT),s.1.1,t15_0,entsG s.1.1 0 (keepsOf l (s.2.2.1 - 1)),t15_1) else some (((s.1.1+2,s.1.2),s.2),((0,[]),[],0,0,0),([],0,0,false),s.1.1,xf,entsG s.1.1 0 (keepsOf l (s.2.2.1 - 1)),cf)) =
   some (((s.1.1+2,s.1.2),s.2),((0,[]),[],0,0,0),([],0,0,false),s.1.1,(hintStep s.1.1 x1).1,entsG s.1.1 0 (keepsOf l (s.2.2.1 - 1)),(hintStep s.1.1 x1).2):=by
  rw[eh]
  by_cases c5:cf=2
  ·subst c5
   rw[spec_l14Drop_eq xf [hintName s.1.1] hf (by simp)]
   simp only[beq_self_eq_true,cond_true,Option.bind_some,if_true]
   rw[show sDrop [hintName s.1.1] (xf,0)=dGone (hintName s.1.1) xf by show sstep (dGone (hintName s.1.1)) (xf,0)=_;rw[sstep_z]]
  ·have d5:(cf==2)=false:=by simpa using c5
   simp only[d5,cond_false,c5,if_false]
 rw[e4,Option.bind_some]
 clear e4 eh
 generalize hintStep s.1.1 x1=w2 at *
 obtain ⟨x2,c2⟩:=w2
 have g3:diskOk x2=true:=g3
 have n2:c2≠2:=n2
 by_cases c5:c2=0
 rotate_left
 ·have d1:(c2 != 0)=true:=by simpa using c5
  have c6:told c2≠0:=fun e=>c5 ((told_zero c2).1 e)
  have c7:¬told c2=2:=fun e=>n2 ((told_two c2).1 e)
  simp only[d1,cond_true,c5,if_false,spec_l11Code_eq,Option.bind_some]
  rw[if_pos (show (toldW (x2,c2)).2≠0 from c6)]
  unfold cleanW
  rw[if_neg (show ¬(toldW (x2,c2)).2=2 from c7)];rfl
 subst c5
 have hb0:(([]:List Int).length+s.1.2.length) * 8≤140737488355328:=lim8' (by omega)
 have g4:=dk_sPut (w:=(x2,0)) g3 (s.1.1+2,[s.1.1,s.1.1+1])
 have ep:ψ27.f x2 (s.1.1+2,[s.1.1,s.1.1+1])=some (toldW (sPut (s.1.1+2,[s.1.1,s.1.1+1]) (x2,0))):=by
  rw[spec_PutLive_eq _ _ (dl_dk g3) (by omega) (by simp)]
  unfold putLive
  rw[if_neg (by rw[hlv,g3];simp)]
 simp only[bne_self_eq_false,cond_false,if_true,hb0,decide_true,cond_true,List.nil_append,show w64 (s.1.1+2)=s.1.1+2 from w64_id (by omega) (by omega),show w64 (s.1.1+1)=s.1.1+1 from w64_id (by omega) (by omega),ep,Option.bind_some]
 have g5:diskOk (toldW (sPut (s.1.1+2,[s.1.1,s.1.1+1]) (x2,0))).1=true:=g4
 generalize toldW (sPut (s.1.1+2,[s.1.1,s.1.1+1]) (x2,0))=w3 at *
 obtain ⟨x3,c3⟩:=w3
 have g5:diskOk x3=true:=g5
 by_cases c6:c3=0
 rotate_left
 ·have d6:(c3 != 0)=true:=by simpa using c6
  simp only[d6,cond_true,c6,ne_eq,not_false_eq_true,if_true,spec_l14Fail_eq _ x3 s.1.1 c3 g5 (by omega) c6,Option.bind_some]
 subst c6
 simp only[bne_self_eq_false,cond_false,ne_eq,not_true_eq_false,if_false,spec_merge_l0 _ s.1.2 x3 g5 (by omega),Option.bind_some]
 generalize sOld s.1.2 (x3,0)=w4
 obtain ⟨x4,c4⟩:=w4
 by_cases c7:c4=0
 ·subst c7;rfl
 ·simp only[c7,if_false,caseS_r];rfl
theorem mergeP_ok {s:StoreT} {d:DiskT} (l:List PairT) (h:diskOk d=true):diskOk (mergeP s d l).2.1=true∧(mergeP s d l).1.1.2.length≤s.1.2.length+2∧(mergeP s d l).1.2.1.length≤s.2.1.length+l.length+1:=by
 have g1:=dk_sWM s.1.1 (keepsOf l (s.2.2.1 - 1)) (w:=(d,0)) h
 have g2:=dk_sNew g1 (segName (s.1.1+1))
 have hkl:=keepsOf_len l (s.2.2.1 - 1)
 have hel:=entsG_len s.1.1 (keepsOf l (s.2.2.1 - 1)) 0
 unfold mergeP
 simp only
 generalize sNew (segName (s.1.1+1)) (sWM s.1.1 (keepsOf l (s.2.2.1 - 1)) (d,0))=w1 at *
 have g3:diskOk (sHint s.1.1 w1).1=true:=by
  unfold sHint;split
  ·exact g2
  ·exact dk_hintStep _ g2
 generalize sHint s.1.1 w1=w2 at *
 have g5:diskOk (if w2.2=0 then toldW (sPut (s.1.1+2,[s.1.1,s.1.1+1]) w2) else toldW w2).1=true:=by
  split
  ·exact dk_sPut g3 _
  ·exact g3
 generalize (if w2.2=0 then toldW (sPut (s.1.1+2,[s.1.1,s.1.1+1]) w2) else toldW w2)=w3 at *
 split
 ·exact ⟨dk_cleanW _ g5,by simp only;omega,by simp only;omega⟩
 ·exact ⟨dk_sOld _ (w:=(w3.1,0)) g5,by simp only[List.length_cons,List.length_nil];omega,by simp only;omega⟩
theorem l1PickInt_ok {c:CurT} (h:Cur c) (l:List Int) (hl:0<l.length):∃x c',ψ30.f c l=some (x,c')∧x∈l∧Cur c':=by
 obtain ⟨x,c',e,h1,h2,_,h'⟩:=l1Below_ok h (l.length:Int)
 have h2:=h2 (by omega)
 unfold ψ30.f
 obtain ⟨n,rfl⟩:∃n:Nat,x=(n:Int):=⟨x.toNat,by omega⟩
 have hn:n<l.length:=by omega
 simp only[e,Option.bind_some,inB_nat,hn,decide_true,cond_true,rdA_nat,getD_lt hn]
 exact ⟨_,_,rfl,List.getElem_mem hn,h'⟩
def dSmall (d:DiskT):Prop:=dl 200000 d
theorem spec_SameDisk_self (d:DiskT) (h:d.1.length<1000000000):ψ2L.f d d=some true:=by
 have key:=all_loop (step:=ψ2L.l0) d.1 (fun _=>true) (fun n=>(d,d,(n:Int))) () (by omega)
  (fun rec n h1=>by
   have hw:=w64_succ (show n+1<9223372036854775808 by omega)
   simp only[ψ2L.l0,Int.ofNat_lt,h1,decide_true,cond_true,inB_nat,rdA_nat,getD_lt h1,beq_self_eq_true,Bool.and_self,Bool.not_true,cond_false,hw,if_true])
  (fun rec=>by simp[ψ2L.l0])
 have key:lp ψ2L.l0 (d,d,0)=_:=key
 unfold ψ2L.f
 have hall:d.1.all (fun _=>true)=true:=by simp
 rw[key,hall]
 simp only[bne_self_eq_false,cond_false,beq_self_eq_true,Bool.not_true,if_true,Option.bind_some,caseS_l]
theorem srt_inj {α:Type} {l:List (List UInt8×α)} (h:srt l) {i j:Nat} (hi:i<l.length) (hj:j<l.length) (e:l[i].1=l[j].1):i=j:=by
 unfold srt at h
 rw[List.pairwise_iff_getElem] at h
 rcases Nat.lt_trichotomy i j with c | c | c
 ·have:=h i j hi hj c;rw[e,less_irrefl] at this;simp at this
 ·exact c
 ·have:=h j i hj hi c;rw[e,less_irrefl] at this;simp at this
theorem fileText_mem {d:DiskT} (h:diskOk d=true) {f:FileT} (hf:f∈d.1):fileText d f.1=(f.2.1,true):=by
 have hs:=((diskOk_iff d).1 h).2.2.2.2.2
 unfold fileText
 rw[if_neg (by rw[h];simp)]
 rcases fileIx_cases d.1 f.1 with ⟨e,hno⟩ | ⟨i,hi,e,hn⟩
 ·exact absurd rfl (hno f hf)
 ·rw[ix_some e]
  obtain ⟨j,hj,ej⟩:=List.getElem_of_mem hf
  have:i=j:=srt_inj hs hi hj (by rw[hn,ej])
  subst this
  simp only
  rw[getD_lt hi,ej]
theorem fileText_none {d:DiskT} {n:List UInt8} (h:∀f∈d.1,f.1≠n):(fileText d n).2=false:=by
 unfold fileText
 split
 ·rfl
 ·rcases fileIx_cases d.1 n with ⟨e,hno⟩ | ⟨i,hi,e,hn⟩
  ·rw[ix_none e]
  ·exact absurd hn (h _ (List.getElem_mem hi))
def dTrunc (n:List UInt8) (z:Int) (d:DiskT):DiskT×Int:=dstep d (actTrunc n z)
theorem dstep_zero {d:DiskT} {act:List FileT→Int×List FileT} (h:(dstep d act).2=0):diskOk d=true∧(act d.1).1=0∧(dstep d act).1=((act d.1).2,(tick d).2):=by
 unfold dstep at h ⊢
 split at h
 ·simp at h
 rename_i c
 split at h
 ·simp at h
 rename_i c2
 rw[if_neg c,if_neg c2]
 exact ⟨by simpa using c,h,rfl⟩
theorem removeTxt {d:DiskT} {n:List UInt8} (h:(dRemove n d).2=0):(fileText (dRemove n d).1 n).2=false:=by
 obtain ⟨k,ha,hx⟩:=dstep_zero h
 have hx:(dRemove n d).1=_:=hx
 unfold actRemove at ha hx
 rcases fileIx_cases d.1 n with ⟨e,_⟩ | ⟨i,hi,e,hn⟩
 ·rw[ix_none e] at ha;simp at ha
 rw[ix_some e] at hx
 simp only at hx
 apply fileText_none
 rw[hx]
 intro f hf
 have:=remIx_ne hi (diskOk_pw k) f hf
 rw[hn] at this
 exact this
theorem riseE_pw:∀(l:List EntryT) (p:Option (List UInt8)),riseE p l=true→(∀q,p=some q→∀x∈l,Op.bytesLess q x.1=true)∧srt l
 | [],p,_=>⟨fun _ _ x hx=>by simp at hx,List.Pairwise.nil⟩
 | e::l,p,h=>by
  simp only[riseE,Bool.and_eq_true] at h
  obtain ⟨h1,h2⟩:=riseE_pw l (some e.1) h.2.2
  refine ⟨fun q hq x hx=>?_,List.Pairwise.cons (h1 e.1 rfl) h2⟩
  subst hq
  have hqe:Op.bytesLess q e.1=true:=h.2.1
  rcases List.mem_cons.1 hx with c | hx
  ·rw[c];exact hqe
  ·exact less_trans _ _ _ hqe (h1 e.1 rfl x hx)
theorem dirOk_srt {l:List EntryT} (h:dirOk l=true):srt l:=by
 unfold dirOk at h
 simp only[Bool.and_eq_true] at h
 exact (riseE_pw l none h.1).2
theorem dirGet_mem {l:List EntryT} (h:srt l) {e:EntryT} (he:e∈l):dirGet l e.1=(e,true):=by
 unfold dirGet
 have hf:(l.find? fun x=>x.1==e.1)=some e:=by
  induction l with
  | nil=>simp at he
  | cons x l ih=>
   have h2:=List.pairwise_cons.1 h
   rw[List.find?_cons]
   rcases List.mem_cons.1 he with c | he
   ·subst c;simp
   ·have:(x.1==e.1)=false:=by simpa using less_ne (h2.1 e he)
    rw[this]
    exact ih h2.2 he
 rw[hf]
theorem storeOk_ent {s:StoreT} {d:DiskT} (h:storeOk s d=true):∀e∈s.2.1,entOk d s.2.2.1 e=true:=by
 unfold storeOk at h
 simp only[Bool.and_eq_true,List.all_eq_true] at h
 exact h.2.2.2.2.2
theorem getP_mem {s:StoreT} {d:DiskT} (h:storeOk s d=true) {e:EntryT} (he:e∈s.2.1):(getP s d e.1).2=0∧(getP s d e.1).1.1=e.1:=by
 obtain ⟨q1,q2,q3,q4,q5⟩:=storeOk_parts h
 have hs:=dirOk_srt q3
 have k:=storeOk_ent h e he
 unfold entOk at k
 simp only[Bool.and_eq_true,Bool.or_eq_true,beq_iff_eq] at k
 unfold getP
 rw[dirGet_mem hs he]
 simp only[Bool.true_eq_false,if_false]
 rw[if_pos ⟨k.1,k.2.1,k.2.2.1⟩]
 exact ⟨rfl,rfl⟩
theorem dumpL_ok {s:StoreT} {d:DiskT}:∀(l:List EntryT) (acc:List PairT),(∀e∈l,(getP s d e.1).2=0)→dumpL s d l acc=(acc++l.map fun e=>(getP s d e.1).1,0)
 | [],acc,_=>by simp[dumpL]
 | e::r,acc,h=>by
  unfold dumpL
  rw[if_neg (by rw[h e List.mem_cons_self];simp),dumpL_ok r _ fun x hx=>h x (List.mem_cons_of_mem _ hx)]
  simp
theorem dumpP_ok {s:StoreT} {d:DiskT} (h:storeOk s d=true):dumpP s d=(s.2.1.map fun e=>(getP s d e.1).1,0):=by
 unfold dumpP
 rw[dumpL_ok s.2.1 [] fun e he=>(getP_mem h he).1]
 simp
structure StoreI (s:StoreT) (d:DiskT):Prop where
 dk:diskOk d=true
 ids:s.1.2.length≤62
 dir:s.2.1.length≤41
theorem dk_new (n:Int) (h:0≤n∧n≤100000):diskOk (([],n,-1,false):DiskT)=true:=by
 rw[diskOk_iff];exact ⟨h,(show (-1:Int)≤-1∧(-1:Int)≤100000 by decide),(show 0≤130 by decide),h.1,by simp,List.Pairwise.nil⟩
theorem spec_Sweep_new (n:Int) (h:0≤n∧n≤100000):ψ2f.f (([],n,-1,false):DiskT) (0,[])=some (([],n,-1,false),0):=by
 have hk:=dk_new n h
 have hd:=dl_lim (dl_dk hk) (by omega)
 have e1:=lp_up (step:=ψ26.l0) (fun k (_:Unit)=>((([],n,-1,false):DiskT),((0,[]):LiveT),([]:List (List UInt8)),(k:Int))) 0 (fun _ _=>([]:List (List UInt8))) (fun _ _=>True)
  (fun rec k s hk _ ih=>by
   have:k=0:=by omega
   subst this
   simp[ψ26.l0])
  (by decide) 0 () (Nat.le_refl _) trivial
 have e1:lp ψ26.l0 (([],n,-1,false),(0,[]),[],0)=some []:=e1
 have e2:=lp_up (step:=ψ2f.l0) (fun k (_:Unit)=>((([],n,-1,false):DiskT),(([],0,0,false):DiskT),([]:List (List UInt8)),(k:Int))) 0 (fun _ _=>.inl ((([],n,-1,false):DiskT),(([],0,0,false):DiskT))) (fun _ _=>True)
  (fun rec k s hk _ ih=>by
   have:k=0:=by omega
   subst this
   simp[ψ2f.l0])
  (by decide) 0 () (Nat.le_refl _) trivial
 have e2:lp ψ2f.l0 (([],n,-1,false),([],0,0,false),[],0)=some (.inl (([],n,-1,false),([],0,0,false))):=e2
 unfold ψ2f.f ψ26.f
 simp only[spec_DiskOk_eq _ hd,hk,Option.bind_some,Bool.not_true,cond_false,e1,e2,caseS_l]
theorem l8Entry_ok {c:CurT} (h:Cur c):∃e c',ψ3E.f c=some (e,c')∧Cur c':=by
 obtain ⟨k,c1,e1,_,h1⟩:=l5Key_ok h
 obtain ⟨x2,c2,e2,_,_,_,h2⟩:=l1Below_ok h1 4
 obtain ⟨x3,c3,e3,_,_,_,h3⟩:=l1Below_ok h2 90
 obtain ⟨x4,c4,e4,_,_,_,h4⟩:=l1Below_ok h3 30
 obtain ⟨x5,c5,e5,_,_,_,h5⟩:=l1Below_ok h4 9
 unfold ψ3E.f
 simp only[e1,e2,e3,e4,e5,Option.bind_some]
 exact ⟨_,_,rfl,h5⟩
theorem l8Dir_ok {c:CurT} (h:Cur c):∃l c',ψ3D.f c=some (l,c')∧l.length≤41∧Cur c':=by
 obtain ⟨n,c1,e1,a1,b1,_,h1⟩:=l1Below_ok h 7
 have b1:=b1 (by omega)
 obtain ⟨m,rfl⟩:∃m:Nat,n=(m:Int):=⟨n.toNat,by omega⟩
 have key:=down_ok (step:=ψ3D.l0) (fun k (s:CurT×List EntryT)=>(s.1,s.2,(k:Int))) (fun k s=>Cur s.1∧s.2.length+k≤7) (fun b=>Cur b.1∧b.2.length≤7)
  (fun rec s hi=>⟨(s.1,s.2),by simp[ψ3D.l0],hi.1,by simpa using hi.2⟩)
  (fun rec k s hi=>by
   obtain ⟨hi1,hi2⟩:=hi
   obtain ⟨e,c2,f1,h2⟩:=l8Entry_ok hi1
   have e0:((k+1:Nat):Int) > 0:=by omega
   have hw:=down1 (show k<2 ^ 60 by omega)
   have hdk:=dropK_len s.2 e.1
   refine ⟨(c2,insB (dropK s.2 e.1) e),⟨h2,?_⟩,?_⟩
   ·simp only;rw[insB_len];omega
   ·simp only[ψ3D.l0,e0,decide_true,cond_true,f1,Option.bind_some,spec_DirPut_eq s.2 e (by omega),hw])
  m (c1,[]) ⟨h1,by simp;omega⟩ (by omega)
 obtain ⟨⟨c2,l⟩,e2,h2,hl⟩:=key
 have e2:lp ψ3D.l0 (c1,[],(m:Int))=some (c2,l):=e2
 unfold ψ3D.f
 simp only[e1,e2,Option.bind_some]
 rcases Nat.eq_zero_or_pos l.length with h0 | h0
 ·have:decide ((l.length:Int) > 0)=false:=by rw[h0];rfl
  simp only[this,cond_false]
  exact ⟨_,_,rfl,by simp only at hl;omega,h2⟩
 have:decide ((l.length:Int) > 0)=true:=by simp;omega
 obtain ⟨o,c3,e3,h3⟩:=l1Once_ok h2 8
 simp only[this,cond_true,e3,Option.bind_some]
 simp only at hl
 cases o
 ·simp only[cond_false]
  exact ⟨_,_,rfl,by omega,h3⟩
 obtain ⟨i,c4,e4,a4,b4,_,h4⟩:=l1Below_ok h3 (l.length:Int)
 have b4:=b4 (by omega)
 obtain ⟨j,rfl⟩:∃j:Nat,i=(j:Int):=⟨i.toNat,by omega⟩
 have hj:j<l.length:=by omega
 obtain ⟨x,c5,e5,_,_,_,h5⟩:=l1Below_ok h4 4
 obtain ⟨t,c6,e6,_,h6⟩:=l1Pick_ok h5 ([[],[122,122,122,122,122,122,122,122,122],[97]]:List (List UInt8)) (by decide)
 obtain ⟨u,c7,e7,_,h7⟩:=l1PickInt_ok h5 [0,210,211] (by decide)
 obtain ⟨v,c8,e8,_,h8⟩:=l1PickInt_ok h5 [0,1000001] (by decide)
 simp only[cond_true,e4,e5,e6,e7,e8,Option.bind_some,inB_nat,hj,decide_true]
 cases x==0
 ·cases x==1
  ·cases x==2
   ·exact ⟨_,_,rfl,by simp only[List.length_set];omega,h8⟩
   ·exact ⟨_,_,rfl,by simp only[List.length_set];omega,h7⟩
  ·exact ⟨_,_,rfl,by simp only[List.length_set];omega,h5⟩
 ·exact ⟨_,_,rfl,by simp only[List.length_set];omega,h6⟩
theorem fileText_eq_none {d:DiskT} {n:List UInt8} (h:∀f∈d.1,f.1≠n):fileText d n=([],false):=by
 unfold fileText
 split
 ·rfl
 ·rcases fileIx_cases d.1 n with ⟨e,hno⟩ | ⟨i,hi,e,hn⟩
  ·rw[ix_none e]
  ·exact absurd hn (h _ (List.getElem_mem hi))
theorem ft_same {d e:DiskT} (hd:diskOk d=true) (he:diskOk e=true) (n:List UInt8) (hm:∀t,(∃s,((n,t,s):FileT)∈d.1)↔∃s,((n,t,s):FileT)∈e.1):fileText e n=fileText d n:=by
 by_cases c:∃t s,((n,t,s):FileT)∈d.1
 ·obtain ⟨t,s,hs⟩:=c
  obtain ⟨s',hs'⟩:=(hm t).1 ⟨s,hs⟩
  have e1:=fileText_mem hd hs
  have e2:=fileText_mem he hs'
  exact e2.trans e1.symm
 ·have h1:∀f∈d.1,f.1≠n:=fun f hf e=>c ⟨f.2.1,f.2.2,by rw[←e];exact hf⟩
  have h2:∀f∈e.1,f.1≠n:=fun f hf e'=>by
   obtain ⟨s,hs⟩:=(hm f.2.1).2 ⟨f.2.2,by rw[←e'];exact hf⟩
   exact c ⟨_,_,hs⟩
  rw[fileText_eq_none h1,fileText_eq_none h2]
theorem ft_files {d:DiskT} {act:List FileT→Int×List FileT} (h:diskOk d=true) (hk:diskOk (dstep d act).1=true) (n:List UInt8) (hm:∀t,(∃s,((n,t,s):FileT)∈d.1)↔∃s,((n,t,s):FileT)∈(act d.1).2):fileText (dstep d act).1 n=fileText d n:=by
 refine ft_same h hk n fun t=>?_
 have hx:(dstep d act).1.1=d.1∨(dstep d act).1.1=(act d.1).2:=by
  unfold dstep
  split
  ·exact .inl rfl
  ·split
   ·exact .inl rfl
   ·exact .inr rfl
 rcases hx with e | e
 ·rw[e]
 ·rw[e];exact hm t
theorem mem_set_ne {l:List FileT} {i:Nat} (hi:i<l.length) {f:FileT} (hf:f.1=l[i].1) {x:FileT} (hx:x.1≠l[i].1):x∈l.set i f↔x∈l:=by
 constructor
 ·intro h
  rcases List.mem_or_eq_of_mem_set h with h | e
  ·exact h
  ·rw[e] at hx;exact absurd hf hx
 ·intro h
  obtain ⟨j,hj,e⟩:=List.getElem_of_mem h
  have hij:i≠j:=fun c=>by subst c;rw[e] at hx;exact hx rfl
  exact List.mem_iff_getElem.2 ⟨j,by simpa using hj,by rw[List.getElem_set,if_neg hij];exact e⟩
theorem mem_remIx_ne {l:List FileT} {i:Nat} (hi:i<l.length) {x:FileT} (hx:x.1≠l[i].1):x∈remIx l i↔x∈l:=by
 constructor
 ·intro h;exact (remIx_sub l i).subset h
 ·intro h
  rw[remIx_split hi] at h
  unfold remIx
  rcases List.mem_append.1 h with h | h
  ·exact List.mem_append_left _ h
  ·rcases List.mem_cons.1 h with e | h
   ·rw[e] at hx;exact absurd rfl hx
   ·exact List.mem_append_right _ h
theorem ft_Remove {d:DiskT} (h:diskOk d=true) {m n:List UInt8} (hne:n≠m):fileText (dRemove m d).1 n=fileText d n:=by
 refine ft_files h (dk_Remove h m) n fun t=>?_
 unfold actRemove
 rcases fileIx_cases d.1 m with ⟨e,_⟩ | ⟨i,hi,e,hn⟩
 ·rw[ix_none e]
 ·rw[ix_some e]
  simp only
  constructor
  ·rintro ⟨s,hs⟩;exact ⟨s,(mem_remIx_ne hi (by rw[hn];exact hne)).2 hs⟩
  ·rintro ⟨s,hs⟩;exact ⟨s,(mem_remIx_ne hi (by rw[hn];exact hne)).1 hs⟩
theorem ft_Gone {d:DiskT} (h:diskOk d=true) {m n:List UInt8} (hne:n≠m):fileText (dGone m d).1 n=fileText d n:=by
 unfold dGone;split
 ·exact ft_Remove h hne
 ·rfl
theorem ft_Create {d:DiskT} (h:diskOk d=true) {m n:List UInt8} (hne:n≠m):fileText (dCreate m d).1 n=fileText d n:=by
 refine ft_files h (dk_Create h m) n fun t=>?_
 unfold actCreate
 split
 ·exact Iff.rfl
 split
 ·exact Iff.rfl
 split
 ·exact Iff.rfl
 ·constructor
  ·rintro ⟨s,hs⟩;exact ⟨s,(mem_insB _ _ _).2 (.inr hs)⟩
  ·rintro ⟨s,hs⟩
   rcases (mem_insB _ _ _).1 hs with e | hs
   ·exact absurd (congrArg (·.1) e) hne
   ·exact ⟨s,hs⟩
theorem ft_Append {d:DiskT} (h:diskOk d=true) {m n t0:List UInt8} (hne:n≠m):fileText (dAppend m t0 d).1 n=fileText d n:=by
 refine ft_files h (dk_Append h m t0) n fun t=>?_
 unfold actAppend
 rcases fileIx_cases d.1 m with ⟨e,_⟩ | ⟨i,hi,e,hn⟩
 ·rw[ix_none e]
 ·rw[ix_some e]
  simp only
  split
  ·exact Iff.rfl
  ·rw[getD_lt hi]
   constructor
   ·rintro ⟨s,hs⟩;exact ⟨s,(mem_set_ne (f:=(d.1[i].1,d.1[i].2.1++t0,d.1[i].2.2)) hi rfl (by rw[hn];exact hne)).2 hs⟩
   ·rintro ⟨s,hs⟩;exact ⟨s,(mem_set_ne (f:=(d.1[i].1,d.1[i].2.1++t0,d.1[i].2.2)) hi rfl (by rw[hn];exact hne)).1 hs⟩
theorem ft_Sync {d:DiskT} (h:diskOk d=true) (m n:List UInt8):fileText (dSync m d).1 n=fileText d n:=by
 refine ft_files h (dk_Sync h m) n fun t=>?_
 unfold actSync
 rcases fileIx_cases d.1 m with ⟨e,_⟩ | ⟨i,hi,e,hn⟩
 ·rw[ix_none e]
 ·rw[ix_some e]
  simp only
  rw[getD_lt hi]
  by_cases hne:n=m
  ·subst hne
   have hs:=((diskOk_iff d).1 h).2.2.2.2.2
   have uniq:∀t s,((n,t,s):FileT)∈d.1→d.1[i]=(n,t,s):=fun t s hx=>by
    obtain ⟨j,hj,ej⟩:=List.getElem_of_mem hx
    have:i=j:=srt_inj hs hi hj (by rw[hn,ej])
    subst this;exact ej
   constructor
   ·rintro ⟨s,hx⟩
    refine ⟨(d.1[i].2.1.length:Int),List.mem_iff_getElem.2 ⟨i,by simpa using hi,?_⟩⟩
    rw[List.getElem_set_self,uniq t s hx]
   ·rintro ⟨s,hx⟩
    rcases List.mem_or_eq_of_mem_set hx with hx | e
    ·exact ⟨s,hx⟩
    ·have e1:t=d.1[i].2.1:=congrArg (·.2.1) e
     refine ⟨d.1[i].2.2,?_⟩
     rw[e1,←hn];exact List.getElem_mem hi
  ·constructor
   ·rintro ⟨s,hs⟩;exact ⟨s,(mem_set_ne (f:=(d.1[i].1,d.1[i].2.1,(d.1[i].2.1.length:Int))) hi rfl (by rw[hn];exact hne)).2 hs⟩
   ·rintro ⟨s,hs⟩;exact ⟨s,(mem_set_ne (f:=(d.1[i].1,d.1[i].2.1,(d.1[i].2.1.length:Int))) hi rfl (by rw[hn];exact hne)).1 hs⟩
theorem mem_dropF_ne {l:List FileT} {b:List UInt8} {x:FileT} (hx:x.1≠b):x∈dropF l b↔x∈l:=by
 unfold dropF
 rcases fileIx_cases l b with ⟨e,_⟩ | ⟨i,hi,e,hn⟩
 ·rw[ix_none e]
 ·rw[ix_some e];exact mem_remIx_ne hi (by rw[hn];exact hx)
theorem ft_Rename {d:DiskT} (h:diskOk d=true) {a b n:List UInt8} (h1:n≠a) (h2:n≠b):fileText (dRename a b d).1 n=fileText d n:=by
 refine ft_files h (dk_Rename h a b) n fun t=>?_
 unfold actRename
 split
 ·exact Iff.rfl
 rcases fileIx_cases d.1 a with ⟨e,_⟩ | ⟨i,hi,e,hn⟩
 ·rw[ix_none e]
 ·rw[ix_some e]
  simp only
  split
  ·exact Iff.rfl
  ·constructor
   ·rintro ⟨s,hs⟩;exact ⟨s,(mem_insB _ _ _).2 (.inr ((mem_dropF_ne h2).2 ((mem_remIx_ne hi (by rw[hn];exact h1)).2 hs)))⟩
   ·rintro ⟨s,hs⟩
    rcases (mem_insB _ _ _).1 hs with e | hs
    ·exact absurd (congrArg (·.1) e) h2
    ·exact ⟨s,(mem_remIx_ne hi (by rw[hn];exact h1)).1 ((mem_dropF_ne h2).1 hs)⟩
theorem ft_sstep {w:WorkT} {op:DiskT→DiskT×Int} {n:List UInt8} (ho:fileText (op w.1).1 n=fileText w.1 n):fileText (sstep op w).1 n=fileText w.1 n:=by
 unfold sstep;split
 ·exact ho
 ·rfl
theorem ft_sNew {w:WorkT} (h:diskOk w.1=true) {m n:List UInt8} (hne:n≠m):fileText (sNew m w).1 n=fileText w.1 n:=by
 have h1:diskOk (sstep (dGone m) w).1=true:=dk_sstep (op:=dGone m) h fun k=>dk_Gone k m
 unfold sNew
 rw[ft_sstep (op:=dCreate m) (ft_Create h1 hne),ft_sstep (op:=dGone m) (ft_Gone h hne)]
theorem ft_sFile {w:WorkT} (h:diskOk w.1=true) {m n t:List UInt8} (hne:n≠m):fileText (sFile m t w).1 n=fileText w.1 n:=by
 have h2:diskOk (sNew m w).1=true:=dk_sNew h m
 have h3:diskOk (sstep (dAppend m t) (sNew m w)).1=true:=dk_sstep (op:=dAppend m t) h2 fun k=>dk_Append k m t
 show fileText (sstep (dSync m) (sstep (dAppend m t) (sNew m w))).1 n=_
 rw[ft_sstep (op:=dSync m) (ft_Sync h3 m n),ft_sstep (op:=dAppend m t) (ft_Append h2 hne),ft_sNew h hne]
abbrev tempN:List UInt8:=[116,101,109,112]
abbrev liveN:List UInt8:=[108,105,118,101]
theorem ft_sPut {w:WorkT} (h:diskOk w.1=true) (v:LiveT) {n:List UInt8} (h1:n≠tempN) (h2:n≠liveN):fileText (sPut v w).1 n=fileText w.1 n:=by
 have h3:=dk_sFile h tempN (showLive v)
 unfold sPut
 rw[ft_sstep (op:=dRename tempN liveN) (ft_Rename h3 h1 h2),ft_sFile h h1]
theorem ft_sDrop {n:List UInt8}:∀(names:List (List UInt8)) {w:WorkT},diskOk w.1=true→(∀m∈names,n≠m)→fileText (sDrop names w).1 n=fileText w.1 n
 | [],w,_,_=>rfl
 | m::l,w,h,hne=>by
  have h1:diskOk (sstep (dGone m) w).1=true:=dk_sstep (op:=dGone m) h fun k=>dk_Gone k m
  show fileText (sDrop l (sstep (dGone m) w)).1 n=_
  rw[ft_sDrop l h1 fun x hx=>hne x (List.mem_cons_of_mem _ hx),ft_sstep (op:=dGone m) (ft_Gone h (hne m List.mem_cons_self))]
theorem ft_cleanW {names:List (List UInt8)} {w:WorkT} {n:List UInt8} (h:diskOk w.1=true) (hne:∀m∈names,n≠m):fileText (cleanW names w).1 n=fileText w.1 n:=by
 have:=ft_sDrop (n:=n) names (w:=(w.1,0)) h hne
 unfold cleanW;split
 ·split
  ·exact this
  ·exact this
 ·rfl
theorem createTxt {d:DiskT} {n:List UInt8} (h:(dCreate n d).2=0):fileText (dCreate n d).1 n=([],true):=by
 obtain ⟨k,ha,hx⟩:=dstep_zero h
 have hk:diskOk (dCreate n d).1=true:=dk_Create k n
 have hx:(dCreate n d).1=_:=hx
 unfold actCreate at ha hx
 split at ha
 ·simp at ha
 rename_i c1
 rw[if_neg c1] at hx
 split at ha
 ·simp at ha
 rename_i c2
 rw[if_neg c2] at hx
 split at ha
 ·simp at ha
 rename_i c3
 rw[if_neg c3] at hx
 have hm:((n,[],0):FileT)∈(dCreate n d).1.1:=by rw[hx];exact (mem_insB _ _ _).2 (.inl rfl)
 exact fileText_mem hk hm
theorem digs_inj:∀(k a b:Nat),a<k→Lib.decDigits a=Lib.decDigits b→a=b
 | 0,a,b,h,_=>by omega
 | k+1,a,b,h,e=>by
  have last:∀n:Nat,(Lib.decDigits n).getLast?=some (UInt8.ofNat (48+n % 10)):=fun n=>by
   by_cases c:n<10
   ·rw[Lib.decDigits_one c,Nat.mod_eq_of_lt c];rfl
   ·have:=digs_step (n:=n) (by omega)
    unfold digs at this
    rw[if_neg (by omega),if_neg (by omega)] at this
    rw[this];simp
  have hm:a % 10=b % 10:=by
   have h1:=last a
   rw[e,last b] at h1
   have h2:UInt8.ofNat (48+b % 10)=UInt8.ofNat (48+a % 10):=Option.some.inj h1
   have h3:=congrArg UInt8.toNat h2
   simp only[UInt8.toNat_ofNat'] at h3
   omega
  by_cases ca:a<10
  ·by_cases cb:b<10
   ·omega
   ·exfalso
    have:=digs_step (n:=b) (by omega)
    unfold digs at this
    rw[if_neg (by omega),if_neg (by omega)] at this
    rw[this,Lib.decDigits_one ca] at e
    have hl:=congrArg List.length e
    have h0:0<(Lib.decDigits (b / 10)).length:=by
     cases hd:Lib.decDigits (b / 10) with
     | nil=>have:=last (b / 10);rw[hd] at this;simp at this
     | cons x l=>simp
    simp only[List.length_append,List.length_cons,List.length_nil] at hl
    omega
  ·by_cases cb:b<10
   ·exfalso
    have:=digs_step (n:=a) (by omega)
    unfold digs at this
    rw[if_neg (by omega),if_neg (by omega)] at this
    rw[this,Lib.decDigits_one cb] at e
    have hl:=congrArg List.length e
    have h0:0<(Lib.decDigits (a / 10)).length:=by
     cases hd:Lib.decDigits (a / 10) with
     | nil=>have:=last (a / 10);rw[hd] at this;simp at this
     | cons x l=>simp
    simp only[List.length_append,List.length_cons,List.length_nil] at hl
    omega
   ·have e1:=digs_step (n:=a) (by omega)
    have e2:=digs_step (n:=b) (by omega)
    unfold digs at e1 e2
    rw[if_neg (by omega),if_neg (by omega)] at e1 e2
    rw[e1,e2] at e
    have:=(List.append_inj' e rfl).1
    have:=digs_inj k (a / 10) (b / 10) (by omega) this
    omega
theorem segName_inj {i j:Int} (hi:1≤i∧i≤100000) (hj:1≤j∧j≤100000) (h:segName i=segName j):i=j:=by
 unfold segName nameN at h
 rw[if_pos hi,if_pos hj] at h
 have:=digs_inj (i.toNat+1) i.toNat j.toNat (by omega) (List.append_cancel_left h)
 omega
theorem segName_temp (i:Int):segName i≠tempN:=by
 unfold segName nameN
 split
 ·intro h;have:=congrArg List.head? h;simp at this
 ·simp
theorem segName_live (i:Int):segName i≠liveN:=by
 unfold segName nameN
 split
 ·intro h;have:=congrArg List.head? h;simp at this
 ·simp
theorem segName_hint (i j:Int) (hi:1≤i∧i≤100000):segName i≠hintName j:=by
 unfold segName hintName nameN
 rw[if_pos hi]
 split
 ·intro h;have:=congrArg List.head? h;simp at this
 ·simp
theorem ft_sApp {m n:List UInt8} (hne:n≠m):∀(recs:List RecT) {w:WorkT},diskOk w.1=true→fileText (sApp m recs w).1 n=fileText w.1 n
 | [],w,_=>rfl
 | r::l,w,h=>by
  have h1:diskOk (sstep (dAppend m (frame (showRec r))) w).1=true:=dk_sstep (op:=dAppend m _) h fun k=>dk_Append k m _
  show fileText (sApp m l (sstep _ w)).1 n=_
  rw[ft_sApp hne l h1,ft_sstep (op:=dAppend m _) (ft_Append h hne)]
theorem rotP_ft {s:StoreT} {d:DiskT} (h:diskOk d=true):((rotP s d).1.1.1=s.1.1∧∀n,fileText (rotP s d).2.1 n=fileText d n) ∨
  ((rotP s d).1.1.1=s.1.1+1∧s.1.1<100000∧∀n,n≠segName s.1.1→n≠tempN→n≠liveN→fileText (rotP s d).2.1 n=fileText d n):=by
 have hs:=dk_Sync h (actN s)
 have hg:=dk_Gone hs (segName s.1.1)
 have hc:diskOk (sstep (dCreate (segName s.1.1)) (dGone (segName s.1.1) (dSync (actN s) d).1)).1=true:=dk_sstep (op:=dCreate _) hg fun k=>dk_Create k _
 have f1:∀n,fileText (dSync (actN s) d).1 n=fileText d n:=fun n=>ft_Sync h _ n
 have f2:∀n,n≠segName s.1.1→fileText (sstep (dCreate (segName s.1.1)) (dGone (segName s.1.1) (dSync (actN s) d).1)).1 n=fileText d n:=fun n hn=>by
  rw[ft_sstep (op:=dCreate _) (ft_Create hg hn),ft_Gone hs hn,f1]
 unfold rotP
 split
 ·exact .inl ⟨rfl,fun _=>rfl⟩
 rename_i c1
 simp only[not_or,Nat.not_le,Int.not_le] at c1
 split
 ·exact .inl ⟨rfl,f1⟩
 simp only
 split
 ·exact .inr ⟨rfl,c1.2,fun n h1 _ _=>f2 n h1⟩
 have hp:=dk_sPut (w:=((sstep (dCreate (segName s.1.1)) (dGone (segName s.1.1) (dSync (actN s) d).1)).1,0)) hc (s.1.1+1,s.1.2++[s.1.1])
 have f3:∀n,n≠segName s.1.1→n≠tempN→n≠liveN→fileText (sPut (s.1.1+1,s.1.2++[s.1.1]) ((sstep (dCreate (segName s.1.1)) (dGone (segName s.1.1) (dSync (actN s) d).1)).1,0)).1 n=fileText d n:=fun n h1 h2 h3=>by
  rw[ft_sPut (w:=((sstep (dCreate (segName s.1.1)) (dGone (segName s.1.1) (dSync (actN s) d).1)).1,0)) hc _ h2 h3]
  exact f2 n h1
 split
 ·refine .inr ⟨rfl,c1.2,fun n h1 h2 h3=>?_⟩
  show fileText (cleanW _ _).1 n=_
  rw[ft_cleanW (w:=toldW _) hp (fun m hm=>by
   simp only[List.mem_cons,List.not_mem_nil,or_false] at hm
   rcases hm with rfl | rfl
   ·exact h2
   ·exact h1)]
  exact f3 n h1 h2 h3
 ·exact .inr ⟨rfl,c1.2,f3⟩
structure NextN (s:StoreT) (d:DiskT):Prop where
 ent:∀e∈s.2.1,e.2.1<s.1.1
 fil:∀id,s.1.1≤id→1≤id∧id≤100000→(fileText d (segName id)).2=false
theorem live_last {v:LiveT} (h:liveOk v=true):1≤lastI v.2∧lastI v.2<v.1∧lastI v.2≤100000:=by
 obtain ⟨k1,k2,k3,k4⟩:=(liveOk_iff v).1 h
 rw[w64_id (by omega) (by omega)] at k1
 have hm:lastI v.2∈v.2:=by
  unfold lastI
  rw[getD_lt (show v.2.length - 1<v.2.length by omega)]
  exact List.getElem_mem _
 have:=idsOk_mem _ _ k1 _ hm
 omega
theorem rotP_next {s:StoreT} {d:DiskT} (h:diskOk d=true) (hv:liveOk s.1=true) (hn:NextN s d):NextN (rotP s d).1 (rotP s d).2.1∧s.1.1≤(rotP s d).1.1.1:=by
 obtain ⟨_,_,r3,_,_,_⟩:=rotP_ok h hv
 obtain ⟨k1,k2,k3,k4⟩:=(liveOk_iff s.1).1 hv
 rcases rotP_ft (s:=s) h with ⟨e1,e2⟩ | ⟨e1,e3,e2⟩
 ·refine ⟨⟨fun e he=>?_,fun id h1 h2=>?_⟩,by omega⟩
  ·rw[r3] at he;rw[e1];exact hn.ent e he
  ·rw[e1] at h1;rw[e2];exact hn.fil id h1 h2
 ·refine ⟨⟨fun e he=>?_,fun id h1 h2=>?_⟩,by omega⟩
  ·rw[r3] at he;rw[e1];have:=hn.ent e he;omega
  ·rw[e1] at h1
   rw[e2 (segName id) (fun hh=>by have:=segName_inj h2 (by omega) hh;omega) (segName_temp id) (segName_live id)]
   exact hn.fil id (by omega) h2
theorem addP_next {s:StoreT} {d:DiskT} {k:Int} (h:Good2 k s d) (hn:NextN s d) (r:RecT):NextN (addP s d r).1 (addP s d r).2.1∧s.1.1≤(addP s d r).1.1.1∧((addP s d r).2.2.1=0→(addP s d r).2.2.2.2.1<(addP s d r).1.1.1):=by
 have hR:NextN (addR s d (frame (showRec r))).1 (addR s d (frame (showRec r))).2.1∧s.1.1≤(addR s d (frame (showRec r))).1.1.1:=by
  unfold addR;split
  ·exact rotP_next h.dk h.lv hn
  ·exact ⟨hn,Int.le_refl _⟩
 obtain ⟨q1,q2,q3,q4⟩:=addR_ok h (frame (showRec r))
 unfold addP
 generalize addR s d (frame (showRec r))=R at *
 simp only
 split
 ·rename_i c;exact ⟨hR.1,hR.2,fun e=>absurd e c⟩
 rename_i c
 have c:R.2.2=0:=by simpa using c
 have hl:=live_last (q4 c).lv
 have hA:NextN R.1 (dAppend (actN R.1) (frame (showRec r)) R.2.1).1:=⟨hR.1.ent,fun id h1 h2=>by
  rw[ft_Append q1 (fun hh=>by
   have:=segName_inj h2 ⟨hl.1,hl.2.2⟩ hh
   omega)]
  exact hR.1.fil id h1 h2⟩
 split
 ·rename_i c2
  exact ⟨hA,hR.2,fun e=>absurd ((told_zero _).1 e) c2⟩
 ·exact ⟨⟨hA.ent,hA.fil⟩,hR.2,fun _=>hl.2.1⟩
theorem commitG_next:∀(rs:List RecT) (s:StoreT) (d:DiskT) (k:Int),Good2 k s d→NextN s d→NextN (commitG rs s d).1 (commitG rs s d).2.1∧s.1.1≤(commitG rs s d).1.1.1∧((commitG rs s d).2.2.1=0→∀e∈(commitG rs s d).2.2.2,e.2.1<(commitG rs s d).1.1.1)
 | [],s,d,k,h,hn=>⟨hn,Int.le_refl _,fun _ e he=>by simp[commitG] at he⟩
 | r::rs,s,d,k,h,hn=>by
  obtain ⟨q1,q2,q3,q4⟩:=addP_ok h r
  obtain ⟨n1,n2,n3⟩:=addP_next h hn r
  unfold commitG
  split
  ·rename_i c
   exact ⟨n1,n2,fun e=>absurd e c⟩
  ·rename_i c
   have c:(addP s d r).2.2.1=0:=by simpa using c
   obtain ⟨m1,m2,m3⟩:=commitG_next rs _ _ _ (q4 c) n1
   refine ⟨m1,by show s.1.1≤(commitG rs _ _).1.1.1;omega,fun e x hx=>?_⟩
   show x.2.1<(commitG rs _ _).1.1.1
   rcases List.mem_cons.1 hx with z | hx
   ·rw[z];have:=n3 c;omega
   ·exact m3 e x hx
theorem mem_dirW:∀(l:List (PutT×EntryT)) (dir:List EntryT) (x:EntryT),x∈dirW dir l→x∈dir∨∃p∈l,x=p.2
 | [],dir,x,h=>.inl h
 | p::l,dir,x,h=>by
  rcases mem_dirW l (dirStep dir p) x h with h | ⟨q,hq,e⟩
  ·unfold dirStep at h
   split at h
   ·exact .inl ((mem_dropK _ _ _).1 h).1
   ·rcases (mem_insB _ _ _).1 h with e | h
    ·exact .inr ⟨p,List.mem_cons_self,e⟩
    ·exact .inl ((mem_dropK _ _ _).1 h).1
  ·exact .inr ⟨q,List.mem_cons_of_mem _ hq,e⟩
theorem commitP_next {s:StoreT} {d:DiskT} {k:Int} (h:Good2 k s d) (hn:NextN s d) (l:List PutT):NextN (commitP s d l).1 (commitP s d l).2.1:=by
 have h':Good2 k (s.1,s.2.1,s.2.2.1+1,s.2.2.2) d:=⟨h.dk,h.lv,h.s0,h.s1⟩
 have hn':NextN (s.1,s.2.1,s.2.2.1+1,s.2.2.2) d:=⟨hn.ent,hn.fil⟩
 obtain ⟨m1,m2,m3⟩:=commitG_next (recsOf s.2.2.1 l) _ _ _ h' hn'
 obtain ⟨p1,p2,p3,p4⟩:=commitG_ok (recsOf s.2.2.1 l) _ _ _ h'
 unfold commitP
 generalize commitG (recsOf s.2.2.1 l) (s.1,s.2.1,s.2.2.1+1,s.2.2.2) d=g at *
 simp only
 split
 ·exact m1
 rename_i c
 have c:g.2.2.1=0:=by simpa using c
 have hA:NextN g.1 (dSync (actN g.1) g.2.1).1:=⟨m1.ent,fun id h1 h2=>by rw[ft_Sync p1];exact m1.fil id h1 h2⟩
 split
 ·exact hA
 ·refine ⟨fun e he=>?_,hA.fil⟩
  rcases mem_dirW _ _ _ he with he | ⟨p,hp,rfl⟩
  ·exact m1.ent e he
  ·exact m3 c _ (List.of_mem_zip hp).2
theorem entsG_seg (m:Int):∀(recs:List RecT) (a:Int),∀e∈entsG m a recs,e.2.1=m
 | [],a,e,he=>by simp[entsG] at he
 | r::rs,a,e,he=>by
  unfold entsG at he
  split at he
  ·rcases List.mem_cons.1 he with z | he
   ·rw[z]
   ·exact entsG_seg m rs _ e he
  ·exact entsG_seg m rs _ e he
theorem ft_sOld {n:List UInt8}:∀(ids:List Int) {w:WorkT},diskOk w.1=true→(∀id∈ids,n≠segName id∧n≠hintName id)→fileText (sOld ids w).1 n=fileText w.1 n
 | [],w,_,_=>rfl
 | i::l,w,h,hne=>by
  have h1:=dk_sDrop [segName i,hintName i] h
  show fileText (sOld l (sDrop [segName i,hintName i] w)).1 n=_
  rw[ft_sOld l h1 fun x hx=>hne x (List.mem_cons_of_mem _ hx),ft_sDrop _ h (fun m hm=>by
   simp only[List.mem_cons,List.not_mem_nil,or_false] at hm
   have:=hne i List.mem_cons_self
   rcases hm with rfl | rfl
   ·exact this.1
   ·exact this.2)]
theorem mergeP_next {s:StoreT} {d:DiskT} (h:diskOk d=true) (hv:liveOk s.1=true) (h2:s.1.1+2≤100000) (hn:NextN s d) (l:List PairT):NextN (mergeP s d l).1 (mergeP s d l).2.1:=by
 obtain ⟨k1,k2,k3,k4⟩:=(liveOk_iff s.1).1 hv
 rw[w64_id (by omega) (by omega)] at k1
 have hids:=idsOk_mem _ _ k1
 have g0:=dk_sNew (w:=(d,0)) h (segName s.1.1)
 have g0a:=dk_sApp (segName s.1.1) (keepsOf l (s.2.2.1 - 1)) g0
 have g1:=dk_sWM s.1.1 (keepsOf l (s.2.2.1 - 1)) (w:=(d,0)) h
 have g2:=dk_sNew g1 (segName (s.1.1+1))
 have f1:∀n,n≠segName s.1.1→n≠segName (s.1.1+1)→fileText (sNew (segName (s.1.1+1)) (sWM s.1.1 (keepsOf l (s.2.2.1 - 1)) (d,0))).1 n=fileText d n:=fun n q1 q2=>by
  rw[ft_sNew g1 q2]
  unfold sWM
  rw[ft_sstep (op:=dSync _) (ft_Sync g0a _ n),ft_sApp q1 _ g0,ft_sNew (w:=(d,0)) h q1]
 unfold mergeP
 simp only
 generalize sNew (segName (s.1.1+1)) (sWM s.1.1 (keepsOf l (s.2.2.1 - 1)) (d,0))=w1 at *
 have g3:diskOk (sHint s.1.1 w1).1=true:=by
  unfold sHint;split
  ·exact g2
  ·exact dk_hintStep _ g2
 have f2:∀n,n≠hintName s.1.1→fileText (sHint s.1.1 w1).1 n=fileText w1.1 n:=fun n q=>by
  unfold sHint
  split
  ·rfl
  ·unfold hintStep
   simp only
   have hf:=dk_sFile (w:=(w1.1,0)) g2 (hintName s.1.1) (showHint (hintOf s.1.1 (fileText w1.1 (segName s.1.1)).1).1)
   split
   ·rw[ft_Gone hf q,ft_sFile (w:=(w1.1,0)) g2 q]
   ·rw[ft_sFile (w:=(w1.1,0)) g2 q]
 generalize sHint s.1.1 w1=w2 at *
 have g5:diskOk (if w2.2=0 then toldW (sPut (s.1.1+2,[s.1.1,s.1.1+1]) w2) else toldW w2).1=true:=by
  split
  ·exact dk_sPut g3 _
  ·exact g3
 have f3:∀n,n≠tempN→n≠liveN→fileText (if w2.2=0 then toldW (sPut (s.1.1+2,[s.1.1,s.1.1+1]) w2) else toldW w2).1 n=fileText w2.1 n:=fun n q1 q2=>by
  split
  ·exact ft_sPut g3 _ q1 q2
  ·rfl
 generalize (if w2.2=0 then toldW (sPut (s.1.1+2,[s.1.1,s.1.1+1]) w2) else toldW w2)=w3 at *
 have f4:∀id,s.1.1+2≤id→1≤id∧id≤100000→(fileText w3.1 (segName id)).2=false:=fun id q1 q2=>by
  rw[f3 _ (segName_temp id) (segName_live id),f2 _ (segName_hint id _ q2),f1 _ (fun hh=>by have:=segName_inj q2 (by omega) hh;omega) (fun hh=>by have:=segName_inj q2 (by omega) hh;omega)]
  exact hn.fil id (by omega) q2
 split
 ·refine ⟨fun e he=>?_,fun id q1 q2=>?_⟩
  ·have:=hn.ent e he;show e.2.1<s.1.1+2;omega
  ·rw[ft_cleanW g5 (fun m hm=>by
    unfold mNames at hm
    simp only[List.mem_cons,List.not_mem_nil,or_false] at hm
    have q1:s.1.1+2≤id:=q1
    rcases hm with rfl | rfl | rfl | rfl
    ·exact segName_temp id
    ·exact fun hh=>by have:=segName_inj q2 (by omega) hh;omega
    ·exact fun hh=>by have:=segName_inj q2 (by omega) hh;omega
    ·exact segName_hint id _ q2)]
   exact f4 id q1 q2
 ·refine ⟨fun e he=>?_,fun id q1 q2=>?_⟩
  ·have:=entsG_seg _ _ _ e he;show e.2.1<s.1.1+2;omega
  ·have q1:s.1.1+2≤id:=q1
   show (fileText (sOld s.1.2 (w3.1,0)).1 (segName id)).2=false
   rw[ft_sOld s.1.2 (w:=(w3.1,0)) g5 (fun i hi=>⟨fun hh=>by
    have:=hids i hi
    have:=segName_inj q2 (by omega) hh;omega,segName_hint id _ q2⟩)]
   exact f4 id q1 q2
def StoreN (s:StoreT) (d:DiskT):Prop:=s.1.2≠[]→NextN s d
theorem live_ne {v:LiveT} (h:liveOk v=true):v.2≠[]:=fun e=>by
 have:=((liveOk_iff v).1 h).2.2.1
 rw[e] at this;simp at this
theorem spec_Merge_inv2 {s:StoreT} {d:DiskT} (h:StoreI s d) (hn:StoreN s d):∃s' d' c,ψ23.f s d=some (s',d',c)∧StoreI s' d'∧StoreN s' d':=by
 have hl:=dl_dk h.dk
 have hd:=dl_lim hl (by omega)
 have hu:usedN d.1<1000000000:=by have:=hl.2.1;omega
 have h1:=h.ids
 have h2:=h.dir
 have h3:=hl.1
 unfold ψ23.f
 simp only[spec_StoreOk_eq s d hd hu (show s.1.2.length<1000000000 by omega) (show s.2.1.length<1000000000 by omega),spec_l12Copy_eq s (show s.1.2.length<1000000000 by omega) (show s.2.1.length<1000000000 by omega),spec_l3Copy_eq d (show d.1.length<1000000000000 by omega),spec_Dump_eq s d hd hu (show s.2.1.length<1000000000 by omega),Option.bind_some]
 have hdl:=dumpP_len s d
 generalize dumpP s d=R at *
 obtain ⟨L,c⟩:=R
 have hdl:L.length≤s.2.1.length:=hdl
 cases hk:storeOk s d with
 | false=>exact ⟨s,d,4,rfl,h,hn⟩
 | true=>
  obtain ⟨q1,q2,q3,q4,q5⟩:=storeOk_parts hk
  have hd20:s.2.1.length≤20:=(dirOk_mem q3).1
  have hlv:=(liveOk_iff s.1).1 q2
  simp only[Bool.not_true,cond_false,show w64 (s.1.1+2)=s.1.1+2 from w64_id (by omega) (by omega)]
  by_cases e1:s.1.1+2 > 100000
  ·simp only[e1,decide_true,cond_true]
   exact ⟨s,d,5,rfl,h,hn⟩
  simp only[e1,decide_false,cond_false]
  by_cases e2:c=0
  rotate_left
  ·have d2:(c != 0)=true:=by simpa using e2
   simp only[d2,cond_true]
   exact ⟨s,d,c,rfl,h,hn⟩
  subst e2
  simp only[bne_self_eq_false,cond_false,spec_merge_eq s d L q1 q2 (by omega) q4 (by omega),Option.bind_some]
  obtain ⟨r1,r2,r3⟩:=mergeP_ok (s:=s) L q1
  exact ⟨(mergeP s d L).1,(mergeP s d L).2.1,(mergeP s d L).2.2,rfl,⟨r1,by omega,by omega⟩,fun _=>mergeP_next q1 q2 (by omega) (hn (live_ne q2)) L⟩
theorem spec_Commit_inv2 {s:StoreT} {d:DiskT} (h:StoreI s d) (hn:StoreN s d) (l:List PutT) (hl3:l.length≤3):∃s' d' c,ψ1h.f s d l=some (s',d',c)∧StoreI s' d'∧StoreN s' d':=by
 have hl:=dl_dk h.dk
 have hd:=dl_lim hl (by omega)
 have hu:usedN d.1<1000000000:=by have:=hl.2.1;omega
 have h1:=h.ids
 have h2:=h.dir
 have h3:=hl.1
 unfold ψ1h.f
 simp only[spec_StoreOk_eq s d hd hu (show s.1.2.length<1000000000 by omega) (show s.2.1.length<1000000000 by omega),spec_l12Copy_eq s (show s.1.2.length<1000000000 by omega) (show s.2.1.length<1000000000 by omega),spec_l3Copy_eq d (show d.1.length<1000000000000 by omega),spec_PutsOk_eq l (show l.length<2 ^ 62 by omega),spec_l12After_eq s.2.1 l (show s.2.1.length<100000000 by omega) (show l.length<100000000 by omega),Option.bind_some]
 cases hk:storeOk s d with
 | false=>exact ⟨s,d,4,rfl,h,hn⟩
 | true=>
  obtain ⟨q1,q2,q3,q4,q5⟩:=storeOk_parts hk
  have hg:=storeOk_good hk
  have hd20:s.2.1.length≤20:=(dirOk_mem q3).1
  simp only[Bool.not_true,cond_false]
  cases hp:putsOk l with
  | false=>exact ⟨s,d,4,rfl,h,hn⟩
  | true=>
   simp only[Bool.not_true,cond_false]
   by_cases e1:(l.length:Int)=0
   ·have d1:((l.length:Int)==0)=true:=by simpa using e1
    simp only[d1,cond_true]
    exact ⟨s,d,0,rfl,h,hn⟩
   have d1:((l.length:Int)==0)=false:=by simpa using e1
   simp only[d1,cond_false]
   by_cases e2:(keysP s.2.1 l:Int) > 20
   ·simp only[e2,decide_true,cond_true]
    exact ⟨s,d,5,rfl,h,hn⟩
   simp only[e2,decide_false,cond_false]
   by_cases e3:s.2.2.1 > 1000000
   ·simp only[e3,decide_true,cond_true]
    exact ⟨s,d,5,rfl,h,hn⟩
   simp only[e3,decide_false,cond_false,spec_commit_eq hg (by omega) l (by omega) hp (by omega) (by omega),Option.bind_some]
   obtain ⟨r1,r2,r3⟩:=commitP_ok hg l
   exact ⟨(commitP s d l).1,(commitP s d l).2.1,(commitP s d l).2.2,rfl,⟨r1,by omega,by omega⟩,fun _=>commitP_next hg (hn (live_ne q2)) l⟩
theorem spec_Open_new2 (n:Int) (h:0≤n∧n≤100000):∃s d c,ψ25.f (([],n,-1,false):DiskT)=some (s,d,c)∧StoreI s d∧StoreN s d:=by
 have hk:=dk_new n h
 have hd:=dl_lim (dl_dk hk) (by omega)
 have ht:fileText (([],n,-1,false):DiskT) [108,105,118,101]=([],false):=by unfold fileText;rw[hk];rfl
 have ht2:∀m,fileText (([],n,-1,false):DiskT) m=([],false):=fun m=>fileText_eq_none fun f hf=>by simp at hf
 have hn:=segName_len 1
 have hc:=dk_Create hk (segName 1)
 have fc:∀m,m≠segName 1→fileText (dCreate (segName 1) (([],n,-1,false):DiskT)).1 m=([],false):=fun m hm=>by rw[ft_Create hk hm,ht2]
 have ec:ψ1j.f (([],n,-1,false):DiskT) (segName 1)=some (dCreate (segName 1) ([],n,-1,false)):=spec_Create_eq _ _ hd (by omega)
 unfold ψ25.f
 simp only[spec_DiskOk_eq _ hd,hk,Option.bind_some,Bool.not_true,cond_false,spec_FileText_eq _ _ hd,ht,Bool.not_false,cond_true]
 have e1:∃s d c,ψ2c.f (([],n,-1,false):DiskT)=some (s,d,c)∧StoreI s d∧StoreN s d:=by
  unfold ψ2c.f
  simp only[spec_Sweep_new n h,Option.bind_some,bne_self_eq_false,cond_false,spec_SegName_eq,ec]
  generalize dCreate (segName 1) ([],n,-1,false)=w at *
  obtain ⟨x,c⟩:=w
  have hc:diskOk x=true:=hc
  have fc:∀m,m≠segName 1→fileText x m=([],false):=fc
  by_cases c1:c=0
  rotate_left
  ·have d1:(c != 0)=true:=by simpa using c1
   simp only[d1,cond_true,spec_l11Code_eq,Option.bind_some]
   exact ⟨_,_,_,rfl,⟨hc,by simp,by simp⟩,fun e=>absurd rfl e⟩
  subst c1
  have hp:diskOk (putLive x (2,[1])).1=true∧∀m,m≠segName 1→m≠tempN→m≠liveN→fileText (putLive x (2,[1])).1 m=([],false):=by
   unfold putLive;split
   ·exact ⟨hc,fun m q1 _ _=>fc m q1⟩
   ·exact ⟨dk_sPut (w:=(x,0)) hc _,fun m q1 q2 q3=>by
     show fileText (sPut (2,[1]) (x,0)).1 m=_
     rw[ft_sPut (w:=(x,0)) hc _ q2 q3];exact fc m q1⟩
  simp only[bne_self_eq_false,cond_false,spec_PutLive_eq x (2,[1]) (dl_dk hc) (by omega) (by simp),Option.bind_some]
  generalize putLive x (2,[1])=w at *
  obtain ⟨y,c⟩:=w
  obtain ⟨hp,hf⟩:=hp
  have hp:diskOk y=true:=hp
  by_cases c1:c=0
  ·subst c1
   simp only[bne_self_eq_false,cond_false]
   refine ⟨_,_,_,rfl,⟨hp,by simp,by simp⟩,fun _=>⟨fun e he=>by simp at he,fun id q1 q2=>?_⟩⟩
   have q1:2≤id:=q1
   have hf:=hf (segName id) (fun hh=>by have:=segName_inj q2 (by omega) hh;omega) (segName_temp id) (segName_live id)
   show (fileText y (segName id)).2=false
   rw[show fileText y (segName id)=([],false) from hf]
  ·have d1:(c != 0)=true:=by simpa using c1
   simp only[d1,cond_true]
   exact ⟨_,_,_,rfl,⟨hp,by simp,by simp⟩,fun e=>absurd rfl e⟩
 obtain ⟨s,d,c,e1,h1⟩:=e1
 simp only[e1,Option.bind_some]
 exact ⟨s,d,c,rfl,h1⟩
theorem sameDir_self (l:List EntryT) (hl:l.length<1000000000):ψ2K.f l l=some true:=by
 have key:=all_loop (step:=ψ2K.l0) l (fun _=>true) (fun n=>(l,l,(n:Int))) () (by omega)
  (fun rec n h1=>by
   have hw:=w64_succ (show n+1<9223372036854775808 by omega)
   simp only[ψ2K.l0,Int.ofNat_lt,h1,decide_true,cond_true,inB_nat,rdA_nat,getD_lt h1,beq_self_eq_true,Bool.and_self,Bool.not_true,cond_false,hw,if_true])
  (fun rec=>by simp[ψ2K.l0])
 have key:lp ψ2K.l0 (l,l,0)=_:=key
 unfold ψ2K.f
 have hall:l.all (fun _=>true)=true:=by simp
 rw[key,hall]
 simp only[bne_self_eq_false,cond_false,if_true,Option.bind_some,caseS_l]
theorem frame_eq {t:List UInt8} (h:t.length≤200):frame t=fix4 (crcT (varT (t.length:Int)++t))++(varN t.length++t)∧(fix4 (crcT (varT (t.length:Int)++t))).length=4:=by
 unfold frame
 rw[if_neg (by omega),varT_nat t.length (by omega)]
 exact ⟨rfl,fix4_len4 (crcT_range _)⟩
theorem unframe_back {t:List UInt8} (h:t.length≤200) (r:List UInt8):unframe (frame t++r)=(t,((frame t).length:Int)):=by
 obtain ⟨e,h4⟩:=frame_eq h
 have hb:=rvT_back 7 true t.length (t++r) (by omega) (by simp) (by omega)
 generalize hC:fix4 (crcT (varT (t.length:Int)++t))=C at *
 have hl:(frame t).length=4+(varN t.length).length+t.length:=by rw[e];simp only[List.length_append,h4];omega
 have e1:(frame t++r).drop 4=varN t.length++(t++r):=by
  rw[e,List.append_assoc,←h4,List.drop_left,List.append_assoc]
 have e2:(frame t++r).take (4+(varN t.length).length+t.length)=frame t:=by rw[←hl,List.take_left]
 have e3:(frame t).drop (4+(varN t.length).length)=t:=by
  rw[e,show C++(varN t.length++t)=(C++varN t.length)++t by rw[List.append_assoc],show 4+(varN t.length).length=(C++varN t.length).length by rw[List.length_append,h4],List.drop_left]
 unfold unframe
 rw[if_neg (by rw[List.length_append];omega),e1,hb]
 simp only
 rw[if_neg (by rw[List.length_append];omega),e2,e3,if_pos rfl,hl]
theorem unframe_some {s:List UInt8} (h:(unframe s).2≠0):∃t r,s=frame t++r∧t.length≤200∧unframe s=(t,((frame t).length:Int)):=by
 have key:∃t r,s=frame t++r∧t.length≤200:=by
  unfold unframe at h
  split at h
  ·exact absurd rfl h
  split at h
  ·exact absurd rfl h
  rename_i n k hr
  split at h
  ·exact absurd rfl h
  rename_i c
  split at h
  ·rename_i c2
   refine ⟨_,s.drop (4+k+n),by rw[c2,List.take_append_drop],?_⟩
   rw[List.length_drop,List.length_take];omega
  ·exact absurd rfl h
 obtain ⟨t,r,e,hl⟩:=key
 exact ⟨t,r,e,hl,by rw[e];exact unframe_back hl r⟩
theorem frame_pos {t:List UInt8} (h:t.length≤200):5≤(frame t).length:=by
 obtain ⟨e,h4⟩:=frame_eq h
 have:=(varN_len 6 t.length (by omega)).1
 rw[e];simp only[List.length_append,h4];omega
theorem isRec_inj {s:List UInt8} {r q:RecT} (h:isRec s r) (k:isRec s q):r=q:=by
 have a:=impl_ReadRec_back h
 rw[impl_ReadRec_back k] at a
 simp only[Option.some.injEq,Prod.mk.injEq,and_true] at a
 exact a.symm
theorem readRec_back {r:RecT} (h:recOk r=true):readRec (showRec r)=(r,true):=by
 rcases readRec_cases (showRec r) with ⟨_,e⟩ | ⟨q,e,hq⟩
 ·exact absurd ⟨r,h,rfl⟩ e
 ·rw[e,isRec_inj hq ⟨h,rfl⟩]
def fr (r:RecT):List UInt8:=frame (showRec r)
def txt (rs:List RecT):List UInt8:=(rs.map fr).flatten
theorem fr_len (r:RecT):5≤(fr r).length∧(fr r).length≤71:=by
 have h:=showRec_len r
 refine ⟨frame_pos (by omega),?_⟩
 obtain ⟨e,h4⟩:=frame_eq (t:=showRec r) (by omega)
 have:=(varN_len 0 (showRec r).length (by omega)).2
 unfold fr
 rw[e];simp only[List.length_append,h4];omega
theorem txt_cons (r:RecT) (rs:List RecT):txt (r::rs)=fr r++txt rs:=rfl
theorem lastI_one (x:Int):lastI [x]=x:=rfl
theorem lastI_cons (x y:Int) (l:List Int):lastI (x::y::l)=lastI (y::l):=by
 unfold lastI
 simp only[List.length_cons,Nat.add_sub_cancel]
 rfl
theorem lastI_mem:∀{l:List Int},l≠[]→lastI l∈l
 | [],h=>absurd rfl h
 | [x],_=>by simp[lastI_one]
 | x::y::l,_=>by rw[lastI_cons];exact List.mem_cons_of_mem _ (lastI_mem (by simp))
noncomputable def entAt (d:DiskT) (e:EntryT):RecT×Bool:=recAt (fileText d (segName e.2.1)).1 e.2.2.1 e.2.2.2.1
theorem entOk_iff {d:DiskT} {b:Int} {e:EntryT}:entOk d b e=true↔(entAt d e).2=true∧((entAt d e).1.1=1∨(entAt d e).1.1=4)∧(entAt d e).1.2.2.1=e.1∧(entAt d e).1.2.1=e.2.2.2.2∧e.2.2.2.2<b:=by
 unfold entOk entAt
 simp only[Bool.and_eq_true,Bool.or_eq_true,beq_iff_eq,Bool.not_eq_true',decide_eq_false_iff_not,ge_iff_le,Int.not_le]
theorem storeOk_iff {s:StoreT} {d:DiskT}:storeOk s d=true↔diskOk d=true∧liveOk s.1=true∧dirOk s.2.1=true∧(1≤s.2.2.1∧s.2.2.1≤1000001)∧segsOk d s.2.2.2.1 s.1.2=true∧∀e∈s.2.1,entOk d s.2.2.1 e=true:=by
 unfold storeOk
 simp only[Bool.and_eq_true,decide_eq_true_eq,List.all_eq_true]
def mapG {α β:Type} (g:α→β) (l:List (List UInt8×α)):List (List UInt8×β):=l.map fun x=>(x.1,g x.2)
noncomputable def valAt (d:DiskT) (x:Int×Int×Int×Int):List UInt8×Int:=
 ((recAt (fileText d (segName x.1)).1 x.2.1 x.2.2.1).1.2.2.2.1,(recAt (fileText d (segName x.1)).1 x.2.1 x.2.2.1).1.2.1)
theorem dump_map {s:StoreT} {d:DiskT} (h:storeOk s d=true):dumpP s d=(mapG (valAt d) s.2.1,0):=by
 rw[dumpP_ok h]
 congr 1
 unfold mapG
 refine List.map_congr_left fun e he=>?_
 obtain ⟨q1,q2,q3,q4,q5,q6⟩:=storeOk_iff.1 h
 have k:=entOk_iff.1 (q6 e he)
 unfold entAt at k
 unfold getP
 rw[dirGet_mem (dirOk_srt q3) he]
 simp only[Bool.true_eq_false,if_false]
 rw[if_pos ⟨k.1,k.2.1,k.2.2.1⟩]
 rfl
theorem digs_name:∀(k n:Nat),n<k→(Lib.decDigits n).all nameB=true
 | 0,n,h=>by omega
 | k+1,n,h=>by
  have hb:∀m,m<10→nameB (UInt8.ofNat (48+m))=true:=fun m hm=>by
   unfold nameB
   have:(UInt8.ofNat (48+m)).toNat=48+m:=by simp only[UInt8.toNat_ofNat'];omega
   rw[this]
   simp;omega
  by_cases c:n<10
  ·rw[Lib.decDigits_one c,List.all_cons,hb n c];rfl
  ·have:=digs_step (n:=n) (by omega)
   unfold digs at this
   rw[if_neg (by omega),if_neg (by omega)] at this
   rw[this,List.all_append,digs_name k (n / 10) (by omega),List.all_cons,hb (n % 10) (by omega)];rfl
theorem has_ix {d:DiskT} {n:List UInt8} (h:(fileText d n).2=true):∃i:Nat,∃hi:i<d.1.length,d.1.findIdx? (fun f=>f.1==n)=some i∧d.1[i].1=n∧fileIx d.1 n=(i:Int):=by
 rcases fileIx_cases d.1 n with ⟨e,_⟩ | ⟨i,hi,e,hn⟩
 ·unfold fileText at h
  split at h
  ·simp at h
  ·rw[ix_none e] at h;simp at h
 ·exact ⟨i,hi,ix_some e,hn,e⟩
theorem hasnt_ix {d:DiskT} {n:List UInt8} (hk:diskOk d=true) (h:(fileText d n).2=false):fileIx d.1 n=-1:=by
 rcases fileIx_cases d.1 n with ⟨e,_⟩ | ⟨i,hi,e,hn⟩
 ·exact e
 ·unfold fileText at h
  rw[if_neg (by rw[hk];simp),ix_some e] at h;simp at h
noncomputable def commitF (s:StoreT) (d:DiskT) (l:List PutT):StoreT×DiskT×Int:=
 if storeOk s d=false∨putsOk l=false then (s,d,4) else if l.length=0 then (s,d,0) else
 if 20<keysP s.2.1 l∨s.2.2.1 > 1000000 then (s,d,5) else commitP s d l
structure SmallS (s:StoreT) (d:DiskT):Prop where
 sm:dl 200000 d
 ids:s.1.2.length≤1000
 dir:s.2.1.length≤1000
theorem SmallS.lim {s:StoreT} {d:DiskT} (h:SmallS s d):dlim d∧usedN d.1<1000000000:=⟨dl_lim h.sm (by omega),by have:=h.sm.2.1;omega⟩
theorem sameStore_self (s:StoreT) (h1:s.1.2.length<1000000000) (h2:s.2.1.length<1000000000):ψ2M.f s s=some true:=by
 have key:=all_loop (step:=ψ2M.l0) s.1.2 (fun _=>true) (fun n=>(s,s,(n:Int))) (s,s) (by omega)
  (fun rec n h=>by
   have hw:=w64_succ (show n+1<9223372036854775808 by omega)
   simp only[ψ2M.l0,Int.ofNat_lt,h,decide_true,cond_true,inB_nat,rdA_nat,getD_lt h,bne_self_eq_false,cond_false,hw,if_true])
  (fun rec=>by simp[ψ2M.l0])
 have key:lp ψ2M.l0 (s,s,0)=_:=key
 unfold ψ2M.f
 have hall:s.1.2.all (fun _=>true)=true:=by simp
 rw[key,hall]
 simp only[bne_self_eq_false,cond_false,if_true,Option.bind_some,caseS_l,sameDir_self s.2.1 h2]
theorem itoa_neg' (u:Nat) (h:1≤u):Lib.itoa (-(u:Int))=[45]++Lib.decDigits u:=by
 unfold Lib.itoa
 rw[if_pos (by omega)]
 simp
theorem spec_Dec_neg (n:Nat) (h1:1≤n) (hn:n<1000000000000000000):ψ1k.f (-(n:Int))=some ([45]++Lib.decDigits n):=by
 unfold ψ1k.f
 have c1:((-(n:Int))==0)=false:=by
  have:¬(-(n:Int))=0:=by omega
  simpa using this
 have c2:decide ((-(n:Int))<0)=true:=by simp;omega
 have key:=lp_eq (step:=ψ1k.l0) (a:=((-(n:Int)),([]:List UInt8),true)) (fun a=>(digs (-a.1).toNat++a.2.1,true)) (fun a=>a.1≤0∧a.2.2=true∧a.2.1.length+(-a.1).toNat≤n) (fun a=>(-a.1).toNat)
  (fun rec a ha ih=>by
   obtain ⟨x,s,f⟩:=a
   obtain ⟨h0,hf,hl⟩:=ha
   simp only at hf hl h0 ih ⊢
   subst hf
   obtain ⟨m,rfl⟩:∃m:Nat,x=-(m:Int):=⟨(-x).toNat,by omega⟩
   simp only[Int.neg_neg,Int.toNat_natCast] at hl ih ⊢
   by_cases d:m=0
   ·subst d
    simp[ψ1k.l0,digs]
   ·have d1:((-(m:Int)) != 0)=true:=by
     have:¬(-(m:Int))=0:=by omega
     simpa using this
    have e1:Int.tmod (-(m:Int)) 10=-((m % 10:Nat):Int):=by rw[Int.neg_tmod];rfl
    have e2:w64 (Int.tdiv (-(m:Int)) 10)=-((m / 10:Nat):Int):=by
     rw[Int.neg_tdiv,show Int.tdiv (m:Int) 10=((m / 10:Nat):Int) from rfl];exact w64_id (by omega) (by omega)
    have e5:w64 (0 - -((m % 10:Nat):Int))=((m % 10:Nat):Int):=by rw[w64_id (by omega) (by omega)];omega
    have e4:strOf [IntKind.wrap .u8 (w64 (48+((m % 10:Nat):Int)))]=[UInt8.ofNat (48+m % 10)]:=by
     have e:w64 (48+((m % 10:Nat):Int))=((48+m % 10:Nat):Int):=by rw[w64_id (by omega) (by omega)];omega
     rw[e]
     unfold strOf
     simp only[List.map_cons,List.map_nil,u8_wrap]
    have hb:([UInt8.ofNat (48+m % 10)]:List UInt8).length+s.length≤9223372036854775807:=by show 1+_≤_;omega
    have ih:=ih (-((m / 10:Nat):Int),[UInt8.ofNat (48+m % 10)]++s,true) ⟨by simp only;omega,rfl,by simp only[List.length_append,List.length_singleton,Int.neg_neg,Int.toNat_natCast];omega⟩ (by simp only[Int.neg_neg,Int.toNat_natCast];omega)
    simp only[Int.neg_neg,Int.toNat_natCast] at ih
    have e6:(bif decide (-((m % 10:Nat):Int)<0) then some (-(m:Int),s,true,w64 (0 - -((m % 10:Nat):Int))) else some (-(m:Int),s,true,-((m % 10:Nat):Int)))=some (-(m:Int),s,true,((m % 10:Nat):Int)):=by
     rw[e5]
     by_cases z:-((m % 10:Nat):Int)<0
     ·simp only[z,decide_true,cond_true]
     ·have:((m % 10:Nat):Int)=0:=by omega
      simp only[decide_eq_false z,cond_false]
      rw[this];rfl
    simp only[ψ1k.l0,d1,cond_true,e1,e2,e6,Option.bind_some,e4,hb,decide_true,ih]
    rw[digs_step d,List.append_assoc])
  ⟨by simp only;omega,rfl,by simp⟩ (by simp only[Int.neg_neg,Int.toNat_natCast];omega)
 have hd:decide (([45]:List UInt8).length+(digs n++[]).length≤9223372036854775807)=true:=by
  have:=digits_len 17 n (by omega)
  refine lim63 ?_
  unfold digs
  rw[if_neg (by omega),List.append_nil]
  show 1+_≤_;omega
 simp only[Int.neg_neg,Int.toNat_natCast] at key
 simp only[c1,c2,cond_false,key,Option.bind_some,cond_true,hd]
 unfold digs
 rw[if_neg (by omega),List.append_nil]
theorem spec_Dec_all (n:Int) (h:-1000000000000000000<n∧n<1000000000000000000):ψ1k.f n=some (Lib.itoa n):=by
 rcases Int.lt_or_le n 0 with c | c
 ·obtain ⟨m,rfl⟩:∃m:Nat,n=-(m:Int):=⟨(-n).toNat,by omega⟩
  rw[spec_Dec_neg m (by omega) (by omega),itoa_neg' m (by omega)]
 ·obtain ⟨m,rfl⟩:∃m:Nat,n=(m:Int):=⟨n.toNat,by omega⟩
  rw[spec_Dec_eq m (by omega),itoa_nat]
def isDig (b:UInt8):Bool:=decide (48≤b.toNat) && decide (b.toNat≤57)
def digStep (a:Nat×Nat) (b:UInt8):Nat×Nat:=if isDig b=true then (a.1 * 10+(b.toNat - 48),a.2+1) else a
def digFold (s:List UInt8):Nat×Nat:=s.foldl digStep (0,0)
theorem digStep_bound (l:List UInt8):∀(a:Nat×Nat) (n:Nat),a.1<10 ^ n→a.2≤n→(l.foldl digStep a).1<10 ^ (n+l.length)∧(l.foldl digStep a).2≤n+l.length:=by
 induction l with
 | nil=>intro a n h1 h2;exact ⟨h1,h2⟩
 | cons b l ih=>
  intro a n h1 h2
  have b1:(digStep a b).1<10 ^ (n+1):=by
   unfold digStep isDig
   rw[Nat.pow_succ]
   split
   ·rename_i c
    simp only[Bool.and_eq_true,decide_eq_true_eq] at c
    show a.1 * 10+(b.toNat - 48)<_
    omega
   ·omega
  have b2:(digStep a b).2≤n+1:=by
   unfold digStep
   split
   ·show a.2+1≤n+1;omega
   ·omega
  have:=ih (digStep a b) (n+1) b1 b2
  rw[List.foldl_cons,List.length_cons,show n+(l.length+1)=n+1+l.length by omega]
  exact this
def sgn:List UInt8→Bool
 | []=>false
 | b::_=>b==45
def readDec (s:List UInt8):Int×Bool:=
 let p:=digFold (s.take 11)
 let n:Int:=if sgn s=true then -(p.1:Int) else (p.1:Int)
 if 9<p.2∨10<s.length∨Lib.itoa n≠s then (0,false) else (n,true)
theorem spec_ReadDec_l0 (s:List UInt8) (hl:s.length<1000000000000):lp ψ29.l0 (s,0,0,0)=some (s,((digFold (s.take 11)).1:Int),((digFold (s.take 11)).2:Int)):=by
 have hN:(s.take 11).length=min 11 s.length:=List.length_take
 have key:=lp_up (step:=ψ29.l0) (fun n (p:Nat×Nat)=>(s,(p.1:Int),(p.2:Int),(n:Int))) (s.take 11).length (fun n p=>(s,((((s.take 11).drop n).foldl digStep p).1:Int),((((s.take 11).drop n).foldl digStep p).2:Int))) (fun n p=>p.1<10 ^ n∧p.2≤n)
  (fun rec n p hn hp ih=>by
   rcases Nat.lt_or_ge n (s.take 11).length with h | h
   ·have hs:n<s.length:=by omega
    have h11:n<11:=by omega
    have hw:=w64_succ (show n+1<9223372036854775808 by omega)
    have c1:(n:Int)<(s.length:Int):=by omega
    have c2:(n:Int)<11:=by omega
    have hg:(s.take 11)[n]=s[n]:=List.getElem_take
    have hpow:10 ^ n≤10 ^ 10:=Nat.pow_le_pow_right (by omega) (by omega)
    have hp1:p.1<10000000000:=Nat.lt_of_lt_of_le hp.1 hpow
    rw[List.drop_eq_getElem_cons h,hg,List.foldl_cons]
    have hstep:=digStep_bound [s[n]] p n hp.1 hp.2
    have ih:=ih (digStep p s[n]) h hstep
    simp only[ψ29.l0,c1,c2,decide_true,cond_true,inB_nat,hs,bAt_nat s n hs]
    have hlt:=UInt8.toNat_lt s[n]
    by_cases d1:48≤s[n].toNat
    ·have d1':((s[n].toNat:Nat):Int)≥48:=by omega
     by_cases d2:s[n].toNat≤57
     ·have d2':((s[n].toNat:Nat):Int)≤57:=by omega
      have e1:w64 (IntKind.wrap .u8 ((s[n].toNat:Int) - 48))=((s[n].toNat - 48:Nat):Int):=by
       have:(s[n].toNat:Int) - 48=((s[n].toNat - 48:Nat):Int):=by omega
       rw[this,show IntKind.wrap .u8 ((s[n].toNat - 48:Nat):Int)=((s[n].toNat - 48:Nat):Int) by unfold IntKind.wrap;show ((((s[n].toNat - 48:Nat):Int)) % 256:Int)=_;omega]
       exact w64_nat (by omega)
      have e2:w64 ((p.1:Int) * 10)=((p.1 * 10:Nat):Int):=by rw[w64_id (by omega) (by omega)];omega
      have e3:w64 (((p.1 * 10:Nat):Int)+((s[n].toNat - 48:Nat):Int))=((p.1 * 10+(s[n].toNat - 48):Nat):Int):=by rw[w64_id (by omega) (by omega)];omega
      have e4:w64 ((p.2:Int)+1)=((p.2+1:Nat):Int):=w64_succ (by have:=hp.2;omega)
      have e5:digStep p s[n]=(p.1 * 10+(s[n].toNat - 48),p.2+1):=by
       unfold digStep isDig
       rw[if_pos (by simp[d1,d2])]
      rw[e5] at ih ⊢
      simp only[d1',d2',decide_true,cond_true,e1,e2,e3,e4,Option.bind_some,hw,ih]
     ·have d2':¬((s[n].toNat:Nat):Int)≤57:=by omega
      have e5:digStep p s[n]=p:=by unfold digStep isDig;rw[if_neg (by simp[d2])]
      rw[e5] at ih ⊢
      simp only[d1',d2',decide_true,decide_false,cond_true,cond_false,Option.bind_some,hw,ih]
    ·have d1':¬((s[n].toNat:Nat):Int)≥48:=by omega
     have e5:digStep p s[n]=p:=by unfold digStep isDig;rw[if_neg (by simp[d1])]
     rw[e5] at ih ⊢
     simp only[d1',decide_false,cond_false,Option.bind_some,hw,ih]
   ·have hn2:n=(s.take 11).length:=by omega
    have hnil:(s.take 11).drop n=[]:=List.drop_eq_nil_of_le (by omega)
    rw[hnil,List.foldl_nil]
    by_cases c:n<s.length
    ·have c1:(n:Int)<(s.length:Int):=by omega
     have c2:¬(n:Int)<11:=by omega
     simp only[ψ29.l0,c1,c2,decide_true,decide_false,cond_true,cond_false]
    ·have c1:¬(n:Int)<(s.length:Int):=by omega
     simp only[ψ29.l0,c1,decide_false,cond_false])
  (by omega) 0 (0,0) (Nat.zero_le _) ⟨by decide,Nat.le_refl _⟩
 exact key
theorem spec_ReadDec_eq (s:List UInt8) (hl:s.length<1000000000000):ψ29.f s=some (readDec s):=by
 have hb:=digStep_bound (s.take 11) (0,0) 0 (by decide) (Nat.le_refl _)
 have h11:(s.take 11).length≤11:=by rw[List.length_take];omega
 have hpow:10 ^ (0+(s.take 11).length)≤10 ^ 11:=Nat.pow_le_pow_right (by omega) (by omega)
 have hv:(digFold (s.take 11)).1<100000000000:=Nat.lt_of_lt_of_le hb.1 hpow
 unfold ψ29.f readDec
 rw[spec_ReadDec_l0 s hl,Option.bind_some]
 have e1:(bif decide ((s.length:Int) > 0) then
   bif inB 0 s.length then
   bif (bAt s 0)==45 then some (s,w64 (0 - ((digFold (s.take 11)).1:Int)),((digFold (s.take 11)).2:Int)) else some (s,((digFold (s.take 11)).1:Int),((digFold (s.take 11)).2:Int))
   else none
   else some (s,((digFold (s.take 11)).1:Int),((digFold (s.take 11)).2:Int)):Option (List UInt8×Int×Int)) =
   some (s,(if sgn s=true then -((digFold (s.take 11)).1:Int) else ((digFold (s.take 11)).1:Int)),((digFold (s.take 11)).2:Int)):=by
  cases s with
  | nil=>rfl
  | cons b r=>
   have c1:((b::r).length:Int) > 0:=by simp
   have c2:inB 0 (b::r).length=true:=by unfold inB;simp
   have c3:bAt (b::r) 0=(b.toNat:Int):=rfl
   simp only[c1,decide_true,cond_true,c2,c3,sgn]
   by_cases z:b=45
   ·subst z
    have hw:w64 (0 - ((digFold (((45:UInt8)::r).take 11)).1:Int))=-((digFold (((45:UInt8)::r).take 11)).1:Int):=by rw[w64_id (by omega) (by omega)];omega
    rw[hw];rfl
   ·have z1:((b.toNat:Int)==45)=false:=by
     have:¬(b.toNat:Int)=45:=fun h=>z (by
      have:b.toNat=45:=by omega
      exact UInt8.toNat_inj.1 (by rw[this];rfl))
     simpa using this
    have z2:(b==45)=false:=by simpa using z
    simp only[z1,cond_false,z2,Bool.false_eq_true,if_false]
 dsimp only
 rw[e1,Option.bind_some]
 dsimp only
 have hvb:-1000000000000000000<(if sgn s=true then -((digFold (s.take 11)).1:Int) else ((digFold (s.take 11)).1:Int))∧(if sgn s=true then -((digFold (s.take 11)).1:Int) else ((digFold (s.take 11)).1:Int))<1000000000000000000:=by split<;>omega
 generalize (if sgn s=true then -((digFold (s.take 11)).1:Int) else ((digFold (s.take 11)).1:Int))=v at hvb ⊢
 generalize (digFold (s.take 11)).2=q
 have hd:=spec_Dec_all v hvb
 by_cases c1:9<q
 ·have h1:decide ((q:Int) > 9)=true:=by simp;omega
  rw[h1,cond_true,if_pos (.inl c1)]
 have h1:decide ((q:Int) > 9)=false:=by simp;omega
 rw[h1,cond_false]
 by_cases c2:10<s.length
 ·have h2:decide ((s.length:Int) > 10)=true:=by simp;omega
  rw[h2,cond_true,if_pos (.inr (.inl c2))]
 have h2:decide ((s.length:Int) > 10)=false:=by simp;omega
 rw[h2,cond_false,hd,Option.bind_some]
 by_cases c3:Lib.itoa v=s
 ·rw[if_neg (by simp only[not_or,ne_eq,Decidable.not_not];exact ⟨c1,c2,c3⟩)]
  have:(Lib.itoa v==s)=true:=by rw[c3];simp
  simp only[this,Bool.not_true,cond_false]
 ·rw[if_pos (.inr (.inr c3))]
  have:(Lib.itoa v==s)=false:=by simpa using c3
  simp only[this,Bool.not_false,cond_true]
theorem digFold_digits:∀(k n:Nat),n<k→∀(a:Nat×Nat),(Lib.decDigits n).foldl digStep a=(a.1 * 10 ^ (Lib.decDigits n).length+n,a.2+(Lib.decDigits n).length)
 | 0,n,h,a=>by omega
 | k+1,n,h,a=>by
  have hd:∀m,m<10→∀a:Nat×Nat,digStep a (UInt8.ofNat (48+m))=(a.1 * 10+m,a.2+1):=fun m hm a=>by
   have e:(UInt8.ofNat (48+m)).toNat=48+m:=by simp only[UInt8.toNat_ofNat'];omega
   unfold digStep isDig
   rw[e,if_pos (by simp;omega)]
   simp
  by_cases c:n<10
  ·rw[Lib.decDigits_one c]
   simp only[List.foldl_cons,List.foldl_nil,List.length_cons,List.length_nil]
   rw[hd n c]
  ·have:=digs_step (n:=n) (by omega)
   unfold digs at this
   rw[if_neg (by omega),if_neg (by omega)] at this
   rw[this,List.foldl_append,digFold_digits k (n / 10) (by omega),List.foldl_cons,List.foldl_nil,hd _ (by omega)]
   simp only[List.length_append,List.length_cons,List.length_nil,Nat.zero_add,Prod.mk.injEq]
   constructor
   ·rw[Nat.pow_succ,←Nat.mul_assoc,Nat.add_mul];omega
   ·omega
theorem readDec_digits {n:Nat} (h:n≤100000):readDec (Lib.decDigits n)=((n:Int),true):=by
 have hl:=digits_len 5 n (by show _<1000000;omega)
 have ht:(Lib.decDigits n).take 11=Lib.decDigits n:=List.take_of_length_le (by omega)
 have hf:digFold (Lib.decDigits n)=(n,(Lib.decDigits n).length):=by
  unfold digFold
  rw[digFold_digits (n+1) n (by omega)]
  simp
 have hh:sgn (Lib.decDigits n)=false:=by
  have ha:=digs_name (n+1) n (by omega)
  rw[List.all_eq_true] at ha
  cases e:Lib.decDigits n with
  | nil=>rfl
  | cons b r=>
   have:=ha b (by rw[e];exact List.mem_cons_self)
   show (b==45)=false
   cases h:b==45 with
   | false=>rfl
   | true=>
    have:b=45:=by simpa using h
    subst this
    revert this;decide
 unfold readDec
 simp only[ht,hf,hh,Bool.false_eq_true,if_false]
 rw[if_neg]
 simp only[not_or,ne_eq,Decidable.not_not]
 exact ⟨by omega,by omega,itoa_nat n⟩
theorem hintName_inj {i j:Int} (hi:1≤i∧i≤100000) (hj:1≤j∧j≤100000) (h:hintName i=hintName j):i=j:=by
 unfold hintName nameN at h
 rw[if_pos hi,if_pos hj] at h
 have:=digs_inj (i.toNat+1) i.toNat j.toNat (by omega) (List.append_cancel_left h)
 omega
def named (name:List UInt8) (id:Int):Prop:=(1≤id∧id≤100000)∧(name=segName id∨name=hintName id)
theorem named_inj {name:List UInt8} {i j:Int} (hi:named name i) (hj:named name j):i=j:=by
 obtain ⟨h1,h2⟩:=hi
 obtain ⟨k1,k2⟩:=hj
 rcases h2 with h2 | h2<;>rcases k2 with k2 | k2
 ·exact segName_inj h1 k1 (h2.symm.trans k2)
 ·exact absurd (h2.symm.trans k2) (segName_hint i j h1)
 ·exact absurd (k2.symm.trans h2) (segName_hint j i k1)
 ·exact hintName_inj h1 k1 (h2.symm.trans k2)
noncomputable def idOf (name:List UInt8):Int×Bool:=@dite (Int×Bool) (∃id,named name id) (Classical.propDecidable _) (fun h=>(h.choose,true)) (fun _=>(0,false))
theorem idOf_yes {name:List UInt8} {id:Int} (h:named name id):idOf name=(id,true):=by
 have hx:∃id,named name id:=⟨id,h⟩
 unfold idOf
 rw[dif_pos hx,named_inj hx.choose_spec h]
theorem idOf_no {name:List UInt8} (h:¬∃id,named name id):idOf name=(0,false):=by
 unfold idOf;rw[dif_neg h]
theorem idOf_named {name:List UInt8} {id:Int} (h:idOf name=(id,true)):named name id:=by
 by_cases hx:∃id,named name id
 ·obtain ⟨j,hj⟩:=hx
  rw[idOf_yes hj] at h
  simp only[Prod.mk.injEq,and_true] at h
  rw[←h];exact hj
 ·rw[idOf_no hx] at h;simp at h
noncomputable def idAt (name:List UInt8) (k:Nat):Option Int:=
 if k<name.length∧(readDec (name.drop k)).2=true∧1≤(readDec (name.drop k)).1∧(segName (readDec (name.drop k)).1=name∨hintName (readDec (name.drop k)).1=name) then some (readDec (name.drop k)).1 else none
theorem idAt_named {name:List UInt8} {k:Nat} {n:Int} (h:idAt name k=some n):named name n:=by
 unfold idAt at h
 split at h
 ·rename_i c
  have h:(readDec (name.drop k)).1=n:=Option.some.inj h
  rw[h] at c
  obtain ⟨c1,c2,c3,c4⟩:=c
  have hr:n≤100000:=by
   rcases Int.lt_or_le 100000 n with z | z
   ·exfalso
    unfold segName hintName nameN at c4
    rw[if_neg (by omega),if_neg (by omega)] at c4
    rcases c4 with e | e<;>rw[←e] at c1<;>simp at c1
   ·exact z
  exact ⟨⟨c3,hr⟩,c4.imp Eq.symm Eq.symm⟩
 ·simp at h
theorem idAt_all {name:List UInt8} {id:Int} (h:named name id):idAt name 3=some id∨idAt name 4=some id:=by
 obtain ⟨h1,h2⟩:=h
 obtain ⟨n,rfl⟩:∃n:Nat,id=(n:Int):=⟨id.toNat,by omega⟩
 have hr:=readDec_digits (n:=n) (by omega)
 have hne:(Lib.decDigits n)≠[]:=fun e=>by
  have:=digFold_digits (n+1) n (by omega) (0,0)
  rw[e] at this
  simp at this;omega
 have hpos:0<(Lib.decDigits n).length:=List.length_pos_iff.2 hne
 rcases h2 with h2 | h2
 ·left
  have e:name=[115,101,103]++Lib.decDigits n:=by rw[h2];unfold segName nameN;rw[if_pos h1,Int.toNat_natCast]
  have hd:name.drop 3=Lib.decDigits n:=by rw[e];rfl
  unfold idAt
  rw[hd,hr]
  rw[if_pos ⟨by rw[e,List.length_append];show 3<3+_;omega,rfl,h1.1,.inl h2.symm⟩]
 ·right
  have e:name=[104,105,110,116]++Lib.decDigits n:=by rw[h2];unfold hintName nameN;rw[if_pos h1,Int.toNat_natCast]
  have hd:name.drop 4=Lib.decDigits n:=by rw[e];rfl
  unfold idAt
  rw[hd,hr]
  rw[if_pos ⟨by rw[e,List.length_append];show 4<4+_;omega,rfl,h1.1,.inr h2.symm⟩]
theorem spec_IdOf_eq (name:List UInt8) (hl:name.length<1000000000000):ψ20.f name=some (idOf name):=by
 have key:=lp_up (step:=ψ20.l0) (fun n (_:Unit)=>(name,(n:Int))) 5 (fun n _=>match (if n=3 then idAt name 3 else none),(if n≤4 then idAt name 4 else none) with | some x,_=>.inr (x,true) | none,some x=>.inr (x,true) | none,none=>.inl ()) (fun n _=>3≤n)
  (fun rec n _ hn h3 ih=>by
   rcases Nat.lt_or_ge n 5 with h | h
   ·have hw:=w64_succ (show n+1<9223372036854775808 by omega)
    have c1:(n:Int)≤4:=by omega
    have hone:(bif decide ((name.length:Int) > (n:Int)) then
      bif (decide (0≤(n:Int)) && decide ((n:Int)≤(name.length:Int))) then
      (ψ29.f (name.drop (n:Int).toNat)).bind fun (t1_0,t1_1)=>
      (bif t1_1 then
      bif decide (t1_0≥1) then
      (ψ2O.f t1_0).bind fun t2=>
      bif t2==name then
      some (Sum.inr (t1_0,true))
      else
      (ψ1y.f t1_0).bind fun t3=>
      bif t3==name then
      some (Sum.inr (t1_0,true))
      else
      some (Sum.inl (name,(n:Int)))
      else
      some (Sum.inl (name,(n:Int)))
      else
      some (Sum.inl (name,(n:Int))):Option ((List UInt8×Int) ⊕ (Int×Bool))).bind (fun o4=>caseS o4 (fun (x0,x4)=>
      some (Sum.inl (x0,x4))) (fun (x2,x3)=>
      some (Sum.inr (x2,x3))))
      else none
      else
      some (Sum.inl (name,(n:Int))):Option ((List UInt8×Int) ⊕ (Int×Bool)))=some (match idAt name n with | some x=>.inr (x,true) | none=>.inl (name,(n:Int))):=by
     by_cases d:n<name.length
     ·have d1:(name.length:Int) > (n:Int):=by omega
      have d2:(decide (0≤(n:Int)) && decide ((n:Int)≤(name.length:Int)))=true:=by simp;omega
      simp only[d1,decide_true,cond_true,d2,Int.toNat_natCast,spec_ReadDec_eq (name.drop n) (by rw[List.length_drop];omega),Option.bind_some]
      unfold idAt
      generalize readDec (name.drop n)=p
      obtain ⟨v,b⟩:=p
      simp only[spec_SegName_eq,spec_HintName_eq,Option.bind_some]
      cases b
      ·simp
      ·by_cases e:v≥1
       ·by_cases e1:segName v=name
        ·simp[d,e,e1,caseS_r]
        ·have e1':(segName v==name)=false:=by simpa using e1
         by_cases e2:hintName v=name
         ·simp[d,e,e1',e1,e2,caseS_r]
         ·have e2':(hintName v==name)=false:=by simpa using e2
          simp[d,e,e1',e1,e2',e2,caseS_l]
       ·have e':¬1≤v:=e
        simp[d,e,e',caseS_l]
     ·have d1:¬(name.length:Int) > (n:Int):=by omega
      simp only[d1,decide_false,cond_false]
      unfold idAt
      rw[if_neg (fun z=>d z.1)]
    simp only[ψ20.l0,c1,decide_true,cond_true]
    erw [hone]
    simp only[Option.bind_some]
    have ih:=ih () h (by omega)
    have:n=3∨n=4:=by omega
    rcases this with rfl | rfl
    ·cases e3:idAt name 3 with
     | some x=>simp[caseS_r]
     | none=>
      simp only[caseS_l,hw]
      rw[ih]
      simp
    ·cases e4:idAt name 4 with
     | some x=>simp[caseS_r]
     | none=>
      simp only[caseS_l,hw]
      rw[ih]
      simp
   ·have:n=5:=by omega
    subst this
    simp[ψ20.l0])
  (by omega) 3 () (by omega) (Nat.le_refl _)
 have key:lp ψ20.l0 (name,3)=_:=key
 unfold ψ20.f
 rw[key,Option.bind_some]
 simp only[if_true,show (3:Nat)≤4 by omega]
 cases e3:idAt name 3 with
 | some x=>simp only[caseS_r];rw[idOf_yes (idAt_named e3)]
 | none=>
  cases e4:idAt name 4 with
  | some x=>simp only[caseS_r];rw[idOf_yes (idAt_named e4)]
  | none=>
   simp only[caseS_l]
   rw[idOf_no]
   rintro ⟨id,h⟩
   rcases idAt_all h with z | z
   ·rw[e3] at z;simp at z
   ·rw[e4] at z;simp at z
noncomputable def orphB (v:LiveT) (f:FileT):Bool:=((idOf f.1).2 && !(v.2.any fun i=>i==(idOf f.1).1)) || f.1==tempN
noncomputable def orphP (d:DiskT) (v:LiveT):List (List UInt8):=if diskOk d=false then [] else (d.1.filter (orphB v)).map (·.1)
theorem spec_Orphans_l2 (d:DiskT) (v:LiveT) (acc:List (List UInt8)) (i id:Int) (is:Bool) (hv:v.2.length<1000000000) :
  lp ψ26.l2 (d,v,acc,i,id,is,false,0)=some (d,v,acc,i,is,v.2.any fun x=>x==id):=by
 have key:=lp_up (step:=ψ26.l2) (fun n (b:Bool)=>(d,v,acc,i,id,is,b,(n:Int))) v.2.length (fun n b=>(d,v,acc,i,is,b || (v.2.drop n).any fun x=>x==id)) (fun _ _=>True)
  (fun rec n b hn _ ih=>by
   rcases Nat.lt_or_ge n v.2.length with h | h
   ·have hw:=w64_succ (show n+1<9223372036854775808 by omega)
    rw[List.drop_eq_getElem_cons h,List.any_cons]
    simp only[ψ26.l2,Int.ofNat_lt,h,decide_true,cond_true,inB_nat,rdA_nat,getD_lt h]
    cases b
    ·simp only[cond_false,Option.bind_some,hw,ih _ h trivial,Bool.false_or]
    ·simp only[cond_true,Option.bind_some,hw,ih _ h trivial,Bool.true_or]
   ·have:n=v.2.length:=by omega
    subst this
    simp[ψ26.l2])
  (by omega) 0 false (Nat.zero_le _) trivial
 have key:lp ψ26.l2 (d,v,acc,i,id,is,false,0)=_:=key
 rw[key,List.drop_zero,Bool.false_or]
theorem lim16' {a:Nat} (h:a<1000000000001):(a+1) * 16≤140737488355328:=by omega
theorem spec_Orphans_eq (d:DiskT) (v:LiveT) (hd:dlim d) (hv:v.2.length<1000000000):ψ26.f d v=some (orphP d v):=by
 have key:=lp_up (step:=ψ26.l0) (fun n (acc:List (List UInt8))=>(d,v,acc,(n:Int))) d.1.length (fun n acc=>acc++((d.1.drop n).filter (orphB v)).map (·.1)) (fun n acc=>acc.length≤n)
  (fun rec n acc hn ha ih=>by
   rcases Nat.lt_or_ge n d.1.length with h | h
   ·have hlen:=hd.1
    have hw:=w64_succ (show n+1<9223372036854775808 by omega)
    have hnm:=hd.2.2 _ (List.getElem_mem h)
    have hb:(acc.length+([d.1[n].1]:List (List UInt8)).length) * 16≤140737488355328:=lim16' (by omega)
    have i1:=ih (acc++[d.1[n].1]) h (by rw[List.length_append];show acc.length+1≤n+1;omega)
    have i2:=ih acc h (by omega)
    rw[List.drop_eq_getElem_cons h,List.filter_cons]
    simp only[ψ26.l0,Int.ofNat_lt,h,decide_true,cond_true,inB_nat,rdA_nat,getD_lt h]
    rw[spec_IdOf_eq d.1[n].1 hnm,Option.bind_some]
    simp only[spec_Orphans_l2 d v acc (n:Int) _ _ hv,Option.bind_some,hb,decide_true,cond_true]
    have hob:orphB v d.1[n]=(((idOf d.1[n].1).2 && !(v.2.any fun i=>i==(idOf d.1[n].1).1)) || d.1[n].1==tempN):=rfl
    rw[hob]
    obtain ⟨tb,hT⟩:∃tb,(d.1[n].1==tempN)=tb:=⟨_,rfl⟩
    have ht:(d.1[n].1==[116,101,109,112])=tb:=hT
    rw[hT]
    cases (idOf d.1[n].1).2<;>cases (v.2.any fun i=>i==(idOf d.1[n].1).1)<;>cases tb <;>
     simp only[inB_nat,h,rdA_nat,getD_lt h,ht,hb,decide_true,cond_true,cond_false,Option.bind_some,Bool.not_true,Bool.not_false,Bool.and_true,Bool.and_false,Bool.or_true,Bool.or_false,Bool.true_and,Bool.false_and,Bool.false_or,Bool.true_or,if_true,Bool.false_eq_true,if_false,hw,i1,i2,List.map_cons,List.append_assoc,List.singleton_append]
   ·have:n=d.1.length:=by omega
    subst this
    simp[ψ26.l0])
  (by have:=hd.1;omega) 0 [] (Nat.zero_le _) (Nat.le_refl _)
 have key:lp ψ26.l0 (d,v,[],0)=_:=key
 unfold ψ26.f orphP
 rw[spec_DiskOk_eq d hd,Option.bind_some]
 cases diskOk d
 ·simp
 ·simp only[Bool.not_true,cond_false,key,Option.bind_some,List.drop_zero,List.nil_append,Bool.true_eq_false,if_false]
theorem sstep_inv {op:DiskT→DiskT×Int} {w:WorkT} (h:(sstep op w).2=0):w.2=0∧(op w.1).2=0∧sstep op w=op w.1:=by
 unfold sstep at h ⊢
 split at h
 ·rename_i c;rw[if_pos c];exact ⟨c,h,rfl⟩
 ·rename_i c;exact absurd h c
theorem goneTxt {d:DiskT} {n:List UInt8} (h:(dGone n d).2=0):(fileText (dGone n d).1 n).2=false:=by
 unfold dGone at h ⊢
 rcases fileIx_cases d.1 n with ⟨e,hno⟩ | ⟨i,hi,e,hn⟩
 ·rw[if_neg (by omega)]
  show (fileText d n).2=false
  unfold fileText
  split
  ·rfl
  ·rw[ix_none e]
 ·rw[if_pos (by omega)] at h ⊢
  exact removeTxt h
theorem absGone {d:DiskT} (hk:diskOk d=true) {n m:List UInt8} (h:(fileText d n).2=false):(fileText (dGone m d).1 n).2=false:=by
 by_cases c:n=m
 ·subst c
  unfold dGone
  rw[if_neg (by rw[hasnt_ix hk h];omega)]
  exact h
 ·rw[ft_Gone hk c];exact h
theorem sDropGone:∀(names:List (List UInt8)) {w:WorkT},diskOk w.1=true→(sDrop names w).2=0→w.2=0∧(∀n,(fileText w.1 n).2=false→(fileText (sDrop names w).1 n).2=false)∧∀n∈names,(fileText (sDrop names w).1 n).2=false
 | [],w,_,h=>⟨h,fun n hn=>hn,fun n hn=>by simp at hn⟩
 | m::names,w,hk,h=>by
  have h:(sDrop names (sstep (dGone m) w)).2=0:=h
  have hk1:diskOk (sstep (dGone m) w).1=true:=dk_sstep (op:=dGone m) hk fun k=>dk_Gone k m
  obtain ⟨a1,a2,a3⟩:=sDropGone names hk1 h
  obtain ⟨h1,h2,h3⟩:=sstep_inv (op:=dGone m) a1
  have hab:∀n,(fileText w.1 n).2=false→(fileText (sstep (dGone m) w).1 n).2=false:=fun n hn=>by
   rw[h3];exact absGone hk hn
  refine ⟨h1,fun n hn=>a2 n (hab n hn),fun n hn=>?_⟩
  rcases List.mem_cons.1 hn with rfl | hn
  ·refine a2 _ ?_
   rw[h3];exact goneTxt h2
  ·exact a3 n hn
theorem srt_nodup {α:Type} {l:List (List UInt8×α)} (h:srt l):(l.map (·.1)).Nodup:=by
 unfold srt at h
 unfold List.Nodup
 rw[List.pairwise_map]
 exact h.imp fun hab=>less_ne hab
noncomputable def mergeF (s:StoreT) (d:DiskT):StoreT×DiskT×Int:=
 if storeOk s d=false then (s,d,4) else if s.1.1+2 > 100000 then (s,d,5) else mergeP s d (dumpP s d).1
theorem Merge_F {s:StoreT} {d:DiskT} (h:SmallS s d):ψR.f s d=some (mergeF s d)∧ψ23.f s d=some (mergeF s d):=by
 obtain ⟨hd,hu⟩:=h.lim
 have h1:=h.ids
 have h2:=h.dir
 have h3:=h.sm.1
 unfold ψ23.f ψR.f mergeF
 simp only[impl_StoreOk_eq s d hd hu (show s.1.2.length<1000000000 by omega) (show s.2.1.length<1000000000 by omega),spec_StoreOk_eq s d hd hu (show s.1.2.length<1000000000 by omega) (show s.2.1.length<1000000000 by omega),Option.bind_some,spec_l12Copy_eq s (show s.1.2.length<1000000000 by omega) (show s.2.1.length<1000000000 by omega),impl_copyStore_eq s (show s.1.2.length<1000000000 by omega) (show s.2.1.length<1000000000 by omega),spec_l3Copy_eq d (show d.1.length<1000000000000 by omega),impl_copyDisk_eq d (show d.1.length<1000000000000 by omega),
   impl_Dump_eq s d hd hu (show s.2.1.length<1000000000 by omega),spec_Dump_eq s d hd hu (show s.2.1.length<1000000000 by omega)]
 cases hk:storeOk s d with
 | false=>simp
 | true=>
  obtain ⟨q1,q2,q3,q4,q5⟩:=storeOk_parts hk
  have hd20:s.2.1.length≤20:=(dirOk_mem q3).1
  have hdl:=dumpP_len s d
  have hlv:=(liveOk_iff s.1).1 q2
  have hc0:(dumpP s d).2=0:=by rw[dump_map hk]
  simp only[Bool.not_true,cond_false,show w64 (s.1.1+2)=s.1.1+2 from w64_id (by omega) (by omega),Bool.true_eq_false,if_false]
  by_cases e1:s.1.1+2 > 100000
  ·rw[if_pos e1]
   simp only[e1,decide_true,cond_true,and_self]
  ·rw[if_neg e1]
   simp only[e1,decide_false,cond_false,hc0,bne_self_eq_false,impl_merge_eq s d _ q1 q2 (show s.1.1+2≤100000 by omega) q4 (show (dumpP s d).1.length<100000 by omega),spec_merge_eq s d _ q1 q2 (show s.1.1+2≤100000 by omega) q4 (show (dumpP s d).1.length<100000 by omega),Option.bind_some,and_self]
theorem parseUint_snoc (d:UInt8):∀(l:List UInt8) (a u:Nat),Lib.parseUint10 a l=.ok u→(48≤d.toNat∧d.toNat≤57)→u<1000000000000→Lib.parseUint10 a (l++[d])=.ok (u * 10+(d.toNat - 48))
 | [],a,u,h,hd,hu=>by
  have h:a=u:=by simp only[Lib.parseUint10] at h;injection h
  subst h
  show Lib.parseUint10 a [d]=_
  rw[Lib.parseUint10,if_pos hd,if_neg (by omega),if_neg (by omega)]
  rfl
 | c::l,a,u,h,hd,hu=>by
  rw[List.cons_append,Lib.parseUint10]
  rw[Lib.parseUint10] at h
  split
  ·rename_i c1
   rw[if_pos c1] at h
   split
   ·rename_i c2;rw[if_pos c2] at h;cases h
   ·rename_i c2
    rw[if_neg c2] at h
    split
    ·rename_i c3;rw[if_pos c3] at h;cases h
    ·rename_i c3
     rw[if_neg c3] at h
     exact parseUint_snoc d l _ u h hd hu
  ·rename_i c1
   rw[if_neg c1] at h;cases h
theorem parseUint_digits:∀(k n:Nat),n<k→n<1000000000000→Lib.parseUint10 0 (Lib.decDigits n)=.ok n
 | 0,n,h,_=>by omega
 | k+1,n,h,hn=>by
  have e:∀m,m<10→(UInt8.ofNat (48+m)).toNat=48+m:=fun m hm=>by simp only[UInt8.toNat_ofNat'];omega
  by_cases c:n<10
  ·rw[Lib.decDigits_one c,Lib.parseUint10,e n c,if_pos (by omega),if_neg (by omega),if_neg (by omega),Lib.parseUint10]
   congr 1;omega
  ·have:=digs_step (n:=n) (by omega)
   unfold digs at this
   rw[if_neg (by omega),if_neg (by omega)] at this
   rw[this,parseUint_snoc _ _ 0 (n / 10) (parseUint_digits k (n / 10) (by omega) (by omega)) (by rw[e _ (by omega)];omega) (by omega),e _ (by omega)]
   congr 1;omega
theorem digits_ne (n:Nat):Lib.decDigits n≠[]:=fun e=>by
 have h1:=digFold_digits (n+1) n (by omega) (1,0)
 rw[e] at h1
 have h2:=digFold_digits (n+1) n (by omega) (0,0)
 rw[e] at h2
 simp at h1 h2
 subst h2
 rw[Lib.decDigits_one (by omega)] at e
 simp at e
theorem digits_head (n:Nat) {c:UInt8} {r:List UInt8} (h:Lib.decDigits n=c::r):isDig c=true:=by
 have ha:=digs_name (n+1) n (by omega)
 have key:∀(k n:Nat),n<k→∀b∈Lib.decDigits n,isDig b=true:=by
  intro k
  induction k with
  | zero=>intro n h;omega
  | succ k ih=>
   intro n h b hb
   have e:∀m,m<10→isDig (UInt8.ofNat (48+m))=true:=fun m hm=>by
    unfold isDig
    have:(UInt8.ofNat (48+m)).toNat=48+m:=by simp only[UInt8.toNat_ofNat'];omega
    rw[this];simp;omega
   by_cases c:n<10
   ·rw[Lib.decDigits_one c] at hb
    rw[List.mem_singleton.1 hb];exact e n c
   ·have:=digs_step (n:=n) (by omega)
    unfold digs at this
    rw[if_neg (by omega),if_neg (by omega)] at this
    rw[this] at hb
    rcases List.mem_append.1 hb with hb | hb
    ·exact ih (n / 10) (by omega) b hb
    ·rw[List.mem_singleton.1 hb];exact e _ (by omega)
 exact key (n+1) n (by omega) c (by rw[h];exact List.mem_cons_self)
theorem atoiAll_digits {n:Nat} (hn:n<1000000000000):Lib.atoiAll (Lib.decDigits n)=.ok (n:Int):=by
 have hp:=parseUint_digits (n+1) n (by omega) hn
 cases e:Lib.decDigits n with
 | nil=>exact absurd e (digits_ne n)
 | cons c r=>
  have hd:=digits_head n e
  unfold isDig at hd
  simp only[Bool.and_eq_true,decide_eq_true_eq] at hd
  rw[Lib.atoiAll_plain c r (by omega) (by omega)]
  rw[e] at hp
  unfold Lib.parseMag
  rw[if_neg (by simp),hp]
  unfold Lib.signless
  simp
  omega
def readDecI (s:List UInt8):Int×Bool:=
 match Lib.atoiAll s with
 | .ok n=>if Lib.itoa n=s∧-999999999≤n∧n≤999999999 then (n,true) else (0,false)
 | _=>(0,false)
theorem impl_Dec_eq (n:Int) (h:-9223372036854775808≤n∧n≤9223372036854775807):ψ5.f n=some (Lib.itoa n):=by
 unfold ψ5.f strconv_Itoa.f
 have:(decide (-9223372036854775808≤n) && decide (n≤9223372036854775807))=true:=by simp;omega
 rw[this];rfl
theorem impl_ReadDec_eq (s:List UInt8) (hl:s.length<1000000000000):ψV.f s=some (readDecI s):=by
 unfold ψV.f readDecI strconv_Atoi.f
 have h1:decide (s.length≤281474976710656)=true:=by simp;omega
 rw[h1,cond_true]
 rcases num3 (Lib.atoiAll s) with ⟨n,ha⟩ | ha | ha
 ·rw[ha]
  have hb:=Lib.atoiAll_bounds ha
  simp only[Option.bind_some,cond_false,impl_Dec_eq n hb,impl_in_eq]
  by_cases c:Lib.itoa n=s
  ·have:(Lib.itoa n==s)=true:=by simpa using c
   simp only[this,Bool.not_true,cond_false]
   by_cases c2:-999999999≤n∧n≤999999999
   ·rw[if_pos ⟨c,c2⟩]
    simp[c2]
   ·rw[if_neg (fun z=>c2 z.2)]
    have:decide (-999999999≤n∧n≤999999999)=false:=decide_eq_false c2
    simp only[this,Bool.not_false,cond_true]
  ·have:(Lib.itoa n==s)=false:=by simpa using c
   rw[if_neg (fun z=>c z.1)]
   simp only[this,Bool.not_false,cond_true]
 ·simp[ha]
 ·simp[ha]
theorem readDecI_true {s:List UInt8} {n:Int} (h:readDecI s=(n,true)):Lib.itoa n=s:=by
 unfold readDecI at h
 split at h
 ·split at h
  ·rename_i c
   simp only[Prod.mk.injEq,and_true] at h
   rw[←h];exact c.1
  ·simp at h
 ·simp at h
theorem readDecI_digits {n:Nat} (h:n≤100000):readDecI (Lib.decDigits n)=((n:Int),true):=by
 unfold readDecI
 rw[atoiAll_digits (by omega)]
 simp only
 rw[if_pos ⟨itoa_nat n,by omega,by omega⟩]
theorem HasPrefix_eq (s p:List UInt8):ψ3O.f s p=some (decide (p.length≤s.length) && (s.take p.length==p)):=by
 unfold ψ3O.f
 by_cases c:p.length≤s.length
 ·have c1:(s.length:Int)≥(p.length:Int):=by omega
  have c2:(decide (0≤(p.length:Int)) && decide ((p.length:Int)≤(s.length:Int)))=true:=by simp;omega
  rw[c2,decide_eq_true c1,cond_true,cond_true,decide_eq_true c,Bool.true_and,Int.toNat_natCast]
 ·have c1:¬(s.length:Int)≥(p.length:Int):=by omega
  simp only[c1,c,decide_false,cond_false,Bool.false_and]
theorem CutPrefix_yes (p r:List UInt8):ψ3L.f (p++r) p=some (r,true):=by
 unfold ψ3L.f ψ3N.f
 rw[HasPrefix_eq]
 have c1:decide (p.length≤(p++r).length)=true:=by simp
 have c2:((p++r).take p.length==p)=true:=by rw[List.take_left];simp
 have c3:(decide (0≤(p.length:Int)) && decide ((p.length:Int)≤((p++r).length:Int)))=true:=by rw[List.length_append];simp;omega
 simp only[c1,c2,Bool.true_and,Option.bind_some,Bool.not_true,cond_false,c3,cond_true,Int.toNat_natCast,List.drop_left]
theorem CutPrefix_no {s p:List UInt8} (h:¬∃r,s=p++r):ψ3L.f s p=some (s,false):=by
 unfold ψ3L.f ψ3N.f
 rw[HasPrefix_eq]
 have c:(decide (p.length≤s.length) && (s.take p.length==p))=false:=by
  cases e:(decide (p.length≤s.length) && (s.take p.length==p)) with
  | false=>rfl
  | true=>
   simp only[Bool.and_eq_true,decide_eq_true_eq,beq_iff_eq] at e
   exact absurd ⟨s.drop p.length,by rw[←e.2,List.length_take,Nat.min_eq_left e.1,List.take_append_drop]⟩ h
 simp only[c,Option.bind_some,Bool.not_false,cond_true]
theorem seg_pre {id:Int} (h:1≤id∧id≤100000):segName id=[115,101,103]++Lib.decDigits id.toNat:=by unfold segName nameN;rw[if_pos h]
theorem hint_pre {id:Int} (h:1≤id∧id≤100000):hintName id=[104,105,110,116]++Lib.decDigits id.toNat:=by unfold hintName nameN;rw[if_pos h]
theorem idOf_rest {w r:List UInt8} {name:List UInt8} (hn:name=w++r) (hw:(w=[115,101,103]∧∀id,1≤id∧id≤100000→name≠hintName id)∨(w=[104,105,110,116]∧∀id,1≤id∧id≤100000→name≠segName id)) :
  (if (readDecI r).2=true∧1≤(readDecI r).1∧(readDecI r).1≤100000 then ((readDecI r).1,true) else (0,false))=idOf name:=by
 have hnm:∀id,1≤id∧id≤100000→Lib.decDigits id.toNat=r→named name id:=fun id hid e=>by
  refine ⟨hid,?_⟩
  rcases hw with ⟨hw,_⟩ | ⟨hw,_⟩
  ·left;rw[hn,hw,←e,seg_pre hid]
  ·right;rw[hn,hw,←e,hint_pre hid]
 by_cases c:(readDecI r).2=true∧1≤(readDecI r).1∧(readDecI r).1≤100000
 ·rw[if_pos c]
  have ht:readDecI r=((readDecI r).1,true):=by rw[←c.1]
  have hi:=readDecI_true ht
  generalize (readDecI r).1=n at c hi
  obtain ⟨m,rfl⟩:∃m:Nat,n=(m:Int):=⟨n.toNat,by omega⟩
  rw[itoa_nat] at hi
  exact (idOf_yes (hnm (m:Int) c.2 (by rw[Int.toNat_natCast];exact hi))).symm
 ·rw[if_neg c,idOf_no]
  rintro ⟨id,hid,hor⟩
  apply c
  have hr:r=Lib.decDigits id.toNat:=by
   rcases hw with ⟨hw,hno⟩ | ⟨hw,hno⟩
   ·rcases hor with e | e
    ·rw[hn,hw,seg_pre hid] at e;exact List.append_cancel_left e
    ·exact absurd e (hno id hid)
   ·rcases hor with e | e
    ·exact absurd e (hno id hid)
    ·rw[hn,hw,hint_pre hid] at e;exact List.append_cancel_left e
  have:=readDecI_digits (n:=id.toNat) (by omega)
  rw[←hr] at this
  rw[this]
  exact ⟨rfl,by show (1:Int)≤(id.toNat:Int);omega,by show (id.toNat:Int)≤100000;omega⟩
theorem impl_IdOf_eq (name:List UInt8) (hl:name.length<1000000000000):ψO.f name=some (idOf name):=by
 have fin:∀(r:List UInt8),r.length<1000000000000→((ψV.f r).bind fun (t3_0,t3_1)=>
   bif !true then some ((0:Int),false) else
   bif !t3_1 then some (0,false) else
   (ψ15.f t3_0 1 100000).bind fun t4=>bif !t4 then some (0,false) else some (t3_0,true))=some (if (readDecI r).2=true∧1≤(readDecI r).1∧(readDecI r).1≤100000 then ((readDecI r).1,true) else (0,false)):=fun r hr=>by
  rw[impl_ReadDec_eq r hr,Option.bind_some]
  generalize readDecI r=p
  obtain ⟨n,b⟩:=p
  simp only[Bool.not_true,cond_false,impl_in_eq,Option.bind_some]
  cases b
  ·simp
  ·by_cases c:1≤n∧n≤100000
   ·simp[c]
   ·have:decide (1≤n∧n≤100000)=false:=decide_eq_false c
    simp only[Bool.not_true,cond_false,this,Bool.not_false,cond_true]
    rw[if_neg (fun z=>c z.2)]
 unfold ψO.f
 by_cases h1:∃r,name=[115,101,103]++r
 ·obtain ⟨r,rfl⟩:=h1
  rw[List.length_append] at hl
  rw[CutPrefix_yes]
  have:=fin r (by omega)
  simp only[Option.bind_some,Bool.not_true,cond_false] at this ⊢
  rw[this,idOf_rest rfl (.inl ⟨rfl,fun id hid e=>by
   rw[hint_pre hid] at e
   have:=congrArg (fun l=>l.getD 0 0) e
   simp at this⟩)]
 ·rw[CutPrefix_no h1]
  by_cases h2:∃r,name=[104,105,110,116]++r
  ·obtain ⟨r,rfl⟩:=h2
   rw[List.length_append] at hl
   rw[Option.bind_some]
   simp only[Bool.not_false,cond_true]
   rw[CutPrefix_yes]
   have:=fin r (by omega)
   simp only[Option.bind_some,Bool.not_true,cond_false] at this ⊢
   rw[this,idOf_rest rfl (.inr ⟨rfl,fun id hid e=>by
    rw[seg_pre hid] at e
    have:=congrArg (fun l=>l.getD 0 0) e
    simp at this⟩)]
  ·rw[Option.bind_some]
   simp only[Bool.not_false,cond_true]
   rw[CutPrefix_no h2]
   simp only[Option.bind_some,impl_ReadDec_eq name hl,Bool.not_false,cond_true]
   rw[idOf_no]
   rintro ⟨id,hid,e | e⟩
   ·exact h1 ⟨_,e.trans (seg_pre hid)⟩
   ·exact h2 ⟨_,e.trans (hint_pre hid)⟩
theorem impl_hasInt_eq (l:List Int) (n:Int) (hl:l.length<1000000000):ψ13.f l n=some (l.any fun x=>x==n):=by
 have key:=lp_up (step:=ψ13.l0) (fun k (_:Unit)=>(n,l,(l.length:Int),(k:Int))) l.length (fun k _=>if (l.drop k).any (fun x=>x==n)=true then .inr true else .inl ()) (fun _ _=>True)
  (fun rec k _ hk _ ih=>by
   rcases Nat.lt_or_ge k l.length with h | h
   ·have hw:=w64_succ (show k+1<9223372036854775808 by omega)
    rw[List.drop_eq_getElem_cons h,List.any_cons]
    simp only[ψ13.l0,Int.ofNat_lt,h,decide_true,cond_true,inB_nat,rdA_nat,getD_lt h]
    cases hq:(l[k]==n)
    ·simp only[cond_false,hw,ih () h trivial,Bool.false_or]
    ·simp
   ·have:k=l.length:=by omega
    subst this
    simp[ψ13.l0])
  (by omega) 0 () (Nat.zero_le _) trivial
 have key:lp ψ13.l0 (n,l,(l.length:Int),0)=_:=key
 unfold ψ13.f
 rw[key,Option.bind_some,List.drop_zero]
 cases l.any fun x=>x==n
 ·simp[caseS_l]
 ·simp[caseS_r]
theorem impl_Orphans_eq (d:DiskT) (v:LiveT) (hd:dlim d) (hv:v.2.length<1000000000):ψU.f d v=some (orphP d v):=by
 have key:=lp_up (step:=ψU.l0) (fun n (acc:List (List UInt8))=>(v,acc,d.1,(d.1.length:Int),(n:Int))) d.1.length (fun n acc=>acc++((d.1.drop n).filter (orphB v)).map (·.1)) (fun n acc=>acc.length≤n)
  (fun rec n acc hn ha ih=>by
   rcases Nat.lt_or_ge n d.1.length with h | h
   ·have hlen:=hd.1
    have hw:=w64_succ (show n+1<9223372036854775808 by omega)
    have hnm:=hd.2.2 _ (List.getElem_mem h)
    have hb:(acc.length+([d.1[n].1]:List (List UInt8)).length) * 16≤140737488355328:=lim16' (by omega)
    have i1:=ih (acc++[d.1[n].1]) h (by rw[List.length_append];show acc.length+1≤n+1;omega)
    have i2:=ih acc h (by omega)
    rw[List.drop_eq_getElem_cons h,List.filter_cons]
    simp only[ψU.l0,Int.ofNat_lt,h,decide_true,cond_true,inB_nat,rdA_nat,getD_lt h]
    rw[impl_IdOf_eq d.1[n].1 hnm,Option.bind_some]
    have hob:orphB v d.1[n]=(((idOf d.1[n].1).2 && !(v.2.any fun i=>i==(idOf d.1[n].1).1)) || d.1[n].1==tempN):=rfl
    rw[hob]
    obtain ⟨tb,hT⟩:∃tb,(d.1[n].1==tempN)=tb:=⟨_,rfl⟩
    have ht:(d.1[n].1==[116,101,109,112])=tb:=hT
    rw[hT]
    simp only[impl_hasInt_eq v.2 _ hv,ht]
    cases (idOf d.1[n].1).2<;>cases (v.2.any fun i=>i==(idOf d.1[n].1).1)<;>cases tb <;>
     simp only[inB_nat,h,rdA_nat,getD_lt h,ht,hb,decide_true,cond_true,cond_false,Option.bind_some,Bool.not_true,Bool.not_false,Bool.and_true,Bool.and_false,Bool.or_true,Bool.or_false,Bool.true_and,Bool.false_and,Bool.false_or,Bool.true_or,if_true,Bool.false_eq_true,if_false,hw,i1,i2,List.map_cons,List.append_assoc,List.singleton_append]
   ·have:n=d.1.length:=by omega
    subst this
    simp[ψU.l0])
  (by have:=hd.1;omega) 0 [] (Nat.zero_le _) (Nat.le_refl _)
 have key:lp ψU.l0 (v,[],d.1,(d.1.length:Int),0)=_:=key
 unfold ψU.f orphP
 rw[impl_DiskOk_eq d hd,Option.bind_some]
 cases diskOk d
 ·simp
 ·simp only[Bool.not_true,cond_false,key,Option.bind_some,List.drop_zero,List.nil_append,Bool.true_eq_false,if_false]
def isLive (s:List UInt8) (v:LiveT):Prop:=liveOk v=true∧showLive v=s
def zeroLive:LiveT:=(0,[])
def liveBody (v:LiveT):List UInt8:=varT v.1++varT (v.2.length:Int)++(v.2.map varT).flatten
theorem live_in {v:LiveT} (h:liveOk v=true):numIn v.1∧(∀x∈v.2,numIn x∧x≤100000)∧1≤v.2.length∧v.2.length≤60∧v.1≤100000:=by
 obtain ⟨k1,k2,k3,k4⟩:=(liveOk_iff v).1 h
 rw[w64_id (by omega) (by omega)] at k1
 have:=idsOk_mem _ _ k1
 refine ⟨⟨by omega,by omega⟩,fun x hx=>?_,k3,k4,k2.2⟩
 have:=this x hx
 exact ⟨⟨by omega,by omega⟩,by omega⟩
theorem varT_small {n:Int} (h:0≤n∧n≤100000):(varT n).length≤3:=by
 obtain ⟨m,rfl⟩:∃m:Nat,n=(m:Int):=⟨n.toNat,by omega⟩
 rw[varT_nat m (by omega)]
 exact (varN_len 2 m (by show m<2097152;omega)).2
theorem flat_len {l:List Int} (h:∀x∈l,0≤x∧x≤100000):((l.map varT).flatten).length≤3 * l.length:=by
 induction l with
 | nil=>simp
 | cons x l ih=>
  have h1:=varT_small (h x List.mem_cons_self)
  have h2:=ih (fun y hy=>h y (List.mem_cons_of_mem _ hy))
  simp only[List.map_cons,List.flatten_cons,List.length_append,List.length_cons]
  omega
theorem liveBody_len {v:LiveT} (h:liveOk v=true):(liveBody v).length≤200:=by
 obtain ⟨h1,h2,h3,h4,h5⟩:=live_in h
 have a1:=varT_small ⟨h1.1,h5⟩
 have a2:=varT_small (n:=(v.2.length:Int)) (by omega)
 have a3:=flat_len (l:=v.2) (fun x hx=>⟨(h2 x hx).1.1,(h2 x hx).2⟩)
 unfold liveBody
 simp only[List.length_append];omega
theorem isLive_frame {s:List UInt8} {v:LiveT} (h:isLive s v):s=frame (liveBody v)∧unframe s=(liveBody v,(s.length:Int))∧5≤s.length:=by
 have e:s=frame (liveBody v):=by
  rw[←h.2];unfold showLive;rw[if_neg (by rw[h.1];simp)];rfl
 have hb:=unframe_back (liveBody_len h.1) []
 rw[List.append_nil,←e] at hb
 exact ⟨e,hb,by rw[e];exact frame_pos (liveBody_len h.1)⟩
theorem impl_ReadLive_back {s:List UInt8} {v:LiveT} (h:isLive s v):ψY.f s=some (v,true):=by
 obtain ⟨e1,e2,e3⟩:=isLive_frame h
 obtain ⟨n1,n2,n3,n4,n5⟩:=live_in h.1
 have hbl:=liveBody_len h.1
 have hsl:s.length≤211:=by rw[e1];exact frame_len _
 obtain ⟨nx,ids⟩:=v
 have hcnt:numIn (ids.length:Int):=⟨by omega,by have:ids.length≤60:=n4;omega⟩
 have hbd:liveBody (nx,ids)=varT nx++(varT (ids.length:Int)++(ids.map varT).flatten):=by unfold liveBody;rw[List.append_assoc]
 have hbl2:=hbl
 rw[hbd] at hbl2
 simp only[List.length_append] at hbl2
 have m1:=num_back n1 (varT (ids.length:Int)++(ids.map varT).flatten) (by simp only[List.length_append];omega)
 have m2:=num_back hcnt (ids.map varT).flatten (by simp only[List.length_append];omega)
 have n4:ids.length≤60:=n4
 have key:=lp_up (step:=ψY.l0) (fun n (_:Unit)=>(s,((0,[]):LiveT),(s.length:Int),(((ids.drop n).map varT).flatten,false),((nx,ids.take n):LiveT),(ids.length:Int),(n:Int))) ids.length (fun _ _=>(s,(0,[]),(s.length:Int),([],false),(nx,ids))) (fun _ _=>True)
  (fun rec n _ hn _ ih=>by
   rcases Nat.lt_or_ge n ids.length with h1 | h1
   ·have hw:=w64_succ (show n+1<9223372036854775808 by omega)
    have hin:=(n2 _ (List.getElem_mem h1)).1
    have hd:((ids.drop n).map varT).flatten=varT ids[n]++((ids.drop (n+1)).map varT).flatten:=by
     rw[List.drop_eq_getElem_cons h1];rfl
    have hfl:((ids.drop n).map varT).flatten.length≤3 * (ids.drop n).length:=flat_len (fun x hx=>⟨(n2 x (List.mem_of_mem_drop hx)).1.1,(n2 x (List.mem_of_mem_drop hx)).2⟩)
    have m3:=num_back hin ((ids.drop (n+1)).map varT).flatten (by rw[←hd];rw[List.length_drop] at hfl;omega)
    have hb:((ids.take n).length+([ids[n]]:List Int).length) * 8≤140737488355328:=lim8 (by rw[List.length_take];omega)
    have hi:ids.take n++[ids[n]]=ids.take (n+1):=(List.take_succ_eq_append_getElem h1).symm
    simp only[ψY.l0,Int.ofNat_lt,h1,decide_true,cond_true,hd,Bool.not_false,m3,Option.bind_some,hb,hw,hi,ih () h1 trivial]
   ·have:n=ids.length:=by omega
    subst this
    simp[ψY.l0])
  (by omega) 0 () (Nat.zero_le _) trivial
 have key:lp ψY.l0 (s,(0,[]),(s.length:Int),((ids.map varT).flatten,false),(nx,[]),(ids.length:Int),0)=_:=key
 unfold ψY.f
 rw[impl_Unframe_eq s (by omega),e2,hbd,Option.bind_some]
 simp only[m1,m2,Option.bind_some,key]
 have c1:((s.length:Int)==0)=false:=by
  have:¬(s.length:Int)=0:=by omega
  simpa using this
 have hok:liveOk (nx,ids)=true:=h.1
 simp only[c1,cond_false,bne_self_eq_false,beq_self_eq_true,Bool.not_true,impl_LiveOk_eq (nx,ids) (by show ids.length<2 ^ 62;omega),Option.bind_some,hok]
theorem ReadLive_loop (s:List UInt8) (u:Int) (B:List UInt8) (hB:B.length<1000000000000) (n1:Int) (st:ScanT) (pre:List UInt8) (cnt:Int) (hst:st.1.length≤B.length) (hpre:st.2=false→0≤cnt∧B=pre++st.1) :
  ∃st' ids,lp ψY.l0 (s,(0,[]),u,st,(n1,[]),cnt,0)=some (s,(0,[]),u,st',(n1,ids))∧ids.length≤B.length+1 ∧
   (st'.2=false→st.2=false∧(ids.length:Int)=cnt∧(∀x∈ids,numIn x)∧B=pre++((ids.map varT).flatten++st'.1)):=by
 have key:=lp_ok (step:=ψY.l0) (a:=(s,((0,[]):LiveT),u,st,((n1,[]):LiveT),cnt,0))
  (fun a=>∃(st':ScanT) (ids:List Int),a=(s,(0,[]),u,st',(n1,ids),cnt,(ids.length:Int))∧st'.1.length≤B.length∧(st'.2=false→ids.length+st'.1.length≤B.length)∧ids.length≤B.length+1 ∧
   (st'.2=false→st.2=false∧(ids.length:Int)≤cnt∧(∀x∈ids,numIn x)∧B=pre++((ids.map varT).flatten++st'.1)))
  (fun a=>if a.2.2.2.1.2=true then 0 else a.2.2.2.1.1.length+1)
  (fun b=>∃(st':ScanT) (ids:List Int),b=(s,(0,[]),u,st',(n1,ids))∧ids.length≤B.length+1∧(st'.2=false→st.2=false∧(ids.length:Int)=cnt∧(∀x∈ids,numIn x)∧B=pre++((ids.map varT).flatten++st'.1)))
  (fun rec a ha=>by
   obtain ⟨st',ids,rfl,h1,h2,h4,h3⟩:=ha
   obtain ⟨t,bad⟩:=st'
   simp only at h1 h2 h3 h4
   by_cases c:(ids.length:Int)<cnt
   ·cases bad with
    | true=>
     left
     exact ⟨(s,(0,[]),u,(t,true),(n1,ids)),by simp only[ψY.l0,c,decide_true,cond_true,Bool.not_true,cond_false],(t,true),ids,rfl,h4,fun e=>by simp at e⟩
    | false=>
     right
     obtain ⟨g1,g2,g3,g4⟩:=h3 rfl
     have g5:=h2 rfl
     have hw:=w64_succ (show ids.length+1<9223372036854775808 by omega)
     rcases num_cases t (by omega) with ⟨x,r,m,et,hx⟩ | m
     ·have hx1:=(readVar_back hx []).2
      have hle:t.length=(varT x).length+r.length:=by rw[et,List.length_append]
      have hb:(ids.length+([x]:List Int).length) * 8≤140737488355328:=lim8 (by omega)
      refine ⟨(s,(0,[]),u,(r,false),(n1,ids++[x]),cnt,((ids.length+1:Nat):Int)),⟨(r,false),ids++[x],by simp only[List.length_append,List.length_singleton],by show r.length≤_;omega,fun _=>by simp only[List.length_append,List.length_singleton];omega,by simp only[List.length_append,List.length_singleton];omega,fun _=>⟨g1,by simp only[List.length_append,List.length_singleton];omega,fun y hy=>?_,?_⟩⟩,?_,?_⟩
      ·rcases List.mem_append.1 hy with hy | hy
       ·exact g3 y hy
       ·rw[List.mem_singleton.1 hy];exact hx
      ·rw[g4,et];simp
      ·simp only[Bool.false_eq_true,if_false];omega
      ·simp only[ψY.l0,c,decide_true,cond_true,Bool.not_false,m,Option.bind_some,hb,hw]
     ·have hb:(ids.length+([0]:List Int).length) * 8≤140737488355328:=lim8 (by omega)
      refine ⟨(s,(0,[]),u,(t,true),(n1,ids++[0]),cnt,((ids.length+1:Nat):Int)),⟨(t,true),ids++[0],by simp only[List.length_append,List.length_singleton],h1,fun e=>by simp at e,by simp only[List.length_append,List.length_singleton];omega,fun e=>by simp at e⟩,?_,?_⟩
      ·simp only[if_true,Bool.false_eq_true,if_false];omega
      ·simp only[ψY.l0,c,decide_true,cond_true,Bool.not_false,m,Option.bind_some,hb,hw]
   ·left
    refine ⟨(s,(0,[]),u,(t,bad),(n1,ids)),by simp only[ψY.l0,c,decide_false,cond_false],(t,bad),ids,rfl,h4,fun e=>?_⟩
    obtain ⟨g1,g2,g3,g4⟩:=h3 e
    exact ⟨g1,by omega,g3,g4⟩)
  ⟨st,[],rfl,hst,fun _=>by simp;exact hst,by simp,fun e=>⟨e,by simpa using (hpre e).1,by simp,by simpa using (hpre e).2⟩⟩ (by simp only;split<;>omega)
 obtain ⟨b,eb,st',ids,rfl,h1,h2⟩:=key
 exact ⟨st',ids,eb,h1,h2⟩
theorem impl_ReadLive_tot (s:List UInt8) (hl:s.length<1000000000):∃res:LiveT×Bool,ψY.f s=some res∧(res=(zeroLive,false)∨∃v,res=(v,true)∧isLive s v):=by
 have hul:=unframe_len s
 unfold ψY.f
 rw[impl_Unframe_eq s (by omega),Option.bind_some]
 -- the two numbers ahead
 have first:∃(n1 n2:Int) (st:ScanT) (pre:List UInt8),((ψ1B.f ((unframe s).1,false)).bind fun (t2_0,t2_1)=>(ψ1B.f t2_1).bind fun (t3_0,t3_1)=>some (t2_0,t3_0,t3_1))=some (n1,n2,st)∧st.1.length≤(unframe s).1.length ∧
   (st.2=false→numIn n1∧numIn n2∧pre=varT n1++varT n2∧(unframe s).1=pre++st.1):=by
  rcases num_cases (unframe s).1 (by omega) with ⟨x,r,m,et,hx⟩ | m
  ·have hle:(unframe s).1.length=(varT x).length+r.length:=by
    have:=congrArg List.length et
    rw[List.length_append] at this;exact this
   rcases num_cases r (by omega) with ⟨y,q,m2,et2,hy⟩ | m2
   ·have hle2:r.length=(varT y).length+q.length:=by
     have:=congrArg List.length et2
     rw[List.length_append] at this;exact this
    exact ⟨x,y,(q,false),varT x++varT y,by simp only[m,m2,Option.bind_some],by show q.length≤_;omega,fun _=>⟨hx,hy,rfl,by rw[et,et2,List.append_assoc]⟩⟩
   ·exact ⟨x,0,(r,true),[],by simp only[m,m2,Option.bind_some],by show r.length≤_;omega,fun e=>by simp at e⟩
  ·exact ⟨0,0,((unframe s).1,true),[],by simp only[m,num_bad _ (show (unframe s).1.length<2 ^ 62 by omega),Option.bind_some],Nat.le_refl _,fun e=>by simp at e⟩
 obtain ⟨n1,n2,st,pre,e1,e2,e3⟩:=first
 obtain ⟨st',ids,eL,h1,h2⟩:=ReadLive_loop s (unframe s).2 (unframe s).1 (by omega) n1 st pre n2 e2 (fun e=>⟨(e3 e).2.1.1,(e3 e).2.2.2⟩)
 have hrest:((ψ1B.f ((unframe s).1,false)).bind fun (t2_0,t2_1)=>(ψ1B.f t2_1).bind fun (t3_0,t3_1)=>
   (lp ψY.l0 (s,((0,[]):LiveT),(unframe s).2,t3_1,(t2_0,[]),t3_0,0)).bind (fun (x0,x2,x5,x6,x7)=>
   bif x5==0 then some ((0,[]),false) else
   bif x5 != (x0.length:Int) then some ((0,[]),false) else
   bif x6.2 then some ((0,[]),false) else
   bif !(x6.1==[]) then some ((0,[]),false) else
   (ψQ.f x7).bind fun t6=>bif !t6 then some ((0,[]),false) else some (x7,true))) =
   (bif (unframe s).2==0 then some (((0,[]):LiveT),false) else
   bif (unframe s).2 != (s.length:Int) then some ((0,[]),false) else
   bif st'.2 then some ((0,[]),false) else
   bif !(st'.1==[]) then some ((0,[]),false) else
   (ψQ.f (n1,ids)).bind fun t6=>bif !t6 then some ((0,[]),false) else some ((n1,ids),true)):=by
  cases ha:ψ1B.f ((unframe s).1,false) with
  | none=>rw[ha] at e1;simp at e1
  | some p=>
   obtain ⟨a1,a2⟩:=p
   rw[ha] at e1
   simp only[Option.bind_some] at e1 ⊢
   cases hb:ψ1B.f a2 with
   | none=>rw[hb] at e1;simp at e1
   | some q=>
    obtain ⟨b1,b2⟩:=q
    rw[hb] at e1
    simp only[Option.bind_some,Option.some.injEq,Prod.mk.injEq] at e1 ⊢
    obtain ⟨rfl,rfl,rfl⟩:=e1
    rw[eL];rfl
 suffices hs:∃res:LiveT×Bool,(bif (unframe s).2==0 then some (((0,[]):LiveT),false) else
   bif (unframe s).2 != (s.length:Int) then some ((0,[]),false) else
   bif st'.2 then some ((0,[]),false) else
   bif !(st'.1==[]) then some ((0,[]),false) else
   (ψQ.f (n1,ids)).bind fun t6=>bif !t6 then some ((0,[]),false) else some ((n1,ids),true))=some res∧(res=(zeroLive,false)∨∃v,res=(v,true)∧isLive s v) by
  obtain ⟨res,e,p⟩:=hs
  exact ⟨res,hrest.trans e,p⟩
 by_cases c1:(unframe s).2=0
 ·have d1:((unframe s).2==0)=true:=by simpa using c1
  exact ⟨(zeroLive,false),by rw[d1];rfl,.inl rfl⟩
 have d1:((unframe s).2==0)=false:=by simpa using c1
 rw[d1,cond_false]
 by_cases c2:(unframe s).2=(s.length:Int)
 rotate_left
 ·have d2:((unframe s).2 != (s.length:Int))=true:=by simpa using c2
  exact ⟨(zeroLive,false),by rw[d2];rfl,.inl rfl⟩
 have d2:((unframe s).2 != (s.length:Int))=false:=by simpa using c2
 rw[d2,cond_false]
 cases c3:st'.2 with
 | true=>exact ⟨(zeroLive,false),rfl,.inl rfl⟩
 | false=>
  rw[cond_false]
  obtain ⟨g1,g2,g3,g4⟩:=h2 c3
  by_cases c4:st'.1=[]
  rotate_left
  ·have d4:(st'.1==[])=false:=by simpa using c4
   exact ⟨(zeroLive,false),by rw[d4];rfl,.inl rfl⟩
  have d4:(st'.1==[])=true:=by simpa using c4
  rw[d4,Bool.not_true,cond_false,impl_LiveOk_eq (n1,ids) (by show ids.length<2 ^ 62;omega),Option.bind_some]
  cases c5:liveOk (n1,ids) with
  | false=>exact ⟨(zeroLive,false),rfl,.inl rfl⟩
  | true=>
   refine ⟨((n1,ids),true),rfl,.inr ⟨(n1,ids),rfl,c5,?_⟩⟩
   obtain ⟨t,r,f1,f2,f3⟩:=unframe_some c1
   obtain ⟨k1,k2,k3,k4⟩:=e3 g1
   have ht:(unframe s).1=t:=by rw[f3]
   have hlen:((frame t).length:Int)=(s.length:Int):=by rw[←c2,f3]
   have hr:r=[]:=by
    have:=congrArg List.length f1
    rw[List.length_append] at this
    exact List.length_eq_zero_iff.1 (by omega)
   unfold showLive
   rw[if_neg (by rw[c5];simp)]
   rw[f1,hr,List.append_nil,←ht,g4,k3,c4,←g2]
   simp only[List.append_nil]
theorem spec_ReadLive_back {s:List UInt8} {v:LiveT} (h:isLive s v):ψ2C.f s=some (v,true):=by
 obtain ⟨e1,e2,e3⟩:=isLive_frame h
 obtain ⟨n1,n2,n3,n4,n5⟩:=live_in h.1
 have hbl:=liveBody_len h.1
 have hsl:s.length≤211:=by rw[e1];exact frame_len _
 have hsh:=h.2
 obtain ⟨nx,ids⟩:=v
 have n4:ids.length≤60:=n4
 have hcnt:numIn (ids.length:Int):=⟨by omega,by omega⟩
 have hbd:liveBody (nx,ids)=varT nx++(varT (ids.length:Int)++(ids.map varT).flatten):=by unfold liveBody;rw[List.append_assoc]
 have hbl2:=hbl
 rw[hbd] at hbl2
 simp only[List.length_append] at hbl2
 have r1:=readVar_back n1 (varT (ids.length:Int)++(ids.map varT).flatten)
 have r2:=readVar_back hcnt (ids.map varT).flatten
 generalize hT:varT nx++(varT (ids.length:Int)++(ids.map varT).flatten)=T at *
 have hTl:T.length=(varT nx).length+((varT (ids.length:Int)).length+((ids.map varT).flatten).length):=by rw[←hT];simp only[List.length_append]
 have hat:∀n,n≤ids.length→T.drop ((varT nx).length+(varT (ids.length:Int)).length+((ids.take n).map varT).flatten.length)=((ids.drop n).map varT).flatten:=fun n hn=>by
  have e:T=(varT nx++varT (ids.length:Int)++((ids.take n).map varT).flatten)++((ids.drop n).map varT).flatten:=by
   rw[←hT]
   simp only[List.append_assoc]
   congr 2
   rw[←List.flatten_append,←List.map_append,List.take_append_drop]
  rw[e,show (varT nx).length+(varT (ids.length:Int)).length+((ids.take n).map varT).flatten.length=(varT nx++varT (ids.length:Int)++((ids.take n).map varT).flatten).length by simp only[List.length_append],List.drop_left]
 have hfle:∀n,((ids.take n).map varT).flatten.length≤200:=fun n=>by
  have:((ids.take n).map varT).flatten.length≤3 * (ids.take n).length:=flat_len (fun x hx=>⟨(n2 x (List.mem_of_mem_take hx)).1.1,(n2 x (List.mem_of_mem_take hx)).2⟩)
  rw[List.length_take] at this;omega
 have key:=lp_up (step:=ψ2C.l0) (fun n (_:Unit)=>(s,((0,[]):LiveT),T,(ids.length:Int),((nx,ids.take n):LiveT),(((varT nx).length+(varT (ids.length:Int)).length+((ids.take n).map varT).flatten.length:Nat):Int),(n:Int))) ids.length (fun _ _=>(s,(0,[]),(nx,ids))) (fun _ _=>True)
  (fun rec n _ hn _ ih=>by
   rcases Nat.lt_or_ge n ids.length with h1 | h1
   ·have hw:=w64_succ (show n+1<9223372036854775808 by omega)
    have hin:=(n2 _ (List.getElem_mem h1)).1
    have hc60:(n:Int)<60:=by omega
    have hd:((ids.drop n).map varT).flatten=varT ids[n]++((ids.drop (n+1)).map varT).flatten:=by
     rw[List.drop_eq_getElem_cons h1];rfl
    have hta:((ids.take (n+1)).map varT).flatten.length=((ids.take n).map varT).flatten.length+(varT ids[n]).length:=by
     rw[List.take_succ_eq_append_getElem h1,List.map_append,List.flatten_append,List.length_append]
     show _+(varT ids[n]++[]).length=_
     rw[List.append_nil]
    have hdl:=congrArg List.length (hat n hn)
    rw[List.length_drop] at hdl
    have r3:=readVar_back hin ((ids.drop (n+1)).map varT).flatten
    have h200:=hfle n
    have hvl:=varT_len ids[n]
    have hvl1:=varT_len nx
    have hvl2:=varT_len (ids.length:Int)
    have hdl2:=congrArg List.length hd
    rw[List.length_append] at hdl2
    have hin2:(decide (0≤(((varT nx).length+(varT (ids.length:Int)).length+((ids.take n).map varT).flatten.length:Nat):Int)) && decide ((((varT nx).length+(varT (ids.length:Int)).length+((ids.take n).map varT).flatten.length:Nat):Int)≤(T.length:Int)))=true:=by
     simp only[Bool.and_eq_true,decide_eq_true_eq];omega
    have hb:((ids.take n).length+([ids[n]]:List Int).length) * 8≤140737488355328:=lim8 (by rw[List.length_take];omega)
    have hi:ids.take n++[ids[n]]=ids.take (n+1):=(List.take_succ_eq_append_getElem h1).symm
    have hwo:w64 ((((varT nx).length+(varT (ids.length:Int)).length+((ids.take n).map varT).flatten.length:Nat):Int)+((varT ids[n]).length:Int))=(((varT nx).length+(varT (ids.length:Int)).length+((ids.take (n+1)).map varT).flatten.length:Nat):Int):=by
     rw[w64_id (by omega) (by omega),hta];omega
    simp only[ψ2C.l0,Int.ofNat_lt,h1,hc60,decide_true,cond_true,hin2,Int.toNat_natCast,hat n hn]
    rw[spec_ReadVar_eq _ (by omega),hd,r3.1,Option.bind_some]
    simp only[hb,decide_true,cond_true,hi,hwo,hw,ih () h1 trivial]
   ·have:n=ids.length:=by omega
    subst this
    simp[ψ2C.l0])
  (by omega) 0 () (Nat.zero_le _) trivial
 have key:lp ψ2C.l0 (s,(0,[]),T,(ids.length:Int),(nx,[]),(((varT nx).length+(varT (ids.length:Int)).length+((ids.take 0).map varT).flatten.length:Nat):Int),((0:Nat):Int))=_:=key
 have hv1:=varT_len nx
 have hv2:=varT_len (ids.length:Int)
 have c1:((s.length:Int)==0)=false:=by
  have:¬(s.length:Int)=0:=by omega
  simpa using this
 have c2:(((varT nx).length:Int)==0)=false:=by
  have:1≤(varT nx).length:=r1.2
  have:¬((varT nx).length:Int)=0:=by omega
  simpa using this
 have c3:(decide (0≤((varT nx).length:Int)) && decide (((varT nx).length:Int)≤(T.length:Int)))=true:=by simp only[Bool.and_eq_true,decide_eq_true_eq];omega
 have hd1:T.drop (varT nx).length=varT (ids.length:Int)++(ids.map varT).flatten:=by rw[←hT,List.drop_left]
 have hw1:w64 (((varT nx).length:Int)+((varT (ids.length:Int)).length:Int))=(((varT nx).length+(varT (ids.length:Int)).length+((ids.take 0).map varT).flatten.length:Nat):Int):=by
  rw[w64_id (by omega) (by omega)];simp
 unfold ψ2C.f
 rw[spec_Unframe_eq s (by omega),e2,hbd,Option.bind_some]
 simp only
 rw[spec_ReadVar_eq T (by omega),r1.1,Option.bind_some]
 simp only[bne_self_eq_false,cond_false,c1,c2,c3,cond_true,Int.toNat_natCast,hd1]
 rw[spec_ReadVar_eq _ (by rw[←hd1,List.length_drop];omega),r2.1,Option.bind_some]
 simp only[hw1]
 have key:lp ψ2C.l0 (s,(0,[]),T,(ids.length:Int),(nx,[]),(((varT nx).length+(varT (ids.length:Int)).length+((ids.take 0).map varT).flatten.length:Nat):Int),0)=_:=key
 rw[key,Option.bind_some]
 simp only[spec_ShowLive_eq (nx,ids) (by show ids.length<2 ^ 62;omega),Option.bind_some,hsh,beq_self_eq_true,Bool.not_true,cond_false]
theorem spec_ReadLive_tot (s:List UInt8) (hl:s.length<1000000000):∃res:LiveT×Bool,ψ2C.f s=some res∧(res=(zeroLive,false)∨∃v,res=(v,true)∧isLive s v):=by
 have hul:=unframe_len s
 unfold ψ2C.f
 rw[spec_Unframe_eq s (by omega),Option.bind_some]
 simp only
 rw[spec_ReadVar_eq _ (by omega),Option.bind_some]
 by_cases c2:(unframe s).2=(s.length:Int)
 rotate_left
 ·have d2:((unframe s).2 != (s.length:Int))=true:=by simpa using c2
  exact ⟨(zeroLive,false),by simp only[d2,cond_true];rfl,.inl rfl⟩
 have d2:((unframe s).2 != (s.length:Int))=false:=by simpa using c2
 simp only[d2,cond_false]
 by_cases c1:(unframe s).2=0
 ·have d1:((unframe s).2==0)=true:=by simpa using c1
  exact ⟨(zeroLive,false),by simp only[d1,cond_true];rfl,.inl rfl⟩
 have d1:((unframe s).2==0)=false:=by simpa using c1
 simp only[d1,cond_false]
 generalize hT:(unframe s).1=T at *
 have v1:=readVar_len T
 by_cases c3:(readVar T).2=0
 ·have d3:((readVar T).2==0)=true:=by simpa using c3
  exact ⟨(zeroLive,false),by simp only[d3,cond_true];rfl,.inl rfl⟩
 have d3:((readVar T).2==0)=false:=by simpa using c3
 have d4:(decide (0≤(readVar T).2) && decide ((readVar T).2≤(T.length:Int)))=true:=by simp only[Bool.and_eq_true,decide_eq_true_eq];omega
 simp only[d3,d4,cond_false,cond_true]
 rw[spec_ReadVar_eq _ (by rw[List.length_drop];omega),Option.bind_some]
 generalize hR:T.drop (readVar T).2.toNat=R
 have v2:=readVar_len R
 have hRl:R.length+(readVar T).2.toNat=T.length:=by rw[←hR,List.length_drop];omega
 generalize (readVar T).1=n1
 generalize (readVar R).1=cnt
 have hw1:w64 ((readVar T).2+(readVar R).2)=(readVar T).2+(readVar R).2:=w64_id (by omega) (by omega)
 simp only[hw1]
 have hp0:0≤(readVar T).2+(readVar R).2∧(readVar T).2+(readVar R).2≤T.length:=by omega
 generalize (readVar T).2+(readVar R).2=pos at hp0
 have key:=lp_ok (step:=ψ2C.l0) (a:=(s,((0,[]):LiveT),T,cnt,((n1,[]):LiveT),pos,0))
  (fun a=>∃(ids:List Int) (p:Int),a=(s,(0,[]),T,cnt,(n1,ids),p,(ids.length:Int))∧0≤p∧p≤(T.length:Int)∧ids.length≤60)
  (fun a=>61 - a.2.2.2.2.1.2.length)
  (fun b=>∃ids:List Int,b=(s,(0,[]),(n1,ids))∧ids.length≤60)
  (fun rec a ha=>by
   obtain ⟨ids,p,rfl,h1,h2,h3⟩:=ha
   by_cases c:(ids.length:Int)<cnt
   rotate_left
   ·left;exact ⟨_,by simp only[ψ2C.l0,c,decide_false,cond_false,cond_true],ids,rfl,h3⟩
   by_cases cc:(ids.length:Int)<60
   rotate_left
   ·left;exact ⟨_,by simp only[ψ2C.l0,c,cc,decide_true,decide_false,cond_true,cond_false,cond_true],ids,rfl,h3⟩
   right
   have hin:(decide (0≤p) && decide (p≤(T.length:Int)))=true:=by simp only[Bool.and_eq_true,decide_eq_true_eq];omega
   have v3:=readVar_len (T.drop p.toNat)
   rw[List.length_drop] at v3
   have hw:=w64_succ (show ids.length+1<9223372036854775808 by omega)
   have hwp:w64 (p+(readVar (T.drop p.toNat)).2)=p+(readVar (T.drop p.toNat)).2:=w64_id (by omega) (by omega)
   have hb:(ids.length+([(readVar (T.drop p.toNat)).1]:List Int).length) * 8≤140737488355328:=lim8 (by omega)
   refine ⟨(s,(0,[]),T,cnt,(n1,ids++[(readVar (T.drop p.toNat)).1]),p+(readVar (T.drop p.toNat)).2,((ids.length+1:Nat):Int)),⟨ids++[(readVar (T.drop p.toNat)).1],p+(readVar (T.drop p.toNat)).2,by simp only[List.length_append,List.length_singleton],by omega,by omega,by simp only[List.length_append,List.length_singleton];omega⟩,by simp only[List.length_append,List.length_singleton];omega,?_⟩
   simp only[ψ2C.l0,c,cc,decide_true,cond_true,hin]
   rw[spec_ReadVar_eq _ (by rw[List.length_drop];omega),Option.bind_some]
   simp only[hb,decide_true,cond_true,hwp,hw])
  ⟨[],pos,rfl,hp0.1,by omega,by simp⟩ (by simp)
 obtain ⟨b,eb,ids,rfl,h60⟩:=key
 rw[eb,Option.bind_some]
 simp only[spec_ShowLive_eq (n1,ids) (by show ids.length<2 ^ 62;omega),Option.bind_some]
 by_cases c5:showLive (n1,ids)=s
 rotate_left
 ·have d5:(showLive (n1,ids)==s)=false:=by simpa using c5
  exact ⟨(zeroLive,false),by simp only[d5,Bool.not_false,cond_true];rfl,.inl rfl⟩
 have d5:(showLive (n1,ids)==s)=true:=by simpa using c5
 refine ⟨((n1,ids),true),by simp only[d5,Bool.not_true,cond_false],.inr ⟨(n1,ids),rfl,?_,c5⟩⟩
 cases hk:liveOk (n1,ids) with
 | true=>rfl
 | false=>
  exfalso
  have:showLive (n1,ids)=[]:=by unfold showLive;rw[if_pos hk]
  rw[this] at c5
  apply c1
  rw[c2,←c5];rfl
noncomputable def readLive (s:List UInt8):LiveT×Bool:=@dite (LiveT×Bool) (∃v,isLive s v) (Classical.propDecidable _) (fun h=>(h.choose,true)) (fun _=>(zeroLive,false))
theorem readLive_of {s:List UInt8} {o:Option (LiveT×Bool)} (h1:∀v,isLive s v→o=some (v,true)) (h2:∃res:LiveT×Bool,o=some res∧(res=(zeroLive,false)∨∃v,res=(v,true)∧isLive s v)):o=some (readLive s):=by
 unfold readLive
 by_cases h:∃v,isLive s v
 ·rw[dif_pos h];exact h1 _ h.choose_spec
 ·rw[dif_neg h]
  obtain ⟨res,e,k | ⟨v,_,hv⟩⟩:=h2
  ·rw[e,k]
  ·exact absurd ⟨v,hv⟩ h
theorem impl_ReadLive_eq (s:List UInt8) (hl:s.length<1000000000):ψY.f s=some (readLive s):=readLive_of (fun _ h=>impl_ReadLive_back h) (impl_ReadLive_tot s hl)
theorem spec_ReadLive_eq (s:List UInt8) (hl:s.length<1000000000):ψ2C.f s=some (readLive s):=readLive_of (fun _ h=>spec_ReadLive_back h) (spec_ReadLive_tot s hl)
theorem readLive_cases (s:List UInt8):readLive s=(zeroLive,false)∧(¬∃v,isLive s v)∨∃v,readLive s=(v,true)∧isLive s v:=by
 unfold readLive
 by_cases h:∃v,isLive s v
 ·rw[dif_pos h];exact .inr ⟨_,rfl,h.choose_spec⟩
 ·rw[dif_neg h];exact .inl ⟨rfl,h⟩
def isHint (s:List UInt8) (h:HintT):Prop:=hintOk h=true∧showHint h=s
def zeroHint:HintT:=(0,0,[])
theorem num_tot (st:ScanT) (hl:st.1.length<2 ^ 62):∃n st',ψ1B.f st=some (n,st')∧st'.1.length≤st.1.length∧(st'.2=false→st.2=false∧st'.1.length+1≤st.1.length):=by
 obtain ⟨s,b⟩:=st
 cases b with
 | true=>exact ⟨0,(s,true),num_bad s hl,Nat.le_refl _,fun e=>by simp at e⟩
 | false=>
  rcases num_cases s hl with ⟨n,r,m,e,hn⟩ | m
  ·have h1:=(readVar_back hn []).2
   have hle:s.length=(varT n).length+r.length:=by rw[e,List.length_append]
   exact ⟨n,(r,false),m,by show r.length≤s.length;omega,fun _=>⟨rfl,by show r.length+1≤s.length;omega⟩⟩
  ·exact ⟨0,(s,true),m,Nat.le_refl _,fun e=>by simp at e⟩
theorem text_tot (st:ScanT) (hl:st.1.length<2 ^ 62):∃t st',ψ1C.f st=some (t,st')∧st'.1.length≤st.1.length∧(st'.2=false→st.2=false∧st'.1.length+1≤st.1.length):=by
 obtain ⟨s,b⟩:=st
 cases b with
 | true=>exact ⟨[],(s,true),text_bad s hl,Nat.le_refl _,fun e=>by simp at e⟩
 | false=>
  rcases text_cases s hl with ⟨t,r,m,e,hn⟩ | ⟨r,m,hr⟩
  ·have h1:=(readVar_back hn []).2
   have hle:s.length=(varT (t.length:Int)).length+(t.length+r.length):=by
    have:=congrArg List.length e
    simp only[List.length_append] at this;exact this
   exact ⟨t,(r,false),m,by show r.length≤s.length;omega,fun _=>⟨rfl,by show r.length+1≤s.length;omega⟩⟩
  ·exact ⟨[],(r,true),m,hr,fun e=>by simp at e⟩
theorem bytes_tot (s:List UInt8):∃t st',ψ1A.f (s,false) 4=some (t,st')∧st'.1.length≤s.length:=by
 rcases bytes_cases s 4 (by decide) with ⟨t,r,e,es,_⟩ | e
 ·exact ⟨t,(r,false),e,by rw[es,List.length_append];show r.length≤_;omega⟩
 ·exact ⟨[],(s,true),e,Nat.le_refl _⟩
theorem lim48'' {a:Nat} (h:a<1000000000001):(a+1) * 48≤140737488355328:=by omega
theorem impl_ReadHint_tot (s:List UInt8) (hl:s.length<900000000):∃res:HintT×Bool,ψX.f s=some res∧(res=(zeroHint,false)∨∃h,res=(h,true)∧isHint s h):=by
 obtain ⟨t,st1,e1,l1⟩:=bytes_tot s
 obtain ⟨n2,st2,e2,l2,_⟩:=num_tot st1 (by omega)
 obtain ⟨n3,st3,e3,l3,_⟩:=num_tot st2 (by omega)
 obtain ⟨n4,st4,e4,l4,_⟩:=num_tot st3 (by omega)
 have key:=lp_ok (step:=ψX.l0) (a:=(s,((0,0,[]):HintT),st4,((n2,n3,[]):HintT),n4,0))
  (fun a=>∃(st:ScanT) (es:List EntryT),a=(s,(0,0,[]),st,(n2,n3,es),n4,(es.length:Int))∧st.1.length≤s.length∧(st.2=false→es.length+st.1.length≤s.length)∧es.length≤s.length+1)
  (fun a=>if a.2.2.1.2=true then 0 else a.2.2.1.1.length+1)
  (fun b=>∃(st:ScanT) (es:List EntryT),b=(s,(0,0,[]),st,(n2,n3,es))∧es.length≤s.length+1)
  (fun rec a ha=>by
   obtain ⟨st,es,rfl,h1,h2,h4⟩:=ha
   by_cases c:(es.length:Int)<n4
   rotate_left
   ·left;exact ⟨_,by simp only[ψX.l0,c,decide_false,cond_false],st,es,rfl,h4⟩
   obtain ⟨u,bad⟩:=st
   simp only at h1 h2
   cases bad with
   | true=>
    left
    exact ⟨_,by simp only[ψX.l0,c,decide_true,cond_true,Bool.not_true,cond_false],(u,true),es,rfl,h4⟩
   | false=>
    right
    have h2:=h2 rfl
    obtain ⟨x5,s5,m5,q5,r5⟩:=text_tot (u,false) (show u.length<2 ^ 62 by omega)
    have q5:s5.1.length≤u.length:=q5
    obtain ⟨x6,s6,m6,q6,r6⟩:=num_tot s5 (by omega)
    obtain ⟨x7,s7,m7,q7,r7⟩:=num_tot s6 (by omega)
    obtain ⟨x8,s8,m8,q8,r8⟩:=num_tot s7 (by omega)
    obtain ⟨x9,s9,m9,q9,r9⟩:=num_tot s8 (by omega)
    have hw:=w64_succ (show es.length+1<9223372036854775808 by omega)
    have hb:(es.length+([(x5,x6,x7,x8,x9)]:List EntryT).length) * 48≤140737488355328:=lim48'' (by omega)
    have hdec:s9.2=false→s9.1.length+1≤u.length:=fun e=>by
     have a9:=r9 e
     have a8:=r8 a9.1
     have a7:=r7 a8.1
     have a6:=r6 a7.1
     have a5:=(r5 a6.1).2
     have a5:s5.1.length+1≤u.length:=a5
     omega
    refine ⟨(s,(0,0,[]),s9,(n2,n3,es++[(x5,x6,x7,x8,x9)]),n4,((es.length+1:Nat):Int)),⟨s9,es++[(x5,x6,x7,x8,x9)],by simp only[List.length_append,List.length_singleton],by omega,fun e=>by simp only[List.length_append,List.length_singleton];have:=hdec e;omega,by simp only[List.length_append,List.length_singleton];omega⟩,?_,?_⟩
    ·simp only[Bool.false_eq_true,if_false]
     split
     ·omega
     ·rename_i z
      have:=hdec (by simpa using z)
      omega
    ·simp only[ψX.l0,c,decide_true,cond_true,Bool.not_false,m5,m6,m7,m8,m9,Option.bind_some,hb,hw])
  ⟨st4,[],rfl,by omega,fun _=>by simp;omega,by simp⟩ (by simp only;split<;>omega)
 obtain ⟨b,eb,st,es,rfl,hes⟩:=key
 unfold ψX.f
 simp only[e1,e2,e3,e4,Option.bind_some,eb]
 cases c1:st.2 with
 | true=>exact ⟨(zeroHint,false),rfl,.inl rfl⟩
 | false=>
  simp only[cond_false,impl_hintOk_eq (n2,n3,es) (show es.length<1000000000 by omega),Option.bind_some]
  cases c2:hintOk (n2,n3,es) with
  | false=>exact ⟨(zeroHint,false),rfl,.inl rfl⟩
  | true=>
   simp only[Bool.not_true,cond_false,impl_ShowHint_eq (n2,n3,es) (show es.length<1000000000 by omega),Option.bind_some]
   by_cases c3:showHint (n2,n3,es)=s
   ·have d3:(showHint (n2,n3,es)==s)=true:=by simpa using c3
    exact ⟨((n2,n3,es),true),by simp only[d3,Bool.not_true,cond_false],.inr ⟨_,rfl,c2,c3⟩⟩
   ·have d3:(showHint (n2,n3,es)==s)=false:=by simpa using c3
    exact ⟨(zeroHint,false),by simp only[d3,Bool.not_false,cond_true];rfl,.inl rfl⟩
theorem hint_in {h:HintT} (k:hintOk h=true):numIn h.1∧numIn h.2.1∧h.2.2.length≤20∧∀e∈h.2.2,e.1.length≤8∧numIn e.2.1∧numIn e.2.2.1∧numIn e.2.2.2.1∧numIn e.2.2.2.2:=by
 unfold hintOk at k
 simp only[Bool.and_eq_true,decide_eq_true_eq,List.all_eq_true] at k
 obtain ⟨k1,k2,k3,k4⟩:=k
 have hd:=dirOk_mem k4
 refine ⟨⟨k2.1,by omega⟩,⟨k3.1,by omega⟩,hd.1,fun e he=>?_⟩
 have ho:=hd.2 e he
 have hs:=k1 e he
 have hk:=entry_key ho
 unfold entryOk at ho
 unfold sameSeg at hs
 simp only[Bool.and_eq_true,decide_eq_true_eq,Bool.not_eq_true',decide_eq_false_iff_not] at ho hs
 unfold numIn
 omega
theorem isHint_text {s:List UInt8} {h:HintT} (k:isHint s h):s=fix4 (crcT (hintBd h))++hintBd h∧(fix4 (crcT (hintBd h))).length=4:=by
 refine ⟨?_,fix4_len4 (crcT_range _)⟩
 rw[←k.2];unfold showHint;rw[if_neg (by rw[k.1];simp)]
theorem entT_eq (e:EntryT) (r:List UInt8):entT e++r=varT (e.1.length:Int)++(e.1++(varT e.2.1++(varT e.2.2.1++(varT e.2.2.2.1++(varT e.2.2.2.2++r))))):=by
 unfold entT;simp only[List.append_assoc]
theorem impl_ReadHint_back {s:List UInt8} {h:HintT} (k:isHint s h):ψX.f s=some (h,true):=by
 obtain ⟨es,h4⟩:=isHint_text k
 obtain ⟨n1,n2,n3,n4⟩:=hint_in k.1
 have hbl:=hintB_len k.1
 have hsh:=k.2
 have hok:=k.1
 obtain ⟨z,m,l⟩:=h
 simp only at n1 n2 n3 n4
 have hcnt:numIn (l.length:Int):=⟨by omega,by omega⟩
 have hbd:hintBd (z,m,l)=varT z++(varT m++(varT (l.length:Int)++(l.map entT).flatten)):=by unfold hintBd;simp only[List.append_assoc]
 have hbl2:=hbl
 rw[hbd] at hbl2
 simp only[List.length_append] at hbl2
 have b0:=bytes_back (fix4 (crcT (hintBd (z,m,l)))) (hintBd (z,m,l))
 rw[←es,h4,hbd] at b0
 have b0:ψ1A.f (s,false) 4=_:=b0
 have m1:=num_back n1 (varT m++(varT (l.length:Int)++(l.map entT).flatten)) (by simp only[List.length_append];omega)
 have m2:=num_back n2 (varT (l.length:Int)++(l.map entT).flatten) (by simp only[List.length_append];omega)
 have m3:=num_back hcnt (l.map entT).flatten (by simp only[List.length_append];omega)
 have hfl:∀n,((l.drop n).map entT).flatten.length≤43 * (l.drop n).length:=fun n=>entsT_len (fun x hx=>(n4 x (List.mem_of_mem_drop hx)).1)
 have key:=lp_up (step:=ψX.l0) (fun n (_:Unit)=>(s,((0,0,[]):HintT),(((l.drop n).map entT).flatten,false),((z,m,l.take n):HintT),(l.length:Int),(n:Int))) l.length (fun _ _=>(s,(0,0,[]),([],false),(z,m,l))) (fun _ _=>True)
  (fun rec n _ hn _ ih=>by
   rcases Nat.lt_or_ge n l.length with h1 | h1
   ·have hw:=w64_succ (show n+1<9223372036854775808 by omega)
    obtain ⟨k0,k1,k2,k3,k5⟩:=n4 _ (List.getElem_mem h1)
    have hk0:numIn (l[n].1.length:Int):=⟨by omega,by omega⟩
    have hd:((l.drop n).map entT).flatten=entT l[n]++((l.drop (n+1)).map entT).flatten:=by
     rw[List.drop_eq_getElem_cons h1];rfl
    have hlen:=hfl n
    rw[hd,entT_eq] at hlen
    rw[List.length_drop] at hlen
    simp only[List.length_append] at hlen
    have t0:=text_back l[n].1 (varT l[n].2.1++(varT l[n].2.2.1++(varT l[n].2.2.2.1++(varT l[n].2.2.2.2++((l.drop (n+1)).map entT).flatten)))) hk0 (by simp only[List.length_append];omega)
    have t1:=num_back k1 (varT l[n].2.2.1++(varT l[n].2.2.2.1++(varT l[n].2.2.2.2++((l.drop (n+1)).map entT).flatten))) (by simp only[List.length_append];omega)
    have t2:=num_back k2 (varT l[n].2.2.2.1++(varT l[n].2.2.2.2++((l.drop (n+1)).map entT).flatten)) (by simp only[List.length_append];omega)
    have t3:=num_back k3 (varT l[n].2.2.2.2++((l.drop (n+1)).map entT).flatten) (by simp only[List.length_append];omega)
    have t4:=num_back k5 ((l.drop (n+1)).map entT).flatten (by simp only[List.length_append];omega)
    have hb:((l.take n).length+([l[n]]:List EntryT).length) * 48≤140737488355328:=lim48'' (by rw[List.length_take];omega)
    have hi:l.take n++[l[n]]=l.take (n+1):=(List.take_succ_eq_append_getElem h1).symm
    have hp:((l[n].1,l[n].2.1,l[n].2.2.1,l[n].2.2.2.1,l[n].2.2.2.2):EntryT)=l[n]:=rfl
    simp only[ψX.l0,Int.ofNat_lt,h1,decide_true,cond_true,hd,entT_eq,Bool.not_false,t0,t1,t2,t3,t4,Option.bind_some,hp,hb,hw,hi,ih () h1 trivial]
   ·have:n=l.length:=by omega
    subst this
    simp[ψX.l0])
  (by omega) 0 () (Nat.zero_le _) trivial
 have key:lp ψX.l0 (s,(0,0,[]),((l.map entT).flatten,false),(z,m,[]),(l.length:Int),0)=_:=key
 unfold ψX.f
 simp only[b0,m1,m2,m3,Option.bind_some,key,cond_false,impl_hintOk_eq (z,m,l) (show l.length<1000000000 by omega),hok,Bool.not_true,impl_ShowHint_eq (z,m,l) (show l.length<1000000000 by omega),hsh,beq_self_eq_true]
theorem l10Vars_back (pre:List UInt8) (ns:List Int) (r:List UInt8) (hn:∀x∈ns,numIn x) (hl:(pre++((ns.map varT).flatten++r)).length<1000000000) :
  ψ2Z.f (pre++((ns.map varT).flatten++r)) (pre.length:Int) (ns.length:Int)=some (ns,(((pre++(ns.map varT).flatten).length:Nat):Int)):=by
 have hat:∀n,(pre++((ns.map varT).flatten++r)).drop (pre++((ns.take n).map varT).flatten).length=((ns.drop n).map varT).flatten++r:=fun n=>by
  have e:pre++((ns.map varT).flatten++r)=(pre++((ns.take n).map varT).flatten)++(((ns.drop n).map varT).flatten++r):=by
   simp only[List.append_assoc]
   congr 1
   rw[←List.append_assoc,←List.flatten_append,←List.map_append,List.take_append_drop]
  rw[e,List.drop_left]
 have hnl:ns.length≤((ns.map varT).flatten).length:=by
  clear hl hat
  induction ns with
  | nil=>simp
  | cons x l ih=>
   have:=(readVar_back (hn x List.mem_cons_self) []).2
   have:=ih (fun y hy=>hn y (List.mem_cons_of_mem _ hy))
   simp only[List.map_cons,List.flatten_cons,List.length_append,List.length_cons];omega
 generalize hT:pre++((ns.map varT).flatten++r)=T at *
 have hTl:T.length=pre.length+(((ns.map varT).flatten).length+r.length):=by rw[←hT];simp only[List.length_append]
 have key:=lp_up (step:=ψ2Z.l0) (fun n (_:Unit)=>(T,(((pre++((ns.take n).map varT).flatten).length:Nat):Int),(ns.length:Int),ns.take n,(n:Int))) ns.length (fun _ _=>.inl ((((pre++(ns.map varT).flatten).length:Nat):Int),ns)) (fun _ _=>True)
  (fun rec n _ hn' _ ih=>by
   rcases Nat.lt_or_ge n ns.length with h1 | h1
   ·have hw:=w64_succ (show n+1<9223372036854775808 by omega)
    have hin:=hn _ (List.getElem_mem h1)
    have hd:((ns.drop n).map varT).flatten=varT ns[n]++((ns.drop (n+1)).map varT).flatten:=by
     rw[List.drop_eq_getElem_cons h1];rfl
    have hta:(pre++((ns.take (n+1)).map varT).flatten).length=(pre++((ns.take n).map varT).flatten).length+(varT ns[n]).length:=by
     rw[List.take_succ_eq_append_getElem h1,List.map_append,List.flatten_append,List.length_append,List.length_append,List.length_append]
     show _+(_+(varT ns[n]++[]).length)=_
     rw[List.append_nil,Nat.add_assoc]
    have r3:=readVar_back hin (((ns.drop (n+1)).map varT).flatten++r)
    have hv:=varT_len ns[n]
    have hdl:T.length - (pre++((ns.take n).map varT).flatten).length=(varT ns[n]).length+(((ns.drop (n+1)).map varT).flatten++r).length:=by
     have:=congrArg List.length (hat n)
     rw[List.length_drop,hd,List.append_assoc] at this
     rw[this,List.length_append]
    have hin2:(decide (0≤(((pre++((ns.take n).map varT).flatten).length:Nat):Int)) && decide ((((pre++((ns.take n).map varT).flatten).length:Nat):Int)≤(T.length:Int)))=true:=by
     simp only[Bool.and_eq_true,decide_eq_true_eq];omega
    have hb:((ns.take n).length+([ns[n]]:List Int).length) * 8≤140737488355328:=lim8 (by rw[List.length_take];omega)
    have hi:ns.take n++[ns[n]]=ns.take (n+1):=(List.take_succ_eq_append_getElem h1).symm
    have hwo:w64 ((((pre++((ns.take n).map varT).flatten).length:Nat):Int)+((varT ns[n]).length:Int))=(((pre++((ns.take (n+1)).map varT).flatten).length:Nat):Int):=by
     rw[w64_id (by omega) (by omega),hta];omega
    have hz:(((varT ns[n]).length:Int)==0)=false:=by
     have:=r3.2
     have:¬((varT ns[n]).length:Int)=0:=by omega
     simpa using this
    simp only[ψ2Z.l0,Int.ofNat_lt,h1,decide_true,cond_true,hin2,Int.toNat_natCast,hat n,hd,List.append_assoc]
    rw[spec_ReadVar_eq _ (by rw[List.length_append];omega),r3.1,Option.bind_some]
    simp only[hz,cond_false,hb,decide_true,cond_true,hi,hwo,hw,ih () h1 trivial]
   ·have:n=ns.length:=by omega
    subst this
    simp[ψ2Z.l0])
  (by omega) 0 () (Nat.zero_le _) trivial
 have key:lp ψ2Z.l0 (T,(((pre++((ns.take 0).map varT).flatten).length:Nat):Int),(ns.length:Int),ns.take 0,0)=_:=key
 have h0:(pre++((ns.take 0).map varT).flatten).length=pre.length:=by simp
 rw[h0] at key
 have key:lp ψ2Z.l0 (T,(pre.length:Int),(ns.length:Int),[],0)=_:=key
 unfold ψ2Z.f
 rw[key,Option.bind_some]
 simp only[caseS_l]
theorem l10Vars_tot (s:List UInt8) (a:Int) (n:Nat) (ha:0≤a∧a≤(s.length:Int)) (hn:n≤10) (hl:s.length<1000000000) :
  ∃l b,ψ2Z.f s a (n:Int)=some (l,b)∧l.length=n∧(b=-1∨(0≤b∧b≤(s.length:Int))):=by
 have key:=lp_ok (step:=ψ2Z.l0) (a:=(s,a,(n:Int),[],0))
  (fun x=>∃(l:List Int) (p:Int),x=(s,p,(n:Int),l,(l.length:Int))∧0≤p∧p≤(s.length:Int)∧l.length≤n)
  (fun x=>11 - x.2.2.2.1.length)
  (fun b=>(∃(l:List Int) (p:Int),b=.inl (p,l)∧0≤p∧p≤(s.length:Int)∧l.length=n)∨b=.inr (List.replicate n 0,-1))
  (fun rec x hx=>by
   obtain ⟨l,p,rfl,h1,h2,h3⟩:=hx
   by_cases c:l.length<n
   rotate_left
   ·left
    exact ⟨.inl (p,l),by simp[ψ2Z.l0,c],.inl ⟨l,p,rfl,h1,h2,by omega⟩⟩
   have hin:(decide (0≤p) && decide (p≤(s.length:Int)))=true:=by simp only[Bool.and_eq_true,decide_eq_true_eq];omega
   have v3:=readVar_len (s.drop p.toNat)
   rw[List.length_drop] at v3
   have hw:=w64_succ (show l.length+1<9223372036854775808 by omega)
   have hwp:w64 (p+(readVar (s.drop p.toNat)).2)=p+(readVar (s.drop p.toNat)).2:=w64_id (by omega) (by omega)
   have hb:(l.length+([(readVar (s.drop p.toNat)).1]:List Int).length) * 8≤140737488355328:=lim8 (by omega)
   have hrv:=spec_ReadVar_eq (s.drop p.toNat) (by rw[List.length_drop];omega)
   by_cases c2:(readVar (s.drop p.toNat)).2=0
   ·left
    have d2:((readVar (s.drop p.toNat)).2==0)=true:=by simpa using c2
    have d3:(decide (0≤(n:Int)) && decide (8 * (n:Int)≤140737488355328))=true:=by simp only[Bool.and_eq_true,decide_eq_true_eq];omega
    refine ⟨.inr (List.replicate n 0,-1),?_,.inr rfl⟩
    simp only[ψ2Z.l0,Int.ofNat_lt,c,decide_true,cond_true,hin,hrv,Option.bind_some,d2,beq_self_eq_true,d3,Int.toNat_natCast]
   ·right
    have d2:((readVar (s.drop p.toNat)).2==0)=false:=by simpa using c2
    refine ⟨(s,p+(readVar (s.drop p.toNat)).2,(n:Int),l++[(readVar (s.drop p.toNat)).1],((l.length+1:Nat):Int)),⟨l++[(readVar (s.drop p.toNat)).1],p+(readVar (s.drop p.toNat)).2,by simp only[List.length_append,List.length_singleton],by omega,by omega,by simp only[List.length_append,List.length_singleton];omega⟩,by simp only[List.length_append,List.length_singleton];omega,?_⟩
    simp only[ψ2Z.l0,Int.ofNat_lt,c,decide_true,cond_true,hin,hrv,Option.bind_some,d2,cond_false,hb,hwp,hw])
  ⟨[],a,rfl,ha.1,ha.2,by simp⟩ (by simp)
 obtain ⟨b,eb,hb⟩:=key
 unfold ψ2Z.f
 rw[eb,Option.bind_some]
 rcases hb with ⟨l,p,rfl,h1,h2,h3⟩ | rfl
 ·simp only[caseS_l];exact ⟨l,p,rfl,h3,.inr ⟨h1,h2⟩⟩
 ·simp only[caseS_r];exact ⟨_,_,rfl,by simp,.inl rfl⟩
theorem spec_ReadHint_back {s:List UInt8} {h:HintT} (k:isHint s h):ψ2B.f s=some (h,true):=by
 obtain ⟨es,h4⟩:=isHint_text k
 obtain ⟨n1,n2,n3,n4⟩:=hint_in k.1
 have hbl:=hintB_len k.1
 have hsh:=k.2
 obtain ⟨z,m,l⟩:=h
 simp only at n1 n2 n3 n4
 have hcnt:numIn (l.length:Int):=⟨by omega,by omega⟩
 generalize hF:fix4 (crcT (hintBd (z,m,l)))=F at *
 have hbd:hintBd (z,m,l)=(([z,m,(l.length:Int)]:List Int).map varT).flatten++(l.map entT).flatten:=by
  unfold hintBd;simp
 rw[hbd] at es hbl
 have hsl:s.length≤1004:=by rw[es,List.length_append,h4];omega
 have v0:=l10Vars_back F [z,m,(l.length:Int)] (l.map entT).flatten (by
  intro x hx
  simp only[List.mem_cons,List.not_mem_nil,or_false] at hx
  rcases hx with rfl | rfl | rfl
  ·exact n1
  ·exact n2
  ·exact hcnt) (by rw[←es];omega)
 rw[←es,h4] at v0
 have v0:ψ2Z.f s 4 3=_:=v0
 have hfl:∀n,((l.drop n).map entT).flatten.length≤s.length:=fun n=>by
  have e:l.map entT=(l.take n).map entT++(l.drop n).map entT:=by rw[←List.map_append,List.take_append_drop]
  rw[es,e,List.flatten_append]
  simp only[List.length_append];omega
 have hat:∀n,s.drop (s.length - ((l.drop n).map entT).flatten.length)=((l.drop n).map entT).flatten:=fun n=>by
  have e:l.map entT=(l.take n).map entT++(l.drop n).map entT:=by rw[←List.map_append,List.take_append_drop]
  have es2:s=(F++((([z,m,(l.length:Int)]:List Int).map varT).flatten++((l.take n).map entT).flatten))++((l.drop n).map entT).flatten:=by
   rw[es,e,List.flatten_append];simp only[List.append_assoc]
  have hl:s.length - ((l.drop n).map entT).flatten.length=(F++((([z,m,(l.length:Int)]:List Int).map varT).flatten++((l.take n).map entT).flatten)).length:=by
   have:=congrArg List.length es2
   rw[List.length_append] at this;omega
  rw[hl]
  conv=>lhs;rw[es2]
  exact List.drop_left
 have key:=lp_up (step:=ψ2B.l0) (fun n (_:Unit)=>(s,((0,0,[]):HintT),([z,m,(l.length:Int)]:List Int),(((s.length - ((l.drop n).map entT).flatten.length:Nat)):Int),((z,m,l.take n):HintT),(n:Int))) l.length (fun _ _=>.inl (s,(0,0,[]),(z,m,l))) (fun _ _=>True)
  (fun rec n _ hn _ ih=>by
   have hrd:rdA 0 ([z,m,(l.length:Int)]:List Int) 2=(l.length:Int):=rfl
   rcases Nat.lt_or_ge n l.length with h1 | h1
   ·have hw:=w64_succ (show n+1<9223372036854775808 by omega)
    obtain ⟨k0,k1,k2,k3,k5⟩:=n4 _ (List.getElem_mem h1)
    have hk0:numIn (l[n].1.length:Int):=⟨by omega,by omega⟩
    have hd:((l.drop n).map entT).flatten=entT l[n]++((l.drop (n+1)).map entT).flatten:=by
     rw[List.drop_eq_getElem_cons h1];rfl
    have hf0:=hfl n
    have hf1:=hfl (n+1)
    generalize hR:((l.drop (n+1)).map entT).flatten=R at *
    generalize hD:((l.drop n).map entT).flatten=D at *
    have hat0:=hat n
    rw[hD] at hat0
    rw[entT_eq] at hd
    have hlen:=congrArg List.length hd
    simp only[List.length_append] at hlen
    have t0:=l5Text_back l[n].1 (varT l[n].2.1++(varT l[n].2.2.1++(varT l[n].2.2.2.1++(varT l[n].2.2.2.2++R)))) hk0 (by simp only[List.length_append];omega)
    rw[←hd] at t0
    have t1:=l10Vars_back [] [l[n].2.1,l[n].2.2.1,l[n].2.2.2.1,l[n].2.2.2.2] R (by
     intro x hx
     simp only[List.mem_cons,List.not_mem_nil,or_false] at hx
     rcases hx with rfl | rfl | rfl | rfl
     ·exact k1
     ·exact k2
     ·exact k3
     ·exact k5) (by simp only[List.nil_append,List.map_cons,List.map_nil,List.flatten_cons,List.flatten_nil,List.append_nil,List.length_append];omega)
    have e4:([]:List UInt8)++((([l[n].2.1,l[n].2.2.1,l[n].2.2.2.1,l[n].2.2.2.2]:List Int).map varT).flatten++R)=varT l[n].2.1++(varT l[n].2.2.1++(varT l[n].2.2.2.1++(varT l[n].2.2.2.2++R))):=by simp
    rw[e4] at t1
    have t1:ψ2Z.f (varT l[n].2.1++(varT l[n].2.2.1++(varT l[n].2.2.2.1++(varT l[n].2.2.2.2++R)))) 0 4=_:=t1
    have hE:((([]:List UInt8)++(([l[n].2.1,l[n].2.2.1,l[n].2.2.2.1,l[n].2.2.2.2]:List Int).map varT).flatten).length:Nat)=(varT l[n].2.1).length+((varT l[n].2.2.1).length+((varT l[n].2.2.2.1).length+(varT l[n].2.2.2.2).length)):=by
     simp
    rw[hE] at t1
    have hT:(varT l[n].2.1++(varT l[n].2.2.1++(varT l[n].2.2.2.1++(varT l[n].2.2.2.2++R)))).length=(varT l[n].2.1).length+((varT l[n].2.2.1).length+((varT l[n].2.2.2.1).length+((varT l[n].2.2.2.2).length+R.length))):=by simp only[List.length_append]
    have hin:(decide (0≤(((s.length - D.length:Nat)):Int)) && decide ((((s.length - D.length:Nat)):Int)≤(s.length:Int)))=true:=by simp only[Bool.and_eq_true,decide_eq_true_eq];omega
    have hpos:decide ((((varT l[n].2.1).length+((varT l[n].2.2.1).length+((varT l[n].2.2.2.1).length+(varT l[n].2.2.2.2).length)):Nat):Int)<0)=false:=by simp;omega
    have hb:((l.take n).length+([l[n]]:List EntryT).length) * 48≤140737488355328:=lim48'' (by rw[List.length_take];omega)
    have hi:l.take n++[l[n]]=l.take (n+1):=(List.take_succ_eq_append_getElem h1).symm
    have hp:((l[n].1,l[n].2.1,l[n].2.2.1,l[n].2.2.2.1,l[n].2.2.2.2):EntryT)=l[n]:=rfl
    have hy:w64 (w64 ((s.length:Int) - ((varT l[n].2.1++(varT l[n].2.2.1++(varT l[n].2.2.2.1++(varT l[n].2.2.2.2++R)))).length:Int))+(((varT l[n].2.1).length+((varT l[n].2.2.1).length+((varT l[n].2.2.2.1).length+(varT l[n].2.2.2.2).length)):Nat):Int))=(((s.length - R.length:Nat)):Int):=by
     have w1:=w64_id (n:=(s.length:Int) - (((varT l[n].2.1).length+((varT l[n].2.2.1).length+((varT l[n].2.2.2.1).length+((varT l[n].2.2.2.2).length+R.length))):Nat):Int)) (by omega) (by omega)
     rw[hT,w1,w64_id (by omega) (by omega)];omega
    have i2:inB 2 ([z,m,(l.length:Int)]:List Int).length=true:=rfl
    have j0:inB 0 ([l[n].2.1,l[n].2.2.1,l[n].2.2.2.1,l[n].2.2.2.2]:List Int).length=true:=rfl
    have j1:inB 1 ([l[n].2.1,l[n].2.2.1,l[n].2.2.2.1,l[n].2.2.2.2]:List Int).length=true:=rfl
    have j2:inB 2 ([l[n].2.1,l[n].2.2.1,l[n].2.2.2.1,l[n].2.2.2.2]:List Int).length=true:=rfl
    have j3:inB 3 ([l[n].2.1,l[n].2.2.1,l[n].2.2.2.1,l[n].2.2.2.2]:List Int).length=true:=rfl
    have r0:rdA 0 ([l[n].2.1,l[n].2.2.1,l[n].2.2.2.1,l[n].2.2.2.2]:List Int) 0=l[n].2.1:=rfl
    have r1:rdA 0 ([l[n].2.1,l[n].2.2.1,l[n].2.2.2.1,l[n].2.2.2.2]:List Int) 1=l[n].2.2.1:=rfl
    have r2:rdA 0 ([l[n].2.1,l[n].2.2.1,l[n].2.2.2.1,l[n].2.2.2.2]:List Int) 2=l[n].2.2.2.1:=rfl
    have r3:rdA 0 ([l[n].2.1,l[n].2.2.1,l[n].2.2.2.1,l[n].2.2.2.2]:List Int) 3=l[n].2.2.2.2:=rfl
    have ih:=ih () h1 trivial
    have ht:(s.drop ((((s.length - D.length:Nat)):Int)).toNat)=D:=by rw[Int.toNat_natCast];exact hat0
    simp only[ψ2B.l0,i2,cond_true,hrd,Int.ofNat_lt,h1,decide_true,hin,ht,t0,Option.bind_some,t1,Bool.not_true,cond_false,hpos,j0,j1,j2,j3,r0,r1,r2,r3,hp,hb,hi,hy,hw,ih]
   ·have:n=l.length:=by omega
    subst this
    have i2:inB 2 ([z,m,(l.length:Int)]:List Int).length=true:=rfl
    simp only[ψ2B.l0,i2,cond_true,hrd,Int.lt_irrefl,decide_false,cond_false,List.take_length])
  (by omega) 0 () (Nat.zero_le _) trivial
 have hp0:(F++(([z,m,(l.length:Int)]:List Int).map varT).flatten).length=s.length - ((l.drop 0).map entT).flatten.length:=by
  rw[List.drop_zero,es];simp only[List.length_append];omega
 have key:lp ψ2B.l0 (s,(0,0,[]),[z,m,(l.length:Int)],(((s.length - ((l.drop 0).map entT).flatten.length:Nat)):Int),(z,m,[]),0)=_:=key
 rw[←hp0] at key
 have c0:decide ((s.length:Int)<4)=false:=by rw[es];simp;omega
 have c1:decide ((((F++(([z,m,(l.length:Int)]:List Int).map varT).flatten).length:Nat):Int)<0)=false:=by simp;omega
 have i2:inB 2 ([z,m,(l.length:Int)]:List Int).length=true:=rfl
 have i1:inB 1 ([z,m,(l.length:Int)]:List Int).length=true:=rfl
 have i0:inB 0 ([z,m,(l.length:Int)]:List Int).length=true:=rfl
 have q2:rdA 0 ([z,m,(l.length:Int)]:List Int) 2=(l.length:Int):=rfl
 have q1:rdA 0 ([z,m,(l.length:Int)]:List Int) 1=m:=rfl
 have q0:rdA 0 ([z,m,(l.length:Int)]:List Int) 0=z:=rfl
 have c2:decide ((l.length:Int) > 20)=false:=by simp;omega
 have c3:(showHint (z,m,l)==s)=true:=by simpa using hsh
 unfold ψ2B.f
 simp only[c0,cond_false,v0,Option.bind_some,c1,i0,i1,i2,q0,q1,q2,c2,cond_true,key,caseS_l,spec_ShowHint_eq (z,m,l) (show l.length<1000000000 by omega),c3,Bool.not_true]
theorem spec_ReadHint_tot (s:List UInt8) (hl:s.length<900000000):∃res:HintT×Bool,ψ2B.f s=some res∧(res=(zeroHint,false)∨∃h,res=(h,true)∧isHint s h):=by
 unfold ψ2B.f
 by_cases c0:(s.length:Int)<4
 ·exact ⟨(zeroHint,false),by rw[decide_eq_true c0];rfl,.inl rfl⟩
 rw[decide_eq_false c0,cond_false]
 obtain ⟨a,b,e1,la,hb⟩:=l10Vars_tot s 4 3 (by omega) (by omega) (by omega)
 have e1:ψ2Z.f s 4 3=_:=e1
 rw[e1,Option.bind_some]
 simp only
 rcases hb with rfl | hb
 ·exact ⟨(zeroHint,false),rfl,.inl rfl⟩
 have c1:decide (b<0)=false:=by simp;omega
 obtain ⟨a0,a1,a2,rfl⟩:∃a0 a1 a2:Int,a=[a0,a1,a2]:=by
  match a,la with
  | [a0,a1,a2],_=>exact ⟨a0,a1,a2,rfl⟩
 have i2:inB 2 ([a0,a1,a2]:List Int).length=true:=rfl
 have i1:inB 1 ([a0,a1,a2]:List Int).length=true:=rfl
 have i0:inB 0 ([a0,a1,a2]:List Int).length=true:=rfl
 have q2:rdA 0 ([a0,a1,a2]:List Int) 2=a2:=rfl
 have q1:rdA 0 ([a0,a1,a2]:List Int) 1=a1:=rfl
 have q0:rdA 0 ([a0,a1,a2]:List Int) 0=a0:=rfl
 rw[c1,i0,i1,i2,q0,q1,q2]
 simp only[cond_false,cond_true]
 by_cases c2:a2 > 20
 ·exact ⟨(zeroHint,false),by rw[decide_eq_true c2];rfl,.inl rfl⟩
 rw[decide_eq_false c2,cond_false]
 have key:=lp_ok (step:=ψ2B.l0) (a:=(s,((0,0,[]):HintT),([a0,a1,a2]:List Int),b,((a0,a1,[]):HintT),0))
  (fun x=>∃(es:List EntryT) (p:Int),x=(s,(0,0,[]),[a0,a1,a2],p,(a0,a1,es),(es.length:Int))∧0≤p∧p≤(s.length:Int)∧es.length≤20)
  (fun x=>21 - x.2.2.2.2.1.2.2.length)
  (fun y=>(∃es:List EntryT,y=.inl (s,(0,0,[]),(a0,a1,es))∧es.length≤20)∨y=.inr ((0,0,[]),false))
  (fun rec x hx=>by
   obtain ⟨es,p,rfl,h1,h2,h3⟩:=hx
   by_cases c:(es.length:Int)<a2
   rotate_left
   ·left;exact ⟨_,by simp only[ψ2B.l0,i2,cond_true,q2,c,decide_false,cond_false],.inl ⟨es,rfl,h3⟩⟩
   have hin:(decide (0≤p) && decide (p≤(s.length:Int)))=true:=by simp only[Bool.and_eq_true,decide_eq_true_eq];omega
   obtain ⟨t,r,tb,t0,tl,rl⟩:=l5Text_tot (s.drop p.toNat) (by rw[List.length_drop];omega)
   rw[List.length_drop] at tl rl
   obtain ⟨bl,e,t1,lb,he⟩:=l10Vars_tot r 0 4 (by omega) (by omega) (by omega)
   have t1:ψ2Z.f r 0 4=_:=t1
   obtain ⟨b0,b1,b2,b3,rfl⟩:∃b0 b1 b2 b3:Int,bl=[b0,b1,b2,b3]:=by
    match bl,lb with
    | [b0,b1,b2,b3],_=>exact ⟨b0,b1,b2,b3,rfl⟩
   cases tb with
   | false=>left;exact ⟨_,by simp only[ψ2B.l0,i2,cond_true,q2,c,decide_true,hin,t0,Option.bind_some,t1,Bool.not_false],.inr rfl⟩
   | true=>
    rcases he with rfl | he
    ·left;exact ⟨_,by simp only[ψ2B.l0,i2,cond_true,q2,c,decide_true,hin,t0,Option.bind_some,t1,Bool.not_true,cond_false,show decide ((-1:Int)<0)=true from rfl],.inr rfl⟩
    right
    have ce:decide (e<0)=false:=by simp;omega
    have hw:=w64_succ (show es.length+1<9223372036854775808 by omega)
    have hb:(es.length+([(t,b0,b1,b2,b3)]:List EntryT).length) * 48≤140737488355328:=lim48'' (by omega)
    have hy:w64 (w64 ((s.length:Int) - (r.length:Int))+e)=(s.length:Int) - (r.length:Int)+e:=by
     rw[w64_id (n:=(s.length:Int) - (r.length:Int)) (by omega) (by omega),w64_id (by omega) (by omega)]
    have j0:inB 0 ([b0,b1,b2,b3]:List Int).length=true:=rfl
    have j1:inB 1 ([b0,b1,b2,b3]:List Int).length=true:=rfl
    have j2:inB 2 ([b0,b1,b2,b3]:List Int).length=true:=rfl
    have j3:inB 3 ([b0,b1,b2,b3]:List Int).length=true:=rfl
    have r0:rdA 0 ([b0,b1,b2,b3]:List Int) 0=b0:=rfl
    have r1:rdA 0 ([b0,b1,b2,b3]:List Int) 1=b1:=rfl
    have r2:rdA 0 ([b0,b1,b2,b3]:List Int) 2=b2:=rfl
    have r3:rdA 0 ([b0,b1,b2,b3]:List Int) 3=b3:=rfl
    refine ⟨(s,(0,0,[]),[a0,a1,a2],(s.length:Int) - (r.length:Int)+e,(a0,a1,es++[(t,b0,b1,b2,b3)]),((es.length+1:Nat):Int)),⟨es++[(t,b0,b1,b2,b3)],(s.length:Int) - (r.length:Int)+e,by simp only[List.length_append,List.length_singleton],by omega,by omega,by simp only[List.length_append,List.length_singleton];omega⟩,by simp only[List.length_append,List.length_singleton];omega,?_⟩
    simp only[ψ2B.l0,i2,cond_true,q2,c,decide_true,hin,t0,Option.bind_some,t1,Bool.not_true,cond_false,ce,j0,j1,j2,j3,r0,r1,r2,r3,hb,hy,hw])
  ⟨[],b,rfl,hb.1,hb.2,by simp⟩ (by simp)
 obtain ⟨y,ey,hy⟩:=key
 rw[ey,Option.bind_some]
 rcases hy with ⟨es,rfl,h20⟩ | rfl
 rotate_left
 ·exact ⟨(zeroHint,false),by simp only[caseS_r];rfl,.inl rfl⟩
 simp only[caseS_l,spec_ShowHint_eq (a0,a1,es) (show es.length<1000000000 by omega),Option.bind_some]
 by_cases c5:showHint (a0,a1,es)=s
 rotate_left
 ·have d5:(showHint (a0,a1,es)==s)=false:=by simpa using c5
  exact ⟨(zeroHint,false),by simp only[d5,Bool.not_false,cond_true];rfl,.inl rfl⟩
 have d5:(showHint (a0,a1,es)==s)=true:=by simpa using c5
 refine ⟨((a0,a1,es),true),by simp only[d5,Bool.not_true,cond_false],.inr ⟨_,rfl,?_,c5⟩⟩
 cases hk:hintOk (a0,a1,es) with
 | true=>rfl
 | false=>
  exfalso
  have:showHint (a0,a1,es)=[]:=by unfold showHint;rw[if_pos hk]
  rw[this] at c5
  rw[←c5] at c0
  simp at c0
noncomputable def readHint (s:List UInt8):HintT×Bool:=@dite (HintT×Bool) (∃v,isHint s v) (Classical.propDecidable _) (fun h=>(h.choose,true)) (fun _=>(zeroHint,false))
theorem readHint_of {s:List UInt8} {o:Option (HintT×Bool)} (h1:∀v,isHint s v→o=some (v,true)) (h2:∃res:HintT×Bool,o=some res∧(res=(zeroHint,false)∨∃v,res=(v,true)∧isHint s v)):o=some (readHint s):=by
 unfold readHint
 by_cases h:∃v,isHint s v
 ·rw[dif_pos h];exact h1 _ h.choose_spec
 ·rw[dif_neg h]
  obtain ⟨res,e,k | ⟨v,_,hv⟩⟩:=h2
  ·rw[e,k]
  ·exact absurd ⟨v,hv⟩ h
theorem impl_ReadHint_eq (s:List UInt8) (hl:s.length<900000000):ψX.f s=some (readHint s):=readHint_of (fun _ h=>impl_ReadHint_back h) (impl_ReadHint_tot s hl)
theorem spec_ReadHint_eq (s:List UInt8) (hl:s.length<900000000):ψ2B.f s=some (readHint s):=readHint_of (fun _ h=>spec_ReadHint_back h) (spec_ReadHint_tot s hl)
theorem readHint_cases (s:List UInt8):readHint s=(zeroHint,false)∧(¬∃v,isHint s v)∨∃v,readHint s=(v,true)∧isHint s v:=by
 unfold readHint
 by_cases h:∃v,isHint s v
 ·rw[dif_pos h];exact .inr ⟨_,rfl,h.choose_spec⟩
 ·rw[dif_neg h];exact .inl ⟨rfl,h⟩
theorem entry_and (x y:EntryT):(x.1==y.1 && (x.2.1==y.2.1 && (x.2.2.1==y.2.2.1 && (x.2.2.2.1==y.2.2.2.1 && x.2.2.2.2==y.2.2.2.2))))=decide (x=y):=by
 obtain ⟨a,b,c,d,e⟩:=x
 obtain ⟨a',b',c',d',e'⟩:=y
 apply Bool.eq_iff_iff.2
 simp
theorem impl_SameDir_eq (a b:List EntryT) (ha:a.length<2 ^ 62):ψi.f a b=some (decide (a=b)):=by
 unfold ψi.f
 by_cases hl:a.length=b.length
 rotate_left
 ·rw[len_ne hl]
  have:¬a=b:=fun e=>hl (by rw[e])
  rw[decide_eq_false this];rfl
 rw[len_eq hl,cond_false]
 have key:=all_loop (step:=ψi.l0) (List.range a.length) (fun i=>decide (a.getD i ([],0,0,0,0)=b.getD i ([],0,0,0,0))) (fun n=>(a,b,(a.length:Int),(n:Int))) () (by simpa using ha)
  (fun rec n h=>by
   have h1:n<a.length:=by simpa using h
   have h2:n<b.length:=by omega
   have hw:=w64_succ (show n+1<9223372036854775808 by omega)
   have hr:(List.range a.length)[n]=n:=by simp
   simp only[ψi.l0,Int.ofNat_lt,h1,decide_true,cond_true,inB_nat,h2,rdA_nat,entry_and,hw,hr]
   cases decide (a.getD n ([],0,0,0,0)=b.getD n ([],0,0,0,0))<;>simp)
  (fun rec=>by simp[ψi.l0])
 have key:lp ψi.l0 (a,b,(a.length:Int),0)=_:=key
 rw[key,Option.bind_some]
 have hall:(List.range a.length).all (fun i=>decide (a.getD i ([],0,0,0,0)=b.getD i ([],0,0,0,0)))=decide (a=b):=by
  apply Bool.eq_iff_iff.2
  rw[List.all_eq_true,decide_eq_true_eq]
  constructor
  ·intro h
   apply List.ext_getElem hl
   intro i h1 h2
   have:=h i (by simpa using h1)
   simp only[decide_eq_true_eq] at this
   rwa [getD_lt h1,getD_lt h2] at this
  ·rintro rfl i _;simp
 rw[hall]
 by_cases e:a=b
 ·rw[decide_eq_true e];simp[caseS_l]
 ·rw[decide_eq_false e];simp[caseS_r]
theorem spec_SameDir_eq (a b:List EntryT) (ha:a.length<2 ^ 62):ψ2K.f a b=some (decide (a=b)):=by
 unfold ψ2K.f
 by_cases hl:a.length=b.length
 rotate_left
 ·rw[len_ne hl]
  have:¬a=b:=fun e=>hl (by rw[e])
  rw[decide_eq_false this];rfl
 rw[len_eq hl,cond_false]
 have key:=all_loop (step:=ψ2K.l0) (List.range a.length) (fun i=>decide (a.getD i ([],0,0,0,0)=b.getD i ([],0,0,0,0))) (fun n=>(a,b,(n:Int))) () (by simpa using ha)
  (fun rec n h=>by
   have h1:n<a.length:=by simpa using h
   have h2:n<b.length:=by omega
   have hw:=w64_succ (show n+1<9223372036854775808 by omega)
   have hr:(List.range a.length)[n]=n:=by simp
   simp only[ψ2K.l0,Int.ofNat_lt,h1,decide_true,cond_true,inB_nat,h2,rdA_nat,entry_and,hw,hr]
   cases decide (a.getD n ([],0,0,0,0)=b.getD n ([],0,0,0,0))<;>simp)
  (fun rec=>by simp[ψ2K.l0])
 have key:lp ψ2K.l0 (a,b,0)=_:=key
 rw[key,Option.bind_some]
 have hall:(List.range a.length).all (fun i=>decide (a.getD i ([],0,0,0,0)=b.getD i ([],0,0,0,0)))=decide (a=b):=by
  apply Bool.eq_iff_iff.2
  rw[List.all_eq_true,decide_eq_true_eq]
  constructor
  ·intro h
   apply List.ext_getElem hl
   intro i h1 h2
   have:=h i (by simpa using h1)
   simp only[decide_eq_true_eq] at this
   rwa [getD_lt h1,getD_lt h2] at this
  ·rintro rfl i _;simp
 rw[hall]
 by_cases e:a=b
 ·rw[decide_eq_true e];simp[caseS_l]
 ·rw[decide_eq_false e];simp[caseS_r]
noncomputable def hintFits (id:Int) (t:List UInt8) (h:HintT):Bool:=decide (hintOf id t=(h,true))
theorem hint_split (x:HintT×Bool) (h:HintT):(bif x.2 then bif x.1.1==h.1 then bif x.1.2.1==h.2.1 then decide (x.1.2.2=h.2.2) else false else false else false)=decide (x=(h,true)):=by
 obtain ⟨⟨a,b,c⟩,d⟩:=x
 obtain ⟨a',b',c'⟩:=h
 apply Bool.eq_iff_iff.2
 cases d
 ·simp
 ·simp only[cond_true,decide_eq_true_eq,Prod.mk.injEq,and_true]
  by_cases e1:a=a'
  ·by_cases e2:b=b'
   ·simp[e1,e2]
   ·have:(b==b')=false:=by simpa using e2
    simp[e1,e2,this]
  ·have:(a==a')=false:=by simpa using e1
   simp[e1,this]
theorem impl_HintFits_eq (id:Int) (t:List UInt8) (h:HintT) (ht:t.length<100000000):ψL.f id t h=some (hintFits id t h):=by
 unfold ψL.f hintFits
 rw[impl_HintOf_eq id t ht,Option.bind_some,←hint_split]
 have hl:=hintOf_len id t
 generalize hintOf id t=x at hl ⊢
 obtain ⟨⟨a,b,c⟩,d⟩:=x
 simp only[impl_SameDir_eq c h.2.2 (show c.length<2 ^ 62 by have:c.length≤t.length:=hl;omega),Option.bind_some]
 cases d<;>simp only[cond_true,cond_false]
 cases (a==h.1)<;>cases (b==h.2.1)<;>rfl
theorem spec_HintFits_eq (id:Int) (t:List UInt8) (h:HintT) (ht:t.length<100000000):ψ1x.f id t h=some (hintFits id t h):=by
 unfold ψ1x.f hintFits
 rw[spec_HintOf_eq id t ht,Option.bind_some,←hint_split]
 have hl:=hintOf_len id t
 generalize hintOf id t=x at hl ⊢
 obtain ⟨⟨a,b,c⟩,d⟩:=x
 simp only[spec_SameDir_eq c h.2.2 (show c.length<2 ^ 62 by have:c.length≤t.length:=hl;omega),Option.bind_some]
 cases d<;>simp only[cond_true,cond_false]
 cases (a==h.1)<;>cases (b==h.2.1)<;>rfl
abbrev GroupT:=List EntryT×Int×Int
abbrev zPlace:PlaceT:=(0,0,0,0,0,[],[],0,0)
def ownStep (k b:Int) (acc:List PlaceT) (p:PlaceT):List PlaceT:=
 if k=3∧p.2.2.2.2.1≠b then acc
 else if p.2.2.2.1=k then []
 else if (k=3∧(p.2.2.2.1=1∨p.2.2.2.1=2))∨(k=5∧p.2.2.2.1=4) then acc++[p] else acc
def ownL (k b:Int) (l:List PlaceT):List PlaceT:=l.foldl (ownStep k b) []
theorem ownStep_len (k b:Int) (acc:List PlaceT) (p:PlaceT):(ownStep k b acc p).length≤acc.length+1:=by
 unfold ownStep
 split
 ·omega
 ·split
  ·simp
  ·split
   ·simp
   ·omega
theorem ownL_len (k b:Int) (l:List PlaceT):(ownL k b l).length≤l.length:=by
 have:∀(l acc:List PlaceT),(l.foldl (ownStep k b) acc).length≤acc.length+l.length:=by
  intro l
  induction l with
  | nil=>intro acc;simp
  | cons x l ih=>intro acc;have:=ih (ownStep k b acc x);have:=ownStep_len k b acc x;simp only[List.foldl_cons,List.length_cons];omega
 have:=this l []
 unfold ownL
 simpa using this
theorem lim88 {a:Nat} (h:a<1000000000001):(a+1) * 88≤140737488355328:=by omega
theorem impl_ownOf_eq (l:List PlaceT) (r:RecT) (hl:l.length<1000000000):ψ18.f l r=some (ownL r.1 r.2.1 l):=by
 have hk:=fold_loop (step:=ψ18.l0) l (ownStep r.1 r.2.1) (fun n (s:List PlaceT)=>(r,s,l,(l.length:Int),(n:Int))) (fun s=>s) (fun n s=>s.length≤n) (by omega)
  (fun rec n s h hi=>by
   have hw:=w64_succ (show n+1<9223372036854775808 by omega)
   have hb:(s.length+([l[n]]:List PlaceT).length) * 88≤140737488355328:=lim88 (by omega)
   have hb2:decide ((s.length+1) * 88≤140737488355328)=true:=by simp only[decide_eq_true_eq];omega
   unfold ownStep
   simp only[ψ18.l0,Int.ofNat_lt,h,decide_true,cond_true,inB_nat,rdA_nat,getD_lt h]
   generalize l[n]=p at *
   obtain ⟨sg,at_,ln,k,b,key,v,c,z⟩:=p
   obtain ⟨rk,rb,rr⟩:=r
   simp only at hb ⊢
   by_cases c1:rk=3
   ·subst c1
    simp only[beq_self_eq_true,cond_true,true_and,show ¬((3:Int)=5) by decide,false_and,or_false]
    by_cases c2:b=rb
    ·subst c2
     simp only[bne_self_eq_false,cond_false,ne_eq,not_true,if_false]
     by_cases c3:k=3
     ·subst c3;simp[hw]
     ·have d3:(k==3)=false:=by simpa using c3
      simp only[d3,cond_false,c3,if_false]
      by_cases c4:k=1
      ·subst c4;simp[hw,hb2]
      ·have d4:(k==1)=false:=by simpa using c4
       simp only[d4,cond_false,c4,false_or]
       by_cases c5:k=2
       ·subst c5;simp[hw,hb2]
       ·have d5:(k==2)=false:=by simpa using c5
        have d6:((3:Int)==5)=false:=rfl
        simp[d5,c5,d6,hw]
    ·have d2:(b != rb)=true:=by simpa using c2
     simp[d2,c2,hw]
   ·have d1:(rk==3)=false:=by simpa using c1
    simp only[d1,cond_false,c1,false_and,if_false,false_or]
    by_cases c3:k=rk
    ·have d3:(k==rk)=true:=by simpa using c3
     simp[d3,c3,hw]
    ·have d3:(k==rk)=false:=by simpa using c3
     simp only[d3,cond_false,c3,if_false]
     by_cases c4:rk=5
     ·subst c4
      simp only[beq_self_eq_true,cond_true,true_and]
      by_cases c5:k=4
      ·subst c5;simp[hw,hb2]
      ·have d5:(k==4)=false:=by simpa using c5
       simp[d5,c5,hw]
     ·have d4:(rk==5)=false:=by simpa using c4
      simp[d4,c4,hw])
  (fun n s h hi=>by have:=ownStep_len r.1 r.2.1 s l[n];omega)
  (fun rec s hi=>by simp[ψ18.l0]) [] (Nat.le_refl _)
 have hk:lp ψ18.l0 (r,[],l,(l.length:Int),0)=_:=hk
 unfold ψ18.f
 rw[hk];rfl
theorem spec_l9Of_eq (l:List PlaceT) (n:Nat) (hn:n≤l.length) (b:Int) (hl:l.length<1000000000):ψ3H.f l (n:Int) b=some (ownL 3 b (l.take n)):=by
 have htl:(l.take n).length=n:=by rw[List.length_take];omega
 have hk:=fold_loop (step:=ψ3H.l0) (l.take n) (ownStep 3 b) (fun i (s:List PlaceT)=>(l,(n:Int),b,s,(i:Int))) (fun s=>s) (fun i s=>s.length≤i) (by omega)
  (fun rec i s h hi=>by
   have h1:i<n:=by omega
   have h2:i<l.length:=by omega
   have hw:=w64_succ (show i+1<9223372036854775808 by omega)
   have hb:(s.length+([l[i]]:List PlaceT).length) * 88≤140737488355328:=lim88 (by omega)
   have hb2:decide ((s.length+1) * 88≤140737488355328)=true:=by simp only[decide_eq_true_eq];omega
   unfold ownStep
   simp only[ψ3H.l0,Int.ofNat_lt,h1,decide_true,cond_true,List.getElem_take]
   obtain ⟨⟨sg,at_,ln,k,bb,key,v,c,z⟩,hp⟩:∃p,l[i]=p:=⟨_,rfl⟩
   have hr:rdA zPlace l (i:Int)=(sg,at_,ln,k,bb,key,v,c,z):=by rw[rdA_nat,getD_lt h2,hp]
   have hx:inB (i:Int) l.length=true:=by rw[inB_nat,decide_eq_true h2]
   simp only[hp,hr,hx,cond_true]
   simp only[true_and,show ¬((3:Int)=5) by decide,false_and,or_false]
   by_cases c2:bb=b
   ·subst c2
    simp only[beq_self_eq_true,cond_true,ne_eq,not_true,if_false]
    by_cases c3:k=3
    ·subst c3;simp[hw,hr,hx]
    ·have d3:(k==3)=false:=by simpa using c3
     simp only[d3,cond_false,c3,if_false,Option.bind_some,beq_self_eq_true,cond_true]
     by_cases c4:k=1
     ·subst c4;simp[hw,hb2,hr,hx]
     ·have d4:(k==1)=false:=by simpa using c4
      simp only[d4,cond_false,c4,false_or]
      by_cases c5:k=2
      ·subst c5;simp[hw,hb2,hr,hx]
      ·have d5:(k==2)=false:=by simpa using c5
       simp[d5,c5,hw,hr,hx]
   ·have d2:(bb==b)=false:=by simpa using c2
    simp[d2,c2,hw,hr,hx])
  (fun i s h hi=>by have:=ownStep_len 3 b s (l.take n)[i];omega)
  (fun rec s hi=>by rw[htl];simp[ψ3H.l0]) [] (Nat.le_refl _)
 have hk:lp ψ3H.l0 (l,(n:Int),b,[],0)=_:=hk
 unfold ψ3H.f
 rw[hk];rfl
theorem spec_l9Kept_eq (l:List PlaceT) (n:Nat) (hn:n≤l.length) (b:Int) (hl:l.length<1000000000):ψ3G.f l (n:Int)=some (ownL 5 b (l.take n)):=by
 have htl:(l.take n).length=n:=by rw[List.length_take];omega
 have hk:=fold_loop (step:=ψ3G.l0) (l.take n) (ownStep 5 b) (fun i (s:List PlaceT)=>(l,(n:Int),s,(i:Int))) (fun s=>s) (fun i s=>s.length≤i) (by omega)
  (fun rec i s h hi=>by
   have h1:i<n:=by omega
   have h2:i<l.length:=by omega
   have hw:=w64_succ (show i+1<9223372036854775808 by omega)
   have hb:(s.length+([l[i]]:List PlaceT).length) * 88≤140737488355328:=lim88 (by omega)
   have hb2:decide ((s.length+1) * 88≤140737488355328)=true:=by simp only[decide_eq_true_eq];omega
   unfold ownStep
   simp only[ψ3G.l0,Int.ofNat_lt,h1,decide_true,cond_true,List.getElem_take]
   obtain ⟨⟨sg,at_,ln,k,bb,key,v,c,z⟩,hp⟩:∃p,l[i]=p:=⟨_,rfl⟩
   have hr:rdA zPlace l (i:Int)=(sg,at_,ln,k,bb,key,v,c,z):=by rw[rdA_nat,getD_lt h2,hp]
   have hx:inB (i:Int) l.length=true:=by rw[inB_nat,decide_eq_true h2]
   simp only[hp,hr,hx,cond_true]
   simp only[show ¬((5:Int)=3) by decide,false_and,if_false,false_or,true_and]
   by_cases c3:k=5
   ·subst c3;simp[hw,hr,hx]
   ·have d3:(k==5)=false:=by simpa using c3
    simp only[d3,cond_false,c3,if_false,Option.bind_some]
    by_cases c4:k=4
    ·subst c4;simp[hw,hb2,hr,hx]
    ·have d4:(k==4)=false:=by simpa using c4
     simp[d4,c4,hw,hr,hx])
  (fun i s h hi=>by have:=ownStep_len 5 b s (l.take n)[i];omega)
  (fun rec s hi=>by rw[htl];simp[ψ3G.l0]) [] (Nat.le_refl _)
 have hk:lp ψ3G.l0 (l,(n:Int),[],0)=_:=hk
 unfold ψ3G.f
 rw[hk];rfl
theorem spec_l9Recs_eq (l:List PlaceT) (hl:l.length<1000000000):ψ3J.f l=some (l.map (·.2.2.2)):=by
 have hk:=fold_loop (step:=ψ3J.l0) l (fun (s:List RecT) (p:PlaceT)=>s++[p.2.2.2]) (fun n (s:List RecT)=>(l,s,(n:Int))) (fun s=>s) (fun n s=>s.length≤n) (by omega)
  (fun rec n s h hi=>by
   have hw:=w64_succ (show n+1<9223372036854775808 by omega)
   have hb:(s.length+([l[n].2.2.2]:List RecT).length) * 64≤140737488355328:=lim64R (by omega)
   simp only[ψ3J.l0,Int.ofNat_lt,h,decide_true,cond_true,inB_nat,rdA_nat,getD_lt h,hb,hw])
  (fun n s h hi=>by simp;omega)
  (fun rec s hi=>by simp[ψ3J.l0]) [] (Nat.le_refl _)
 have hk:lp ψ3J.l0 (l,[],0)=_:=hk
 unfold ψ3J.f
 rw[hk,Option.bind_some]
 have:∀(l:List PlaceT) (s:List RecT),l.foldl (fun (s:List RecT) (p:PlaceT)=>s++[p.2.2.2]) s=s++l.map (·.2.2.2):=by
  intro l
  induction l with
  | nil=>intro s;simp
  | cons x l ih=>intro s;rw[List.foldl_cons,ih];simp
 rw[this];rfl
theorem spec_l9Fits_eq (r:RecT) (l:List PlaceT) (hl:l.length<1000000000):ψ3F.f r l=some (fitsR r (l.map (·.2.2.2))):=by
 unfold ψ3F.f fitsR
 rw[spec_l9Recs_eq l hl,List.length_map]
 cases (r.2.2.2.2.1==(l.length:Int)) with
 | false=>rfl
 | true=>
  simp only[cond_true,Option.bind_some,spec_SumOf_eq (l.map (·.2.2.2)) (by rw[List.length_map];omega),Bool.true_and]
def putD (dir:List EntryT) (p:PlaceT):List EntryT:=
 if p.2.2.2.1=2 then dropK dir p.2.2.2.2.2.1 else insB (dropK dir p.2.2.2.2.2.1) (p.2.2.2.2.2.1,p.1,p.2.1,p.2.2.1,p.2.2.2.2.1)
def applyD (dir:List EntryT) (own:List PlaceT):List EntryT:=own.foldl putD dir
theorem putD_len (dir:List EntryT) (p:PlaceT):(putD dir p).length≤dir.length+1:=by
 unfold putD
 have:=dropK_len dir p.2.2.2.2.2.1
 split
 ·omega
 ·rw[insB_len];omega
theorem applyD_len (own:List PlaceT):∀dir,(applyD dir own).length≤dir.length+own.length:=by
 unfold applyD
 induction own with
 | nil=>intro dir;simp
 | cons x l ih=>intro dir;have:=ih (putD dir x);have:=putD_len dir x;simp only[List.foldl_cons,List.length_cons];omega
def codeD (dir:List EntryT) (c:Int):Int:=if 20<dir.length then 2 else c
theorem impl_apply_eq (g:GroupT) (own:List PlaceT) (hg:g.1.length<100000000) (ho:own.length<100000000):ψK.f g own=some (applyD g.1 own,g.2.1,codeD (applyD g.1 own) g.2.2):=by
 have hk:=fold_loop (step:=ψK.l0) own putD (fun n (s:List EntryT)=>((s,g.2),own,(own.length:Int),(n:Int))) (fun s=>(s,g.2)) (fun n s=>s.length≤g.1.length+n) (by omega)
  (fun rec n s h hi=>by
   have hw:=w64_succ (show n+1<9223372036854775808 by omega)
   unfold putD
   simp only[ψK.l0,Int.ofNat_lt,h,decide_true,cond_true,inB_nat,rdA_nat,getD_lt h]
   by_cases c:own[n].2.2.2.1=2
   ·have d:(own[n].2.2.2.1==2)=true:=by simpa using c
    rw[if_pos c]
    simp only[d,cond_true,impl_DirDrop_eq s own[n].2.2.2.2.2.1 (by omega),Option.bind_some,hw]
   ·have d:(own[n].2.2.2.1==2)=false:=by simpa using c
    rw[if_neg c]
    simp only[d,cond_false,impl_DirPut_eq s (own[n].2.2.2.2.2.1,own[n].1,own[n].2.1,own[n].2.2.1,own[n].2.2.2.2.1) (by omega),Option.bind_some,hw])
  (fun n s h hi=>by have:=putD_len s own[n];omega)
  (fun rec s hi=>by simp[ψK.l0]) g.1 (Nat.le_refl _)
 have hk:lp ψK.l0 (g,own,(own.length:Int),0)=some (applyD g.1 own,g.2):=hk
 unfold ψK.f codeD
 rw[hk,Option.bind_some]
 simp only
 by_cases c:20<(applyD g.1 own).length
 ·have d:decide (((applyD g.1 own).length:Int) > 20)=true:=by simp;omega
  rw[d,if_pos c];rfl
 ·have d:decide (((applyD g.1 own).length:Int) > 20)=false:=by simp;omega
  rw[d,if_neg c];rfl
theorem spec_Regroup_l3 (x1:List PlaceT) (x4:GroupT) (d0:List EntryT) (z:Int×Int) (x6:Int) (own:List PlaceT) (hg:d0.length<40000000) (ho:own.length<40000000) :
  lp ψ2H.l3 (x1,x4,(d0,z),x6,own,0)=some (x1,x4,(applyD d0 own,z),x6):=by
 have hk:=fold_loop (step:=ψ2H.l3) own putD (fun n (s:List EntryT)=>(x1,x4,(s,z),x6,own,(n:Int))) (fun s=>(x1,x4,(s,z),x6)) (fun n s=>s.length≤d0.length+n) (by omega)
  (fun rec n s h hi=>by
   have hw:=w64_succ (show n+1<9223372036854775808 by omega)
   have e:ψ3I.f s (own[n].1,own[n].2.1,own[n].2.2.1,own[n].2.2.2.1,own[n].2.2.2.2.1,own[n].2.2.2.2.2.1,own[n].2.2.2.2.2.2.1,own[n].2.2.2.2.2.2.2)=some (putD s own[n]):=spec_l9Put_eq s own[n] (by omega)
   simp only[ψ2H.l3,Int.ofNat_lt,h,decide_true,cond_true,inB_nat,rdA_nat,getD_lt h,e,Option.bind_some,hw])
  (fun n s h hi=>by have:=putD_len s own[n];omega)
  (fun rec s hi=>by simp[ψ2H.l3]) d0 (Nat.le_refl _)
 exact hk
def regStep (pre:List PlaceT) (p:PlaceT) (g:GroupT):GroupT:=
 let last:=if p.2.2.2.2.1 > g.2.1 then p.2.2.2.2.1 else g.2.1
 if p.2.2.2.1=3∨p.2.2.2.1=5 then
  let own:=ownL p.2.2.2.1 p.2.2.2.2.1 pre
  if fitsR p.2.2.2 (own.map (·.2.2.2))=true then (applyD g.1 own,last,codeD (applyD g.1 own) g.2.2)
  else if p.2.2.2.1=5 then (g.1,last,1) else (g.1,last,g.2.2)
 else (g.1,last,g.2.2)
def regGo:List PlaceT→List PlaceT→GroupT→GroupT
 | _,[],g=>g
 | pre,p::r,g=>if g.2.2≠0 then g else regGo (pre++[p]) r (regStep pre p g)
end Go.Rf.G
