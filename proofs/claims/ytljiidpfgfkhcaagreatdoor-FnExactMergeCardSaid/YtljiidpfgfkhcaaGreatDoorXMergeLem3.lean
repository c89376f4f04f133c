/- Plain laws: what the plain functions answer. -/
import Derived.Test.YtljiidpfgfkhcaaGreatDoorXMergeLem2
namespace Go.Rf.G
open Go Go.Rf
set_option linter.unusedVariables false
set_option linter.unusedSimpArgs false
set_option synthInstance.maxSize 4000

theorem spec_merge_eq (s : StoreT) (d : DiskT) (l : List PairT) (h : diskOk d = true) (hv : liveOk s.1 = true) (h2 : s.1.1 + 2 ≤ 100000) (hb : 1 ≤ s.2.2.1 ∧ s.2.2.1 ≤ 1000001) (hl : l.length < 100000) : spec_l14Merge.f s d l = some (mergeP s d l) := by
  obtain ⟨k1, k2, k3, k4⟩ := (liveOk_iff s.1).1 hv
  have hkl := keepsOf_len l (s.2.2.1 - 1)
  have hlv := live_two s.1.1 (by omega) h2
  have hsn := segName_len s.1.1
  have hsn1 := segName_len (s.1.1 + 1)
  have hhn := hintName_len s.1.1
  have g1 := dk_sWM s.1.1 (keepsOf l (s.2.2.1 - 1)) (w := (d, 0)) h
  obtain ⟨dir, ew, edir⟩ := spec_l14Write_eq d s.1.1 l (s.2.2.1 - 1) h (by omega)
  unfold spec_l14Merge.f mergeP
  simp only [show w64 (s.1.1 + 2) = s.1.1 + 2 from w64_id (by omega) (by omega), show w64 (s.1.1 + 1) = s.1.1 + 1 from w64_id (by omega) (by omega), show w64 (s.2.2.1 - 1) = s.2.2.1 - 1 from w64_id (by omega) (by omega), ew, Option.bind_some, told_ne]
  generalize sWM s.1.1 (keepsOf l (s.2.2.1 - 1)) (d, 0) = w0 at *
  obtain ⟨x0, c0⟩ := w0
  have g1 : diskOk x0 = true := g1
  by_cases c1 : c0 = 0
  rotate_left
  · have d1 : (c0 != 0) = true := by simpa using c1
    have c2 : told c0 ≠ 0 := fun e => c1 ((told_zero c0).1 e)
    have e1 : sHint s.1.1 (x0, c0) = (x0, c0) := by unfold sHint; rw [if_pos c1]
    rw [sNew_ne c1, e1]
    simp only [d1, cond_true, c1, if_false, spec_l14Fail_eq _ x0 s.1.1 (told c0) g1 (by omega) c2, Option.bind_some]
    rw [if_pos (show (toldW (x0, c0)).2 ≠ 0 from c2)]; rfl
  subst c1
  have edir := edir rfl
  subst edir
  have g2 := dk_sNew (w := (x0, 0)) g1 (segName (s.1.1 + 1))
  simp only [bne_self_eq_false, cond_false, spec_SegName_eq, spec_Fresh_eq x0 (segName (s.1.1 + 1)) g1 (by omega), Option.bind_some]
  generalize sNew (segName (s.1.1 + 1)) (x0, 0) = w1 at *
  obtain ⟨x1, c1⟩ := w1
  have g2 : diskOk x1 = true := g2
  by_cases c2 : c1 = 0
  rotate_left
  · have d1 : (c1 != 0) = true := by simpa using c2
    have c3 : told c1 ≠ 0 := fun e => c2 ((told_zero c1).1 e)
    have e1 : sHint s.1.1 (x1, c1) = (x1, c1) := by unfold sHint; rw [if_pos c2]
    rw [e1]
    simp only [d1, cond_true, c2, if_false, spec_l11Code_eq, spec_l14Fail_eq _ x1 s.1.1 (told c1) g2 (by omega) c3, Option.bind_some]
    rw [if_pos (show (toldW (x1, c1)).2 ≠ 0 from c3)]; rfl
  subst c2
  obtain ⟨t1, t2⟩ := hint_txt s.1.1 (d := x1) g2
  have hsl := showHint_len (hintOf s.1.1 (fileText x1 (segName s.1.1)).1).1
  have hd : dlim x1 := dl_lim (dl_dk g2) (by omega)
  have g3 := dk_hintStep s.1.1 g2
  have n2 := hintStep_ne2 s.1.1 x1
  have e1 : sHint s.1.1 (x1, 0) = hintStep s.1.1 x1 := by unfold sHint; rw [if_neg (by simp)]
  rw [e1]
  simp only [bne_self_eq_false, cond_false, spec_FileText_eq x1 (segName s.1.1) hd, Option.bind_some, spec_HintOf_eq s.1.1 (fileText x1 (segName s.1.1)).1 (by omega), spec_HintName_eq, spec_ShowHint_eq (hintOf s.1.1 (fileText x1 (segName s.1.1)).1).1 (by omega), spec_l11File_eq x1 (hintName s.1.1) _ (dl_dk g2) (show 100001 + 1 + (hintName s.1.1).length + (showHint (hintOf s.1.1 (fileText x1 (segName s.1.1)).1).1).length ≤ 1000000000 by omega)]
  have hf := dk_sFile (w := (x1, 0)) g2 (hintName s.1.1) (showHint (hintOf s.1.1 (fileText x1 (segName s.1.1)).1).1)
  have eh : hintStep s.1.1 x1 = if (sFile (hintName s.1.1) (showHint (hintOf s.1.1 (fileText x1 (segName s.1.1)).1).1) (x1, 0)).2 = 2 then dGone (hintName s.1.1) (sFile (hintName s.1.1) (showHint (hintOf s.1.1 (fileText x1 (segName s.1.1)).1).1) (x1, 0)).1 else sFile (hintName s.1.1) (showHint (hintOf s.1.1 (fileText x1 (segName s.1.1)).1).1) (x1, 0) := rfl
  generalize sFile (hintName s.1.1) (showHint (hintOf s.1.1 (fileText x1 (segName s.1.1)).1).1) (x1, 0) = f at *
  obtain ⟨xf, cf⟩ := f
  have hf : diskOk xf = true := hf
  have e4 : (bif cf == 2 then (spec_l14Drop.f xf [hintName s.1.1]).bind fun (t15_0, t15_1) => some ((((s.1.1 + 2, s.1.2), s.2) : StoreT), (((0, []), [], 0, 0, 0) : StoreT), (([], 0, 0, false) : DiskT), s.1.1, t15_0, entsG s.1.1 0 (keepsOf l (s.2.2.1 - 1)), t15_1) else some (((s.1.1 + 2, s.1.2), s.2), ((0, []), [], 0, 0, 0), ([], 0, 0, false), s.1.1, xf, entsG s.1.1 0 (keepsOf l (s.2.2.1 - 1)), cf)) =
      some (((s.1.1 + 2, s.1.2), s.2), ((0, []), [], 0, 0, 0), ([], 0, 0, false), s.1.1, (hintStep s.1.1 x1).1, entsG s.1.1 0 (keepsOf l (s.2.2.1 - 1)), (hintStep s.1.1 x1).2) := by
    rw [eh]
    by_cases c5 : cf = 2
    · subst c5
      rw [spec_l14Drop_eq xf [hintName s.1.1] hf (by simp)]
      simp only [beq_self_eq_true, cond_true, Option.bind_some, if_true]
      rw [show sDrop [hintName s.1.1] (xf, 0) = dGone (hintName s.1.1) xf by show sstep (dGone (hintName s.1.1)) (xf, 0) = _; rw [sstep_z]]
    · have d5 : (cf == 2) = false := by simpa using c5
      simp only [d5, cond_false, c5, if_false]
  rw [e4, Option.bind_some]
  clear e4 eh
  generalize hintStep s.1.1 x1 = w2 at *
  obtain ⟨x2, c2⟩ := w2
  have g3 : diskOk x2 = true := g3
  have n2 : c2 ≠ 2 := n2
  by_cases c5 : c2 = 0
  rotate_left
  · have d1 : (c2 != 0) = true := by simpa using c5
    have c6 : told c2 ≠ 0 := fun e => c5 ((told_zero c2).1 e)
    have c7 : ¬ told c2 = 2 := fun e => n2 ((told_two c2).1 e)
    simp only [d1, cond_true, c5, if_false, spec_l11Code_eq, Option.bind_some]
    rw [if_pos (show (toldW (x2, c2)).2 ≠ 0 from c6)]
    unfold cleanW
    rw [if_neg (show ¬ (toldW (x2, c2)).2 = 2 from c7)]; rfl
  subst c5
  have hb0 : (([] : List Int).length + s.1.2.length) * 8 ≤ 140737488355328 := lim8' (by omega)
  have g4 := dk_sPut (w := (x2, 0)) g3 (s.1.1 + 2, [s.1.1, s.1.1 + 1])
  have ep : spec_PutLive.f x2 (s.1.1 + 2, [s.1.1, s.1.1 + 1]) = some (toldW (sPut (s.1.1 + 2, [s.1.1, s.1.1 + 1]) (x2, 0))) := by
    rw [spec_PutLive_eq _ _ (dl_dk g3) (by omega) (by simp)]
    unfold putLive
    rw [if_neg (by rw [hlv, g3]; simp)]
  simp only [bne_self_eq_false, cond_false, if_true, hb0, decide_true, cond_true, List.nil_append, show w64 (s.1.1 + 2) = s.1.1 + 2 from w64_id (by omega) (by omega), show w64 (s.1.1 + 1) = s.1.1 + 1 from w64_id (by omega) (by omega), ep, Option.bind_some]
  have g5 : diskOk (toldW (sPut (s.1.1 + 2, [s.1.1, s.1.1 + 1]) (x2, 0))).1 = true := g4
  generalize toldW (sPut (s.1.1 + 2, [s.1.1, s.1.1 + 1]) (x2, 0)) = w3 at *
  obtain ⟨x3, c3⟩ := w3
  have g5 : diskOk x3 = true := g5
  by_cases c6 : c3 = 0
  rotate_left
  · have d6 : (c3 != 0) = true := by simpa using c6
    simp only [d6, cond_true, c6, ne_eq, not_false_eq_true, if_true, spec_l14Fail_eq _ x3 s.1.1 c3 g5 (by omega) c6, Option.bind_some]
  subst c6
  simp only [bne_self_eq_false, cond_false, ne_eq, not_true_eq_false, if_false, spec_merge_l0 _ s.1.2 x3 g5 (by omega), Option.bind_some]
  generalize sOld s.1.2 (x3, 0) = w4
  obtain ⟨x4, c4⟩ := w4
  by_cases c7 : c4 = 0
  · subst c7; rfl
  · simp only [c7, if_false, caseS_r]; rfl

theorem mergeP_ok {s : StoreT} {d : DiskT} (l : List PairT) (h : diskOk d = true) : diskOk (mergeP s d l).2.1 = true ∧ (mergeP s d l).1.1.2.length ≤ s.1.2.length + 2 ∧ (mergeP s d l).1.2.1.length ≤ s.2.1.length + l.length + 1 := by
  have g1 := dk_sWM s.1.1 (keepsOf l (s.2.2.1 - 1)) (w := (d, 0)) h
  have g2 := dk_sNew g1 (segName (s.1.1 + 1))
  have hkl := keepsOf_len l (s.2.2.1 - 1)
  have hel := entsG_len s.1.1 (keepsOf l (s.2.2.1 - 1)) 0
  unfold mergeP
  simp only
  generalize sNew (segName (s.1.1 + 1)) (sWM s.1.1 (keepsOf l (s.2.2.1 - 1)) (d, 0)) = w1 at *
  have g3 : diskOk (sHint s.1.1 w1).1 = true := by
    unfold sHint; split
    · exact g2
    · exact dk_hintStep _ g2
  generalize sHint s.1.1 w1 = w2 at *
  have g5 : diskOk (if w2.2 = 0 then toldW (sPut (s.1.1 + 2, [s.1.1, s.1.1 + 1]) w2) else toldW w2).1 = true := by
    split
    · exact dk_sPut g3 _
    · exact g3
  generalize (if w2.2 = 0 then toldW (sPut (s.1.1 + 2, [s.1.1, s.1.1 + 1]) w2) else toldW w2) = w3 at *
  split
  · exact ⟨dk_cleanW _ g5, by simp only; omega, by simp only; omega⟩
  · exact ⟨dk_sOld _ (w := (w3.1, 0)) g5, by simp only [List.length_cons, List.length_nil]; omega, by simp only; omega⟩

theorem FnExactMerge_true (x0 : StoreT) (w0 : wfD (.pair (.pair (.int .i64) (.sl false (.int .i64))) (.pair (.sl false (.pair .str (.pair (.int .i64) (.pair (.int .i64) (.pair (.int .i64) (.int .i64)))))) (.pair (.int .i64) (.pair (.int .i64) (.int .i64))))) x0) (x1 : DiskT) (w1 : wfD (.pair (.sl false (.pair .str (.pair .str (.int .i64)))) (.pair (.int .i64) (.pair (.int .i64) .bool))) x1) : laws_FnExactMerge.f x0 x1 = some true :=
  storeLaw_true spec_Merge.f impl_Merge.f x0 w0 x1 w1 fun D => by
    have b2 := D.l2
    have b3 := D.l3
    have b1 := D.l1
    unfold spec_Merge.f impl_Merge.f
    simp only [impl_StoreOk_eq x0 x1 D.hd D.hu (show x0.1.2.length < 1000000000 by omega) (show x0.2.1.length < 1000000000 by omega), spec_StoreOk_eq x0 x1 D.hd D.hu (show x0.1.2.length < 1000000000 by omega) (show x0.2.1.length < 1000000000 by omega), Option.bind_some, spec_l12Copy_eq x0 (show x0.1.2.length < 1000000000 by omega) (show x0.2.1.length < 1000000000 by omega), impl_copyStore_eq x0 (show x0.1.2.length < 1000000000 by omega) (show x0.2.1.length < 1000000000 by omega), spec_l3Copy_eq x1 (show x1.1.length < 1000000000000 by omega), impl_copyDisk_eq x1 (show x1.1.length < 1000000000000 by omega),
      impl_Dump_eq x0 x1 D.hd D.hu (show x0.2.1.length < 1000000000 by omega), spec_Dump_eq x0 x1 D.hd D.hu (show x0.2.1.length < 1000000000 by omega)]
    have hx : RS x0 x1 := rs_of (by omega) (by omega) (by omega)
    have hdl := dumpP_len x0 x1
    generalize dumpP x0 x1 = R at *
    obtain ⟨L, c⟩ := R
    have hdl : L.length ≤ x0.2.1.length := hdl
    cases hk : storeOk x0 x1 with
    | false => exact ⟨x0, x1, 4, rfl, rfl, hx⟩
    | true =>
      obtain ⟨q1, q2, q3, q4, q5⟩ := storeOk_parts hk
      have hd20 : x0.2.1.length ≤ 20 := (dirOk_mem q3).1
      have hlv := (liveOk_iff x0.1).1 q2
      simp only [Bool.not_true, cond_false, show w64 (x0.1.1 + 2) = x0.1.1 + 2 from w64_id (by omega) (by omega)]
      by_cases e1 : x0.1.1 + 2 > 100000
      · simp only [e1, decide_true, cond_true]
        exact ⟨x0, x1, 5, rfl, rfl, hx⟩
      simp only [e1, decide_false, cond_false]
      by_cases e2 : c = 0
      rotate_left
      · have d2 : (c != 0) = true := by simpa using e2
        simp only [d2, cond_true]
        exact ⟨x0, x1, c, rfl, rfl, hx⟩
      subst e2
      simp only [bne_self_eq_false, cond_false, impl_merge_eq x0 x1 L q1 q2 (by omega) q4 (by omega), spec_merge_eq x0 x1 L q1 q2 (by omega) q4 (by omega), Option.bind_some]
      obtain ⟨r1, r2, r3⟩ := mergeP_ok (s := x0) L q1
      have r7 := dl_dk r1
      exact ⟨(mergeP x0 x1 L).1, (mergeP x0 x1 L).2.1, (mergeP x0 x1 L).2.2, rfl, rfl, rs_of (by have := r7.1; omega) (by omega) (by omega)⟩

end Go.Rf.G
