/- Plain laws: what the plain functions answer. -/
import Derived.Test.YtinoogmdhhmakaaGreatDoorLPartedLem2
namespace Go.Rf.G
open Go Go.Rf
set_option linter.unusedVariables false
set_option linter.unusedSimpArgs false
set_option synthInstance.maxSize 4000

theorem spec_merge_eq (s : StoreT) (d : DiskT) (l : List PairT) (h : diskOk d = true) (hv : liveOk s.1 = true) (h2 : s.1.1 + 2 ≤ 100000) (hb : 1 ≤ s.2.2.1 ∧ s.2.2.1 ≤ 1000001) (hl : l.length < 100000) : spec_l14Merge.f s d l = some (mergeP s d l) := by
  obtain ⟨k1, k2, k3, k4⟩ := (liveOk_iff s.1).1 hv
  have hkl := keepsOf_len l (s.2.2.1 - 1)
  have hlv := live_two s.1.1 (by omega) h2
  have hsn := segName_len s.1.1
  have hsn1 := segName_len (s.1.1 + 1)
  have hhn := hintName_len s.1.1
  have g1 := dk_sWM s.1.1 (keepsOf l (s.2.2.1 - 1)) (w := (d, 0)) h
  obtain ⟨dir, ew, edir⟩ := spec_l14Write_eq d s.1.1 l (s.2.2.1 - 1) h (by omega)
  unfold spec_l14Merge.f mergeP
  simp only [show w64 (s.1.1 + 2) = s.1.1 + 2 from w64_id (by omega) (by omega), show w64 (s.1.1 + 1) = s.1.1 + 1 from w64_id (by omega) (by omega), show w64 (s.2.2.1 - 1) = s.2.2.1 - 1 from w64_id (by omega) (by omega), ew, Option.bind_some, told_ne]
  generalize sWM s.1.1 (keepsOf l (s.2.2.1 - 1)) (d, 0) = w0 at *
  obtain ⟨x0, c0⟩ := w0
  have g1 : diskOk x0 = true := g1
  by_cases c1 : c0 = 0
  rotate_left
  · have d1 : (c0 != 0) = true := by simpa using c1
    have c2 : told c0 ≠ 0 := fun e => c1 ((told_zero c0).1 e)
    have e1 : sHint s.1.1 (x0, c0) = (x0, c0) := by unfold sHint; rw [if_pos c1]
    rw [sNew_ne c1, e1]
    simp only [d1, cond_true, c1, if_false, spec_l14Fail_eq _ x0 s.1.1 (told c0) g1 (by omega) c2, Option.bind_some]
    rw [if_pos (show (toldW (x0, c0)).2 ≠ 0 from c2)]; rfl
  subst c1
  have edir := edir rfl
  subst edir
  have g2 := dk_sNew (w := (x0, 0)) g1 (segName (s.1.1 + 1))
  simp only [bne_self_eq_false, cond_false, spec_SegName_eq, spec_Fresh_eq x0 (segName (s.1.1 + 1)) g1 (by omega), Option.bind_some]
  generalize sNew (segName (s.1.1 + 1)) (x0, 0) = w1 at *
  obtain ⟨x1, c1⟩ := w1
  have g2 : diskOk x1 = true := g2
  by_cases c2 : c1 = 0
  rotate_left
  · have d1 : (c1 != 0) = true := by simpa using c2
    have c3 : told c1 ≠ 0 := fun e => c2 ((told_zero c1).1 e)
    have e1 : sHint s.1.1 (x1, c1) = (x1, c1) := by unfold sHint; rw [if_pos c2]
    rw [e1]
    simp only [d1, cond_true, c2, if_false, spec_l11Code_eq, spec_l14Fail_eq _ x1 s.1.1 (told c1) g2 (by omega) c3, Option.bind_some]
    rw [if_pos (show (toldW (x1, c1)).2 ≠ 0 from c3)]; rfl
  subst c2
  obtain ⟨t1, t2⟩ := hint_txt s.1.1 (d := x1) g2
  have hsl := showHint_len (hintOf s.1.1 (fileText x1 (segName s.1.1)).1).1
  have hd : dlim x1 := dl_lim (dl_dk g2) (by omega)
  have g3 := dk_hintStep s.1.1 g2
  have n2 := hintStep_ne2 s.1.1 x1
  have e1 : sHint s.1.1 (x1, 0) = hintStep s.1.1 x1 := by unfold sHint; rw [if_neg (by simp)]
  rw [e1]
  simp only [bne_self_eq_false, cond_false, spec_FileText_eq x1 (segName s.1.1) hd, Option.bind_some, spec_HintOf_eq s.1.1 (fileText x1 (segName s.1.1)).1 (by omega), spec_HintName_eq, spec_ShowHint_eq (hintOf s.1.1 (fileText x1 (segName s.1.1)).1).1 (by omega), spec_l11File_eq x1 (hintName s.1.1) _ (dl_dk g2) (show 100001 + 1 + (hintName s.1.1).length + (showHint (hintOf s.1.1 (fileText x1 (segName s.1.1)).1).1).length ≤ 1000000000 by omega)]
  have hf := dk_sFile (w := (x1, 0)) g2 (hintName s.1.1) (showHint (hintOf s.1.1 (fileText x1 (segName s.1.1)).1).1)
  have eh : hintStep s.1.1 x1 = if (sFile (hintName s.1.1) (showHint (hintOf s.1.1 (fileText x1 (segName s.1.1)).1).1) (x1, 0)).2 = 2 then dGone (hintName s.1.1) (sFile (hintName s.1.1) (showHint (hintOf s.1.1 (fileText x1 (segName s.1.1)).1).1) (x1, 0)).1 else sFile (hintName s.1.1) (showHint (hintOf s.1.1 (fileText x1 (segName s.1.1)).1).1) (x1, 0) := rfl
  generalize sFile (hintName s.1.1) (showHint (hintOf s.1.1 (fileText x1 (segName s.1.1)).1).1) (x1, 0) = f at *
  obtain ⟨xf, cf⟩ := f
  have hf : diskOk xf = true := hf
  have e4 : (bif cf == 2 then (spec_l14Drop.f xf [hintName s.1.1]).bind fun (t15_0, t15_1) => some ((((s.1.1 + 2, s.1.2), s.2) : StoreT), (((0, []), [], 0, 0, 0) : StoreT), (([], 0, 0, false) : DiskT), s.1.1, t15_0, entsG s.1.1 0 (keepsOf l (s.2.2.1 - 1)), t15_1) else some (((s.1.1 + 2, s.1.2), s.2), ((0, []), [], 0, 0, 0), ([], 0, 0, false), s.1.1, xf, entsG s.1.1 0 (keepsOf l (s.2.2.1 - 1)), cf)) =
      some (((s.1.1 + 2, s.1.2), s.2), ((0, []), [], 0, 0, 0), ([], 0, 0, false), s.1.1, (hintStep s.1.1 x1).1, entsG s.1.1 0 (keepsOf l (s.2.2.1 - 1)), (hintStep s.1.1 x1).2) := by
    rw [eh]
    by_cases c5 : cf = 2
    · subst c5
      rw [spec_l14Drop_eq xf [hintName s.1.1] hf (by simp)]
      simp only [beq_self_eq_true, cond_true, Option.bind_some, if_true]
      rw [show sDrop [hintName s.1.1] (xf, 0) = dGone (hintName s.1.1) xf by show sstep (dGone (hintName s.1.1)) (xf, 0) = _; rw [sstep_z]]
    · have d5 : (cf == 2) = false := by simpa using c5
      simp only [d5, cond_false, c5, if_false]
  rw [e4, Option.bind_some]
  clear e4 eh
  generalize hintStep s.1.1 x1 = w2 at *
  obtain ⟨x2, c2⟩ := w2
  have g3 : diskOk x2 = true := g3
  have n2 : c2 ≠ 2 := n2
  by_cases c5 : c2 = 0
  rotate_left
  · have d1 : (c2 != 0) = true := by simpa using c5
    have c6 : told c2 ≠ 0 := fun e => c5 ((told_zero c2).1 e)
    have c7 : ¬ told c2 = 2 := fun e => n2 ((told_two c2).1 e)
    simp only [d1, cond_true, c5, if_false, spec_l11Code_eq, Option.bind_some]
    rw [if_pos (show (toldW (x2, c2)).2 ≠ 0 from c6)]
    unfold cleanW
    rw [if_neg (show ¬ (toldW (x2, c2)).2 = 2 from c7)]; rfl
  subst c5
  have hb0 : (([] : List Int).length + s.1.2.length) * 8 ≤ 140737488355328 := lim8' (by omega)
  have g4 := dk_sPut (w := (x2, 0)) g3 (s.1.1 + 2, [s.1.1, s.1.1 + 1])
  have ep : spec_PutLive.f x2 (s.1.1 + 2, [s.1.1, s.1.1 + 1]) = some (toldW (sPut (s.1.1 + 2, [s.1.1, s.1.1 + 1]) (x2, 0))) := by
    rw [spec_PutLive_eq _ _ (dl_dk g3) (by omega) (by simp)]
    unfold putLive
    rw [if_neg (by rw [hlv, g3]; simp)]
  simp only [bne_self_eq_false, cond_false, if_true, hb0, decide_true, cond_true, List.nil_append, show w64 (s.1.1 + 2) = s.1.1 + 2 from w64_id (by omega) (by omega), show w64 (s.1.1 + 1) = s.1.1 + 1 from w64_id (by omega) (by omega), ep, Option.bind_some]
  have g5 : diskOk (toldW (sPut (s.1.1 + 2, [s.1.1, s.1.1 + 1]) (x2, 0))).1 = true := g4
  generalize toldW (sPut (s.1.1 + 2, [s.1.1, s.1.1 + 1]) (x2, 0)) = w3 at *
  obtain ⟨x3, c3⟩ := w3
  have g5 : diskOk x3 = true := g5
  by_cases c6 : c3 = 0
  rotate_left
  · have d6 : (c3 != 0) = true := by simpa using c6
    simp only [d6, cond_true, c6, ne_eq, not_false_eq_true, if_true, spec_l14Fail_eq _ x3 s.1.1 c3 g5 (by omega) c6, Option.bind_some]
  subst c6
  simp only [bne_self_eq_false, cond_false, ne_eq, not_true_eq_false, if_false, spec_merge_l0 _ s.1.2 x3 g5 (by omega), Option.bind_some]
  generalize sOld s.1.2 (x3, 0) = w4
  obtain ⟨x4, c4⟩ := w4
  by_cases c7 : c4 = 0
  · subst c7; rfl
  · simp only [c7, if_false, caseS_r]; rfl

theorem mergeP_ok {s : StoreT} {d : DiskT} (l : List PairT) (h : diskOk d = true) : diskOk (mergeP s d l).2.1 = true ∧ (mergeP s d l).1.1.2.length ≤ s.1.2.length + 2 ∧ (mergeP s d l).1.2.1.length ≤ s.2.1.length + l.length + 1 := by
  have g1 := dk_sWM s.1.1 (keepsOf l (s.2.2.1 - 1)) (w := (d, 0)) h
  have g2 := dk_sNew g1 (segName (s.1.1 + 1))
  have hkl := keepsOf_len l (s.2.2.1 - 1)
  have hel := entsG_len s.1.1 (keepsOf l (s.2.2.1 - 1)) 0
  unfold mergeP
  simp only
  generalize sNew (segName (s.1.1 + 1)) (sWM s.1.1 (keepsOf l (s.2.2.1 - 1)) (d, 0)) = w1 at *
  have g3 : diskOk (sHint s.1.1 w1).1 = true := by
    unfold sHint; split
    · exact g2
    · exact dk_hintStep _ g2
  generalize sHint s.1.1 w1 = w2 at *
  have g5 : diskOk (if w2.2 = 0 then toldW (sPut (s.1.1 + 2, [s.1.1, s.1.1 + 1]) w2) else toldW w2).1 = true := by
    split
    · exact dk_sPut g3 _
    · exact g3
  generalize (if w2.2 = 0 then toldW (sPut (s.1.1 + 2, [s.1.1, s.1.1 + 1]) w2) else toldW w2) = w3 at *
  split
  · exact ⟨dk_cleanW _ g5, by simp only; omega, by simp only; omega⟩
  · exact ⟨dk_sOld _ (w := (w3.1, 0)) g5, by simp only [List.length_cons, List.length_nil]; omega, by simp only; omega⟩

theorem l1PickInt_ok {c : CurT} (h : Cur c) (l : List Int) (hl : 0 < l.length) : ∃ x c', spec_l1PickInt.f c l = some (x, c') ∧ x ∈ l ∧ Cur c' := by
  obtain ⟨x, c', e, h1, h2, _, h'⟩ := l1Below_ok h (l.length : Int)
  have h2 := h2 (by omega)
  unfold spec_l1PickInt.f
  obtain ⟨n, rfl⟩ : ∃ n : Nat, x = (n : Int) := ⟨x.toNat, by omega⟩
  have hn : n < l.length := by omega
  simp only [e, Option.bind_some, inB_nat, hn, decide_true, cond_true, rdA_nat, getD_lt hn]
  exact ⟨_, _, rfl, List.getElem_mem hn, h'⟩

theorem l3Name_ok {c : CurT} (h : Cur c) : ∃ x c', spec_l3Name.f c = some (x, c') ∧ x.length ≤ 5 ∧ Cur c' := by
  obtain ⟨x, c', e, hx, h'⟩ := l1Pick_ok h ([[108, 105, 118, 101], [115, 101, 103, 49], [115, 101, 103, 50], [115, 101, 103, 51], [116, 101, 109, 112], [104, 105, 110, 116, 49], [120], [97, 57]] : List (List UInt8)) (by decide)
  unfold spec_l3Name.f
  rw [e]
  refine ⟨x, c', rfl, ?_, h'⟩
  simp only [List.mem_cons, List.not_mem_nil, or_false] at hx
  rcases hx with rfl | rfl | rfl | rfl | rfl | rfl | rfl | rfl <;> decide

theorem l3Disk_ok {c : CurT} (h : Cur c) : ∃ d c', spec_l3Disk.f c = some (d, c') ∧ diskOk d = true ∧ Cur c' := by
  obtain ⟨n, c1, e1, a1, b1, _, h1⟩ := l1Below_ok h 12
  have b1 := b1 (by omega)
  obtain ⟨m, rfl⟩ : ∃ m : Nat, n = (m : Int) := ⟨n.toNat, by omega⟩
  have e0 : spec_DiskNew.f 200 = some (([], 200, -1, false) : DiskT) := by
    unfold spec_DiskNew.f
    rw [spec_l1In_eq]; rfl
  have hd0 : diskOk (([], 200, -1, false) : DiskT) = true := by rw [diskOk_iff]; exact ⟨by decide, by decide, by decide, by decide, by simp, List.Pairwise.nil⟩
  have key := down_ok (step := spec_l3Disk.l0) (fun k (s : CurT × DiskT) => (s.1, ([], 0, 0, false), s.2, (k : Int))) (fun k s => Cur s.1 ∧ diskOk s.2 = true ∧ k ≤ m) (fun b => Cur b.1 ∧ diskOk b.2.2 = true)
    (fun rec s hi => ⟨(s.1, ([], 0, 0, false), s.2), by simp [spec_l3Disk.l0], hi.1, hi.2.1⟩)
    (fun rec k s hi => by
      obtain ⟨s, d⟩ := s
      obtain ⟨hi1, hi2, hi3⟩ := hi
      simp only at hi1 hi2 hi3
      obtain ⟨nm, c2, f1, g1, h2⟩ := l3Name_ok hi1
      obtain ⟨v, c3, f2, _, _, _, h3⟩ := l1Below_ok h2 6
      have e0 : ((k + 1 : Nat) : Int) > 0 := by omega
      have hw := down1 (show k < 2 ^ 60 by omega)
      have hd : dlim d := dl_lim (dl_dk hi2) (by omega)
      have ec : spec_Create.f d nm = some (dCreate nm d) := spec_Create_eq d nm hd (by omega)
      have ey : spec_Sync.f d nm = some (dSync nm d) := spec_Sync_eq d nm hd
      simp only [spec_l3Disk.l0, e0, decide_true, cond_true, f1, f2, Option.bind_some]
      cases d0 : (v == 0)
      rotate_left
      · simp only [cond_true, Option.bind_some, ec, hw]
        exact ⟨(c3, (dCreate nm d).1), ⟨h3, dk_Create hi2 nm, by omega⟩, rfl⟩
      cases d1 : (v == 1)
      rotate_left
      · simp only [cond_true, cond_false, Option.bind_some, ec, hw]
        exact ⟨(c3, (dCreate nm d).1), ⟨h3, dk_Create hi2 nm, by omega⟩, rfl⟩
      have ap : ∃ t c4, spec_l1Text.f c3 9 = some (t, c4) ∧ Cur c4 ∧ spec_Append.f d nm t = some (dAppend nm t d) := by
        obtain ⟨t, c4, f3, g3, h4⟩ := l1Text_ok h3 9 (by omega) (by omega)
        exact ⟨t, c4, f3, h4, spec_Append_eq d nm t hd (by omega)⟩
      obtain ⟨t, c4, f3, h4, ea⟩ := ap
      simp only [cond_false, Option.bind_some]
      cases d2 : (v == 2)
      rotate_left
      · simp only [cond_true, cond_false, Option.bind_some, f3, ea, hw]
        exact ⟨(c4, (dAppend nm t d).1), ⟨h4, dk_Append hi2 nm t, by omega⟩, rfl⟩
      simp only [cond_false]
      cases d3 : (v == 3)
      rotate_left
      · simp only [cond_true, cond_false, Option.bind_some, f3, ea, hw]
        exact ⟨(c4, (dAppend nm t d).1), ⟨h4, dk_Append hi2 nm t, by omega⟩, rfl⟩
      simp only [cond_false, Option.bind_some]
      cases d4 : (v == 4)
      rotate_left
      · simp only [cond_true, cond_false, Option.bind_some, ey, hw]
        exact ⟨(c3, (dSync nm d).1), ⟨h3, dk_Sync hi2 nm, by omega⟩, rfl⟩
      · obtain ⟨n2, c5, f5, g5, h5⟩ := l3Name_ok h3
        have er : spec_Rename.f d nm n2 = some (dRename nm n2 d) := spec_Rename_eq d nm n2 hd (by omega)
        simp only [cond_false, Option.bind_some, f5, er, hw]
        exact ⟨(c5, (dRename nm n2 d).1), ⟨h5, dk_Rename hi2 nm n2, by omega⟩, rfl⟩)
    m (c1, ([], 200, -1, false)) ⟨h1, hd0, Nat.le_refl _⟩ (by omega)
  obtain ⟨⟨c5, z, d⟩, e5, h5, hd⟩ := key
  have e5 : lp spec_l3Disk.l0 (c1, ([], 0, 0, false), ([], 200, -1, false), (m : Int)) = some (c5, z, d) := e5
  unfold spec_l3Disk.f
  simp only [e0, e1, Option.bind_some, e5]
  exact ⟨d, c5, rfl, hd, h5⟩

/-- Drawn disks are small. -/
def dSmall (d : DiskT) : Prop := dl 200000 d

theorem l3Any_ok {c : CurT} (h : Cur c) : ∃ d c', spec_l3Any.f c = some (d, c') ∧ dSmall d ∧ Cur c' := by
  obtain ⟨d, c1, e1, hd, h1⟩ := l3Disk_ok h
  obtain ⟨x, c2, e2, _, _, _, h2⟩ := l1Below_ok h1 14
  have hdl := dl_dk hd
  have hsm : ∀ y : Int × Int × Bool, dSmall (d.1, y) := fun y => ⟨by have := hdl.1; show d.1.length < _; omega, by have := hdl.2.1; show usedN d.1 < _; omega, fun f hf => by have := hdl.2.2 f hf; omega⟩
  have hl := dl_lim hdl (by omega)
  unfold spec_l3Any.f
  simp only [e1, e2, Option.bind_some]
  cases d0 : (x == 0)
  rotate_left
  · obtain ⟨v, c3, f3, _, h3⟩ := l1PickInt_ok h2 [0, 1, (-2), (-1)] (by decide)
    simp only [cond_true, f3, Option.bind_some]
    exact ⟨_, _, rfl, hsm _, h3⟩
  cases d1 : (x == 1)
  rotate_left
  · simp only [cond_true, cond_false]
    exact ⟨_, _, rfl, hsm _, h2⟩
  cases d2 : (x == 2)
  rotate_left
  · have hu := spec_l3Used_eq d (by have := hl.1; omega) (by have := hl.2.1; omega)
    obtain ⟨v, c3, f3, _, h3⟩ := l1PickInt_ok h2 [(-1), 5, (usedN d.1 : Int), w64 ((usedN d.1 : Int) + 3), 100000, 100001] (by simp)
    simp only [cond_true, cond_false, hu, f3, Option.bind_some]
    exact ⟨_, _, rfl, hsm _, h3⟩
  have hset : ∀ (f : FileT), 0 < d.1.length → f.1.length ≤ 20 → f.2.1 = (d.1.getD 0 ([], [], 0)).2.1 → dSmall (d.1.set 0 f, d.2) := by
    intro f h0 hf1 hf2
    have hu := usedN_set2 d.1 0 f h0
    rw [getD_lt h0] at hf2
    refine ⟨by show (d.1.set 0 f).length < _; rw [List.length_set]; have := hdl.1; omega, by show usedN (d.1.set 0 f) < _; rw [hf2] at hu; have := hdl.2.1; omega, fun g hg => ?_⟩
    rcases List.mem_or_eq_of_mem_set hg with hg | e
    · have := hdl.2.2 g hg; omega
    · rw [e]; omega
  have hb0 : 0 < d.1.length → inB 0 d.1.length = true ∧ rdA ([], [], 0) d.1 0 = d.1.getD 0 ([], [], 0) := fun h0 => by
    rw [show (0 : Int) = ((0 : Nat) : Int) from rfl]
    exact ⟨by rw [inB_nat]; simpa using h0, rdA_nat ..⟩
  have hn : ∀ y ∈ d.1, y.1.length ≤ 12 := fun y hy => by
    have := ((diskOk_iff d).1 hd).2.2.2.2.1 y hy
    unfold fileOk at this
    simp only [Bool.and_eq_true] at this
    exact nameOk_len this.1
  cases d3 : (x == 3)
  rotate_left
  · rcases Nat.eq_zero_or_pos d.1.length with h0 | h0
    · have : decide ((d.1.length : Int) > 0) = false := by rw [h0]; rfl
      simp only [cond_true, cond_false, this]
      exact ⟨_, _, rfl, hsm _, h2⟩
    · have : decide ((d.1.length : Int) > 0) = true := by simp; omega
      obtain ⟨v, c3, f3, _, _, _, h3⟩ := l1Below_ok h2 9
      obtain ⟨b1, b2⟩ := hb0 h0
      simp only [cond_true, cond_false, this, f3, Option.bind_some, b1, b2, Int.toNat_zero]
      refine ⟨_, _, rfl, hset _ h0 ?_ rfl, h3⟩
      rw [getD_lt h0]; have := hn _ (List.getElem_mem h0); simp only; omega
  cases d4 : (x == 4)
  rotate_left
  · rcases Nat.eq_zero_or_pos d.1.length with h0 | h0
    · have : decide ((d.1.length : Int) > 0) = false := by rw [h0]; rfl
      simp only [cond_true, cond_false, this]
      exact ⟨_, _, rfl, hsm _, h2⟩
    · have : decide ((d.1.length : Int) > 0) = true := by simp; omega
      obtain ⟨v, c3, f3, hv, h3⟩ := l1Pick_ok h2 ([[], [65], [122, 122], [116, 111, 111, 108, 111, 110, 103, 97, 110, 97, 109, 101, 49]] : List (List UInt8)) (by decide)
      obtain ⟨b1, b2⟩ := hb0 h0
      simp only [cond_true, cond_false, this, f3, Option.bind_some, b1, b2, Int.toNat_zero]
      refine ⟨_, _, rfl, hset _ h0 ?_ rfl, h3⟩
      simp only [List.mem_cons, List.not_mem_nil, or_false] at hv
      show v.length ≤ 20
      rcases hv with rfl | rfl | rfl | rfl <;> decide
  cases d5 : (x == 5)
  · simp only [cond_false]
    exact ⟨_, _, rfl, hsm _, h2⟩
  simp only [cond_true, cond_false]
  have hlen : d.1.length ≤ 130 := ((diskOk_iff d).1 hd).2.2.1
  have key := lp_ok (step := spec_l3Any.l1) (a := (c2, ([], 0, 0, false), d, ((0 : Nat) : Int))) (fun a => Cur a.1 ∧ a.2.1 = ([], 0, 0, false) ∧ usedN a.2.2.1.1 < 200000 ∧ (∀ f ∈ a.2.2.1.1, f.1.length < 200000) ∧ a.2.2.1.1.length ≤ 131 ∧ ∃ i : Nat, a.2.2.2 = (i : Int) ∧ i ≤ 131) (fun a => 200 - a.2.2.1.1.length) (fun b => Cur b.1 ∧ dSmall b.2.2)
    (fun rec a ha => by
      obtain ⟨c3, z, D, i⟩ := a
      obtain ⟨h3, hz, hu, hf, hl3, j, hj, hj2⟩ := ha
      simp only at h3 hz hu hf hl3 hj
      subst hz; subst hj
      obtain ⟨y, c4, e4, a4, b4, _, h4⟩ := l1Below_ok h3 3
      have b4 := b4 (by omega)
      have hw : w64 (129 + y) = 129 + y := w64_id (by omega) (by omega)
      by_cases q1 : (j : Int) < 129 + y
      rotate_left
      · left
        exact ⟨(c4, ([], 0, 0, false), D), by simp only [spec_l3Any.l1, e4, Option.bind_some, hw, q1, decide_false, cond_false], h4, by show D.1.length < _; omega, hu, hf⟩
      by_cases q2 : (D.1.length : Int) < 131
      rotate_left
      · left
        exact ⟨(c4, ([], 0, 0, false), D), by simp only [spec_l3Any.l1, e4, Option.bind_some, hw, q1, q2, decide_false, decide_true, cond_true, cond_false], h4, by show D.1.length < _; omega, hu, hf⟩
      right
      have e5 : w64 (100 + (j : Int)) = ((100 + j : Nat) : Int) := by rw [w64_id (by omega) (by omega)]; omega
      have e6 := spec_Dec_eq (100 + j) (by omega)
      have hdl2 := digits_len 3 (100 + j) (by show _ < 10000; omega)
      have hb1 : ([121] : List UInt8).length + (Lib.decDigits (100 + j)).length ≤ 9223372036854775807 := by show 1 + _ ≤ _; omega
      have hb2 : ∀ {α : Type} (x : α), decide ((D.1.length + [x].length) * 40 ≤ 140737488355328) = true := fun x => decide_eq_true (lim40 (by omega))
      have hw3 := w64_succ (show j + 1 < 9223372036854775808 by omega)
      refine ⟨(c4, ([], 0, 0, false), (D.1 ++ [([121] ++ Lib.decDigits (100 + j), [], 0)], D.2), ((j + 1 : Nat) : Int)), ⟨h4, rfl, ?_, ?_, ?_, j + 1, rfl, by omega⟩, ?_, ?_⟩
      · show usedN (D.1 ++ [_]) < _
        unfold usedN
        rw [sumN_snoc]
        exact hu
      · intro f hf2
        rcases List.mem_append.1 hf2 with hf2 | hf2
        · exact hf f hf2
        · rw [List.mem_singleton.1 hf2]; show (121 :: Lib.decDigits (100 + j)).length < _; simp only [List.length_cons]; omega
      · simp only [List.length_append, List.length_singleton]; omega
      · simp only [List.length_append, List.length_singleton]; omega
      · simp only [spec_l3Any.l1, e4, Option.bind_some, hw, q1, q2, decide_true, cond_true, e5, e6, hb1, hb2, hw3])
    ⟨h2, rfl, by have := hdl.2.1; simp only; omega, fun f hf => by have := hdl.2.2 f hf; omega, by simp only; omega, 0, rfl, by omega⟩ (by simp only; omega)
  obtain ⟨⟨c3, z, D⟩, e3, h3, hD⟩ := key
  have e3 : lp spec_l3Any.l1 (c2, ([], 0, 0, false), d, 0) = some (c3, z, D) := e3
  simp only [e3, Option.bind_some]
  exact ⟨_, _, rfl, hD, h3⟩

theorem srt_inj {α : Type} {l : List (List UInt8 × α)} (h : srt l) {i j : Nat} (hi : i < l.length) (hj : j < l.length) (e : l[i].1 = l[j].1) : i = j := by
  unfold srt at h
  rw [List.pairwise_iff_getElem] at h
  rcases Nat.lt_trichotomy i j with c | c | c
  · have := h i j hi hj c; rw [e, less_irrefl] at this; simp at this
  · exact c
  · have := h j i hj hi c; rw [e, less_irrefl] at this; simp at this

theorem fileText_mem {d : DiskT} (h : diskOk d = true) {f : FileT} (hf : f ∈ d.1) : fileText d f.1 = (f.2.1, true) := by
  have hs := ((diskOk_iff d).1 h).2.2.2.2.2
  unfold fileText
  rw [if_neg (by rw [h]; simp)]
  rcases fileIx_cases d.1 f.1 with ⟨e, hno⟩ | ⟨i, hi, e, hn⟩
  · exact absurd rfl (hno f hf)
  · rw [ix_some e]
    obtain ⟨j, hj, ej⟩ := List.getElem_of_mem hf
    have : i = j := srt_inj hs hi hj (by rw [hn, ej])
    subst this
    simp only
    rw [getD_lt hi, ej]

/-- When a step is done. -/
theorem dstep_zero {d : DiskT} {act : List FileT → Int × List FileT} (h : (dstep d act).2 = 0) : diskOk d = true ∧ (act d.1).1 = 0 ∧ (dstep d act).1 = ((act d.1).2, (tick d).2) := by
  unfold dstep at h ⊢
  split at h
  · simp at h
  rename_i c
  split at h
  · simp at h
  rename_i c2
  rw [if_neg c, if_neg c2]
  exact ⟨by simpa using c, h, rfl⟩

theorem appendTxt {d : DiskT} {n t : List UInt8} (h : (dAppend n t d).2 = 0) : (fileText d n).2 = true ∧ fileText (dAppend n t d).1 n = ((fileText d n).1 ++ t, true) := by
  obtain ⟨k, ha, hx⟩ := dstep_zero h
  have hk : diskOk (dAppend n t d).1 = true := dk_Append k n t
  have hx : (dAppend n t d).1 = _ := hx
  unfold actAppend at ha hx
  rcases fileIx_cases d.1 n with ⟨e, _⟩ | ⟨i, hi, e, hn⟩
  · rw [ix_none e] at ha; simp at ha
  rw [ix_some e] at ha hx
  simp only at ha hx
  split at ha
  · simp at ha
  rename_i c
  rw [if_neg c, getD_lt hi] at hx
  have e1 := fileText_mem k (List.getElem_mem hi)
  rw [hn] at e1
  have hm : ((n, d.1[i].2.1 ++ t, d.1[i].2.2) : FileT) ∈ (dAppend n t d).1.1 := by
    rw [hx, ← hn]
    exact List.mem_iff_getElem.2 ⟨i, by simpa using hi, by simp⟩
  have e2 := fileText_mem hk hm
  rw [e1]
  exact ⟨rfl, e2⟩

theorem riseE_pw : ∀ (l : List EntryT) (p : Option (List UInt8)), riseE p l = true → (∀ q, p = some q → ∀ x ∈ l, Op.bytesLess q x.1 = true) ∧ srt l
  | [], p, _ => ⟨fun _ _ x hx => by simp at hx, List.Pairwise.nil⟩
  | e :: l, p, h => by
    simp only [riseE, Bool.and_eq_true] at h
    obtain ⟨h1, h2⟩ := riseE_pw l (some e.1) h.2.2
    refine ⟨fun q hq x hx => ?_, List.Pairwise.cons (h1 e.1 rfl) h2⟩
    subst hq
    have hqe : Op.bytesLess q e.1 = true := h.2.1
    rcases List.mem_cons.1 hx with c | hx
    · rw [c]; exact hqe
    · exact less_trans _ _ _ hqe (h1 e.1 rfl x hx)

theorem dirOk_srt {l : List EntryT} (h : dirOk l = true) : srt l := by
  unfold dirOk at h
  simp only [Bool.and_eq_true] at h
  exact (riseE_pw l none h.1).2

theorem dirGet_mem {l : List EntryT} (h : srt l) {e : EntryT} (he : e ∈ l) : dirGet l e.1 = (e, true) := by
  unfold dirGet
  have hf : (l.find? fun x => x.1 == e.1) = some e := by
    induction l with
    | nil => simp at he
    | cons x l ih =>
      have h2 := List.pairwise_cons.1 h
      rw [List.find?_cons]
      rcases List.mem_cons.1 he with c | he
      · subst c; simp
      · have : (x.1 == e.1) = false := by simpa using less_ne (h2.1 e he)
        rw [this]
        exact ih h2.2 he
  rw [hf]

theorem storeOk_ent {s : StoreT} {d : DiskT} (h : storeOk s d = true) : ∀ e ∈ s.2.1, entOk d s.2.2.1 e = true := by
  unfold storeOk at h
  simp only [Bool.and_eq_true, List.all_eq_true] at h
  exact h.2.2.2.2.2

theorem getP_mem {s : StoreT} {d : DiskT} (h : storeOk s d = true) {e : EntryT} (he : e ∈ s.2.1) : (getP s d e.1).2 = 0 ∧ (getP s d e.1).1.1 = e.1 := by
  obtain ⟨q1, q2, q3, q4, q5⟩ := storeOk_parts h
  have hs := dirOk_srt q3
  have k := storeOk_ent h e he
  unfold entOk at k
  simp only [Bool.and_eq_true, Bool.or_eq_true, beq_iff_eq] at k
  unfold getP
  rw [dirGet_mem hs he]
  simp only [Bool.true_eq_false, if_false]
  rw [if_pos ⟨k.1, k.2.1, k.2.2.1⟩]
  exact ⟨rfl, rfl⟩

theorem dumpL_ok {s : StoreT} {d : DiskT} : ∀ (l : List EntryT) (acc : List PairT), (∀ e ∈ l, (getP s d e.1).2 = 0) → dumpL s d l acc = (acc ++ l.map fun e => (getP s d e.1).1, 0)
  | [], acc, _ => by simp [dumpL]
  | e :: r, acc, h => by
    unfold dumpL
    rw [if_neg (by rw [h e List.mem_cons_self]; simp), dumpL_ok r _ fun x hx => h x (List.mem_cons_of_mem _ hx)]
    simp

theorem dumpP_ok {s : StoreT} {d : DiskT} (h : storeOk s d = true) : dumpP s d = (s.2.1.map fun e => (getP s d e.1).1, 0) := by
  unfold dumpP
  rw [dumpL_ok s.2.1 [] fun e he => (getP_mem h he).1]
  simp

/-- What holds of drawn stores while they are worked with. -/
structure StoreI (s : StoreT) (d : DiskT) : Prop where
  dk : diskOk d = true
  ids : s.1.2.length ≤ 62
  dir : s.2.1.length ≤ 41

theorem dk_new (n : Int) (h : 0 ≤ n ∧ n ≤ 100000) : diskOk (([], n, -1, false) : DiskT) = true := by
  rw [diskOk_iff]; exact ⟨h, (show (-1 : Int) ≤ -1 ∧ (-1 : Int) ≤ 100000 by decide), (show 0 ≤ 130 by decide), h.1, by simp, List.Pairwise.nil⟩

theorem spec_Sweep_new (n : Int) (h : 0 ≤ n ∧ n ≤ 100000) : spec_l11Sweep.f (([], n, -1, false) : DiskT) (0, []) = some (([], n, -1, false), 0) := by
  have hk := dk_new n h
  have hd := dl_lim (dl_dk hk) (by omega)
  have e1 := lp_up (step := spec_Orphans.l0) (fun k (_ : Unit) => ((([], n, -1, false) : DiskT), ((0, []) : LiveT), ([] : List (List UInt8)), (k : Int))) 0 (fun _ _ => ([] : List (List UInt8))) (fun _ _ => True)
    (fun rec k s hk _ ih => by
      have : k = 0 := by omega
      subst this
      simp [spec_Orphans.l0])
    (by decide) 0 () (Nat.le_refl _) trivial
  have e1 : lp spec_Orphans.l0 (([], n, -1, false), (0, []), [], 0) = some [] := e1
  have e2 := lp_up (step := spec_l11Sweep.l0) (fun k (_ : Unit) => ((([], n, -1, false) : DiskT), (([], 0, 0, false) : DiskT), ([] : List (List UInt8)), (k : Int))) 0 (fun _ _ => .inl ((([], n, -1, false) : DiskT), (([], 0, 0, false) : DiskT))) (fun _ _ => True)
    (fun rec k s hk _ ih => by
      have : k = 0 := by omega
      subst this
      simp [spec_l11Sweep.l0])
    (by decide) 0 () (Nat.le_refl _) trivial
  have e2 : lp spec_l11Sweep.l0 (([], n, -1, false), ([], 0, 0, false), [], 0) = some (.inl (([], n, -1, false), ([], 0, 0, false))) := e2
  unfold spec_l11Sweep.f spec_Orphans.f
  simp only [spec_DiskOk_eq _ hd, hk, Option.bind_some, Bool.not_true, cond_false, e1, e2, caseS_l]

theorem l8Entry_ok {c : CurT} (h : Cur c) : ∃ e c', spec_l8Entry.f c = some (e, c') ∧ Cur c' := by
  obtain ⟨k, c1, e1, _, h1⟩ := l5Key_ok h
  obtain ⟨x2, c2, e2, _, _, _, h2⟩ := l1Below_ok h1 4
  obtain ⟨x3, c3, e3, _, _, _, h3⟩ := l1Below_ok h2 90
  obtain ⟨x4, c4, e4, _, _, _, h4⟩ := l1Below_ok h3 30
  obtain ⟨x5, c5, e5, _, _, _, h5⟩ := l1Below_ok h4 9
  unfold spec_l8Entry.f
  simp only [e1, e2, e3, e4, e5, Option.bind_some]
  exact ⟨_, _, rfl, h5⟩

theorem l8Dir_ok {c : CurT} (h : Cur c) : ∃ l c', spec_l8Dir.f c = some (l, c') ∧ l.length ≤ 41 ∧ Cur c' := by
  obtain ⟨n, c1, e1, a1, b1, _, h1⟩ := l1Below_ok h 7
  have b1 := b1 (by omega)
  obtain ⟨m, rfl⟩ : ∃ m : Nat, n = (m : Int) := ⟨n.toNat, by omega⟩
  have key := down_ok (step := spec_l8Dir.l0) (fun k (s : CurT × List EntryT) => (s.1, s.2, (k : Int))) (fun k s => Cur s.1 ∧ s.2.length + k ≤ 7) (fun b => Cur b.1 ∧ b.2.length ≤ 7)
    (fun rec s hi => ⟨(s.1, s.2), by simp [spec_l8Dir.l0], hi.1, by simpa using hi.2⟩)
    (fun rec k s hi => by
      obtain ⟨hi1, hi2⟩ := hi
      obtain ⟨e, c2, f1, h2⟩ := l8Entry_ok hi1
      have e0 : ((k + 1 : Nat) : Int) > 0 := by omega
      have hw := down1 (show k < 2 ^ 60 by omega)
      have hdk := dropK_len s.2 e.1
      refine ⟨(c2, insB (dropK s.2 e.1) e), ⟨h2, ?_⟩, ?_⟩
      · simp only; rw [insB_len]; omega
      · simp only [spec_l8Dir.l0, e0, decide_true, cond_true, f1, Option.bind_some, spec_DirPut_eq s.2 e (by omega), hw])
    m (c1, []) ⟨h1, by simp; omega⟩ (by omega)
  obtain ⟨⟨c2, l⟩, e2, h2, hl⟩ := key
  have e2 : lp spec_l8Dir.l0 (c1, [], (m : Int)) = some (c2, l) := e2
  unfold spec_l8Dir.f
  simp only [e1, e2, Option.bind_some]
  rcases Nat.eq_zero_or_pos l.length with h0 | h0
  · have : decide ((l.length : Int) > 0) = false := by rw [h0]; rfl
    simp only [this, cond_false]
    exact ⟨_, _, rfl, by simp only at hl; omega, h2⟩
  have : decide ((l.length : Int) > 0) = true := by simp; omega
  obtain ⟨o, c3, e3, h3⟩ := l1Once_ok h2 8
  simp only [this, cond_true, e3, Option.bind_some]
  simp only at hl
  cases o
  · simp only [cond_false]
    exact ⟨_, _, rfl, by omega, h3⟩
  obtain ⟨i, c4, e4, a4, b4, _, h4⟩ := l1Below_ok h3 (l.length : Int)
  have b4 := b4 (by omega)
  obtain ⟨j, rfl⟩ : ∃ j : Nat, i = (j : Int) := ⟨i.toNat, by omega⟩
  have hj : j < l.length := by omega
  obtain ⟨x, c5, e5, _, _, _, h5⟩ := l1Below_ok h4 4
  obtain ⟨t, c6, e6, _, h6⟩ := l1Pick_ok h5 ([[], [122, 122, 122, 122, 122, 122, 122, 122, 122], [97]] : List (List UInt8)) (by decide)
  obtain ⟨u, c7, e7, _, h7⟩ := l1PickInt_ok h5 [0, 210, 211] (by decide)
  obtain ⟨v, c8, e8, _, h8⟩ := l1PickInt_ok h5 [0, 1000001] (by decide)
  simp only [cond_true, e4, e5, e6, e7, e8, Option.bind_some, inB_nat, hj, decide_true]
  cases x == 0
  · cases x == 1
    · cases x == 2
      · exact ⟨_, _, rfl, by simp only [List.length_set]; omega, h8⟩
      · exact ⟨_, _, rfl, by simp only [List.length_set]; omega, h7⟩
    · exact ⟨_, _, rfl, by simp only [List.length_set]; omega, h5⟩
  · exact ⟨_, _, rfl, by simp only [List.length_set]; omega, h6⟩

/-- Drawn stores and disks are small. -/
structure DrawnS (s : StoreT) (d : DiskT) : Prop where
  sm : dSmall d
  ids : s.1.2.length ≤ 62
  dir : s.2.1.length ≤ 41

theorem fileText_eq_none {d : DiskT} {n : List UInt8} (h : ∀ f ∈ d.1, f.1 ≠ n) : fileText d n = ([], false) := by
  unfold fileText
  split
  · rfl
  · rcases fileIx_cases d.1 n with ⟨e, hno⟩ | ⟨i, hi, e, hn⟩
    · rw [ix_none e]
    · exact absurd hn (h _ (List.getElem_mem hi))

theorem ft_same {d e : DiskT} (hd : diskOk d = true) (he : diskOk e = true) (n : List UInt8) (hm : ∀ t, (∃ s, ((n, t, s) : FileT) ∈ d.1) ↔ ∃ s, ((n, t, s) : FileT) ∈ e.1) : fileText e n = fileText d n := by
  by_cases c : ∃ t s, ((n, t, s) : FileT) ∈ d.1
  · obtain ⟨t, s, hs⟩ := c
    obtain ⟨s', hs'⟩ := (hm t).1 ⟨s, hs⟩
    have e1 := fileText_mem hd hs
    have e2 := fileText_mem he hs'
    exact e2.trans e1.symm
  · have h1 : ∀ f ∈ d.1, f.1 ≠ n := fun f hf e => c ⟨f.2.1, f.2.2, by rw [← e]; exact hf⟩
    have h2 : ∀ f ∈ e.1, f.1 ≠ n := fun f hf e' => by
      obtain ⟨s, hs⟩ := (hm f.2.1).2 ⟨f.2.2, by rw [← e']; exact hf⟩
      exact c ⟨_, _, hs⟩
    rw [fileText_eq_none h1, fileText_eq_none h2]

theorem ft_files {d : DiskT} {act : List FileT → Int × List FileT} (h : diskOk d = true) (hk : diskOk (dstep d act).1 = true) (n : List UInt8) (hm : ∀ t, (∃ s, ((n, t, s) : FileT) ∈ d.1) ↔ ∃ s, ((n, t, s) : FileT) ∈ (act d.1).2) : fileText (dstep d act).1 n = fileText d n := by
  refine ft_same h hk n fun t => ?_
  have hx : (dstep d act).1.1 = d.1 ∨ (dstep d act).1.1 = (act d.1).2 := by
    unfold dstep
    split
    · exact .inl rfl
    · split
      · exact .inl rfl
      · exact .inr rfl
  rcases hx with e | e
  · rw [e]
  · rw [e]; exact hm t

theorem mem_set_ne {l : List FileT} {i : Nat} (hi : i < l.length) {f : FileT} (hf : f.1 = l[i].1) {x : FileT} (hx : x.1 ≠ l[i].1) : x ∈ l.set i f ↔ x ∈ l := by
  constructor
  · intro h
    rcases List.mem_or_eq_of_mem_set h with h | e
    · exact h
    · rw [e] at hx; exact absurd hf hx
  · intro h
    obtain ⟨j, hj, e⟩ := List.getElem_of_mem h
    have hij : i ≠ j := fun c => by subst c; rw [e] at hx; exact hx rfl
    exact List.mem_iff_getElem.2 ⟨j, by simpa using hj, by rw [List.getElem_set, if_neg hij]; exact e⟩

theorem mem_remIx_ne {l : List FileT} {i : Nat} (hi : i < l.length) {x : FileT} (hx : x.1 ≠ l[i].1) : x ∈ remIx l i ↔ x ∈ l := by
  constructor
  · intro h; exact (remIx_sub l i).subset h
  · intro h
    rw [remIx_split hi] at h
    unfold remIx
    rcases List.mem_append.1 h with h | h
    · exact List.mem_append_left _ h
    · rcases List.mem_cons.1 h with e | h
      · rw [e] at hx; exact absurd rfl hx
      · exact List.mem_append_right _ h

theorem ft_Remove {d : DiskT} (h : diskOk d = true) {m n : List UInt8} (hne : n ≠ m) : fileText (dRemove m d).1 n = fileText d n := by
  refine ft_files h (dk_Remove h m) n fun t => ?_
  unfold actRemove
  rcases fileIx_cases d.1 m with ⟨e, _⟩ | ⟨i, hi, e, hn⟩
  · rw [ix_none e]
  · rw [ix_some e]
    simp only
    constructor
    · rintro ⟨s, hs⟩; exact ⟨s, (mem_remIx_ne hi (by rw [hn]; exact hne)).2 hs⟩
    · rintro ⟨s, hs⟩; exact ⟨s, (mem_remIx_ne hi (by rw [hn]; exact hne)).1 hs⟩

theorem ft_Gone {d : DiskT} (h : diskOk d = true) {m n : List UInt8} (hne : n ≠ m) : fileText (dGone m d).1 n = fileText d n := by
  unfold dGone; split
  · exact ft_Remove h hne
  · rfl

theorem ft_Create {d : DiskT} (h : diskOk d = true) {m n : List UInt8} (hne : n ≠ m) : fileText (dCreate m d).1 n = fileText d n := by
  refine ft_files h (dk_Create h m) n fun t => ?_
  unfold actCreate
  split
  · exact Iff.rfl
  split
  · exact Iff.rfl
  split
  · exact Iff.rfl
  · constructor
    · rintro ⟨s, hs⟩; exact ⟨s, (mem_insB _ _ _).2 (.inr hs)⟩
    · rintro ⟨s, hs⟩
      rcases (mem_insB _ _ _).1 hs with e | hs
      · exact absurd (congrArg (·.1) e) hne
      · exact ⟨s, hs⟩

theorem ft_Append {d : DiskT} (h : diskOk d = true) {m n t0 : List UInt8} (hne : n ≠ m) : fileText (dAppend m t0 d).1 n = fileText d n := by
  refine ft_files h (dk_Append h m t0) n fun t => ?_
  unfold actAppend
  rcases fileIx_cases d.1 m with ⟨e, _⟩ | ⟨i, hi, e, hn⟩
  · rw [ix_none e]
  · rw [ix_some e]
    simp only
    split
    · exact Iff.rfl
    · rw [getD_lt hi]
      constructor
      · rintro ⟨s, hs⟩; exact ⟨s, (mem_set_ne (f := (d.1[i].1, d.1[i].2.1 ++ t0, d.1[i].2.2)) hi rfl (by rw [hn]; exact hne)).2 hs⟩
      · rintro ⟨s, hs⟩; exact ⟨s, (mem_set_ne (f := (d.1[i].1, d.1[i].2.1 ++ t0, d.1[i].2.2)) hi rfl (by rw [hn]; exact hne)).1 hs⟩

theorem ft_Sync {d : DiskT} (h : diskOk d = true) (m n : List UInt8) : fileText (dSync m d).1 n = fileText d n := by
  refine ft_files h (dk_Sync h m) n fun t => ?_
  unfold actSync
  rcases fileIx_cases d.1 m with ⟨e, _⟩ | ⟨i, hi, e, hn⟩
  · rw [ix_none e]
  · rw [ix_some e]
    simp only
    rw [getD_lt hi]
    by_cases hne : n = m
    · subst hne
      have hs := ((diskOk_iff d).1 h).2.2.2.2.2
      have uniq : ∀ t s, ((n, t, s) : FileT) ∈ d.1 → d.1[i] = (n, t, s) := fun t s hx => by
        obtain ⟨j, hj, ej⟩ := List.getElem_of_mem hx
        have : i = j := srt_inj hs hi hj (by rw [hn, ej])
        subst this; exact ej
      constructor
      · rintro ⟨s, hx⟩
        refine ⟨(d.1[i].2.1.length : Int), List.mem_iff_getElem.2 ⟨i, by simpa using hi, ?_⟩⟩
        rw [List.getElem_set_self, uniq t s hx]
      · rintro ⟨s, hx⟩
        rcases List.mem_or_eq_of_mem_set hx with hx | e
        · exact ⟨s, hx⟩
        · have e1 : t = d.1[i].2.1 := congrArg (·.2.1) e
          refine ⟨d.1[i].2.2, ?_⟩
          rw [e1, ← hn]; exact List.getElem_mem hi
    · constructor
      · rintro ⟨s, hs⟩; exact ⟨s, (mem_set_ne (f := (d.1[i].1, d.1[i].2.1, (d.1[i].2.1.length : Int))) hi rfl (by rw [hn]; exact hne)).2 hs⟩
      · rintro ⟨s, hs⟩; exact ⟨s, (mem_set_ne (f := (d.1[i].1, d.1[i].2.1, (d.1[i].2.1.length : Int))) hi rfl (by rw [hn]; exact hne)).1 hs⟩

theorem mem_dropF_ne {l : List FileT} {b : List UInt8} {x : FileT} (hx : x.1 ≠ b) : x ∈ dropF l b ↔ x ∈ l := by
  unfold dropF
  rcases fileIx_cases l b with ⟨e, _⟩ | ⟨i, hi, e, hn⟩
  · rw [ix_none e]
  · rw [ix_some e]; exact mem_remIx_ne hi (by rw [hn]; exact hx)

theorem ft_Rename {d : DiskT} (h : diskOk d = true) {a b n : List UInt8} (h1 : n ≠ a) (h2 : n ≠ b) : fileText (dRename a b d).1 n = fileText d n := by
  refine ft_files h (dk_Rename h a b) n fun t => ?_
  unfold actRename
  split
  · exact Iff.rfl
  rcases fileIx_cases d.1 a with ⟨e, _⟩ | ⟨i, hi, e, hn⟩
  · rw [ix_none e]
  · rw [ix_some e]
    simp only
    split
    · exact Iff.rfl
    · constructor
      · rintro ⟨s, hs⟩; exact ⟨s, (mem_insB _ _ _).2 (.inr ((mem_dropF_ne h2).2 ((mem_remIx_ne hi (by rw [hn]; exact h1)).2 hs)))⟩
      · rintro ⟨s, hs⟩
        rcases (mem_insB _ _ _).1 hs with e | hs
        · exact absurd (congrArg (·.1) e) h2
        · exact ⟨s, (mem_remIx_ne hi (by rw [hn]; exact h1)).1 ((mem_dropF_ne h2).1 hs)⟩

theorem ft_sstep {w : WorkT} {op : DiskT → DiskT × Int} {n : List UInt8} (ho : fileText (op w.1).1 n = fileText w.1 n) : fileText (sstep op w).1 n = fileText w.1 n := by
  unfold sstep; split
  · exact ho
  · rfl

theorem ft_sNew {w : WorkT} (h : diskOk w.1 = true) {m n : List UInt8} (hne : n ≠ m) : fileText (sNew m w).1 n = fileText w.1 n := by
  have h1 : diskOk (sstep (dGone m) w).1 = true := dk_sstep (op := dGone m) h fun k => dk_Gone k m
  unfold sNew
  rw [ft_sstep (op := dCreate m) (ft_Create h1 hne), ft_sstep (op := dGone m) (ft_Gone h hne)]

theorem ft_sFile {w : WorkT} (h : diskOk w.1 = true) {m n t : List UInt8} (hne : n ≠ m) : fileText (sFile m t w).1 n = fileText w.1 n := by
  have h2 : diskOk (sNew m w).1 = true := dk_sNew h m
  have h3 : diskOk (sstep (dAppend m t) (sNew m w)).1 = true := dk_sstep (op := dAppend m t) h2 fun k => dk_Append k m t
  show fileText (sstep (dSync m) (sstep (dAppend m t) (sNew m w))).1 n = _
  rw [ft_sstep (op := dSync m) (ft_Sync h3 m n), ft_sstep (op := dAppend m t) (ft_Append h2 hne), ft_sNew h hne]

abbrev tempN : List UInt8 := [116, 101, 109, 112]

abbrev liveN : List UInt8 := [108, 105, 118, 101]

theorem ft_sPut {w : WorkT} (h : diskOk w.1 = true) (v : LiveT) {n : List UInt8} (h1 : n ≠ tempN) (h2 : n ≠ liveN) : fileText (sPut v w).1 n = fileText w.1 n := by
  have h3 := dk_sFile h tempN (showLive v)
  unfold sPut
  rw [ft_sstep (op := dRename tempN liveN) (ft_Rename h3 h1 h2), ft_sFile h h1]

theorem ft_sDrop {n : List UInt8} : ∀ (names : List (List UInt8)) {w : WorkT}, diskOk w.1 = true → (∀ m ∈ names, n ≠ m) → fileText (sDrop names w).1 n = fileText w.1 n
  | [], w, _, _ => rfl
  | m :: l, w, h, hne => by
    have h1 : diskOk (sstep (dGone m) w).1 = true := dk_sstep (op := dGone m) h fun k => dk_Gone k m
    show fileText (sDrop l (sstep (dGone m) w)).1 n = _
    rw [ft_sDrop l h1 fun x hx => hne x (List.mem_cons_of_mem _ hx), ft_sstep (op := dGone m) (ft_Gone h (hne m List.mem_cons_self))]

theorem ft_cleanW {names : List (List UInt8)} {w : WorkT} {n : List UInt8} (h : diskOk w.1 = true) (hne : ∀ m ∈ names, n ≠ m) : fileText (cleanW names w).1 n = fileText w.1 n := by
  have := ft_sDrop (n := n) names (w := (w.1, 0)) h hne
  unfold cleanW; split
  · split
    · exact this
    · exact this
  · rfl

/-- What is created is empty. -/
theorem createTxt {d : DiskT} {n : List UInt8} (h : (dCreate n d).2 = 0) : fileText (dCreate n d).1 n = ([], true) := by
  obtain ⟨k, ha, hx⟩ := dstep_zero h
  have hk : diskOk (dCreate n d).1 = true := dk_Create k n
  have hx : (dCreate n d).1 = _ := hx
  unfold actCreate at ha hx
  split at ha
  · simp at ha
  rename_i c1
  rw [if_neg c1] at hx
  split at ha
  · simp at ha
  rename_i c2
  rw [if_neg c2] at hx
  split at ha
  · simp at ha
  rename_i c3
  rw [if_neg c3] at hx
  have hm : ((n, [], 0) : FileT) ∈ (dCreate n d).1.1 := by rw [hx]; exact (mem_insB _ _ _).2 (.inl rfl)
  exact fileText_mem hk hm

theorem digs_inj : ∀ (k a b : Nat), a < k → Lib.decDigits a = Lib.decDigits b → a = b
  | 0, a, b, h, _ => by omega
  | k + 1, a, b, h, e => by
    have last : ∀ n : Nat, (Lib.decDigits n).getLast? = some (UInt8.ofNat (48 + n % 10)) := fun n => by
      by_cases c : n < 10
      · rw [Lib.decDigits_one c, Nat.mod_eq_of_lt c]; rfl
      · have := digs_step (n := n) (by omega)
        unfold digs at this
        rw [if_neg (by omega), if_neg (by omega)] at this
        rw [this]; simp
    have hm : a % 10 = b % 10 := by
      have h1 := last a
      rw [e, last b] at h1
      have h2 : UInt8.ofNat (48 + b % 10) = UInt8.ofNat (48 + a % 10) := Option.some.inj h1
      have h3 := congrArg UInt8.toNat h2
      simp only [UInt8.toNat_ofNat'] at h3
      omega
    by_cases ca : a < 10
    · by_cases cb : b < 10
      · omega
      · exfalso
        have := digs_step (n := b) (by omega)
        unfold digs at this
        rw [if_neg (by omega), if_neg (by omega)] at this
        rw [this, Lib.decDigits_one ca] at e
        have hl := congrArg List.length e
        have h0 : 0 < (Lib.decDigits (b / 10)).length := by
          cases hd : Lib.decDigits (b / 10) with
          | nil => have := last (b / 10); rw [hd] at this; simp at this
          | cons x l => simp
        simp only [List.length_append, List.length_cons, List.length_nil] at hl
        omega
    · by_cases cb : b < 10
      · exfalso
        have := digs_step (n := a) (by omega)
        unfold digs at this
        rw [if_neg (by omega), if_neg (by omega)] at this
        rw [this, Lib.decDigits_one cb] at e
        have hl := congrArg List.length e
        have h0 : 0 < (Lib.decDigits (a / 10)).length := by
          cases hd : Lib.decDigits (a / 10) with
          | nil => have := last (a / 10); rw [hd] at this; simp at this
          | cons x l => simp
        simp only [List.length_append, List.length_cons, List.length_nil] at hl
        omega
      · have e1 := digs_step (n := a) (by omega)
        have e2 := digs_step (n := b) (by omega)
        unfold digs at e1 e2
        rw [if_neg (by omega), if_neg (by omega)] at e1 e2
        rw [e1, e2] at e
        have := (List.append_inj' e rfl).1
        have := digs_inj k (a / 10) (b / 10) (by omega) this
        omega

theorem segName_inj {i j : Int} (hi : 1 ≤ i ∧ i ≤ 100000) (hj : 1 ≤ j ∧ j ≤ 100000) (h : segName i = segName j) : i = j := by
  unfold segName nameN at h
  rw [if_pos hi, if_pos hj] at h
  have := digs_inj (i.toNat + 1) i.toNat j.toNat (by omega) (List.append_cancel_left h)
  omega

theorem segName_temp (i : Int) : segName i ≠ tempN := by
  unfold segName nameN
  split
  · intro h; have := congrArg List.head? h; simp at this
  · simp

theorem segName_live (i : Int) : segName i ≠ liveN := by
  unfold segName nameN
  split
  · intro h; have := congrArg List.head? h; simp at this
  · simp

theorem segName_hint (i j : Int) (hi : 1 ≤ i ∧ i ≤ 100000) : segName i ≠ hintName j := by
  unfold segName hintName nameN
  rw [if_pos hi]
  split
  · intro h; have := congrArg List.head? h; simp at this
  · simp

theorem ft_sApp {m n : List UInt8} (hne : n ≠ m) : ∀ (recs : List RecT) {w : WorkT}, diskOk w.1 = true → fileText (sApp m recs w).1 n = fileText w.1 n
  | [], w, _ => rfl
  | r :: l, w, h => by
    have h1 : diskOk (sstep (dAppend m (frame (showRec r))) w).1 = true := dk_sstep (op := dAppend m _) h fun k => dk_Append k m _
    show fileText (sApp m l (sstep _ w)).1 n = _
    rw [ft_sApp hne l h1, ft_sstep (op := dAppend m _) (ft_Append h hne)]

/-- What a new segment does to the files. -/
theorem rotP_ft {s : StoreT} {d : DiskT} (h : diskOk d = true) : ((rotP s d).1.1.1 = s.1.1 ∧ ∀ n, fileText (rotP s d).2.1 n = fileText d n) ∨
    ((rotP s d).1.1.1 = s.1.1 + 1 ∧ s.1.1 < 100000 ∧ ∀ n, n ≠ segName s.1.1 → n ≠ tempN → n ≠ liveN → fileText (rotP s d).2.1 n = fileText d n) := by
  have hs := dk_Sync h (actN s)
  have hg := dk_Gone hs (segName s.1.1)
  have hc : diskOk (sstep (dCreate (segName s.1.1)) (dGone (segName s.1.1) (dSync (actN s) d).1)).1 = true := dk_sstep (op := dCreate _) hg fun k => dk_Create k _
  have f1 : ∀ n, fileText (dSync (actN s) d).1 n = fileText d n := fun n => ft_Sync h _ n
  have f2 : ∀ n, n ≠ segName s.1.1 → fileText (sstep (dCreate (segName s.1.1)) (dGone (segName s.1.1) (dSync (actN s) d).1)).1 n = fileText d n := fun n hn => by
    rw [ft_sstep (op := dCreate _) (ft_Create hg hn), ft_Gone hs hn, f1]
  unfold rotP
  split
  · exact .inl ⟨rfl, fun _ => rfl⟩
  rename_i c1
  simp only [not_or, Nat.not_le, Int.not_le] at c1
  split
  · exact .inl ⟨rfl, f1⟩
  simp only
  split
  · exact .inr ⟨rfl, c1.2, fun n h1 _ _ => f2 n h1⟩
  have hp := dk_sPut (w := ((sstep (dCreate (segName s.1.1)) (dGone (segName s.1.1) (dSync (actN s) d).1)).1, 0)) hc (s.1.1 + 1, s.1.2 ++ [s.1.1])
  have f3 : ∀ n, n ≠ segName s.1.1 → n ≠ tempN → n ≠ liveN → fileText (sPut (s.1.1 + 1, s.1.2 ++ [s.1.1]) ((sstep (dCreate (segName s.1.1)) (dGone (segName s.1.1) (dSync (actN s) d).1)).1, 0)).1 n = fileText d n := fun n h1 h2 h3 => by
    rw [ft_sPut (w := ((sstep (dCreate (segName s.1.1)) (dGone (segName s.1.1) (dSync (actN s) d).1)).1, 0)) hc _ h2 h3]
    exact f2 n h1
  split
  · refine .inr ⟨rfl, c1.2, fun n h1 h2 h3 => ?_⟩
    show fileText (cleanW _ _).1 n = _
    rw [ft_cleanW (w := toldW _) hp (fun m hm => by
      simp only [List.mem_cons, List.not_mem_nil, or_false] at hm
      rcases hm with rfl | rfl
      · exact h2
      · exact h1)]
    exact f3 n h1 h2 h3
  · exact .inr ⟨rfl, c1.2, f3⟩

/-- No file of a segment to come; the entries lie in segments that there were. -/
structure NextN (s : StoreT) (d : DiskT) : Prop where
  ent : ∀ e ∈ s.2.1, e.2.1 < s.1.1
  fil : ∀ id, s.1.1 ≤ id → 1 ≤ id ∧ id ≤ 100000 → (fileText d (segName id)).2 = false

theorem live_last {v : LiveT} (h : liveOk v = true) : 1 ≤ lastI v.2 ∧ lastI v.2 < v.1 ∧ lastI v.2 ≤ 100000 := by
  obtain ⟨k1, k2, k3, k4⟩ := (liveOk_iff v).1 h
  rw [w64_id (by omega) (by omega)] at k1
  have hm : lastI v.2 ∈ v.2 := by
    unfold lastI
    rw [getD_lt (show v.2.length - 1 < v.2.length by omega)]
    exact List.getElem_mem _
  have := idsOk_mem _ _ k1 _ hm
  omega

theorem rotP_next {s : StoreT} {d : DiskT} (h : diskOk d = true) (hv : liveOk s.1 = true) (hn : NextN s d) : NextN (rotP s d).1 (rotP s d).2.1 ∧ s.1.1 ≤ (rotP s d).1.1.1 := by
  obtain ⟨_, _, r3, _, _, _⟩ := rotP_ok h hv
  obtain ⟨k1, k2, k3, k4⟩ := (liveOk_iff s.1).1 hv
  rcases rotP_ft (s := s) h with ⟨e1, e2⟩ | ⟨e1, e3, e2⟩
  · refine ⟨⟨fun e he => ?_, fun id h1 h2 => ?_⟩, by omega⟩
    · rw [r3] at he; rw [e1]; exact hn.ent e he
    · rw [e1] at h1; rw [e2]; exact hn.fil id h1 h2
  · refine ⟨⟨fun e he => ?_, fun id h1 h2 => ?_⟩, by omega⟩
    · rw [r3] at he; rw [e1]; have := hn.ent e he; omega
    · rw [e1] at h1
      rw [e2 (segName id) (fun hh => by have := segName_inj h2 (by omega) hh; omega) (segName_temp id) (segName_live id)]
      exact hn.fil id (by omega) h2

theorem addP_next {s : StoreT} {d : DiskT} {k : Int} (h : Good2 k s d) (hn : NextN s d) (r : RecT) : NextN (addP s d r).1 (addP s d r).2.1 ∧ s.1.1 ≤ (addP s d r).1.1.1 ∧ ((addP s d r).2.2.1 = 0 → (addP s d r).2.2.2.2.1 < (addP s d r).1.1.1) := by
  have hR : NextN (addR s d (frame (showRec r))).1 (addR s d (frame (showRec r))).2.1 ∧ s.1.1 ≤ (addR s d (frame (showRec r))).1.1.1 := by
    unfold addR; split
    · exact rotP_next h.dk h.lv hn
    · exact ⟨hn, Int.le_refl _⟩
  obtain ⟨q1, q2, q3, q4⟩ := addR_ok h (frame (showRec r))
  unfold addP
  generalize addR s d (frame (showRec r)) = R at *
  simp only
  split
  · rename_i c; exact ⟨hR.1, hR.2, fun e => absurd e c⟩
  rename_i c
  have c : R.2.2 = 0 := by simpa using c
  have hl := live_last (q4 c).lv
  have hA : NextN R.1 (dAppend (actN R.1) (frame (showRec r)) R.2.1).1 := ⟨hR.1.ent, fun id h1 h2 => by
    rw [ft_Append q1 (fun hh => by
      have := segName_inj h2 ⟨hl.1, hl.2.2⟩ hh
      omega)]
    exact hR.1.fil id h1 h2⟩
  split
  · rename_i c2
    exact ⟨hA, hR.2, fun e => absurd ((told_zero _).1 e) c2⟩
  · exact ⟨⟨hA.ent, hA.fil⟩, hR.2, fun _ => hl.2.1⟩

theorem commitG_next : ∀ (rs : List RecT) (s : StoreT) (d : DiskT) (k : Int), Good2 k s d → NextN s d → NextN (commitG rs s d).1 (commitG rs s d).2.1 ∧ s.1.1 ≤ (commitG rs s d).1.1.1 ∧ ((commitG rs s d).2.2.1 = 0 → ∀ e ∈ (commitG rs s d).2.2.2, e.2.1 < (commitG rs s d).1.1.1)
  | [], s, d, k, h, hn => ⟨hn, Int.le_refl _, fun _ e he => by simp [commitG] at he⟩
  | r :: rs, s, d, k, h, hn => by
    obtain ⟨q1, q2, q3, q4⟩ := addP_ok h r
    obtain ⟨n1, n2, n3⟩ := addP_next h hn r
    unfold commitG
    split
    · rename_i c
      exact ⟨n1, n2, fun e => absurd e c⟩
    · rename_i c
      have c : (addP s d r).2.2.1 = 0 := by simpa using c
      obtain ⟨m1, m2, m3⟩ := commitG_next rs _ _ _ (q4 c) n1
      refine ⟨m1, by show s.1.1 ≤ (commitG rs _ _).1.1.1; omega, fun e x hx => ?_⟩
      show x.2.1 < (commitG rs _ _).1.1.1
      rcases List.mem_cons.1 hx with z | hx
      · rw [z]; have := n3 c; omega
      · exact m3 e x hx

theorem mem_dirW : ∀ (l : List (PutT × EntryT)) (dir : List EntryT) (x : EntryT), x ∈ dirW dir l → x ∈ dir ∨ ∃ p ∈ l, x = p.2
  | [], dir, x, h => .inl h
  | p :: l, dir, x, h => by
    rcases mem_dirW l (dirStep dir p) x h with h | ⟨q, hq, e⟩
    · unfold dirStep at h
      split at h
      · exact .inl ((mem_dropK _ _ _).1 h).1
      · rcases (mem_insB _ _ _).1 h with e | h
        · exact .inr ⟨p, List.mem_cons_self, e⟩
        · exact .inl ((mem_dropK _ _ _).1 h).1
    · exact .inr ⟨q, List.mem_cons_of_mem _ hq, e⟩

theorem commitP_next {s : StoreT} {d : DiskT} {k : Int} (h : Good2 k s d) (hn : NextN s d) (l : List PutT) : NextN (commitP s d l).1 (commitP s d l).2.1 := by
  have h' : Good2 k (s.1, s.2.1, s.2.2.1 + 1, s.2.2.2) d := ⟨h.dk, h.lv, h.s0, h.s1⟩
  have hn' : NextN (s.1, s.2.1, s.2.2.1 + 1, s.2.2.2) d := ⟨hn.ent, hn.fil⟩
  obtain ⟨m1, m2, m3⟩ := commitG_next (recsOf s.2.2.1 l) _ _ _ h' hn'
  obtain ⟨p1, p2, p3, p4⟩ := commitG_ok (recsOf s.2.2.1 l) _ _ _ h'
  unfold commitP
  generalize commitG (recsOf s.2.2.1 l) (s.1, s.2.1, s.2.2.1 + 1, s.2.2.2) d = g at *
  simp only
  split
  · exact m1
  rename_i c
  have c : g.2.2.1 = 0 := by simpa using c
  have hA : NextN g.1 (dSync (actN g.1) g.2.1).1 := ⟨m1.ent, fun id h1 h2 => by rw [ft_Sync p1]; exact m1.fil id h1 h2⟩
  split
  · exact hA
  · refine ⟨fun e he => ?_, hA.fil⟩
    rcases mem_dirW _ _ _ he with he | ⟨p, hp, rfl⟩
    · exact m1.ent e he
    · exact m3 c _ (List.of_mem_zip hp).2

theorem entsG_seg (m : Int) : ∀ (recs : List RecT) (a : Int), ∀ e ∈ entsG m a recs, e.2.1 = m
  | [], a, e, he => by simp [entsG] at he
  | r :: rs, a, e, he => by
    unfold entsG at he
    split at he
    · rcases List.mem_cons.1 he with z | he
      · rw [z]
      · exact entsG_seg m rs _ e he
    · exact entsG_seg m rs _ e he

theorem ft_sOld {n : List UInt8} : ∀ (ids : List Int) {w : WorkT}, diskOk w.1 = true → (∀ id ∈ ids, n ≠ segName id ∧ n ≠ hintName id) → fileText (sOld ids w).1 n = fileText w.1 n
  | [], w, _, _ => rfl
  | i :: l, w, h, hne => by
    have h1 := dk_sDrop [segName i, hintName i] h
    show fileText (sOld l (sDrop [segName i, hintName i] w)).1 n = _
    rw [ft_sOld l h1 fun x hx => hne x (List.mem_cons_of_mem _ hx), ft_sDrop _ h (fun m hm => by
      simp only [List.mem_cons, List.not_mem_nil, or_false] at hm
      have := hne i List.mem_cons_self
      rcases hm with rfl | rfl
      · exact this.1
      · exact this.2)]

theorem mergeP_next {s : StoreT} {d : DiskT} (h : diskOk d = true) (hv : liveOk s.1 = true) (h2 : s.1.1 + 2 ≤ 100000) (hn : NextN s d) (l : List PairT) : NextN (mergeP s d l).1 (mergeP s d l).2.1 := by
  obtain ⟨k1, k2, k3, k4⟩ := (liveOk_iff s.1).1 hv
  rw [w64_id (by omega) (by omega)] at k1
  have hids := idsOk_mem _ _ k1
  have g0 := dk_sNew (w := (d, 0)) h (segName s.1.1)
  have g0a := dk_sApp (segName s.1.1) (keepsOf l (s.2.2.1 - 1)) g0
  have g1 := dk_sWM s.1.1 (keepsOf l (s.2.2.1 - 1)) (w := (d, 0)) h
  have g2 := dk_sNew g1 (segName (s.1.1 + 1))
  have f1 : ∀ n, n ≠ segName s.1.1 → n ≠ segName (s.1.1 + 1) → fileText (sNew (segName (s.1.1 + 1)) (sWM s.1.1 (keepsOf l (s.2.2.1 - 1)) (d, 0))).1 n = fileText d n := fun n q1 q2 => by
    rw [ft_sNew g1 q2]
    unfold sWM
    rw [ft_sstep (op := dSync _) (ft_Sync g0a _ n), ft_sApp q1 _ g0, ft_sNew (w := (d, 0)) h q1]
  unfold mergeP
  simp only
  generalize sNew (segName (s.1.1 + 1)) (sWM s.1.1 (keepsOf l (s.2.2.1 - 1)) (d, 0)) = w1 at *
  have g3 : diskOk (sHint s.1.1 w1).1 = true := by
    unfold sHint; split
    · exact g2
    · exact dk_hintStep _ g2
  have f2 : ∀ n, n ≠ hintName s.1.1 → fileText (sHint s.1.1 w1).1 n = fileText w1.1 n := fun n q => by
    unfold sHint
    split
    · rfl
    · unfold hintStep
      simp only
      have hf := dk_sFile (w := (w1.1, 0)) g2 (hintName s.1.1) (showHint (hintOf s.1.1 (fileText w1.1 (segName s.1.1)).1).1)
      split
      · rw [ft_Gone hf q, ft_sFile (w := (w1.1, 0)) g2 q]
      · rw [ft_sFile (w := (w1.1, 0)) g2 q]
  generalize sHint s.1.1 w1 = w2 at *
  have g5 : diskOk (if w2.2 = 0 then toldW (sPut (s.1.1 + 2, [s.1.1, s.1.1 + 1]) w2) else toldW w2).1 = true := by
    split
    · exact dk_sPut g3 _
    · exact g3
  have f3 : ∀ n, n ≠ tempN → n ≠ liveN → fileText (if w2.2 = 0 then toldW (sPut (s.1.1 + 2, [s.1.1, s.1.1 + 1]) w2) else toldW w2).1 n = fileText w2.1 n := fun n q1 q2 => by
    split
    · exact ft_sPut g3 _ q1 q2
    · rfl
  generalize (if w2.2 = 0 then toldW (sPut (s.1.1 + 2, [s.1.1, s.1.1 + 1]) w2) else toldW w2) = w3 at *
  have f4 : ∀ id, s.1.1 + 2 ≤ id → 1 ≤ id ∧ id ≤ 100000 → (fileText w3.1 (segName id)).2 = false := fun id q1 q2 => by
    rw [f3 _ (segName_temp id) (segName_live id), f2 _ (segName_hint id _ q2), f1 _ (fun hh => by have := segName_inj q2 (by omega) hh; omega) (fun hh => by have := segName_inj q2 (by omega) hh; omega)]
    exact hn.fil id (by omega) q2
  split
  · refine ⟨fun e he => ?_, fun id q1 q2 => ?_⟩
    · have := hn.ent e he; show e.2.1 < s.1.1 + 2; omega
    · rw [ft_cleanW g5 (fun m hm => by
        unfold mNames at hm
        simp only [List.mem_cons, List.not_mem_nil, or_false] at hm
        have q1 : s.1.1 + 2 ≤ id := q1
        rcases hm with rfl | rfl | rfl | rfl
        · exact segName_temp id
        · exact fun hh => by have := segName_inj q2 (by omega) hh; omega
        · exact fun hh => by have := segName_inj q2 (by omega) hh; omega
        · exact segName_hint id _ q2)]
      exact f4 id q1 q2
  · refine ⟨fun e he => ?_, fun id q1 q2 => ?_⟩
    · have := entsG_seg _ _ _ e he; show e.2.1 < s.1.1 + 2; omega
    · have q1 : s.1.1 + 2 ≤ id := q1
      show (fileText (sOld s.1.2 (w3.1, 0)).1 (segName id)).2 = false
      rw [ft_sOld s.1.2 (w := (w3.1, 0)) g5 (fun i hi => ⟨fun hh => by
        have := hids i hi
        have := segName_inj q2 (by omega) hh; omega, segName_hint id _ q2⟩)]
      exact f4 id q1 q2

def StoreN (s : StoreT) (d : DiskT) : Prop := s.1.2 ≠ [] → NextN s d

theorem live_ne {v : LiveT} (h : liveOk v = true) : v.2 ≠ [] := fun e => by
  have := ((liveOk_iff v).1 h).2.2.1
  rw [e] at this; simp at this

theorem spec_Merge_inv2 {s : StoreT} {d : DiskT} (h : StoreI s d) (hn : StoreN s d) : ∃ s' d' c, spec_Merge.f s d = some (s', d', c) ∧ StoreI s' d' ∧ StoreN s' d' := by
  have hl := dl_dk h.dk
  have hd := dl_lim hl (by omega)
  have hu : usedN d.1 < 1000000000 := by have := hl.2.1; omega
  have h1 := h.ids
  have h2 := h.dir
  have h3 := hl.1
  unfold spec_Merge.f
  simp only [spec_StoreOk_eq s d hd hu (show s.1.2.length < 1000000000 by omega) (show s.2.1.length < 1000000000 by omega), spec_l12Copy_eq s (show s.1.2.length < 1000000000 by omega) (show s.2.1.length < 1000000000 by omega), spec_l3Copy_eq d (show d.1.length < 1000000000000 by omega), spec_Dump_eq s d hd hu (show s.2.1.length < 1000000000 by omega), Option.bind_some]
  have hdl := dumpP_len s d
  generalize dumpP s d = R at *
  obtain ⟨L, c⟩ := R
  have hdl : L.length ≤ s.2.1.length := hdl
  cases hk : storeOk s d with
  | false => exact ⟨s, d, 4, rfl, h, hn⟩
  | true =>
    obtain ⟨q1, q2, q3, q4, q5⟩ := storeOk_parts hk
    have hd20 : s.2.1.length ≤ 20 := (dirOk_mem q3).1
    have hlv := (liveOk_iff s.1).1 q2
    simp only [Bool.not_true, cond_false, show w64 (s.1.1 + 2) = s.1.1 + 2 from w64_id (by omega) (by omega)]
    by_cases e1 : s.1.1 + 2 > 100000
    · simp only [e1, decide_true, cond_true]
      exact ⟨s, d, 5, rfl, h, hn⟩
    simp only [e1, decide_false, cond_false]
    by_cases e2 : c = 0
    rotate_left
    · have d2 : (c != 0) = true := by simpa using e2
      simp only [d2, cond_true]
      exact ⟨s, d, c, rfl, h, hn⟩
    subst e2
    simp only [bne_self_eq_false, cond_false, spec_merge_eq s d L q1 q2 (by omega) q4 (by omega), Option.bind_some]
    obtain ⟨r1, r2, r3⟩ := mergeP_ok (s := s) L q1
    exact ⟨(mergeP s d L).1, (mergeP s d L).2.1, (mergeP s d L).2.2, rfl, ⟨r1, by omega, by omega⟩, fun _ => mergeP_next q1 q2 (by omega) (hn (live_ne q2)) L⟩

theorem spec_Commit_inv2 {s : StoreT} {d : DiskT} (h : StoreI s d) (hn : StoreN s d) (l : List PutT) (hl3 : l.length ≤ 3) : ∃ s' d' c, spec_Commit.f s d l = some (s', d', c) ∧ StoreI s' d' ∧ StoreN s' d' := by
  have hl := dl_dk h.dk
  have hd := dl_lim hl (by omega)
  have hu : usedN d.1 < 1000000000 := by have := hl.2.1; omega
  have h1 := h.ids
  have h2 := h.dir
  have h3 := hl.1
  unfold spec_Commit.f
  simp only [spec_StoreOk_eq s d hd hu (show s.1.2.length < 1000000000 by omega) (show s.2.1.length < 1000000000 by omega), spec_l12Copy_eq s (show s.1.2.length < 1000000000 by omega) (show s.2.1.length < 1000000000 by omega), spec_l3Copy_eq d (show d.1.length < 1000000000000 by omega), spec_PutsOk_eq l (show l.length < 2 ^ 62 by omega), spec_l12After_eq s.2.1 l (show s.2.1.length < 100000000 by omega) (show l.length < 100000000 by omega), Option.bind_some]
  cases hk : storeOk s d with
  | false => exact ⟨s, d, 4, rfl, h, hn⟩
  | true =>
    obtain ⟨q1, q2, q3, q4, q5⟩ := storeOk_parts hk
    have hg := storeOk_good hk
    have hd20 : s.2.1.length ≤ 20 := (dirOk_mem q3).1
    simp only [Bool.not_true, cond_false]
    cases hp : putsOk l with
    | false => exact ⟨s, d, 4, rfl, h, hn⟩
    | true =>
      simp only [Bool.not_true, cond_false]
      by_cases e1 : (l.length : Int) = 0
      · have d1 : ((l.length : Int) == 0) = true := by simpa using e1
        simp only [d1, cond_true]
        exact ⟨s, d, 0, rfl, h, hn⟩
      have d1 : ((l.length : Int) == 0) = false := by simpa using e1
      simp only [d1, cond_false]
      by_cases e2 : (keysP s.2.1 l : Int) > 20
      · simp only [e2, decide_true, cond_true]
        exact ⟨s, d, 5, rfl, h, hn⟩
      simp only [e2, decide_false, cond_false]
      by_cases e3 : s.2.2.1 > 1000000
      · simp only [e3, decide_true, cond_true]
        exact ⟨s, d, 5, rfl, h, hn⟩
      simp only [e3, decide_false, cond_false, spec_commit_eq hg (by omega) l (by omega) hp (by omega) (by omega), Option.bind_some]
      obtain ⟨r1, r2, r3⟩ := commitP_ok hg l
      exact ⟨(commitP s d l).1, (commitP s d l).2.1, (commitP s d l).2.2, rfl, ⟨r1, by omega, by omega⟩, fun _ => commitP_next hg (hn (live_ne q2)) l⟩

theorem spec_Open_new2 (n : Int) (h : 0 ≤ n ∧ n ≤ 100000) : ∃ s d c, spec_Open.f (([], n, -1, false) : DiskT) = some (s, d, c) ∧ StoreI s d ∧ StoreN s d := by
  have hk := dk_new n h
  have hd := dl_lim (dl_dk hk) (by omega)
  have ht : fileText (([], n, -1, false) : DiskT) [108, 105, 118, 101] = ([], false) := by unfold fileText; rw [hk]; rfl
  have ht2 : ∀ m, fileText (([], n, -1, false) : DiskT) m = ([], false) := fun m => fileText_eq_none fun f hf => by simp at hf
  have hn := segName_len 1
  have hc := dk_Create hk (segName 1)
  have fc : ∀ m, m ≠ segName 1 → fileText (dCreate (segName 1) (([], n, -1, false) : DiskT)).1 m = ([], false) := fun m hm => by rw [ft_Create hk hm, ht2]
  have ec : spec_Create.f (([], n, -1, false) : DiskT) (segName 1) = some (dCreate (segName 1) ([], n, -1, false)) := spec_Create_eq _ _ hd (by omega)
  unfold spec_Open.f
  simp only [spec_DiskOk_eq _ hd, hk, Option.bind_some, Bool.not_true, cond_false, spec_FileText_eq _ _ hd, ht, Bool.not_false, cond_true]
  have e1 : ∃ s d c, spec_l11First.f (([], n, -1, false) : DiskT) = some (s, d, c) ∧ StoreI s d ∧ StoreN s d := by
    unfold spec_l11First.f
    simp only [spec_Sweep_new n h, Option.bind_some, bne_self_eq_false, cond_false, spec_SegName_eq, ec]
    generalize dCreate (segName 1) ([], n, -1, false) = w at *
    obtain ⟨x, c⟩ := w
    have hc : diskOk x = true := hc
    have fc : ∀ m, m ≠ segName 1 → fileText x m = ([], false) := fc
    by_cases c1 : c = 0
    rotate_left
    · have d1 : (c != 0) = true := by simpa using c1
      simp only [d1, cond_true, spec_l11Code_eq, Option.bind_some]
      exact ⟨_, _, _, rfl, ⟨hc, by simp, by simp⟩, fun e => absurd rfl e⟩
    subst c1
    have hp : diskOk (putLive x (2, [1])).1 = true ∧ ∀ m, m ≠ segName 1 → m ≠ tempN → m ≠ liveN → fileText (putLive x (2, [1])).1 m = ([], false) := by
      unfold putLive; split
      · exact ⟨hc, fun m q1 _ _ => fc m q1⟩
      · exact ⟨dk_sPut (w := (x, 0)) hc _, fun m q1 q2 q3 => by
          show fileText (sPut (2, [1]) (x, 0)).1 m = _
          rw [ft_sPut (w := (x, 0)) hc _ q2 q3]; exact fc m q1⟩
    simp only [bne_self_eq_false, cond_false, spec_PutLive_eq x (2, [1]) (dl_dk hc) (by omega) (by simp), Option.bind_some]
    generalize putLive x (2, [1]) = w at *
    obtain ⟨y, c⟩ := w
    obtain ⟨hp, hf⟩ := hp
    have hp : diskOk y = true := hp
    by_cases c1 : c = 0
    · subst c1
      simp only [bne_self_eq_false, cond_false]
      refine ⟨_, _, _, rfl, ⟨hp, by simp, by simp⟩, fun _ => ⟨fun e he => by simp at he, fun id q1 q2 => ?_⟩⟩
      have q1 : 2 ≤ id := q1
      have hf := hf (segName id) (fun hh => by have := segName_inj q2 (by omega) hh; omega) (segName_temp id) (segName_live id)
      show (fileText y (segName id)).2 = false
      rw [show fileText y (segName id) = ([], false) from hf]
    · have d1 : (c != 0) = true := by simpa using c1
      simp only [d1, cond_true]
      exact ⟨_, _, _, rfl, ⟨hp, by simp, by simp⟩, fun e => absurd rfl e⟩
  obtain ⟨s, d, c, e1, h1⟩ := e1
  simp only [e1, Option.bind_some]
  exact ⟨s, d, c, rfl, h1⟩

theorem l12Store_ok2 {c : CurT} (h : Cur c) : ∃ s d c', spec_l12Store.f c = some (s, d, c') ∧ (StoreI s d ∧ StoreN s d) ∧ Cur c' := by
  obtain ⟨v, c1, e1, hv, h1⟩ := l1PickInt_ok h [100000, 100000, 400, 250] (by decide)
  have hv : 0 ≤ v ∧ v ≤ 100000 := by
    simp only [List.mem_cons, List.not_mem_nil, or_false] at hv
    omega
  have e2 : spec_DiskNew.f v = some (([], v, -1, false) : DiskT) := by
    unfold spec_DiskNew.f
    rw [spec_l1In_eq]; simp [hv]
  obtain ⟨s, d, k, e3, h3⟩ := spec_Open_new2 v hv
  obtain ⟨n, c4, e4, a4, b4, _, h4⟩ := l1Below_ok h1 7
  have b4 := b4 (by omega)
  obtain ⟨m, rfl⟩ : ∃ m : Nat, n = (m : Int) := ⟨n.toNat, by omega⟩
  have key := lp_ok (step := spec_l12Store.l0) (a := (c4, ((0, []), [], 0, 0, 0), ([], 0, 0, false), s, d, (m : Int))) (fun a => Cur a.1 ∧ (StoreI a.2.2.2.1 a.2.2.2.2.1 ∧ StoreN a.2.2.2.1 a.2.2.2.2.1) ∧ ∃ k : Nat, a.2.2.2.2.2 = (k : Int) ∧ k ≤ 10) (fun a => a.2.2.2.2.2.toNat) (fun b => match b with | .inl x => Cur x.1 ∧ (StoreI x.2.2.2.1 x.2.2.2.2 ∧ StoreN x.2.2.2.1 x.2.2.2.2) | .inr x => Cur x.1 ∧ (StoreI x.2.1 x.2.2 ∧ StoreN x.2.1 x.2.2))
    (fun rec a ha => by
      obtain ⟨c5, z1, z2, S, D, i⟩ := a
      obtain ⟨h5, hS, k, hk, hk10⟩ := ha
      simp only at h5 hS hk
      subst hk
      by_cases k0 : k = 0
      · left
        subst k0
        exact ⟨.inl (c5, z1, z2, S, D), by simp [spec_l12Store.l0], h5, hS⟩
      have e0 : (k : Int) > 0 := by omega
      have hw : w64 ((k : Int) - 1) = ((k - 1 : Nat) : Int) := by rw [w64_id (by omega) (by omega)]; omega
      simp only [spec_l12Store.l0, e0, decide_true, cond_true]
      cases d0 : ((S.1.2.length : Int) == 0)
      rotate_left
      · left
        simp only [cond_true, Option.bind_some, caseS_r]
        exact ⟨_, rfl, h5, hS⟩
      right
      obtain ⟨o, c6, e6, h6⟩ := l1Once_ok h5 6
      simp only [cond_false, e6, Option.bind_some]
      cases o
      · obtain ⟨l, c7, e7, hl, _, h7⟩ := l12Puts_ok h6
        obtain ⟨S', D', q, e8, h8⟩ := spec_Commit_inv2 hS.1 hS.2 l hl
        simp only [cond_false, e7, e8, Option.bind_some, caseS_l, hw]
        exact ⟨(c7, z1, z2, S', D', ((k - 1 : Nat) : Int)), ⟨h7, h8, k - 1, rfl, by omega⟩, by simp only [Int.toNat_natCast]; omega, rfl⟩
      · obtain ⟨S', D', q, e8, h8⟩ := spec_Merge_inv2 hS.1 hS.2
        simp only [cond_true, e8, Option.bind_some, caseS_l, hw]
        exact ⟨(c6, z1, z2, S', D', ((k - 1 : Nat) : Int)), ⟨h6, h8, k - 1, rfl, by omega⟩, by simp only [Int.toNat_natCast]; omega, rfl⟩)
    ⟨h4, h3, m, rfl, by omega⟩ (by simp only [Int.toNat_natCast]; omega)
  obtain ⟨b, eb, hb⟩ := key
  unfold spec_l12Store.f
  simp only [e1, e2, e3, e4, Option.bind_some, eb]
  cases b with
  | inl x => simp only [caseS_l]; exact ⟨_, _, _, rfl, hb.2, hb.1⟩
  | inr x => simp only [caseS_r]; exact ⟨_, _, _, rfl, hb.2, hb.1⟩

theorem entOk_congr {d d' : DiskT} {b : Int} {e : EntryT} (hf : fileText d' (segName e.2.1) = fileText d (segName e.2.1)) : entOk d' b e = entOk d b e := by
  unfold entOk; rw [hf]

theorem scan_nil : scan [] = ([], 0) := by
  have := scanAt_end (s := [])
  exact this

theorem segsOk_more {d d' : DiskT} {z : Int} {m : Int} (hm : fileText d' (segName m) = ([], true)) : ∀ (ids : List Int), (∀ id ∈ ids, fileText d' (segName id) = fileText d (segName id)) → segsOk d z ids = true → segsOk d' 0 (ids ++ [m]) = true
  | [], _, _ => by
    show (segOk d' 0 true m && true) = true
    unfold segOk
    rw [hm]
    simp only [scan_nil]
    simp
  | x :: l, hf, h => by
    unfold segsOk at h
    simp only [Bool.and_eq_true] at h
    have ih := segsOk_more hm l (fun id hi => hf id (List.mem_cons_of_mem _ hi)) h.2
    rw [List.cons_append]
    unfold segsOk
    rw [ih, Bool.and_true]
    have hx := h.1
    unfold segOk at hx ⊢
    rw [hf x List.mem_cons_self]
    simp only [Bool.and_eq_true] at hx ⊢
    refine ⟨hx.1, hx.2.1, ?_⟩
    have : (l ++ [m]).isEmpty = false := by cases l <;> rfl
    rw [this]; rfl

theorem rotP_new {s : StoreT} {d : DiskT} (h : diskOk d = true) (hc : (rotP s d).2.2 = 0) : (rotP s d).1 = ((s.1.1 + 1, s.1.2 ++ [s.1.1]), s.2.1, s.2.2.1, 0, s.2.2.2.2) ∧ fileText (rotP s d).2.1 (segName s.1.1) = ([], true) ∧ s.1.2.length < 60 ∧ s.1.1 < 100000 := by
  have hs := dk_Sync h (actN s)
  have hg := dk_Gone hs (segName s.1.1)
  have hd : diskOk (sstep (dCreate (segName s.1.1)) (dGone (segName s.1.1) (dSync (actN s) d).1)).1 = true := dk_sstep (op := dCreate _) hg fun k => dk_Create k _
  unfold rotP at hc ⊢
  split at hc
  · exact absurd hc (show ¬ (5 : Int) = 0 by decide)
  rename_i c1
  split at hc
  · rename_i c2; exact absurd ((told_zero _).1 hc) c2
  rename_i c2
  simp only at hc
  split at hc
  · rename_i c3; exact absurd ((told_zero _).1 hc) c3
  rename_i c3
  split at hc
  · rename_i c4
    exfalso
    revert hc
    unfold cleanW
    simp only
    split
    · split
      · simp
      · rename_i c5; exact c5
    · exact c4
  rename_i c4
  rw [if_neg c1, if_neg c2]
  simp only
  rw [if_neg c3, if_neg c4]
  simp only [not_or, Nat.not_le, Int.not_le] at c1
  refine ⟨rfl, ?_, c1.1, c1.2⟩
  have c3 : (sstep (dCreate (segName s.1.1)) (dGone (segName s.1.1) (dSync (actN s) d).1)).2 = 0 := by simpa using c3
  show fileText (sPut _ _).1 _ = _
  rw [ft_sPut (w := ((sstep (dCreate (segName s.1.1)) (dGone (segName s.1.1) (dSync (actN s) d).1)).1, 0)) hd _ (segName_temp _) (segName_live _)]
  show fileText (sstep (dCreate (segName s.1.1)) (dGone (segName s.1.1) (dSync (actN s) d).1)).1 _ = _
  generalize dGone (segName s.1.1) (dSync (actN s) d).1 = g at *
  obtain ⟨x, k⟩ := g
  by_cases hk : k = 0
  · subst hk
    rw [sstep_z] at c3 ⊢
    exact createTxt c3
  · rw [sstep_ne hk] at c3; exact absurd c3 hk

/-- The texts of the entries' segments, and of the listed ones, stay. -/
theorem rotP_seen {s : StoreT} {d : DiskT} (hk : storeOk s d = true) (hx : ∀ e ∈ s.2.1, e.2.1 ≠ s.1.1) : (∀ e ∈ s.2.1, fileText (rotP s d).2.1 (segName e.2.1) = fileText d (segName e.2.1)) ∧ ∀ id ∈ s.1.2, fileText (rotP s d).2.1 (segName id) = fileText d (segName id) := by
  obtain ⟨q1, q2, q3, q4, q5⟩ := storeOk_parts hk
  obtain ⟨k1, k2, k3, k4⟩ := (liveOk_iff s.1).1 q2
  rw [w64_id (by omega) (by omega)] at k1
  have key : ∀ i : Int, 1 ≤ i ∧ i ≤ 100000 → i ≠ s.1.1 → fileText (rotP s d).2.1 (segName i) = fileText d (segName i) := fun i hi hne => by
    rcases rotP_ft (s := s) q1 with ⟨_, e2⟩ | ⟨_, _, e2⟩
    · exact e2 _
    · exact e2 _ (fun hh => hne (segName_inj hi (by omega) hh)) (segName_temp i) (segName_live i)
  refine ⟨fun e he => key _ ?_ (hx e he), fun id hi => key _ ?_ ?_⟩
  · have := (dirOk_mem q3).2 e he
    unfold entryOk at this
    simp only [Bool.and_eq_true, decide_eq_true_eq] at this
    exact this.2.1
  · have := idsOk_mem _ _ k1 id hi; omega
  · have := idsOk_mem _ _ k1 id hi; omega

theorem rotP_right {s : StoreT} {d : DiskT} (hk : storeOk s d = true) (hx : ∀ e ∈ s.2.1, e.2.1 ≠ s.1.1) (hc : (rotP s d).2.2 = 0) : storeOk (rotP s d).1 (rotP s d).2.1 = true ∧ segN (rotP s d).2.1 ((rotP s d).1.1.2.take 60) = segN d (s.1.2.take 60) := by
  obtain ⟨q1, q2, q3, q4, q5⟩ := storeOk_parts hk
  obtain ⟨k1, k2, k3, k4⟩ := (liveOk_iff s.1).1 q2
  obtain ⟨r1, r2, r3, r4, r5, r6⟩ := rotP_ok q1 q2
  obtain ⟨f1, f2⟩ := rotP_seen hk hx
  obtain ⟨e1, e2, e3, e4⟩ := rotP_new q1 hc
  have hent := storeOk_ent hk
  constructor
  · unfold storeOk
    have h5 := segsOk_more (d := d) (z := s.2.2.2.1) e2 s.1.2 f2 q5
    rw [e1] at *
    simp only [Bool.and_eq_true, decide_eq_true_eq, List.all_eq_true]
    refine ⟨r1, liveOk_more q2 e3 e4, q3, q4, h5, fun e he => ?_⟩
    rw [entOk_congr (f1 e he)]
    exact hent e he
  · rw [e1]
    simp only
    have t1 : s.1.2.take 60 = s.1.2 := List.take_of_length_le (by omega)
    have t2 : (s.1.2 ++ [s.1.1]).take 60 = s.1.2 ++ [s.1.1] := List.take_of_length_le (by simp; omega)
    rw [t1, t2]
    unfold segN
    rw [sumN_snoc]
    simp only [e2, List.length_nil, Nat.add_zero]
    generalize s.1.2 = l at f2
    induction l with
    | nil => rfl
    | cons x l ih =>
      simp only [sumN]
      rw [f2 x List.mem_cons_self, ih fun id hi => f2 id (List.mem_cons_of_mem _ hi)]

theorem frame_eq {t : List UInt8} (h : t.length ≤ 200) : frame t = fix4 (crcT (varT (t.length : Int) ++ t)) ++ (varN t.length ++ t) ∧ (fix4 (crcT (varT (t.length : Int) ++ t))).length = 4 := by
  unfold frame
  rw [if_neg (by omega), varT_nat t.length (by omega)]
  exact ⟨rfl, fix4_len4 (crcT_range _)⟩

theorem unframe_back {t : List UInt8} (h : t.length ≤ 200) (r : List UInt8) : unframe (frame t ++ r) = (t, ((frame t).length : Int)) := by
  obtain ⟨e, h4⟩ := frame_eq h
  have hb := rvT_back 7 true t.length (t ++ r) (by omega) (by simp) (by omega)
  generalize hC : fix4 (crcT (varT (t.length : Int) ++ t)) = C at *
  have hl : (frame t).length = 4 + (varN t.length).length + t.length := by rw [e]; simp only [List.length_append, h4]; omega
  have e1 : (frame t ++ r).drop 4 = varN t.length ++ (t ++ r) := by
    rw [e, List.append_assoc, ← h4, List.drop_left, List.append_assoc]
  have e2 : (frame t ++ r).take (4 + (varN t.length).length + t.length) = frame t := by rw [← hl, List.take_left]
  have e3 : (frame t).drop (4 + (varN t.length).length) = t := by
    rw [e, show C ++ (varN t.length ++ t) = (C ++ varN t.length) ++ t by rw [List.append_assoc], show 4 + (varN t.length).length = (C ++ varN t.length).length by rw [List.length_append, h4], List.drop_left]
  unfold unframe
  rw [if_neg (by rw [List.length_append]; omega), e1, hb]
  simp only
  rw [if_neg (by rw [List.length_append]; omega), e2, e3, if_pos rfl, hl]

theorem unframe_some {s : List UInt8} (h : (unframe s).2 ≠ 0) : ∃ t r, s = frame t ++ r ∧ t.length ≤ 200 ∧ unframe s = (t, ((frame t).length : Int)) := by
  have key : ∃ t r, s = frame t ++ r ∧ t.length ≤ 200 := by
    unfold unframe at h
    split at h
    · exact absurd rfl h
    split at h
    · exact absurd rfl h
    rename_i n k hr
    split at h
    · exact absurd rfl h
    rename_i c
    split at h
    · rename_i c2
      refine ⟨_, s.drop (4 + k + n), by rw [c2, List.take_append_drop], ?_⟩
      rw [List.length_drop, List.length_take]; omega
    · exact absurd rfl h
  obtain ⟨t, r, e, hl⟩ := key
  exact ⟨t, r, e, hl, by rw [e]; exact unframe_back hl r⟩

theorem frame_pos {t : List UInt8} (h : t.length ≤ 200) : 5 ≤ (frame t).length := by
  obtain ⟨e, h4⟩ := frame_eq h
  have := (varN_len 6 t.length (by omega)).1
  rw [e]; simp only [List.length_append, h4]; omega

theorem isRec_inj {s : List UInt8} {r q : RecT} (h : isRec s r) (k : isRec s q) : r = q := by
  have a := impl_ReadRec_back h
  rw [impl_ReadRec_back k] at a
  simp only [Option.some.injEq, Prod.mk.injEq, and_true] at a
  exact a.symm

theorem readRec_back {r : RecT} (h : recOk r = true) : readRec (showRec r) = (r, true) := by
  rcases readRec_cases (showRec r) with ⟨_, e⟩ | ⟨q, e, hq⟩
  · exact absurd ⟨r, h, rfl⟩ e
  · rw [e, isRec_inj hq ⟨h, rfl⟩]

def fr (r : RecT) : List UInt8 := frame (showRec r)

def txt (rs : List RecT) : List UInt8 := (rs.map fr).flatten

theorem fr_len (r : RecT) : 5 ≤ (fr r).length ∧ (fr r).length ≤ 71 := by
  have h := showRec_len r
  refine ⟨frame_pos (by omega), ?_⟩
  obtain ⟨e, h4⟩ := frame_eq (t := showRec r) (by omega)
  have := (varN_len 0 (showRec r).length (by omega)).2
  unfold fr
  rw [e]; simp only [List.length_append, h4]; omega

theorem txt_cons (r : RecT) (rs : List RecT) : txt (r :: rs) = fr r ++ txt rs := rfl

theorem txt_snoc (rs : List RecT) (r : RecT) : txt (rs ++ [r]) = txt rs ++ fr r := by unfold txt; simp

theorem scanAt_txt : ∀ (rs : List RecT) (p : List UInt8), (∀ r ∈ rs, recOk r = true) → (scanAt (p ++ txt rs) p.length).2 = p.length + (txt rs).length
  | [], p, _ => by
    have : p ++ txt [] = p := by simp [txt]
    rw [this, scanAt_end]; simp [txt]
  | r :: rs, p, h => by
    have hs := showRec_len r
    have hb := unframe_back (t := showRec r) (by omega) (txt rs)
    have hd : (p ++ txt (r :: rs)).drop p.length = frame (showRec r) ++ txt rs := by rw [List.drop_left]; rfl
    have hl := fr_len r
    rw [scanAt_step (n := (fr r).length) (by rw [hd, hb]; rfl) hl.1 (by rw [txt_cons]; simp only [List.length_append]; omega) (by rw [hd, hb]; simp only; rw [readRec_back (h r List.mem_cons_self)])]
    have ih := scanAt_txt rs (p ++ fr r) (fun x hx => h x (List.mem_cons_of_mem _ hx))
    rw [List.append_assoc, List.length_append] at ih
    show (scanAt (p ++ (fr r ++ txt rs)) (p.length + (fr r).length)).2 = _
    rw [ih, txt_cons, List.length_append]; omega

theorem scan_txt {rs : List RecT} (h : ∀ r ∈ rs, recOk r = true) : (scan (txt rs)).2 = (txt rs).length := by
  have := scanAt_txt rs [] h
  simpa [scan] using this

theorem scanAt_whole : ∀ (k : Nat) (s : List UInt8) (a : Nat), a ≤ s.length → s.length - a = k → (scanAt s a).2 = s.length → ∃ rs : List RecT, (∀ r ∈ rs, recOk r = true) ∧ s.drop a = txt rs := by
  intro k
  induction k using Nat.strongRecOn with
  | ind k ih =>
    intro s a ha hk hw
    by_cases c : (unframe (s.drop a)).2 = 0 ∨ (readRec (unframe (s.drop a)).1).2 = false
    · rw [scanAt_stop ha c] at hw
      have hw : a = s.length := hw
      exact ⟨[], by simp, by rw [hw, List.drop_length]; rfl⟩
    · have c1 : (unframe (s.drop a)).2 ≠ 0 := fun e => c (.inl e)
      have hr : (readRec (unframe (s.drop a)).1).2 = true := by
        cases e : (readRec (unframe (s.drop a)).1).2 with
        | true => rfl
        | false => exact absurd (.inr e) c
      obtain ⟨t, r, e1, e2, e3⟩ := unframe_some c1
      have h5 := frame_pos e2
      have hlen : a + (frame t).length ≤ s.length := by
        have : (s.drop a).length = (frame t ++ r).length := by rw [← e1]
        rw [List.length_drop, List.length_append] at this; omega
      rw [scanAt_step (n := (frame t).length) (by rw [e3]) h5 hlen hr] at hw
      obtain ⟨rs, g1, g2⟩ := ih (s.length - (a + (frame t).length)) (by omega) s (a + (frame t).length) hlen rfl hw
      have hd : s.drop (a + (frame t).length) = r := by rw [← List.drop_drop, e1, List.drop_left]
      rw [e3] at hr
      rcases readRec_cases t with ⟨z, _⟩ | ⟨q, z, hq⟩
      · rw [z] at hr; simp at hr
      · refine ⟨q :: rs, ?_, ?_⟩
        · intro x hx
          rcases List.mem_cons.1 hx with rfl | hx
          · exact hq.1
          · exact g1 x hx
        · rw [e1, txt_cons, ← g2, hd]
          show _ = frame (showRec q) ++ r
          rw [hq.2]

/-- A text that is whole: frames of records, one behind another. -/
def whole (s : List UInt8) : Prop := (scan s).2 = s.length

theorem whole_iff (s : List UInt8) : whole s ↔ ∃ rs : List RecT, (∀ r ∈ rs, recOk r = true) ∧ s = txt rs := by
  constructor
  · intro h
    obtain ⟨rs, h1, h2⟩ := scanAt_whole s.length s 0 (Nat.zero_le _) rfl h
    exact ⟨rs, h1, by simpa using h2⟩
  · rintro ⟨rs, h1, rfl⟩
    exact scan_txt h1

theorem whole_snoc {s : List UInt8} {r : RecT} (h : whole s) (hr : recOk r = true) : whole (s ++ fr r) := by
  obtain ⟨rs, h1, rfl⟩ := (whole_iff s).1 h
  refine (whole_iff _).2 ⟨rs ++ [r], ?_, (txt_snoc rs r).symm⟩
  intro x hx
  rcases List.mem_append.1 hx with hx | hx
  · exact h1 x hx
  · rw [List.mem_singleton.1 hx]; exact hr

theorem recAt_more {s : List UInt8} {a n : Int} (t : List UInt8) (h : (recAt s a n).2 = true) : recAt (s ++ t) a n = recAt s a n := by
  unfold recAt at h ⊢
  split at h
  · rename_i c
    rw [if_pos c, if_pos (show 0 ≤ a ∧ a ≤ ((s ++ t).length : Int) ∧ 1 ≤ n ∧ n ≤ ((s ++ t).length : Int) - a by rw [List.length_append]; omega)]
    rw [show (s ++ t).take (a + n).toNat = s.take (a + n).toNat from List.take_append_of_le_length (by omega)]
  · simp at h

theorem recAt_new (s : List UInt8) {r : RecT} (h : recOk r = true) : recAt (s ++ fr r) (s.length : Int) ((fr r).length : Int) = (r, true) := by
  have hl := fr_len r
  have hs := showRec_len r
  unfold recAt
  rw [if_pos (by rw [List.length_append]; omega)]
  have e1 : ((s.length : Int) + ((fr r).length : Int)).toNat = (s ++ fr r).length := by rw [List.length_append]; omega
  rw [e1, List.take_length, Int.toNat_natCast, List.drop_left]
  have hb := unframe_back (t := showRec r) (by omega) []
  rw [List.append_nil] at hb
  rw [show unframe (fr r) = _ from hb]
  show (if ((fr r).length : Int) = ((fr r).length : Int) then readRec (showRec r) else _) = _
  rw [if_pos rfl]
  exact readRec_back h

theorem lastI_one (x : Int) : lastI [x] = x := rfl

theorem lastI_cons (x y : Int) (l : List Int) : lastI (x :: y :: l) = lastI (y :: l) := by
  unfold lastI
  simp only [List.length_cons, Nat.add_sub_cancel]
  rfl

theorem lastI_mem : ∀ {l : List Int}, l ≠ [] → lastI l ∈ l
  | [], h => absurd rfl h
  | [x], _ => by simp [lastI_one]
  | x :: y :: l, _ => by rw [lastI_cons]; exact List.mem_cons_of_mem _ (lastI_mem (by simp))

theorem segsOk_iff {d : DiskT} {z : Int} : ∀ (ids : List Int), segsOk d z ids = true ↔ (∀ id ∈ ids, (fileText d (segName id)).2 = true ∧ whole (fileText d (segName id)).1) ∧ (ids ≠ [] → z = ((fileText d (segName (lastI ids))).1.length : Int))
  | [] => by simp [segsOk]
  | [x] => by
    unfold segsOk segOk segsOk whole
    simp only [List.isEmpty_nil, Bool.not_true, Bool.false_or, Bool.and_true, Bool.and_eq_true, decide_eq_true_eq, List.mem_singleton, forall_eq, lastI_one]
    constructor
    · rintro ⟨h1, h2, h3⟩; exact ⟨⟨h1, h2⟩, fun _ => h3⟩
    · rintro ⟨⟨h1, h2⟩, h3⟩; exact ⟨h1, h2, h3 (by simp)⟩
  | x :: y :: l => by
    have ih := segsOk_iff (d := d) (z := z) (y :: l)
    unfold segsOk segOk
    rw [Bool.and_eq_true, ih]
    simp only [List.isEmpty_cons, Bool.not_false, Bool.true_or, Bool.and_true, Bool.and_eq_true, decide_eq_true_eq, lastI_cons]
    constructor
    · rintro ⟨⟨h1, h2⟩, h3, h4⟩
      refine ⟨fun id hid => ?_, fun _ => h4 (by simp)⟩
      rcases List.mem_cons.1 hid with rfl | hid
      · exact ⟨h1, h2⟩
      · exact h3 id hid
    · rintro ⟨h3, h4⟩
      exact ⟨h3 x List.mem_cons_self, fun id hid => h3 id (List.mem_cons_of_mem _ hid), fun _ => h4 (by simp)⟩

/-- What stands where an entry points to. -/
noncomputable def entAt (d : DiskT) (e : EntryT) : RecT × Bool := recAt (fileText d (segName e.2.1)).1 e.2.2.1 e.2.2.2.1

theorem entOk_iff {d : DiskT} {b : Int} {e : EntryT} : entOk d b e = true ↔ (entAt d e).2 = true ∧ ((entAt d e).1.1 = 1 ∨ (entAt d e).1.1 = 4) ∧ (entAt d e).1.2.2.1 = e.1 ∧ (entAt d e).1.2.1 = e.2.2.2.2 ∧ e.2.2.2.2 < b := by
  unfold entOk entAt
  simp only [Bool.and_eq_true, Bool.or_eq_true, beq_iff_eq, Bool.not_eq_true', decide_eq_false_iff_not, ge_iff_le, Int.not_le]

/-- What entries of segments that there were point to, stays. -/
def Keeps (m : Int) (d d' : DiskT) : Prop := ∀ e : EntryT, 1 ≤ e.2.1 → e.2.1 < m → (entAt d e).2 = true → entAt d' e = entAt d e

theorem Keeps.trans {m m' : Int} {d d' d'' : DiskT} (h : Keeps m d d') (h' : Keeps m' d' d'') (hm : m ≤ m') : Keeps m d d'' := fun e h1 h2 h3 => by
  have k := h e h1 h2 h3
  rw [h' e h1 (by omega) (by rw [k]; exact h3), k]

def EntLt (s : StoreT) : Prop := ∀ e ∈ s.2.1, e.2.1 < s.1.1

theorem storeOk_iff {s : StoreT} {d : DiskT} : storeOk s d = true ↔ diskOk d = true ∧ liveOk s.1 = true ∧ dirOk s.2.1 = true ∧ (1 ≤ s.2.2.1 ∧ s.2.2.1 ≤ 1000001) ∧ segsOk d s.2.2.2.1 s.1.2 = true ∧ ∀ e ∈ s.2.1, entOk d s.2.2.1 e = true := by
  unfold storeOk
  simp only [Bool.and_eq_true, decide_eq_true_eq, List.all_eq_true]

theorem dir_seg {l : List EntryT} (h : dirOk l = true) {e : EntryT} (he : e ∈ l) : 1 ≤ e.2.1 ∧ e.2.1 ≤ 100000 := by
  have := (dirOk_mem h).2 e he
  unfold entryOk at this
  simp only [Bool.and_eq_true, decide_eq_true_eq] at this
  exact this.2.1

/-- The entries hold on, where what they point to stays. -/
theorem ents_keep {s : StoreT} {d d' : DiskT} {m b' : Int} (h : storeOk s d = true) (hk : Keeps m d d') (hm : ∀ e ∈ s.2.1, e.2.1 < m) (hb : s.2.2.1 ≤ b') : ∀ e ∈ s.2.1, entOk d' b' e = true := fun e he => by
  obtain ⟨q1, q2, q3, q4, q5, q6⟩ := storeOk_iff.1 h
  have k := entOk_iff.1 (q6 e he)
  have := hk e (dir_seg q3 he).1 (hm e he) k.1
  rw [entOk_iff, this]
  exact ⟨k.1, k.2.1, k.2.2.1, k.2.2.2.1, by omega⟩

theorem rotP_keeps {s : StoreT} {d : DiskT} (hk : diskOk d = true) (hm : s.1.1 ≤ 100000) : Keeps s.1.1 d (rotP s d).2.1 := fun e h1 h2 h3 => by
  unfold entAt
  rcases rotP_ft (s := s) hk with ⟨_, e2⟩ | ⟨_, _, e2⟩
  · rw [e2]
  · rw [e2 _ (fun hh => by have := segName_inj (by omega) (by omega) hh; omega) (segName_temp _) (segName_live _)]

/-- One record more in the last segment. -/
theorem app_right {s : StoreT} {d : DiskT} {r : RecT} (h : storeOk s d = true) (hr : recOk r = true) (hc : (dAppend (actN s) (fr r) d).2 = 0) :
    storeOk (s.1, s.2.1, s.2.2.1, s.2.2.2.1 + ((fr r).length : Int), s.2.2.2.2) (dAppend (actN s) (fr r) d).1 = true ∧ Keeps 100001 d (dAppend (actN s) (fr r) d).1 ∧
    ∀ k b, entAt (dAppend (actN s) (fr r) d).1 (k, lastI s.1.2, s.2.2.2.1, ((fr r).length : Int), b) = (r, true) := by
  obtain ⟨q1, q2, q3, q4, q5, q6⟩ := storeOk_iff.1 h
  obtain ⟨k1, k2, k3, k4⟩ := (liveOk_iff s.1).1 q2
  rw [w64_id (by omega) (by omega)] at k1
  obtain ⟨g1, g2⟩ := (segsOk_iff _).1 q5
  have hne : s.1.2 ≠ [] := live_ne q2
  have g2 := g2 hne
  obtain ⟨a1, a2⟩ := appendTxt hc
  have hl := live_last q2
  have a2 : fileText (dAppend (actN s) (fr r) d).1 (segName (lastI s.1.2)) = ((fileText d (segName (lastI s.1.2))).1 ++ fr r, true) := a2
  have hoth : ∀ id, 1 ≤ id ∧ id ≤ 100000 → id ≠ lastI s.1.2 → fileText (dAppend (actN s) (fr r) d).1 (segName id) = fileText d (segName id) := fun id h1 h2 =>
    ft_Append q1 (fun hh => h2 (segName_inj h1 ⟨hl.1, hl.2.2⟩ hh))
  have hkeep : Keeps 100001 d (dAppend (actN s) (fr r) d).1 := fun e h1 h2 h3 => by
    unfold entAt at h3 ⊢
    by_cases c : e.2.1 = lastI s.1.2
    · rw [c] at h3 ⊢; rw [a2]; exact recAt_more _ h3
    · rw [hoth _ ⟨h1, by omega⟩ c]
  have hents : ∀ e ∈ s.2.1, entOk (dAppend (actN s) (fr r) d).1 s.2.2.1 e = true := ents_keep h hkeep (fun e he => by have := dir_seg q3 he; omega) (Int.le_refl _)
  refine ⟨storeOk_iff.2 ⟨dk_Append q1 _ _, q2, q3, q4, ?_, hents⟩, hkeep, fun k b => ?_⟩
  · refine (segsOk_iff _).2 ⟨fun id hid => ?_, fun _ => ?_⟩
    · have hm := idsOk_mem _ _ k1 id hid
      by_cases c : id = lastI s.1.2
      · rw [c, a2]; exact ⟨rfl, whole_snoc (g1 _ (lastI_mem hne)).2 hr⟩
      · rw [hoth id (by omega) c]; exact g1 id hid
    · show s.2.2.2.1 + _ = _
      rw [a2, g2]; simp
  · unfold entAt
    show recAt (fileText _ (segName (lastI s.1.2))).1 s.2.2.2.1 _ = _
    rw [a2, g2]
    exact recAt_new _ hr

/-- What a written record's entry says. -/
structure NewOk (d : DiskT) (m : Int) (r : RecT) (e : EntryT) : Prop where
  key : e.1 = r.2.2.1
  at_ : entAt d e = (r, true)
  seg : 1 ≤ e.2.1 ∧ e.2.1 < m ∧ e.2.1 ≤ 100000
  off : 0 ≤ e.2.2.1
  len : 1 ≤ e.2.2.2.1 ∧ e.2.2.2.1 ≤ 210
  bat : e.2.2.2.2 = r.2.1

theorem NewOk.keep {d d' : DiskT} {m m' : Int} {r : RecT} {e : EntryT} (h : NewOk d m r e) (hk : Keeps m d d') (hm : m ≤ m') : NewOk d' m' r e :=
  ⟨h.key, by rw [hk e h.seg.1 h.seg.2.1 (by rw [h.at_]), h.at_], ⟨h.seg.1, by have := h.seg.2.1; omega, h.seg.2.2⟩, h.off, h.len, h.bat⟩

structure AddOk (s : StoreT) (d : DiskT) (s' : StoreT) (d' : DiskT) : Prop where
  ok : storeOk s' d' = true
  dir : s'.2.1 = s.2.1
  bat : s'.2.2.1 = s.2.2.1
  nxt : s.1.1 ≤ s'.1.1
  kp : Keeps s.1.1 d d'

theorem AddOk.lt {s : StoreT} {d : DiskT} {s' : StoreT} {d' : DiskT} (h : AddOk s d s' d') (hl : EntLt s) : EntLt s' := fun e he => by
  rw [h.dir] at he
  have := hl e he
  have := h.nxt
  omega

theorem AddOk.trans {s : StoreT} {d : DiskT} {s' : StoreT} {d' : DiskT} {s'' : StoreT} {d'' : DiskT} (h : AddOk s d s' d') (k : AddOk s' d' s'' d'') : AddOk s d s'' d'' :=
  ⟨k.ok, by rw [k.dir, h.dir], by rw [k.bat, h.bat], by have := h.nxt; have := k.nxt; omega, h.kp.trans k.kp h.nxt⟩

theorem addR_right {s : StoreT} {d : DiskT} (t : List UInt8) (h : storeOk s d = true) (hl : EntLt s) (hc : (addR s d t).2.2 = 0) : AddOk s d (addR s d t).1 (addR s d t).2.1 := by
  obtain ⟨q1, q2, q3, q4, q5, q6⟩ := storeOk_iff.1 h
  have k := (liveOk_iff s.1).1 q2
  unfold addR at hc ⊢
  split
  · rename_i c
    rw [if_pos c] at hc
    obtain ⟨r1, r2, r3, r4, r5, r6⟩ := rotP_ok q1 q2
    have hr := rotP_right h (fun e he => by have := hl e he; omega) hc
    have hn := rotP_new q1 hc
    exact ⟨hr.1, r3, r4, by rw [hn.1]; show s.1.1 ≤ s.1.1 + 1; omega, rotP_keeps q1 k.2.1.2⟩
  · exact ⟨h, rfl, rfl, Int.le_refl _, fun e _ _ _ => rfl⟩

theorem addP_right {s : StoreT} {d : DiskT} {r : RecT} (h : storeOk s d = true) (hl : EntLt s) (hr : recOk r = true) (hc : (addP s d r).2.2.1 = 0) :
    AddOk s d (addP s d r).1 (addP s d r).2.1 ∧ NewOk (addP s d r).2.1 (addP s d r).1.1.1 r (addP s d r).2.2.2 := by
  have hR := addR_right (frame (showRec r)) h hl
  have hf := fr_len r
  unfold addP at hc ⊢
  generalize addR s d (frame (showRec r)) = R at *
  simp only at hc ⊢
  by_cases c : R.2.2 = 0
  rotate_left
  · rw [if_pos c] at hc; exact absurd hc c
  rw [if_neg (by simpa using c)] at hc ⊢
  have hR := hR c
  have hA := app_right hR.ok hr
  by_cases c2 : (dAppend (actN R.1) (frame (showRec r)) R.2.1).2 = 0
  rotate_left
  · rw [if_pos c2] at hc; exact absurd ((told_zero _).1 hc) c2
  rw [if_neg (by simpa using c2)]
  obtain ⟨a1, a2, a3⟩ := hA c2
  obtain ⟨q1, q2, q3, q4, q5, q6⟩ := storeOk_iff.1 hR.ok
  have k := (liveOk_iff _).1 q2
  have hll := live_last q2
  have hg := storeOk_good hR.ok
  exact ⟨hR.trans ⟨a1, rfl, rfl, Int.le_refl _, fun e h1 h2 h3 => a2 e h1 (by omega) h3⟩, ⟨rfl, a3 _ _, ⟨hll.1, hll.2.1, hll.2.2⟩, hg.s0, by show 1 ≤ ((fr r).length : Int) ∧ ((fr r).length : Int) ≤ 210; omega, rfl⟩⟩

theorem commitG_right : ∀ (rs : List RecT) (s : StoreT) (d : DiskT), storeOk s d = true → EntLt s → (∀ r ∈ rs, recOk r = true) → (commitG rs s d).2.2.1 = 0 →
    AddOk s d (commitG rs s d).1 (commitG rs s d).2.1 ∧ (commitG rs s d).2.2.2.length = rs.length ∧ ∀ p ∈ rs.zip (commitG rs s d).2.2.2, NewOk (commitG rs s d).2.1 (commitG rs s d).1.1.1 p.1 p.2
  | [], s, d, h, hl, _, _ => ⟨⟨h, rfl, rfl, Int.le_refl _, fun _ _ _ _ => rfl⟩, rfl, fun p hp => by simp at hp⟩
  | r :: rs, s, d, h, hl, hr, hc => by
    have hA := addP_right h hl (hr r List.mem_cons_self)
    unfold commitG at hc ⊢
    by_cases c : (addP s d r).2.2.1 = 0
    rotate_left
    · rw [if_pos c] at hc; exact absurd hc c
    rw [if_neg (by simpa using c)] at hc ⊢
    obtain ⟨a1, a2⟩ := hA c
    obtain ⟨b1, b2, b3⟩ := commitG_right rs _ _ a1.ok (a1.lt hl) (fun x hx => hr x (List.mem_cons_of_mem _ hx)) hc
    refine ⟨a1.trans b1, by simp [b2], fun p hp => ?_⟩
    simp only [List.zip_cons_cons] at hp
    rcases List.mem_cons.1 hp with rfl | hp
    · exact a2.keep b1.kp b1.nxt
    · exact b3 p hp

def mapG {α β : Type} (g : α → β) (l : List (List UInt8 × α)) : List (List UInt8 × β) := l.map fun x => (x.1, g x.2)

theorem mapG_dropK {α β : Type} (g : α → β) (k : List UInt8) : ∀ l : List (List UInt8 × α), mapG g (dropK l k) = dropK (mapG g l) k
  | [] => rfl
  | x :: l => by
    have ih := mapG_dropK g k l
    unfold mapG dropK at *
    simp only [List.filter_cons, List.map_cons]
    by_cases c : x.1 = k
    · simp only [c, beq_self_eq_true, Bool.not_true, Bool.false_eq_true, if_false]; exact ih
    · have : (x.1 == k) = false := by simpa using c
      simp only [this, Bool.not_false, if_true, List.map_cons]; rw [ih]

theorem mapG_insB {α β : Type} (g : α → β) (p : List UInt8 × α) : ∀ l : List (List UInt8 × α), mapG g (insB l p) = insB (mapG g l) (p.1, g p.2)
  | [] => rfl
  | x :: l => by
    have ih := mapG_insB g p l
    show mapG g (insB (x :: l) p) = insB ((x.1, g x.2) :: mapG g l) (p.1, g p.2)
    rw [insB_cons, insB_cons]
    simp only
    split
    · show (x.1, g x.2) :: mapG g (insB l p) = _
      rw [ih]
    · rfl

/-- The directory's fold, seen through a map. -/
theorem mapG_dirW {β : Type} (g : Int × Int × Int × Int → β) (v : PutT → β) : ∀ (l : List (PutT × EntryT)) (dir : List EntryT), (∀ p ∈ l, p.2.1 = p.1.1 ∧ (p.1.2.1 = false → g p.2.2 = v p.1)) →
    mapG g (dirW dir l) = (l.map (·.1)).foldl (fun a p => if p.2.1 = true then dropK a p.1 else insB (dropK a p.1) (p.1, v p)) (mapG g dir)
  | [], dir, _ => rfl
  | p :: l, dir, h => by
    have ih := mapG_dirW g v l (dirStep dir p) (fun q hq => h q (List.mem_cons_of_mem _ hq))
    obtain ⟨h1, h2⟩ := h p List.mem_cons_self
    show mapG g (dirW (dirStep dir p) l) = (l.map (·.1)).foldl _ _
    rw [ih]
    congr 1
    show mapG g (dirStep dir p) = if p.1.2.1 = true then dropK (mapG g dir) p.1.1 else insB (dropK (mapG g dir) p.1.1) (p.1.1, v p.1)
    unfold dirStep
    by_cases c : p.1.2.1 = true
    · rw [if_pos c, if_pos c, mapG_dropK]
    · rw [if_neg c, if_neg c, mapG_insB, mapG_dropK, h1, h2 (by simpa using c)]

theorem keys_len (dir : List EntryT) (l : List (PutT × EntryT)) (h : ∀ p ∈ l, p.2.1 = p.1.1) : (dirW dir l).length = (dirW dir ((l.map (·.1)).zip ((l.map (·.1)).map bareE))).length := by
  have e1 := mapG_dirW (fun _ => ()) (fun _ => ()) l dir (fun p hp => ⟨h p hp, fun _ => rfl⟩)
  have e2 := mapG_dirW (fun _ => ()) (fun _ => ()) ((l.map (·.1)).zip ((l.map (·.1)).map bareE)) dir (fun p hp => ⟨by
    generalize l.map (·.1) = m at hp
    induction m with
    | nil => simp at hp
    | cons x m ih =>
      simp only [List.map_cons, List.zip_cons_cons] at hp
      rcases List.mem_cons.1 hp with rfl | hp
      · rfl
      · exact ih hp, fun _ => rfl⟩)
  have e3 : ((l.map (·.1)).zip ((l.map (·.1)).map bareE)).map (·.1) = l.map (·.1) := List.map_fst_zip (by simp)
  rw [e3] at e2
  have := congrArg List.length (e1.trans e2.symm)
  simpa [mapG] using this

theorem mem_dirW2 : ∀ (l : List (PutT × EntryT)) (dir : List EntryT) (x : EntryT), x ∈ dirW dir l → x ∈ dir ∨ ∃ p ∈ l, x = p.2 ∧ p.1.2.1 = false
  | [], dir, x, h => .inl h
  | p :: l, dir, x, h => by
    rcases mem_dirW2 l (dirStep dir p) x h with h | ⟨q, hq, e⟩
    · unfold dirStep at h
      split at h
      · exact .inl ((mem_dropK _ _ _).1 h).1
      · rename_i c
        rcases (mem_insB _ _ _).1 h with e | h
        · exact .inr ⟨p, List.mem_cons_self, e, by simpa using c⟩
        · exact .inl ((mem_dropK _ _ _).1 h).1
    · exact .inr ⟨q, List.mem_cons_of_mem _ hq, e⟩

theorem srt_dirW : ∀ (l : List (PutT × EntryT)) {dir : List EntryT}, srt dir → srt (dirW dir l)
  | [], _, h => h
  | p :: l, dir, h => by
    refine srt_dirW l (dir := dirStep dir p) ?_
    unfold dirStep
    split
    · exact srt_dropK h _
    · exact srt_insB _ _ (srt_dropK h _) (fun x hx => ((mem_dropK _ _ _).1 hx).2)

theorem riseE_of : ∀ (l : List EntryT) (p : Option (List UInt8)), srt l → (∀ e ∈ l, entryOk e = true) → (∀ q, p = some q → ∀ x ∈ l, Op.bytesLess q x.1 = true) → riseE p l = true
  | [], _, _, _, _ => rfl
  | e :: l, p, h, ho, hp => by
    have h2 := List.pairwise_cons.1 h
    have ih := riseE_of l (some e.1) h2.2 (fun x hx => ho x (List.mem_cons_of_mem _ hx)) (fun q hq x hx => by
      have hq : e.1 = q := by simpa using hq
      rw [← hq]; exact h2.1 x hx)
    unfold riseE
    rw [ho e List.mem_cons_self, ih]
    cases p with
    | none => rfl
    | some q => simp [hp q rfl e List.mem_cons_self]

theorem dirOk_of {l : List EntryT} (h : srt l) (ho : ∀ e ∈ l, entryOk e = true) (hl : l.length ≤ 20) : dirOk l = true := by
  unfold dirOk
  rw [riseE_of l none h ho (fun q hq => by simp at hq)]
  simpa using hl

/-- What an entry's pair has beside the key. -/
noncomputable def valAt (d : DiskT) (x : Int × Int × Int × Int) : List UInt8 × Int :=
  ((recAt (fileText d (segName x.1)).1 x.2.1 x.2.2.1).1.2.2.2.1, (recAt (fileText d (segName x.1)).1 x.2.1 x.2.2.1).1.2.1)

theorem dump_map {s : StoreT} {d : DiskT} (h : storeOk s d = true) : dumpP s d = (mapG (valAt d) s.2.1, 0) := by
  rw [dumpP_ok h]
  congr 1
  unfold mapG
  refine List.map_congr_left fun e he => ?_
  obtain ⟨q1, q2, q3, q4, q5, q6⟩ := storeOk_iff.1 h
  have k := entOk_iff.1 (q6 e he)
  unfold entAt at k
  unfold getP
  rw [dirGet_mem (dirOk_srt q3) he]
  simp only [Bool.true_eq_false, if_false]
  rw [if_pos ⟨k.1, k.2.1, k.2.2.1⟩]
  rfl

theorem dump_keep {s : StoreT} {d d' : DiskT} {m : Int} (h : storeOk s d = true) (hk : Keeps m d d') (hm : ∀ e ∈ s.2.1, e.2.1 < m) : mapG (valAt d') s.2.1 = mapG (valAt d) s.2.1 := by
  unfold mapG
  refine List.map_congr_left fun e he => ?_
  obtain ⟨q1, q2, q3, q4, q5, q6⟩ := storeOk_iff.1 h
  have k := entOk_iff.1 (q6 e he)
  have := hk e (dir_seg q3 he).1 (hm e he) k.1
  unfold entAt at this
  unfold valAt
  rw [this]

theorem recOf_ok {b : Int} {p : PutT} (hb : 1 ≤ b ∧ b ≤ 1000000) (hp : putOk p = true) : recOk (recOf b p) = true := by
  unfold putOk at hp
  simp only [Bool.and_eq_true, decide_eq_true_eq, Bool.or_eq_true, Bool.not_eq_true', beq_iff_eq] at hp
  obtain ⟨h1, h2, h3⟩ := hp
  have hb0 : (b == 0) = false := by
    have : ¬ b = 0 := by omega
    simpa using this
  unfold recOf
  split
  · rename_i c
    unfold recOk
    simp [h1, hb0]; omega
  · unfold recOk
    simp [h1, h2, hb0]; omega

theorem seal_ok {b c z : Int} (hb : 1 ≤ b ∧ b ≤ 1000000) (hc : 0 ≤ c ∧ c ≤ 8) (hz : 0 ≤ z ∧ z ≤ 4294967295) : recOk (3, b, [], [], c, z) = true := by
  have hb0 : (b == 0) = false := by
    have : ¬ b = 0 := by omega
    simpa using this
  unfold recOk
  simp [hb0]; omega

theorem recsOf_ok {b : Int} {l : List PutT} (hb : 1 ≤ b ∧ b ≤ 1000000) (hl : putsOk l = true) : ∀ r ∈ recsOf b l, recOk r = true := fun r hr => by
  unfold putsOk at hl
  simp only [Bool.and_eq_true, decide_eq_true_eq, List.all_eq_true] at hl
  unfold recsOf at hr
  rcases List.mem_append.1 hr with hr | hr
  · obtain ⟨p, hp, rfl⟩ := List.mem_map.1 hr
    exact recOf_ok hb (hl.2 p hp)
  · rw [List.mem_singleton.1 hr]
    exact seal_ok hb (by have := hl.1; omega) (crcT_range _)

theorem zip_recs {b : Int} : ∀ (l : List PutT) (es : List EntryT) (x : List RecT) (P : RecT → EntryT → Prop), (∀ p ∈ (l.map (recOf b) ++ x).zip es, P p.1 p.2) → ∀ p ∈ l.zip es, P (recOf b p.1) p.2
  | [], es, x, P, _ => fun p hp => by simp at hp
  | a :: l, [], x, P, _ => fun p hp => by simp at hp
  | a :: l, e :: es, x, P, h => fun p hp => by
    simp only [List.map_cons, List.cons_append, List.zip_cons_cons] at h
    rcases List.mem_cons.1 hp with rfl | hp
    · exact h _ List.mem_cons_self
    · exact zip_recs l es x P (fun q hq => h q (List.mem_cons_of_mem _ hq)) p hp

theorem commitP_right {s : StoreT} {d : DiskT} {l : List PutT} (h : storeOk s d = true) (hl : EntLt s) (hp : putsOk l = true) (hb : s.2.2.1 ≤ 1000000) (hk : keysP s.2.1 l ≤ 20) (hc : (commitP s d l).2.2 = 0) :
    storeOk (commitP s d l).1 (commitP s d l).2.1 = true ∧ EntLt (commitP s d l).1 ∧ (dumpP (commitP s d l).1 (commitP s d l).2.1).1 = foldP (dumpP s d).1 l s.2.2.1 ∧ (commitP s d l).1.2.2.1 = s.2.2.1 + 1 ∧ (commitP s d l).1.2.1.length = keysP s.2.1 l := by
  obtain ⟨q1, q2, q3, q4, q5, q6⟩ := storeOk_iff.1 h
  have hents : ∀ e ∈ s.2.1, entOk d (s.2.2.1 + 1) e = true := ents_keep (m := s.1.1) h (fun e _ _ _ => rfl) hl (by omega)
  have h0 : storeOk (s.1, s.2.1, s.2.2.1 + 1, s.2.2.2) d = true := storeOk_iff.2 ⟨q1, q2, q3, by show 1 ≤ s.2.2.1 + 1 ∧ s.2.2.1 + 1 ≤ 1000001; omega, q5, hents⟩
  have hl0 : EntLt (s.1, s.2.1, s.2.2.1 + 1, s.2.2.2) := hl
  have hG := commitG_right (recsOf s.2.2.1 l) _ d h0 hl0 (recsOf_ok ⟨q4.1, hb⟩ hp)
  have hnum := recsOf_len s.2.2.1 l
  unfold commitP at hc ⊢
  generalize commitG (recsOf s.2.2.1 l) (s.1, s.2.1, s.2.2.1 + 1, s.2.2.2) d = g at *
  obtain ⟨S, D, gc, es⟩ := g
  simp only at hc hG ⊢
  by_cases c : gc = 0
  rotate_left
  · rw [if_pos c] at hc; exact absurd hc c
  rw [if_neg (by simpa using c)] at hc ⊢
  obtain ⟨g1, g2, g3⟩ := hG c
  have hdir : S.2.1 = s.2.1 := g1.dir
  have hbat : S.2.2.1 = s.2.2.1 + 1 := g1.bat
  obtain ⟨p1, p2, p3, p4, p5, p6⟩ := storeOk_iff.1 g1.ok
  by_cases c2 : (dSync (actN S) D).2 = 0
  rotate_left
  · rw [if_pos c2] at hc; exact absurd ((told_zero _).1 hc) c2
  rw [if_neg (by simpa using c2)]
  simp only
  have ft : ∀ n, fileText (dSync (actN S) D).1 n = fileText D n := fun n => ft_Sync p1 _ n
  have hea : ∀ e, entAt (dSync (actN S) D).1 e = entAt D e := fun e => by unfold entAt; rw [ft]
  have hva : ∀ x, valAt (dSync (actN S) D).1 x = valAt D x := fun x => by unfold valAt; rw [ft]
  have hes : ∀ p ∈ l.zip es, NewOk D S.1.1 (recOf s.2.2.1 p.1) p.2 := zip_recs l es _ (fun r e => NewOk D S.1.1 r e) (by
    intro p hp; exact g3 p hp)
  have hlen : l.length ≤ es.length := by omega
  have hz : (l.zip es).map (·.1) = l := List.map_fst_zip hlen
  have hkey : ∀ p ∈ l.zip es, p.2.1 = p.1.1 := fun p hp => by
    rw [(hes p hp).key]; unfold recOf; split <;> rfl
  have hkl : (dirW s.2.1 (l.zip es)).length = keysP s.2.1 l := by
    rw [keys_len s.2.1 _ hkey, hz]; rfl
  rw [hdir] at *
  have hput : ∀ p ∈ l.zip es, putOk p.1 = true := fun p hpm => by
    unfold putsOk at hp
    simp only [Bool.and_eq_true, decide_eq_true_eq, List.all_eq_true] at hp
    exact hp.2 _ (List.of_mem_zip hpm).1
  have hnew : ∀ p ∈ l.zip es, p.1.2.1 = false → recOf s.2.2.1 p.1 = (1, s.2.2.1, p.1.1, p.1.2.2, 0, 0) := fun p hpm hd => by
    unfold recOf; rw [if_neg (by rw [hd]; simp)]
  have hold := ents_keep (b' := s.2.2.1 + 1) h g1.kp hl (by omega)
  have hlt : ∀ e ∈ dirW s.2.1 (l.zip es), e.2.1 < S.1.1 := fun e he => by
    rcases mem_dirW2 _ _ _ he with he | ⟨p, hpm, rfl, _⟩
    · have := hl e he; have := g1.nxt; have : s.1.1 ≤ S.1.1 := this; omega
    · exact (hes p hpm).seg.2.1
  have hdirok : dirOk (dirW s.2.1 (l.zip es)) = true := by
    refine dirOk_of (srt_dirW _ (dirOk_srt q3)) (fun e he => ?_) (by rw [hkl]; exact hk)
    rcases mem_dirW2 _ _ _ he with he | ⟨p, hpm, rfl, hd⟩
    · exact (dirOk_mem q3).2 e he
    · have n := hes p hpm
      have ho := hput p hpm
      unfold putOk at ho
      simp only [Bool.and_eq_true] at ho
      unfold entryOk
      rw [hkey p hpm, ho.1, n.bat, hnew p hpm hd]
      have h1 := n.seg
      have h2 := n.off
      have h3 := n.len
      simp only [Bool.true_and, Bool.and_eq_true, decide_eq_true_eq]
      exact ⟨⟨h1.1, h1.2.2⟩, h2, h3, q4.1, hb⟩
  have hent : ∀ e ∈ dirW s.2.1 (l.zip es), entOk (dSync (actN S) D).1 S.2.2.1 e = true := fun e he => by
    rw [entOk_iff, hea, hbat, ← entOk_iff]
    rcases mem_dirW2 _ _ _ he with he | ⟨p, hpm, rfl, hd⟩
    · exact hold e he
    · have n := hes p hpm
      rw [entOk_iff, n.at_, n.bat, hkey p hpm, hnew p hpm hd]
      refine ⟨rfl, .inl rfl, rfl, rfl, ?_⟩
      show s.2.2.1 < s.2.2.1 + 1
      omega
  have hfin : storeOk (S.1, dirW s.2.1 (l.zip es), S.2.2) (dSync (actN S) D).1 = true := storeOk_iff.2 ⟨dk_Sync p1 _, p2, hdirok, p4, by
    refine (segsOk_iff _).2 ?_
    simp only [ft]
    exact (segsOk_iff _).1 p5, hent⟩
  refine ⟨hfin, hlt, ?_, hbat, hkl⟩
  rw [dump_map hfin, dump_map h]
  show mapG (valAt (dSync (actN S) D).1) (dirW s.2.1 (l.zip es)) = foldP (mapG (valAt d) s.2.1) l s.2.2.1
  rw [show mapG (valAt (dSync (actN S) D).1) (dirW s.2.1 (l.zip es)) = mapG (valAt D) (dirW s.2.1 (l.zip es)) by unfold mapG; simp only [hva]]
  rw [mapG_dirW (valAt D) (fun p => (p.2.2, s.2.2.1)) _ _ (fun p hpm => ⟨hkey p hpm, fun hd => by
    have n := (hes p hpm).at_
    unfold entAt at n
    unfold valAt
    rw [n, hnew p hpm hd]⟩), hz, dump_keep h g1.kp hl]
  rfl

/-- A disk with power, so much used, so many files. -/
structure Room (c u f : Nat) (d : DiskT) : Prop where
  dk : diskOk d = true
  tl : d.2 = ((c : Int), -1, false)
  us : usedN d.1 ≤ u
  fl : d.1.length ≤ f

/-- A right store's entries lie in segments that there were. -/
def LtNext (s : StoreT) (d : DiskT) : Prop := storeOk s d = true → EntLt s

theorem ltNext_real {s0 s : StoreT} {d0 d : DiskT} (hn : StoreN s0 d0) (h1 : s.1 = s0.1) (h2 : s.2.1 = s0.2.1) : LtNext s d := fun hk e he => by
  have hne := live_ne (storeOk_parts hk).2.1
  rw [h1] at hne
  have := (hn hne).ent e (by rw [← h2]; exact he)
  rw [h1]; omega

theorem ltNext_dir {s0 s : StoreT} {d : DiskT} (hn : StoreN s0 d) (h1 : s.1 = s0.1) : LtNext s d := fun hk e he => by
  obtain ⟨q1, q2, q3, q4, q5⟩ := storeOk_parts hk
  have hne := live_ne q2
  rw [h1] at hne
  have k := storeOk_ent hk e he
  rcases Int.lt_or_le e.2.1 s.1.1 with hh | hh
  · exact hh
  exfalso
  have hf := (hn hne).fil e.2.1 (by rw [← h1]; exact hh) (dir_seg q3 he)
  have ht : (fileText d (segName e.2.1)).1 = [] := by
    revert hf
    unfold fileText
    split
    · intro _; rfl
    · rcases fileIx_cases d.1 (segName e.2.1) with ⟨e', _⟩ | ⟨i, hi, e', _⟩
      · rw [ix_none e']; intro _; rfl
      · rw [ix_some e']; intro z; simp at z
  unfold entOk at k
  rw [ht, recAt_nil] at k
  simp at k

theorem l12Any_ok3 {c : CurT} (h : Cur c) : ∃ s d c', spec_l12Any.f c = some (s, d, c') ∧ (DrawnS s d ∧ LtNext s d) ∧ Cur c' := by
  obtain ⟨s, d, c1, e1, ⟨hs, hnx⟩, h1⟩ := l12Store_ok2 h
  obtain ⟨x, c2, e2, _, _, _, h2⟩ := l1Below_ok h1 16
  have hdl := dl_dk hs.dk
  have hsm : ∀ y : Int × Int × Bool, dSmall (d.1, y) := fun y => ⟨by have := hdl.1; show d.1.length < _; omega, by have := hdl.2.1; show usedN d.1 < _; omega, fun f hf => by have := hdl.2.2 f hf; omega⟩
  have hI := hs.ids
  have hD := hs.dir
  unfold spec_l12Any.f
  simp only [e1, e2, Option.bind_some]
  cases d0 : (x == 0)
  rotate_left
  · simp only [cond_true]
    exact ⟨_, _, _, rfl, ⟨⟨hsm _, hI, hD⟩, ltNext_real hnx rfl rfl⟩, h2⟩
  cases d1 : (x == 1)
  rotate_left
  · obtain ⟨l, c3, e3, hl, h3⟩ := l8Dir_ok h2
    simp only [cond_true, cond_false, e3, Option.bind_some]
    exact ⟨_, _, _, rfl, ⟨⟨hsm _, hI, hl⟩, ltNext_dir hnx rfl⟩, h3⟩
  cases d2 : (x == 2)
  rotate_left
  · obtain ⟨v, c3, e3, _, h3⟩ := l1PickInt_ok h2 [0, 1000000, 1000001, 1000002, 1] (by decide)
    simp only [cond_true, cond_false, e3, Option.bind_some]
    exact ⟨_, _, _, rfl, ⟨⟨hsm _, hI, hD⟩, ltNext_real hnx rfl rfl⟩, h3⟩
  cases d3 : (x == 3)
  rotate_left
  · obtain ⟨D, c3, e3, hD3, h3⟩ := l3Any_ok h2
    simp only [cond_true, cond_false, e3, Option.bind_some]
    exact ⟨_, _, _, rfl, ⟨⟨hD3, hI, hD⟩, ltNext_real hnx rfl rfl⟩, h3⟩
  obtain ⟨v, c3, e3, _, _, _, h3⟩ := l1Below_ok h2 12
  simp only [cond_false]
  cases d4 : (x == 4)
  rotate_left
  · simp only [cond_true, Option.bind_some, e3]
    exact ⟨_, _, _, rfl, ⟨⟨hsm _, hI, hD⟩, ltNext_real hnx rfl rfl⟩, h3⟩
  simp only [cond_false, Option.bind_some]
  cases d5 : (x == 5)
  rotate_left
  · simp only [cond_true, e3, Option.bind_some]
    exact ⟨_, _, _, rfl, ⟨⟨hsm _, hI, hD⟩, ltNext_real hnx rfl rfl⟩, h3⟩
  simp only [cond_false]
  cases d6 : (x == 6)
  · simp only [cond_false]
    exact ⟨_, _, _, rfl, ⟨⟨hsm _, hI, hD⟩, ltNext_real hnx rfl rfl⟩, h2⟩
  · simp only [cond_true]
    refine ⟨_, _, _, rfl, ⟨⟨hsm _, by simp, hD⟩, fun hk => ?_⟩, h2⟩
    exact absurd rfl (live_ne (storeOk_parts hk).2.1)

/-- What Commit answers. -/
noncomputable def commitF (s : StoreT) (d : DiskT) (l : List PutT) : StoreT × DiskT × Int :=
  if storeOk s d = false ∨ putsOk l = false then (s, d, 4) else if l.length = 0 then (s, d, 0) else
  if 20 < keysP s.2.1 l ∨ s.2.2.1 > 1000000 then (s, d, 5) else commitP s d l

structure SmallS (s : StoreT) (d : DiskT) : Prop where
  sm : dl 200000 d
  ids : s.1.2.length ≤ 1000
  dir : s.2.1.length ≤ 1000

theorem SmallS.lim {s : StoreT} {d : DiskT} (h : SmallS s d) : dlim d ∧ usedN d.1 < 1000000000 := ⟨dl_lim h.sm (by omega), by have := h.sm.2.1; omega⟩

theorem impl_Commit_F {s : StoreT} {d : DiskT} (h : SmallS s d) (l : List PutT) (hl : l.length ≤ 1000) : impl_Commit.f s d l = some (commitF s d l) := by
  obtain ⟨hd, hu⟩ := h.lim
  have h1 := h.ids
  have h2 := h.dir
  have h3 := h.sm.1
  unfold impl_Commit.f commitF
  simp only [impl_StoreOk_eq s d hd hu (show s.1.2.length < 1000000000 by omega) (show s.2.1.length < 1000000000 by omega), Option.bind_some, impl_copyStore_eq s (show s.1.2.length < 1000000000 by omega) (show s.2.1.length < 1000000000 by omega), impl_copyDisk_eq d (show d.1.length < 1000000000000 by omega), impl_PutsOk_eq l (show l.length < 2 ^ 62 by omega), impl_keysWith_eq s.2.1 l (show s.2.1.length < 100000000 by omega) (show l.length < 100000000 by omega)]
  cases hk : storeOk s d with
  | false => simp
  | true =>
    obtain ⟨q1, q2, q3, q4, q5⟩ := storeOk_parts hk
    have hg := storeOk_good hk
    cases hp : putsOk l with
    | false => simp
    | true =>
      have hl8 : l.length ≤ 8 := by
        unfold putsOk at hp
        simp only [Bool.and_eq_true, decide_eq_true_eq] at hp
        exact hp.1
      simp only [Bool.not_true, cond_false, Bool.true_eq_false, or_self, if_false]
      by_cases e1 : l.length = 0
      · have d1 : ((l.length : Int) == 0) = true := by rw [e1]; rfl
        simp only [d1, cond_true]
        rw [if_pos e1]
      have d1 : ((l.length : Int) == 0) = false := by
        have : ¬ (l.length : Int) = 0 := by omega
        simpa using this
      simp only [d1, cond_false]
      rw [if_neg e1]
      by_cases e2 : (keysP s.2.1 l : Int) > 20
      · simp only [e2, decide_true, cond_true]
        rw [if_pos (by omega)]
      simp only [e2, decide_false, cond_false]
      by_cases e3 : s.2.2.1 > 1000000
      · simp only [e3, decide_true, cond_true, or_true, if_true]
      have e4 : ¬ (20 < keysP s.2.1 l ∨ s.2.2.1 > 1000000) := by omega
      rw [if_neg e4]
      simp only [e3, decide_false, cond_false, impl_commit_eq hg (by omega) l hl8 (by omega) (by omega), Option.bind_some]

theorem commitF_ok {s : StoreT} {d : DiskT} {l : List PutT} (hl : storeOk s d = true → EntLt s) (hc : (commitF s d l).2.2 = 0) :
    storeOk s d = true ∧ storeOk (commitF s d l).1 (commitF s d l).2.1 = true ∧ EntLt (commitF s d l).1 ∧ (dumpP (commitF s d l).1 (commitF s d l).2.1).1 = foldP (dumpP s d).1 l s.2.2.1 := by
  unfold commitF at hc ⊢
  by_cases c1 : storeOk s d = false ∨ putsOk l = false
  · rw [if_pos c1] at hc; exact absurd hc (show ¬ (4 : Int) = 0 by decide)
  rw [if_neg c1] at hc ⊢
  simp only [not_or, Bool.not_eq_false] at c1
  by_cases c2 : l.length = 0
  · rw [if_pos c2]
    have : l = [] := List.length_eq_zero_iff.1 c2
    subst this
    exact ⟨c1.1, c1.1, hl c1.1, rfl⟩
  rw [if_neg c2] at hc ⊢
  by_cases c3 : 20 < keysP s.2.1 l ∨ s.2.2.1 > 1000000
  · rw [if_pos c3] at hc; exact absurd hc (show ¬ (5 : Int) = 0 by decide)
  rw [if_neg c3] at hc ⊢
  obtain ⟨r1, r2, r3, _⟩ := commitP_right c1.1 (hl c1.1) c1.2 (by omega) (by omega) hc
  exact ⟨c1.1, r1, r2, r3⟩

theorem ok_small {s : StoreT} {d : DiskT} (h : storeOk s d = true) : SmallS s d := by
  obtain ⟨q1, q2, q3, q4, q5⟩ := storeOk_parts h
  have := ((liveOk_iff s.1).1 q2).2.2.2
  exact ⟨dl_mono (dl_dk q1) (by omega), by omega, by have := (dirOk_mem q3).1; omega⟩

theorem laws_dump_eq {s : StoreT} {d : DiskT} (h : SmallS s d) : laws_dump.f s d = some (dumpP s d).1 := by
  unfold laws_dump.f
  rw [spec_Dump_eq s d h.lim.1 h.lim.2 (by have := h.dir; omega)]; rfl

def bare (x : List UInt8 × Int) : List UInt8 × Int := (x.1, 0)

theorem values_eq (l : List PairT) (hl : l.length < 1000000000) : laws_values.f l = some (mapG bare l) := by
  have key := lp_up (step := laws_values.l0) (fun n (acc : List PairT) => (l, acc, (n : Int))) l.length (fun n acc => acc ++ mapG bare (l.drop n)) (fun n acc => acc.length = n)
    (fun rec n acc hn ha ih => by
      rcases Nat.lt_or_ge n l.length with h | h
      · have hw := w64_succ (show n + 1 < 9223372036854775808 by omega)
        have hb : (acc.length + ([(l[n].1, l[n].2.1, 0)] : List PairT).length) * 40 ≤ 140737488355328 := lim40 (by omega)
        have ih := ih (acc ++ [(l[n].1, l[n].2.1, 0)]) h (by rw [List.length_append, ha]; rfl)
        simp only [laws_values.l0, Int.ofNat_lt, h, decide_true, cond_true, inB_nat, rdA_nat, getD_lt h, hb, hw, ih]
        rw [List.drop_eq_getElem_cons h, List.append_assoc]; rfl
      · have : n = l.length := by omega
        subst this
        simp [laws_values.l0, mapG])
    (by omega) 0 [] (Nat.zero_le _) rfl
  have key : lp laws_values.l0 (l, [], 0) = _ := key
  unfold laws_values.f
  rw [key, Option.bind_some]
  simp

theorem bare_foldP (b : Int) : ∀ (l : List PutT) (P : List PairT), mapG bare (foldP P l b) = foldP (mapG bare P) l 0
  | [], P => rfl
  | p :: l, P => by
    have ih := bare_foldP b l (foldStep b P p)
    show mapG bare (foldP (foldStep b P p) l b) = foldP (foldStep 0 (mapG bare P) p) l 0
    rw [ih]
    congr 1
    unfold foldStep
    split
    · rw [mapG_dropK]
    · rw [mapG_insB, mapG_dropK]; rfl

theorem srt_mapG {α β : Type} (g : α → β) {l : List (List UInt8 × α)} (h : srt l) : srt (mapG g l) := by
  unfold srt mapG
  rw [List.pairwise_map]
  exact h

theorem lastOf_app (a b : List PutT) (k : List UInt8) : lastOf (a ++ b) k = match lastOf b k with | some p => some p | none => lastOf a k := by
  unfold lastOf
  rw [List.reverse_append, List.find?_append]
  cases b.reverse.find? fun p => p.1 == k <;> rfl

theorem lastOf_mem {l : List PutT} {k : List UInt8} {p : PutT} (h : lastOf l k = some p) : p ∈ l ∧ p.1 = k := by
  unfold lastOf at h
  have h1 := List.mem_of_find?_eq_some h
  have h2 := List.find?_some h
  exact ⟨List.mem_reverse.1 h1, by simpa using h2⟩

theorem foldP_turn {P : List PairT} (hs : srt P) (a b : List PutT) (h : ∀ p ∈ a, ∀ q ∈ b, p.1 ≠ q.1) (n : Int) : foldP P (b ++ a) n = foldP P (a ++ b) n :=
  foldP_congr n hs _ _ fun k => by
    rw [lastOf_app, lastOf_app]
    cases ha : lastOf a k with
    | none => cases lastOf b k <;> rfl
    | some p =>
      cases hb : lastOf b k with
      | none => rfl
      | some q => exact absurd ((lastOf_mem ha).2.trans (lastOf_mem hb).2.symm) (h p (lastOf_mem ha).1 q (lastOf_mem hb).1)

theorem foldP_two (P : List PairT) (a b : List PutT) (n : Int) : foldP P (a ++ b) n = foldP (foldP P a n) b n := by
  unfold foldP; rw [List.foldl_append]

def cross (a b : List PutT) : Bool := a.any fun p => b.any fun q => p.1 == q.1

theorem FnParted_l2 (s : StoreT) (d : DiskT) (l : List PutT) (k : Nat) (x : StoreT) (y : DiskT) (i : Nat) (hi : i < l.length) (hl : l.length < 1000000) (hk : k ≤ l.length) :
    lp laws_FnParted.l2 (s, d, l, (k : Int), x, y, (i : Int), (k : Int)) = some (if (l.drop k).any (fun q => l[i].1 == q.1) = true then .inr true else .inl (s, d, l, (k : Int), x, y, (i : Int))) := by
  exact lp_up (step := laws_FnParted.l2) (fun n (_ : Unit) => (s, d, l, (k : Int), x, y, (i : Int), (n : Int))) l.length (fun n _ => if (l.drop n).any (fun q => l[i].1 == q.1) = true then .inr true else .inl (s, d, l, (k : Int), x, y, (i : Int))) (fun _ _ => True)
    (fun rec n _ hn _ ih => by
      rcases Nat.lt_or_ge n l.length with h | h
      · have hw := w64_succ (show n + 1 < 9223372036854775808 by omega)
        rw [List.drop_eq_getElem_cons h, List.any_cons]
        simp only [laws_FnParted.l2, Int.ofNat_lt, h, hi, decide_true, cond_true, inB_nat, rdA_nat, getD_lt h, getD_lt hi]
        cases hq : (l[i].1 == l[n].1)
        · simp only [cond_false, hw, ih () h trivial, Bool.false_or]
        · simp
      · have : n = l.length := by omega
        subst this
        simp [laws_FnParted.l2])
    (by omega) k () hk trivial

theorem FnParted_l0 (s : StoreT) (d : DiskT) (l : List PutT) (k : Nat) (x : StoreT) (y : DiskT) (hl : l.length < 1000000) (hk : k ≤ l.length) :
    lp laws_FnParted.l0 (s, d, l, (k : Int), x, y, 0) = some (if cross (l.take k) (l.drop k) = true then .inr true else .inl (s, d, l, (k : Int), x, y)) := by
  have key := lp_up (step := laws_FnParted.l0) (fun n (_ : Unit) => (s, d, l, (k : Int), x, y, (n : Int))) k (fun n _ => if cross ((l.take k).drop n) (l.drop k) = true then .inr true else .inl (s, d, l, (k : Int), x, y)) (fun _ _ => True)
    (fun rec n _ hn _ ih => by
      rcases Nat.lt_or_ge n k with h | h
      · have hw := w64_succ (show n + 1 < 9223372036854775808 by omega)
        have ht : n < (l.take k).length := by rw [List.length_take]; omega
        have hg : (l.take k)[n] = l[n] := List.getElem_take
        rw [List.drop_eq_getElem_cons ht, hg]
        simp only [laws_FnParted.l0, Int.ofNat_lt, h, decide_true, cond_true, FnParted_l2 s d l k x y n (by omega) hl hk, Option.bind_some]
        unfold cross
        rw [List.any_cons]
        cases hq : (l.drop k).any fun q => l[n].1 == q.1
        · simp only [Bool.false_eq_true, if_false, caseS_l, hw, ih () h trivial, Bool.false_or]; rfl
        · simp [caseS_r]
      · have : n = k := by omega
        subst this
        have : (l.take n).drop n = [] := List.drop_eq_nil_of_le (by rw [List.length_take]; omega)
        rw [this]
        simp [laws_FnParted.l0, cross])
    (by omega) 0 () (Nat.zero_le _) trivial
  exact key

theorem FnParted_true (x0 : List Int) (w0 : wfD (.sl false (.int .u8)) x0) : laws_FnParted.f x0 = some true := by
  unfold laws_FnParted.f
  rw [big_eq, Option.bind_some]
  by_cases cb : (x0.length : Int) > 1048576
  · simp [cb]
  simp only [cb, decide_false, cond_false]
  obtain ⟨c0, e0, h0⟩ := l1New_ok x0 (by omega)
  obtain ⟨s, d, c1, e1, ⟨hs, hlt⟩, h1⟩ := l12Any_ok3 h0
  obtain ⟨l, c2, e2, hl9, h2⟩ := l12AnyPuts_ok h1
  have ed : spec_DrawCommit.f x0 = some (s, d, l) := by
    unfold spec_DrawCommit.f
    simp only [e0, e1, e2, Option.bind_some]
  simp only [ed, Option.bind_some]
  by_cases c1 : (l.length : Int) < 2
  · simp only [c1, decide_true, cond_true]
  simp only [c1, decide_false, cond_false]
  by_cases c2 : d.2.2.1 ≥ 0
  · simp only [c2, decide_true, cond_true]
  simp only [c2, decide_false, cond_false]
  obtain ⟨a, ea, ha0, ha1⟩ := at_eq x0 (fun x hx => w0.2 x hx) 0 (by omega) (by omega)
  have ea : laws_at.f x0 0 = some a := ea
  have hw : w64 ((l.length : Int) - 1) = (l.length : Int) - 1 := w64_id (by omega) (by omega)
  have hne : ((l.length : Int) - 1 != 0) = true := by
    have : ¬ (l.length : Int) - 1 = 0 := by omega
    simpa using this
  have hr := tmod_range ha0 (show 0 < (l.length : Int) - 1 by omega)
  have hw2 : w64 (1 + Int.tmod a ((l.length : Int) - 1)) = (((1 + Int.tmod a ((l.length : Int) - 1)).toNat : Nat) : Int) := by rw [w64_id (by omega) (by omega)]; omega
  obtain ⟨k, hkd⟩ : ∃ k : Nat, k = (1 + Int.tmod a ((l.length : Int) - 1)).toNat := ⟨_, rfl⟩
  have hk1 : 1 ≤ k ∧ k < l.length := by omega
  rw [← hkd] at hw2
  have hS : SmallS s d := ⟨hs.sm, by have := hs.ids; omega, by have := hs.dir; omega⟩
  have hin : (decide (0 ≤ (k : Int)) && decide ((k : Int) ≤ (l.length : Int))) = true := by simp; omega
  simp only [ea, Option.bind_some, hw, hne, cond_true, hw2, hin, Int.toNat_natCast, impl_Commit_F hS l (by omega), impl_Commit_F hS (l.take k) (by rw [List.length_take]; omega)]
  have small_of : ∀ (s : StoreT) (d : DiskT) (m : List PutT), SmallS s d → s.2.1.length ≤ 100 → m.length ≤ 12 → SmallS (commitF s d m).1 (commitF s d m).2.1 ∧ (commitF s d m).1.2.1.length ≤ 112 := fun s d m h hd hm => by
    have hd' := h.dir
    unfold commitF
    split
    · exact ⟨h, by show s.2.1.length ≤ _; omega⟩
    rename_i q
    simp only [not_or, Bool.not_eq_false] at q
    split
    · exact ⟨h, by show s.2.1.length ≤ _; omega⟩
    split
    · exact ⟨h, by show s.2.1.length ≤ _; omega⟩
    · obtain ⟨r1, r2, r3⟩ := commitP_ok (storeOk_good q.1) m
      exact ⟨⟨dl_mono (dl_dk r1) (by omega), by omega, by omega⟩, by omega⟩
  have hdir := hs.dir
  have hS1 := small_of s d (l.take k) hS (by omega) (by rw [List.length_take]; omega)
  have hSx := small_of s d l hS (by omega) hl9
  have hSd := small_of s d (l.drop k) hS (by omega) (by rw [List.length_drop]; omega)
  have okx := commitF_ok (l := l) hlt
  have ok1 := commitF_ok (l := l.take k) hlt
  have okd := commitF_ok (l := l.drop k) hlt
  rw [impl_Commit_F hS1.1 (l.drop k) (by rw [List.length_drop]; omega), Option.bind_some]
  have ok2 := commitF_ok (s := (commitF s d (l.take k)).1) (d := (commitF s d (l.take k)).2.1) (l := l.drop k)
  generalize hX : commitF s d l = X at *
  generalize hA : commitF s d (l.take k) = A at *
  generalize hB : commitF A.1 A.2.1 (l.drop k) = B at *
  obtain ⟨x, y, c⟩ := X
  obtain ⟨a1, b1, e⟩ := A
  obtain ⟨a2, b2, f⟩ := B
  simp only at *
  by_cases k1 : c = 0
  rotate_left
  · have : (c != 0) = true := by simpa using k1
    simp only [this, cond_true]
  by_cases k2 : e = 0
  rotate_left
  · have : (e != 0) = true := by simpa using k2
    simp only [k1, this, cond_true, bne_self_eq_false, cond_false]
  by_cases k3 : f = 0
  rotate_left
  · have : (f != 0) = true := by simpa using k3
    simp only [k1, k2, this, cond_true, bne_self_eq_false, cond_false]
  subst k1; subst k2; subst k3
  obtain ⟨o1, o2, o3, o4⟩ := okx rfl
  obtain ⟨_, p2, p3, p4⟩ := ok1 rfl
  obtain ⟨_, q2, q3, q4⟩ := ok2 (fun _ => p3) rfl
  have hP : (dumpP s d).1.length ≤ 20 := by
    have := dumpP_len s d
    have := (dirOk_mem (storeOk_parts o1).2.2.1).1
    omega
  have hsP : srt (dumpP s d).1 := by rw [dump_map o1]; exact srt_mapG _ (dirOk_srt (storeOk_parts o1).2.2.1)
  have vx : mapG bare (dumpP x y).1 = foldP (mapG bare (dumpP s d).1) l 0 := by rw [o4, bare_foldP]
  have va : mapG bare (dumpP a2 b2).1 = foldP (mapG bare (dumpP s d).1) l 0 := by
    rw [q4, bare_foldP, p4, bare_foldP, ← foldP_two, List.take_append_drop]
  have lx : (dumpP x y).1.length < 1000000000 := by have := dumpP_len x y; have := hSx.2; omega
  have la : (dumpP a2 b2).1.length < 1000000000 := by have := dumpP_len a2 b2; have := (ok_small q2).dir; omega
  have lm : (foldP (mapG bare (dumpP s d).1) l 0).length < 2 ^ 62 := by
    have := foldP_len 0 l (mapG bare (dumpP s d).1)
    have : (mapG bare (dumpP s d).1).length = (dumpP s d).1.length := by unfold mapG; rw [List.length_map]
    omega
  obtain ⟨hdx, hux⟩ := hSx.1.lim
  simp only [bne_self_eq_false, cond_false, laws_dump_eq hSx.1, laws_dump_eq (ok_small q2), Option.bind_some, values_eq _ lx, values_eq _ la, vx, va, spec_SamePairs_eq _ _ lm, decide_true, Bool.not_true, spec_StoreOk_eq x y hdx hux (by have := hSx.1.ids; omega) (by have := hSx.2; omega), o2, FnParted_l0 s d l k x y (by omega) (by omega)]
  cases hcr : cross (l.take k) (l.drop k)
  rotate_left
  · simp only [if_true, caseS_r]
  simp only [Bool.false_eq_true, if_false, caseS_l, hin, cond_true, Int.toNat_natCast, impl_Commit_F hS (l.drop k) (by rw [List.length_drop]; omega), Option.bind_some, impl_Commit_F hSd.1 (l.take k) (by rw [List.length_take]; omega)]
  have ok3 := commitF_ok (s := (commitF s d (l.drop k)).1) (d := (commitF s d (l.drop k)).2.1) (l := l.take k)
  generalize hG : commitF s d (l.drop k) = G at *
  generalize hH : commitF G.1 G.2.1 (l.take k) = H at *
  obtain ⟨g1, h1, m⟩ := G
  obtain ⟨g2, h2, n⟩ := H
  simp only at *
  by_cases k4 : m = 0
  rotate_left
  · have : (m != 0) = true := by simpa using k4
    simp only [this, cond_true]
  by_cases k5 : n = 0
  rotate_left
  · have : (n != 0) = true := by simpa using k5
    simp only [k4, this, cond_true, bne_self_eq_false, cond_false]
  subst k4; subst k5
  obtain ⟨_, r2, r3, r4⟩ := okd rfl
  obtain ⟨_, u2, u3, u4⟩ := ok3 (fun _ => r3) rfl
  have vg : mapG bare (dumpP g2 h2).1 = foldP (mapG bare (dumpP s d).1) l 0 := by
    rw [u4, bare_foldP, r4, bare_foldP, ← foldP_two, foldP_turn (srt_mapG _ hsP), List.take_append_drop]
    intro p hp q hq e
    unfold cross at hcr
    rw [List.any_eq_false] at hcr
    have := hcr p hp
    rw [List.any_eq_true] at this
    exact this ⟨q, hq, by rw [e]; simp⟩
  have lg : (dumpP g2 h2).1.length < 1000000000 := by have := dumpP_len g2 h2; have := (ok_small u2).dir; omega
  simp only [bne_self_eq_false, cond_false, laws_dump_eq hSx.1, laws_dump_eq (ok_small u2), Option.bind_some, values_eq _ lx, values_eq _ lg, vx, vg, spec_SamePairs_eq _ _ lm, decide_true]

def kn (n : Nat) : List UInt8 := [107] ++ Lib.decDigits n

theorem kn_len {n : Nat} (h : n < 100) : 1 ≤ (kn n).length ∧ (kn n).length ≤ 3 := by
  have := digits_len 1 n (by omega)
  unfold kn
  rw [List.length_append]
  show 1 ≤ 1 + _ ∧ 1 + _ ≤ 3
  omega

/-- Puts of keys in a row. -/
def NewPs : Nat → List PutT → Prop
  | _, [] => True
  | m, p :: r => p.1 = kn m ∧ p.2.1 = false ∧ p.2.2.length ≤ 24 ∧ NewPs (m + 1) r

theorem NewPs.mem : ∀ (l : List PutT) (m : Nat), NewPs m l → ∀ p ∈ l, ∃ i, m ≤ i ∧ i < m + l.length ∧ p.1 = kn i ∧ p.2.1 = false ∧ p.2.2.length ≤ 24
  | [], m, _, p, hp => by simp at hp
  | q :: l, m, h, p, hp => by
    simp only [List.length_cons]
    rcases List.mem_cons.1 hp with rfl | hp
    · exact ⟨m, Nat.le_refl _, by omega, h.1, h.2.1, h.2.2.1⟩
    · obtain ⟨i, h1, h2, h3⟩ := NewPs.mem l (m + 1) h.2.2.2 p hp
      exact ⟨i, by omega, by omega, h3⟩

theorem NewPs.ok {l : List PutT} {m : Nat} (h : NewPs m l) (hm : m + l.length ≤ 100) (hl : l.length ≤ 8) : putsOk l = true := by
  unfold putsOk
  simp only [Bool.and_eq_true, decide_eq_true_eq, List.all_eq_true]
  refine ⟨hl, fun p hp => ?_⟩
  obtain ⟨i, h1, h2, h3, h4, h5⟩ := NewPs.mem l m h p hp
  have := kn_len (n := i) (by omega)
  unfold putOk keyOk
  rw [h3, h4]
  simp; omega

/-- The keys of a directory are just the first ones. -/
def KeysD (dir : List EntryT) (m : Nat) : Prop := (∀ e ∈ dir, ∃ i, i < m ∧ e.1 = kn i) ∧ dir.length = m

/-- All keys of the first ones are there. -/
def KeysF (P : List PairT) (m : Nat) : Prop := (∀ x ∈ P, ∃ i, i < m ∧ x.1 = kn i) ∧ ∀ i, i < m → ∃ x ∈ P, x.1 = kn i

/-- The store behind so many batches of four. -/
structure Work (j : Nat) (s : StoreT) (d : DiskT) : Prop where
  ok : storeOk s d = true
  lt : EntLt s
  room : Room 9000 (211 + 1410 * j) (2 + 10 * j) d
  ids : s.1.2.length ≤ 1 + 5 * j
  nxt : s.1.1 ≤ ((2 + 5 * j : Nat) : Int)
  bat : s.2.2.1 = ((1 + j : Nat) : Int)
  keys : KeysF (dumpP s d).1 (4 * j)
  len : s.2.1.length = 4 * j

theorem Work.dir {j : Nat} {s : StoreT} {d : DiskT} (h : Work j s d) : KeysD s.2.1 (4 * j) := by
  refine ⟨fun e he => ?_, h.len⟩
  have hm : (e.1, valAt d e.2) ∈ (dumpP s d).1 := by rw [dump_map h.ok]; exact List.mem_map.2 ⟨e, he, rfl⟩
  exact h.keys.1 _ hm

end Go.Rf.G
