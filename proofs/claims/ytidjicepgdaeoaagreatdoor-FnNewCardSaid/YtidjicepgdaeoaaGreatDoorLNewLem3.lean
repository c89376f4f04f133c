/- Plain laws: what the plain functions answer. -/
import Derived.Test.YtidjicepgdaeoaaGreatDoorLNewLem2
namespace Go.Rf.G
open Go Go.Rf
set_option linter.unusedVariables false
set_option linter.unusedSimpArgs false
set_option synthInstance.maxSize 4000

theorem openF_eq (v : LiveT) (d : DiskT) : openF v d = if (cutW v d).2 ≠ 0 then (zStore, (cutW v d).1, told (cutW v d).2) else
    match hintG (cutW v d).1 (v.2.getD 0 0) with
    | some g => openE v (cutW v d).1 (cutN v d : Int) (regroup g (placesOf (cutW v d).1 (v.2.drop 1))) (v.2.getD 0 0)
    | none => openE v (cutW v d).1 (cutN v d : Int) (regroup ([], 0, 0) (placesOf (cutW v d).1 v.2)) 0 := by
  unfold openF
  by_cases c : (cutW v d).2 ≠ 0
  · rw [if_pos c, if_pos c]
  · rw [if_neg c, if_neg c]
    simp only
    cases hintG (cutW v d).1 (v.2.getD 0 0) <;> rfl

theorem openE_ok {v : LiveT} {x : DiskT} (e : Int) (g : GroupT) (hin : Int) (h : diskOk x = true) (hl : v.2.length ≤ 60) (hg : g.1.length ≤ 11000020) :
    diskOk (openE v x e g hin).2.1 = true ∧ (openE v x e g hin).1.1.2.length ≤ 60 ∧ (openE v x e g hin).1.2.1.length ≤ 11000020 := by
  unfold openE
  have hs := dk_sweep h v
  split
  · exact ⟨h, by simp, by simp⟩
  split
  · exact ⟨hs, by simp, by simp⟩
  exact ⟨hs, hl, hg⟩

theorem openP_ok {d : DiskT} (h : diskOk d = true) : diskOk (openP d).2.1 = true ∧ (openP d).1.1.2.length ≤ 60 ∧ (openP d).1.2.1.length ≤ 11000020 := by
  unfold openP
  rw [if_neg (by rw [h]; simp)]
  split
  · exact ⟨h, by simp, by simp⟩
  split
  · unfold openFirst
    have h1 : diskOk (sPut (2, [1]) (sstep (dCreate (segName 1)) (sweepW zeroLive d))).1 = true := dk_sPut (dk_sstep (dk_sweep h zeroLive) fun k => dk_Create k _) _
    simp only
    split
    · exact ⟨h1, by simp, by simp⟩
    · exact ⟨h1, by simp, by simp⟩
  split
  · exact ⟨h, by simp, by simp⟩
  rename_i hv
  split
  · exact ⟨h, by simp, by simp⟩
  rcases readLive_cases (fileText d liveN).1 with ⟨e, _⟩ | ⟨v, e, hlv⟩
  · rw [e] at hv; simp at hv
  rw [e]
  show diskOk (openF v d).2.1 = true ∧ (openF v d).1.1.2.length ≤ 60 ∧ (openF v d).1.2.1.length ≤ 11000020
  have hlen := liveOk_len hlv.1
  have hd1 := dk_cutW (v := v) h
  rw [openF_eq]
  split
  · exact ⟨hd1, by simp, by simp⟩
  cases hg : hintG (cutW v d).1 (v.2.getD 0 0) with
  | some g => exact openE_ok _ _ _ hd1 hlen (regroup_len (regInv_hint hg) (placesOf_len hd1 (by rw [List.length_drop]; omega)))
  | none => exact openE_ok _ _ _ hd1 hlen (regroup_len regInv_zero (placesOf_len hd1 hlen))

theorem seg1_eq : segName 1 = [115, 101, 103, 49] := by
  unfold segName nameN
  rw [if_pos (by decide)]
  show _ ++ Lib.decDigits 1 = _
  rw [Lib.decDigits_one (by decide)]
  rfl

theorem live1_len : (showLive (2, [1])).length = 8 := by
  unfold showLive
  rw [if_neg (by decide)]
  have e2 : varT 2 = [2] := by rw [show (2 : Int) = ((2 : Nat) : Int) from rfl, varT_nat 2 (by decide), varN_small (by decide)]; rfl
  have e1 : varT 1 = [1] := by rw [show (1 : Int) = ((1 : Nat) : Int) from rfl, varT_nat 1 (by decide), varN_small (by decide)]; rfl
  have e : varT (2, [1]).1 ++ varT (((2, [1]) : LiveT).2.length : Int) ++ (((2, [1]) : LiveT).2.map varT).flatten = [2, 1, 1] := by
    show varT 2 ++ varT 1 ++ (varT 1 ++ []) = _
    rw [e2, e1]; rfl
  rw [e]
  obtain ⟨h1, h2⟩ := frame_eq (t := [2, 1, 1]) (by decide)
  rw [h1, List.length_append, h2, List.length_append, varN_small (by decide)]
  rfl

theorem dstep_free {d : DiskT} {c : Int} (h : diskOk d = true) (hf : d.2 = (c, -1, false)) (act : List FileT → Int × List FileT) : dstep d act = (((act d.1).2, c, -1, false), (act d.1).1) := by
  obtain ⟨l, t⟩ := d
  simp only at hf
  subst hf
  unfold dstep tick
  rw [if_neg (by rw [h]; simp), if_neg (by simp)]
  simp

def dNew (n : Nat) : DiskT := ([(liveN, showLive (2, [1]), 8), (segName 1, [], 0)], (n : Int), -1, false)

abbrev d0N (n : Nat) : DiskT := ([], (n : Int), -1, false)

theorem first_new (n : Nat) (h : n ≤ 100000) : ∃ y, diskOk y = true ∧ sPut (2, [1]) (sstep (dCreate (segName 1)) (sweepW zeroLive (d0N n))) = if n < 8 then (y, 2) else (dNew n, 0) := by
  have k0 : diskOk (d0N n) = true := dk_new (n : Int) (by omega)
  have hsw : sweepW zeroLive (d0N n) = (d0N n, 0) := by
    unfold sweepW orphP
    rw [if_neg (by rw [k0]; simp)]; rfl
  have hL := live1_len
  unfold dNew sPut sFile
  generalize showLive (2, [1]) = L at hL ⊢
  rw [hsw, sstep_z, seg1_eq]
  -- the segment
  have s1 : dCreate [115, 101, 103, 49] (d0N n) = (([([115, 101, 103, 49], [], 0)], (n : Int), -1, false), 0) := by
    show dstep _ _ = _
    rw [dstep_free k0 rfl]
    have : actCreate [115, 101, 103, 49] [] = (0, [([115, 101, 103, 49], [], 0)]) := by decide
    rw [this]
  have k1 := dk_Create k0 [115, 101, 103, 49]
  rw [s1] at k1 ⊢
  have k1 : diskOk (([([115, 101, 103, 49], [], 0)], (n : Int), -1, false) : DiskT) = true := k1
  rw [sstep_z]
  have s2 : dGone [116, 101, 109, 112] (([([115, 101, 103, 49], [], 0)], (n : Int), -1, false) : DiskT) = (([([115, 101, 103, 49], [], 0)], (n : Int), -1, false), 0) := by
    unfold dGone
    rw [if_neg (show ¬ fileIx ([([115, 101, 103, 49], [], 0)] : List FileT) [116, 101, 109, 112] ≥ 0 by decide)]
  rw [s2, sstep_z]
  have s3 : dCreate [116, 101, 109, 112] (([([115, 101, 103, 49], [], 0)], (n : Int), -1, false) : DiskT) = (([([115, 101, 103, 49], [], 0), ([116, 101, 109, 112], [], 0)], (n : Int), -1, false), 0) := by
    show dstep _ _ = _
    rw [dstep_free k1 rfl]
    have : actCreate [116, 101, 109, 112] [([115, 101, 103, 49], [], 0)] = (0, [([115, 101, 103, 49], [], 0), ([116, 101, 109, 112], [], 0)]) := by decide
    rw [this]
  have k2 := dk_Create k1 [116, 101, 109, 112]
  rw [s3] at k2 ⊢
  have k2 : diskOk (([([115, 101, 103, 49], [], 0), ([116, 101, 109, 112], [], 0)], (n : Int), -1, false) : DiskT) = true := k2
  rw [sstep_z]
  have k3 := dk_Append k2 [116, 101, 109, 112] L
  by_cases c : n < 8
  · simp only [if_pos c]
    have s4 : dAppend [116, 101, 109, 112] L (([([115, 101, 103, 49], [], 0), ([116, 101, 109, 112], [], 0)], (n : Int), -1, false) : DiskT) = (([([115, 101, 103, 49], [], 0), ([116, 101, 109, 112], [], 0)], (n : Int), -1, false), 2) := by
      show dstep _ _ = _
      rw [dstep_free k2 rfl]
      unfold actAppend
      have : ([([115, 101, 103, 49], [], 0), ([116, 101, 109, 112], [], 0)] : List FileT).findIdx? (fun f => f.1 == [116, 101, 109, 112]) = some 1 := by decide
      rw [this]
      have hu : usedN ([([115, 101, 103, 49], [], 0), ([116, 101, 109, 112], [], 0)] : List FileT) = 0 := by decide
      simp only [hu]
      rw [if_pos (by omega)]
    rw [s4, sstep_ne (show (2 : Int) ≠ 0 by decide), sstep_ne (show (2 : Int) ≠ 0 by decide)]
    exact ⟨_, k2, rfl⟩
  · simp only [if_neg c]
    have s4 : dAppend [116, 101, 109, 112] L (([([115, 101, 103, 49], [], 0), ([116, 101, 109, 112], [], 0)], (n : Int), -1, false) : DiskT) = (([([115, 101, 103, 49], [], 0), ([116, 101, 109, 112], L, 0)], (n : Int), -1, false), 0) := by
      show dstep _ _ = _
      rw [dstep_free k2 rfl]
      unfold actAppend
      have : ([([115, 101, 103, 49], [], 0), ([116, 101, 109, 112], [], 0)] : List FileT).findIdx? (fun f => f.1 == [116, 101, 109, 112]) = some 1 := by decide
      rw [this]
      have hu : usedN ([([115, 101, 103, 49], [], 0), ([116, 101, 109, 112], [], 0)] : List FileT) = 0 := by decide
      simp only [hu]
      rw [if_neg (by omega)]
      rfl
    rw [s4] at k3 ⊢
    have k3 : diskOk (([([115, 101, 103, 49], [], 0), ([116, 101, 109, 112], L, 0)], (n : Int), -1, false) : DiskT) = true := k3
    rw [sstep_z]
    have k4 := dk_Sync k3 [116, 101, 109, 112]
    have s5 : dSync [116, 101, 109, 112] (([([115, 101, 103, 49], [], 0), ([116, 101, 109, 112], L, 0)], (n : Int), -1, false) : DiskT) = (([([115, 101, 103, 49], [], 0), ([116, 101, 109, 112], L, 8)], (n : Int), -1, false), 0) := by
      show dstep _ _ = _
      rw [dstep_free k3 rfl]
      unfold actSync
      have : ([([115, 101, 103, 49], [], 0), ([116, 101, 109, 112], L, 0)] : List FileT).findIdx? (fun f => f.1 == [116, 101, 109, 112]) = some 1 := rfl
      rw [this]
      show ((([([115, 101, 103, 49], [], 0), ([116, 101, 109, 112], L, (L.length : Int))] : List FileT), (n : Int), -1, false), (0 : Int)) = _
      rw [hL]; rfl
    rw [s5] at k4 ⊢
    have k4 : diskOk (([([115, 101, 103, 49], [], 0), ([116, 101, 109, 112], L, 8)], (n : Int), -1, false) : DiskT) = true := k4
    rw [sstep_z]
    have s6 : dRename [116, 101, 109, 112] [108, 105, 118, 101] (([([115, 101, 103, 49], [], 0), ([116, 101, 109, 112], L, 8)], (n : Int), -1, false) : DiskT) = (([([108, 105, 118, 101], L, 8), ([115, 101, 103, 49], [], 0)], (n : Int), -1, false), 0) := by
      show dstep _ _ = _
      rw [dstep_free k4 rfl]
      unfold actRename
      have : ([([115, 101, 103, 49], [], 0), ([116, 101, 109, 112], L, 8)] : List FileT).findIdx? (fun f => f.1 == [116, 101, 109, 112]) = some 1 := rfl
      rw [this, if_neg (by decide)]
      rfl
    rw [s6]
    exact ⟨_, k4, rfl⟩

theorem openP_new (n : Nat) (h : n ≤ 100000) : ∃ y, diskOk y = true ∧ openP (d0N n) = if n < 8 then (zStore, y, 2) else (((2, [1]), [], 1, 0, 0), dNew n, 0) := by
  have k0 : diskOk (d0N n) = true := dk_new (n : Int) (by omega)
  obtain ⟨y, hy, e⟩ := first_new n h
  refine ⟨y, hy, ?_⟩
  have ht : fileText (d0N n) liveN = ([], false) := fileText_eq_none fun f hf => by simp at hf
  unfold openP
  rw [if_neg (by rw [k0]; simp), if_neg (by simp), if_pos (by rw [ht])]
  unfold openFirst
  rw [e]
  split
  · rename_i c; rfl
  · rename_i c; rfl

theorem dk_dNew (n : Nat) (h : n ≤ 100000) (h8 : 8 ≤ n) : diskOk (dNew n) = true := by
  have k0 : diskOk (d0N n) = true := dk_new (n : Int) (by omega)
  obtain ⟨y, hy, e⟩ := openP_new n h
  rw [if_neg (by omega)] at e
  have := (openP_ok k0).1
  rw [e] at this
  exact this

theorem dNew_ft (n : Nat) (h : n ≤ 100000) (h8 : 8 ≤ n) : fileText (dNew n) liveN = (showLive (2, [1]), true) ∧ fileText (dNew n) (segName 1) = ([], true) ∧ ∀ m, m ≠ liveN → m ≠ segName 1 → fileText (dNew n) m = ([], false) := by
  have hk := dk_dNew n h h8
  refine ⟨fileText_mem hk (f := (liveN, showLive (2, [1]), 8)) (by simp [dNew]), fileText_mem hk (f := (segName 1, [], 0)) (by simp [dNew]), fun m h1 h2 => fileText_eq_none fun f hf => ?_⟩
  simp only [dNew, List.mem_cons, List.not_mem_nil, or_false] at hf
  rcases hf with rfl | rfl
  · exact Ne.symm h1
  · exact Ne.symm h2

theorem readLive_is {s : List UInt8} {v : LiveT} (h : isLive s v) (hl : s.length < 1000000000) : readLive s = (v, true) := by
  have h1 := spec_ReadLive_back h
  rw [spec_ReadLive_eq s hl] at h1
  exact Option.some.inj h1

theorem hintName_live (i : Int) : hintName i ≠ liveN := by
  unfold hintName nameN
  split
  · intro e
    have := congrArg (fun l => l.getD 0 0) e
    simp [liveN] at this
  · simp [liveN]

theorem hintName_temp (i : Int) : hintName i ≠ tempN := by
  unfold hintName nameN
  split
  · intro e
    have := congrArg (fun l => l.getD 0 0) e
    simp [tempN] at this
  · simp [tempN]

theorem live_unnamed : ¬ ∃ id, named liveN id := by
  rintro ⟨id, _, e | e⟩
  · exact segName_live id e.symm
  · exact hintName_live id e.symm

theorem sweep_none {d : DiskT} {v : LiveT} (h : diskOk d = true) (ho : ∀ f ∈ d.1, orphB v f = false) : sweepW v d = (d, 0) := by
  unfold sweepW orphP
  rw [if_neg (by rw [h]; simp)]
  have : d.1.filter (orphB v) = [] := by
    rw [List.filter_eq_nil_iff]
    intro f hf; rw [ho f hf]; simp
  rw [this]; rfl

theorem orphB_live (v : LiveT) (t : List UInt8) (s : Int) : orphB v (liveN, t, s) = false := by
  unfold orphB
  rw [idOf_no live_unnamed]; rfl

theorem orphB_in {v : LiveT} {n t : List UInt8} {s id : Int} (h : named n id) (hi : id ∈ v.2) : orphB v (n, t, s) = false := by
  unfold orphB
  have hany : (v.2.any fun i => i == id) = true := List.any_eq_true.2 ⟨id, hi, by simp⟩
  have hne : (n == tempN) = false := by
    have : n ≠ tempN := by
      rcases h.2 with e | e
      · rw [e]; exact segName_temp id
      · rw [e]; exact hintName_temp id
    simpa using this
  simp only [idOf_yes h, hany, hne]; rfl

theorem openP_again (n : Nat) (h : n ≤ 100000) (h8 : 8 ≤ n) : openP (dNew n) = (((2, [1]), [], 1, 0, 0), dNew n, 0) := by
  have hk := dk_dNew n h h8
  obtain ⟨t1, t2, t3⟩ := dNew_ft n h h8
  have hr : readLive (showLive (2, [1])) = ((2, [1]), true) := readLive_is ⟨live_one, rfl⟩ (by have := showLive_len (2, [1]); omega)
  have hl : lastI [1] = 1 := rfl
  have hsy : dSync (segName 1) (dNew n) = (dNew n, 0) := by
    show dstep _ _ = _
    rw [dstep_free hk (c := (n : Int)) rfl]
    unfold dNew
    rw [seg1_eq]
    rfl
  have hc : cutW (2, [1]) (dNew n) = (dNew n, 0) := by
    unfold cutW cutN
    show sstep (dSync (segName (lastI [1]))) _ = _
    rw [hl]
    show sstep (dSync (segName 1)) (if (fileText (dNew n) (segName (lastI [1]))).1.length = (scan (fileText (dNew n) (segName (lastI [1]))).1).2 then (dNew n, 0) else _) = _
    rw [hl, t2, scan_nil, if_pos (show (([], true) : List UInt8 × Bool).1.length = (([], 0) : List SpotT × Nat).2 from rfl), sstep_z, hsy]
  have hh : hintG (dNew n) 1 = none := by
    unfold hintG
    rw [t3 (hintName 1) (hintName_live 1) (fun e => segName_hint 1 1 (by decide) e.symm), if_neg (by simp)]
  have hp : placesOf (dNew n) [1] = [] := by
    show segPl (dNew n) 1 ++ [] = []
    unfold segPl
    rw [t2, scan_nil]; rfl
  have hs : sweepW (2, [1]) (dNew n) = (dNew n, 0) := by
    refine sweep_none hk fun f hf => ?_
    simp only [dNew, List.mem_cons, List.not_mem_nil, or_false] at hf
    rcases hf with rfl | rfl
    · exact orphB_live _ _ _
    · exact orphB_in (id := 1) ⟨by decide, .inl rfl⟩ (by simp)
  unfold openP
  rw [if_neg (by rw [hk]; simp), if_neg (by simp [dNew]), t1, if_neg (by simp), hr, if_neg (by simp)]
  have hsg : segsHave (dNew n) [1] = true := by
    unfold segsHave segsHave
    rw [t2]; rfl
  rw [if_neg (by rw [hsg]; simp), openF_eq, hc, if_neg (by simp)]
  show (match hintG (dNew n) 1 with | some g => _ | none => _) = _
  rw [hh]
  show openE (2, [1]) (dNew n) (cutN (2, [1]) (dNew n) : Int) (regroup ([], 0, 0) (placesOf (dNew n) [1])) 0 = _
  have hcn : cutN (2, [1]) (dNew n) = 0 := by
    unfold cutN
    show (scan (fileText (dNew n) (segName (lastI [1]))).1).2 = 0
    rw [hl, t2, scan_nil]
  rw [hp, hcn]
  have hrg : regroup ([], 0, 0) [] = ([], 0, 0) := by decide
  rw [hrg]
  unfold openE
  rw [if_neg (by simp), hs, if_neg (by simp)]
  rfl

theorem storeOk_dNew (n : Nat) (h : n ≤ 100000) (h8 : 8 ≤ n) : storeOk ((2, [1]), [], 1, 0, 0) (dNew n) = true := by
  obtain ⟨t1, t2, t3⟩ := dNew_ft n h h8
  refine storeOk_iff.2 ⟨dk_dNew n h h8, by decide, by decide, by decide, ?_, fun e he => by simp at he⟩
  refine (segsOk_iff _).2 ⟨fun id hid => ?_, fun _ => ?_⟩
  · have hid : id = 1 := by simpa using hid
    subst hid
    rw [t2]; exact ⟨rfl, whole_nil⟩
  · show (0 : Int) = ((fileText _ (segName 1)).1.length : Int)
    rw [t2]; rfl

theorem FnNew_true (x0 : List Int) (w0 : wfD (.sl false (.int .u8)) x0) : laws_FnNew.f x0 = some true := by
  unfold laws_FnNew.f
  rw [big_eq, Option.bind_some]
  by_cases cb : (x0.length : Int) > 1048576
  · simp [cb]
  simp only [cb, decide_false, cond_false]
  have hw : ∀ x ∈ x0, 0 ≤ x ∧ x ≤ 255 := fun x hx => w0.2 x hx
  obtain ⟨a, ea, ha0, ha1⟩ := at_eq x0 hw 0 (by omega) (by omega)
  have ea : laws_at.f x0 0 = some a := ea
  obtain ⟨n, rfl⟩ : ∃ n : Nat, a = (n : Int) := ⟨a.toNat, by omega⟩
  have hn : impl_DiskNew.f (n : Int) = some (d0N n) := by
    unfold impl_DiskNew.f
    rw [impl_in_eq, Option.bind_some]
    have : decide (0 ≤ (n : Int) ∧ (n : Int) ≤ 100000) = true := by simp; omega
    rw [this]; rfl
  have hL := spec_ShowLive_eq (2, [1]) (by decide)
  have k0 : diskOk (d0N n) = true := dk_new (n : Int) (by omega)
  have ho := impl_Open_eq (d0N n) (dl_mono (dl_dk k0) (by omega))
  obtain ⟨y, hy, e⟩ := openP_new n (by omega)
  simp only [ea, Option.bind_some, hn, ho, hL, live1_len]
  rw [e]
  by_cases c : n < 8
  · rw [if_pos c]
    have d1 : decide ((n : Int) ≥ ((8 : Nat) : Int)) = false := by simp; omega
    rw [d1]; rfl
  · rw [if_neg c]
    have d1 : decide ((n : Int) ≥ ((8 : Nat) : Int)) = true := by simp; omega
    rw [d1]
    have hk := dk_dNew n (by omega) (by omega)
    have ho2 := impl_Open_eq (dNew n) (dl_mono (dl_dk hk) (by omega))
    rw [openP_again n (by omega) (by omega)] at ho2
    have hlm := dl_lim (dl_dk hk) (show 100001 ≤ 1000000000 by omega)
    have hu : impl_Used.f (dNew n) = some 8 := by
      unfold impl_Used.f
      rw [impl_DiskOk_eq _ hlm, hk, Option.bind_some]
      simp only [Bool.not_true, cond_false]
      rw [impl_used_eq _ (by have := hlm.1; omega) (by have := (dl_dk hk).2.1; omega)]
      show some ((usedN (dNew n).1 : Nat) : Int) = _
      have : usedN (dNew n).1 = 8 := by
        show (showLive (2, [1])).length + (0 + 0) = 8
        rw [live1_len]
      rw [this]; rfl
    have hsk := storeOk_dNew n (by omega) (by omega)
    have hso := spec_StoreOk_eq ((2, [1]), [], 1, 0, 0) (dNew n) hlm (by have := (dl_dk hk).2.1; omega) (by show 1 < _; decide) (by show 0 < _; decide)
    have hss := sameStore_self ((2, [1]), [], 1, 0, 0) (by show 1 < _; decide) (by show 0 < _; decide)
    have hsd := spec_SameDisk_self (dNew n) (by have := (diskOk_fuel hk).2.2; omega)
    have hsi : laws_sameInts.f [1] [1] = some true := by
      unfold laws_sameInts.f
      have key := all_loop (step := laws_sameInts.l0) ([1] : List Int) (fun _ => true) (fun n => ([1], [1], (n : Int))) () (by decide)
        (fun rec n h => by
          have : n = 0 := by simpa using h
          subst this
          rfl)
        (fun rec => rfl)
      have key : lp laws_sameInts.l0 ([1], [1], 0) = _ := key
      rw [key]; rfl
    simp only [ho2, hu, hso, hss, hsd, hsi, hsk, Option.bind_some]
    rfl

end Go.Rf.G
