/- Plain: Rename; the laws of the disk's steps. -/
import Derived.Test.YtaijmhaonokniaaLg
namespace Go.Rf.G
open Go Go.Rf
set_option linter.unusedVariables false
set_option linter.unusedSimpArgs false
set_option synthInstance.maxSize 4000

theorem rise_pw : ∀ (l : List FileT) (p : List UInt8), riseF (some p) l = true → (∀ x ∈ l, Op.bytesLess p x.1 = true) ∧ l.Pairwise (fun a b => Op.bytesLess a.1 b.1 = true)
  | [], p, _ => ⟨by simp, List.Pairwise.nil⟩
  | f :: l, p, h => by
    simp only [riseF, Bool.and_eq_true] at h
    obtain ⟨h1, h2⟩ := rise_pw l f.1 h.2
    refine ⟨fun x hx => ?_, List.Pairwise.cons h1 h2⟩
    rcases List.mem_cons.1 hx with e | hx
    · rw [e]; exact h.1
    · exact less_trans _ _ _ h.1 (h1 x hx)

theorem rise_pw0 (l : List FileT) (h : riseF none l = true) : l.Pairwise (fun a b => Op.bytesLess a.1 b.1 = true) := by
  cases l with
  | nil => exact List.Pairwise.nil
  | cons f l =>
    obtain ⟨h1, h2⟩ := rise_pw l f.1 h
    exact List.Pairwise.cons h1 h2

theorem diskOk_pw {d : DiskT} (h : diskOk d = true) : d.1.Pairwise (fun a b => Op.bytesLess a.1 b.1 = true) := by
  unfold diskOk filesOk at h
  simp only [Bool.and_eq_true] at h
  exact rise_pw0 _ h.2.2.2.2.2

theorem remIx_split {l : List FileT} {i : Nat} (h : i < l.length) : l = l.take i ++ l[i] :: l.drop (i + 1) := by
  rw [← List.drop_eq_getElem_cons h, List.take_append_drop]

theorem remIx_sub (l : List FileT) (i : Nat) : (remIx l i).Sublist l := by
  unfold remIx
  have : (l.take i ++ l.drop (i + 1)).Sublist (l.take i ++ l.drop i) := List.Sublist.append (List.Sublist.refl _) (List.drop_sublist_drop_left l (by omega))
  rw [List.take_append_drop] at this
  exact this

theorem remIx_ne {l : List FileT} {i : Nat} (h : i < l.length) (hp : l.Pairwise (fun a b => Op.bytesLess a.1 b.1 = true)) : ∀ x ∈ remIx l i, x.1 ≠ l[i].1 := by
  rw [remIx_split h, List.pairwise_append] at hp
  obtain ⟨_, h2, h3⟩ := hp
  intro x hx
  rcases List.mem_append.1 hx with hx | hx
  · exact less_ne (h3 x hx _ List.mem_cons_self)
  · exact (less_ne ((List.pairwise_cons.1 h2).1 x hx)).symm

theorem dropF_ne {l : List FileT} {name : List UInt8} (hp : l.Pairwise (fun a b => Op.bytesLess a.1 b.1 = true)) : ∀ x ∈ dropF l name, x.1 ≠ name := by
  unfold dropF
  rcases fileIx_cases l name with ⟨e, hno⟩ | ⟨i, hi, e, hn⟩
  · rw [ix_none e]; exact hno
  · rw [ix_some e, ← hn]; exact remIx_ne hi hp

theorem dropF_no {l : List FileT} {name : List UInt8} (h : ∀ x ∈ l, x.1 ≠ name) : dropF l name = l := by
  unfold dropF
  have : l.findIdx? (fun f => f.1 == name) = none := by
    rw [List.findIdx?_eq_none_iff]
    intro x hx
    simpa using h x hx
  rw [this]

theorem putF_back {l : List FileT} {i : Nat} (h : i < l.length) (hp : l.Pairwise (fun a b => Op.bytesLess a.1 b.1 = true)) : putF (remIx l i) l[i] = l := by
  have hs := hp
  rw [remIx_split h, List.pairwise_append] at hs
  obtain ⟨_, h2, h3⟩ := hs
  have e1 : ((remIx l i).takeWhile fun x => Op.bytesLess x.1 l[i].1) = l.take i := by
    unfold remIx
    rw [List.takeWhile_append_of_pos (fun x hx => h3 x hx _ List.mem_cons_self)]
    have : (l.drop (i + 1)).takeWhile (fun x => Op.bytesLess x.1 l[i].1) = [] := by
      cases e : l.drop (i + 1) with
      | nil => rfl
      | cons y r =>
        rw [List.takeWhile_cons, less_asymm _ _ ((List.pairwise_cons.1 h2).1 y (by rw [e]; simp))]; rfl
    rw [this, List.append_nil]
  unfold putF
  rw [e1]
  have hk : (l.take i).length = i := by rw [List.length_take]; omega
  simp only [hk]
  unfold remIx
  rw [List.take_append_of_le_length (by omega), List.take_take, Nat.min_self, List.drop_append_of_le_length (by omega), List.drop_take, Nat.sub_self, List.take_zero, List.nil_append, List.append_assoc, List.singleton_append]
  exact (remIx_split h).symm

def actRename (src dst : List UInt8) (l : List FileT) : Int × List FileT :=
  if nameOk dst = false then (5, l) else
  match l.findIdx? (fun f => f.1 == src) with
  | some i => (0, if src = dst then l else insB (dropF (remIx l i) dst) (dst, (l.getD i ([], [], 0)).2))
  | none => (3, l)

theorem impl_Rename_1_eq (d : DiskT) (src dst : List UInt8) (h : d.1.length < 1000000000) (hn : dst.length < 2 ^ 62) (hp : d.1.Pairwise (fun a b => Op.bytesLess a.1 b.1 = true)) : impl_Rename_1.f d src dst = some ((actRename src dst d.1).1, (actRename src dst d.1).2, d.2) := by
  unfold impl_Rename_1.f actRename
  rw [impl_fileAt_eq d src (by omega), Option.bind_some, impl_NameOk_eq dst hn, Option.bind_some, impl_Disk_drop_eq d src h]
  rcases Bool.eq_false_or_eq_true (nameOk dst) with k | k
  rotate_left
  · simp [k]
  simp only [k, Bool.not_true, cond_false, Bool.true_eq_false, if_false]
  rcases fileIx_cases d.1 src with ⟨e, _⟩ | ⟨i, hi, e, hsrc⟩
  · rw [e, ix_none e]; rfl
  · have e0 : dropF d.1 src = remIx d.1 i := by unfold dropF; rw [ix_some e]
    rw [e, ix_some e, e0]
    have hl := remIx_len hi
    have hl2 := dropF_len (remIx d.1 i) dst
    simp only [dnn (show (0 : Int) ≤ (i : Int) by omega), cond_false, inB_ix hi, cond_true, rdA_ix hi, Option.bind_some, getD_lt hi, impl_Disk_drop_eq (remIx d.1 i, d.2) dst (show (remIx d.1 i).length < 1000000000 by omega), impl_Disk_put_eq (dropF (remIx d.1 i) dst, d.2) (dst, d.1[i].2.1, d.1[i].2.2) (show (dropF (remIx d.1 i) dst).length < 1000000000 by omega)]
    by_cases c : src = dst
    · simp only [c, if_true]
      have hd : d.1[i].1 = dst := by rw [hsrc, c]
      have e2 : dropF (remIx d.1 i) dst = remIx d.1 i := dropF_no (by rw [← hd]; exact remIx_ne hi hp)
      have e3 : putF (remIx d.1 i) (dst, d.1[i].2.1, d.1[i].2.2) = d.1 := by
        have := putF_back hi hp
        rw [← hd]; exact this
      rw [e2, e3]
    · simp only [c, if_false]
      rw [putF_ins (l := dropF (remIx d.1 i) dst) (f := (dst, d.1[i].2.1, d.1[i].2.2)) (dropF_ne (hp.sublist (remIx_sub d.1 i)))]

theorem impl_Rename_eq (d : DiskT) (src dst : List UInt8) (h : dlim d) (hn : dst.length < 2 ^ 62) : impl_Rename.f d src dst = some (dstep d (actRename src dst)) := by
  have hs : impl_step_Rename_1.f d (src, dst) = some (dstep d (actRename src dst)) := step_eq d h (src, dst) (fun c x => impl_Rename_1.f x c.1 c.2) (actRename src dst) fun k => by
    show impl_Rename_1.f (tick d) src dst = _
    rw [impl_Rename_1_eq (tick d) src dst (by rw [tick_fst]; exact h.1) hn (by rw [tick_fst]; exact diskOk_pw k), tick_fst]
  unfold impl_Rename.f
  rw [hs]; rfl

theorem spec_Rename_eq (d : DiskT) (src dst : List UInt8) (h : dlim d) (hn : dst.length < 2 ^ 62) : spec_Rename.f d src dst = some (dstep d (actRename src dst)) := by
  have hl := h.1
  unfold spec_Rename.f
  rcases begin_ways d h with ⟨x, c, e1, e2, e3⟩ | ⟨k, e1, e3⟩
  · rw [e1, e3, Option.bind_some]; simp only [e2, cond_true]
  rw [e1, e3, Option.bind_some]
  have hp := diskOk_pw k
  simp only [bne_self_eq_false, cond_false, spec_NameOk_eq dst hn, spec_l3Find_eq d src (show d.1.length < 2 ^ 62 by omega), Option.bind_some]
  unfold actRename
  have ht : (d.1, (tick d).2) = tick d := by rw [← tick_fst d]
  rcases Bool.eq_false_or_eq_true (nameOk dst) with k2 | k2
  rotate_left
  · simp [k2, ht]
  simp only [k2, Bool.not_true, cond_false, Bool.true_eq_false, if_false]
  rcases fileIx_cases d.1 src with ⟨e, _⟩ | ⟨i, hi, e, hsrc⟩
  · rw [e, ix_none e]
    show some (tick d, 3) = some ((d.1, (tick d).2), 3)
    rw [← tick_fst d]
  · rw [e, ix_some e]
    have hlr := remIx_len hi
    have hl2 := dropF_len (remIx d.1 i) dst
    simp only [dnn (show (0 : Int) ≤ (i : Int) by omega), cond_false]
    by_cases c : src = dst
    · simp [c, ht]
    have c1 : (src == dst) = false := by simpa using c
    simp only [c, c1, cond_false, if_false, inB_ix hi, cond_true, rdA_ix hi, getD_lt hi, tick_fst, spec_l3Without_eq d.1 i hi hl, Option.bind_some, spec_l3Find_eq (remIx d.1 i, (tick d).2) dst (show (remIx d.1 i).length < 2 ^ 62 by omega)]
    rcases fileIx_cases (remIx d.1 i) dst with ⟨e', hno⟩ | ⟨j, hj, e', hdst⟩
    · have c2 : ¬ fileIx (remIx d.1 i) dst ≥ 0 := by omega
      simp only [c2, decide_false, cond_false, Option.bind_some, spec_l3Insert_eq (remIx d.1 i) _ (show (remIx d.1 i).length < 1000000000 by omega), dropF_no hno]
    · have c2 : fileIx (remIx d.1 i) dst ≥ 0 := by omega
      have e4 : dropF (remIx d.1 i) dst = remIx (remIx d.1 i) j := by unfold dropF; rw [ix_some e']
      rw [e4] at hl2
      simp only [c2, decide_true, cond_true]
      simp only [e', spec_l3Without_eq (remIx d.1 i) j hj (by omega), Option.bind_some, spec_l3Insert_eq (remIx (remIx d.1 i) j) _ (show (remIx (remIx d.1 i) j).length < 1000000000 by omega), e4]

/-! ### the laws -/

noncomputable def diskLaw (S I : DiskT → Option (DiskT × Int)) (p0 : DiskT) : Option Bool :=
  (laws_szDisk.f p0 1048576).bind fun t1 =>
  bif decide (t1 < 0) then
  some true
  else
  (laws_toDisk.f p0).bind fun t2 =>
  (S t2).bind fun (t3_0, t3_1) =>
  (laws_toDisk.f p0).bind fun t4 =>
  (I t4).bind fun (t5_0, t5_1) =>
  (laws_eqDisk.f t5_0 t3_0).bind fun t6 =>
  bif !t6 then
  some false
  else
  bif t5_1 != t3_1 then
  some false
  else
  (laws_toDisk.f p0).bind fun t7 =>
  (laws_eqDisk.f t4 t7).bind fun t8 =>
  bif !t8 then
  some false
  else
  (laws_markDisk.f t4 1).bind fun (t9_0, t9_1) =>
  bif decide (t9_0 < 0) then
  some false
  else
  (laws_eqDisk.f t5_0 t3_0).bind fun t10 =>
  bif !t10 then
  some false
  else
  bif t5_1 != t3_1 then
  some false
  else
  (laws_markDisk.f t5_0 1).bind fun (t11_0, t11_1) =>
  (laws_heldDisk.f (t11_1.1, t5_0.2) 1).bind fun t12 =>
  bif decide (t12 < 0) then
  some false
  else
  bif t12 != t11_0 then
  some false
  else
  (laws_toDisk.f p0).bind fun t13 =>
  (I t13).bind fun (t14_0, t14_1) =>
  (laws_eqDisk.f t14_0 t3_0).bind fun t15 =>
  bif !t15 then
  some false
  else
  bif t14_1 != t3_1 then
  some false
  else
  (laws_heldDisk.f (t11_1.1, t5_0.2) 1).bind fun t16 =>
  bif decide (t16 < 0) then
  some false
  else
  bif t16 != t11_0 then
  some false
  else
  some true

theorem sumN_le {α : Type} {f g : α → Nat} (h : ∀ x, f x ≤ g x) : ∀ l : List α, sumN f l ≤ sumN g l
  | [] => Nat.le_refl _
  | x :: l => Nat.add_le_add (h x) (sumN_le h l)

theorem dlim_of {x0 : DiskT} (hok : ok_Disk x0) (hb : bulk_Disk x0 ≤ 1048576) : dlim x0 := by
  have h1 : usedN x0.1 ≤ sumN bulk_File x0.1 := sumN_le (fun f => by unfold bulk_File; omega) _
  unfold bulk_Disk bulkL at hb
  refine ⟨by omega, by omega, fun f hf => ?_⟩
  have h2 := sumN_mem bulk_File hf
  have h3 : f.1.length ≤ bulk_File f := by unfold bulk_File; omega
  omega

theorem diskLaw_true (S I : DiskT → Option (DiskT × Int)) (x0 : DiskT) (w0 : wfD (.pair (.sl false (.pair .str (.pair .str (.int .i64)))) (.pair (.int .i64) (.pair (.int .i64) .bool))) x0)
    (h : dlim x0 → ∃ R : DiskT × Int, S x0 = some R ∧ I x0 = some R ∧ R.1.1.length ≤ x0.1.length + 1) : diskLaw S I x0 = some true := by
  have k0 := of_Disk _ w0
  have b0 := len_le k0.1
  unfold diskLaw
  rw [szDisk_eq x0 1048576 (by omega) (by omega) k0, Option.bind_some, szr_neg]
  by_cases c0 : ((bulk_Disk x0 : Nat) : Int) ≤ 1048576
  rotate_left
  · simp [c0]
  simp only [c0, decide_true, Bool.not_true, cond_false]
  have hb : bulk_Disk x0 ≤ 1048576 := by omega
  have l1 : x0.1.length ≤ 1048576 := by unfold bulk_Disk bulkL at hb; omega
  obtain ⟨⟨D, c⟩, e1, e2, e3⟩ := h (dlim_of k0 hb)
  have e3 : D.1.length ≤ x0.1.length + 1 := e3
  have hx : lim_Disk x0 := show _ < _ by omega
  have hD : lim_Disk D := show _ < _ by omega
  have hm : limm_Disk x0 := show _ < _ by omega
  have hmD : limm_Disk D := show _ < _ by omega
  have hc : 1 + ((cnt_Disk x0 : Nat) : Int) < 1000000000000 := by unfold cnt_Disk; omega
  have hcD : 1 + ((cnt_Disk D : Nat) : Int) < 1000000000000 := by unfold cnt_Disk; omega
  have hmk : ((mkc_Disk 1 D).1, D.2) = mkc_Disk 1 D := rfl
  simp only [toDisk_eq _ k0 hb, e1, e2, eqDisk_eq x0 x0 hx, eqDisk_eq D D hD, markDisk_eq x0 1 hm (by omega) hc, markDisk_eq D 1 hmD (by omega) hcD, hmk, heldDisk_eq D 1 hmD (by omega) hcD, Option.bind_some, decide_true, Bool.not_true, cond_false, bne_self_eq_false]
  simp only [dnn (show (0 : Int) ≤ 1 + ((cnt_Disk x0 : Nat) : Int) by omega), dnn (show (0 : Int) ≤ 1 + ((cnt_Disk D : Nat) : Int) by omega), cond_false]

theorem dstep_len (d : DiskT) (act : List FileT → Int × List FileT) (h : (act d.1).2.length ≤ d.1.length + 1) : (dstep d act).1.1.length ≤ d.1.length + 1 := by
  unfold dstep
  split
  · simp
  · split
    · simp
    · exact h

theorem lenB {a : Nat} {K : Option Bool} (h : (a : Int) ≤ 1048576 → K = some true) : (bif decide ((a : Int) > 1048576) then some true else K) = some true := by
  by_cases c : (a : Int) > 1048576
  · simp [c]
  · simp only [c, decide_false, cond_false]; exact h (by omega)

theorem FnExactSync_true (x0 : DiskT) (w0 : wfD (.pair (.sl false (.pair .str (.pair .str (.int .i64)))) (.pair (.int .i64) (.pair (.int .i64) .bool))) x0) (x1 : List UInt8) (w1 : wfD .str x1) : laws_FnExactSync.f x0 x1 = some true :=
  lenB fun h1 => diskLaw_true (fun x => spec_Sync.f x x1) (fun x => impl_Sync.f x x1) x0 w0 fun hd =>
    ⟨_, spec_Sync_eq x0 x1 hd, impl_Sync_eq x0 x1 hd, dstep_len _ _ (by unfold actSync; split <;> simp)⟩

theorem FnExactRemove_true (x0 : DiskT) (w0 : wfD (.pair (.sl false (.pair .str (.pair .str (.int .i64)))) (.pair (.int .i64) (.pair (.int .i64) .bool))) x0) (x1 : List UInt8) (w1 : wfD .str x1) : laws_FnExactRemove.f x0 x1 = some true :=
  lenB fun h1 => diskLaw_true (fun x => spec_Remove.f x x1) (fun x => impl_Remove.f x x1) x0 w0 fun hd =>
    ⟨_, spec_Remove_eq x0 x1 hd, impl_Remove_eq x0 x1 hd, dstep_len _ _ (by
      unfold actRemove
      split
      · exact Nat.le_trans (remIx_sub _ _).length_le (Nat.le_succ _)
      · simp)⟩

theorem FnExactTruncate_true (x0 : DiskT) (w0 : wfD (.pair (.sl false (.pair .str (.pair .str (.int .i64)))) (.pair (.int .i64) (.pair (.int .i64) .bool))) x0) (x1 : List UInt8) (w1 : wfD .str x1) (x2 : Int) (w2 : wfD (.int .i64) x2) : laws_FnExactTruncate.f x0 x1 x2 = some true :=
  lenB fun h1 => diskLaw_true (fun x => spec_Truncate.f x x1 x2) (fun x => impl_Truncate.f x x1 x2) x0 w0 fun hd =>
    ⟨_, spec_Truncate_eq x0 x1 x2 hd, impl_Truncate_eq x0 x1 x2 hd, dstep_len _ _ (by
      unfold actTrunc
      split
      · split <;> simp
      · simp)⟩

theorem FnExactAppend_true (x0 : DiskT) (w0 : wfD (.pair (.sl false (.pair .str (.pair .str (.int .i64)))) (.pair (.int .i64) (.pair (.int .i64) .bool))) x0) (x1 : List UInt8) (w1 : wfD .str x1) (x2 : List UInt8) (w2 : wfD .str x2) : laws_FnExactAppend.f x0 x1 x2 = some true :=
  lenB fun h1 => lenB fun h2 => diskLaw_true (fun x => spec_Append.f x x1 x2) (fun x => impl_Append.f x x1 x2) x0 w0 fun hd =>
    ⟨_, spec_Append_eq x0 x1 x2 hd (by omega), impl_Append_eq x0 x1 x2 hd (by omega), dstep_len _ _ (by
      unfold actAppend
      split
      · split <;> simp
      · simp)⟩

theorem FnExactCreate_true (x0 : DiskT) (w0 : wfD (.pair (.sl false (.pair .str (.pair .str (.int .i64)))) (.pair (.int .i64) (.pair (.int .i64) .bool))) x0) (x1 : List UInt8) (w1 : wfD .str x1) : laws_FnExactCreate.f x0 x1 = some true :=
  lenB fun h1 => diskLaw_true (fun x => spec_Create.f x x1) (fun x => impl_Create.f x x1) x0 w0 fun hd =>
    ⟨_, spec_Create_eq x0 x1 hd (by omega), impl_Create_eq x0 x1 hd (by omega), dstep_len _ _ (by
      unfold actCreate
      split
      · simp
      · split
        · simp
        · split
          · simp
          · rw [insB_len]; exact Nat.le_refl _)⟩

theorem FnExactRename_true (x0 : DiskT) (w0 : wfD (.pair (.sl false (.pair .str (.pair .str (.int .i64)))) (.pair (.int .i64) (.pair (.int .i64) .bool))) x0) (x1 : List UInt8) (w1 : wfD .str x1) (x2 : List UInt8) (w2 : wfD .str x2) : laws_FnExactRename.f x0 x1 x2 = some true :=
  lenB fun h1 => lenB fun h2 => diskLaw_true (fun x => spec_Rename.f x x1 x2) (fun x => impl_Rename.f x x1 x2) x0 w0 fun hd =>
    ⟨_, spec_Rename_eq x0 x1 x2 hd (by omega), impl_Rename_eq x0 x1 x2 hd (by omega), dstep_len _ _ (by
      unfold actRename
      split
      · simp
      · split
        · simp only
          split
          · simp
          · rename_i i _ _
            rw [insB_len]
            have h1 := (remIx_sub x0.1 i).length_le
            have h2 := dropF_len (remIx x0.1 i) x2
            omega
        · simp)⟩
end Go.Rf.G
