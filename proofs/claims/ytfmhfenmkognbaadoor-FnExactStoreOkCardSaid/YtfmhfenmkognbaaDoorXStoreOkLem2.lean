/- Plain laws: what the plain functions answer. -/
import Derived.Test.YtfmhfenmkognbaaDoorXStoreOkLem1
namespace Go.Rf.G
open Go Go.Rf
set_option linter.unusedVariables false
set_option linter.unusedSimpArgs false
set_option synthInstance.maxSize 4000

theorem impl_StoreOk_l2 (s : StoreT) (d : DiskT) (h : dlim d) (hu : usedN d.1 < 1000000000) (hl : s.2.1.length < 1000000000) : lp impl_StoreOk.l2 (s, d, s.2.1, (s.2.1.length : Int), 0) = some (if s.2.1.all (entOk d s.2.2.1) = true then .inl () else .inr false) := by
  refine all_loop (step := impl_StoreOk.l2) s.2.1 (entOk d s.2.2.1) (fun n => (s, d, s.2.1, (s.2.1.length : Int), (n : Int))) () (by omega) ?_ ?_
  · intro rec n hn
    have hw := w64_succ (show n + 1 < 9223372036854775808 by omega)
    have hft := fileText_len d (segName s.2.1[n].2.1) h
    simp only [impl_StoreOk.l2, Int.ofNat_lt, hn, decide_true, cond_true, inB_nat, rdA_nat, getD_lt hn, impl_SegName_eq, impl_FileText_eq d _ h, impl_RecAt_eq (fileText d (segName s.2.1[n].2.1)).1 _ _ (show (fileText d (segName s.2.1[n].2.1)).1.length < 1000000000 by omega), Option.bind_some, hw, entOk]
    obtain ⟨r, hr⟩ : ∃ r, recAt (fileText d (segName s.2.1[n].2.1)).1 s.2.1[n].2.2.1 s.2.1[n].2.2.2.1 = r := ⟨_, rfl⟩
    simp only [hr]
    rcases Bool.eq_false_or_eq_true r.2 with h1 | h1 <;> rcases Bool.eq_false_or_eq_true (r.1.1 == 1) with h2 | h2 <;> rcases Bool.eq_false_or_eq_true (r.1.1 == 4) with h3 | h3 <;> rcases Bool.eq_false_or_eq_true (r.1.2.2.1 == s.2.1[n].1) with h4 | h4 <;> rcases Bool.eq_false_or_eq_true (r.1.2.1 == s.2.1[n].2.2.2.2) with h5 | h5 <;> rcases Bool.eq_false_or_eq_true (decide (s.2.1[n].2.2.2.2 ≥ s.2.2.1)) with h6 | h6 <;> simp only [bne, h1, h2, h3, h4, h5, h6, caseS_l, caseS_r, Bool.not_true, Bool.not_false, cond_true, cond_false, Option.bind_some, Bool.true_and, Bool.false_and, Bool.and_true, Bool.and_false, Bool.or_true, Bool.or_false, Bool.true_or, Bool.false_or, if_true, if_false, Bool.false_eq_true, hw]
  · intro rec
    simp [impl_StoreOk.l2]

theorem spec_StoreOk_l2 (s : StoreT) (d : DiskT) (h : dlim d) (hu : usedN d.1 < 1000000000) (hl : s.2.1.length < 1000000000) : lp spec_StoreOk.l2 (s, d, 0) = some (if s.2.1.all (entOk d s.2.2.1) = true then .inl () else .inr false) := by
  refine all_loop (step := spec_StoreOk.l2) s.2.1 (entOk d s.2.2.1) (fun n => (s, d, (n : Int))) () (by omega) ?_ ?_
  · intro rec n hn
    have hw := w64_succ (show n + 1 < 9223372036854775808 by omega)
    have hft := fileText_len d (segName s.2.1[n].2.1) h
    simp only [spec_StoreOk.l2, Int.ofNat_lt, hn, decide_true, cond_true, inB_nat, rdA_nat, getD_lt hn, spec_SegName_eq, spec_FileText_eq d _ h, spec_RecAt_eq (fileText d (segName s.2.1[n].2.1)).1 _ _ (show (fileText d (segName s.2.1[n].2.1)).1.length < 1000000000 by omega), Option.bind_some, hw, entOk]
    obtain ⟨r, hr⟩ : ∃ r, recAt (fileText d (segName s.2.1[n].2.1)).1 s.2.1[n].2.2.1 s.2.1[n].2.2.2.1 = r := ⟨_, rfl⟩
    simp only [hr]
    rcases Bool.eq_false_or_eq_true r.2 with h1 | h1 <;> rcases Bool.eq_false_or_eq_true (r.1.1 == 1) with h2 | h2 <;> rcases Bool.eq_false_or_eq_true (r.1.1 == 4) with h3 | h3 <;> rcases Bool.eq_false_or_eq_true (r.1.2.2.1 == s.2.1[n].1) with h4 | h4 <;> rcases Bool.eq_false_or_eq_true (r.1.2.1 == s.2.1[n].2.2.2.2) with h5 | h5 <;> rcases Bool.eq_false_or_eq_true (decide (s.2.1[n].2.2.2.2 ≥ s.2.2.1)) with h6 | h6 <;> simp only [bne, h1, h2, h3, h4, h5, h6, caseS_l, caseS_r, Bool.not_true, Bool.not_false, cond_true, cond_false, Option.bind_some, Bool.true_and, Bool.false_and, Bool.and_true, Bool.and_false, Bool.or_true, Bool.or_false, Bool.true_or, Bool.false_or, if_true, if_false, Bool.false_eq_true, hw]
  · intro rec
    simp [spec_StoreOk.l2]

theorem spec_StoreOk_l0 (s : StoreT) (d : DiskT) (h : dlim d) (hu : usedN d.1 < 1000000000) (hl : s.1.2.length < 1000000000) : lp spec_StoreOk.l0 (s, d, 0) = some (if segsOk d s.2.2.2.1 s.1.2 = true then .inl (s, d) else .inr false) := by
  have key := lp_up (step := spec_StoreOk.l0) (fun n (_ : Unit) => (s, d, (n : Int))) s.1.2.length (fun n _ => if segsOk d s.2.2.2.1 (s.1.2.drop n) = true then .inl (s, d) else .inr false) (fun _ _ => True)
    (fun rec n a hn _ ih => by
      rcases Nat.lt_or_ge n s.1.2.length with h1 | h1
      · have hw := w64_succ (show n + 1 < 9223372036854775808 by omega)
        have hft := fileText_len d (segName s.1.2[n]) h
        have hsl := (scan_len (fileText d (segName s.1.2[n])).1).1
        have ih := ih () h1 trivial
        rw [List.drop_eq_getElem_cons h1]
        have hlast : (s.1.2.drop (n + 1)).isEmpty = (((n + 1 : Nat) : Int) == (s.1.2.length : Int)) := by
          by_cases c : n + 1 = s.1.2.length
          · have c1 : (((n + 1 : Nat) : Int) == (s.1.2.length : Int)) = true := by simp; omega
            rw [c1, c, List.drop_length]; rfl
          · have c1 : (((n + 1 : Nat) : Int) == (s.1.2.length : Int)) = false := by simp; omega
            rw [c1]
            cases e : s.1.2.drop (n + 1) with
            | nil => rw [List.drop_eq_nil_iff] at e; omega
            | cons x r => rfl
        simp only [segsOk, hlast, spec_StoreOk.l0, Int.ofNat_lt, h1, decide_true, cond_true, inB_nat, rdA_nat, getD_lt h1, spec_SegName_eq, spec_FileText_eq d _ h, spec_ScanRecs_eq (fileText d (segName s.1.2[n])).1 (show (fileText d (segName s.1.2[n])).1.length < 1000000000 by omega), Option.bind_some, hw]
        unfold segOk
        cases hb : (fileText d (segName s.1.2[n])).2
        · simp
        simp only [Bool.not_true, cond_false, Bool.true_and]
        by_cases c1 : (scan (fileText d (segName s.1.2[n])).1).2 = (fileText d (segName s.1.2[n])).1.length
        rotate_left
        · have d1 : (scan (fileText d (segName s.1.2[n])).1).2 < (fileText d (segName s.1.2[n])).1.length := by omega
          simp only [d1, decide_true, cond_true, Option.bind_some, caseS_r, c1, decide_false]; simp
        simp only [c1, Nat.lt_irrefl, decide_false, cond_false, decide_true, Bool.true_and]
        cases hz : (((n + 1 : Nat) : Int) == (s.1.2.length : Int))
        · simp only [cond_false, Option.bind_some, caseS_l, hw, ih, Bool.not_false, Bool.true_or, Bool.true_and]
        · by_cases c2 : s.2.2.2.1 = ((fileText d (segName s.1.2[n])).1.length : Int)
          · have d2 : (s.2.2.2.1 != ((fileText d (segName s.1.2[n])).1.length : Int)) = false := by simpa using c2
            simp only [cond_true, d2, cond_false, Option.bind_some, caseS_l, hw, ih, Bool.not_true, Bool.false_or, decide_eq_true c2, Bool.true_and]
          · have d2 : (s.2.2.2.1 != ((fileText d (segName s.1.2[n])).1.length : Int)) = true := by simpa using c2
            simp only [cond_true, d2, Option.bind_some, caseS_r, Bool.not_true, Bool.false_or, decide_eq_false c2, Bool.false_and, Bool.false_eq_true, if_false]
      · have : n = s.1.2.length := by omega
        subst this
        simp [spec_StoreOk.l0, segsOk])
    (by omega) 0 () (Nat.zero_le _) trivial
  have key : lp spec_StoreOk.l0 (s, d, 0) = _ := key
  rw [key, List.drop_zero]

theorem impl_StoreOk_eq (s : StoreT) (d : DiskT) (h : dlim d) (hu : usedN d.1 < 1000000000) (h1 : s.1.2.length < 1000000000) (h2 : s.2.1.length < 1000000000) : impl_StoreOk.f s d = some (storeOk s d) := by
  unfold impl_StoreOk.f storeOk
  rw [impl_DiskOk_eq d h, impl_LiveOk_eq s.1 (by omega), impl_DirOk_eq s.2.1 (by omega), impl_in_eq, impl_StoreOk_l0 s d h hu h1]
  simp only [Option.bind_some]
  cases diskOk d <;> simp only [Bool.not_true, Bool.not_false, cond_true, cond_false, Bool.true_and, Bool.false_and]
  cases liveOk s.1 <;> simp only [Bool.not_true, Bool.not_false, cond_true, cond_false, Bool.true_and, Bool.false_and]
  cases dirOk s.2.1 <;> simp only [Bool.not_true, Bool.not_false, cond_true, cond_false, Bool.true_and, Bool.false_and]
  cases decide (1 ≤ s.2.2.1 ∧ s.2.2.1 ≤ 1000001) <;> simp only [Bool.not_true, Bool.not_false, cond_true, cond_false, Bool.true_and, Bool.false_and]
  cases segsOk d s.2.2.2.1 s.1.2 <;> simp only [if_true, if_false, Bool.false_eq_true, caseS_l, caseS_r, Bool.true_and, Bool.false_and]
  rw [impl_StoreOk_l2 s d h hu h2, Option.bind_some]
  cases s.2.1.all (entOk d s.2.2.1) <;> simp only [if_true, if_false, Bool.false_eq_true, caseS_l, caseS_r]

theorem spec_StoreOk_eq (s : StoreT) (d : DiskT) (h : dlim d) (hu : usedN d.1 < 1000000000) (h1 : s.1.2.length < 1000000000) (h2 : s.2.1.length < 1000000000) : spec_StoreOk.f s d = some (storeOk s d) := by
  unfold spec_StoreOk.f storeOk
  rw [spec_DiskOk_eq d h, spec_LiveOk_eq s.1 (by omega), spec_DirOk_eq s.2.1 (by omega), spec_l1In_eq, spec_StoreOk_l0 s d h hu h1]
  simp only [Option.bind_some]
  cases diskOk d <;> simp only [Bool.not_true, Bool.not_false, cond_true, cond_false, Bool.true_and, Bool.false_and]
  cases liveOk s.1 <;> simp only [Bool.not_true, Bool.not_false, cond_true, cond_false, Bool.true_and, Bool.false_and]
  cases dirOk s.2.1 <;> simp only [Bool.not_true, Bool.not_false, cond_true, cond_false, Bool.true_and, Bool.false_and]
  cases decide (1 ≤ s.2.2.1 ∧ s.2.2.1 ≤ 1000001) <;> simp only [Bool.not_true, Bool.not_false, cond_true, cond_false, Bool.true_and, Bool.false_and]
  cases segsOk d s.2.2.2.1 s.1.2 <;> simp only [if_true, if_false, Bool.false_eq_true, caseS_l, caseS_r, Bool.true_and, Bool.false_and]
  rw [spec_StoreOk_l2 s d h hu h2, Option.bind_some]
  cases s.2.1.all (entOk d s.2.2.1) <;> simp only [if_true, if_false, Bool.false_eq_true, caseS_l, caseS_r]

theorem FnExactStoreOk_true (x0 : StoreT) (w0 : wfD (.pair (.pair (.int .i64) (.sl false (.int .i64))) (.pair (.sl false (.pair .str (.pair (.int .i64) (.pair (.int .i64) (.pair (.int .i64) (.int .i64)))))) (.pair (.int .i64) (.pair (.int .i64) (.int .i64))))) x0) (x1 : DiskT) (w1 : wfD (.pair (.sl false (.pair .str (.pair .str (.int .i64)))) (.pair (.int .i64) (.pair (.int .i64) .bool))) x1) : laws_FnExactStoreOk.f x0 x1 = some true := by
  have k0 := of_Store _ w0
  have k1 := of_Disk _ w1
  unfold laws_FnExactStoreOk.f
  rw [szStore_eq x0 1048576 (by omega) (by omega) k0, Option.bind_some, szr_neg]
  by_cases c0 : ((bulk_Store x0 : Nat) : Int) ≤ 1048576
  rotate_left
  · simp [c0]
  simp only [c0, decide_true, Bool.not_true, cond_false]
  rw [szr_pos c0, szDisk_eq x1 _ (by omega) (by omega) k1, Option.bind_some, szr_neg]
  by_cases c1 : ((bulk_Disk x1 : Nat) : Int) ≤ 1048576 - (bulk_Store x0 : Nat)
  rotate_left
  · simp [c1]
  simp only [c1, decide_true, Bool.not_true, cond_false]
  have hb : bulk_Store x0 ≤ 1048576 := by omega
  have hb1 : bulk_Disk x1 ≤ 1048576 := by omega
  have hd := dlim_of k1 hb1
  have hu := used_lt hb1
  have l1 : x1.1.length ≤ 1048576 := by unfold bulk_Disk bulkL at hb1; omega
  have l2 : x0.1.2.length ≤ 1048576 := by unfold bulk_Store bulk_Live bulkL at hb; omega
  have l3 : x0.2.1.length ≤ 1048576 := by unfold bulk_Store bulkL at hb; omega
  have hx : lim_Disk x1 := show _ < _ by omega
  have hs : lim_Store x0 := by constructor <;> first | omega | (show _ < _; omega)
  simp only [toStore_eq _ k0 hb, toDisk_eq _ k1 hb1, spec_StoreOk_eq x0 x1 hd hu (by omega) (by omega), impl_StoreOk_eq x0 x1 hd hu (by omega) (by omega), Option.bind_some, beq_self_eq_true, cond_false, eqStore_eq x0 x0 hs, eqDisk_eq x1 x1 hx, decide_true, Bool.not_true]

end Go.Rf.G
