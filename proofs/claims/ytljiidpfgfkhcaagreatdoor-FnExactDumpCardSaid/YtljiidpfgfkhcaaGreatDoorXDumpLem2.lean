/- Plain laws: what the plain functions answer. -/
import Derived.Test.YtljiidpfgfkhcaaGreatDoorXDumpLem1
namespace Go.Rf.G
open Go Go.Rf
set_option linter.unusedVariables false
set_option linter.unusedSimpArgs false
set_option synthInstance.maxSize 4000

theorem impl_Dump_eq (s : StoreT) (d : DiskT) (h : dlim d) (hu : usedN d.1 < 1000000000) (hs : s.2.1.length < 1000000000) : impl_Dump.f s d = some (dumpP s d) := by
  have hkl : (s.2.1.map (·.1)).length = s.2.1.length := List.length_map _
  have key := lp_up (step := impl_Dump.l0) (fun n (acc : List PairT) => (s, d, acc, s.2.1.map (·.1), ((s.2.1.map (·.1)).length : Int), (n : Int))) s.2.1.length (fun n acc => if (dumpL s d (s.2.1.drop n) acc).2 = 0 then .inl (dumpL s d (s.2.1.drop n) acc).1 else .inr ([], (dumpL s d (s.2.1.drop n) acc).2)) (fun n acc => acc.length = n)
    (fun rec n acc hn ha ih => by
      rcases Nat.lt_or_ge n s.2.1.length with h1 | h1
      · have hw := w64_succ (show n + 1 < 9223372036854775808 by omega)
        have h2 : n < (s.2.1.map (·.1)).length := by rw [hkl]; exact h1
        rw [List.drop_eq_getElem_cons h1]
        simp only [impl_Dump.l0, Int.ofNat_lt, h2, decide_true, cond_true, inB_nat, rdA_nat, getD_lt h2, List.getElem_map, hw, impl_Get_eq s d _ h hu (show s.2.1.length < 2 ^ 62 by omega), Option.bind_some, dumpL]
        by_cases c : (getP s d (s.2.1[n]).1).2 = 0
        · have c1 : ((getP s d (s.2.1[n]).1).2 != 0) = false := by simpa using c
          have hb : (acc.length + ([(getP s d (s.2.1[n]).1).1] : List PairT).length) * 40 ≤ 140737488355328 := lim40 (by omega)
          have ih := ih (acc ++ [(getP s d (s.2.1[n]).1).1]) h1 (by rw [List.length_append, ha]; rfl)
          simp only [c1, cond_false, hb, decide_true, cond_true, ih, c, ne_eq, not_true_eq_false, if_false, bne_self_eq_false]
        · have c1 : ((getP s d (s.2.1[n]).1).2 != 0) = true := by simpa using c
          simp only [c1, cond_true, c, ne_eq, not_false_eq_true, if_true, if_false]
      · have : n = s.2.1.length := by omega
        subst this
        simp [impl_Dump.l0, dumpL])
    (by omega) 0 [] (Nat.zero_le _) rfl
  have key : lp impl_Dump.l0 (s, d, [], s.2.1.map (·.1), ((s.2.1.map (·.1)).length : Int), 0) = _ := key
  unfold impl_Dump.f dumpP
  rw [impl_DirKeys_eq _ hs, Option.bind_some, key, Option.bind_some, List.drop_zero]
  have hz : ∀ (l : List EntryT) (acc : List PairT), (dumpL s d l acc).2 ≠ 0 → (dumpL s d l acc).1 = [] := by
    intro l
    induction l with
    | nil => intro acc hh; simp [dumpL] at hh
    | cons e r ih =>
      intro acc hh
      unfold dumpL at hh ⊢
      split
      · rfl
      · rename_i c; rw [if_neg c] at hh; exact ih _ hh
  have hz' := hz s.2.1 []
  generalize dumpL s d s.2.1 [] = R at hz' ⊢
  obtain ⟨L, c⟩ := R
  by_cases e : c = 0
  · subst e; rfl
  · have := hz' e
    simp only at this
    subst this
    simp [e]

/-- What the limits of a law's data give. -/
structure SD (x0 : StoreT) (x1 : DiskT) : Prop where
  l1 : x1.1.length ≤ 1048576
  l2 : x0.1.2.length ≤ 1048576
  l3 : x0.2.1.length ≤ 1048576
  hd : dlim x1
  hu : usedN x1.1 < 1000000000
  dl : dl 1048577 x1
  xs : lim_Store x0
  xd : lim_Disk x1
  ms : limm_Store x0
  md : limm_Disk x1
  c0 : 1 + ((cnt_Store x0 : Nat) : Int) < 1000000000000
  c1 : 1 + ((cnt_Store x0 : Nat) : Int) + ((cnt_Disk x1 : Nat) : Int) < 1000000000000

theorem sd_of {x0 : StoreT} {x1 : DiskT} (k1 : ok_Disk x1) (hb : bulk_Store x0 ≤ 1048576) (hb1 : bulk_Disk x1 ≤ 1048576) : SD x0 x1 := by
  have l1 : x1.1.length ≤ 1048576 := by unfold bulk_Disk bulkL at hb1; omega
  have l2 : x0.1.2.length ≤ 1048576 := by unfold bulk_Store bulk_Live bulkL at hb; omega
  have l3 : x0.2.1.length ≤ 1048576 := by unfold bulk_Store bulkL at hb; omega
  have hm : limm_Store x0 := by constructor <;> first | omega | (show _ < _; omega)
  refine ⟨l1, l2, l3, dlim_of k1 hb1, used_lt hb1, dl_of hb1, by constructor <;> first | omega | (show _ < _; omega), show _ < _ by omega, hm, show _ < _ by omega, ?_, ?_⟩
  · unfold cnt_Store cnt_Live; omega
  · unfold cnt_Store cnt_Live cnt_Disk; omega

theorem FnExactDump_true (x0 : StoreT) (w0 : wfD (.pair (.pair (.int .i64) (.sl false (.int .i64))) (.pair (.sl false (.pair .str (.pair (.int .i64) (.pair (.int .i64) (.pair (.int .i64) (.int .i64)))))) (.pair (.int .i64) (.pair (.int .i64) (.int .i64))))) x0) (x1 : DiskT) (w1 : wfD (.pair (.sl false (.pair .str (.pair .str (.int .i64)))) (.pair (.int .i64) (.pair (.int .i64) .bool))) x1) : laws_FnExactDump.f x0 x1 = some true := by
  have k0 := of_Store _ w0
  have k1 := of_Disk _ w1
  unfold laws_FnExactDump.f
  rw [szStore_eq x0 1048576 (by omega) (by omega) k0, Option.bind_some, szr_neg]
  by_cases c0 : ((bulk_Store x0 : Nat) : Int) ≤ 1048576
  rotate_left
  · simp [c0]
  simp only [c0, decide_true, Bool.not_true, cond_false]
  rw [szr_pos c0, szDisk_eq x1 _ (by omega) (by omega) k1, Option.bind_some, szr_neg]
  by_cases c1 : ((bulk_Disk x1 : Nat) : Int) ≤ 1048576 - (bulk_Store x0 : Nat)
  rotate_left
  · simp [c1]
  simp only [c1, decide_true, Bool.not_true, cond_false]
  have hb : bulk_Store x0 ≤ 1048576 := by omega
  have hb1 : bulk_Disk x1 ≤ 1048576 := by omega
  have D := sd_of (x0 := x0) k1 hb hb1
  have e1 := spec_Dump_eq x0 x1 D.hd D.hu (by have := D.l3; omega)
  have e2 := impl_Dump_eq x0 x1 D.hd D.hu (by have := D.l3; omega)
  have e3 := dumpP_len x0 x1
  generalize dumpP x0 x1 = R at *
  obtain ⟨L, c⟩ := R
  have e3 : L.length ≤ 1048576 := Nat.le_trans e3 D.l3
  have hL : L.length < 2 ^ 62 := by omega
  have hcL : 1 + 3 * (L.length : Int) < 1000000000000 := by omega
  simp only [toStore_eq _ k0 hb, toDisk_eq _ k1 hb1, e1, e2, eqPairS_eq L L hL, eqStore_eq x0 x0 D.xs, eqDisk_eq x1 x1 D.xd, markStore_eq x0 1 D.ms (by omega) D.c0, markDisk_eq x1 (1 + ((cnt_Store x0 : Nat) : Int)) D.md (by omega) D.c1, markPairS_eq L 1 hL (by omega) hcL, heldPairS_eq L 1 hL (by omega) hcL, Option.bind_some, decide_true, Bool.not_true, cond_false, bne_self_eq_false]
  simp only [dnn (show (0 : Int) ≤ 1 + ((cnt_Store x0 : Nat) : Int) + ((cnt_Disk x1 : Nat) : Int) by omega), dnn (show (0 : Int) ≤ 1 + 3 * (L.length : Int) by omega), cond_false]

end Go.Rf.G
