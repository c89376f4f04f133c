/- Plain: hints dropped; what a session writes. -/
import Derived.Test.YtaijmhaonokniaaLh
namespace Go.Rf.G
open Go Go.Rf
set_option linter.unusedVariables false
set_option linter.unusedSimpArgs false
set_option synthInstance.maxSize 4000

def hintB (s : List UInt8) : Bool := decide (4 ≤ s.length) && (s.take 4 == [104, 105, 110, 116])

theorem hasPrefix_eq (s : List UInt8) : strings_HasPrefix.f s [104, 105, 110, 116] = some (hintB s) := by
  unfold strings_HasPrefix.f stringslite_HasPrefix.f hintB
  have e : (([104, 105, 110, 116] : List UInt8).length : Int) = 4 := rfl
  rw [e]
  by_cases c : 4 ≤ s.length
  · have c1 : (s.length : Int) ≥ 4 := by omega
    have c2 : (4 : Int) ≤ (s.length : Int) := by omega
    simp [c, c1, c2]
  · have c1 : ¬ (s.length : Int) ≥ 4 := by omega
    simp [c, c1]

def dropStep (s : List FileT) (f : FileT) : List FileT := if hintB f.1 = true then s else s ++ [f]

theorem dropStep_fold : ∀ (l s : List FileT), l.foldl dropStep s = s ++ l.filter fun f => !hintB f.1
  | [], s => by simp
  | f :: l, s => by
    rw [List.foldl_cons, dropStep_fold l]
    unfold dropStep
    cases h : hintB f.1 <;> simp [h]

theorem dropStep_len (s : List FileT) (f : FileT) : (dropStep s f).length ≤ s.length + 1 := by
  unfold dropStep; split <;> simp

def noHints (d : DiskT) : DiskT := if diskOk d = false then d else (d.1.filter fun f => !hintB f.1, d.2)

theorem impl_DropHints_eq (d : DiskT) (h : dlim d) : impl_DropHints.f d = some (noHints d) := by
  have hl := h.1
  unfold impl_DropHints.f noHints
  rw [impl_copyDisk_eq d (by omega), impl_DiskOk_eq d h]
  simp only [Option.bind_some]
  rcases Bool.eq_false_or_eq_true (diskOk d) with k | k
  rotate_left
  · simp [k]
  have hk := fold_loop (step := impl_DropHints.l0) d.1 dropStep (fun n (s : List FileT) => ((([], 0, 0, false) : DiskT), ((s, d.2) : DiskT), d.1, (d.1.length : Int), (n : Int))) (fun s => ((([], 0, 0, false) : DiskT), ((s, d.2) : DiskT))) (fun n s => s.length ≤ n) (by omega)
    (fun rec n s h hi => by
      have hi : s.length ≤ n := hi
      have hq : s.length < 1000000000000 := by omega
      have hb1 : (s.length + ([(d.1[n].1, d.1[n].2.1, d.1[n].2.2)] : List FileT).length) * 40 ≤ 140737488355328 := lim40 (Nat.lt_succ_of_lt hq)
      have hw : w64 ((n : Int) + 1) = (n : Int) + 1 := w64_id (by omega) (by omega)
      simp only [impl_DropHints.l0, Int.ofNat_lt, h, decide_true, cond_true, inB_nat, rdA_nat, getD_lt h, hasPrefix_eq, Option.bind_some]
      unfold dropStep
      rcases Bool.eq_false_or_eq_true (hintB d.1[n].1) with h2 | h2
      · simp [h2, hw]
      · simp only [h2, Bool.not_false, cond_true, hb1, decide_true, Option.bind_some]
        simp [hw])
    (fun n s h hi => by have := dropStep_len s d.1[n]; have hi : s.length ≤ n := hi; show _ ≤ n + 1; omega)
    (fun rec s hi => by simp [impl_DropHints.l0]) [] (by simp)
  have hk : lp impl_DropHints.l0 (([], 0, 0, false), ([], d.2), d.1, (d.1.length : Int), 0) = _ := hk
  simp only [k, Bool.not_true, cond_false, Bool.true_eq_false, if_false]
  rw [hk, Option.bind_some, dropStep_fold]
  rfl

theorem spec_DropHints_eq (d : DiskT) (h : dlim d) : spec_DropHints.f d = some (noHints d) := by
  have hl := h.1
  unfold spec_DropHints.f noHints
  rw [spec_l3Copy_eq d (by omega), spec_DiskOk_eq d h]
  simp only [Option.bind_some]
  rcases Bool.eq_false_or_eq_true (diskOk d) with k | k
  rotate_left
  · simp [k]
  have hk := fold_loop (step := spec_DropHints.l0) d.1 dropStep (fun n (s : List FileT) => (d, (([], 0, 0, false) : DiskT), ((s, d.2) : DiskT), (n : Int))) (fun s => ((([], 0, 0, false) : DiskT), ((s, d.2) : DiskT))) (fun n s => s.length ≤ n) (by omega)
    (fun rec n s h hi => by
      have hi : s.length ≤ n := hi
      have hq : s.length < 1000000000000 := by omega
      have hb1 : (s.length + ([d.1[n]] : List FileT).length) * 40 ≤ 140737488355328 := lim40 (Nat.lt_succ_of_lt hq)
      have hw : w64 ((n : Int) + 1) = (n : Int) + 1 := w64_id (by omega) (by omega)
      simp only [spec_DropHints.l0, Int.ofNat_lt, h, decide_true, cond_true, inB_nat, rdA_nat, getD_lt h, pair_eta]
      unfold dropStep hintB
      by_cases c : 4 ≤ d.1[n].1.length
      · have c1 : ¬ (d.1[n].1.length : Int) < 4 := by omega
        have c2 : (4 : Int) ≤ (d.1[n].1.length : Int) := by omega
        simp only [c, c1, c2, decide_true, decide_false, cond_false, Bool.true_and, cond_true, show decide ((0 : Int) ≤ 4) = true from rfl]
        rcases Bool.eq_false_or_eq_true (d.1[n].1.take 4 == [104, 105, 110, 116]) with h2 | h2
        · simp only [h2, Bool.not_true, cond_false, if_true, Option.bind_some]
          simp [hw]
        · simp only [h2, Bool.not_false, cond_true, hb1, decide_true, Option.bind_some]
          simp [hw]
      · have c1 : (d.1[n].1.length : Int) < 4 := by omega
        simp only [c, c1, decide_true, decide_false, cond_true, Bool.false_and, hb1, Option.bind_some]
        simp [hw])
    (fun n s h hi => by have := dropStep_len s d.1[n]; have hi : s.length ≤ n := hi; show _ ≤ n + 1; omega)
    (fun rec s hi => by simp [spec_DropHints.l0]) [] (by simp)
  have hk : lp spec_DropHints.l0 (d, ([], 0, 0, false), ([], d.2), 0) = _ := hk
  simp only [k, Bool.not_true, cond_false, Bool.true_eq_false, if_false]
  rw [hk, Option.bind_some, dropStep_fold]
  rfl

theorem FnExactDropHints_true (x0 : DiskT) (w0 : wfD (.pair (.sl false (.pair .str (.pair .str (.int .i64)))) (.pair (.int .i64) (.pair (.int .i64) .bool))) x0) : laws_FnExactDropHints.f x0 = some true := by
  have k0 := of_Disk _ w0
  have b0 := len_le k0.1
  unfold laws_FnExactDropHints.f
  rw [szDisk_eq x0 1048576 (by omega) (by omega) k0, Option.bind_some, szr_neg]
  by_cases c0 : ((bulk_Disk x0 : Nat) : Int) ≤ 1048576
  rotate_left
  · simp [c0]
  simp only [c0, decide_true, Bool.not_true, cond_false]
  have hb : bulk_Disk x0 ≤ 1048576 := by omega
  have l1 : x0.1.length ≤ 1048576 := by unfold bulk_Disk bulkL at hb; omega
  have hd := dlim_of k0 hb
  have e1 := spec_DropHints_eq x0 hd
  have e2 := impl_DropHints_eq x0 hd
  have e3 : (noHints x0).1.length ≤ x0.1.length := by
    unfold noHints; split
    · exact Nat.le_refl _
    · exact List.length_filter_le _ _
  generalize noHints x0 = D at *
  have hx : lim_Disk x0 := show _ < _ by omega
  have hD : lim_Disk D := show _ < _ by omega
  have hm : limm_Disk x0 := show _ < _ by omega
  have hmD : limm_Disk D := show _ < _ by omega
  have hc : 1 + ((cnt_Disk x0 : Nat) : Int) < 1000000000000 := by unfold cnt_Disk; omega
  have hcD : 1 + ((cnt_Disk D : Nat) : Int) < 1000000000000 := by unfold cnt_Disk; omega
  have hmk : ((mkc_Disk 1 D).1, D.2) = mkc_Disk 1 D := rfl
  simp only [toDisk_eq _ k0 hb, e1, e2, eqDisk_eq x0 x0 hx, eqDisk_eq D D hD, markDisk_eq x0 1 hm (by omega) hc, markDisk_eq D 1 hmD (by omega) hcD, hmk, heldDisk_eq D 1 hmD (by omega) hcD, Option.bind_some, decide_true, Bool.not_true, cond_false, bne_self_eq_false]
  simp only [dnn (show (0 : Int) ≤ 1 + ((cnt_Disk x0 : Nat) : Int) by omega), dnn (show (0 : Int) ≤ 1 + ((cnt_Disk D : Nat) : Int) by omega), cond_false]

/-! ### TxnWrite -/

theorem impl_copyTxn_eq (t : TxnT) (h1 : t.2.1.length < 1000000000000) (h2 : t.2.2.length < 1000000000000) : impl_copyTxn.f t = some t := by
  unfold impl_copyTxn.f impl_copyPuts.f
  have c1 : t.2.1.length * 24 ≤ 140737488355328 := by omega
  have c2 : t.2.2.length * 40 ≤ 140737488355328 := by omega
  simp [c1, c2]

theorem spec_l15Copy_eq (t : TxnT) (h1 : t.2.1.length < 1000000000000) (h2 : t.2.2.length < 1000000000000) : spec_l15Copy.f t = some t := by
  unfold spec_l15Copy.f
  have c1 : t.2.1.length * 24 ≤ 140737488355328 := by omega
  have c2 : t.2.2.length * 40 ≤ 140737488355328 := by omega
  simp [c1, c2]

def txnWrite (t : TxnT) (p : PutT) : TxnT × Bool :=
  if t.1 = true ∧ putOk p = true ∧ (netW (t.2.2 ++ [p])).length ≤ 8 ∧ t.2.2.length < 50 then ((t.1, t.2.1, t.2.2 ++ [p]), true) else (t, false)

theorem impl_TxnWrite_eq (t : TxnT) (p : PutT) (h1 : t.2.1.length < 1000000000) (h2 : t.2.2.length < 1000000000) : impl_TxnWrite.f t p = some (txnWrite t p) := by
  have hc := impl_copyTxn_eq t (by omega) (by omega)
  have hb : (t.2.2.length + ([p] : List PutT).length) * 40 ≤ 140737488355328 := lim40 (by omega)
  have hn : impl_NetWrites.f (t.1, t.2.1, t.2.2 ++ [p]) = some (netW (t.2.2 ++ [p])) := impl_NetWrites_eq (t.1, t.2.1, t.2.2 ++ [p]) (by show (t.2.2 ++ [p]).length < _; rw [List.length_append]; show _ + 1 < _; omega)
  have hl : (t.2.2 ++ [p]).length = t.2.2.length + 1 := List.length_append
  unfold impl_TxnWrite.f txnWrite
  simp only [hc, Option.bind_some, hb, decide_true, cond_true, impl_putOk_eq, hn]
  rcases Bool.eq_false_or_eq_true t.1 with k | k
  rotate_left
  · simp [k]
  rcases Bool.eq_false_or_eq_true (putOk p) with k2 | k2
  rotate_left
  · simp [k, k2]
  simp only [k, k2, Bool.not_true, cond_false, true_and]
  by_cases c : (netW (t.2.2 ++ [p])).length ≤ 8
  rotate_left
  · have c1 : ((netW (t.2.2 ++ [p])).length : Int) > 8 := by omega
    simp only [c, c1, decide_true, cond_true, false_and, if_false]
  have c1 : ¬ ((netW (t.2.2 ++ [p])).length : Int) > 8 := by omega
  by_cases c2 : t.2.2.length < 50
  · have c3 : ¬ (((t.2.2 ++ [p]).length : Nat) : Int) > 50 := by omega
    simp only [c, c1, c2, c3, decide_false, cond_false, and_self, if_true]
  · have c3 : (((t.2.2 ++ [p]).length : Nat) : Int) > 50 := by omega
    simp only [c, c1, c2, c3, decide_true, decide_false, cond_true, cond_false, and_false, if_false]

theorem spec_TxnWrite_eq (t : TxnT) (p : PutT) (h1 : t.2.1.length < 1000000000) (h2 : t.2.2.length < 1000000000) : spec_TxnWrite.f t p = some (txnWrite t p) := by
  have hc := spec_l15Copy_eq t (by omega) (by omega)
  have hb : (t.2.2.length + ([p] : List PutT).length) * 40 ≤ 140737488355328 := lim40 (by omega)
  have hn : spec_NetWrites.f (t.1, t.2.1, t.2.2 ++ [p]) = some (netW (t.2.2 ++ [p])) := spec_NetWrites_eq (t.1, t.2.1, t.2.2 ++ [p]) (by show (t.2.2 ++ [p]).length < _; rw [List.length_append]; show _ + 1 < _; omega)
  have hl : (t.2.2 ++ [p]).length = t.2.2.length + 1 := List.length_append
  have hp : spec_PutsOk.f [p] = some (putOk p) := by
    rw [spec_PutsOk_eq [p] (by show 1 < 2 ^ 62; decide)]
    unfold putsOk
    simp
  unfold spec_TxnWrite.f txnWrite
  simp only [hc, Option.bind_some, hb, decide_true, cond_true, hp, hn]
  rcases Bool.eq_false_or_eq_true t.1 with k | k
  rotate_left
  · simp [k]
  rcases Bool.eq_false_or_eq_true (putOk p) with k2 | k2
  rotate_left
  · simp [k, k2]
  simp only [k, k2, Bool.not_true, cond_false, true_and]
  by_cases c : (netW (t.2.2 ++ [p])).length ≤ 8
  rotate_left
  · have c1 : ((netW (t.2.2 ++ [p])).length : Int) > 8 := by omega
    simp only [c, c1, decide_true, cond_true, false_and, if_false]
  have c1 : ¬ ((netW (t.2.2 ++ [p])).length : Int) > 8 := by omega
  by_cases c2 : t.2.2.length < 50
  · have c3 : ¬ (((t.2.2 ++ [p]).length : Nat) : Int) > 50 := by omega
    simp only [c, c1, c2, c3, decide_false, cond_false, and_self, if_true]
  · have c3 : (((t.2.2 ++ [p]).length : Nat) : Int) > 50 := by omega
    simp only [c, c1, c2, c3, decide_true, decide_false, cond_true, cond_false, and_false, if_false]

theorem FnExactTxnWrite_true (x0 : TxnT) (w0 : wfD (.pair .bool (.pair (.sl false (.pair .str (.int .i64))) (.sl false (.pair .str (.pair .bool .str))))) x0) (x1 : PutT) (w1 : wfD (.pair .str (.pair .bool .str)) x1) : laws_FnExactTxnWrite.f x0 x1 = some true := by
  have k0 := of_Txn _ w0
  have k1 := of_Put _ w1
  have b0 := len_le k0.1.1
  have b1 := len_le k0.2.1
  unfold laws_FnExactTxnWrite.f
  rw [szTxn_eq x0 1048576 (by omega) (by omega) k0, Option.bind_some, szr_neg]
  by_cases c0 : ((bulk_Txn x0 : Nat) : Int) ≤ 1048576
  rotate_left
  · simp [c0]
  simp only [c0, decide_true, Bool.not_true, cond_false]
  rw [szr_pos c0, szPut_eq x1 _ (by omega) (by omega) k1, Option.bind_some, szr_neg]
  by_cases c1 : ((bulk_Put x1 : Nat) : Int) ≤ 1048576 - (bulk_Txn x0 : Nat)
  rotate_left
  · simp [c1]
  simp only [c1, decide_true, Bool.not_true, cond_false]
  have hb : bulk_Txn x0 ≤ 1048576 := by omega
  have l1 : x0.2.1.length ≤ 1048576 := by unfold bulk_Txn bulkL at hb; omega
  have l2 : x0.2.2.length ≤ 1048576 := by unfold bulk_Txn bulkL at hb; omega
  have e1 := spec_TxnWrite_eq x0 x1 (by omega) (by omega)
  have e2 := impl_TxnWrite_eq x0 x1 (by omega) (by omega)
  have e3 : (txnWrite x0 x1).1.2.1.length ≤ x0.2.1.length + 1 ∧ (txnWrite x0 x1).1.2.2.length ≤ x0.2.2.length + 1 := by
    unfold txnWrite; split <;> simp
  generalize txnWrite x0 x1 = R at *
  obtain ⟨D, c⟩ := R
  have e3 : D.2.1.length ≤ x0.2.1.length + 1 ∧ D.2.2.length ≤ x0.2.2.length + 1 := e3
  have hx : lim_Txn x0 := ⟨by omega, by omega⟩
  have hm : limm_Txn x0 := ⟨by omega, by omega⟩
  have hD : lim_Txn D := ⟨by omega, by omega⟩
  have hmD : limm_Txn D := ⟨by omega, by omega⟩
  have hc : 1 + ((cnt_Txn x0 : Nat) : Int) < 1000000000000 := by unfold cnt_Txn; omega
  have hcD : 1 + ((cnt_Txn D : Nat) : Int) < 1000000000000 := by unfold cnt_Txn; omega
  have hmk : (D.1, (mkc_Txn 1 D).2) = mkc_Txn 1 D := rfl
  simp only [toTxn_eq _ k0 hb, toPut_eq x1, e1, e2, eqTxn_eq x0 x0 hx, eqTxn_eq D D hD, markTxn_eq x0 1 hm (by omega) hc, markTxn_eq D 1 hmD (by omega) hcD, hmk, heldTxn_eq D 1 hmD (by omega) hcD, Option.bind_some, decide_true, Bool.not_true, cond_false, bne_self_eq_false, beq_self_eq_true]
  simp only [dnn (show (0 : Int) ≤ 1 + ((cnt_Txn x0 : Nat) : Int) by omega), dnn (show (0 : Int) ≤ 1 + ((cnt_Txn D : Nat) : Int) by omega), cond_false]
end Go.Rf.G
