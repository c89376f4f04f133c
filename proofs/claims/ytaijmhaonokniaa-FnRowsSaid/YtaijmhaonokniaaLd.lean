/- Plain laws: the exact laws of Valid, NetWrites, Fold. -/
import Derived.Test.YtaijmhaonokniaaLc
namespace Go.Rf.G
open Go Go.Rf
set_option linter.unusedVariables false
set_option linter.unusedSimpArgs false
set_option synthInstance.maxSize 4000

theorem dnn {k : Int} (h : 0 ≤ k) : decide (k < 0) = false := by
  have : ¬ k < 0 := by omega
  simp [this]

theorem FnExactValid_true (x0 : TxnT) (w0 : wfD (.pair .bool (.pair (.sl false (.pair .str (.int .i64))) (.sl false (.pair .str (.pair .bool .str))))) x0) (x1 : List EntryT) (w1 : wfD (.sl false (.pair .str (.pair (.int .i64) (.pair (.int .i64) (.pair (.int .i64) (.int .i64)))))) x1) : laws_FnExactValid.f x0 x1 = some true := by
  have k0 := of_Txn _ w0
  have k1 := ofL_Entry _ w1
  have b0 := len_le k0.1.1
  have b1 := len_le k0.2.1
  have b2 := len_le k1.1
  unfold laws_FnExactValid.f
  rw [szTxn_eq x0 1048576 (by omega) (by omega) k0, Option.bind_some, szr_neg]
  by_cases c0 : ((bulk_Txn x0 : Nat) : Int) ≤ 1048576
  rotate_left
  · simp [c0]
  simp only [c0, decide_true, Bool.not_true, cond_false]
  rw [szr_pos c0, szEntryS_eq x1 _ (by omega) (by omega) k1, Option.bind_some, szr_neg]
  by_cases c1 : ((bulkL bulk_Entry x1 : Nat) : Int) ≤ 1048576 - (bulk_Txn x0 : Nat)
  rotate_left
  · simp [c1]
  simp only [c1, decide_true, Bool.not_true, cond_false]
  have hb : bulk_Txn x0 ≤ 1048576 := by omega
  have l1 : x1.length ≤ 1048576 := by unfold bulkL at c1; omega
  have hx : lim_Txn x0 := ⟨by omega, by omega⟩
  simp [toTxn_eq _ k0 hb, toEntryS_eq _ k1 l1, spec_Valid_eq x0 x1 (by omega) (by omega), impl_Valid_eq x0 x1 (by omega) (by omega), eqTxn_eq x0 x0 hx, eqEntryS_eq x1 x1 (by omega)]

theorem netW_len (l : List PutT) : (netW l).length ≤ l.length := by
  unfold netW; rw [List.length_map]; exact firsts_len l

theorem FnExactNetWrites_true (x0 : TxnT) (w0 : wfD (.pair .bool (.pair (.sl false (.pair .str (.int .i64))) (.sl false (.pair .str (.pair .bool .str))))) x0) : laws_FnExactNetWrites.f x0 = some true := by
  have k0 := of_Txn _ w0
  have b0 := len_le k0.1.1
  have b1 := len_le k0.2.1
  unfold laws_FnExactNetWrites.f
  rw [szTxn_eq x0 1048576 (by omega) (by omega) k0, Option.bind_some, szr_neg]
  by_cases c0 : ((bulk_Txn x0 : Nat) : Int) ≤ 1048576
  rotate_left
  · simp [c0]
  simp only [c0, decide_true, Bool.not_true, cond_false]
  have hb : bulk_Txn x0 ≤ 1048576 := by omega
  have hx : lim_Txn x0 := ⟨by omega, by omega⟩
  have hm : limm_Txn x0 := ⟨by omega, by omega⟩
  have l1 : x0.2.1.length ≤ 1048576 := by unfold bulk_Txn bulkL at hb; omega
  have l2 : x0.2.2.length ≤ 1048576 := by unfold bulk_Txn bulkL at hb; omega
  have hc : 1 + ((cnt_Txn x0 : Nat) : Int) < 1000000000000 := by unfold cnt_Txn; omega
  have hn := netW_len x0.2.2
  simp only [toTxn_eq _ k0 hb, spec_NetWrites_eq x0 (by omega), impl_NetWrites_eq x0 (by omega), eqPutS_eq (netW x0.2.2) (netW x0.2.2) (by omega), eqTxn_eq x0 x0 hx, markTxn_eq x0 1 hm (by omega) hc, markPutS_eq (netW x0.2.2) 1 (by omega) (by omega) (by omega), heldPutS_eq (netW x0.2.2) 1 (by omega) (by omega) (by omega), Option.bind_some, decide_true, Bool.not_true, cond_false, bne_self_eq_false]
  simp only [dnn (show (0 : Int) ≤ 1 + ((cnt_Txn x0 : Nat) : Int) by omega), dnn (show (0 : Int) ≤ 1 + 3 * ((netW x0.2.2).length : Int) by omega), cond_false]

theorem FnExactFold_true (x0 : List PairT) (w0 : wfD (.sl false (.pair .str (.pair .str (.int .i64)))) x0) (x1 : List PutT) (w1 : wfD (.sl false (.pair .str (.pair .bool .str))) x1) (x2 : Int) (w2 : wfD (.int .i64) x2) : laws_FnExactFold.f x0 x1 x2 = some true := by
  have k0 := ofL_Pair _ w0
  have k1 := ofL_Put _ w1
  have b0 := len_le k0.1
  have b1 := len_le k1.1
  unfold laws_FnExactFold.f
  rw [szPairS_eq x0 1048576 (by omega) (by omega) k0, Option.bind_some, szr_neg]
  by_cases c0 : ((bulkL bulk_Pair x0 : Nat) : Int) ≤ 1048576
  rotate_left
  · simp [c0]
  simp only [c0, decide_true, Bool.not_true, cond_false]
  rw [szr_pos c0, szPutS_eq x1 _ (by omega) (by omega) k1, Option.bind_some, szr_neg]
  by_cases c1 : ((bulkL bulk_Put x1 : Nat) : Int) ≤ 1048576 - (bulkL bulk_Pair x0 : Nat)
  rotate_left
  · simp [c1]
  simp only [c1, decide_true, Bool.not_true, cond_false]
  have l0 : x0.length ≤ 1048576 := by unfold bulkL at c0; omega
  have l1 : x1.length ≤ 1048576 := by unfold bulkL at c1; omega
  have hf := foldP_len x2 x1 x0
  simp only [toPairS_eq _ k0 l0, toPutS_eq _ k1 l1, spec_Fold_eq x0 x1 x2 (by omega), impl_Fold_eq x0 x1 x2 (by omega), eqPairS_eq (foldP x0 x1 x2) (foldP x0 x1 x2) (by omega), eqPairS_eq x0 x0 (by omega), eqPutS_eq x1 x1 (by omega), markPairS_eq x0 1 (by omega) (by omega) (by omega), markPutS_eq x1 (1 + 3 * (x0.length : Int)) (by omega) (by omega) (by omega), markPairS_eq (foldP x0 x1 x2) 1 (by omega) (by omega) (by omega), heldPairS_eq (foldP x0 x1 x2) 1 (by omega) (by omega) (by omega), Option.bind_some, decide_true, Bool.not_true, cond_false, bne_self_eq_false]
  simp only [dnn (show (0 : Int) ≤ 1 + 3 * (x0.length : Int) + 3 * (x1.length : Int) by omega), dnn (show (0 : Int) ≤ 1 + 3 * ((foldP x0 x1 x2).length : Int) by omega), cond_false]
end Go.Rf.G
