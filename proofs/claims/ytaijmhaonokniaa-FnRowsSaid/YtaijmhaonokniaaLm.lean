/- Plain: the size of what is merged. -/
import Derived.Test.YtaijmhaonokniaaLl
namespace Go.Rf.G
open Go Go.Rf
set_option linter.unusedVariables false
set_option linter.unusedSimpArgs false
set_option synthInstance.maxSize 4000

theorem lim64' {a : Nat} (h : a < 1000000000001) : (a + 1) * 64 ≤ 140737488355328 := by omega

def keepOf (p : PairT) : RecT := (4, p.2.2, p.1, p.2.1, 0, 0)
def frLen (r : RecT) : Nat := (frame (showRec r)).length
def sizeOfR (l : List RecT) : Nat := sumN frLen l

theorem frLen_le (r : RecT) : frLen r ≤ 211 := frame_len _

theorem sumN_snoc {α : Type} (f : α → Nat) : ∀ (l : List α) (x : α), sumN f (l ++ [x]) = sumN f l + f x
  | [], x => by simp [sumN]
  | y :: l, x => by
    have := sumN_snoc f l x
    simp only [List.cons_append, sumN, this]; omega

theorem sizeOfR_le : ∀ (l : List RecT), sizeOfR l ≤ 211 * l.length
  | [] => by simp [sizeOfR, sumN]
  | r :: l => by
    have h1 := sizeOfR_le l
    have h2 := frLen_le r
    unfold sizeOfR at *
    simp only [sumN, List.length_cons]; omega

def keepsOf (l : List PairT) (mark : Int) : List RecT := l.map keepOf ++ [(5, mark, [], [], (l.length : Int), sumOf (l.map keepOf))]

theorem take_map_succ (l : List PairT) (n : Nat) (h : n < l.length) : (l.take (n + 1)).map keepOf = (l.take n).map keepOf ++ [keepOf l[n]] := by
  rw [List.take_succ_eq_append_getElem h, List.map_append]; rfl

theorem spec_MergedSize_eq (l : List PairT) (mark : Int) (hl : l.length < 1000000000) : spec_MergedSize.f l mark = some ((sizeOfR (keepsOf l mark) : Nat) : Int) := by
  have hk := lp_up (step := spec_MergedSize.l0) (fun n (_ : Unit) => (l, mark, (l.take n).map keepOf, ((sizeOfR ((l.take n).map keepOf) : Nat) : Int), (n : Int))) l.length (fun _ _ => (mark, l.map keepOf, ((sizeOfR (l.map keepOf) : Nat) : Int))) (fun _ _ => True)
    (fun rec n s hn _ ih => by
      rcases Nat.lt_or_ge n l.length with h | h
      · have h1 := sizeOfR_le ((l.take n).map keepOf)
        have h2 := frLen_le (keepOf l[n])
        have h3 := showRec_len (keepOf l[n])
        rw [List.length_map, List.length_take] at h1
        have ih := ih () h trivial
        rw [take_map_succ l n h, show sizeOfR ((l.take n).map keepOf ++ [keepOf l[n]]) = sizeOfR ((l.take n).map keepOf) + frLen (keepOf l[n]) from sumN_snoc _ _ _] at ih
        have hb : (((l.take n).map keepOf).length + [keepOf l[n]].length) * 64 ≤ 140737488355328 := by
          rw [List.length_map, List.length_take]; exact lim64' (by omega)
        have hw : w64 (((sizeOfR ((l.take n).map keepOf) : Nat) : Int) + ((frLen (keepOf l[n]) : Nat) : Int)) = ((sizeOfR ((l.take n).map keepOf) + frLen (keepOf l[n]) : Nat) : Int) := by
          rw [w64_id (by omega) (by omega)]; omega
        have hkp : spec_l14Keep.f l[n] = some (keepOf l[n]) := rfl
        have hfr : ((frame (showRec (keepOf l[n]))).length : Int) = ((frLen (keepOf l[n]) : Nat) : Int) := rfl
        simp only [spec_MergedSize.l0, Int.ofNat_lt, h, decide_true, cond_true, inB_nat, rdA_nat, getD_lt h, pair_eta, hkp, Option.bind_some, hb, spec_ShowRec_eq, spec_Frame_eq _ (show (showRec (keepOf l[n])).length < 2 ^ 62 by omega), hfr, hw, w64_succ (show n + 1 < 9223372036854775808 by omega), ih]
      · have : n = l.length := by omega
        subst this
        simp [spec_MergedSize.l0])
    (by omega) 0 () (Nat.zero_le _) trivial
  have hk : lp spec_MergedSize.l0 (l, mark, [], 0, 0) = _ := hk
  have h1 := sizeOfR_le (l.map keepOf)
  rw [List.length_map] at h1
  have hs : spec_l9Seal.f (l.map keepOf) mark 5 = some (5, mark, [], [], (l.length : Int), sumOf (l.map keepOf)) := by
    unfold spec_l9Seal.f
    rw [spec_SumOf_eq _ (by rw [List.length_map]; omega)]
    simp
  unfold spec_MergedSize.f keepsOf
  rw [hk, Option.bind_some]
  simp only [hs, Option.bind_some]
  generalize ((5, mark, [], [], (l.length : Int), sumOf (l.map keepOf)) : RecT) = m
  have h2 := frLen_le m
  have h3 := showRec_len m
  have hw : w64 (((sizeOfR (l.map keepOf) : Nat) : Int) + ((frLen m : Nat) : Int)) = ((sizeOfR (l.map keepOf) + frLen m : Nat) : Int) := by
    rw [w64_id (by omega) (by omega)]; omega
  have hfr : ((frame (showRec m)).length : Int) = ((frLen m : Nat) : Int) := rfl
  simp only [spec_ShowRec_eq, Option.bind_some, spec_Frame_eq _ (show (showRec m).length < 2 ^ 62 by omega), hfr, hw]
  rw [show sizeOfR (l.map keepOf ++ [m]) = sizeOfR (l.map keepOf) + frLen m from sumN_snoc _ _ _]

theorem impl_keeps_eq (l : List PairT) (mark : Int) (hl : l.length < 1000000000) : impl_keeps.f l mark = some (keepsOf l mark) := by
  have hk := lp_up (step := impl_keeps.l0) (fun n (_ : Unit) => (l, mark, (l.take n).map keepOf, l, (l.length : Int), (n : Int))) l.length (fun _ _ => (l, mark, l.map keepOf)) (fun _ _ => True)
    (fun rec n s hn _ ih => by
      rcases Nat.lt_or_ge n l.length with h | h
      · have ih := ih () h trivial
        rw [take_map_succ l n h] at ih
        have hb : (((l.take n).map keepOf).length + ([keepOf l[n]] : List RecT).length) * 64 ≤ 140737488355328 := by
          rw [List.length_map, List.length_take]; exact lim64' (by omega)
        have hb2 : (((l.take n).map keepOf).length + ([(4, l[n].2.2, l[n].1, l[n].2.1, 0, 0)] : List RecT).length) * 64 ≤ 140737488355328 := hb
        have hkp : ((4, l[n].2.2, l[n].1, l[n].2.1, 0, 0) : RecT) = keepOf l[n] := rfl
        simp only [impl_keeps.l0, Int.ofNat_lt, h, decide_true, cond_true, inB_nat, rdA_nat, getD_lt h, hkp, w64_succ (show n + 1 < 9223372036854775808 by omega), ih]
        exact congrArg (fun b => bif b then some (l, mark, l.map keepOf) else none) (decide_eq_true hb2)
      · have : n = l.length := by omega
        subst this
        simp [impl_keeps.l0])
    (by omega) 0 () (Nat.zero_le _) trivial
  have hk : lp impl_keeps.l0 (l, mark, [], l, (l.length : Int), 0) = _ := hk
  unfold impl_keeps.f keepsOf
  rw [hk, Option.bind_some]
  have hb : ((l.map keepOf).length + ([((5, mark, [], [], (l.length : Int), sumOf (l.map keepOf)) : RecT)] : List RecT).length) * 64 ≤ 140737488355328 := by
    rw [List.length_map]; exact lim64' (by omega)
  simp only [impl_SumOf_eq (l.map keepOf) (by rw [List.length_map]; omega), Option.bind_some, hb, decide_true, cond_true]

theorem impl_MergedSize_eq (l : List PairT) (mark : Int) (hl : l.length < 1000000000) : impl_MergedSize.f l mark = some ((sizeOfR (keepsOf l mark) : Nat) : Int) := by
  unfold impl_MergedSize.f
  rw [impl_keeps_eq l mark hl, Option.bind_some]
  have hlen : (keepsOf l mark).length = l.length + 1 := by unfold keepsOf; simp
  generalize keepsOf l mark = k at *
  have hk := lp_up (step := impl_MergedSize.l0) (fun n (_ : Unit) => (((sizeOfR (k.take n) : Nat) : Int), k, (k.length : Int), (n : Int))) k.length (fun _ _ => ((sizeOfR k : Nat) : Int)) (fun _ _ => True)
    (fun rec n s hn _ ih => by
      rcases Nat.lt_or_ge n k.length with h | h
      · have h1 := sizeOfR_le (k.take n)
        have h2 := frLen_le k[n]
        have h3 := showRec_len k[n]
        rw [List.length_take] at h1
        have ih := ih () h trivial
        rw [List.take_succ_eq_append_getElem h, show sizeOfR (k.take n ++ [k[n]]) = sizeOfR (k.take n) + frLen k[n] from sumN_snoc _ _ _] at ih
        have hw : w64 (((sizeOfR (k.take n) : Nat) : Int) + ((frLen k[n] : Nat) : Int)) = ((sizeOfR (k.take n) + frLen k[n] : Nat) : Int) := by
          rw [w64_id (by omega) (by omega)]; omega
        have hfr : ((frame (showRec k[n])).length : Int) = ((frLen k[n] : Nat) : Int) := rfl
        simp only [impl_MergedSize.l0, Int.ofNat_lt, h, decide_true, cond_true, inB_nat, rdA_nat, getD_lt h, pair_eta, Option.bind_some, impl_ShowRec_eq, impl_Frame_eq _ (show (showRec k[n]).length < 2 ^ 62 by omega), hfr, hw, w64_succ (show n + 1 < 9223372036854775808 by omega), ih]
      · have : n = k.length := by omega
        subst this
        simp [impl_MergedSize.l0])
    (by omega) 0 () (Nat.zero_le _) trivial
  have hk : lp impl_MergedSize.l0 (0, k, (k.length : Int), 0) = _ := hk
  rw [hk, Option.bind_some]

theorem FnExactMergedSize_true (x0 : List PairT) (w0 : wfD (.sl false (.pair .str (.pair .str (.int .i64)))) x0) (x1 : Int) (w1 : wfD (.int .i64) x1) : laws_FnExactMergedSize.f x0 x1 = some true := by
  have k0 := ofL_Pair _ w0
  have b0 := len_le k0.1
  unfold laws_FnExactMergedSize.f
  rw [szPairS_eq x0 1048576 (by omega) (by omega) k0, Option.bind_some, szr_neg]
  by_cases c0 : ((bulkL bulk_Pair x0 : Nat) : Int) ≤ 1048576
  rotate_left
  · simp [c0]
  simp only [c0, decide_true, Bool.not_true, cond_false]
  have l0 : x0.length ≤ 1048576 := by unfold bulkL at c0; omega
  simp only [toPairS_eq _ k0 l0, spec_MergedSize_eq x0 x1 (by omega), impl_MergedSize_eq x0 x1 (by omega), eqPairS_eq x0 x0 (by omega), Option.bind_some, decide_true, Bool.not_true, cond_false, bne_self_eq_false]
end Go.Rf.G
