/- Plain laws: SamePairs, PutsOk, OwnWrite, SameAnswers. -/
import Derived.Test.YtaijmhaonokniaaHp
namespace Go.Rf.G
open Go Go.Rf
set_option linter.unusedVariables false
set_option linter.unusedSimpArgs false
set_option synthInstance.maxSize 4000

theorem and3_beq {A B C : Type} [BEq A] [BEq B] [BEq C] [LawfulBEq A] [LawfulBEq B] [LawfulBEq C] [DecidableEq (A × B × C)] (x y : A × B × C) : (x.1 == y.1 && (x.2.1 == y.2.1 && x.2.2 == y.2.2)) = decide (x = y) := by
  obtain ⟨a, b, c⟩ := x
  obtain ⟨d, e, f⟩ := y
  by_cases h1 : a = d
  · by_cases h2 : b = e
    · by_cases h3 : c = f
      · simp [h1, h2, h3]
      · have : (c == f) = false := by simpa using h3
        simp [h1, h2, h3, this]
    · have : (b == e) = false := by simpa using h2
      simp [h1, h2, this]
  · have : (a == d) = false := by simpa using h1
    simp [h1, this]

theorem len_ne {a b : Nat} (h : a ≠ b) : ((a : Int) != (b : Int)) = true := by
  have : (a : Int) ≠ (b : Int) := by omega
  simpa using this
theorem len_eq {a b : Nat} (h : a = b) : ((a : Int) != (b : Int)) = false := by simp [h]

theorem bif_dec {β : Type} {P : Prop} [Decidable P] (a b : β) : (bif !decide P then a else b) = if P then b else a := by
  by_cases h : P <;> simp [h]

theorem spec_SamePairs_eq (a b : List (List UInt8 × List UInt8 × Int)) (ha : a.length < 2 ^ 62) : spec_SamePairs.f a b = some (decide (a = b)) := by
  unfold spec_SamePairs.f
  by_cases hl : a.length = b.length
  rotate_left
  · have : a ≠ b := fun h => hl (by rw [h])
    rw [len_ne hl]; simp [this]
  rw [len_eq hl, cond_false, eq_loop a b hl ha (fun rec n h1 h2 => ?_) (fun rec => ?_)]
  · by_cases e : a = b <;> simp [e]
  · simp only [spec_SamePairs.l0, Int.ofNat_lt, h1, h2, decide_true, cond_true, inB_nat, rdA_nat, getD_lt h1, getD_lt h2, w64_succ (show n + 1 < 9223372036854775808 by omega), and3_beq, bif_dec]
  · simp [spec_SamePairs.l0]

theorem impl_SamePairs_eq (a b : List (List UInt8 × List UInt8 × Int)) (ha : a.length < 2 ^ 62) : impl_SamePairs.f a b = some (decide (a = b)) := by
  unfold impl_SamePairs.f
  by_cases hl : a.length = b.length
  rotate_left
  · have : a ≠ b := fun h => hl (by rw [h])
    rw [len_ne hl]; simp [this]
  have key := lp_up (step := impl_SamePairs.l0) (fun n (_ : Unit) => (a, b, (a.length : Int), (n : Int))) a.length (fun n _ => if a.drop n = b.drop n then .inl () else .inr false) (fun _ _ => True)
    (fun rec n s hn _ ih => by
      rcases Nat.lt_or_ge n a.length with h | h
      · have h2 : n < b.length := by omega
        simp only [impl_SamePairs.l0, Int.ofNat_lt, h, h2, decide_true, cond_true, inB_nat, rdA_nat, getD_lt h, getD_lt h2, w64_succ (show n + 1 < 9223372036854775808 by omega), and3_beq, bif_dec]
        rw [ih () h trivial]
        by_cases hc : a[n] = b[n]
        · rw [if_pos hc]; simp only [drop_eq_iff h h2, hc, true_and]
        · rw [if_neg hc, if_neg fun k => hc ((drop_eq_iff h h2).1 k).1]
      · have : n = a.length := by omega
        subst this
        simp [impl_SamePairs.l0, hl])
    ha 0 () (Nat.zero_le _) trivial
  have key : lp impl_SamePairs.l0 (a, b, (a.length : Int), 0) = _ := key
  rw [len_eq hl, cond_false, key]
  by_cases e : a = b <;> simp [e]

theorem FnExactSamePairs_true (x0 : List (List UInt8 × List UInt8 × Int)) (w0 : wfD (.sl false (.pair .str (.pair .str (.int .i64)))) x0) (x1 : List (List UInt8 × List UInt8 × Int)) (w1 : wfD (.sl false (.pair .str (.pair .str (.int .i64)))) x1) : laws_FnExactSamePairs.f x0 x1 = some true := by
  have k0 := ofL_Pair _ w0
  have k1 := ofL_Pair _ w1
  have b0 := len_le k0.1
  have b1 := len_le k1.1
  unfold laws_FnExactSamePairs.f
  rw [szPairS_eq x0 1048576 (by omega) (by omega) k0, Option.bind_some, szr_neg]
  by_cases c0 : ((bulkL bulk_Pair x0 : Nat) : Int) ≤ 1048576
  rotate_left
  · simp [c0]
  simp only [c0, decide_true, Bool.not_true, cond_false]
  rw [szr_pos c0, szPairS_eq x1 _ (by omega) (by omega) k1, Option.bind_some, szr_neg]
  by_cases c1 : ((bulkL bulk_Pair x1 : Nat) : Int) ≤ 1048576 - (bulkL bulk_Pair x0 : Nat)
  rotate_left
  · simp [c1]
  simp only [c1, decide_true, Bool.not_true, cond_false]
  have l0 : x0.length ≤ 1048576 := by unfold bulkL at c0; omega
  have l1 : x1.length ≤ 1048576 := by unfold bulkL at c1; omega
  simp [toPairS_eq _ k0 l0, toPairS_eq _ k1 l1, spec_SamePairs_eq x0 x1 (by omega), impl_SamePairs_eq x0 x1 (by omega), eqPairS_eq x0 x0 (by omega), eqPairS_eq x1 x1 (by omega)]
end Go.Rf.G
