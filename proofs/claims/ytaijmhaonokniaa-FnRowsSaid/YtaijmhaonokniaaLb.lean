/- Plain laws: PutsOk, OwnWrite, SameAnswers, Valid. -/
import Derived.Test.YtaijmhaonokniaaLa
namespace Go.Rf.G
open Go Go.Rf
set_option linter.unusedVariables false
set_option linter.unusedSimpArgs false
set_option synthInstance.maxSize 4000

/-! ### writes that are right -/

theorem impl_in_eq (n a b : Int) : impl_in.f n a b = some (decide (a ≤ n ∧ n ≤ b)) := by
  unfold impl_in.f
  by_cases h : a ≤ n
  · have h2 : n ≥ a := h
    simp [h, h2]
  · have h2 : ¬ n ≥ a := h
    simp [h, h2]

theorem spec_l1In_eq (n a b : Int) : spec_l1In.f n a b = some (decide (a ≤ n ∧ n ≤ b)) := impl_in_eq n a b

def keyOk (s : List UInt8) : Bool := decide (1 ≤ s.length ∧ s.length ≤ 8)

theorem impl_KeyOk_eq (s : List UInt8) : impl_KeyOk.f s = some (keyOk s) := by
  unfold impl_KeyOk.f keyOk
  rw [impl_in_eq, Option.bind_some]
  congr 1
  apply decide_eq_decide.2
  omega

theorem spec_KeyOk_eq (s : List UInt8) : spec_KeyOk.f s = some (keyOk s) := impl_KeyOk_eq s

def putOk (p : List UInt8 × Bool × List UInt8) : Bool := keyOk p.1 && (decide (p.2.2.length ≤ 24) && (!p.2.1 || p.2.2 == []))

theorem impl_putOk_eq (p : List UInt8 × Bool × List UInt8) : impl_putOk.f p = some (putOk p) := by
  unfold impl_putOk.f putOk
  rw [impl_KeyOk_eq, Option.bind_some]
  cases keyOk p.1
  · rfl
  · have : decide ((p.2.2.length : Int) ≤ 24) = decide (p.2.2.length ≤ 24) := decide_eq_decide.2 (by omega)
    rw [this]
    cases decide (p.2.2.length ≤ 24)
    · rfl
    · cases p.2.1 <;> rfl

def putsOk (l : List (List UInt8 × Bool × List UInt8)) : Bool := decide (l.length ≤ 8) && l.all putOk

theorem impl_PutsOk_eq (l : List (List UInt8 × Bool × List UInt8)) (hl : l.length < 2 ^ 62) : impl_PutsOk.f l = some (putsOk l) := by
  have key := all_loop (step := impl_PutsOk.l0) l putOk (fun n => (l, l, (l.length : Int), (n : Int))) l hl
    (fun rec n h => by
      simp only [impl_PutsOk.l0, Int.ofNat_lt, h, decide_true, cond_true, inB_nat, rdA_nat, getD_lt h, pair_eta, impl_putOk_eq, Option.bind_some, w64_succ (show n + 1 < 9223372036854775808 by omega)]
      cases putOk l[n] <;> simp)
    (fun rec => by simp [impl_PutsOk.l0])
  have key : lp impl_PutsOk.l0 (l, l, (l.length : Int), 0) = _ := key
  unfold impl_PutsOk.f putsOk
  rw [key, Option.bind_some]
  have : decide ((l.length : Int) ≤ 8) = decide (l.length ≤ 8) := decide_eq_decide.2 (by omega)
  cases h : l.all putOk <;> simp [this]

theorem spec_PutsOk_eq (l : List (List UInt8 × Bool × List UInt8)) (hl : l.length < 2 ^ 62) : spec_PutsOk.f l = some (putsOk l) := by
  unfold spec_PutsOk.f putsOk
  by_cases h8 : l.length ≤ 8
  rotate_left
  · have : (l.length : Int) > 8 := by omega
    simp [this, h8]
  have h9 : ¬ (l.length : Int) > 8 := by omega
  have key := all_loop (step := spec_PutsOk.l0) l putOk (fun n => (l, (n : Int))) () hl
    (fun rec n h => by
      simp only [spec_PutsOk.l0, Int.ofNat_lt, h, decide_true, cond_true, inB_nat, rdA_nat, getD_lt h, pair_eta, spec_KeyOk_eq, Option.bind_some, w64_succ (show n + 1 < 9223372036854775808 by omega), putOk]
      have hw : w64 ((n : Int) + 1) = (n : Int) + 1 := w64_id (by omega) (by omega)
      rcases Bool.eq_false_or_eq_true (keyOk l[n].1) with hko | hko
      rotate_left
      · simp [hko]
      · by_cases h24 : l[n].2.2.length ≤ 24
        · have : ¬ (l[n].2.2.length : Int) > 24 := by omega
          rcases Bool.eq_false_or_eq_true l[n].2.1 with hd | hd
          · rcases Bool.eq_false_or_eq_true (l[n].2.2 == []) with he | he <;> simp [this, h24, hd, he, hko, hw]
          · simp [this, h24, hd, hko, hw]
        · have : (l[n].2.2.length : Int) > 24 := by omega
          simp [this, h24, hko])
    (fun rec => by simp [spec_PutsOk.l0])
  have key : lp spec_PutsOk.l0 (l, 0) = _ := key
  rw [key]
  cases h : l.all putOk <;> simp [h8, h9]

theorem FnExactPutsOk_true (x0 : List (List UInt8 × Bool × List UInt8)) (w0 : wfD (.sl false (.pair .str (.pair .bool .str))) x0) : laws_FnExactPutsOk.f x0 = some true := by
  have k0 := ofL_Put _ w0
  have b0 := len_le k0.1
  unfold laws_FnExactPutsOk.f
  rw [szPutS_eq x0 1048576 (by omega) (by omega) k0, Option.bind_some, szr_neg]
  by_cases c0 : ((bulkL bulk_Put x0 : Nat) : Int) ≤ 1048576
  rotate_left
  · simp [c0]
  simp only [c0, decide_true, Bool.not_true, cond_false]
  have l0 : x0.length ≤ 1048576 := by unfold bulkL at c0; omega
  simp [toPutS_eq _ k0 l0, spec_PutsOk_eq x0 (by omega), impl_PutsOk_eq x0 (by omega), eqPutS_eq x0 x0 (by omega)]

/-! ### a session's own writes -/

/-- The last one of a key. -/
def lastOf (l : List (List UInt8 × Bool × List UInt8)) (key : List UInt8) : Option (List UInt8 × Bool × List UInt8) := l.reverse.find? fun p => p.1 == key

def ownW (l : List (List UInt8 × Bool × List UInt8)) (key : List UInt8) : (List UInt8 × Bool × List UInt8) × Bool :=
  match lastOf l key with
  | some p => (p, true)
  | none => (([], false, []), false)

theorem impl_OwnWrite_eq (t : Bool × List (List UInt8 × Int) × List (List UInt8 × Bool × List UInt8)) (key : List UInt8) (hl : t.2.2.length < 2 ^ 62) : impl_OwnWrite.f t key = some (ownW t.2.2 key) := by
  have hk := rfind_loop (step := impl_OwnWrite.l0) t.2.2 (fun p => p.1 == key) (fun p => (p, true)) (fun n => (key, t, ([], false, []), (n : Int) - 1)) ([], false, []) hl
    (fun rec n h => by
      have e : ((n + 1 : Nat) : Int) - 1 = (n : Int) := by omega
      have e2 : w64 ((n : Int) - 1) = (n : Int) - 1 := w64_id (by omega) (by omega)
      have e3 : (n : Int) ≥ 0 := by omega
      simp only [e, impl_OwnWrite.l0, e3, decide_true, cond_true, inB_nat, rdA_nat, h, getD_lt h, e2, pair_eta]
      cases h2 : (t.2.2[n].1 == key) <;> simp)
    (fun rec => by simp [impl_OwnWrite.l0])
  unfold impl_OwnWrite.f ownW lastOf
  rw [w64_id (by omega) (by omega)]
  simp only []
  rw [hk, Option.bind_some]
  cases List.find? (fun p => p.1 == key) t.2.2.reverse <;> rfl

theorem spec_OwnWrite_eq (t : Bool × List (List UInt8 × Int) × List (List UInt8 × Bool × List UInt8)) (key : List UInt8) (hl : t.2.2.length < 2 ^ 62) : spec_OwnWrite.f t key = some (ownW t.2.2 key) := impl_OwnWrite_eq t key hl

theorem FnExactOwnWrite_true (x0 : Bool × List (List UInt8 × Int) × List (List UInt8 × Bool × List UInt8)) (w0 : wfD (.pair .bool (.pair (.sl false (.pair .str (.int .i64))) (.sl false (.pair .str (.pair .bool .str))))) x0) (x1 : List UInt8) (w1 : wfD .str x1) : laws_FnExactOwnWrite.f x0 x1 = some true := by
  have k0 := of_Txn _ w0
  have b0 := len_le k0.1.1
  have b1 := len_le k0.2.1
  unfold laws_FnExactOwnWrite.f
  by_cases c : (x1.length : Int) > 1048576
  · simp [c]
  simp only [c, decide_false, cond_false]
  rw [szTxn_eq x0 1048576 (by omega) (by omega) k0, Option.bind_some, szr_neg]
  by_cases c0 : ((bulk_Txn x0 : Nat) : Int) ≤ 1048576
  rotate_left
  · simp [c0]
  simp only [c0, decide_true, Bool.not_true, cond_false]
  have hb : bulk_Txn x0 ≤ 1048576 := by omega
  have hx : lim_Txn x0 := ⟨by omega, by omega⟩
  simp [toTxn_eq _ k0 hb, spec_OwnWrite_eq x0 x1 (by omega), impl_OwnWrite_eq x0 x1 (by omega), eqPut_eq, eqTxn_eq x0 x0 hx]

/-! ### answers -/

theorem spec_l18Same_eq (a b : Int × List UInt8 × List (List UInt8)) (ha : a.2.2.length < 2 ^ 62) : spec_l18Same.f a b = some (decide (a = b)) := by
  obtain ⟨a0, a1, a2⟩ := a
  obtain ⟨b0, b1, b2⟩ := b
  have ha : a2.length < 2 ^ 62 := ha
  unfold spec_l18Same.f
  by_cases e0 : a0 = b0
  rotate_left
  · have d3 : (a0 != b0) = true := by simpa using e0
    simp [e0, d3]
  by_cases e1 : a1 = b1
  rotate_left
  · have d2 : (a1 == b1) = false := by simpa using e1
    simp [e0, e1, d2]
  subst e0; subst e1
  by_cases hl : a2.length = b2.length
  rotate_left
  · have : a2 ≠ b2 := fun h => hl (by rw [h])
    simp [len_ne hl, this]
  have key := lp_up (step := spec_l18Same.l0) (fun n (_ : Unit) => ((a0, a1, a2), (a0, a1, b2), (n : Int))) a2.length (fun n _ => if a2.drop n = b2.drop n then .inl () else .inr false) (fun _ _ => True)
    (fun rec n s hn _ ih => by
      rcases Nat.lt_or_ge n a2.length with h | h
      · have h2 : n < b2.length := by omega
        simp only [spec_l18Same.l0, Int.ofNat_lt, h, h2, decide_true, cond_true, inB_nat, rdA_nat, getD_lt h, getD_lt h2, w64_succ (show n + 1 < 9223372036854775808 by omega)]
        rw [ih () h trivial]
        by_cases hc : a2[n] = b2[n]
        · simp only [drop_eq_iff h h2, hc, true_and]; simp
        · have d2 : (a2[n] == b2[n]) = false := by simpa using hc
          rw [if_neg fun k => hc ((drop_eq_iff h h2).1 k).1]; simp [d2]
      · have : n = a2.length := by omega
        subst this
        simp [spec_l18Same.l0, hl])
    ha 0 () (Nat.zero_le _) trivial
  have key : lp spec_l18Same.l0 ((a0, a1, a2), (a0, a1, b2), 0) = _ := key
  simp only [bne_self_eq_false, cond_false, beq_self_eq_true, Bool.not_true, len_eq hl, key]
  by_cases e : a2 = b2 <;> simp [e]

theorem spec_SameAnswers_eq (a b : List (Int × List UInt8 × List (List UInt8))) (ha : a.length < 2 ^ 62) (hx : ∀ x ∈ a, x.2.2.length < 2 ^ 62) : spec_SameAnswers.f a b = some (decide (a = b)) := by
  unfold spec_SameAnswers.f
  by_cases hl : a.length = b.length
  rotate_left
  · have : a ≠ b := fun h => hl (by rw [h])
    rw [len_ne hl]; simp [this]
  rw [len_eq hl, cond_false, eq_loop a b hl ha (fun rec n h1 h2 => ?_) (fun rec => ?_)]
  · by_cases e : a = b <;> simp [e]
  · simp only [spec_SameAnswers.l0, Int.ofNat_lt, h1, h2, decide_true, cond_true, inB_nat, rdA_nat, getD_lt h1, getD_lt h2, w64_succ (show n + 1 < 9223372036854775808 by omega), pair_eta, spec_l18Same_eq _ _ (hx a[n] (List.getElem_mem h1)), Option.bind_some, bif_dec]
  · simp [spec_SameAnswers.l0]

theorem impl_SameAnswers_l2 (a b : List (Int × List UInt8 × List (List UInt8))) (i : Nat) (h1 : i < a.length) (h2 : i < b.length) (hl : a[i].2.2.length = b[i].2.2.length) (hb : a[i].2.2.length < 2 ^ 62) (p q : Int) :
    lp impl_SameAnswers.l2 (a, b, (i : Int), p, q, (a[i].2.2.length : Int), 0) = some (if a[i].2.2 = b[i].2.2 then .inl (a, b, p, q) else .inr false) := by
  have key := lp_up (step := impl_SameAnswers.l2) (fun n (_ : Unit) => (a, b, (i : Int), p, q, (a[i].2.2.length : Int), (n : Int))) a[i].2.2.length (fun n _ => if a[i].2.2.drop n = b[i].2.2.drop n then .inl (a, b, p, q) else .inr false) (fun _ _ => True)
    (fun rec n s hn _ ih => by
      rcases Nat.lt_or_ge n a[i].2.2.length with h | h
      · have h' : n < b[i].2.2.length := by omega
        simp only [impl_SameAnswers.l2, Int.ofNat_lt, h, h', h1, h2, decide_true, cond_true, inB_nat, rdA_nat, getD_lt h1, getD_lt h2, getD_lt h, getD_lt h', w64_succ (show n + 1 < 9223372036854775808 by omega)]
        rw [ih () h trivial]
        by_cases hc : a[i].2.2[n] = b[i].2.2[n]
        · simp only [drop_eq_iff h h', hc, true_and]; simp
        · have d2 : (a[i].2.2[n] == b[i].2.2[n]) = false := by simpa using hc
          rw [if_neg fun k => hc ((drop_eq_iff h h').1 k).1]; simp [d2]
      · have : n = a[i].2.2.length := by omega
        subst this
        simp [impl_SameAnswers.l2, hl])
    hb 0 () (Nat.zero_le _) trivial
  simpa using key

theorem impl_SameAnswers_eq (a b : List (Int × List UInt8 × List (List UInt8))) (ha : a.length < 2 ^ 62) (hx : ∀ x ∈ a, x.2.2.length < 2 ^ 62) : impl_SameAnswers.f a b = some (decide (a = b)) := by
  unfold impl_SameAnswers.f
  by_cases hl : a.length = b.length
  rotate_left
  · have : a ≠ b := fun h => hl (by rw [h])
    rw [len_ne hl]; simp [this]
  have key := lp_up (step := impl_SameAnswers.l0) (fun n (_ : Unit) => (a, b, (a.length : Int), (n : Int))) a.length (fun n _ => if a.drop n = b.drop n then .inl () else .inr false) (fun _ _ => True)
    (fun rec n s hn _ ih => by
      rcases Nat.lt_or_ge n a.length with h | h
      · have h2 : n < b.length := by omega
        have hm := hx a[n] (List.getElem_mem h)
        simp only [impl_SameAnswers.l0, Int.ofNat_lt, h, h2, decide_true, cond_true, inB_nat, rdA_nat, getD_lt h, getD_lt h2]
        by_cases e0 : a[n].1 = b[n].1
        rotate_left
        · have d3 : (a[n].1 != b[n].1) = true := by simpa using e0
          rw [if_neg fun k => e0 (by rw [((drop_eq_iff h h2).1 k).1])]; simp [d3]
        by_cases e1 : a[n].2.1 = b[n].2.1
        rotate_left
        · have d2 : (a[n].2.1 == b[n].2.1) = false := by simpa using e1
          rw [if_neg fun k => e1 (by rw [((drop_eq_iff h h2).1 k).1])]; simp [e0, d2]
        by_cases e2 : a[n].2.2.length = b[n].2.2.length
        rotate_left
        · rw [if_neg fun k => e2 (by rw [((drop_eq_iff h h2).1 k).1])]; simp [e0, e1, len_ne e2]
        have d0 : (a[n].1 != b[n].1) = false := by simpa using e0
        have d1 : (a[n].2.1 == b[n].2.1) = true := by simpa using e1
        rw [impl_SameAnswers_l2 a b n h h2 e2 hm]
        simp only [d0, d1, len_eq e2, cond_false, Bool.not_true, Option.bind_some]
        by_cases e3 : a[n].2.2 = b[n].2.2
        · have hab : a[n] = b[n] := Prod.ext e0 (Prod.ext e1 e3)
          rw [if_pos e3, caseS_l]
          simp only [w64_succ (show n + 1 < 9223372036854775808 by omega)]
          rw [ih () h trivial]
          simp only [drop_eq_iff h h2, hab, true_and]
        · rw [if_neg e3, caseS_r, if_neg fun k => e3 (by rw [((drop_eq_iff h h2).1 k).1])]
      · have : n = a.length := by omega
        subst this
        simp [impl_SameAnswers.l0, hl])
    ha 0 () (Nat.zero_le _) trivial
  have key : lp impl_SameAnswers.l0 (a, b, (a.length : Int), 0) = _ := key
  rw [len_eq hl, cond_false, key]
  by_cases e : a = b <;> simp [e]

theorem FnExactSameAnswers_true (x0 : List (Int × List UInt8 × List (List UInt8))) (w0 : wfD (.sl false (.pair (.int .i64) (.pair .str (.sl false .str)))) x0) (x1 : List (Int × List UInt8 × List (List UInt8))) (w1 : wfD (.sl false (.pair (.int .i64) (.pair .str (.sl false .str)))) x1) : laws_FnExactSameAnswers.f x0 x1 = some true := by
  have k0 := ofL_Answer _ w0
  have k1 := ofL_Answer _ w1
  have b0 := len_le k0.1
  have b1 := len_le k1.1
  unfold laws_FnExactSameAnswers.f
  rw [szAnswerS_eq x0 1048576 (by omega) (by omega) k0, Option.bind_some, szr_neg]
  by_cases c0 : ((bulkL bulk_Answer x0 : Nat) : Int) ≤ 1048576
  rotate_left
  · simp [c0]
  simp only [c0, decide_true, Bool.not_true, cond_false]
  rw [szr_pos c0, szAnswerS_eq x1 _ (by omega) (by omega) k1, Option.bind_some, szr_neg]
  by_cases c1 : ((bulkL bulk_Answer x1 : Nat) : Int) ≤ 1048576 - (bulkL bulk_Answer x0 : Nat)
  rotate_left
  · simp [c1]
  simp only [c1, decide_true, Bool.not_true, cond_false]
  have m0 : ∀ x ∈ x0, x.2.2.length < 2 ^ 62 := fun x hx => by have := len_le (k0.2 x hx).2.1; omega
  have m1 : ∀ x ∈ x1, x.2.2.length < 2 ^ 62 := fun x hx => by have := len_le (k1.2 x hx).2.1; omega
  simp [toAnswerS_eq _ k0 (by omega), toAnswerS_eq _ k1 (by omega), spec_SameAnswers_eq x0 x1 (by omega) m0, impl_SameAnswers_eq x0 x1 (by omega) m0, eqAnswerS_eq x0 x0 (by omega) m0, eqAnswerS_eq x1 x1 (by omega) m1]
end Go.Rf.G
