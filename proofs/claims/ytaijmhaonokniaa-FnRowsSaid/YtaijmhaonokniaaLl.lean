/- Plain: records, frames, sums of records; the size of what is merged. -/
import Derived.Test.YtaijmhaonokniaaLk
namespace Go.Rf.G
open Go Go.Rf
set_option linter.unusedVariables false
set_option linter.unusedSimpArgs false
set_option synthInstance.maxSize 4000

abbrev RecT := Int × Int × List UInt8 × List UInt8 × Int × Int

def recOk (r : RecT) : Bool :=
  decide (0 ≤ r.2.1 ∧ r.2.1 ≤ 1000000) && (!(r.2.1 == 0) || r.1 == 5) &&
  (if r.1 = 1 ∨ r.1 = 4 then keyOk r.2.2.1 && (decide (r.2.2.2.1.length ≤ 24) && (r.2.2.2.2.1 == 0 && r.2.2.2.2.2 == 0))
   else if r.1 = 2 then keyOk r.2.2.1 && (r.2.2.2.1 == [] && (r.2.2.2.2.1 == 0 && r.2.2.2.2.2 == 0))
   else if r.1 = 3 then r.2.2.1 == [] && (r.2.2.2.1 == [] && (decide (0 ≤ r.2.2.2.2.1 ∧ r.2.2.2.2.1 ≤ 8) && decide (0 ≤ r.2.2.2.2.2 ∧ r.2.2.2.2.2 ≤ 4294967295)))
   else if r.1 = 5 then r.2.2.1 == [] && (r.2.2.2.1 == [] && (decide (0 ≤ r.2.2.2.2.1 ∧ r.2.2.2.2.1 ≤ 20) && decide (0 ≤ r.2.2.2.2.2 ∧ r.2.2.2.2.2 ≤ 4294967295)))
   else false)

theorem beq_dec (a b : Int) : (a == b) = decide (a = b) := rfl

theorem spec_RecOk_eq (r : RecT) : spec_RecOk.f r = some (recOk r) := by
  obtain ⟨k, b, ky, v, c, s⟩ := r
  have e24 : decide ((v.length : Int) ≤ 24) = decide (v.length ≤ 24) := decide_eq_decide.2 (by omega)
  unfold spec_RecOk.f recOk
  simp only [spec_l1In_eq, Option.bind_some, spec_KeyOk_eq, e24]
  by_cases hb : 0 ≤ b ∧ b ≤ 1000000
  rotate_left
  · simp only [hb, decide_false, Bool.not_false, cond_true, Option.bind_some, caseS_r, Bool.false_and]
  simp only [hb, and_self, decide_true, Bool.not_true, cond_false, Bool.true_and]
  rcases Bool.eq_false_or_eq_true (b == 0 && k != 5) with h | h
  · simp only [Bool.and_eq_true] at h
    have h2 : (k == 5) = false := by have := h.2; simpa [bne] using this
    simp only [h.1, h.2, h2, cond_true, Option.bind_some, caseS_r, Bool.not_true, Bool.false_or, Bool.false_and]
  have e1 : (!(b == 0) || k == 5) = true := by
    cases h3 : (b == 0) <;> cases h4 : (k == 5) <;> simp_all [bne]
  have e2 : (bif b == 0 then (bif k != 5 then some (Sum.inr false) else some (Sum.inl ((k, b, ky, v, c, s) : RecT))) else some (Sum.inl (k, b, ky, v, c, s)) : Option (RecT ⊕ Bool)) = some (Sum.inl (k, b, ky, v, c, s)) := by
    cases h3 : (b == 0)
    · rfl
    · rw [h3] at h
      have h4 : (k != 5) = false := by simpa using h
      rw [h4]; rfl
  simp only [e2, Option.bind_some, caseS_l, e1, Bool.true_and]
  by_cases k1 : k = 1
  · subst k1
    simp only [cond_true, cond_false, Option.bind_some, e24, beq_self_eq_true, Bool.true_and, Bool.and_true, show ((1 : Int) == 1) = true from rfl, show ((4 : Int) == 1) = false from rfl, show ((4 : Int) == 4) = true from rfl, show ((2 : Int) == 2) = true from rfl, show ((3 : Int) == 2) = false from rfl, show ((3 : Int) == 3) = true from rfl, show ((5 : Int) == 5) = true from rfl, show ((5 : Int) == 3) = false from rfl, show ((5 : Int) == 2) = false from rfl, show ((4 : Int) == 5) = false from rfl, show ((3 : Int) == 5) = false from rfl, show ((2 : Int) == 5) = false from rfl, show ((1 : Int) == 5) = false from rfl]
    cases keyOk ky <;> cases decide (v.length ≤ 24) <;> cases (c == 0) <;> simp
  by_cases k4 : k = 4
  · subst k4
    simp only [cond_true, cond_false, Option.bind_some, e24, beq_self_eq_true, Bool.true_and, Bool.and_true, show ((1 : Int) == 1) = true from rfl, show ((4 : Int) == 1) = false from rfl, show ((4 : Int) == 4) = true from rfl, show ((2 : Int) == 2) = true from rfl, show ((3 : Int) == 2) = false from rfl, show ((3 : Int) == 3) = true from rfl, show ((5 : Int) == 5) = true from rfl, show ((5 : Int) == 3) = false from rfl, show ((5 : Int) == 2) = false from rfl, show ((4 : Int) == 5) = false from rfl, show ((3 : Int) == 5) = false from rfl, show ((2 : Int) == 5) = false from rfl, show ((1 : Int) == 5) = false from rfl]
    cases keyOk ky <;> cases decide (v.length ≤ 24) <;> cases (c == 0) <;> simp
  have b1 : (k == 1) = false := by simpa using k1
  have b4 : (k == 4) = false := by simpa using k4
  simp only [b1, b4, cond_false, Option.bind_some, k1, k4, or_self, if_false]
  by_cases k2 : k = 2
  · subst k2
    simp only [cond_true, cond_false, Option.bind_some, e24, beq_self_eq_true, Bool.true_and, Bool.and_true, show ((1 : Int) == 1) = true from rfl, show ((4 : Int) == 1) = false from rfl, show ((4 : Int) == 4) = true from rfl, show ((2 : Int) == 2) = true from rfl, show ((3 : Int) == 2) = false from rfl, show ((3 : Int) == 3) = true from rfl, show ((5 : Int) == 5) = true from rfl, show ((5 : Int) == 3) = false from rfl, show ((5 : Int) == 2) = false from rfl, show ((4 : Int) == 5) = false from rfl, show ((3 : Int) == 5) = false from rfl, show ((2 : Int) == 5) = false from rfl, show ((1 : Int) == 5) = false from rfl]
    cases keyOk ky <;> cases (v == []) <;> cases (c == 0) <;> simp
  have b2 : (k == 2) = false := by simpa using k2
  simp only [b2, cond_false, k2, if_false]
  by_cases k3 : k = 3
  · subst k3
    simp only [cond_true, cond_false, Option.bind_some, e24, beq_self_eq_true, Bool.true_and, Bool.and_true, show ((1 : Int) == 1) = true from rfl, show ((4 : Int) == 1) = false from rfl, show ((4 : Int) == 4) = true from rfl, show ((2 : Int) == 2) = true from rfl, show ((3 : Int) == 2) = false from rfl, show ((3 : Int) == 3) = true from rfl, show ((5 : Int) == 5) = true from rfl, show ((5 : Int) == 3) = false from rfl, show ((5 : Int) == 2) = false from rfl, show ((4 : Int) == 5) = false from rfl, show ((3 : Int) == 5) = false from rfl, show ((2 : Int) == 5) = false from rfl, show ((1 : Int) == 5) = false from rfl]
    cases (ky == []) <;> cases (v == []) <;> cases decide (0 ≤ c ∧ c ≤ 8) <;> simp
  have b3 : (k == 3) = false := by simpa using k3
  simp only [b3, cond_false, k3, if_false]
  by_cases k5 : k = 5
  · subst k5
    simp only [cond_true, cond_false, Option.bind_some, e24, beq_self_eq_true, Bool.true_and, Bool.and_true, show ((1 : Int) == 1) = true from rfl, show ((4 : Int) == 1) = false from rfl, show ((4 : Int) == 4) = true from rfl, show ((2 : Int) == 2) = true from rfl, show ((3 : Int) == 2) = false from rfl, show ((3 : Int) == 3) = true from rfl, show ((5 : Int) == 5) = true from rfl, show ((5 : Int) == 3) = false from rfl, show ((5 : Int) == 2) = false from rfl, show ((4 : Int) == 5) = false from rfl, show ((3 : Int) == 5) = false from rfl, show ((2 : Int) == 5) = false from rfl, show ((1 : Int) == 5) = false from rfl]
    cases (ky == []) <;> cases (v == []) <;> cases decide (0 ≤ c ∧ c ≤ 20) <;> simp
  have b5 : (k == 5) = false := by simpa using k5
  simp only [b5, cond_false, k5, if_false]

theorem impl_RecOk_eq (r : RecT) : impl_RecOk.f r = some (recOk r) := by
  obtain ⟨k, b, ky, v, c, s⟩ := r
  have e24 : decide ((v.length : Int) ≤ 24) = decide (v.length ≤ 24) := decide_eq_decide.2 (by omega)
  have hb0 : decide (1 ≤ b ∧ b ≤ 1000000) = (decide (0 ≤ b ∧ b ≤ 1000000) && !(b == 0)) := by
    by_cases h : b = 0
    · subst h; rfl
    · have : (b == 0) = false := by simpa using h
      rw [this, Bool.not_false, Bool.and_true]
      exact decide_eq_decide.2 (by omega)
  unfold impl_RecOk.f recOk
  simp only [impl_in_eq, Option.bind_some, impl_KeyOk_eq, e24, hb0, beq_self_eq_true, Bool.true_and, Bool.and_true]
  by_cases k1 : k = 1
  · subst k1
    simp only [cond_true, cond_false, Option.bind_some, e24, hb0, beq_self_eq_true, Bool.true_and, Bool.and_true, show ((1 : Int) == 1) = true from rfl, show ((4 : Int) == 1) = false from rfl, show ((4 : Int) == 4) = true from rfl, show ((2 : Int) == 2) = true from rfl, show ((3 : Int) == 2) = false from rfl, show ((3 : Int) == 3) = true from rfl, show ((5 : Int) == 5) = true from rfl, show ((5 : Int) == 3) = false from rfl, show ((5 : Int) == 2) = false from rfl, show ((4 : Int) == 5) = false from rfl, show ((3 : Int) == 5) = false from rfl, show ((2 : Int) == 5) = false from rfl, show ((1 : Int) == 5) = false from rfl]
    cases keyOk ky <;> cases decide (v.length ≤ 24) <;> cases decide (0 ≤ b ∧ b ≤ 1000000) <;> cases (b == 0) <;> simp
  by_cases k4 : k = 4
  · subst k4
    simp only [cond_true, cond_false, Option.bind_some, e24, hb0, beq_self_eq_true, Bool.true_and, Bool.and_true, show ((1 : Int) == 1) = true from rfl, show ((4 : Int) == 1) = false from rfl, show ((4 : Int) == 4) = true from rfl, show ((2 : Int) == 2) = true from rfl, show ((3 : Int) == 2) = false from rfl, show ((3 : Int) == 3) = true from rfl, show ((5 : Int) == 5) = true from rfl, show ((5 : Int) == 3) = false from rfl, show ((5 : Int) == 2) = false from rfl, show ((4 : Int) == 5) = false from rfl, show ((3 : Int) == 5) = false from rfl, show ((2 : Int) == 5) = false from rfl, show ((1 : Int) == 5) = false from rfl]
    cases keyOk ky <;> cases decide (v.length ≤ 24) <;> cases decide (0 ≤ b ∧ b ≤ 1000000) <;> cases (b == 0) <;> simp
  have b1 : (k == 1) = false := by simpa using k1
  have b4 : (k == 4) = false := by simpa using k4
  simp only [b1, b4, cond_false, Option.bind_some, k1, k4, or_self, if_false]
  by_cases k2 : k = 2
  · subst k2
    simp only [cond_true, cond_false, Option.bind_some, e24, hb0, beq_self_eq_true, Bool.true_and, Bool.and_true, show ((1 : Int) == 1) = true from rfl, show ((4 : Int) == 1) = false from rfl, show ((4 : Int) == 4) = true from rfl, show ((2 : Int) == 2) = true from rfl, show ((3 : Int) == 2) = false from rfl, show ((3 : Int) == 3) = true from rfl, show ((5 : Int) == 5) = true from rfl, show ((5 : Int) == 3) = false from rfl, show ((5 : Int) == 2) = false from rfl, show ((4 : Int) == 5) = false from rfl, show ((3 : Int) == 5) = false from rfl, show ((2 : Int) == 5) = false from rfl, show ((1 : Int) == 5) = false from rfl]
    cases keyOk ky <;> cases decide (0 ≤ b ∧ b ≤ 1000000) <;> cases (b == 0) <;> simp
  have b2 : (k == 2) = false := by simpa using k2
  simp only [b2, cond_false, k2, if_false]
  by_cases k3 : k = 3
  · subst k3
    simp only [cond_true, cond_false, Option.bind_some, e24, hb0, beq_self_eq_true, Bool.true_and, Bool.and_true, show ((1 : Int) == 1) = true from rfl, show ((4 : Int) == 1) = false from rfl, show ((4 : Int) == 4) = true from rfl, show ((2 : Int) == 2) = true from rfl, show ((3 : Int) == 2) = false from rfl, show ((3 : Int) == 3) = true from rfl, show ((5 : Int) == 5) = true from rfl, show ((5 : Int) == 3) = false from rfl, show ((5 : Int) == 2) = false from rfl, show ((4 : Int) == 5) = false from rfl, show ((3 : Int) == 5) = false from rfl, show ((2 : Int) == 5) = false from rfl, show ((1 : Int) == 5) = false from rfl]
    cases decide (0 ≤ c ∧ c ≤ 8) <;> cases decide (0 ≤ s ∧ s ≤ 4294967295) <;> cases decide (0 ≤ b ∧ b ≤ 1000000) <;> cases (b == 0) <;> simp
  have b3 : (k == 3) = false := by simpa using k3
  simp only [b3, cond_false, k3, if_false]
  by_cases k5 : k = 5
  · subst k5
    simp only [cond_true, cond_false, Option.bind_some, e24, hb0, beq_self_eq_true, Bool.true_and, Bool.and_true, show ((1 : Int) == 1) = true from rfl, show ((4 : Int) == 1) = false from rfl, show ((4 : Int) == 4) = true from rfl, show ((2 : Int) == 2) = true from rfl, show ((3 : Int) == 2) = false from rfl, show ((3 : Int) == 3) = true from rfl, show ((5 : Int) == 5) = true from rfl, show ((5 : Int) == 3) = false from rfl, show ((5 : Int) == 2) = false from rfl, show ((4 : Int) == 5) = false from rfl, show ((3 : Int) == 5) = false from rfl, show ((2 : Int) == 5) = false from rfl, show ((1 : Int) == 5) = false from rfl]
    cases decide (0 ≤ c ∧ c ≤ 20) <;> cases decide (0 ≤ s ∧ s ≤ 4294967295) <;> cases decide (0 ≤ b ∧ b ≤ 1000000) <;> simp
  have b5 : (k == 5) = false := by simpa using k5
  simp only [b5, cond_false, k5, if_false, Bool.and_false]

/-! ### showing a record -/

def showRec (r : RecT) : List UInt8 :=
  if recOk r = false then [] else
  if r.1 = 1 ∨ r.1 = 4 then varT r.1 ++ varT r.2.1 ++ varT (r.2.2.1.length : Int) ++ r.2.2.1 ++ varT (r.2.2.2.1.length : Int) ++ r.2.2.2.1
  else if r.1 = 2 then varT r.1 ++ varT r.2.1 ++ varT (r.2.2.1.length : Int) ++ r.2.2.1
  else varT r.1 ++ varT r.2.1 ++ varT r.2.2.2.2.1 ++ fix4 r.2.2.2.2.2

theorem fix4_len (n : Int) : (fix4 n).length ≤ 4 := by
  unfold fix4; split
  · rw [fixL_len]; omega
  · simp

theorem showRec_len (r : RecT) : (showRec r).length ≤ 60 := by
  obtain ⟨k, b, ky, v, c, s⟩ := r
  unfold showRec
  split
  · simp
  rename_i h
  have h : recOk (k, b, ky, v, c, s) = true := by simpa using h
  have l1 := varT_len k
  have l2 := varT_len b
  have l3 := varT_len (ky.length : Int)
  have l4 := varT_len (v.length : Int)
  have l5 := varT_len c
  have l6 := fix4_len s
  unfold recOk keyOk at h
  simp only [Bool.and_eq_true] at h
  have h := h.2
  split
  · rename_i c1
    simp only at c1
    simp only [c1, if_true, Bool.and_eq_true, decide_eq_true_eq] at h
    simp only [List.length_append]; omega
  · rename_i c1
    simp only at c1
    split
    · rename_i c2
      simp only at c2
      rw [if_neg c1, if_pos c2] at h
      simp only [Bool.and_eq_true, decide_eq_true_eq] at h
      simp only [List.length_append]; omega
    · simp only [List.length_append]; omega
theorem lim63 {a b : Nat} (h : a + b ≤ 1000000000000000) : decide (a + b ≤ 9223372036854775807) = true := by
  rw [decide_eq_true_eq]; omega

theorem spec_ShowRec_eq (r : RecT) : spec_ShowRec.f r = some (showRec r) := by
  obtain ⟨k, b, ky, v, c, s⟩ := r
  unfold spec_ShowRec.f showRec
  rw [spec_RecOk_eq, Option.bind_some]
  rcases Bool.eq_false_or_eq_true (recOk (k, b, ky, v, c, s)) with h | h
  rotate_left
  · simp [h]
  have hs : s < 9223372036854775808 ∨ k = 1 ∨ k = 4 ∨ k = 2 := by
    unfold recOk at h
    simp only [Bool.and_eq_true] at h
    have h := h.2
    by_cases c1 : k = 1 ∨ k = 4
    · omega
    by_cases c2 : k = 2
    · omega
    rw [if_neg c1, if_neg c2] at h
    left
    split at h
    · simp only [Bool.and_eq_true, decide_eq_true_eq] at h; omega
    · split at h
      · simp only [Bool.and_eq_true, decide_eq_true_eq] at h; omega
      · simp at h
  have hlen : k = 1 ∨ k = 4 ∨ k = 2 → ky.length ≤ 8 ∧ v.length ≤ 24 := by
    intro hk
    unfold recOk keyOk at h
    simp only [Bool.and_eq_true] at h
    have h := h.2
    by_cases c1 : k = 1 ∨ k = 4
    · rw [if_pos c1] at h
      simp only [Bool.and_eq_true, decide_eq_true_eq] at h; omega
    by_cases c2 : k = 2
    · rw [if_neg c1, if_pos c2] at h
      simp only [Bool.and_eq_true, decide_eq_true_eq, beq_iff_eq] at h
      rw [h.2.1]; simp; omega
    · omega
  have l1 := varT_len k
  have l2 := varT_len b
  have l3 := varT_len (ky.length : Int)
  have l4 := varT_len (v.length : Int)
  have l5 := varT_len c
  have l6 := fix4_len s
  simp only [h, Bool.not_true, cond_false, spec_Var_eq, Option.bind_some, lim63 (show (varT k).length + (varT b).length ≤ 1000000000000000 by omega), cond_true, Bool.true_eq_false, if_false]
  have kk : (bif k == 1 then some (((k, b, ky, v, c, s) : RecT), varT k ++ varT b, k, k == 1) else some ((k, b, ky, v, c, s), varT k ++ varT b, k, k == 4)) = some ((k, b, ky, v, c, s), varT k ++ varT b, k, decide (k = 1 ∨ k = 4)) := by
    by_cases c1 : k = 1
    · subst c1; rfl
    · have b1 : (k == 1) = false := by simpa using c1
      rw [b1, cond_false]
      by_cases c4 : k = 4
      · subst c4; rfl
      · have b4 : (k == 4) = false := by simpa using c4
        rw [b4, decide_eq_false (by omega)]
  simp only [kk, Option.bind_some]
  by_cases c1 : k = 1 ∨ k = 4
  · have hl := hlen (by omega)
    simp only [c1, decide_true, cond_true, if_true,
      lim63 (show (varT k ++ varT b).length + (varT (ky.length : Int)).length ≤ 1000000000000000 by simp only [List.length_append]; omega),
      lim63 (show (varT k ++ varT b ++ varT (ky.length : Int)).length + ky.length ≤ 1000000000000000 by simp only [List.length_append]; omega),
      lim63 (show (varT k ++ varT b ++ varT (ky.length : Int) ++ ky).length + (varT (v.length : Int)).length ≤ 1000000000000000 by simp only [List.length_append]; omega),
      lim63 (show (varT k ++ varT b ++ varT (ky.length : Int) ++ ky ++ varT (v.length : Int)).length + v.length ≤ 1000000000000000 by simp only [List.length_append]; omega)]
  by_cases c2 : k = 2
  · have hl := hlen (by omega)
    have b2 : (k == 2) = true := by simpa using c2
    simp only [c1, b2, decide_false, cond_false, cond_true, if_false,
      lim63 (show (varT k ++ varT b).length + (varT (ky.length : Int)).length ≤ 1000000000000000 by simp only [List.length_append]; omega),
      lim63 (show (varT k ++ varT b ++ varT (ky.length : Int)).length + ky.length ≤ 1000000000000000 by simp only [List.length_append]; omega)]
    rw [if_pos c2]
  · have b2 : (k == 2) = false := by simpa using c2
    simp only [c1, c2, b2, decide_false, cond_false, if_false,
      lim63 (show (varT k ++ varT b).length + (varT c).length ≤ 1000000000000000 by simp only [List.length_append]; omega), cond_true,
      spec_Fixed_eq s (by omega), Option.bind_some,
      lim63 (show (varT k ++ varT b ++ varT c).length + (fix4 s).length ≤ 1000000000000000 by simp only [List.length_append]; omega)]

theorem impl_textOf_eq (s : List UInt8) (h : s.length < 2 ^ 62) : impl_textOf.f s = some (varT (s.length : Int) ++ s) := by
  have l := varT_len (s.length : Int)
  unfold impl_textOf.f
  have c : (varT (s.length : Int)).length + s.length ≤ 9223372036854775807 := by omega
  simp only [impl_Var_eq, Option.bind_some, c, decide_true, cond_true]

theorem impl_vars_l0 (l : List Int) : ∀ n (acc : List UInt8), n ≤ l.length → acc.length ≤ 7 * n → l.length < 1000000000000 → lp impl_vars.l0 (acc, l, (l.length : Int), (n : Int)) = some (acc ++ ((l.drop n).map varT).flatten) := by
  intro n acc hn ha hl
  have := lp_up (step := impl_vars.l0) (fun n (acc : List UInt8) => (acc, l, (l.length : Int), (n : Int))) l.length (fun n acc => acc ++ ((l.drop n).map varT).flatten) (fun n acc => acc.length ≤ 7 * n)
    (fun rec n acc hn ha ih => by
      rcases Nat.lt_or_ge n l.length with h | h
      · have hv := varT_len l[n]
        have hb : acc.length + (varT l[n]).length ≤ 9223372036854775807 := by omega
        have ih := ih (acc ++ varT l[n]) h (by rw [List.length_append]; omega)
        simp only [impl_vars.l0, Int.ofNat_lt, h, decide_true, cond_true, inB_nat, rdA_nat, getD_lt h, impl_Var_eq, Option.bind_some, hb, w64_succ (show n + 1 < 9223372036854775808 by omega), ih]
        rw [List.drop_eq_getElem_cons h, List.map_cons, List.flatten_cons, List.append_assoc]
      · have : n = l.length := by omega
        subst this
        simp [impl_vars.l0])
    (by omega) n acc hn ha
  exact this

theorem impl_vars_eq (l : List Int) (hl : l.length < 1000000000000) : impl_vars.f l = some (l.map varT).flatten := by
  unfold impl_vars.f
  have := impl_vars_l0 l 0 [] (Nat.zero_le _) (by simp) hl
  have this : lp impl_vars.l0 ([], l, (l.length : Int), 0) = _ := this
  rw [this]; simp

theorem impl_ShowRec_eq (r : RecT) : impl_ShowRec.f r = some (showRec r) := by
  obtain ⟨k, b, ky, v, c, s⟩ := r
  unfold impl_ShowRec.f showRec
  rw [impl_RecOk_eq, Option.bind_some]
  rcases Bool.eq_false_or_eq_true (recOk (k, b, ky, v, c, s)) with h | h
  rotate_left
  · simp [h]
  have hlen : k = 1 ∨ k = 4 ∨ k = 2 → ky.length ≤ 8 ∧ v.length ≤ 24 := by
    intro hk
    unfold recOk keyOk at h
    simp only [Bool.and_eq_true] at h
    have h := h.2
    by_cases c1 : k = 1 ∨ k = 4
    · rw [if_pos c1] at h
      simp only [Bool.and_eq_true, decide_eq_true_eq] at h; omega
    by_cases c2 : k = 2
    · rw [if_neg c1, if_pos c2] at h
      simp only [Bool.and_eq_true, decide_eq_true_eq, beq_iff_eq] at h
      rw [h.2.1]; simp; omega
    · omega
  have l1 := varT_len k
  have l2 := varT_len b
  have l3 := varT_len (ky.length : Int)
  have l4 := varT_len (v.length : Int)
  have l5 := varT_len c
  have l6 := fix4_len s
  have hv : impl_vars.f [k, b] = some (varT k ++ varT b) := by rw [impl_vars_eq [k, b] (by show 2 < 1000000000000; decide)]; simp
  simp only [h, Bool.not_true, cond_false, hv, Option.bind_some, Bool.true_eq_false, if_false]
  have kk : (bif k == 1 then some (((k, b, ky, v, c, s) : RecT), varT k ++ varT b, k, k == 1) else some ((k, b, ky, v, c, s), varT k ++ varT b, k, k == 4)) = some ((k, b, ky, v, c, s), varT k ++ varT b, k, decide (k = 1 ∨ k = 4)) := by
    by_cases c1 : k = 1
    · subst c1; rfl
    · have b1 : (k == 1) = false := by simpa using c1
      rw [b1, cond_false]
      by_cases c4 : k = 4
      · subst c4; rfl
      · have b4 : (k == 4) = false := by simpa using c4
        rw [b4, decide_eq_false (by omega)]
  simp only [kk, Option.bind_some]
  by_cases c1 : k = 1 ∨ k = 4
  · have hl := hlen (by omega)
    simp only [c1, decide_true, cond_true, if_true, impl_textOf_eq ky (by omega), impl_textOf_eq v (by omega), Option.bind_some,
      lim63 (show (varT k ++ varT b).length + (varT (ky.length : Int) ++ ky).length ≤ 1000000000000000 by simp only [List.length_append]; omega),
      lim63 (show (varT k ++ varT b ++ (varT (ky.length : Int) ++ ky)).length + (varT (v.length : Int) ++ v).length ≤ 1000000000000000 by simp only [List.length_append]; omega)]
    simp only [List.append_assoc]
  by_cases c2 : k = 2
  · have hl := hlen (by omega)
    have b2 : (k == 2) = true := by simpa using c2
    simp only [c1, b2, decide_false, cond_false, cond_true, if_false, impl_textOf_eq ky (by omega), Option.bind_some,
      lim63 (show (varT k ++ varT b).length + (varT (ky.length : Int) ++ ky).length ≤ 1000000000000000 by simp only [List.length_append]; omega)]
    rw [if_pos c2]
    simp only [List.append_assoc]
  · have b2 : (k == 2) = false := by simpa using c2
    simp only [c1, c2, b2, decide_false, cond_false, if_false, impl_Var_eq, Option.bind_some,
      lim63 (show (varT k ++ varT b).length + (varT c).length ≤ 1000000000000000 by simp only [List.length_append]; omega), cond_true,
      impl_Fixed_eq s, Option.bind_some,
      lim63 (show (varT k ++ varT b ++ varT c).length + (fix4 s).length ≤ 1000000000000000 by simp only [List.length_append]; omega)]

/-! ### frames -/

def frame (s : List UInt8) : List UInt8 :=
  if 200 < s.length then [] else fix4 (crcT (varT (s.length : Int) ++ s)) ++ (varT (s.length : Int) ++ s)

theorem frame_len (s : List UInt8) : (frame s).length ≤ 211 := by
  unfold frame
  split
  · simp
  · have l1 := varT_len (s.length : Int)
    have l2 := fix4_len (crcT (varT (s.length : Int) ++ s))
    simp only [List.length_append]; omega

theorem spec_Frame_eq (s : List UInt8) (h : s.length < 2 ^ 62) : spec_Frame.f s = some (frame s) := by
  unfold spec_Frame.f frame
  by_cases c : 200 < s.length
  · have c1 : (s.length : Int) > 200 := by omega
    simp [c, c1]
  have c1 : ¬ (s.length : Int) > 200 := by omega
  have l1 := varT_len (s.length : Int)
  have l2 := fix4_len (crcT (varT (s.length : Int) ++ s))
  have r := crcT_range (varT (s.length : Int) ++ s)
  simp only [c, c1, decide_false, cond_false, if_false, spec_Var_eq, Option.bind_some, lim63 (show (varT (s.length : Int)).length + s.length ≤ 1000000000000000 by omega), cond_true,
    spec_Crc_eq (varT (s.length : Int) ++ s) (by rw [List.length_append]; omega), spec_Fixed_eq _ (show crcT (varT (s.length : Int) ++ s) < 9223372036854775808 by omega),
    lim63 (show (fix4 (crcT (varT (s.length : Int) ++ s))).length + (varT (s.length : Int) ++ s).length ≤ 1000000000000000 by simp only [List.length_append]; omega)]

theorem impl_Frame_eq (s : List UInt8) (h : s.length < 2 ^ 62) : impl_Frame.f s = some (frame s) := by
  unfold impl_Frame.f frame
  by_cases c : 200 < s.length
  · have c1 : (s.length : Int) > 200 := by omega
    simp [c, c1]
  have c1 : ¬ (s.length : Int) > 200 := by omega
  have l1 := varT_len (s.length : Int)
  have l2 := fix4_len (crcT (varT (s.length : Int) ++ s))
  have r := crcT_range (varT (s.length : Int) ++ s)
  simp only [c, c1, decide_false, cond_false, if_false, impl_textOf_eq s (by omega), Option.bind_some, cond_true,
    impl_Crc_eq (varT (s.length : Int) ++ s) (by rw [List.length_append]; omega), impl_Fixed_eq,
    lim63 (show (fix4 (crcT (varT (s.length : Int) ++ s))).length + (varT (s.length : Int) ++ s).length ≤ 1000000000000000 by simp only [List.length_append]; omega)]

/-! ### sums of records -/

def showAll (l : List RecT) : List UInt8 := (l.map showRec).flatten
def sumOf (l : List RecT) : Int := crcT (showAll l)

theorem showAll_len : ∀ (l : List RecT), (showAll l).length ≤ 60 * l.length
  | [] => by simp [showAll]
  | r :: l => by
    have h1 := showAll_len l
    have h2 := showRec_len r
    unfold showAll at *
    rw [List.map_cons, List.flatten_cons, List.length_append, List.length_cons]; omega

theorem showAll_snoc (l : List RecT) (r : RecT) : showAll (l ++ [r]) = showAll l ++ showRec r := by
  unfold showAll; simp

theorem spec_SumOf_eq (l : List RecT) (hl : l.length < 1000000000000) : spec_SumOf.f l = some (sumOf l) := by
  have hk := lp_up (step := spec_SumOf.l0) (fun n (_ : Unit) => (l, showAll (l.take n), (n : Int))) l.length (fun _ _ => showAll l) (fun _ _ => True)
    (fun rec n s hn _ ih => by
      rcases Nat.lt_or_ge n l.length with h | h
      · have h1 := showAll_len (l.take n)
        have h2 := showRec_len l[n]
        rw [List.length_take] at h1
        have ih := ih () h trivial
        rw [List.take_succ_eq_append_getElem h, showAll_snoc] at ih
        simp only [spec_SumOf.l0, Int.ofNat_lt, h, decide_true, cond_true, inB_nat, rdA_nat, getD_lt h, pair_eta, spec_ShowRec_eq, Option.bind_some, lim63 (show (showAll (l.take n)).length + (showRec l[n]).length ≤ 1000000000000000 by omega), w64_succ (show n + 1 < 9223372036854775808 by omega), ih]
      · have : n = l.length := by omega
        subst this
        simp [spec_SumOf.l0])
    (by omega) 0 () (Nat.zero_le _) trivial
  have hk : lp spec_SumOf.l0 (l, [], 0) = _ := hk
  have hl2 := showAll_len l
  unfold spec_SumOf.f sumOf
  rw [hk, Option.bind_some, spec_Crc_eq _ (by omega), Option.bind_some]

theorem impl_SumOf_eq (l : List RecT) (hl : l.length < 1000000000000) : impl_SumOf.f l = some (sumOf l) := by
  have hk := lp_up (step := impl_SumOf.l0) (fun n (_ : Unit) => (showAll (l.take n), l, (l.length : Int), (n : Int))) l.length (fun _ _ => showAll l) (fun _ _ => True)
    (fun rec n s hn _ ih => by
      rcases Nat.lt_or_ge n l.length with h | h
      · have h1 := showAll_len (l.take n)
        have h2 := showRec_len l[n]
        rw [List.length_take] at h1
        have ih := ih () h trivial
        rw [List.take_succ_eq_append_getElem h, showAll_snoc] at ih
        simp only [impl_SumOf.l0, Int.ofNat_lt, h, decide_true, cond_true, inB_nat, rdA_nat, getD_lt h, pair_eta, impl_ShowRec_eq, Option.bind_some, lim63 (show (showAll (l.take n)).length + (showRec l[n]).length ≤ 1000000000000000 by omega), w64_succ (show n + 1 < 9223372036854775808 by omega), ih]
      · have : n = l.length := by omega
        subst this
        simp [impl_SumOf.l0])
    (by omega) 0 () (Nat.zero_le _) trivial
  have hk : lp impl_SumOf.l0 ([], l, (l.length : Int), 0) = _ := hk
  have hl2 := showAll_len l
  unfold impl_SumOf.f sumOf
  rw [hk, Option.bind_some, impl_Crc_eq _ (by omega), Option.bind_some]
end Go.Rf.G
