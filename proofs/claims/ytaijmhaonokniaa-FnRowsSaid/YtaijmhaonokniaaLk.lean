/- Plain: numbers in bytes, records, frames; the size of what is merged. -/
import Derived.Test.YtaijmhaonokniaaLj
namespace Go.Rf.G
open Go Go.Rf
set_option linter.unusedVariables false
set_option linter.unusedSimpArgs false
set_option synthInstance.maxSize 4000

theorem u8_wrap (n : Nat) : UInt8.ofNat (IntKind.wrap .u8 (n : Int)).toNat = UInt8.ofNat n := by
  have e : IntKind.wrap .u8 (n : Int) = ((n % 256 : Nat) : Int) := by
    unfold IntKind.wrap
    simp only [IntKind.bits, IntKind.signed]
    simp
  rw [e, Int.toNat_natCast]
  exact UInt8.ofNat_mod_size

theorem impl_Var_l0_eq : impl_Var.l0 = spec_Var.l0 := by
  funext rec x
  obtain ⟨x0, x3⟩ := x
  have e1 : decide (x0 > 127) = decide (x0 ≥ 128) := decide_eq_decide.2 (by omega)
  simp only [impl_Var.l0, spec_Var.l0, e1, Int.add_comm 128]

theorem impl_Var_f_eq : impl_Var.f = spec_Var.f := by
  funext n
  unfold impl_Var.f spec_Var.f
  rw [impl_in_eq, spec_l1In_eq, impl_Var_l0_eq]

theorem strOf_app (a b : List Int) : strOf (a ++ b) = strOf a ++ strOf b := List.map_append

def vLowI (n : Nat) : List Int := if h : n < 128 then [] else IntKind.wrap .u8 (w64 (128 + (n % 128 : Nat))) :: vLowI (n / 128)
termination_by n
decreasing_by omega

theorem vLowI_str (n : Nat) : strOf (vLowI n) = vLow n := by
  unfold vLowI vLow
  split
  · rfl
  · rw [show strOf (IntKind.wrap .u8 (w64 (128 + (n % 128 : Nat))) :: vLowI (n / 128)) = UInt8.ofNat (IntKind.wrap .u8 (w64 (128 + (n % 128 : Nat)))).toNat :: strOf (vLowI (n / 128)) from rfl, vLowI_str (n / 128)]
    have e : w64 (128 + ((n % 128 : Nat) : Int)) = ((128 + n % 128 : Nat) : Int) := by rw [w64_id (by omega) (by omega)]; omega
    rw [e, u8_wrap]
termination_by n
decreasing_by omega

theorem vLowI_len (n : Nat) : (vLowI n).length = (vLow n).length := by rw [← vLowI_str]; unfold strOf; rw [List.length_map]

theorem var_loop (m : Nat) (hm : m < 128 ^ 7) : lp spec_Var.l0 ((m : Int), []) = some (((vTop m : Nat) : Int), vLowI m) := by
  have := lp_eq (step := spec_Var.l0) (a := ((m : Int), ([] : List Int)))
    (fun a => (((vTop a.1.toNat : Nat) : Int), a.2 ++ vLowI a.1.toNat)) (fun a => 0 ≤ a.1 ∧ a.2.length ≤ 7 ∧ a.1.toNat < 128 ^ (7 - a.2.length)) (fun a => a.1.toNat)
    (fun rec a ha ih => by
      obtain ⟨x, l⟩ := a
      obtain ⟨n, rfl⟩ : ∃ n : Nat, x = (n : Int) := ⟨x.toNat, by have := ha.1; simp only at this; omega⟩
      obtain ⟨_, h2, h3⟩ := ha
      simp only [Int.toNat_natCast] at h2 h3 ih ⊢
      have hn : n < 128 ^ 7 := Nat.lt_of_lt_of_le h3 (Nat.pow_le_pow_right (by omega) (by omega))
      have hn : n < 562949953421312 := hn
      by_cases c : n < 128
      · have c1 : ¬ (n : Int) ≥ 128 := by omega
        simp only [spec_Var.l0, c1, decide_false, cond_false]
        rw [show vTop n = n by unfold vTop; rw [dif_pos c], show vLowI n = [] by unfold vLowI; rw [dif_pos c], List.append_nil]
      · have c1 : (n : Int) ≥ 128 := by omega
        have h4 : l.length < 7 := by
          rcases Nat.lt_or_ge l.length 7 with h | h
          · exact h
          · rw [show 7 - l.length = 0 by omega] at h3; simp at h3; omega
        have e1 : Int.tmod (n : Int) 128 = ((n % 128 : Nat) : Int) := rfl
        have e2 : w64 (Int.tdiv (n : Int) 128) = ((n / 128 : Nat) : Int) := by
          rw [show Int.tdiv (n : Int) 128 = ((n / 128 : Nat) : Int) from rfl]; exact w64_nat (by omega)
        have hb : (l.length + [IntKind.wrap .u8 (w64 (128 + ((n % 128 : Nat) : Int)))].length) * 1 ≤ 140737488355328 := by
          show (l.length + 1) * 1 ≤ _; omega
        have ih := ih (((n / 128 : Nat) : Int), l ++ [IntKind.wrap .u8 (w64 (128 + ((n % 128 : Nat) : Int)))]) ⟨by simp only; omega, by rw [List.length_append]; show _ + 1 ≤ _; omega, by
          rw [List.length_append, Int.toNat_natCast]
          show _ < 128 ^ (7 - (l.length + 1))
          rw [Nat.div_lt_iff_lt_mul (by omega), ← Nat.pow_succ, show (7 - (l.length + 1)).succ = 7 - l.length by omega]; exact h3⟩ (by simp only [Int.toNat_natCast]; omega)
        simp only [Int.toNat_natCast] at ih
        simp only [spec_Var.l0, c1, decide_true, cond_true, e1, e2, hb, ih]
        rw [show vTop n = vTop (n / 128) by rw [vTop, dif_neg c], show vLowI n = IntKind.wrap .u8 (w64 (128 + (n % 128 : Nat))) :: vLowI (n / 128) by rw [vLowI, dif_neg c], List.append_assoc]; rfl)
    ⟨by simp only; omega, by simp, by simpa using hm⟩ (by simp only [Int.toNat_natCast]; have : m < 562949953421312 := hm; omega)
  simpa using this

theorem spec_Var_eq (n : Int) : spec_Var.f n = some (varT n) := by
  unfold spec_Var.f varT
  rw [spec_l1In_eq, Option.bind_some]
  by_cases h : 0 ≤ n ∧ n ≤ 562949953421311
  rotate_left
  · simp [h]
  obtain ⟨m, rfl⟩ : ∃ m : Nat, n = (m : Int) := ⟨n.toNat, by omega⟩
  have hm : m < 128 ^ 7 := by show m < 562949953421312; omega
  have key : ∃ L : List Int, strOf L = vLow m ∧ L.length ≤ 7 ∧ lp spec_Var.l0 ((m : Int), []) = some (((vTop m : Nat) : Int), L) :=
    ⟨vLowI m, vLowI_str m, by rw [vLowI_len]; have := vLow_len 6 m hm; omega, var_loop m hm⟩
  obtain ⟨L, e1, e2, e3⟩ := key
  have hb : (L.length + [IntKind.wrap .u8 ((vTop m : Nat) : Int)].length) * 1 ≤ 140737488355328 := by
    show (L.length + 1) * 1 ≤ _; omega
  simp only [h, and_self, decide_true, Bool.not_true, cond_false, e3, Option.bind_some, hb, cond_true, if_true, strOf_app, e1, Int.toNat_natCast]
  unfold strOf
  simp only [List.map_cons, List.map_nil, u8_wrap]
theorem impl_Var_eq (n : Int) : impl_Var.f n = some (varT n) := by rw [impl_Var_f_eq, spec_Var_eq]

/-! ### Fixed -/

def fixL (n : Nat) : Nat → List UInt8
  | 0 => []
  | k + 1 => UInt8.ofNat (n / 256 ^ k) :: fixL n k

theorem fixL_len (n : Nat) : ∀ k, (fixL n k).length = k
  | 0 => rfl
  | k + 1 => by simp [fixL, fixL_len n k]

theorem fixL_snoc (n : Nat) : ∀ k, fixL n (k + 1) = fixL (n / 256) k ++ [UInt8.ofNat n]
  | 0 => by simp [fixL]
  | k + 1 => by
    rw [fixL, fixL_snoc n k]
    show _ = UInt8.ofNat (n / 256 / 256 ^ k) :: fixL (n / 256) k ++ [UInt8.ofNat n]
    rw [Nat.div_div_eq_div_mul, Nat.pow_succ, Nat.mul_comm (256 ^ k) 256]; rfl

def fix4 (n : Int) : List UInt8 := if 0 ≤ n ∧ n ≤ 4294967295 then fixL n.toNat 4 else []

theorem spec_Fixed_eq (n : Int) (hn : n < 9223372036854775808) : spec_Fixed.f n 4 = some (fix4 n) := by
  unfold spec_Fixed.f fix4
  rw [spec_l1In_eq, Option.bind_some]
  by_cases h : 0 ≤ n
  rotate_left
  · have h1 : n < 0 := by omega
    simp [h, h1]
  obtain ⟨m, rfl⟩ : ∃ m : Nat, n = (m : Int) := ⟨n.toNat, by omega⟩
  have key := lp_up (step := spec_Fixed.l0) (fun i (s : Nat × List UInt8) => ((s.1 : Int), 4, s.2, (i : Int))) 4 (fun i s => (((s.1 / 256 ^ (4 - i) : Nat) : Int), fixL s.1 (4 - i) ++ s.2)) (fun i s => s.1 < 9223372036854775808 ∧ s.2.length ≤ i)
    (fun rec i s hi hv ih => by
      obtain ⟨a, l⟩ := s
      obtain ⟨hv1, hv2⟩ := hv
      simp only at hv1 hv2 ih ⊢
      rcases Nat.lt_or_ge i 4 with h4 | h4
      · have e0 : (i : Int) < 4 := by omega
        have e1 : Int.tmod (a : Int) 256 = ((a % 256 : Nat) : Int) := rfl
        have e2 : w64 (Int.tdiv (a : Int) 256) = ((a / 256 : Nat) : Int) := by
          rw [show Int.tdiv (a : Int) 256 = ((a / 256 : Nat) : Int) from rfl]; exact w64_nat (by omega)
        have e3 : strOf [IntKind.wrap .u8 ((a % 256 : Nat) : Int)] = [UInt8.ofNat a] := by
          unfold strOf
          simp only [List.map_cons, List.map_nil, u8_wrap]
          congr 1; exact UInt8.ofNat_mod_size
        have hw : w64 ((i : Int) + 1) = ((i + 1 : Nat) : Int) := w64_succ (by omega)
        have hb : ([UInt8.ofNat a] : List UInt8).length + l.length ≤ 9223372036854775807 := by show 1 + _ ≤ _; omega
        have ih := ih (a / 256, [UInt8.ofNat a] ++ l) h4 ⟨by simp only; omega, by simp; omega⟩
        simp only at ih
        simp only [spec_Fixed.l0, e0, decide_true, cond_true, e1, e2, e3, hb, hw, ih]
        rw [show 4 - i = (4 - (i + 1)) + 1 by omega, fixL_snoc, Nat.pow_succ, Nat.mul_comm, ← Nat.div_div_eq_div_mul, List.append_assoc]
      · have : i = 4 := by omega
        subst this
        simp [spec_Fixed.l0, fixL])
    (by omega) 0 (m, []) (Nat.zero_le _) ⟨by simp only; omega, by simp⟩
  have key : lp spec_Fixed.l0 ((m : Int), 4, [], 0) = some (((m / 256 ^ 4 : Nat) : Int), fixL m 4 ++ []) := key
  have h1 : ¬ (m : Int) < 0 := by omega
  have h0 : decide ((1 : Int) ≤ 4 ∧ (4 : Int) ≤ 7) = true := by decide
  have h2 : (decide ((((m / 256 ^ 4 : Nat) : Int)) > 0)) = !decide (0 ≤ (m : Int) ∧ (m : Int) ≤ 4294967295) := by
    have : m / 256 ^ 4 = m / 4294967296 := rfl
    by_cases c : m ≤ 4294967295
    · have : m / 256 ^ 4 = 0 := by rw [this]; omega
      rw [this]; simp; omega
    · have : 0 < m / 256 ^ 4 := by rw [this]; omega
      have c2 : ¬ (0 ≤ (m : Int) ∧ (m : Int) ≤ 4294967295) := by omega
      simp only [c2, decide_false, Bool.not_false, decide_eq_true_eq]; omega
  simp only [h0, h1, decide_false, Bool.not_true, cond_false, key, Option.bind_some, h2, List.append_nil, Int.toNat_natCast]
  by_cases c : 0 ≤ (m : Int) ∧ (m : Int) ≤ 4294967295
  · simp [c]
  · rw [if_neg c, decide_eq_false c]; rfl

def fixI (n : Nat) : Nat → List Int
  | 0 => []
  | k + 1 => IntKind.wrap .u8 ((n / 256 ^ k : Nat) : Int) :: fixI n k

theorem fixI_str (n : Nat) : ∀ k, strOf (fixI n k) = fixL n k
  | 0 => rfl
  | k + 1 => by
    rw [fixI, fixL, ← fixI_str n k, ← u8_wrap]; rfl

theorem impl_Fixed_eq (n : Int) : impl_Fixed.f n 4 = some (fix4 n) := by
  unfold impl_Fixed.f fix4
  have h0 : decide ((1 : Int) ≤ 4 ∧ (4 : Int) ≤ 7) = true := by decide
  have h1 : decide (0 ≤ w64 (8 * 4)) = true := by decide
  have h2 : w64 (w64 (1 * 2 ^ (min (w64 (8 * 4)).toNat 64)) - 1) = 4294967295 := by decide
  simp only [impl_in_eq, Option.bind_some, h0, h1, h2, Bool.not_true, cond_false, cond_true]
  by_cases h : 0 ≤ n ∧ n ≤ 4294967295
  rotate_left
  · simp [h]
  obtain ⟨m, rfl⟩ : ∃ m : Nat, n = (m : Int) := ⟨n.toNat, by omega⟩
  have key := lp_eq (step := impl_Fixed.l0) (a := ((m : Int), ([] : List Int), (3 : Int)))
    (fun a => a.2.1 ++ (fixI m (a.2.2 + 1).toNat)) (fun a => a.1 = (m : Int) ∧ -1 ≤ a.2.2 ∧ a.2.2 ≤ 3 ∧ (a.2.1.length : Int) ≤ 3 - a.2.2) (fun a => (a.2.2 + 1).toNat)
    (fun rec a ha ih => by
      obtain ⟨x, l, k⟩ := a
      obtain ⟨hx, ha1, ha2, ha3⟩ := ha
      simp only at hx ha1 ha2 ha3 ih ⊢
      subst hx
      by_cases c : k ≥ 0
      · obtain ⟨j, rfl⟩ : ∃ j : Nat, k = (j : Int) := ⟨k.toNat, by omega⟩
        have e1 : w64 (8 * (j : Int)) = ((8 * j : Nat) : Int) := by rw [w64_id (by omega) (by omega)]; omega
        have e2 : Int.fdiv (m : Int) (2 ^ (min ((8 * j : Nat) : Int).toNat 64)) = ((m / 256 ^ j : Nat) : Int) := by
          have e : (2 : Int) ^ (8 * j) = ((256 ^ j : Nat) : Int) := by
            rw [show (256 : Nat) = 2 ^ 8 from rfl, ← Nat.pow_mul, Int.natCast_pow]; rfl
          rw [Int.toNat_natCast, Nat.min_eq_left (by omega), e, Int.fdiv_eq_ediv_of_nonneg _ (Int.natCast_nonneg _)]
          rfl
        have e3 : w64 ((j : Int) - 1) = (j : Int) - 1 := w64_id (by omega) (by omega)
        have hb : (l.length + [IntKind.wrap .u8 ((m / 256 ^ j : Nat) : Int)].length) * 1 ≤ 140737488355328 := by show (l.length + 1) * 1 ≤ _; omega
        have ih := ih ((m : Int), l ++ [IntKind.wrap .u8 ((m / 256 ^ j : Nat) : Int)], (j : Int) - 1) ⟨rfl, by simp only; omega, by simp only; omega, by simp only [List.length_append, List.length_singleton]; omega⟩ (by simp only; omega)
        simp only at ih
        have h0 : (0 : Int) ≤ ((8 * j : Nat) : Int) := by omega
        simp only [impl_Fixed.l0, c, decide_true, cond_true, e1, h0, e2, hb, e3, ih]
        rw [show ((j : Int) - 1 + 1).toNat = j by omega, show ((j : Int) + 1).toNat = j + 1 by omega, fixI, List.append_assoc]; rfl
      · have : k = -1 := by omega
        subst this
        simp [impl_Fixed.l0, fixI])
    ⟨rfl, by simp only; omega, by simp only; omega, by simp⟩ (by show (4 : Nat) < 2 ^ 62; decide)
  have e9 : w64 (4 - 1) = 3 := by decide
  have key : lp impl_Fixed.l0 ((m : Int), [], 3) = some (fixI m 4) := key
  simp only [h, and_self, decide_true, Bool.not_true, cond_false, e9, key, Option.bind_some, if_true, Int.toNat_natCast, fixI_str]
end Go.Rf.G
