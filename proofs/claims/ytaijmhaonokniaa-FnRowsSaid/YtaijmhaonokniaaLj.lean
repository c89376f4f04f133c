/- Plain: numbers in bytes, sums, records, frames. -/
import Derived.Test.YtaijmhaonokniaaLi
namespace Go.Rf.G
open Go Go.Rf
set_option linter.unusedVariables false
set_option linter.unusedSimpArgs false
set_option synthInstance.maxSize 4000

/-! ### bits -/

theorem wrap64_nat {n : Nat} (h : n < 9223372036854775808) : IntKind.wrap .i64 (n : Int) = n := w64_nat h

theorem wrap32_nat {n : Nat} (h : n < 4294967296) : IntKind.wrap .u32 (n : Int) = n := by
  unfold IntKind.wrap
  simp only [IntKind.bits, IntKind.signed]
  simp; omega

theorem xor64 (a b : Nat) (ha : a < 2 ^ 63) (hb : b < 2 ^ 63) : bits (fun _ a b => a ^^^ b) .i64 (a : Int) (b : Int) = ((a ^^^ b : Nat) : Int) := by
  unfold bits
  have h : a ^^^ b < 2 ^ 63 := Nat.xor_lt_two_pow ha hb
  have e : (BitVec.ofInt 64 (a : Int) ^^^ BitVec.ofInt 64 (b : Int)).toNat = a ^^^ b := by
    rw [BitVec.ofInt_natCast, BitVec.ofInt_natCast, BitVec.toNat_xor, BitVec.toNat_ofNat, BitVec.toNat_ofNat, Nat.mod_eq_of_lt (by omega), Nat.mod_eq_of_lt (by omega)]
  show IntKind.wrap .i64 ((BitVec.ofInt 64 (a : Int) ^^^ BitVec.ofInt 64 (b : Int)).toNat : Int) = _
  rw [e]
  exact wrap64_nat (by omega)

theorem xor32 (a b : Nat) (ha : a < 2 ^ 32) (hb : b < 2 ^ 32) : bits (fun _ a b => a ^^^ b) .u32 (a : Int) (b : Int) = ((a ^^^ b : Nat) : Int) := by
  unfold bits
  have h : a ^^^ b < 2 ^ 32 := Nat.xor_lt_two_pow ha hb
  have e : (BitVec.ofInt 32 (a : Int) ^^^ BitVec.ofInt 32 (b : Int)).toNat = a ^^^ b := by
    rw [BitVec.ofInt_natCast, BitVec.ofInt_natCast, BitVec.toNat_xor, BitVec.toNat_ofNat, BitVec.toNat_ofNat, Nat.mod_eq_of_lt (by omega), Nat.mod_eq_of_lt (by omega)]
  show IntKind.wrap .u32 ((BitVec.ofInt 32 (a : Int) ^^^ BitVec.ofInt 32 (b : Int)).toNat : Int) = _
  rw [e]
  exact wrap32_nat (by omega)

theorem and32 (a : Nat) (ha : a < 2 ^ 32) : bits (fun _ a b => a &&& b) .u32 (a : Int) 1 = ((a % 2 : Nat) : Int) := by
  unfold bits
  have e : (BitVec.ofInt 32 (a : Int) &&& BitVec.ofInt 32 ((1 : Nat) : Int)).toNat = a % 2 := by
    rw [BitVec.ofInt_natCast, BitVec.ofInt_natCast, BitVec.toNat_and, BitVec.toNat_ofNat, BitVec.toNat_ofNat, Nat.mod_eq_of_lt (by omega)]
    exact Nat.and_one_is_mod a
  show IntKind.wrap .u32 ((BitVec.ofInt 32 (a : Int) &&& BitVec.ofInt 32 ((1 : Nat) : Int)).toNat : Int) = _
  rw [e]
  exact wrap32_nat (by omega)

/-! ### the sum -/

def crc1 (c : Nat) : Nat := if c % 2 = 1 then (c / 2) ^^^ 2197175160 else c / 2
def crcK : Nat → Nat → Nat
  | 0, c => c
  | k + 1, c => crcK k (crc1 c)
def crcB (c : Nat) (b : UInt8) : Nat := crcK 8 (c ^^^ b.toNat)
def crcN (s : List UInt8) : Nat := s.foldl crcB 4294967295
def crcT (s : List UInt8) : Int := ((4294967295 - crcN s : Nat) : Int)

theorem crc1_lt {c : Nat} (h : c < 2 ^ 32) : crc1 c < 2 ^ 32 := by
  unfold crc1
  split
  · exact Nat.xor_lt_two_pow (by omega) (by decide)
  · omega

theorem crcK_lt : ∀ (k : Nat) {c : Nat}, c < 2 ^ 32 → crcK k c < 2 ^ 32
  | 0, _, h => h
  | k + 1, _, h => crcK_lt k (crc1_lt h)

theorem crcB_lt {c : Nat} (h : c < 2 ^ 32) (b : UInt8) : crcB c b < 2 ^ 32 :=
  crcK_lt 8 (Nat.xor_lt_two_pow h (by have := b.toNat_lt; omega))

theorem crc_fold_lt : ∀ (s : List UInt8) {c : Nat}, c < 2 ^ 32 → s.foldl crcB c < 2 ^ 32
  | [], _, h => h
  | b :: s, _, h => crc_fold_lt s (crcB_lt h b)

theorem crcT_range (s : List UInt8) : 0 ≤ crcT s ∧ crcT s ≤ 4294967295 := by unfold crcT; omega

theorem spec_Crc_l2 (s : List UInt8) (c : Nat) (i : Int) (hc : c < 2 ^ 32) : lp spec_Crc.l2 (s, (c : Int), i, 0) = some (s, ((crcK 8 c : Nat) : Int), i) := by
  have := lp_up (step := spec_Crc.l2) (fun n (c : Nat) => (s, (c : Int), i, (n : Int))) 8 (fun n c => (s, ((crcK (8 - n) c : Nat) : Int), i)) (fun _ c => c < 2 ^ 32)
    (fun rec n c hn hc ih => by
      rcases Nat.lt_or_ge n 8 with h | h
      · have h8 : (n : Int) < 8 := by omega
        have hw : w64 ((n : Int) + 1) = ((n + 1 : Nat) : Int) := w64_succ (by omega)
        have e1 : w64 (Int.tdiv (c : Int) 2) = ((c / 2 : Nat) : Int) := by
          rw [show Int.tdiv (c : Int) 2 = ((c / 2 : Nat) : Int) from rfl]; exact w64_nat (by omega)
        have e2 : Int.tmod (c : Int) 2 = ((c % 2 : Nat) : Int) := rfl
        have e3 : bits (fun _ a b => a ^^^ b) .i64 ((c / 2 : Nat) : Int) 2197175160 = (((c / 2) ^^^ 2197175160 : Nat) : Int) := xor64 (c / 2) 2197175160 (by omega) (by decide)
        have e4 : crcK (8 - n) c = crcK (8 - (n + 1)) (crc1 c) := by
          rw [show 8 - n = (8 - (n + 1)) + 1 by omega]; rfl
        have ih := ih (crc1 c) h (crc1_lt hc)
        rw [e4, ← ih]
        simp only [spec_Crc.l2, h8, decide_true, cond_true, e1, e2]
        unfold crc1
        by_cases k : c % 2 = 1
        · have k2 : (((c % 2 : Nat) : Int) == 1) = true := by rw [k]; rfl
          simp only [k2, cond_true, e3, Option.bind_some, hw]
          rw [if_pos k]
        · have k2 : (((c % 2 : Nat) : Int) == 1) = false := by simp; omega
          simp only [k2, cond_false, Option.bind_some, hw]
          rw [if_neg k]
      · have : n = 8 := by omega
        subst this
        simp [spec_Crc.l2, crcK])
    (by omega) 0 c (Nat.zero_le _) hc
  exact this

theorem impl_Crc_l2 (s : List UInt8) (c : Nat) (i : Int) (hc : c < 2 ^ 32) : lp impl_Crc.l2 (s, (c : Int), i, 0) = some (s, ((crcK 8 c : Nat) : Int), i) := by
  have := lp_up (step := impl_Crc.l2) (fun n (c : Nat) => (s, (c : Int), i, (n : Int))) 8 (fun n c => (s, ((crcK (8 - n) c : Nat) : Int), i)) (fun _ c => c < 2 ^ 32)
    (fun rec n c hn hc ih => by
      rcases Nat.lt_or_ge n 8 with h | h
      · have h8 : (n : Int) < 8 := by omega
        have hw : w64 ((n : Int) + 1) = ((n + 1 : Nat) : Int) := w64_succ (by omega)
        have e1 : Int.fdiv (c : Int) (2 ^ (min 1 32)) = ((c / 2 : Nat) : Int) := by
          show Int.fdiv (c : Int) 2 = _
          rw [Int.fdiv_eq_ediv_of_nonneg _ (by omega)]; rfl
        have e3 : bits (fun _ a b => a ^^^ b) .u32 ((c / 2 : Nat) : Int) 2197175160 = (((c / 2) ^^^ 2197175160 : Nat) : Int) := xor32 (c / 2) 2197175160 (by omega) (by decide)
        have e4 : crcK (8 - n) c = crcK (8 - (n + 1)) (crc1 c) := by
          rw [show 8 - n = (8 - (n + 1)) + 1 by omega]; rfl
        have ih := ih (crc1 c) h (crc1_lt hc)
        rw [e4, ← ih]
        simp only [impl_Crc.l2, h8, decide_true, cond_true, e1, and32 c hc]
        unfold crc1
        by_cases k : c % 2 = 1
        · have k2 : (((c % 2 : Nat) : Int) == 1) = true := by rw [k]; rfl
          simp only [k2, cond_true, e3, Option.bind_some, hw]
          rw [if_pos k]
        · have k2 : (((c % 2 : Nat) : Int) == 1) = false := by simp; omega
          simp only [k2, cond_false, Option.bind_some, hw]
          rw [if_neg k]
      · have : n = 8 := by omega
        subst this
        simp [impl_Crc.l2, crcK])
    (by omega) 0 c (Nat.zero_le _) hc
  exact this

theorem spec_Crc_eq (s : List UInt8) (hl : s.length < 2 ^ 62) : spec_Crc.f s = some (crcT s) := by
  have hk := fold_loop (step := spec_Crc.l0) s crcB (fun n (c : Nat) => (s, (c : Int), (n : Int))) (fun c => (c : Int)) (fun _ c => c < 2 ^ 32) hl
    (fun rec n c h hc => by
      have hc : c < 2 ^ 32 := hc
      have hw : w64 ((n : Int) + 1) = ((n + 1 : Nat) : Int) := w64_succ (by omega)
      have hb := s[n].toNat_lt
      have e1 : w64 (bAt s (n : Int)) = ((s[n].toNat : Nat) : Int) := by rw [bAt_nat s n h]; exact w64_nat (by omega)
      have e2 := xor64 c s[n].toNat (by omega) (by omega)
      simp only [spec_Crc.l0, Int.ofNat_lt, h, decide_true, cond_true, inB_nat, e1, e2]
      rw [spec_Crc_l2 s _ _ (Nat.xor_lt_two_pow hc (by omega))]
      simp only [Option.bind_some, hw]; rfl)
    (fun n c h hc => crcB_lt hc _)
    (fun rec c hc => by simp [spec_Crc.l0]) 4294967295 (by decide)
  have hk : lp spec_Crc.l0 (s, 4294967295, 0) = _ := hk
  unfold spec_Crc.f crcT crcN
  rw [hk, Option.bind_some]
  have := crc_fold_lt s (c := 4294967295) (by decide)
  generalize s.foldl crcB 4294967295 = c at *
  simp only
  rw [w64_id (by omega) (by omega)]
  congr 1; omega

theorem all32 (c : Nat) (h : c < 2 ^ 32) : 4294967295 ^^^ c = 4294967295 - c := by
  have e : (BitVec.allOnes 32 ^^^ BitVec.ofNat 32 c).toNat = (~~~ BitVec.ofNat 32 c).toNat := by rw [BitVec.allOnes_xor]
  rw [BitVec.toNat_xor, BitVec.toNat_not, BitVec.toNat_allOnes, BitVec.toNat_ofNat, Nat.mod_eq_of_lt h] at e
  have e : 4294967295 ^^^ c = 4294967296 - 1 - c := e
  omega

theorem impl_Crc_eq (s : List UInt8) (hl : s.length < 2 ^ 62) : impl_Crc.f s = some (crcT s) := by
  have hk := fold_loop (step := impl_Crc.l0) s crcB (fun n (c : Nat) => (s, (c : Int), (n : Int))) (fun c => (c : Int)) (fun _ c => c < 2 ^ 32) hl
    (fun rec n c h hc => by
      have hc : c < 2 ^ 32 := hc
      have hw : w64 ((n : Int) + 1) = ((n + 1 : Nat) : Int) := w64_succ (by omega)
      have hb := s[n].toNat_lt
      have e1 : IntKind.wrap .u32 (bAt s (n : Int)) = ((s[n].toNat : Nat) : Int) := by rw [bAt_nat s n h]; exact wrap32_nat (by omega)
      have e2 := xor32 c s[n].toNat (by omega) (by omega)
      simp only [impl_Crc.l0, Int.ofNat_lt, h, decide_true, cond_true, inB_nat, e1, e2]
      rw [impl_Crc_l2 s _ _ (Nat.xor_lt_two_pow hc (by omega))]
      simp only [Option.bind_some, hw]; rfl)
    (fun n c h hc => crcB_lt hc _)
    (fun rec c hc => by simp [impl_Crc.l0]) 4294967295 (by decide)
  have hk : lp impl_Crc.l0 (s, 4294967295, 0) = _ := hk
  unfold impl_Crc.f crcT crcN
  rw [hk, Option.bind_some]
  have := crc_fold_lt s (c := 4294967295) (by decide)
  generalize s.foldl crcB 4294967295 = c at *
  have e : bits (fun _ a b => a ^^^ b) .u32 4294967295 (c : Int) = ((4294967295 ^^^ c : Nat) : Int) := xor32 4294967295 c (by decide) this
  simp only [e, all32 c this]
  rw [w64_nat (by omega)]

/-! ### Var -/

def vLow (n : Nat) : List UInt8 := if h : n < 128 then [] else UInt8.ofNat (128 + n % 128) :: vLow (n / 128)
termination_by n
decreasing_by omega

def vTop (n : Nat) : Nat := if h : n < 128 then n else vTop (n / 128)
termination_by n
decreasing_by omega

theorem vLow_len : ∀ (k n : Nat), n < 128 ^ (k + 1) → (vLow n).length ≤ k
  | 0, n, h => by unfold vLow; rw [dif_pos (by simpa using h)]; simp
  | k + 1, n, h => by
    unfold vLow
    split
    · simp
    · have := vLow_len k (n / 128) (by rw [Nat.div_lt_iff_lt_mul (by omega)]; rw [Nat.pow_succ] at h; exact h)
      simp only [List.length_cons]; omega

def varT (n : Int) : List UInt8 := if 0 ≤ n ∧ n ≤ 562949953421311 then vLow n.toNat ++ [UInt8.ofNat (vTop n.toNat)] else []

theorem varT_len (n : Int) : (varT n).length ≤ 7 := by
  unfold varT
  split
  · rename_i h
    have := vLow_len 6 n.toNat (by show _ < 562949953421312; omega)
    rw [List.length_append, List.length_singleton]; omega
  · simp
end Go.Rf.G
