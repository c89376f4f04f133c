import Derived.Test.YtidjicepgdaeoaaGreatDoorLLiveBytesLem1
namespace Go.Rf.G
open Go Go.Rf
set_option linter.unusedVariables false
set_option linter.unusedSimpArgs false
set_option synthInstance.maxSize 4000
theorem spec_Unframe_eq (s : List UInt8) (hl : s.length < 1000000000000) : spec_Unframe.f s = some (unframe s) := by
 unfold spec_Unframe.f unframe
 by_cases c : s.length < 5
 ·have c1 : (s.length : Int) < 5 := by omega
  by_cases c4 : s.length < 4
  ·simp [c4, c1]
  ·have e : s.drop 4 = [] := by rw [List.drop_eq_nil_iff]; omega
   have e2 : s.length = 4 := by omega
   rcases Nat.lt_or_ge s.length 4 with h | h
   ·exact absurd h c4
   ·have hn : rvT 7 true (s.drop 4) = none := by
     cases hr : rvT 7 true (s.drop 4) with
     | none => rfl
     | some p =>
      obtain ⟨n, k⟩ := p
      have q := rvT_some 7 true (s.drop 4) n k hr
      rw [List.length_drop] at q
      omega
    simp [c4, c1, hn]
 have c4 : ¬ s.length < 4 := by omega
 have c1 : ¬ (s.length : Int) < 5 := by omega
 have c2 : (decide (0 ≤ (4 : Int)) && decide ((4 : Int) ≤ (s.length : Int))) = true := by simp; omega
 have hd : (s.drop 4).length < 2 ^ 62 := by rw [List.length_drop]; omega
 simp only [c4, c1, decide_false, cond_false, c2, cond_true, spec_ReadVar_eq (s.drop 4) hd, Option.bind_some, if_false]
 unfold readVar
 cases hr : rvT 7 true (s.drop 4) with
 | none => simp
 | some p =>
  obtain ⟨n, k⟩ := p
  obtain ⟨q1, q2, q3, q4, q5⟩ := rvT_some 7 true (s.drop 4) n k hr
  have q5 : n < 562949953421312 := q5
  rw [List.length_drop] at q3
  have d1 : (((k : Nat) : Int) == 0) = false := by simp; omega
  simp only [d1, cond_false]
  by_cases c3 : 200 < n
  ·have c4 : ((n : Nat) : Int) > 200 := by omega
   simp [c3, c4]
  have c4 : ¬ ((n : Nat) : Int) > 200 := by omega
  have e1 : w64 (w64 ((s.length : Int) - 4) - (k : Int)) = (s.length : Int) - 4 - k := by rw [w64_id (n := (s.length : Int) - 4) (by omega) (by omega), w64_id (by omega) (by omega)]
  have e2 : w64 (4 + (k : Int)) = ((4 + k : Nat) : Int) := by rw [w64_id (by omega) (by omega)]; omega
  have e3 : w64 (((4 + k : Nat) : Int) + (n : Int)) = ((4 + k + n : Nat) : Int) := by rw [w64_id (by omega) (by omega)]; omega
  by_cases c5 : s.length < 4 + k + n
  ·have c6 : ((n : Nat) : Int) > (s.length : Int) - 4 - k := by omega
   simp [c3, c4, c5, c6, e1]
  have c6 : ¬ ((n : Nat) : Int) > (s.length : Int) - 4 - k := by omega
  have c7 : (decide (0 ≤ ((4 + k + n : Nat) : Int)) && decide (((4 + k + n : Nat) : Int) ≤ (s.length : Int))) = true := by simp; omega
  have c8 : (decide (0 ≤ ((4 + k : Nat) : Int)) && decide (((4 + k : Nat) : Int) ≤ ((4 + k + n : Nat) : Int))) = true := by simp; omega
  have hl2 : ((s.take (4 + k + n)).drop (4 + k)).length < 2 ^ 62 := by rw [List.length_drop, List.length_take]; omega
  simp only [c3, c4, c5, c6, e1, e2, e3, c7, c8, decide_false, cond_false, cond_true, Int.toNat_natCast, spec_Frame_eq _ hl2, Option.bind_some, or_self, if_false]
  by_cases c9 : frame ((s.take (4 + k + n)).drop (4 + k)) = s.take (4 + k + n)
  ·have d9 : (s.take (4 + k + n) == frame ((s.take (4 + k + n)).drop (4 + k))) = true := by simpa using c9.symm
   simp only [d9, Bool.not_true, cond_false]
   rw [if_pos c9]
  ·have d9 : (s.take (4 + k + n) == frame ((s.take (4 + k + n)).drop (4 + k))) = false := by simpa using fun e => c9 e.symm
   simp only [d9, Bool.not_false, cond_true]
   rw [if_neg c9]
abbrev ScanT := List UInt8 × Bool
def numIn (n : Int) : Prop := 0 ≤ n ∧ n ≤ 562949953421311
theorem varT_in {n : Int} (h : numIn n) : ∃ m : Nat, n = (m : Int) ∧ m < 562949953421312 ∧ varT n = varN m := by
 unfold numIn at h
 obtain ⟨m, rfl⟩ : ∃ m : Nat, n = (m : Int) := ⟨n.toNat, by omega⟩
 exact ⟨m, rfl, by omega, varT_nat m (by omega)⟩
theorem readVar_back {n : Int} (h : numIn n) (r : List UInt8) : readVar (varT n ++ r) = (n, ((varT n).length : Int)) ∧ 1 ≤ (varT n).length := by
 obtain ⟨m, rfl, hm, e⟩ := varT_in h
 rw [e]
 have hb := rvT_back 7 true m r hm (by simp) (by omega)
 unfold readVar
 rw [hb]
 exact ⟨rfl, (varN_len 6 m hm).1⟩
theorem num_back {n : Int} (h : numIn n) (r : List UInt8) (hl : (varT n ++ r).length < 2 ^ 62) : impl_scanner_num.f (varT n ++ r, false) = some (n, (r, false)) := by
 obtain ⟨h1, h2⟩ := readVar_back h r
 have d : ((((varT n).length : Nat) : Int) == 0) = false := by simp; intro e; rw [e] at h2; simp at h2
 have c : (decide (0 ≤ (((varT n).length : Nat) : Int)) && decide ((((varT n).length : Nat) : Int) ≤ ((varT n ++ r).length : Int))) = true := by
  rw [List.length_append]; simp; omega
 unfold impl_scanner_num.f
 simp only [impl_ReadVar_eq _ hl, h1, Option.bind_some, cond_false, d, c, cond_true, Int.toNat_natCast, List.drop_left]
theorem num_cases (s : List UInt8) (hl : s.length < 2 ^ 62) : (∃ n r, impl_scanner_num.f (s, false) = some (n, (r, false)) ∧ s = varT n ++ r ∧ numIn n) ∨ impl_scanner_num.f (s, false) = some (0, (s, true)) := by
 rcases readVar_cases s with h | ⟨n, k, _, h, h1, h2, h3, h4, h5⟩
 ·right
  unfold impl_scanner_num.f
  simp only [impl_ReadVar_eq s hl, h, Option.bind_some, cond_false, show ((0 : Int) == 0) = true from rfl, cond_true]
 ·left
  have hn : numIn (n : Int) := ⟨by omega, by omega⟩
  have e : s = varT (n : Int) ++ s.drop k := by rw [varT_nat n (by omega), ← h4, List.take_append_drop]
  have hb := num_back hn (s.drop k) (by rw [← e]; exact hl)
  rw [← e] at hb
  exact ⟨(n : Int), s.drop k, hb, e, hn⟩
theorem num_bad (s : List UInt8) (hl : s.length < 2 ^ 62) : impl_scanner_num.f (s, true) = some (0, (s, true)) := by
 unfold impl_scanner_num.f
 simp only [impl_ReadVar_eq s hl, Option.bind_some, cond_true]
theorem bytes_back (t r : List UInt8) : impl_scanner_bytes.f (t ++ r, false) (t.length : Int) = some (t, (r, false)) := by
 unfold impl_scanner_bytes.f
 have c1 : ¬ ((t.length : Nat) : Int) > ((t ++ r).length : Int) := by rw [List.length_append]; omega
 have c2 : (decide (0 ≤ ((t.length : Nat) : Int)) && decide (((t.length : Nat) : Int) ≤ ((t ++ r).length : Int))) = true := by rw [List.length_append]; simp; omega
 simp only [cond_false, c1, decide_false, c2, cond_true, Int.toNat_natCast, List.take_left, List.drop_left]
theorem bytes_cases (s : List UInt8) (n : Int) (hn : 0 ≤ n) : (∃ t r, impl_scanner_bytes.f (s, false) n = some (t, (r, false)) ∧ s = t ++ r ∧ (t.length : Int) = n) ∨ impl_scanner_bytes.f (s, false) n = some ([], (s, true)) := by
 by_cases c : n > (s.length : Int)
 ·right
  unfold impl_scanner_bytes.f
  simp only [cond_false, c, decide_true, cond_true]
 ·left
  have hl : ((s.take n.toNat).length : Int) = n := by rw [List.length_take]; omega
  have := bytes_back (s.take n.toNat) (s.drop n.toNat)
  rw [List.take_append_drop, hl] at this
  exact ⟨_, _, this, (List.take_append_drop _ _).symm, hl⟩
theorem bytes_bad (s : List UInt8) (n : Int) : impl_scanner_bytes.f (s, true) n = some ([], (s, true)) := by
 unfold impl_scanner_bytes.f
 simp only [cond_true]
theorem text_back (t r : List UInt8) (ht : numIn (t.length : Int)) (hl : (varT (t.length : Int) ++ (t ++ r)).length < 2 ^ 62) : impl_scanner_text.f (varT (t.length : Int) ++ (t ++ r), false) = some (t, (r, false)) := by
 unfold impl_scanner_text.f
 simp only [num_back ht (t ++ r) hl, Option.bind_some, bytes_back]
theorem text_cases (s : List UInt8) (hl : s.length < 2 ^ 62) : (∃ t r, impl_scanner_text.f (s, false) = some (t, (r, false)) ∧ s = varT (t.length : Int) ++ (t ++ r) ∧ numIn (t.length : Int)) ∨ ∃ r, impl_scanner_text.f (s, false) = some ([], (r, true)) ∧ r.length ≤ s.length := by
 unfold impl_scanner_text.f
 rcases num_cases s hl with ⟨n, r, e, es, hn⟩ | e
 ·rw [e, Option.bind_some]
  rcases bytes_cases r n hn.1 with ⟨t, r2, e2, es2, ht⟩ | e2
  ·left
   refine ⟨t, r2, by simp only [e2, Option.bind_some], ?_, by rw [ht]; exact hn⟩
   rw [ht, ← es2]; exact es
  ·right
   refine ⟨r, by simp only [e2, Option.bind_some], ?_⟩
   rw [es, List.length_append]; omega
 ·right
  refine ⟨s, ?_, Nat.le_refl _⟩
  rw [e, Option.bind_some]
  simp only [bytes_bad, Option.bind_some]
theorem text_bad (s : List UInt8) (hl : s.length < 2 ^ 62) : impl_scanner_text.f (s, true) = some ([], (s, true)) := by
 unfold impl_scanner_text.f
 simp only [num_bad s hl, Option.bind_some, bytes_bad]
theorem l5Text_back (t r : List UInt8) (ht : numIn (t.length : Int)) (hl : (varT (t.length : Int) ++ (t ++ r)).length < 1000000000000000) : spec_l5Text.f (varT (t.length : Int) ++ (t ++ r)) = some (t, r, true) := by
 obtain ⟨h1, h2⟩ := readVar_back ht (t ++ r)
 have h3 := varT_len (t.length : Int)
 rw [List.length_append, List.length_append] at hl
 unfold spec_l5Text.f
 rw [spec_ReadVar_eq _ (by rw [List.length_append, List.length_append]; omega), h1, Option.bind_some]
 generalize varT (t.length : Int) = v at *
 have d : (((v.length : Nat) : Int) == 0) = false := by simp; intro e; rw [e] at h2; simp at h2
 have e1 : w64 (((v ++ (t ++ r)).length : Int) - ((v.length : Nat) : Int)) = ((t.length + r.length : Nat) : Int) := by rw [List.length_append, List.length_append, w64_id (by omega) (by omega)]; omega
 have c1 : ¬ ((t.length : Nat) : Int) > ((t.length + r.length : Nat) : Int) := by omega
 have e2 : w64 (((v.length : Nat) : Int) + ((t.length : Nat) : Int)) = (((v ++ t).length : Nat) : Int) := by rw [List.length_append, w64_id (by omega) (by omega)]; omega
 have c2 : (decide (0 ≤ (((v ++ t).length : Nat) : Int)) && decide ((((v ++ t).length : Nat) : Int) ≤ ((v ++ (t ++ r)).length : Int))) = true := by simp; omega
 have c3 : (decide (0 ≤ ((v.length : Nat) : Int)) && decide (((v.length : Nat) : Int) ≤ (((v ++ t).length : Nat) : Int))) = true := by simp; omega
 have e3 : (v ++ (t ++ r)).take (v ++ t).length = v ++ t := by rw [← List.append_assoc, List.take_left]
 have e4 : (v ++ (t ++ r)).drop (v ++ t).length = r := by rw [← List.append_assoc, List.drop_left]
 simp only [d, cond_false, e1, c1, decide_false, e2, c2, c3, cond_true, Int.toNat_natCast, e3, e4, List.drop_left]
theorem l5Text_tot (s : List UInt8) (hl : s.length < 1000000000000000) : ∃ t r b, spec_l5Text.f s = some (t, r, b) ∧ t.length ≤ s.length ∧ r.length ≤ s.length := by
 rcases readVar_cases s with h | ⟨n, k, _, h, h1, h2, h3, h4, h5⟩
 ·refine ⟨[], [], false, ?_, by simp, by simp⟩
  unfold spec_l5Text.f
  simp only [spec_ReadVar_eq s (by omega), h, Option.bind_some, show ((0 : Int) == 0) = true from rfl, cond_true]
 ·by_cases c : s.length < k + n
  ·refine ⟨[], [], false, ?_, by simp, by simp⟩
   have d : (((k : Nat) : Int) == 0) = false := by simp; omega
   have e1 : w64 ((s.length : Int) - (k : Int)) = (s.length : Int) - k := w64_id (by omega) (by omega)
   have c1 : ((n : Nat) : Int) > (s.length : Int) - k := by omega
   unfold spec_l5Text.f
   simp only [spec_ReadVar_eq s (by omega), h, Option.bind_some, d, cond_false, e1, c1, decide_true, cond_true]
  ·have hn : numIn (n : Int) := ⟨by omega, by omega⟩
   have ht : (((s.drop k).take n).length : Int) = n := by rw [List.length_take, List.length_drop]; omega
   have e : s = varT (((s.drop k).take n).length : Int) ++ ((s.drop k).take n ++ (s.drop k).drop n) := by
    rw [ht, varT_nat n (by omega), ← h4, List.take_append_drop, List.take_append_drop]
   have hb := l5Text_back ((s.drop k).take n) ((s.drop k).drop n) (by rw [ht]; exact hn) (by rw [← e]; exact hl)
   rw [← e] at hb
   exact ⟨_, _, _, hb, by rw [List.length_take, List.length_drop]; omega, by rw [List.length_drop, List.length_drop]; omega⟩
def isRec (s : List UInt8) (r : RecT) : Prop := recOk r = true ∧ showRec r = s
theorem rec_in {r : RecT} (h : recOk r = true) : numIn r.1 ∧ numIn r.2.1 ∧ (r.1 = 1 ∨ r.1 = 4 → r.2.2.1.length ≤ 8 ∧ r.2.2.2.1.length ≤ 24 ∧ r.2.2.2.2.1 = 0 ∧ r.2.2.2.2.2 = 0) ∧
  (r.1 = 2 → r.2.2.1.length ≤ 8 ∧ r.2.2.2.1 = [] ∧ r.2.2.2.2.1 = 0 ∧ r.2.2.2.2.2 = 0) ∧
  (¬ (r.1 = 1 ∨ r.1 = 4) → ¬ r.1 = 2 → r.2.2.1 = [] ∧ r.2.2.2.1 = [] ∧ numIn r.2.2.2.2.1 ∧ 0 ≤ r.2.2.2.2.2 ∧ r.2.2.2.2.2 ≤ 4294967295) := by
 obtain ⟨k, b, ky, v, c, s⟩ := r
 unfold recOk keyOk at h
 simp only [Bool.and_eq_true, decide_eq_true_eq] at h
 obtain ⟨⟨h1, _⟩, h⟩ := h
 unfold numIn
 simp only
 by_cases c1 : k = 1 ∨ k = 4
 ·rw [if_pos c1] at h
  simp only [Bool.and_eq_true, decide_eq_true_eq, beq_iff_eq] at h
  exact ⟨by omega, by omega, fun _ => by omega, fun e => by omega, fun e => absurd c1 e⟩
 rw [if_neg c1] at h
 by_cases c2 : k = 2
 ·rw [if_pos c2] at h
  simp only [Bool.and_eq_true, decide_eq_true_eq, beq_iff_eq] at h
  exact ⟨by omega, by omega, fun e => absurd e c1, fun _ => ⟨by omega, h.2.1, h.2.2⟩, fun _ e => absurd c2 e⟩
 rw [if_neg c2] at h
 by_cases c3 : k = 3
 ·rw [if_pos c3] at h
  simp only [Bool.and_eq_true, decide_eq_true_eq, beq_iff_eq] at h
  exact ⟨by omega, by omega, fun e => absurd e c1, fun e => absurd e c2, fun _ _ => ⟨h.1, h.2.1, by omega, by omega, by omega⟩⟩
 rw [if_neg c3] at h
 by_cases c5 : k = 5
 ·rw [if_pos c5] at h
  simp only [Bool.and_eq_true, decide_eq_true_eq, beq_iff_eq] at h
  exact ⟨by omega, by omega, fun e => absurd e c1, fun e => absurd e c2, fun _ _ => ⟨h.1, h.2.1, by omega, by omega, by omega⟩⟩
 ·rw [if_neg c5] at h; simp at h
theorem fix4_len4 {n : Int} (h : 0 ≤ n ∧ n ≤ 4294967295) : (fix4 n).length = 4 := by
 unfold fix4; rw [if_pos h, fixL_len]
theorem readFix4_back {n : Int} (h : 0 ≤ n ∧ n ≤ 4294967295) (r : List UInt8) : readFix4 (fix4 n ++ r) = (n, true) := by
 have hl := fix4_len4 h
 unfold readFix4
 rw [if_neg (by rw [List.length_append]; omega)]
 have e : (fix4 n ++ r).take 4 = fix4 n := by rw [← hl, List.take_left]
 rw [e]
 unfold fix4
 rw [if_pos h, fixR_L 4 n.toNat (by show _ < 4294967296; omega)]
 congr 1; omega
theorem fix4_read (t : List UInt8) (h : t.length = 4) : fix4 (readFix4 t).1 = t ∧ 0 ≤ (readFix4 t).1 ∧ (readFix4 t).1 ≤ 4294967295 := by
 have hlt := fixR_lt t
 rw [h] at hlt
 have hlt : fixR t < 4294967296 := hlt
 unfold readFix4
 rw [if_neg (by omega), show t.take 4 = t by rw [← h, List.take_length]]
 refine ⟨?_, by simp only; omega, by simp only; omega⟩
 unfold fix4
 rw [if_pos (by simp only; omega)]
 show fixL ((fixR t : Nat) : Int).toNat 4 = t
 rw [Int.toNat_natCast, ← h, fixL_R]
theorem kind_eq (k : Int) {α β γ : Type} (x : α) (y : β) (z : γ) : (bif k == 1 then some (x, y, z, k, k == 1) else some (x, y, z, k, k == 4)) = some (x, y, z, k, decide (k = 1 ∨ k = 4)) := by
 by_cases c1 : k = 1
 ·subst c1; rfl
 ·have b1 : (k == 1) = false := by simpa using c1
  rw [b1, cond_false]
  by_cases c4 : k = 4
  ·subst c4; rfl
  ·have b4 : (k == 4) = false := by simpa using c4
   rw [b4, decide_eq_false (by omega)]
theorem kind_eq4 (k : Int) {α β γ δ : Type} (x : α) (y : β) (z : γ) (u : δ) : (bif k == 1 then some (x, y, z, u, k, k == 1) else some (x, y, z, u, k, k == 4)) = some (x, y, z, u, k, decide (k = 1 ∨ k = 4)) := by
 by_cases c1 : k = 1
 ·subst c1; rfl
 ·have b1 : (k == 1) = false := by simpa using c1
  rw [b1, cond_false]
  by_cases c4 : k = 4
  ·subst c4; rfl
  ·have b4 : (k == 4) = false := by simpa using c4
   rw [b4, decide_eq_false (by omega)]
theorem app3 {a b c : List UInt8} {n : Nat} (h : (a ++ (b ++ c)).length ≤ n) : (b ++ c).length ≤ n ∧ c.length ≤ n := by simp only [List.length_append] at h ⊢; omega
theorem app2 {a b : List UInt8} {n : Nat} (h : (a ++ b).length ≤ n) : b.length ≤ n := by simp only [List.length_append] at h; omega
theorem lt15 {a : List UInt8} (h : a.length ≤ 60) : a.length < 1000000000000000 := by omega
theorem lt62 {a : List UInt8} (h : a.length ≤ 60) : a.length < 2 ^ 62 := by omega
def zeroRec : RecT := (0, 0, [], [], 0, 0)
theorem impl_ReadRec_back {s : List UInt8} {r : RecT} (h : isRec s r) : impl_ReadRec.f s = some (r, true) := by
 obtain ⟨hok, rfl⟩ := h
 have hl := showRec_len r
 obtain ⟨i1, i2, i3, i4, i5⟩ := rec_in hok
 have hok2 : ¬ recOk r = false := by rw [hok]; simp
 obtain ⟨k, b, ky, v, c, sm⟩ := r
 simp only at i1 i2 i3 i4 i5
 by_cases c1 : k = 1 ∨ k = 4
 ·obtain ⟨j1, j2, rfl, rfl⟩ := i3 c1
  have es : showRec (k, b, ky, v, 0, 0) = varT k ++ (varT b ++ (varT (ky.length : Int) ++ (ky ++ (varT (v.length : Int) ++ (v ++ []))))) := by
   unfold showRec; rw [if_neg hok2, if_pos c1]; simp [List.append_assoc]
  rw [es] at hl ⊢
  have x2 := text_back v [] ⟨by omega, by omega⟩ (lt62 (app3 (app3 hl).2).2)
  have x1 := text_back ky (varT (v.length : Int) ++ (v ++ [])) ⟨by omega, by omega⟩ (lt62 (app3 hl).2)
  have n2 := num_back i2 (varT (ky.length : Int) ++ (ky ++ (varT (v.length : Int) ++ (v ++ [])))) (lt62 (app2 hl))
  have n1 := num_back i1 (varT b ++ (varT (ky.length : Int) ++ (ky ++ (varT (v.length : Int) ++ (v ++ []))))) (lt62 hl)
  have hcd : decide (k = 1 ∨ k = 4) = true := decide_eq_true c1
  unfold impl_ReadRec.f
  simp only [n1, n2, Option.bind_some, kind_eq, hcd, cond_true, x1, x2, cond_false, impl_RecOk_eq, hok, Bool.not_true]
  rfl
 have hcd : decide (k = 1 ∨ k = 4) = false := decide_eq_false c1
 by_cases c2 : k = 2
 ·obtain ⟨j1, rfl, rfl, rfl⟩ := i4 c2
  have es : showRec (k, b, ky, [], 0, 0) = varT k ++ (varT b ++ (varT (ky.length : Int) ++ (ky ++ []))) := by
   unfold showRec; rw [if_neg hok2, if_neg c1, if_pos c2]; simp [List.append_assoc]
  rw [es] at hl ⊢
  have x1 := text_back ky [] ⟨by omega, by omega⟩ (lt62 (app3 hl).2)
  have n2 := num_back i2 (varT (ky.length : Int) ++ (ky ++ [])) (lt62 (app2 hl))
  have n1 := num_back i1 (varT b ++ (varT (ky.length : Int) ++ (ky ++ []))) (lt62 hl)
  have b2 : (k == 2) = true := by simpa using c2
  unfold impl_ReadRec.f
  simp only [n1, n2, Option.bind_some, kind_eq, hcd, b2, cond_true, x1, cond_false, impl_RecOk_eq, hok, Bool.not_true]
  rfl
 ·obtain ⟨rfl, rfl, j3, j4⟩ := i5 c1 c2
  have l4 := fix4_len4 j4
  have es : showRec (k, b, [], [], c, sm) = varT k ++ (varT b ++ (varT c ++ (fix4 sm ++ []))) := by
   unfold showRec; rw [if_neg hok2, if_neg c1, if_neg c2]; simp [List.append_assoc]
  rw [es] at hl ⊢
  have x1 := bytes_back (fix4 sm) []
  rw [l4] at x1
  have x1 : impl_scanner_bytes.f (fix4 sm ++ [], false) 4 = _ := x1
  have n3 := num_back j3 (fix4 sm ++ []) (lt62 (app3 hl).2)
  have n2 := num_back i2 (varT c ++ (fix4 sm ++ [])) (lt62 (app2 hl))
  have n1 := num_back i1 (varT b ++ (varT c ++ (fix4 sm ++ []))) (lt62 hl)
  have b2 : (k == 2) = false := by simpa using c2
  have f4 := readFix4_back j4 []
  rw [List.append_nil] at f4
  unfold impl_ReadRec.f
  simp only [n1, n2, n3, Option.bind_some, kind_eq, hcd, b2, cond_true, x1, cond_false, impl_RecOk_eq, hok, Bool.not_true, impl_ReadFixed_eq (fix4 sm) (show (fix4 sm).length < 2 ^ 62 by omega), f4]
  rfl
theorem spec_ReadRec_back {s : List UInt8} {r : RecT} (h : isRec s r) : spec_ReadRec.f s = some (r, true) := by
 obtain ⟨hok, rfl⟩ := h
 have hl := showRec_len r
 have hsh := spec_ShowRec_eq r
 obtain ⟨i1, i2, i3, i4, i5⟩ := rec_in hok
 have hok2 : ¬ recOk r = false := by rw [hok]; simp
 obtain ⟨k, b, ky, v, c, sm⟩ := r
 simp only at i1 i2 i3 i4 i5
 have head : ∀ T : List UInt8, (varT k ++ (varT b ++ T)).length ≤ 60 → showRec (k, b, ky, v, c, sm) = varT k ++ (varT b ++ T) →
   ∃ a d : Nat, spec_ReadVar.f (varT k ++ (varT b ++ T)) = some (k, (a : Int)) ∧ (decide (0 ≤ (a : Int)) && decide ((a : Int) ≤ ((varT k ++ (varT b ++ T)).length : Int))) = true ∧ (varT k ++ (varT b ++ T)).drop (a : Int).toNat = varT b ++ T ∧
    spec_ReadVar.f (varT b ++ T) = some (b, (d : Int)) ∧ ((a : Int) == 0) = false ∧ ((d : Int) == 0) = false ∧ (decide (0 ≤ w64 ((a : Int) + (d : Int))) && decide (w64 ((a : Int) + (d : Int)) ≤ ((varT k ++ (varT b ++ T)).length : Int))) = true ∧
    (varT k ++ (varT b ++ T)).drop (w64 ((a : Int) + (d : Int))).toNat = T ∧ (varT k ++ (varT b ++ T) == []) = false := by
  intro T hT _
  obtain ⟨p1, p2⟩ := readVar_back i1 (varT b ++ T)
  obtain ⟨q1, q2⟩ := readVar_back i2 T
  have hT2 := hT
  simp only [List.length_append] at hT2
  have ew : w64 (((varT k).length : Int) + ((varT b).length : Int)) = (((varT k).length + (varT b).length : Nat) : Int) := by rw [w64_id (by omega) (by omega)]; omega
  refine ⟨(varT k).length, (varT b).length, ?_, ?_, ?_, ?_, ?_, ?_, ?_, ?_, ?_⟩
  ·rw [spec_ReadVar_eq _ (by omega), p1]
  ·simp only [List.length_append]; simp; omega
  ·rw [Int.toNat_natCast, List.drop_left]
  ·rw [spec_ReadVar_eq _ (by simp only [List.length_append]; omega), q1]
  ·simp; intro e; rw [e] at p2; simp at p2
  ·simp; intro e; rw [e] at q2; simp at q2
  ·rw [ew]; simp only [List.length_append]; simp; omega
  ·rw [ew, Int.toNat_natCast, ← List.append_assoc, ← List.length_append, List.drop_left]
  ·cases hv : varT k with
   | nil => rw [hv] at p2; simp at p2
   | cons x l => rfl
 by_cases c1 : k = 1 ∨ k = 4
 ·obtain ⟨j1, j2, rfl, rfl⟩ := i3 c1
  have hcd : decide (k = 1 ∨ k = 4) = true := decide_eq_true c1
  have es : showRec (k, b, ky, v, 0, 0) = varT k ++ (varT b ++ (varT (ky.length : Int) ++ (ky ++ (varT (v.length : Int) ++ (v ++ []))))) := by
   unfold showRec; rw [if_neg hok2, if_pos c1]; simp [List.append_assoc]
  rw [es] at hl hsh ⊢
  obtain ⟨a, d, e1, e2, e3, e4, e5, e6, e7, e8, e9⟩ := head _ hl es
  have x2 := l5Text_back v [] ⟨by omega, by omega⟩ (lt15 (app3 (app3 hl).2).2)
  have x1 := l5Text_back ky (varT (v.length : Int) ++ (v ++ [])) ⟨by omega, by omega⟩ (lt15 (app3 hl).2)
  unfold spec_ReadRec.f
  simp only [e1, e2, e3, e4, e5, e6, e7, e8, e9, Option.bind_some, kind_eq4, hcd, cond_true, x1, x2, cond_false, hsh, beq_self_eq_true, Bool.not_true]
 have hcd : decide (k = 1 ∨ k = 4) = false := decide_eq_false c1
 by_cases c2 : k = 2
 ·obtain ⟨j1, rfl, rfl, rfl⟩ := i4 c2
  have b2 : (k == 2) = true := by simpa using c2
  have es : showRec (k, b, ky, [], 0, 0) = varT k ++ (varT b ++ (varT (ky.length : Int) ++ (ky ++ []))) := by
   unfold showRec; rw [if_neg hok2, if_neg c1, if_pos c2]; simp [List.append_assoc]
  rw [es] at hl hsh ⊢
  obtain ⟨a, d, e1, e2, e3, e4, e5, e6, e7, e8, e9⟩ := head _ hl es
  have x1 := l5Text_back ky [] ⟨by omega, by omega⟩ (lt15 (app3 hl).2)
  unfold spec_ReadRec.f
  simp only [e1, e2, e3, e4, e5, e6, e7, e8, e9, Option.bind_some, kind_eq4, hcd, b2, cond_true, x1, cond_false, hsh, beq_self_eq_true, Bool.not_true]
 ·obtain ⟨rfl, rfl, j3, j4⟩ := i5 c1 c2
  have b2 : (k == 2) = false := by simpa using c2
  have l4 := fix4_len4 j4
  have es : showRec (k, b, [], [], c, sm) = varT k ++ (varT b ++ (varT c ++ (fix4 sm ++ []))) := by
   unfold showRec; rw [if_neg hok2, if_neg c1, if_neg c2]; simp [List.append_assoc]
  rw [es] at hl hsh ⊢
  obtain ⟨a, d, e1, e2, e3, e4, e5, e6, e7, e8, e9⟩ := head _ hl es
  obtain ⟨p1, p2⟩ := readVar_back j3 (fix4 sm ++ [])
  have hl3 := (app3 hl).2
  have r1 : spec_ReadVar.f (varT c ++ (fix4 sm ++ [])) = some (c, ((varT c).length : Int)) := by rw [spec_ReadVar_eq _ (lt62 hl3), p1]
  have r2 : (decide (0 ≤ ((varT c).length : Int)) && decide (((varT c).length : Int) ≤ ((varT c ++ (fix4 sm ++ [])).length : Int))) = true := by simp only [List.length_append]; simp; omega
  have r3 : (varT c ++ (fix4 sm ++ [])).drop (((varT c).length : Int)).toNat = fix4 sm ++ [] := by rw [Int.toNat_natCast, List.drop_left]
  have r4 : spec_ReadFixed.f (fix4 sm ++ []) 4 = some (sm, true) := by rw [spec_ReadFixed_eq _ (lt62 (app2 hl3)), readFix4_back j4]
  unfold spec_ReadRec.f
  simp only [e1, e2, e3, e4, e5, e6, e7, e8, e9, Option.bind_some, kind_eq4, hcd, b2, cond_true, r1, r2, r3, r4, cond_false, hsh, beq_self_eq_true, Bool.not_true]
noncomputable def restI (k b : Int) (st : ScanT) : Option (RecT × Bool) :=
 ((bif k == 1 then some ((0, 0, [], [], 0, 0), st, (k, b, [], [], 0, 0), k, k == 1)
 else some ((0, 0, [], [], 0, 0), st, (k, b, [], [], 0, 0), k, k == 4) : Option ((Int × Int × List UInt8 × List UInt8 × Int × Int) × (List UInt8 × Bool) × (Int × Int × List UInt8 × List UInt8 × Int × Int) × Int × Bool)).bind (fun (x2, x4, x5, x16, x27) =>
 bif x27 then
 (impl_scanner_text.f x4).bind fun (t3_0, t3_1) =>
 (impl_scanner_text.f t3_1).bind fun (t4_0, t4_1) =>
 some (x2, t4_1, (x5.1, x5.2.1, t3_0, t4_0, x5.2.2.2.2))
 else
 (bif x16 == 2 then
 (impl_scanner_text.f x4).bind fun (t5_0, t5_1) =>
 some (x2, t5_1, (x5.1, x5.2.1, t5_0, x5.2.2.2))
 else
 (impl_scanner_num.f x4).bind fun (t6_0, t6_1) =>
 (impl_scanner_bytes.f t6_1 4).bind fun (t7_0, t7_1) =>
 (impl_ReadFixed.f t7_0 4).bind fun (t8_0, t8_1) =>
 some (x2, t7_1, (x5.1, x5.2.1, x5.2.2.1, x5.2.2.2.1, t6_0, t8_0)) : Option ((Int × Int × List UInt8 × List UInt8 × Int × Int) × (List UInt8 × Bool) × Int × Int × List UInt8 × List UInt8 × Int × Int)).bind (fun (x2, x4, x5) =>
 some (x2, x4, x5))) : Option ((Int × Int × List UInt8 × List UInt8 × Int × Int) × (List UInt8 × Bool) × Int × Int × List UInt8 × List UInt8 × Int × Int)).bind (fun (x2, x4, x5) =>
 bif x4.2 then
 some ((0, 0, [], [], 0, 0), false)
 else
 bif !(x4.1 == []) then
 some ((0, 0, [], [], 0, 0), false)
 else
 (impl_RecOk.f x5).bind fun t9 =>
 bif !t9 then
 some ((0, 0, [], [], 0, 0), false)
 else
 some (x5, true))
theorem rest_split (s : List UInt8) : impl_ReadRec.f s = (impl_scanner_num.f (s, false)).bind fun p => (impl_scanner_num.f p.2).bind fun q => restI p.1 q.1 q.2 := rfl
theorem rest_bad (k b : Int) (s : List UInt8) (hl : s.length < 2 ^ 62) : restI k b (s, true) = some (zeroRec, false) := by
 have hf : impl_ReadFixed.f [] 4 = some (0, false) := impl_ReadFixed_eq [] (by show 0 < 2 ^ 62; decide)
 unfold restI
 simp only [kind_eq, Option.bind_some]
 cases decide (k = 1 ∨ k = 4)
 ·cases (k == 2)
  ·simp only [cond_false, num_bad s hl, Option.bind_some, bytes_bad, hf, cond_true]; rfl
  ·simp only [cond_false, cond_true, text_bad s hl, Option.bind_some]; rfl
 ·simp only [cond_true, text_bad s hl, Option.bind_some]; rfl
theorem rest_end (S : List UInt8) (r : RecT) (st : ScanT) (h : st.2 = false → st.1 = [] → recOk r = true → showRec r = S) :
  ∃ res : RecT × Bool, (bif st.2 then some (((0, 0, [], [], 0, 0) : RecT), false) else bif !(st.1 == []) then some ((0, 0, [], [], 0, 0), false) else (impl_RecOk.f r).bind fun t9 => bif !t9 then some ((0, 0, [], [], 0, 0), false) else some (r, true)) = some res ∧ (res = (zeroRec, false) ∨ ∃ r, res = (r, true) ∧ isRec S r) := by
 cases hb : st.2
 rotate_left
 ·exact ⟨(zeroRec, false), rfl, .inl rfl⟩
 simp only [cond_false]
 by_cases he : st.1 = []
 ·have he2 : (st.1 == []) = true := by simpa using he
  simp only [he2, Bool.not_true, cond_false, impl_RecOk_eq, Option.bind_some]
  cases hr : recOk r
  ·exact ⟨(zeroRec, false), rfl, .inl rfl⟩
  ·exact ⟨(r, true), rfl, .inr ⟨r, rfl, hr, h hb he hr⟩⟩
 ·have he2 : (st.1 == []) = false := by simpa using he
  simp only [he2, Bool.not_false, cond_true]
  exact ⟨(zeroRec, false), rfl, .inl rfl⟩
theorem impl_ReadRec_tot (s : List UInt8) (hl : s.length < 1000000000000) : ∃ res : RecT × Bool, impl_ReadRec.f s = some res ∧ (res = (zeroRec, false) ∨ ∃ r, res = (r, true) ∧ isRec s r) := by
 rw [rest_split]
 rcases num_cases s (by omega) with ⟨k, s1, e1, q1, i1⟩ | e1
 rotate_left
 ·rw [e1, Option.bind_some]
  simp only [num_bad s (show s.length < 2 ^ 62 by omega), Option.bind_some, rest_bad 0 0 s (show s.length < 2 ^ 62 by omega)]
  exact ⟨_, rfl, .inl rfl⟩
 have l1 : s1.length ≤ s.length := by rw [q1, List.length_append]; omega
 rw [e1, Option.bind_some]
 rcases num_cases s1 (by omega) with ⟨b, s2, e2, q2, i2⟩ | e2
 rotate_left
 ·simp only [e2, Option.bind_some, rest_bad k 0 s1 (show s1.length < 2 ^ 62 by omega)]
  exact ⟨_, rfl, .inl rfl⟩
 have l2 : s2.length ≤ s.length := by rw [q2, List.length_append] at l1; omega
 simp only [e2, Option.bind_some]
 unfold restI
 simp only [kind_eq, Option.bind_some]
 by_cases c1 : k = 1 ∨ k = 4
 ·have hcd : decide (k = 1 ∨ k = 4) = true := decide_eq_true c1
  simp only [hcd, cond_true]
  rcases text_cases s2 (by omega) with ⟨ky, s3, e3, q3, i3⟩ | ⟨s3, e3, l3⟩
  rotate_left
  ·simp only [e3, Option.bind_some, text_bad s3 (show s3.length < 2 ^ 62 by omega)]
   exact ⟨_, rfl, .inl rfl⟩
  have l3 : s3.length ≤ s.length := by rw [q3, List.length_append, List.length_append] at l2; omega
  rcases text_cases s3 (by omega) with ⟨v, s4, e4, q4, i4⟩ | ⟨s4, e4, l4⟩
  rotate_left
  ·simp only [e3, e4, Option.bind_some]
   exact ⟨_, rfl, .inl rfl⟩
  simp only [e3, e4, Option.bind_some]
  exact rest_end s (k, b, ky, v, 0, 0) (s4, false) fun _ he hr => by
   have he : s4 = [] := he
   subst he
   unfold showRec
   rw [if_neg (by rw [hr]; simp), if_pos c1, q1, q2, q3, q4]
   simp [List.append_assoc]
 have hcd : decide (k = 1 ∨ k = 4) = false := decide_eq_false c1
 by_cases c2 : k = 2
 ·have b2 : (k == 2) = true := by simpa using c2
  simp only [hcd, b2, cond_true, cond_false]
  rcases text_cases s2 (by omega) with ⟨ky, s3, e3, q3, i3⟩ | ⟨s3, e3, l3⟩
  rotate_left
  ·simp only [e3, Option.bind_some]
   exact ⟨_, rfl, .inl rfl⟩
  simp only [e3, Option.bind_some]
  exact rest_end s (k, b, ky, [], 0, 0) (s3, false) fun _ he hr => by
   have he : s3 = [] := he
   subst he
   unfold showRec
   rw [if_neg (by rw [hr]; simp), if_neg c1, if_pos c2, q1, q2, q3]
   simp [List.append_assoc]
 ·have b2 : (k == 2) = false := by simpa using c2
  simp only [hcd, b2, cond_false]
  rcases num_cases s2 (by omega) with ⟨c, s3, e3, q3, i3⟩ | e3
  rotate_left
  ·have hf : impl_ReadFixed.f [] 4 = some (0, false) := impl_ReadFixed_eq [] (by show 0 < 2 ^ 62; decide)
   simp only [e3, Option.bind_some, bytes_bad, hf]
   exact ⟨_, rfl, .inl rfl⟩
  rcases bytes_cases s3 4 (by omega) with ⟨t, s4, e4, q4, i4⟩ | e4
  rotate_left
  ·have hf : impl_ReadFixed.f [] 4 = some (0, false) := impl_ReadFixed_eq [] (by show 0 < 2 ^ 62; decide)
   simp only [e3, e4, Option.bind_some, hf]
   exact ⟨_, rfl, .inl rfl⟩
  have ht : t.length = 4 := by omega
  have hf := impl_ReadFixed_eq t (by omega)
  obtain ⟨f1, f2, f3⟩ := fix4_read t ht
  simp only [e3, e4, Option.bind_some, hf]
  exact rest_end s (k, b, [], [], c, (readFix4 t).1) (s4, false) fun _ he hr => by
   have he : s4 = [] := he
   subst he
   unfold showRec
   rw [if_neg (by rw [hr]; simp), if_neg c1, if_neg c2, q1, q2, q3, q4]
   simp only
   rw [f1]
   simp [List.append_assoc]
theorem spec_end (S : List UInt8) (r : RecT) : ∃ res : RecT × Bool, ((spec_ShowRec.f r).bind fun t9 => bif !(t9 == S) then some (((0, 0, [], [], 0, 0) : RecT), false) else bif S == [] then some ((0, 0, [], [], 0, 0), false) else some (r, true)) = some res ∧ (res = (zeroRec, false) ∨ ∃ r, res = (r, true) ∧ isRec S r) := by
 rw [spec_ShowRec_eq, Option.bind_some]
 by_cases c : showRec r = S
 ·have c1 : (showRec r == S) = true := by simpa using c
  simp only [c1, Bool.not_true, cond_false]
  by_cases e : S = []
  ·have e1 : (S == []) = true := by simpa using e
   simp only [e1, cond_true]
   exact ⟨_, rfl, .inl rfl⟩
  ·have e1 : (S == []) = false := by simpa using e
   simp only [e1, cond_false]
   refine ⟨_, rfl, .inr ⟨r, rfl, ?_, c⟩⟩
   cases hr : recOk r with
   | true => rfl
   | false =>
    exfalso
    apply e
    rw [← c]
    unfold showRec
    rw [if_pos hr]
 ·have c1 : (showRec r == S) = false := by simpa using c
  simp only [c1, Bool.not_false, cond_true]
  exact ⟨_, rfl, .inl rfl⟩
theorem readVar_len (s : List UInt8) : 0 ≤ (readVar s).2 ∧ (readVar s).2 ≤ s.length ∧ (readVar s).2 ≤ 7 := by
 rcases readVar_cases s with h | ⟨n, k, _, h, h1, h2, h3, h4, h5⟩
 ·rw [h]; simp
 ·rw [h]; simp only; omega
theorem spec_ReadRec_tot (s : List UInt8) (hl : s.length < 1000000000000) : ∃ res : RecT × Bool, spec_ReadRec.f s = some res ∧ (res = (zeroRec, false) ∨ ∃ r, res = (r, true) ∧ isRec s r) := by
 unfold spec_ReadRec.f
 rw [spec_ReadVar_eq s (by omega), Option.bind_some]
 obtain ⟨a1, a2, a3⟩ := readVar_len s
 generalize readVar s = p at *
 obtain ⟨k, a⟩ := p
 simp only at a1 a2 a3
 have c1 : (decide (0 ≤ a) && decide (a ≤ (s.length : Int))) = true := by simp; omega
 have hd : (s.drop a.toNat).length = s.length - a.toNat := List.length_drop
 simp only [c1, cond_true, spec_ReadVar_eq (s.drop a.toNat) (show (s.drop a.toNat).length < 2 ^ 62 by omega), Option.bind_some]
 obtain ⟨b1, b2, b3⟩ := readVar_len (s.drop a.toNat)
 generalize readVar (s.drop a.toNat) = q at *
 obtain ⟨b, d⟩ := q
 simp only at b1 b2 b3 ⊢
 cases ea : (a == 0)
 rotate_left
 ·simp only [cond_true]; exact ⟨_, rfl, .inl rfl⟩
 cases ed : (d == 0)
 rotate_left
 ·simp only [cond_true, cond_false]; exact ⟨_, rfl, .inl rfl⟩
 have ew : w64 (a + d) = a + d := w64_id (by omega) (by omega)
 have c2 : (decide (0 ≤ a + d) && decide (a + d ≤ (s.length : Int))) = true := by simp; omega
 simp only [cond_false, ew, c2, cond_true, kind_eq4, Option.bind_some]
 have hx : (s.drop (a + d).toNat).length ≤ s.length := by rw [List.length_drop]; omega
 generalize s.drop (a + d).toNat = x at *
 cases decide (k = 1 ∨ k = 4)
 rotate_left
 ·obtain ⟨t, r, f, e1, l1, l2⟩ := l5Text_tot x (by omega)
  obtain ⟨t', r', f', e2, l3, l4⟩ := l5Text_tot r (by omega)
  simp only [cond_true, e1, e2, Option.bind_some]
  exact spec_end s (k, b, t, t', 0, 0)
 cases (k == 2)
 rotate_left
 ·obtain ⟨t, r, f, e1, l1, l2⟩ := l5Text_tot x (by omega)
  simp only [cond_true, cond_false, e1, Option.bind_some]
  exact spec_end s (k, b, t, [], 0, 0)
 ·simp only [cond_false, spec_ReadVar_eq x (show x.length < 2 ^ 62 by omega), Option.bind_some]
  obtain ⟨g1, g2, g3⟩ := readVar_len x
  generalize readVar x = u at *
  obtain ⟨c, g⟩ := u
  simp only at g1 g2 g3 ⊢
  have c3 : (decide (0 ≤ g) && decide (g ≤ (x.length : Int))) = true := by simp; omega
  simp only [c3, cond_true, spec_ReadFixed_eq (x.drop g.toNat) (show (x.drop g.toNat).length < 2 ^ 62 by rw [List.length_drop]; omega), Option.bind_some]
  exact spec_end s (k, b, [], [], c, (readFix4 (x.drop g.toNat)).1)
noncomputable def readRec (s : List UInt8) : RecT × Bool := @dite (RecT × Bool) (∃ r, isRec s r) (Classical.propDecidable _) (fun h => (h.choose, true)) (fun _ => (zeroRec, false))
theorem readRec_of {s : List UInt8} {o : Option (RecT × Bool)} (h1 : ∀ r, isRec s r → o = some (r, true)) (h2 : ∃ res : RecT × Bool, o = some res ∧ (res = (zeroRec, false) ∨ ∃ r, res = (r, true) ∧ isRec s r)) : o = some (readRec s) := by
 unfold readRec
 by_cases h : ∃ r, isRec s r
 ·rw [dif_pos h]; exact h1 _ h.choose_spec
 ·rw [dif_neg h]
  obtain ⟨res, e, k | ⟨r, _, hr⟩⟩ := h2
  ·rw [e, k]
  ·exact absurd ⟨r, hr⟩ h
theorem impl_ReadRec_eq (s : List UInt8) (hl : s.length < 1000000000000) : impl_ReadRec.f s = some (readRec s) := readRec_of (fun _ h => impl_ReadRec_back h) (impl_ReadRec_tot s hl)
theorem spec_ReadRec_eq (s : List UInt8) (hl : s.length < 1000000000000) : spec_ReadRec.f s = some (readRec s) := readRec_of (fun _ h => spec_ReadRec_back h) (spec_ReadRec_tot s hl)
theorem readRec_cases (s : List UInt8) : readRec s = (zeroRec, false) ∧ (¬ ∃ r, isRec s r) ∨ ∃ r, readRec s = (r, true) ∧ isRec s r := by
 unfold readRec
 by_cases h : ∃ r, isRec s r
 ·rw [dif_pos h]; exact .inr ⟨_, rfl, h.choose_spec⟩
 ·rw [dif_neg h]; exact .inl ⟨rfl, h⟩
theorem unframe_len (s : List UInt8) : (unframe s).1.length ≤ s.length := by
 unfold unframe
 split
 ·simp
 split
 ·simp
 ·split
  ·simp
  split
  ·simp only [List.length_drop, List.length_take]; omega
  ·simp
abbrev SpotT := Int × Int × RecT
theorem unframe_pos (s : List UInt8) : (unframe s).2 = 0 ∨ ∃ n : Nat, (unframe s).2 = (n : Int) ∧ 5 ≤ n ∧ n ≤ s.length := by
 unfold unframe
 split
 ·exact .inl rfl
 split
 ·exact .inl rfl
 ·rename_i n k hr
  obtain ⟨q1, q2, q3, q4, q5⟩ := rvT_some 7 true (s.drop 4) n k hr
  split
  ·exact .inl rfl
  rename_i c
  split
  ·exact .inr ⟨4 + k + n, rfl, by omega, by omega⟩
  ·exact .inl rfl
noncomputable def scanG : Nat → List UInt8 → Nat → List SpotT × Nat
 | 0, _, a => ([], a)
 | f + 1, s, a =>
  if (unframe (s.drop a)).2 = 0 ∨ (readRec (unframe (s.drop a)).1).2 = false then ([], a) else
  (((a : Int), (unframe (s.drop a)).2, (readRec (unframe (s.drop a)).1).1) :: (scanG f s (a + (unframe (s.drop a)).2.toNat)).1, (scanG f s (a + (unframe (s.drop a)).2.toNat)).2)
theorem scanG_fuel : ∀ (f g : Nat) (s : List UInt8) (a : Nat), a ≤ s.length → s.length < a + f → s.length < a + g → scanG f s a = scanG g s a
 | 0, _, s, a, ha, hf, _ => by omega
 | f + 1, 0, s, a, ha, _, hg => by omega
 | f + 1, g + 1, s, a, ha, hf, hg => by
  unfold scanG
  by_cases c : (unframe (s.drop a)).2 = 0 ∨ (readRec (unframe (s.drop a)).1).2 = false
  ·rw [if_pos c, if_pos c]
  ·rw [if_neg c, if_neg c]
   rcases unframe_pos (s.drop a) with h | ⟨n, h, h5, hn⟩
   ·exact absurd (.inl h) c
   ·rw [List.length_drop] at hn
    rw [h, Int.toNat_natCast, scanG_fuel f g s (a + n) (by omega) (by omega) (by omega)]
noncomputable def scanAt (s : List UInt8) (a : Nat) : List SpotT × Nat := scanG (s.length + 1 - a) s a
noncomputable def scan (s : List UInt8) : List SpotT × Nat := scanAt s 0
theorem scanAt_stop {s : List UInt8} {a : Nat} (ha : a ≤ s.length) (h : (unframe (s.drop a)).2 = 0 ∨ (readRec (unframe (s.drop a)).1).2 = false) : scanAt s a = ([], a) := by
 unfold scanAt
 rw [show s.length + 1 - a = (s.length - a) + 1 by omega, scanG, if_pos h]
theorem scanAt_step {s : List UInt8} {a n : Nat} (hn : (unframe (s.drop a)).2 = (n : Int)) (h0 : 5 ≤ n) (hl : a + n ≤ s.length) (hr : (readRec (unframe (s.drop a)).1).2 = true) :
  scanAt s a = (((a : Int), (n : Int), (readRec (unframe (s.drop a)).1).1) :: (scanAt s (a + n)).1, (scanAt s (a + n)).2) := by
 unfold scanAt
 rw [show s.length + 1 - a = (s.length - a) + 1 by omega, scanG, if_neg (by rw [hn, hr]; simp; omega), hn, Int.toNat_natCast, scanG_fuel (s.length - a) (s.length + 1 - (a + n)) s (a + n) (by omega) (by omega) (by omega)]
theorem scanAt_end {s : List UInt8} : scanAt s s.length = ([], s.length) :=
 scanAt_stop (Nat.le_refl _) (.inl (by rw [List.drop_length]; rfl))
theorem scanAt_len : ∀ (k : Nat) (s : List UInt8) (a : Nat), a ≤ s.length → s.length - a = k → (scanAt s a).2 ≤ s.length ∧ a ≤ (scanAt s a).2 ∧ (scanAt s a).1.length ≤ s.length - a := by
 intro k
 induction k using Nat.strongRecOn with
 | ind k ih =>
  intro s a ha hk
  by_cases c : (unframe (s.drop a)).2 = 0 ∨ (readRec (unframe (s.drop a)).1).2 = false
  ·rw [scanAt_stop ha c]; exact ⟨ha, Nat.le_refl _, by simp⟩
  ·rcases unframe_pos (s.drop a) with h | ⟨n, h, h5, hn⟩
   ·exact absurd (.inl h) c
   ·rw [List.length_drop] at hn
    have hr : (readRec (unframe (s.drop a)).1).2 = true := by
     cases e : (readRec (unframe (s.drop a)).1).2 with
     | true => rfl
     | false => exact absurd (.inr e) c
    rw [scanAt_step h h5 (by omega) hr]
    have := ih (s.length - (a + n)) (by omega) s (a + n) (by omega) rfl
    simp only [List.length_cons]
    omega
theorem scan_len (s : List UInt8) : (scan s).2 ≤ s.length ∧ (scan s).1.length ≤ s.length := by
 have := scanAt_len s.length s 0 (Nat.zero_le _) (by omega)
 unfold scan
 omega
def entryOk (e : EntryT) : Bool := keyOk e.1 && (decide (1 ≤ e.2.1 ∧ e.2.1 ≤ 100000) && (decide (0 ≤ e.2.2.1) && (decide (1 ≤ e.2.2.2.1 ∧ e.2.2.2.1 ≤ 210) && decide (1 ≤ e.2.2.2.2 ∧ e.2.2.2.2 ≤ 1000000))))
def riseE : Option (List UInt8) → List EntryT → Bool
 | _, [] => true
 | p, e :: r => entryOk e && ((match p with | none => true | some q => Op.bytesLess q e.1) && riseE (some e.1) r)
def beforeE (l : List EntryT) : Nat → Option (List UInt8)
 | 0 => none
 | n + 1 => some (l.getD n ([], 0, 0, 0, 0)).1
theorem beforeE_succ (l : List EntryT) (n : Nat) (h : n < l.length) : beforeE l (n + 1) = some l[n].1 := by
 show some (l.getD n ([], 0, 0, 0, 0)).1 = _
 rw [getD_lt h]
def dirOk (l : List EntryT) : Bool := riseE none l && decide (l.length ≤ 20)
theorem lim80 {a : Nat} (h : a < 1000000000001) : (a + 1) * 80 ≤ 140737488355328 := by omega
theorem impl_ScanRecs_eq (s : List UInt8) (hl : s.length < 1000000000) : impl_ScanRecs.f s = some ((scan s).1, ((scan s).2 : Int)) := by
 have key := lp_eq (step := impl_ScanRecs.l0) (a := (s, ([] : List SpotT), ((0 : Nat) : Int))) (fun a => (a.2.1 ++ (scanAt s a.2.2.toNat).1, ((scanAt s a.2.2.toNat).2 : Int))) (fun a => a.1 = s ∧ ∃ n : Nat, a.2.2 = (n : Int) ∧ n ≤ s.length ∧ a.2.1.length ≤ n) (fun a => s.length - a.2.2.toNat)
  (fun rec a ha ih => by
   obtain ⟨x, out, k⟩ := a
   obtain ⟨hx, n, hn, hle, hol⟩ := ha
   simp only at hx hn hol ih ⊢
   subst hx hn
   have c1 : (decide (0 ≤ (n : Int)) && decide ((n : Int) ≤ (x.length : Int))) = true := by simp; omega
   have hd : (x.drop n).length < 1000000000000 := by rw [List.length_drop]; omega
   have hu := unframe_len (x.drop n)
   simp only [impl_ScanRecs.l0, c1, cond_true, Int.toNat_natCast, impl_Unframe_eq (x.drop n) hd, impl_ReadRec_eq (unframe (x.drop n)).1 (show (unframe (x.drop n)).1.length < 1000000000000 by omega), Option.bind_some]
   rcases unframe_pos (x.drop n) with h | ⟨m, h, h5, hm⟩
   ·have d : ((unframe (x.drop n)).2 == 0) = true := by simpa using h
    rw [scanAt_stop hle (.inl h)]
    simp only [d, cond_true, List.append_nil]
   have d : (((m : Nat) : Int) == 0) = false := by simp; omega
   rw [List.length_drop] at hm
   cases hr : (readRec (unframe (x.drop n)).1).2
   ·rw [scanAt_stop hle (.inr hr)]
    simp only [h, d, cond_false, Bool.not_false, cond_true, List.append_nil]
   ·have hb : ∀ {α : Type} (v : α), (out.length + [v].length) * 80 ≤ 140737488355328 := fun v => lim80 (by omega)
    have ew : w64 ((n : Int) + (m : Int)) = ((n + m : Nat) : Int) := by rw [w64_id (by omega) (by omega)]; omega
    have ih := ih (x, out ++ [((n : Int), (m : Int), (readRec (unframe (x.drop n)).1).1)], ((n + m : Nat) : Int)) ⟨rfl, n + m, rfl, by omega, by simp only [List.length_append, List.length_singleton]; omega⟩ (by simp only [Int.toNat_natCast]; omega)
    simp only [Int.toNat_natCast] at ih
    rw [scanAt_step h h5 (by omega) hr]
    simp only [h, d, cond_false, Bool.not_true, hb, decide_true, cond_true, ew, ih]
    simp [List.append_assoc])
  ⟨rfl, 0, rfl, Nat.zero_le _, by simp⟩ (by simp only; omega)
 have key : lp impl_ScanRecs.l0 (s, [], 0) = _ := key
 unfold impl_ScanRecs.f
 rw [key, Option.bind_some]
 rfl
theorem spec_ScanRecs_eq (s : List UInt8) (hl : s.length < 1000000000) : spec_ScanRecs.f s = some ((scan s).1, ((scan s).2 : Int)) := by
 have key := lp_ok (step := spec_ScanRecs.l0) (a := (s, ([] : List SpotT), ((0 : Nat) : Int))) (fun a => a.1 = s ∧ ∃ n : Nat, a.2.2 = (n : Int) ∧ n ≤ s.length ∧ a.2.1.length ≤ n ∧ scan s = (a.2.1 ++ (scanAt s n).1, (scanAt s n).2)) (fun a => s.length - a.2.2.toNat)
  (fun b => b = .inl ((scan s).1, ((scan s).2 : Int)) ∨ b = .inr ((scan s).1, ((scan s).2 : Int)))
  (fun rec a ha => by
   obtain ⟨x, out, k⟩ := a
   obtain ⟨hx, n, hn, hle, hol, hs⟩ := ha
   simp only at hx hn hol hs
   subst hx hn
   rcases Nat.lt_or_ge n x.length with hlt | hge
   rotate_left
   ·left
    have : n = x.length := by omega
    subst this
    rw [scanAt_end] at hs
    refine ⟨_, ?_, .inl rfl⟩
    rw [hs]
    simp [spec_ScanRecs.l0]
   have c0 : (n : Int) < (x.length : Int) := by omega
   have c1 : (decide (0 ≤ (n : Int)) && decide ((n : Int) ≤ (x.length : Int))) = true := by simp; omega
   have hd : (x.drop n).length < 1000000000000 := by rw [List.length_drop]; omega
   have hu := unframe_len (x.drop n)
   simp only [spec_ScanRecs.l0, c0, decide_true, c1, cond_true, Int.toNat_natCast, spec_Unframe_eq (x.drop n) hd, spec_ReadRec_eq (unframe (x.drop n)).1 (show (unframe (x.drop n)).1.length < 1000000000000 by omega), Option.bind_some]
   rcases unframe_pos (x.drop n) with h | ⟨m, h, h5, hm⟩
   ·left
    have d : ((unframe (x.drop n)).2 == 0) = true := by simpa using h
    rw [scanAt_stop hle (.inl h)] at hs
    simp only [List.append_nil] at hs
    exact ⟨.inr (out, (n : Int)), by simp only [d, cond_true], .inr (by rw [hs])⟩
   have d : (((m : Nat) : Int) == 0) = false := by simp; omega
   rw [List.length_drop] at hm
   cases hr : (readRec (unframe (x.drop n)).1).2
   ·left
    rw [scanAt_stop hle (.inr hr)] at hs
    simp only [List.append_nil] at hs
    exact ⟨.inr (out, (n : Int)), by simp only [h, d, cond_false, Bool.not_false, cond_true], .inr (by rw [hs])⟩
   ·right
    have hb : ∀ {α : Type} (v : α), (out.length + [v].length) * 80 ≤ 140737488355328 := fun v => lim80 (by omega)
    have ew : w64 ((n : Int) + (m : Int)) = ((n + m : Nat) : Int) := by rw [w64_id (by omega) (by omega)]; omega
    rw [scanAt_step h h5 (by omega) hr] at hs
    refine ⟨(x, out ++ [((n : Int), (m : Int), (readRec (unframe (x.drop n)).1).1)], ((n + m : Nat) : Int)), ⟨rfl, n + m, rfl, by omega, by simp only [List.length_append, List.length_singleton]; omega, by simpa [List.append_assoc] using hs⟩, by simp only [Int.toNat_natCast]; omega, ?_⟩
    simp only [h, d, cond_false, Bool.not_true, hb, decide_true, cond_true, ew])
  ⟨rfl, 0, rfl, Nat.zero_le _, by simp, by unfold scan; simp⟩ (by simp only; omega)
 obtain ⟨b, e, hb⟩ := key
 have e : lp spec_ScanRecs.l0 (s, [], 0) = some b := e
 unfold spec_ScanRecs.f
 rw [e, Option.bind_some]
 rcases hb with rfl | rfl <;> rfl
theorem impl_DirOk_l0 (l : List EntryT) (hl : l.length < 2 ^ 62) : lp impl_DirOk.l0 (l, l, (l.length : Int), 0) = some (if riseE none l = true then .inl l else .inr false) := by
 have key := lp_up (step := impl_DirOk.l0) (fun n (_ : Unit) => (l, l, (l.length : Int), (n : Int))) l.length (fun n _ => if riseE (beforeE l n) (l.drop n) = true then .inl l else .inr false) (fun _ _ => True)
  (fun rec n s hn' _ ih => by
   rcases Nat.lt_or_ge n l.length with h | h
   ·have hw : w64 ((n : Int) + 1) = ((n + 1 : Nat) : Int) := w64_succ (by omega)
    have ih2 := ih () h trivial
    rw [beforeE_succ l n h] at ih2
    rw [List.drop_eq_getElem_cons h]
    simp only [riseE, impl_DirOk.l0, Int.ofNat_lt, h, decide_true, cond_true, inB_nat, rdA_nat, getD_lt h, Option.bind_some, impl_in_eq, impl_KeyOk_eq]
    unfold entryOk
    have hneg : decide (l[n].2.2.1 < 0) = !decide (0 ≤ l[n].2.2.1) := by
     by_cases c : 0 ≤ l[n].2.2.1
     ·have : ¬ l[n].2.2.1 < 0 := by omega
      simp [c, this]
     ·have : l[n].2.2.1 < 0 := by omega
      simp [c, this]
    rw [hneg]
    rcases Bool.eq_false_or_eq_true (keyOk l[n].1) with k1 | k1
    rotate_left
    ·simp [k1]
    rcases Bool.eq_false_or_eq_true (decide (1 ≤ l[n].2.1 ∧ l[n].2.1 ≤ 100000)) with k2 | k2
    rotate_left
    ·simp only [k1, k2, Bool.not_true, Bool.not_false, cond_false, cond_true, Option.bind_some, caseS_r]; simp
    rcases Bool.eq_false_or_eq_true (decide (0 ≤ l[n].2.2.1)) with k3 | k3
    rotate_left
    ·simp only [k1, k2, k3, Bool.not_true, Bool.not_false, cond_false, cond_true, Option.bind_some, caseS_r]; simp
    rcases Bool.eq_false_or_eq_true (decide (1 ≤ l[n].2.2.2.1 ∧ l[n].2.2.2.1 ≤ 210)) with k4 | k4
    rotate_left
    ·simp only [k1, k2, k3, k4, Bool.not_true, Bool.not_false, cond_false, cond_true, Option.bind_some, caseS_r]; simp
    rcases Bool.eq_false_or_eq_true (decide (1 ≤ l[n].2.2.2.2 ∧ l[n].2.2.2.2 ≤ 1000000)) with k5 | k5
    rotate_left
    ·simp only [k1, k2, k3, k4, k5, Bool.not_true, Bool.not_false, cond_false, cond_true, Option.bind_some, caseS_r]; simp
    simp only [k1, k2, k3, k4, k5, Bool.not_true, cond_false, Bool.true_and]
    cases n with
    | zero =>
     have z : ¬ ((0 : Nat) : Int) > 0 := by omega
     simp only [z, decide_false, cond_false, Option.bind_some, caseS_l, hw, ih2, beforeE, Bool.true_and]
    | succ m =>
     have z : ((m + 1 : Nat) : Int) > 0 := by omega
     have hm : m < l.length := by omega
     have z2 : w64 (((m + 1 : Nat) : Int) - 1) = (m : Int) := by rw [w64_id (by omega) (by omega)]; omega
     rw [beforeE_succ l m hm]
     simp only [z, decide_true, cond_true, z2, inB_nat, hm, rdA_nat, getD_lt hm]
     rcases Bool.eq_false_or_eq_true (Op.bytesLess l[m].1 l[m + 1].1) with k6 | k6
     ·simp only [k6, Bool.not_true, cond_false, Option.bind_some, caseS_l, hw, ih2, Bool.true_and]
     ·simp [k6]
   ·have : n = l.length := by omega
    subst this
    simp [impl_DirOk.l0, riseE])
  hl 0 () (Nat.zero_le _) trivial
 have key : lp impl_DirOk.l0 (l, l, (l.length : Int), 0) = _ := key
 rw [key, List.drop_zero]; rfl
theorem neg_dec (a : Int) : decide (a < 0) = !decide (0 ≤ a) := by
 by_cases c : 0 ≤ a
 ·have : ¬ a < 0 := by omega
  simp [c, this]
 ·have : a < 0 := by omega
  simp [c, this]
theorem spec_DirOk_l0 (l : List EntryT) (hl : l.length < 2 ^ 62) : lp spec_DirOk.l0 (l, 0) = some (if riseE none l = true then .inl () else .inr false) := by
 have key := lp_up (step := spec_DirOk.l0) (fun n (_ : Unit) => (l, (n : Int))) l.length (fun n _ => if riseE (beforeE l n) (l.drop n) = true then .inl () else .inr false) (fun _ _ => True)
  (fun rec n s hn' _ ih => by
   rcases Nat.lt_or_ge n l.length with h | h
   ·have hw : w64 ((n : Int) + 1) = ((n + 1 : Nat) : Int) := w64_succ (by omega)
    have ih2 := ih () h trivial
    rw [beforeE_succ l n h] at ih2
    rw [List.drop_eq_getElem_cons h]
    simp only [riseE, spec_DirOk.l0, Int.ofNat_lt, h, decide_true, cond_true, inB_nat, rdA_nat, getD_lt h, Option.bind_some, spec_l1In_eq, spec_KeyOk_eq]
    unfold entryOk
    rw [neg_dec]
    rcases Bool.eq_false_or_eq_true (keyOk l[n].1) with k1 | k1
    rotate_left
    ·simp [k1]
    rcases Bool.eq_false_or_eq_true (decide (1 ≤ l[n].2.1 ∧ l[n].2.1 ≤ 100000)) with k2 | k2
    rotate_left
    ·simp only [k1, k2, Bool.not_true, Bool.not_false, cond_false, cond_true, Option.bind_some, caseS_r]; simp
    rcases Bool.eq_false_or_eq_true (decide (0 ≤ l[n].2.2.1)) with k3 | k3
    rotate_left
    ·simp only [k1, k2, k3, Bool.not_true, Bool.not_false, cond_false, cond_true, Option.bind_some, caseS_r]; simp
    rcases Bool.eq_false_or_eq_true (decide (1 ≤ l[n].2.2.2.1 ∧ l[n].2.2.2.1 ≤ 210)) with k4 | k4
    rotate_left
    ·simp only [k1, k2, k3, k4, Bool.not_true, Bool.not_false, cond_false, cond_true, Option.bind_some, caseS_r]; simp
    rcases Bool.eq_false_or_eq_true (decide (1 ≤ l[n].2.2.2.2 ∧ l[n].2.2.2.2 ≤ 1000000)) with k5 | k5
    rotate_left
    ·simp only [k1, k2, k3, k4, k5, Bool.not_true, Bool.not_false, cond_false, cond_true, Option.bind_some, caseS_r]; simp
    simp only [k1, k2, k3, k4, k5, Bool.not_true, cond_false, Bool.true_and]
    cases n with
    | zero =>
     have z : ¬ ((0 : Nat) : Int) > 0 := by omega
     simp only [z, decide_false, cond_false, Option.bind_some, caseS_l, hw, ih2, beforeE, Bool.true_and]
    | succ m =>
     have z : ((m + 1 : Nat) : Int) > 0 := by omega
     have hm : m < l.length := by omega
     have z2 : w64 (((m + 1 : Nat) : Int) - 1) = (m : Int) := by rw [w64_id (by omega) (by omega)]; omega
     have z3 : (Op.bytesLess l[m + 1].1 l[m].1 || l[m + 1].1 == l[m].1) = !Op.bytesLess l[m].1 l[m + 1].1 := leK_not _ _
     rw [beforeE_succ l m hm]
     simp only [z, decide_true, cond_true, z2, inB_nat, hm, rdA_nat, getD_lt hm, z3]
     rcases Bool.eq_false_or_eq_true (Op.bytesLess l[m].1 l[m + 1].1) with k6 | k6
     ·simp only [k6, Bool.not_true, cond_false, Option.bind_some, caseS_l, hw, ih2, Bool.true_and]
     ·simp [k6]
   ·have : n = l.length := by omega
    subst this
    simp [spec_DirOk.l0, riseE])
  hl 0 () (Nat.zero_le _) trivial
 have key : lp spec_DirOk.l0 (l, 0) = _ := key
 rw [key, List.drop_zero]; rfl
theorem impl_DirOk_eq (l : List EntryT) (hl : l.length < 2 ^ 62) : impl_DirOk.f l = some (dirOk l) := by
 unfold impl_DirOk.f dirOk
 rw [impl_DirOk_l0 l hl, Option.bind_some]
 have e : decide ((l.length : Int) ≤ 20) = decide (l.length ≤ 20) := decide_eq_decide.2 (by omega)
 cases riseE none l <;> simp [e]
theorem spec_DirOk_eq (l : List EntryT) (hl : l.length < 2 ^ 62) : spec_DirOk.f l = some (dirOk l) := by
 unfold spec_DirOk.f dirOk
 rw [spec_DirOk_l0 l hl]
 by_cases c : l.length ≤ 20
 ·have c1 : ¬ (l.length : Int) > 20 := by omega
  simp only [c, c1, decide_true, decide_false, cond_false, Bool.and_true, Option.bind_some]
  cases riseE none l <;> rfl
 ·have c1 : (l.length : Int) > 20 := by omega
  simp [c, c1]
theorem pw_rise : ∀ (l : List FileT) (p : List UInt8), (∀ x ∈ l, Op.bytesLess p x.1 = true) → srt l → riseF (some p) l = true
 | [], _, _, _ => rfl
 | f :: l, p, h, hs => by
  simp only [riseF, h f List.mem_cons_self, Bool.true_and]
  have hs2 := List.pairwise_cons.1 hs
  exact pw_rise l f.1 hs2.1 hs2.2
theorem pw_rise0 (l : List FileT) (hs : srt l) : riseF none l = true := by
 cases l with
 | nil => rfl
 | cons f l =>
  have hs2 := List.pairwise_cons.1 hs
  exact pw_rise l f.1 hs2.1 hs2.2
def okF (cap : Int) (l : List FileT) : Prop := l.length ≤ 130 ∧ (usedN l : Int) ≤ cap ∧ (∀ f ∈ l, fileOk f = true) ∧ srt l
theorem diskOk_iff (d : DiskT) : diskOk d = true ↔ (0 ≤ d.2.1 ∧ d.2.1 ≤ 100000) ∧ (-1 ≤ d.2.2.1 ∧ d.2.2.1 ≤ 100000) ∧ okF d.2.1 d.1 := by
 unfold diskOk okF filesOk
 simp only [Bool.and_eq_true, decide_eq_true_eq, List.all_eq_true]
 constructor
 ·rintro ⟨h1, h2, h3, h4, h5, h6⟩
  exact ⟨h2, h3, h1, h4, h5, rise_pw0 _ h6⟩
 ·rintro ⟨h2, h3, h1, h4, h5, h6⟩
  exact ⟨h1, h2, h3, h4, h5, pw_rise0 _ h6⟩
theorem dk_tick {d : DiskT} (h : diskOk d = true) : diskOk (tick d) = true := by
 rw [diskOk_iff] at h ⊢
 obtain ⟨h1, h2, h3⟩ := h
 rw [tick_cap, tick_fst]
 refine ⟨h1, ?_, h3⟩
 unfold tick; split
 ·exact ⟨by show -1 ≤ d.2.2.1 - 1; omega, by show d.2.2.1 - 1 ≤ 100000; omega⟩
 ·exact h2
theorem dk_dstep {d : DiskT} {act : List FileT → Int × List FileT} (h : diskOk d = true) (ha : okF d.2.1 d.1 → okF d.2.1 (act d.1).2) : diskOk (dstep d act).1 = true := by
 have ht := dk_tick h
 rw [diskOk_iff] at h ht
 unfold dstep
 split
 ·rename_i k; rw [(diskOk_iff d).2 h] at k; exact absurd k (by simp)
 ·split
  ·exact (diskOk_iff _).2 h
  ·refine (diskOk_iff _).2 ⟨?_, ht.2.1, ?_⟩
   ·show 0 ≤ (tick d).2.1 ∧ (tick d).2.1 ≤ 100000
    exact ht.1
   ·show okF (tick d).2.1 (act d.1).2
    rw [tick_cap]; exact ha h.2.2
theorem okF_sub {cap : Int} {l m : List FileT} (h : okF cap l) (hs : m.Sublist l) : okF cap m := by
 have := sumN_sub (fun f : FileT => f.2.1.length) hs
 have := hs.length_le
 have h2 := h.2.1
 refine ⟨by have := h.1; omega, ?_, fun f hf => h.2.2.1 f (hs.subset hf), h.2.2.2.sublist hs⟩
 unfold usedN at *; omega
theorem usedN_insB (l : List FileT) (f : FileT) : usedN (insB l f) = usedN l + f.2.1.length := by
 unfold usedN
 induction l with
 | nil => simp [insB, sumN]
 | cons x l ih =>
  rw [insB_cons]
  split
  ·simp only [sumN, ih]; omega
  ·simp only [sumN]; omega
theorem usedN_remIx (l : List FileT) (i : Nat) (h : i < l.length) : usedN (remIx l i) + l[i].2.1.length = usedN l := by
 unfold usedN remIx
 induction l generalizing i with
 | nil => simp at h
 | cons x l ih =>
  cases i with
  | zero => simp only [List.take_zero, List.drop_succ_cons, List.drop_zero, List.nil_append, List.getElem_cons_zero, sumN]; omega
  | succ i =>
   have := ih i (by simpa using h)
   simp only [List.take_succ_cons, List.drop_succ_cons, List.cons_append, sumN, List.getElem_cons_succ] at *
   omega
theorem usedN_set2 (l : List FileT) (i : Nat) (f : FileT) (h : i < l.length) : usedN (l.set i f) + l[i].2.1.length = usedN l + f.2.1.length := by
 unfold usedN
 induction l generalizing i with
 | nil => simp at h
 | cons x l ih =>
  cases i with
  | zero => simp only [List.set_cons_zero, List.getElem_cons_zero, sumN]; omega
  | succ i =>
   have := ih i (by simpa using h)
   simp only [List.set_cons_succ, sumN, List.getElem_cons_succ] at *
   omega
theorem srtF_set {α : Type} {l : List (List UInt8 × α)} (h : srt l) (i : Nat) (hi : i < l.length) (f : List UInt8 × α) (hf : f.1 = l[i].1) : srt (l.set i f) := by
 unfold srt at *
 have e : (l.set i f).map (·.1) = l.map (·.1) := by
  apply List.ext_getElem
  ·simp
  ·intro n h1 h2
   simp only [List.getElem_map, List.getElem_set]
   split
   ·rename_i c; subst c; exact hf
   ·rfl
 have h2 : (l.map (·.1)).Pairwise (fun a b => Op.bytesLess a b = true) := List.pairwise_map.2 h
 rw [← e] at h2
 exact List.pairwise_map.1 h2
theorem okF_set {cap : Int} {l : List FileT} (h : okF cap l) (i : Nat) (hi : i < l.length) (f : FileT) (hn : f.1 = l[i].1) (hf : fileOk f = true) (hu : (usedN l : Int) + f.2.1.length - l[i].2.1.length ≤ cap) : okF cap (l.set i f) := by
 have := usedN_set2 l i f hi
 refine ⟨by rw [List.length_set]; exact h.1, by omega, fun g hg => ?_, srtF_set h.2.2.2 i hi f hn⟩
 rcases List.mem_or_eq_of_mem_set hg with hg | e
 ·exact h.2.2.1 g hg
 ·rw [e]; exact hf
theorem okF_ins {cap : Int} {l : List FileT} (h : okF cap l) (f : FileT) (h1 : l.length < 130) (hne : ∀ x ∈ l, x.1 ≠ f.1) (hf : fileOk f = true) (hu : (usedN l : Int) + f.2.1.length ≤ cap) : okF cap (insB l f) := by
 refine ⟨by rw [insB_len]; omega, by rw [usedN_insB]; omega, fun g hg => ?_, srt_insB f l h.2.2.2 hne⟩
 rcases (mem_insB g f l).1 hg with e | hg
 ·rw [e]; exact hf
 ·exact h.2.2.1 g hg
theorem dk_Remove {d : DiskT} (h : diskOk d = true) (n : List UInt8) : diskOk (dRemove n d).1 = true :=
 dk_dstep h fun k => by
  unfold actRemove; split
  ·exact okF_sub k (remIx_sub _ _)
  ·exact k
theorem dk_Gone {d : DiskT} (h : diskOk d = true) (n : List UInt8) : diskOk (dGone n d).1 = true := by
 unfold dGone; split
 ·exact dk_Remove h n
 ·exact h
theorem dk_Create {d : DiskT} (h : diskOk d = true) (n : List UInt8) : diskOk (dCreate n d).1 = true :=
 dk_dstep h fun k => by
  unfold actCreate; split
  ·exact k
  ·rename_i k1
   split
   ·exact k
   ·rename_i k2
    split
    ·exact k
    ·rename_i k3
     rcases fileIx_cases d.1 n with ⟨e, hno⟩ | ⟨i, hi, e, _⟩
     ·refine okF_ins k _ (by omega) hno ?_ (by have := k.2.1; simp; exact this)
      unfold fileOk; simp at k1 ⊢; exact k1
     ·omega
theorem dk_Append {d : DiskT} (h : diskOk d = true) (n t : List UInt8) : diskOk (dAppend n t d).1 = true :=
 dk_dstep h fun k => by
  unfold actAppend
  rcases fileIx_cases d.1 n with ⟨e, _⟩ | ⟨i, hi, e, _⟩
  ·rw [ix_none e]; exact k
  ·rw [ix_some e]
   simp only
   split
   ·exact k
   ·rename_i k1
    rw [getD_lt hi]
    refine okF_set k i hi _ rfl ?_ ?_
    ·have := k.2.2.1 _ (List.getElem_mem hi)
     unfold fileOk at *
     simp only [Bool.and_eq_true, decide_eq_true_eq, List.length_append] at *
     exact ⟨this.1, by omega, by omega⟩
    ·simp only [List.length_append]; omega
theorem dk_Sync {d : DiskT} (h : diskOk d = true) (n : List UInt8) : diskOk (dSync n d).1 = true :=
 dk_dstep h fun k => by
  unfold actSync
  rcases fileIx_cases d.1 n with ⟨e, _⟩ | ⟨i, hi, e, _⟩
  ·rw [ix_none e]; exact k
  ·rw [ix_some e]
   simp only
   rw [getD_lt hi]
   refine okF_set k i hi _ rfl ?_ ?_
   ·have := k.2.2.1 _ (List.getElem_mem hi)
    unfold fileOk at *
    simp only [Bool.and_eq_true, decide_eq_true_eq] at *
    exact ⟨this.1, by omega, by omega⟩
   ·have := k.2.1; simp only; omega
theorem dk_Trunc {d : DiskT} (h : diskOk d = true) (n : List UInt8) (z : Int) : diskOk (dstep d (actTrunc n z)).1 = true :=
 dk_dstep h fun k => by
  unfold actTrunc
  rcases fileIx_cases d.1 n with ⟨e, _⟩ | ⟨i, hi, e, _⟩
  ·rw [ix_none e]; exact k
  ·rw [ix_some e]
   simp only
   rw [getD_lt hi]
   split
   ·rename_i k1
    refine okF_set k i hi _ rfl ?_ ?_
    ·have := k.2.2.1 _ (List.getElem_mem hi)
     unfold fileOk at *
     simp only [Bool.and_eq_true, decide_eq_true_eq, List.length_take] at *
     exact ⟨this.1, by omega, by omega⟩
    ·have := k.2.1
     simp only [List.length_take]; omega
   ·exact k
theorem dk_Rename {d : DiskT} (h : diskOk d = true) (a b : List UInt8) : diskOk (dRename a b d).1 = true :=
 dk_dstep h fun k => by
  unfold actRename
  split
  ·exact k
  ·rename_i k0
   rcases fileIx_cases d.1 a with ⟨e, _⟩ | ⟨i, hi, e, _⟩
   ·rw [ix_none e]; exact k
   ·rw [ix_some e]
    simp only
    split
    ·exact k
    ·rw [getD_lt hi]
     have hs : (dropF (remIx d.1 i) b).Sublist d.1 := (dropF_sub _ _).trans (remIx_sub _ _)
     have h2 := usedN_remIx d.1 i hi
     have h3 := remIx_len hi
     have h4 := dropF_len (remIx d.1 i) b
     have h5 : usedN (dropF (remIx d.1 i) b) ≤ usedN (remIx d.1 i) := sumN_sub (fun f : FileT => f.2.1.length) (dropF_sub _ _)
     have k1 := k.1
     have k2 := k.2.1
     refine okF_ins (okF_sub k hs) _ (by omega) (dropF_ne (k.2.2.2.sublist (remIx_sub d.1 i))) ?_ (by simp only; omega)
     have := k.2.2.1 _ (List.getElem_mem hi)
     unfold fileOk at *
     simp only [Bool.and_eq_true, decide_eq_true_eq, Bool.not_eq_false] at *
     exact ⟨k0, this.2⟩
theorem dk_sstep {w : WorkT} {op : DiskT → DiskT × Int} (h : diskOk w.1 = true) (ho : diskOk w.1 = true → diskOk (op w.1).1 = true) : diskOk (sstep op w).1 = true := by
 unfold sstep; split
 ·exact ho h
 ·exact h
theorem dk_wstep {w : WorkT} {op : DiskT → DiskT × Int} (h : diskOk w.1 = true) (ho : diskOk w.1 = true → diskOk (op w.1).1 = true) : diskOk (wstep op w).1 = true := by
 unfold wstep; split
 ·exact ho h
 ·exact h
theorem dk_sFile {w : WorkT} (h : diskOk w.1 = true) (n t : List UInt8) : diskOk (sFile n t w).1 = true :=
 dk_sstep (op := dSync n) (dk_sstep (op := dAppend n t) (dk_sstep (op := dCreate n) (dk_sstep (op := dGone n) h fun k => dk_Gone k n) fun k => dk_Create k n) fun k => dk_Append k n t) fun k => dk_Sync k n
theorem dk_sPut {w : WorkT} (h : diskOk w.1 = true) (v : LiveT) : diskOk (sPut v w).1 = true :=
 dk_sstep (op := dRename _ _) (dk_sFile h _ _) fun k => dk_Rename k _ _
theorem dl_dk {d : DiskT} (h : diskOk d = true) : dl 100001 d := by
 rw [diskOk_iff] at h
 obtain ⟨h1, h2, h3, h4, h5, h6⟩ := h
 refine ⟨by omega, by omega, fun f hf => ?_⟩
 have := h5 f hf
 unfold fileOk at this
 simp only [Bool.and_eq_true] at this
 have := nameOk_len this.1
 omega
theorem idsOk_mem {hi : Int} : ∀ (l : List Int) (p : Option Int), idsOk hi p l = true → ∀ y ∈ l, 1 ≤ y ∧ y ≤ hi
 | [], _, _, y, hy => by simp at hy
 | x :: l, p, h, y, hy => by
  simp only [idsOk, Bool.and_eq_true, decide_eq_true_eq] at h
  rcases List.mem_cons.1 hy with e | hy
  ·subst e; exact h.1
  ·exact idsOk_mem l (some x) h.2.2 y hy
theorem liveOk_iff (v : LiveT) : liveOk v = true ↔ idsOk (w64 (v.1 - 1)) none v.2 = true ∧ (1 ≤ v.1 ∧ v.1 ≤ 100000) ∧ 1 ≤ v.2.length ∧ v.2.length ≤ 60 := by
 unfold liveOk
 simp only [Bool.and_eq_true, decide_eq_true_eq]
 constructor
 ·rintro ⟨h1, h2, h3⟩; exact ⟨h1, h2, by omega, by omega⟩
 ·rintro ⟨h1, h2, h3⟩; exact ⟨h1, h2, by omega, by omega⟩
def sDrop (names : List (List UInt8)) (w : WorkT) : WorkT := names.foldl (fun w n => sstep (dGone n) w) w
def wDrop (names : List (List UInt8)) (w : WorkT) : WorkT := names.foldl (fun w n => wstep (dGone n) w) w
theorem wDrop_told (names : List (List UInt8)) : ∀ w : WorkT, wDrop names (toldW w) = toldW (sDrop names w) := by
 induction names with
 | nil => intro w; rfl
 | cons n l ih =>
  intro w
  show wDrop l (wstep (dGone n) (toldW w)) = toldW (sDrop l (sstep (dGone n) w))
  rw [wstep_told, ih]
theorem sDrop_ne (names : List (List UInt8)) {d : DiskT} {c : Int} (h : c ≠ 0) : sDrop names (d, c) = (d, c) := by
 induction names with
 | nil => rfl
 | cons n l ih => show sDrop l (sstep (dGone n) (d, c)) = _; rw [sstep_ne h, ih]
theorem dk_sDrop (names : List (List UInt8)) : ∀ {w : WorkT}, diskOk w.1 = true → diskOk (sDrop names w).1 = true := by
 induction names with
 | nil => intro w h; exact h
 | cons n l ih => intro w h; exact ih (dk_sstep (op := dGone n) h fun k => dk_Gone k n)
def lastI (l : List Int) : Int := l.getD (l.length - 1) 0
theorem last_rd {l : List Int} (h : 1 ≤ l.length) (hl : l.length < 2 ^ 62) : w64 ((l.length : Int) - 1) = ((l.length - 1 : Nat) : Int) ∧ inB ((l.length - 1 : Nat) : Int) l.length = true ∧ rdA 0 l ((l.length - 1 : Nat) : Int) = lastI l := by
 refine ⟨by rw [w64_id (by omega) (by omega)]; omega, ?_, ?_⟩
 ·rw [inB_nat]; simp; omega
 ·rw [rdA_nat]; rfl
theorem lim8 {a : Nat} (h : a < 1000000000001) : (a + 1) * 8 ≤ 140737488355328 := by omega
theorem lim48' {a : Nat} (h : a < 1000000000001) : (0 + a) * 48 ≤ 140737488355328 := by omega
theorem impl_copyDir_eq (v : List EntryT) (h : v.length < 1000000000) : impl_copyDir.f v = some v := by
 unfold impl_copyDir.f
 have : (([] : List EntryT).length + v.length) * 48 ≤ 140737488355328 := lim48' (by omega)
 simp only [this, decide_true, cond_true, List.nil_append]
theorem told_ne (c : Int) : (told c != 0) = (c != 0) := by
 by_cases h : c = 0
 ·subst h; rfl
 ·have h2 : told c ≠ 0 := fun e => h ((told_zero c).1 e)
  rw [show (told c != 0) = true by simpa using h2, show (c != 0) = true by simpa using h]
theorem lim48 {a : Nat} (h : a < 1000000000001) : (a + 1) * 48 ≤ 140737488355328 := by omega
theorem impl_DirDrop_eq (l : List EntryT) (key : List UInt8) (hl : l.length < 1000000000) : impl_DirDrop.f l key = some (dropK l key) := by
 have hk := fold_loop (step := impl_DirDrop.l0) l (fun s x => if (!(x.1 == key)) = true then s ++ [x] else s) (fun n (s : List EntryT) => (key, s, l, (l.length : Int), (n : Int))) id (fun n s => s.length ≤ n) (by omega)
  (fun rec n s h hi => by
   have hb : (s.length + ([(l[n].1, l[n].2.1, l[n].2.2.1, l[n].2.2.2.1, l[n].2.2.2.2)] : List EntryT).length) * 48 ≤ 140737488355328 := lim48 (by omega)
   have hw := w64_succ (show n + 1 < 9223372036854775808 by omega)
   simp only [impl_DirDrop.l0, Int.ofNat_lt, h, decide_true, cond_true, inB_nat, rdA_nat, getD_lt h, hb]
   cases l[n].1 == key <;> simp only [Bool.not_true, Bool.not_false, cond_true, cond_false, Option.bind_some, hw, if_true, if_false, Bool.false_eq_true])
  (fun n s h hi => by
   have : ∀ b : Bool, (if b = true then s ++ [l[n]] else s).length ≤ n + 1 := fun b => by cases b <;> simp <;> omega
   exact this _)
  (fun rec s hi => by simp [impl_DirDrop.l0]) [] (by simp)
 have hk : lp impl_DirDrop.l0 (key, [], l, (l.length : Int), 0) = _ := hk
 unfold impl_DirDrop.f
 rw [hk, foldl_filter]; rfl
theorem spec_DirDrop_eq (l : List EntryT) (key : List UInt8) (hl : l.length < 1000000000) : spec_DirDrop.f l key = some (dropK l key) := by
 have hk := fold_loop (step := spec_DirDrop.l0) l (fun s x => if (!(x.1 == key)) = true then s ++ [x] else s) (fun n (s : List EntryT) => (l, key, s, (n : Int))) id (fun n s => s.length ≤ n) (by omega)
  (fun rec n s h hi => by
   have hb : (s.length + ([(l[n].1, l[n].2.1, l[n].2.2.1, l[n].2.2.2.1, l[n].2.2.2.2)] : List EntryT).length) * 48 ≤ 140737488355328 := lim48 (by omega)
   have hw := w64_succ (show n + 1 < 9223372036854775808 by omega)
   simp only [spec_DirDrop.l0, Int.ofNat_lt, h, decide_true, cond_true, inB_nat, rdA_nat, getD_lt h, hb]
   cases l[n].1 == key <;> simp only [Bool.not_true, Bool.not_false, cond_true, cond_false, Option.bind_some, hw, if_true, if_false, Bool.false_eq_true])
  (fun n s h hi => by
   have : ∀ b : Bool, (if b = true then s ++ [l[n]] else s).length ≤ n + 1 := fun b => by cases b <;> simp <;> omega
   exact this _)
  (fun rec s hi => by simp [spec_DirDrop.l0]) [] (by simp)
 have hk : lp spec_DirDrop.l0 (l, key, [], 0) = _ := hk
 unfold spec_DirDrop.f
 rw [hk, foldl_filter]; rfl
theorem impl_DirPut_l0 (rest : List EntryT) (p : EntryT) (hl : rest.length < 2 ^ 62) :
  lp impl_DirPut.l0 (p, rest, 0) = some (p, rest, ((rest.takeWhile fun x => leK x.1 p.1).length : Int)) := by
 have key := lp_up (step := impl_DirPut.l0) (fun n (_ : Unit) => (p, rest, (n : Int))) rest.length (fun n _ => (p, rest, ((n + ((rest.drop n).takeWhile fun x => leK x.1 p.1).length : Nat) : Int))) (fun _ _ => True)
  (fun rec n s hn _ ih => by
   rcases Nat.lt_or_ge n rest.length with h | h
   ·rw [takeWhile_drop _ _ _ h]
    simp only [impl_DirPut.l0, Int.ofNat_lt, h, decide_true, cond_true, inB_nat, rdA_nat, getD_lt h, w64_succ (show n + 1 < 9223372036854775808 by omega)]
    show (bif leK rest[n].1 p.1 then _ else _) = _
    cases leK rest[n].1 p.1
    ·simp
    ·simp only [cond_true, if_true]
     rw [ih () h trivial]
     congr 4; omega
   ·have : n = rest.length := by omega
    subst this
    simp [impl_DirPut.l0])
  hl 0 () (Nat.zero_le _) trivial
 simpa using key
theorem impl_DirPut_eq (l : List EntryT) (e : EntryT) (hl : l.length < 1000000000) : impl_DirPut.f l e = some (insB (dropK l e.1) e) := by
 have hd := dropK_len l e.1
 have htw : ((dropK l e.1).takeWhile fun x => leK x.1 e.1).length ≤ (dropK l e.1).length := (List.takeWhile_sublist _).length_le
 unfold impl_DirPut.f
 rw [impl_DirDrop_eq l e.1 hl, Option.bind_some, impl_DirPut_l0 _ _ (by omega), Option.bind_some]
 generalize hk : ((dropK l e.1).takeWhile fun x => leK x.1 e.1).length = k at *
 have c1 : (0 : Int) ≤ (k : Int) := by omega
 have c2 : (k : Int) ≤ ((dropK l e.1).length : Int) := by omega
 have c3 : (List.take k (dropK l e.1)).length < 1000000000 := by simp; omega
 have c4 : ((List.take k (dropK l e.1)).length + [e].length) * 48 ≤ 140737488355328 := lim48 (by omega)
 have c5 : ((List.take k (dropK l e.1) ++ [e]).length + (List.drop k (dropK l e.1)).length) * 48 ≤ 140737488355328 := by simp; omega
 have hins : insB (dropK l e.1) e = List.take k (dropK l e.1) ++ [e] ++ List.drop k (dropK l e.1) := by
  unfold insB; simp only [hk]
 simp only [c1, c2, decide_true, Bool.and_self, cond_true, Int.toNat_natCast, impl_copyDir_eq _ c3, Option.bind_some, c4, c5, hins]
def setG {α : Type} (p : List UInt8 × α) (s : List (List UInt8 × α) × Bool) (x : List UInt8 × α) : List (List UInt8 × α) × Bool :=
 if (x.1 == p.1) = true then s else if s.2 = false ∧ leK x.1 p.1 = false then (s.1 ++ [p] ++ [x], true) else (s.1 ++ [x], s.2)
theorem setG_len {α : Type} (p : List UInt8 × α) (s : List (List UInt8 × α) × Bool) (x : List UInt8 × α) : (setG p s x).1.length ≤ s.1.length + 2 := by
 unfold setG; split
 ·omega
 ·split <;> simp <;> omega
theorem setG_true {α : Type} (p : List UInt8 × α) : ∀ (l out : List (List UInt8 × α)), l.foldl (setG p) (out, true) = (out ++ dropK l p.1, true)
 | [], out => by simp [dropK]
 | x :: l, out => by
  rw [List.foldl_cons]
  by_cases h : (x.1 == p.1) = true
  ·have e1 : setG p (out, true) x = (out, true) := by unfold setG; rw [if_pos h]
   rw [e1, setG_true p l]
   simp [dropK, h]
  ·have e1 : setG p (out, true) x = (out ++ [x], true) := by unfold setG; rw [if_neg h, if_neg (by simp)]
   rw [e1, setG_true p l]
   simp [dropK, h]
theorem setG_false {α : Type} (p : List UInt8 × α) : ∀ (l out : List (List UInt8 × α)), (let s := l.foldl (setG p) (out, false); if s.2 = true then s.1 else s.1 ++ [p]) = out ++ insB (dropK l p.1) p
 | [], out => by simp [dropK, insB]
 | x :: l, out => by
  rw [List.foldl_cons]
  by_cases h : (x.1 == p.1) = true
  ·have e1 : setG p (out, false) x = (out, false) := by unfold setG; rw [if_pos h]
   have e2 : dropK (x :: l) p.1 = dropK l p.1 := by simp [dropK, h]
   rw [e1, e2]; exact setG_false p l out
  ·have e2 : dropK (x :: l) p.1 = x :: dropK l p.1 := by simp [dropK, h]
   rw [e2]
   cases hk : leK x.1 p.1
   ·have e1 : setG p (out, false) x = (out ++ [p] ++ [x], true) := by unfold setG; rw [if_neg h, if_pos ⟨rfl, hk⟩]
    rw [e1, setG_true]
    simp [insB, hk]
   ·have e1 : setG p (out, false) x = (out ++ [x], false) := by unfold setG; rw [if_neg h, if_neg (by simp [hk])]
    rw [e1, setG_false p l (out ++ [x])]
    simp [insB, hk]
theorem spec_DirPut_eq (l : List EntryT) (p : EntryT) (hl : l.length < 1000000000) : spec_DirPut.f l p = some (insB (dropK l p.1) p) := by
 have hk := fold_loop (step := spec_DirPut.l0) l (setG p) (fun n (s : List EntryT × Bool) => (l, p, s.1, s.2, (n : Int))) (fun s => (p, s.1, s.2)) (fun n s => s.1.length ≤ 2 * n) (by omega)
  (fun rec n s h hi => by
   have hi : s.1.length ≤ 2 * n := hi
   have hq : s.1.length < 1000000000000 := by omega
   have hb1 : (s.1.length + [p].length) * 48 ≤ 140737488355328 := lim48 (Nat.lt_succ_of_lt hq)
   have hb2 : (s.1.length + ([(l[n].1, l[n].2.1, l[n].2.2.1, l[n].2.2.2.1, l[n].2.2.2.2)] : List EntryT).length) * 48 ≤ 140737488355328 := lim48 (Nat.lt_succ_of_lt hq)
   have hb3 : ((s.1 ++ [p]).length + ([(l[n].1, l[n].2.1, l[n].2.2.1, l[n].2.2.2.1, l[n].2.2.2.2)] : List EntryT).length) * 48 ≤ 140737488355328 := by rw [List.length_append]; exact lim48 (Nat.succ_lt_succ hq)
   have hw := w64_succ (show n + 1 < 9223372036854775808 by omega)
   have hle : (Op.bytesLess l[n].1 p.1 || l[n].1 == p.1) = leK l[n].1 p.1 := rfl
   simp only [spec_DirPut.l0, Int.ofNat_lt, h, decide_true, cond_true, inB_nat, rdA_nat, getD_lt h, hle]
   unfold setG
   rcases Bool.eq_false_or_eq_true (l[n].1 == p.1) with h1 | h1
   ·simp only [h1, cond_true, Option.bind_some, hw, if_true]
   ·rcases Bool.eq_false_or_eq_true s.2 with h2 | h2
    ·simp only [h1, h2, cond_false, Bool.not_true, Option.bind_some, inB_nat, rdA_nat, getD_lt h, h, decide_true, cond_true, hb2, hw, Bool.false_eq_true, Bool.true_eq_false, false_and, if_false]
    ·rcases Bool.eq_false_or_eq_true (leK l[n].1 p.1) with h3 | h3
     ·simp only [h1, h2, h3, cond_false, Bool.not_true, Bool.not_false, cond_true, Option.bind_some, inB_nat, rdA_nat, getD_lt h, h, decide_true, hb2, hw, Bool.false_eq_true, Bool.true_eq_false, and_false, if_false]
     ·simp only [h1, h2, h3, cond_false, Bool.not_true, Bool.not_false, cond_true, Option.bind_some, inB_nat, rdA_nat, getD_lt h, h, decide_true, hb1, hb3, hw, Bool.false_eq_true, and_self, if_true, if_false])
  (fun n s h hi => by have := setG_len p s l[n]; have hi : s.1.length ≤ 2 * n := hi; show _ ≤ 2 * (n + 1); omega)
  (fun rec s hi => by simp [spec_DirPut.l0]) ([], false) (by simp)
 have hk : lp spec_DirPut.l0 (l, p, [], false, 0) = _ := hk
 have hlen : ∀ (m : List EntryT) (s : List EntryT × Bool), (m.foldl (setG p) s).1.length ≤ s.1.length + 2 * m.length := by
  intro m
  induction m with
  | nil => intro s; simp
  | cons x m ih => intro s; rw [List.foldl_cons]; have := ih (setG p s x); have := setG_len p s x; simp only [List.length_cons]; omega
 unfold spec_DirPut.f
 rw [hk, Option.bind_some]
 have hf := setG_false p l []
 have hb := hlen l ([], false)
 generalize l.foldl (setG p) ([], false) = s at *
 obtain ⟨s1, s2⟩ := s
 simp only [List.length_nil, Nat.zero_add] at hb
 have hb1 : (s1.length + [p].length) * 48 ≤ 140737488355328 := lim48 (by omega)
 cases s2
 ·simp only [Bool.false_eq_true, if_false, List.nil_append] at hf ⊢
  simp only [Bool.not_false, cond_true, hb1, decide_true, hf]
 ·simp only [if_true, List.nil_append] at hf
  simp [hf]
theorem lim64R {a : Nat} (h : a < 1000000000001) : (a + 1) * 64 ≤ 140737488355328 := by omega
theorem spec_l9Put_eq (dir : List EntryT) (p : Int × Int × Int × RecT) (hd : dir.length < 100000000) : spec_l9Put.f dir p = some (if p.2.2.2.1 = 2 then dropK dir p.2.2.2.2.2.1 else insB (dropK dir p.2.2.2.2.2.1) (p.2.2.2.2.2.1, p.1, p.2.1, p.2.2.1, p.2.2.2.2.1)) := by
 unfold spec_l9Put.f
 by_cases c : p.2.2.2.1 = 2
 ·have d : (p.2.2.2.1 == 2) = true := by simpa using c
  simp only [d, cond_true, c, if_true, beq_self_eq_true, spec_DirDrop_eq dir _ (show dir.length < 1000000000 by omega), Option.bind_some]
 ·have d : (p.2.2.2.1 == 2) = false := by simpa using c
  simp only [d, cond_false, c, if_false, spec_DirPut_eq dir (p.2.2.2.2.2.1, p.1, p.2.1, p.2.2.1, p.2.2.2.2.1) (show dir.length < 1000000000 by omega), Option.bind_some]
theorem impl_HintName_eq (id : Int) : impl_HintName.f id = some (hintName id) := by
 unfold impl_HintName.f hintName
 rw [impl_named_eq [104, 105, 110, 116] id (by show 4 ≤ 100; decide), Option.bind_some]
theorem spec_HintName_eq (id : Int) : spec_HintName.f id = some (hintName id) := by
 unfold spec_HintName.f hintName nameN
 rw [spec_l1In_eq, Option.bind_some]
 by_cases h : 1 ≤ id ∧ id ≤ 100000
 ·obtain ⟨n, rfl⟩ : ∃ n : Nat, id = (n : Int) := ⟨id.toNat, by omega⟩
  have hl := digits_len 5 n (by show n < 1000000; omega)
  have hb : ([104, 105, 110, 116] : List UInt8).length + (Lib.decDigits n).length ≤ 9223372036854775807 := by show 4 + _ ≤ _; omega
  simp only [h, and_self, decide_true, Bool.not_true, cond_false, spec_Dec_eq n (by omega), Option.bind_some, hb, cond_true, if_true, Int.toNat_natCast]
 ·simp [h]
theorem hintName_len (id : Int) : (hintName id).length ≤ 10 := by
 unfold hintName nameN
 split
 ·have hl := digits_len 5 id.toNat (by show _ < 1000000; omega)
  rw [List.length_append]; show 4 + _ ≤ 10; omega
 ·simp
abbrev HintT := Int × Int × List EntryT
def sameSeg (h : HintT) (e : EntryT) : Bool := !(e.2.1 != ((h.2.2.getD 0 ([], 0, 0, 0, 0)).2.1)) && !decide (e.2.2.1 > 100000)
def hintOk (h : HintT) : Bool := h.2.2.all (sameSeg h) && (decide (0 ≤ h.1 ∧ h.1 ≤ 100000) && (decide (0 ≤ h.2.1 ∧ h.2.1 ≤ 1000000) && dirOk h.2.2))
theorem impl_hintOk_eq (h : HintT) (hl : h.2.2.length < 1000000000) : impl_hintOk.f h = some (hintOk h) := by
 have key := all_loop (step := impl_hintOk.l0) h.2.2 (sameSeg h) (fun n => (h, h.2.2, (h.2.2.length : Int), (n : Int))) h (by omega)
  (fun rec n h1 => by
   have hw := w64_succ (show n + 1 < 9223372036854775808 by omega)
   have h0 : inB 0 h.2.2.length = true := by rw [show (0 : Int) = ((0 : Nat) : Int) from rfl, inB_nat]; simp; omega
   have r0 : rdA ([], 0, 0, 0, 0) h.2.2 0 = h.2.2.getD 0 ([], 0, 0, 0, 0) := by rw [show (0 : Int) = ((0 : Nat) : Int) from rfl, rdA_nat]
   simp only [impl_hintOk.l0, Int.ofNat_lt, h1, decide_true, cond_true, inB_nat, rdA_nat, getD_lt h1, h0, r0, hw]
   unfold sameSeg
   cases (h.2.2[n].2.1 != (h.2.2.getD 0 ([], 0, 0, 0, 0)).2.1) <;> cases decide (h.2.2[n].2.2.1 > 100000) <;> rfl)
  (fun rec => by simp [impl_hintOk.l0])
 have key : lp impl_hintOk.l0 (h, h.2.2, (h.2.2.length : Int), 0) = _ := key
 unfold impl_hintOk.f hintOk
 rw [key, Option.bind_some]
 simp only [impl_in_eq, impl_DirOk_eq h.2.2 (by omega), Option.bind_some]
 cases h.2.2.all (sameSeg h)
 ·simp
 simp only [if_true, caseS_l, Bool.true_and]
 cases decide (0 ≤ h.1 ∧ h.1 ≤ 100000) <;> cases decide (0 ≤ h.2.1 ∧ h.2.1 ≤ 1000000) <;> simp [impl_DirOk_eq h.2.2 (show h.2.2.length < 2 ^ 62 by omega)]
theorem spec_l10Ok_eq (h : HintT) (hl : h.2.2.length < 1000000000) : spec_l10Ok.f h = some (hintOk h) := by
 have key := all_loop (step := spec_l10Ok.l0) h.2.2 (sameSeg h) (fun n => (h, (n : Int))) () (by omega)
  (fun rec n h1 => by
   have hw := w64_succ (show n + 1 < 9223372036854775808 by omega)
   have h0 : inB 0 h.2.2.length = true := by rw [show (0 : Int) = ((0 : Nat) : Int) from rfl, inB_nat]; simp; omega
   have r0 : rdA ([], 0, 0, 0, 0) h.2.2 0 = h.2.2.getD 0 ([], 0, 0, 0, 0) := by rw [show (0 : Int) = ((0 : Nat) : Int) from rfl, rdA_nat]
   simp only [spec_l10Ok.l0, Int.ofNat_lt, h1, decide_true, cond_true, inB_nat, rdA_nat, getD_lt h1, h0, r0, hw]
   unfold sameSeg
   cases (h.2.2[n].2.1 != (h.2.2.getD 0 ([], 0, 0, 0, 0)).2.1) <;> cases decide (h.2.2[n].2.2.1 > 100000) <;> rfl)
  (fun rec => by simp [spec_l10Ok.l0])
 have key : lp spec_l10Ok.l0 (h, 0) = _ := key
 unfold spec_l10Ok.f hintOk
 rw [key]
 simp only [spec_l1In_eq, spec_DirOk_eq h.2.2 (by omega), Option.bind_some]
 cases h.2.2.all (sameSeg h) <;> cases decide (0 ≤ h.1 ∧ h.1 ≤ 100000) <;> cases decide (0 ≤ h.2.1 ∧ h.2.1 ≤ 1000000) <;> cases dirOk h.2.2 <;> rfl
def entT (e : EntryT) : List UInt8 := varT (e.1.length : Int) ++ e.1 ++ varT e.2.1 ++ varT e.2.2.1 ++ varT e.2.2.2.1 ++ varT e.2.2.2.2
def hintBd (h : HintT) : List UInt8 := varT h.1 ++ varT h.2.1 ++ varT (h.2.2.length : Int) ++ (h.2.2.map entT).flatten
def showHint (h : HintT) : List UInt8 := if hintOk h = false then [] else fix4 (crcT (hintBd h)) ++ hintBd h
theorem entry_key {e : EntryT} (h : entryOk e = true) : e.1.length ≤ 8 := by
 unfold entryOk keyOk at h
 simp only [Bool.and_eq_true, decide_eq_true_eq] at h
 omega
theorem riseE_mem : ∀ (l : List EntryT) (p : Option (List UInt8)), riseE p l = true → ∀ e ∈ l, entryOk e = true
 | [], _, _, e, he => by simp at he
 | x :: l, p, h, e, he => by
  simp only [riseE, Bool.and_eq_true] at h
  rcases List.mem_cons.1 he with c | he
  ·subst c; exact h.1
  ·exact riseE_mem l _ h.2.2 e he
theorem dirOk_mem {l : List EntryT} (h : dirOk l = true) : l.length ≤ 20 ∧ ∀ e ∈ l, entryOk e = true := by
 unfold dirOk at h
 simp only [Bool.and_eq_true, decide_eq_true_eq] at h
 exact ⟨h.2, riseE_mem l none h.1⟩
theorem entT_len {e : EntryT} (h : e.1.length ≤ 8) : (entT e).length ≤ 43 := by
 unfold entT
 have := varT_len (e.1.length : Int)
 have := varT_len e.2.1
 have := varT_len e.2.2.1
 have := varT_len e.2.2.2.1
 have := varT_len e.2.2.2.2
 simp only [List.length_append]; omega
theorem entsT_len : ∀ {l : List EntryT}, (∀ e ∈ l, e.1.length ≤ 8) → ((l.map entT).flatten).length ≤ 43 * l.length
 | [], _ => by simp
 | e :: l, h => by
  have h1 := entT_len (h e List.mem_cons_self)
  have h2 := entsT_len (l := l) fun x hx => h x (List.mem_cons_of_mem _ hx)
  rw [List.map_cons, List.flatten_cons, List.length_append, List.length_cons]; omega
theorem hint_parts {h : HintT} (k : hintOk h = true) : h.2.2.length ≤ 20 ∧ ∀ e ∈ h.2.2, e.1.length ≤ 8 := by
 unfold hintOk at k
 simp only [Bool.and_eq_true] at k
 have := dirOk_mem k.2.2.2
 exact ⟨this.1, fun e he => entry_key (this.2 e he)⟩
theorem hintB_len {h : HintT} (k : hintOk h = true) : (hintBd h).length ≤ 1000 := by
 obtain ⟨k1, k2⟩ := hint_parts k
 have := entsT_len k2
 have := varT_len h.1
 have := varT_len h.2.1
 have := varT_len (h.2.2.length : Int)
 unfold hintBd
 simp only [List.length_append]; omega
theorem showHint_len (h : HintT) : (showHint h).length ≤ 1004 := by
 unfold showHint; split
 ·simp
 ·rename_i k
  have := hintB_len (by simpa using k)
  have := fix4_len (crcT (hintBd h))
  rw [List.length_append]; omega
theorem impl_ShowHint_eq (h : HintT) (hl : h.2.2.length < 1000000000) : impl_ShowHint.f h = some (showHint h) := by
 unfold impl_ShowHint.f showHint
 rw [impl_hintOk_eq h hl, Option.bind_some]
 rcases Bool.eq_false_or_eq_true (hintOk h) with k | k
 rotate_left
 ·simp [k]
 obtain ⟨k1, k2⟩ := hint_parts k
 have hB := hintB_len k
 have hf := fix4_len (crcT (hintBd h))
 have v1 := varT_len h.1
 have v2 := varT_len h.2.1
 have v3 := varT_len (h.2.2.length : Int)
 have e0 : impl_vars.f [h.1, h.2.1, (h.2.2.length : Int)] = some (varT h.1 ++ varT h.2.1 ++ varT (h.2.2.length : Int)) := by
  rw [impl_vars_eq _ (by simp)]; simp
 have key := lp_up (step := impl_ShowHint.l0) (fun n (acc : List UInt8) => (acc, h.2.2, (h.2.2.length : Int), (n : Int))) h.2.2.length (fun n acc => acc ++ ((h.2.2.drop n).map entT).flatten) (fun n acc => acc.length ≤ 21 + 43 * n)
  (fun rec n acc hn ha ih => by
   rcases Nat.lt_or_ge n h.2.2.length with h1 | h1
   ·have hw := w64_succ (show n + 1 < 9223372036854775808 by omega)
    have hk := k2 _ (List.getElem_mem h1)
    have he := entT_len hk
    have ih := ih (acc ++ entT h.2.2[n]) h1 (by rw [List.length_append]; omega)
    have e1 : impl_vars.f [h.2.2[n].2.1, h.2.2[n].2.2.1, h.2.2[n].2.2.2.1, h.2.2[n].2.2.2.2] = some (varT h.2.2[n].2.1 ++ varT h.2.2[n].2.2.1 ++ varT h.2.2[n].2.2.2.1 ++ varT h.2.2[n].2.2.2.2) := by
     rw [impl_vars_eq _ (by simp)]; simp
    have e2 : (varT (h.2.2[n].1.length : Int) ++ h.2.2[n].1) ++ (varT h.2.2[n].2.1 ++ varT h.2.2[n].2.2.1 ++ varT h.2.2[n].2.2.2.1 ++ varT h.2.2[n].2.2.2.2) = entT h.2.2[n] := by
     unfold entT; simp only [List.append_assoc]
    have e3 : (varT (h.2.2[n].1.length : Int) ++ h.2.2[n].1).length + (varT h.2.2[n].2.1 ++ varT h.2.2[n].2.2.1 ++ varT h.2.2[n].2.2.2.1 ++ varT h.2.2[n].2.2.2.2).length ≤ 1000000000000000 := by
     rw [← List.length_append, e2]; omega
    simp only [impl_ShowHint.l0, Int.ofNat_lt, h1, decide_true, cond_true, inB_nat, rdA_nat, getD_lt h1, impl_textOf_eq h.2.2[n].1 (show h.2.2[n].1.length < 2 ^ 62 by omega), e1, Option.bind_some, lim63 e3, e2, lim63 (show acc.length + (entT h.2.2[n]).length ≤ 1000000000000000 by omega), hw, ih]
    rw [List.drop_eq_getElem_cons h1, List.map_cons, List.flatten_cons, List.append_assoc]
   ·have : n = h.2.2.length := by omega
    subst this
    simp [impl_ShowHint.l0])
  (by omega) 0 (varT h.1 ++ varT h.2.1 ++ varT (h.2.2.length : Int)) (Nat.zero_le _) (by simp only [List.length_append]; omega)
 have key : lp impl_ShowHint.l0 (varT h.1 ++ varT h.2.1 ++ varT (h.2.2.length : Int), h.2.2, (h.2.2.length : Int), 0) = some (hintBd h) := by rw [show (0 : Int) = ((0 : Nat) : Int) from rfl, key]; rfl
 simp only [k, Bool.not_true, cond_false, e0, Option.bind_some, key, impl_Crc_eq (hintBd h) (by omega), impl_Fixed_eq, lim63 (show (fix4 (crcT (hintBd h))).length + (hintBd h).length ≤ 1000000000000000 by omega), cond_true, Bool.true_eq_false, if_false]
theorem spec_ShowHint_eq (h : HintT) (hl : h.2.2.length < 1000000000) : spec_ShowHint.f h = some (showHint h) := by
 unfold spec_ShowHint.f showHint
 rw [spec_l10Ok_eq h hl, Option.bind_some]
 rcases Bool.eq_false_or_eq_true (hintOk h) with k | k
 rotate_left
 ·simp [k]
 obtain ⟨k1, k2⟩ := hint_parts k
 have hB := hintB_len k
 have hf := fix4_len (crcT (hintBd h))
 have hr := crcT_range (hintBd h)
 have v1 := varT_len h.1
 have v2 := varT_len h.2.1
 have v3 := varT_len (h.2.2.length : Int)
 have key := lp_up (step := spec_ShowHint.l0) (fun n (acc : List UInt8) => (h, acc, (n : Int))) h.2.2.length (fun n acc => acc ++ ((h.2.2.drop n).map entT).flatten) (fun n acc => acc.length ≤ 21 + 43 * n)
  (fun rec n acc hn ha ih => by
   rcases Nat.lt_or_ge n h.2.2.length with h1 | h1
   ·have hw := w64_succ (show n + 1 < 9223372036854775808 by omega)
    have hk := k2 _ (List.getElem_mem h1)
    have he := entT_len hk
    have ih := ih (acc ++ entT h.2.2[n]) h1 (by rw [List.length_append]; omega)
    have w1 := varT_len (h.2.2[n].1.length : Int)
    have w2 := varT_len h.2.2[n].2.1
    have w3 := varT_len h.2.2[n].2.2.1
    have w4 := varT_len h.2.2[n].2.2.2.1
    have w5 := varT_len h.2.2[n].2.2.2.2
    have e2 : acc ++ varT (h.2.2[n].1.length : Int) ++ h.2.2[n].1 ++ varT h.2.2[n].2.1 ++ varT h.2.2[n].2.2.1 ++ varT h.2.2[n].2.2.2.1 ++ varT h.2.2[n].2.2.2.2 = acc ++ entT h.2.2[n] := by
     unfold entT; simp only [List.append_assoc]
    simp only [spec_ShowHint.l0, Int.ofNat_lt, h1, decide_true, cond_true, inB_nat, rdA_nat, getD_lt h1, spec_Var_eq, Option.bind_some,
     lim63 (show acc.length + (varT (h.2.2[n].1.length : Int)).length ≤ 1000000000000000 by omega),
     lim63 (show (acc ++ varT (h.2.2[n].1.length : Int)).length + h.2.2[n].1.length ≤ 1000000000000000 by simp only [List.length_append]; omega),
     lim63 (show (acc ++ varT (h.2.2[n].1.length : Int) ++ h.2.2[n].1).length + (varT h.2.2[n].2.1).length ≤ 1000000000000000 by simp only [List.length_append]; omega),
     lim63 (show (acc ++ varT (h.2.2[n].1.length : Int) ++ h.2.2[n].1 ++ varT h.2.2[n].2.1).length + (varT h.2.2[n].2.2.1).length ≤ 1000000000000000 by simp only [List.length_append]; omega),
     lim63 (show (acc ++ varT (h.2.2[n].1.length : Int) ++ h.2.2[n].1 ++ varT h.2.2[n].2.1 ++ varT h.2.2[n].2.2.1).length + (varT h.2.2[n].2.2.2.1).length ≤ 1000000000000000 by simp only [List.length_append]; omega),
     lim63 (show (acc ++ varT (h.2.2[n].1.length : Int) ++ h.2.2[n].1 ++ varT h.2.2[n].2.1 ++ varT h.2.2[n].2.2.1 ++ varT h.2.2[n].2.2.2.1).length + (varT h.2.2[n].2.2.2.2).length ≤ 1000000000000000 by simp only [List.length_append]; omega), e2, hw, ih]
    rw [List.drop_eq_getElem_cons h1, List.map_cons, List.flatten_cons, List.append_assoc]
   ·have : n = h.2.2.length := by omega
    subst this
    simp [spec_ShowHint.l0])
  (by omega) 0 (varT h.1 ++ varT h.2.1 ++ varT (h.2.2.length : Int)) (Nat.zero_le _) (by simp only [List.length_append]; omega)
 have key : lp spec_ShowHint.l0 (h, varT h.1 ++ varT h.2.1 ++ varT (h.2.2.length : Int), 0) = some (hintBd h) := by rw [show (0 : Int) = ((0 : Nat) : Int) from rfl, key]; rfl
 simp only [k, Bool.not_true, cond_false, spec_Var_eq, lim63 (show (varT h.1).length + (varT h.2.1).length ≤ 1000000000000000 by omega), lim63 (show (varT h.1 ++ varT h.2.1).length + (varT (h.2.2.length : Int)).length ≤ 1000000000000000 by simp only [List.length_append]; omega), Option.bind_some, key, spec_Crc_eq (hintBd h) (by omega), spec_Fixed_eq _ (show crcT (hintBd h) < 9223372036854775808 by omega), lim63 (show (fix4 (crcT (hintBd h))).length + (hintBd h).length ≤ 1000000000000000 by omega), cond_true, Bool.true_eq_false, if_false]
abbrev PlaceT := Int × SpotT
theorem impl_placed_eq (id : Int) (l : List SpotT) (hl : l.length < 1000000000) : impl_placed.f id l = some (l.map fun x => ((id, x) : PlaceT)) := by
 have key := lp_up (step := impl_placed.l0) (fun n (acc : List PlaceT) => (id, acc, l, (l.length : Int), (n : Int))) l.length (fun n acc => acc ++ (l.drop n).map fun x => ((id, x) : PlaceT)) (fun n acc => acc.length = n)
  (fun rec n acc hn ha ih => by
   rcases Nat.lt_or_ge n l.length with h | h
   ·have hw := w64_succ (show n + 1 < 9223372036854775808 by omega)
    have hb : ∀ {α : Type} (x : α), decide ((acc.length + [x].length) * 88 ≤ 140737488355328) = true := fun x => decide_eq_true (by show (acc.length + 1) * 88 ≤ _; omega)
    have ih := ih (acc ++ [(id, l[n])]) h (by rw [List.length_append, ha]; rfl)
    simp only [impl_placed.l0, Int.ofNat_lt, h, decide_true, cond_true, inB_nat, rdA_nat, getD_lt h, hb, hw, ih]
    rw [List.drop_eq_getElem_cons h, List.map_cons, List.append_assoc]; rfl
   ·have : n = l.length := by omega
    subst this
    simp [impl_placed.l0])
  (by omega) 0 [] (Nat.zero_le _) rfl
 have key : lp impl_placed.l0 (id, [], l, (l.length : Int), 0) = _ := key
 unfold impl_placed.f
 rw [key, Option.bind_some]
 simp
def fitsR (r : RecT) (l : List RecT) : Bool := (r.2.2.2.2.1 == (l.length : Int)) && (r.2.2.2.2.2 == sumOf l)
theorem impl_fits_eq (r : RecT) (l : List PlaceT) (hl : l.length < 1000000000) : impl_fits.f r l = some (fitsR r (l.map (·.2.2.2))) := by
 have key := lp_up (step := impl_fits.l0) (fun n (acc : List RecT) => (r, acc, l, (l.length : Int), (n : Int))) l.length (fun n acc => (r, acc ++ (l.drop n).map (·.2.2.2))) (fun n acc => acc.length = n)
  (fun rec n acc hn ha ih => by
   rcases Nat.lt_or_ge n l.length with h | h
   ·have hw := w64_succ (show n + 1 < 9223372036854775808 by omega)
    have hb : ∀ {α : Type} (x : α), decide ((acc.length + [x].length) * 64 ≤ 140737488355328) = true := fun x => decide_eq_true (lim64R (by omega))
    have ih := ih (acc ++ [l[n].2.2.2]) h (by rw [List.length_append, ha]; rfl)
    simp only [impl_fits.l0, Int.ofNat_lt, h, decide_true, cond_true, inB_nat, rdA_nat, getD_lt h, hb, hw, ih]
    rw [List.drop_eq_getElem_cons h, List.map_cons, List.append_assoc]; rfl
   ·have : n = l.length := by omega
    subst this
    simp [impl_fits.l0])
  (by omega) 0 [] (Nat.zero_le _) rfl
 have key : lp impl_fits.l0 (r, [], l, (l.length : Int), 0) = _ := key
 unfold impl_fits.f fitsR
 rw [key, Option.bind_some, List.drop_zero, List.nil_append]
 simp only [impl_SumOf_eq (l.map (·.2.2.2)) (by rw [List.length_map]; omega), Option.bind_some]
 cases (r.2.2.2.2.1 == ((l.map (·.2.2.2)).length : Int)) <;> rfl
abbrev zSpot : SpotT := (0, 0, 0, 0, [], [], 0, 0)
def entS (id : Int) (x : SpotT) : EntryT := (x.2.2.2.2.1, id, x.1, x.2.1, x.2.2.2.1)
def riseS (mark : Int) : Option (List UInt8) → List SpotT → Bool
 | _, [] => true
 | p, x :: r => (x.2.2.1 == 4) && (!decide (x.2.2.2.1 > mark) && ((match p with | none => true | some q => Op.bytesLess q x.2.2.2.2.1) && riseS mark (some x.2.2.2.2.1) r))
def beforeS (l : List SpotT) : Nat → Option (List UInt8)
 | 0 => none
 | n + 1 => some (l.getD n zSpot).2.2.2.2.1
theorem beforeS_succ (l : List SpotT) (n : Nat) (h : n < l.length) : beforeS l (n + 1) = some l[n].2.2.2.2.1 := by
 show some (l.getD n zSpot).2.2.2.2.1 = _
 rw [getD_lt h]
theorem impl_HintOf_l0 (id e mark : Int) (l : List SpotT) (k : Nat) (hk : k ≤ l.length) (hl : l.length < 1000000000) :
  lp impl_HintOf.l0 (id, (0, 0, []), l, (e, mark, []), l.take k, ((l.take k).length : Int), 0) = some (if riseS mark none (l.take k) = true then .inl ((0, 0, []), (e, mark, (l.take k).map (entS id))) else .inr ((0, 0, []), false)) := by
 have hlen : (l.take k).length = k := by rw [List.length_take]; omega
 have key := lp_up (step := impl_HintOf.l0) (fun n (acc : List EntryT) => (id, (0, 0, []), l, (e, mark, acc), l.take k, ((l.take k).length : Int), (n : Int))) k (fun n acc => if riseS mark (beforeS l n) ((l.take k).drop n) = true then .inl ((0, 0, []), (e, mark, acc ++ ((l.take k).drop n).map (entS id))) else .inr ((0, 0, []), false)) (fun n acc => acc.length = n)
  (fun rec n acc hn ha ih => by
   rcases Nat.lt_or_ge n k with h | h
   ·have hw := w64_succ (show n + 1 < 9223372036854775808 by omega)
    have h1 : n < (l.take k).length := by omega
    have h2 : n < l.length := by omega
    have hx : (l.take k)[n] = l[n] := List.getElem_take
    have hb : ∀ {α : Type} (x : α), decide ((acc.length + [x].length) * 48 ≤ 140737488355328) = true := fun x => decide_eq_true (lim48 (by omega))
    have ih := ih (acc ++ [entS id l[n]]) h (by rw [List.length_append, ha]; rfl)
    rw [beforeS_succ l n h2] at ih
    rw [List.drop_eq_getElem_cons h1, hx]
    simp only [riseS, impl_HintOf.l0, Int.ofNat_lt, h1, decide_true, cond_true, inB_nat, rdA_nat, getD_lt h1, hx]
    rcases Bool.eq_false_or_eq_true (l[n].2.2.1 == 4) with k1 | k1
    rotate_left
    ·simp only [bne, k1, Bool.not_false, cond_true, Option.bind_some, caseS_r, Bool.false_and, Bool.false_eq_true, if_false]
    rcases Bool.eq_false_or_eq_true (decide (l[n].2.2.2.1 > mark)) with k2 | k2
    ·simp only [bne, k1, k2, Bool.not_true, Bool.not_false, cond_false, cond_true, Option.bind_some, caseS_r, Bool.false_and, Bool.true_and, Bool.false_eq_true, if_false]
    simp only [bne, k1, k2, Bool.not_true, Bool.not_false, cond_false, Bool.true_and, List.map_cons]
    cases n with
    | zero =>
     have z : ¬ ((0 : Nat) : Int) > 0 := by omega
     simp only [z, decide_false, cond_false, Option.bind_some, caseS_l, hb, cond_true, hw, beforeS, Bool.true_and]
     rw [show acc ++ entS id l[0] :: List.map (entS id) (List.drop (0 + 1) (List.take k l)) = acc ++ [entS id l[0]] ++ List.map (entS id) (List.drop (0 + 1) (List.take k l)) by rw [List.append_assoc]; rfl]
     exact ih
    | succ m =>
     have z : ((m + 1 : Nat) : Int) > 0 := by omega
     have hm : m < l.length := by omega
     have z2 : w64 (((m + 1 : Nat) : Int) - 1) = (m : Int) := by rw [w64_id (by omega) (by omega)]; omega
     rw [beforeS_succ l m hm]
     simp only [z, decide_true, cond_true, z2, inB_nat, hm, rdA_nat, getD_lt hm]
     rcases Bool.eq_false_or_eq_true (Op.bytesLess l[m].2.2.2.2.1 l[m + 1].2.2.2.2.1) with k3 | k3
     ·simp only [k3, Bool.not_true, cond_false, Option.bind_some, caseS_l, hb, cond_true, hw, Bool.true_and]
      rw [show acc ++ entS id l[m + 1] :: List.map (entS id) (List.drop (m + 1 + 1) (List.take k l)) = acc ++ [entS id l[m + 1]] ++ List.map (entS id) (List.drop (m + 1 + 1) (List.take k l)) by rw [List.append_assoc]; rfl]
      exact ih
     ·simp only [k3, Bool.not_false, cond_true, Option.bind_some, caseS_r, Bool.false_and, Bool.false_eq_true, if_false]
   ·have : n = k := by omega
    subst this
    have hd : (l.take n).drop n = [] := by rw [List.drop_eq_nil_iff]; omega
    rw [hd]
    simp [impl_HintOf.l0, riseS, hlen])
  (by omega) 0 [] (Nat.zero_le _) rfl
 have key : lp impl_HintOf.l0 (id, (0, 0, []), l, (e, mark, []), l.take k, ((l.take k).length : Int), 0) = _ := key
 rw [key, List.drop_zero, List.nil_append]; rfl
theorem spec_HintOf_l0 (id e mark : Int) (l : List SpotT) (h0 : 1 ≤ l.length) (hl : l.length < 1000000000) :
  lp spec_HintOf.l0 (id, (0, 0, []), l, (e, mark, []), [], 0) = some (if riseS mark none (l.take (l.length - 1)) = true then .inl ((0, 0, []), l, (e, mark, (l.take (l.length - 1)).map (entS id)), (l.take (l.length - 1)).map (·.2.2)) else .inr ((0, 0, []), false)) := by
 obtain ⟨k, hk⟩ : ∃ k, l.length = k + 1 := ⟨l.length - 1, by omega⟩
 have e1 : l.length - 1 = k := by omega
 rw [e1]
 have hlen : (l.take k).length = k := by rw [List.length_take]; omega
 have key := lp_up (step := spec_HintOf.l0) (fun n (a : List EntryT × List RecT) => (id, (0, 0, []), l, (e, mark, a.1), a.2, (n : Int))) k (fun n a => if riseS mark (beforeS l n) ((l.take k).drop n) = true then .inl ((0, 0, []), l, (e, mark, a.1 ++ ((l.take k).drop n).map (entS id)), a.2 ++ ((l.take k).drop n).map (·.2.2)) else .inr ((0, 0, []), false)) (fun n a => a.1.length = n ∧ a.2.length = n)
  (fun rec n a hn ha ih => by
   obtain ⟨acc, rs⟩ := a
   obtain ⟨ha, hr⟩ := ha
   simp only at ha hr
   rcases Nat.lt_or_ge n k with h | h
   ·have hw := w64_succ (show n + 1 < 9223372036854775808 by omega)
    have h1 : n < (l.take k).length := by omega
    have h2 : n < l.length := by omega
    have h3 : n + 1 < l.length := by omega
    have hx : (l.take k)[n] = l[n] := List.getElem_take
    have hb : ∀ {α : Type} (x : α), decide ((acc.length + [x].length) * 48 ≤ 140737488355328) = true := fun x => decide_eq_true (lim48 (by omega))
    have hb2 : ∀ {α : Type} (x : α), decide ((rs.length + [x].length) * 64 ≤ 140737488355328) = true := fun x => decide_eq_true (lim64R (by omega))
    have ih := ih (acc ++ [entS id l[n]], rs ++ [l[n].2.2]) h ⟨by rw [List.length_append, ha]; rfl, by rw [List.length_append, hr]; rfl⟩
    simp only at ih
    rw [beforeS_succ l n h2] at ih
    rw [List.drop_eq_getElem_cons h1, hx]
    simp only [riseS, spec_HintOf.l0, hw, Int.ofNat_lt, h2, h3, decide_true, cond_true, inB_nat, rdA_nat, getD_lt h2]
    rcases Bool.eq_false_or_eq_true (l[n].2.2.1 == 4) with k1 | k1
    rotate_left
    ·simp only [bne, k1, Bool.not_false, cond_true, Option.bind_some, caseS_r, Bool.false_and, Bool.false_eq_true, if_false]
    rcases Bool.eq_false_or_eq_true (decide (l[n].2.2.2.1 > mark)) with k2 | k2
    ·simp only [bne, k1, k2, Bool.not_true, Bool.not_false, cond_false, cond_true, Option.bind_some, caseS_r, Bool.false_and, Bool.true_and, Bool.false_eq_true, if_false]
    simp only [bne, k1, k2, Bool.not_true, Bool.not_false, cond_false, Bool.true_and, List.map_cons]
    cases n with
    | zero =>
     have z : ¬ ((0 : Nat) : Int) > 0 := by omega
     simp only [z, decide_false, cond_false, Option.bind_some, caseS_l, hb, hb2, cond_true, inB_nat, h2, decide_true, rdA_nat, getD_lt h2, hw, beforeS, Bool.true_and]
     rw [show acc ++ entS id l[0] :: List.map (entS id) (List.drop (0 + 1) (List.take k l)) = acc ++ [entS id l[0]] ++ List.map (entS id) (List.drop (0 + 1) (List.take k l)) by rw [List.append_assoc]; rfl,
      show rs ++ l[0].2.2 :: List.map (·.2.2) (List.drop (0 + 1) (List.take k l)) = rs ++ [l[0].2.2] ++ List.map (·.2.2) (List.drop (0 + 1) (List.take k l)) by rw [List.append_assoc]; rfl]
     exact ih
    | succ m =>
     have z : ((m + 1 : Nat) : Int) > 0 := by omega
     have hm : m < l.length := by omega
     have z2 : w64 (((m + 1 : Nat) : Int) - 1) = (m : Int) := by rw [w64_id (by omega) (by omega)]; omega
     have hle : (Op.bytesLess l[m + 1].2.2.2.2.1 l[m].2.2.2.2.1 || l[m + 1].2.2.2.2.1 == l[m].2.2.2.2.1) = !Op.bytesLess l[m].2.2.2.2.1 l[m + 1].2.2.2.2.1 := leK_not _ _
     rw [beforeS_succ l m hm]
     simp only [z, decide_true, cond_true, z2, inB_nat, hm, rdA_nat, getD_lt hm, hle]
     rcases Bool.eq_false_or_eq_true (Op.bytesLess l[m].2.2.2.2.1 l[m + 1].2.2.2.2.1) with k3 | k3
     ·simp only [k3, Bool.not_true, cond_false, Option.bind_some, caseS_l, hb, hb2, cond_true, inB_nat, h2, decide_true, rdA_nat, getD_lt h2, hw, Bool.true_and]
      rw [show acc ++ entS id l[m + 1] :: List.map (entS id) (List.drop (m + 1 + 1) (List.take k l)) = acc ++ [entS id l[m + 1]] ++ List.map (entS id) (List.drop (m + 1 + 1) (List.take k l)) by rw [List.append_assoc]; rfl,
       show rs ++ l[m + 1].2.2 :: List.map (·.2.2) (List.drop (m + 1 + 1) (List.take k l)) = rs ++ [l[m + 1].2.2] ++ List.map (·.2.2) (List.drop (m + 1 + 1) (List.take k l)) by rw [List.append_assoc]; rfl]
      exact ih
     ·simp only [k3, Bool.not_false, cond_true, Option.bind_some, caseS_r, Bool.false_and, Bool.false_eq_true, if_false]
   ·have : n = k := by omega
    subst this
    have hd : (l.take n).drop n = [] := by rw [List.drop_eq_nil_iff]; omega
    have hw := w64_succ (show n + 1 < 9223372036854775808 by omega)
    rw [hd]
    simp [spec_HintOf.l0, riseS, hk, hw])
  (by omega) 0 ([], []) (Nat.zero_le _) ⟨rfl, rfl⟩
 have key : lp spec_HintOf.l0 (id, (0, 0, []), l, (e, mark, []), [], 0) = _ := key
 rw [key, List.drop_zero, List.nil_append, List.nil_append]; rfl
noncomputable def hintOf (id : Int) (t : List UInt8) : HintT × Bool :=
 let l := (scan t).1
 let z := l.getD (l.length - 1) zSpot
 if l.length = 0 ∨ (scan t).2 ≠ t.length ∨ ¬ (1 ≤ id ∧ id ≤ 100000) ∨ z.2.2.1 ≠ 5 ∨ fitsR z.2.2 ((l.take (l.length - 1)).map (·.2.2)) = false ∨ riseS z.2.2.2.1 none (l.take (l.length - 1)) = false then ((0, 0, []), false)
 else (((t.length : Int), z.2.2.2.1, (l.take (l.length - 1)).map (entS id)), true)
theorem hintOf_len (id : Int) (t : List UInt8) : (hintOf id t).1.2.2.length ≤ t.length := by
 have := (scan_len t).2
 unfold hintOf
 simp only
 split
 ·simp
 ·simp only [List.length_map, List.length_take]; omega
theorem segName_nil (id : Int) : (segName id == []) = !decide (1 ≤ id ∧ id ≤ 100000) := by
 unfold segName nameN
 by_cases h : 1 ≤ id ∧ id ≤ 100000
 ·simp [h]
 ·simp [h]
theorem impl_HintOf_eq (id : Int) (t : List UInt8) (ht : t.length < 100000000) : impl_HintOf.f id t = some (hintOf id t) := by
 have hs := scan_len t
 unfold impl_HintOf.f hintOf
 rw [impl_ScanRecs_eq t (by omega), Option.bind_some]
 generalize (scan t).1 = l at *
 generalize (scan t).2 = e at *
 simp only
 rcases Nat.eq_zero_or_pos l.length with h0 | h0
 ·have : decide (w64 (((0 : Nat) : Int) - 1) < 0) = true := by decide
  simp only [h0, this, cond_true, true_or, if_true]
 obtain ⟨k, hk⟩ : ∃ k, l.length = k + 1 := ⟨l.length - 1, by omega⟩
 have hw : w64 ((l.length : Int) - 1) = (k : Int) := by rw [w64_id (by omega) (by omega)]; omega
 have e1 : l.length - 1 = k := by omega
 have hkl : k < l.length := by omega
 have n0 : ¬ (k : Int) < 0 := by omega
 have n1 : (0 : Int) ≤ (k : Int) := by omega
 have n2 : (k : Int) ≤ (l.length : Int) := by omega
 have n3 : ¬ l.length = 0 := by omega
 rw [e1]
 simp only [hw, n0, n1, n2, n3, decide_false, decide_true, cond_false, Bool.and_self, cond_true, impl_in_eq, Option.bind_some, inB_nat, hkl, rdA_nat, Int.toNat_natCast, false_or]
 by_cases c1 : e = t.length
 rotate_left
 ·have d1 : ((e : Int) != (t.length : Int)) = true := by simp; omega
  simp only [d1, cond_true, c1, ne_eq, not_false_eq_true, true_or, if_true]
 have d1 : ((e : Int) != (t.length : Int)) = false := by simp; omega
 by_cases c2 : 1 ≤ id ∧ id ≤ 100000
 rotate_left
 ·simp only [d1, cond_false, c2, decide_false, Bool.not_false, cond_true, not_false_eq_true, true_or, or_true, if_true]
 by_cases c3 : (l.getD k zSpot).2.2.1 = 5
 rotate_left
 ·have d3 : ((l.getD k zSpot).2.2.1 != 5) = true := by simpa using c3
  simp only [d1, d3, cond_false, c2, decide_true, Bool.not_true, cond_true, and_self, c3, ne_eq, not_false_eq_true, true_or, or_true, if_true]
 have d3 : ((l.getD k zSpot).2.2.1 != 5) = false := by simpa using c3
 have hpl := impl_placed_eq id (l.take k) (by rw [List.length_take]; omega)
 have hft := impl_fits_eq (l.getD k zSpot).2.2 ((l.take k).map fun x => ((id, x) : PlaceT)) (by rw [List.length_map, List.length_take]; omega)
 have hmm : ((l.take k).map fun x => ((id, x) : PlaceT)).map (·.2.2.2) = (l.take k).map (·.2.2) := by rw [List.map_map]; rfl
 rw [hmm] at hft
 subst c1
 simp only [d1, d3, cond_false, c2, decide_true, Bool.not_true, and_self, hpl, Option.bind_some, hft]
 simp only [c3, ne_eq, not_true_eq_false, false_or]
 rcases Bool.eq_false_or_eq_true (fitsR (l.getD k zSpot).2.2 ((l.take k).map (·.2.2))) with c4 | c4
 rotate_left
 ·simp only [c4, Bool.not_false, cond_true, true_or, if_true]
 simp only [c4, Bool.not_true, cond_false, Bool.true_eq_false, false_or, impl_HintOf_l0 id (t.length : Int) (l.getD k zSpot).2.2.2.1 l k (by omega) (by omega), Option.bind_some]
 rcases Bool.eq_false_or_eq_true (riseS (l.getD k zSpot).2.2.2.1 none (l.take k)) with c5 | c5
 ·simp only [c5, if_true, caseS_l, Bool.true_eq_false, if_false]
 ·simp only [c5, Bool.false_eq_true, if_false, caseS_r, if_true]
theorem spec_HintOf_eq (id : Int) (t : List UInt8) (ht : t.length < 100000000) : spec_HintOf.f id t = some (hintOf id t) := by
 have hs := scan_len t
 unfold spec_HintOf.f hintOf
 rw [spec_ScanRecs_eq t (by omega), Option.bind_some]
 generalize (scan t).1 = l at *
 generalize (scan t).2 = e at *
 simp only
 by_cases c1 : e = t.length
 rotate_left
 ·have d1 : ((e : Int) != (t.length : Int)) = true := by simp; omega
  simp only [d1, cond_true, c1, ne_eq, not_false_eq_true, true_or, or_true, if_true]
 have d1 : ((e : Int) != (t.length : Int)) = false := by simp; omega
 rcases Nat.eq_zero_or_pos l.length with h0 | h0
 ·have d2 : (((0 : Nat) : Int) == 0) = true := rfl
  simp only [d1, h0, d2, cond_false, cond_true, true_or, if_true]
 obtain ⟨k, hk⟩ : ∃ k, l.length = k + 1 := ⟨l.length - 1, by omega⟩
 have hw : w64 ((l.length : Int) - 1) = (k : Int) := by rw [w64_id (by omega) (by omega)]; omega
 have e1 : l.length - 1 = k := by omega
 have hkl : k < l.length := by omega
 have n3 : ¬ l.length = 0 := by omega
 have d2 : ((l.length : Int) == 0) = false := beq_eq_false_iff_ne.2 (by omega)
 have hl0 := spec_HintOf_l0 id (t.length : Int) (l.getD k zSpot).2.2.2.1 l (by omega) (by omega)
 rw [e1] at hl0 ⊢
 subst c1
 simp only [d1, d2, n3, cond_false, hw, inB_nat, hkl, decide_true, cond_true, rdA_nat, spec_SegName_eq, segName_nil, Option.bind_some, false_or, ne_eq, not_true_eq_false]
 by_cases c3 : (l.getD k zSpot).2.2.1 = 5
 rotate_left
 ·have d3 : ((l.getD k zSpot).2.2.1 != 5) = true := by simpa using c3
  simp only [d3, cond_true, c3, not_false_eq_true, true_or, or_true, if_true]
 have d3 : ((l.getD k zSpot).2.2.1 != 5) = false := by simpa using c3
 by_cases c2 : 1 ≤ id ∧ id ≤ 100000
 rotate_left
 ·simp only [d3, cond_false, c2, decide_false, Bool.not_false, cond_true, not_false_eq_true, true_or, or_true, if_true]
 simp only [d3, cond_false, c2, decide_true, Bool.not_true, and_self, not_true_eq_false, false_or, hl0, Option.bind_some]
 simp only [c3, not_true_eq_false, false_or]
 rcases Bool.eq_false_or_eq_true (riseS (l.getD k zSpot).2.2.2.1 none (l.take k)) with c5 | c5
 rotate_left
 ·simp only [c5, Bool.false_eq_true, if_false, caseS_r, or_true, if_true]
 have hlen : ((l.take k).map (·.2.2)).length = k := by rw [List.length_map, List.length_take]; omega
 simp only [c5, if_true, caseS_l, Bool.true_eq_false, or_false, hw, inB_nat, hkl, decide_true, cond_true, rdA_nat, spec_SumOf_eq ((l.take k).map (·.2.2)) (by omega), Option.bind_some]
 unfold fitsR
 rcases Bool.eq_false_or_eq_true ((l.getD k zSpot).2.2.2.2.2.2.1 == (((l.take k).map (·.2.2)).length : Int)) with c6 | c6
 rotate_left
 ·simp only [bne, c6, Bool.not_false, cond_true, Bool.false_and, if_true]
 rcases Bool.eq_false_or_eq_true ((l.getD k zSpot).2.2.2.2.2.2.2 == sumOf ((l.take k).map (·.2.2))) with c7 | c7
 rotate_left
 ·simp only [bne, c6, c7, Bool.not_false, Bool.not_true, cond_false, cond_true, Bool.true_and, if_true]
 simp only [bne, c6, c7, Bool.not_true, cond_false, Bool.true_and, Bool.true_eq_false, if_false]
def sNew (n : List UInt8) (w : WorkT) : WorkT := sstep (dCreate n) (sstep (dGone n) w)
theorem dk_sNew {w : WorkT} (h : diskOk w.1 = true) (n : List UInt8) : diskOk (sNew n w).1 = true :=
 dk_sstep (op := dCreate n) (dk_sstep (op := dGone n) h fun k => dk_Gone k n) fun k => dk_Create k n
theorem l1PickInt_ok {c : CurT} (h : Cur c) (l : List Int) (hl : 0 < l.length) : ∃ x c', spec_l1PickInt.f c l = some (x, c') ∧ x ∈ l ∧ Cur c' := by
 obtain ⟨x, c', e, h1, h2, _, h'⟩ := l1Below_ok h (l.length : Int)
 have h2 := h2 (by omega)
 unfold spec_l1PickInt.f
 obtain ⟨n, rfl⟩ : ∃ n : Nat, x = (n : Int) := ⟨x.toNat, by omega⟩
 have hn : n < l.length := by omega
 simp only [e, Option.bind_some, inB_nat, hn, decide_true, cond_true, rdA_nat, getD_lt hn]
 exact ⟨_, _, rfl, List.getElem_mem hn, h'⟩
theorem l3Name_ok {c : CurT} (h : Cur c) : ∃ x c', spec_l3Name.f c = some (x, c') ∧ x.length ≤ 5 ∧ Cur c' := by
 obtain ⟨x, c', e, hx, h'⟩ := l1Pick_ok h ([[108, 105, 118, 101], [115, 101, 103, 49], [115, 101, 103, 50], [115, 101, 103, 51], [116, 101, 109, 112], [104, 105, 110, 116, 49], [120], [97, 57]] : List (List UInt8)) (by decide)
 unfold spec_l3Name.f
 rw [e]
 refine ⟨x, c', rfl, ?_, h'⟩
 simp only [List.mem_cons, List.not_mem_nil, or_false] at hx
 rcases hx with rfl | rfl | rfl | rfl | rfl | rfl | rfl | rfl <;> decide
theorem l3Disk_ok {c : CurT} (h : Cur c) : ∃ d c', spec_l3Disk.f c = some (d, c') ∧ diskOk d = true ∧ Cur c' := by
 obtain ⟨n, c1, e1, a1, b1, _, h1⟩ := l1Below_ok h 12
 have b1 := b1 (by omega)
 obtain ⟨m, rfl⟩ : ∃ m : Nat, n = (m : Int) := ⟨n.toNat, by omega⟩
 have e0 : spec_DiskNew.f 200 = some (([], 200, -1, false) : DiskT) := by
  unfold spec_DiskNew.f
  rw [spec_l1In_eq]; rfl
 have hd0 : diskOk (([], 200, -1, false) : DiskT) = true := by rw [diskOk_iff]; exact ⟨by decide, by decide, by decide, by decide, by simp, List.Pairwise.nil⟩
 have key := down_ok (step := spec_l3Disk.l0) (fun k (s : CurT × DiskT) => (s.1, ([], 0, 0, false), s.2, (k : Int))) (fun k s => Cur s.1 ∧ diskOk s.2 = true ∧ k ≤ m) (fun b => Cur b.1 ∧ diskOk b.2.2 = true)
  (fun rec s hi => ⟨(s.1, ([], 0, 0, false), s.2), by simp [spec_l3Disk.l0], hi.1, hi.2.1⟩)
  (fun rec k s hi => by
   obtain ⟨s, d⟩ := s
   obtain ⟨hi1, hi2, hi3⟩ := hi
   simp only at hi1 hi2 hi3
   obtain ⟨nm, c2, f1, g1, h2⟩ := l3Name_ok hi1
   obtain ⟨v, c3, f2, _, _, _, h3⟩ := l1Below_ok h2 6
   have e0 : ((k + 1 : Nat) : Int) > 0 := by omega
   have hw := down1 (show k < 2 ^ 60 by omega)
   have hd : dlim d := dl_lim (dl_dk hi2) (by omega)
   have ec : spec_Create.f d nm = some (dCreate nm d) := spec_Create_eq d nm hd (by omega)
   have ey : spec_Sync.f d nm = some (dSync nm d) := spec_Sync_eq d nm hd
   simp only [spec_l3Disk.l0, e0, decide_true, cond_true, f1, f2, Option.bind_some]
   cases d0 : (v == 0)
   rotate_left
   ·simp only [cond_true, Option.bind_some, ec, hw]
    exact ⟨(c3, (dCreate nm d).1), ⟨h3, dk_Create hi2 nm, by omega⟩, rfl⟩
   cases d1 : (v == 1)
   rotate_left
   ·simp only [cond_true, cond_false, Option.bind_some, ec, hw]
    exact ⟨(c3, (dCreate nm d).1), ⟨h3, dk_Create hi2 nm, by omega⟩, rfl⟩
   have ap : ∃ t c4, spec_l1Text.f c3 9 = some (t, c4) ∧ Cur c4 ∧ spec_Append.f d nm t = some (dAppend nm t d) := by
    obtain ⟨t, c4, f3, g3, h4⟩ := l1Text_ok h3 9 (by omega) (by omega)
    exact ⟨t, c4, f3, h4, spec_Append_eq d nm t hd (by omega)⟩
   obtain ⟨t, c4, f3, h4, ea⟩ := ap
   simp only [cond_false, Option.bind_some]
   cases d2 : (v == 2)
   rotate_left
   ·simp only [cond_true, cond_false, Option.bind_some, f3, ea, hw]
    exact ⟨(c4, (dAppend nm t d).1), ⟨h4, dk_Append hi2 nm t, by omega⟩, rfl⟩
   simp only [cond_false]
   cases d3 : (v == 3)
   rotate_left
   ·simp only [cond_true, cond_false, Option.bind_some, f3, ea, hw]
    exact ⟨(c4, (dAppend nm t d).1), ⟨h4, dk_Append hi2 nm t, by omega⟩, rfl⟩
   simp only [cond_false, Option.bind_some]
   cases d4 : (v == 4)
   rotate_left
   ·simp only [cond_true, cond_false, Option.bind_some, ey, hw]
    exact ⟨(c3, (dSync nm d).1), ⟨h3, dk_Sync hi2 nm, by omega⟩, rfl⟩
   ·obtain ⟨n2, c5, f5, g5, h5⟩ := l3Name_ok h3
    have er : spec_Rename.f d nm n2 = some (dRename nm n2 d) := spec_Rename_eq d nm n2 hd (by omega)
    simp only [cond_false, Option.bind_some, f5, er, hw]
    exact ⟨(c5, (dRename nm n2 d).1), ⟨h5, dk_Rename hi2 nm n2, by omega⟩, rfl⟩)
  m (c1, ([], 200, -1, false)) ⟨h1, hd0, Nat.le_refl _⟩ (by omega)
 obtain ⟨⟨c5, z, d⟩, e5, h5, hd⟩ := key
 have e5 : lp spec_l3Disk.l0 (c1, ([], 0, 0, false), ([], 200, -1, false), (m : Int)) = some (c5, z, d) := e5
 unfold spec_l3Disk.f
 simp only [e0, e1, Option.bind_some, e5]
 exact ⟨d, c5, rfl, hd, h5⟩
def dSmall (d : DiskT) : Prop := dl 200000 d
theorem l3Any_ok {c : CurT} (h : Cur c) : ∃ d c', spec_l3Any.f c = some (d, c') ∧ dSmall d ∧ Cur c' := by
 obtain ⟨d, c1, e1, hd, h1⟩ := l3Disk_ok h
 obtain ⟨x, c2, e2, _, _, _, h2⟩ := l1Below_ok h1 14
 have hdl := dl_dk hd
 have hsm : ∀ y : Int × Int × Bool, dSmall (d.1, y) := fun y => ⟨by have := hdl.1; show d.1.length < _; omega, by have := hdl.2.1; show usedN d.1 < _; omega, fun f hf => by have := hdl.2.2 f hf; omega⟩
 have hl := dl_lim hdl (by omega)
 unfold spec_l3Any.f
 simp only [e1, e2, Option.bind_some]
 cases d0 : (x == 0)
 rotate_left
 ·obtain ⟨v, c3, f3, _, h3⟩ := l1PickInt_ok h2 [0, 1, (-2), (-1)] (by decide)
  simp only [cond_true, f3, Option.bind_some]
  exact ⟨_, _, rfl, hsm _, h3⟩
 cases d1 : (x == 1)
 rotate_left
 ·simp only [cond_true, cond_false]
  exact ⟨_, _, rfl, hsm _, h2⟩
 cases d2 : (x == 2)
 rotate_left
 ·have hu := spec_l3Used_eq d (by have := hl.1; omega) (by have := hl.2.1; omega)
  obtain ⟨v, c3, f3, _, h3⟩ := l1PickInt_ok h2 [(-1), 5, (usedN d.1 : Int), w64 ((usedN d.1 : Int) + 3), 100000, 100001] (by simp)
  simp only [cond_true, cond_false, hu, f3, Option.bind_some]
  exact ⟨_, _, rfl, hsm _, h3⟩
 have hset : ∀ (f : FileT), 0 < d.1.length → f.1.length ≤ 20 → f.2.1 = (d.1.getD 0 ([], [], 0)).2.1 → dSmall (d.1.set 0 f, d.2) := by
  intro f h0 hf1 hf2
  have hu := usedN_set2 d.1 0 f h0
  rw [getD_lt h0] at hf2
  refine ⟨by show (d.1.set 0 f).length < _; rw [List.length_set]; have := hdl.1; omega, by show usedN (d.1.set 0 f) < _; rw [hf2] at hu; have := hdl.2.1; omega, fun g hg => ?_⟩
  rcases List.mem_or_eq_of_mem_set hg with hg | e
  ·have := hdl.2.2 g hg; omega
  ·rw [e]; omega
 have hb0 : 0 < d.1.length → inB 0 d.1.length = true ∧ rdA ([], [], 0) d.1 0 = d.1.getD 0 ([], [], 0) := fun h0 => by
  rw [show (0 : Int) = ((0 : Nat) : Int) from rfl]
  exact ⟨by rw [inB_nat]; simpa using h0, rdA_nat ..⟩
 have hn : ∀ y ∈ d.1, y.1.length ≤ 12 := fun y hy => by
  have := ((diskOk_iff d).1 hd).2.2.2.2.1 y hy
  unfold fileOk at this
  simp only [Bool.and_eq_true] at this
  exact nameOk_len this.1
 cases d3 : (x == 3)
 rotate_left
 ·rcases Nat.eq_zero_or_pos d.1.length with h0 | h0
  ·have : decide ((d.1.length : Int) > 0) = false := by rw [h0]; rfl
   simp only [cond_true, cond_false, this]
   exact ⟨_, _, rfl, hsm _, h2⟩
  ·have : decide ((d.1.length : Int) > 0) = true := by simp; omega
   obtain ⟨v, c3, f3, _, _, _, h3⟩ := l1Below_ok h2 9
   obtain ⟨b1, b2⟩ := hb0 h0
   simp only [cond_true, cond_false, this, f3, Option.bind_some, b1, b2, Int.toNat_zero]
   refine ⟨_, _, rfl, hset _ h0 ?_ rfl, h3⟩
   rw [getD_lt h0]; have := hn _ (List.getElem_mem h0); simp only; omega
 cases d4 : (x == 4)
 rotate_left
 ·rcases Nat.eq_zero_or_pos d.1.length with h0 | h0
  ·have : decide ((d.1.length : Int) > 0) = false := by rw [h0]; rfl
   simp only [cond_true, cond_false, this]
   exact ⟨_, _, rfl, hsm _, h2⟩
  ·have : decide ((d.1.length : Int) > 0) = true := by simp; omega
   obtain ⟨v, c3, f3, hv, h3⟩ := l1Pick_ok h2 ([[], [65], [122, 122], [116, 111, 111, 108, 111, 110, 103, 97, 110, 97, 109, 101, 49]] : List (List UInt8)) (by decide)
   obtain ⟨b1, b2⟩ := hb0 h0
   simp only [cond_true, cond_false, this, f3, Option.bind_some, b1, b2, Int.toNat_zero]
   refine ⟨_, _, rfl, hset _ h0 ?_ rfl, h3⟩
   simp only [List.mem_cons, List.not_mem_nil, or_false] at hv
   show v.length ≤ 20
   rcases hv with rfl | rfl | rfl | rfl <;> decide
 cases d5 : (x == 5)
 ·simp only [cond_false]
  exact ⟨_, _, rfl, hsm _, h2⟩
 simp only [cond_true, cond_false]
 have hlen : d.1.length ≤ 130 := ((diskOk_iff d).1 hd).2.2.1
 have key := lp_ok (step := spec_l3Any.l1) (a := (c2, ([], 0, 0, false), d, ((0 : Nat) : Int))) (fun a => Cur a.1 ∧ a.2.1 = ([], 0, 0, false) ∧ usedN a.2.2.1.1 < 200000 ∧ (∀ f ∈ a.2.2.1.1, f.1.length < 200000) ∧ a.2.2.1.1.length ≤ 131 ∧ ∃ i : Nat, a.2.2.2 = (i : Int) ∧ i ≤ 131) (fun a => 200 - a.2.2.1.1.length) (fun b => Cur b.1 ∧ dSmall b.2.2)
  (fun rec a ha => by
   obtain ⟨c3, z, D, i⟩ := a
   obtain ⟨h3, hz, hu, hf, hl3, j, hj, hj2⟩ := ha
   simp only at h3 hz hu hf hl3 hj
   subst hz; subst hj
   obtain ⟨y, c4, e4, a4, b4, _, h4⟩ := l1Below_ok h3 3
   have b4 := b4 (by omega)
   have hw : w64 (129 + y) = 129 + y := w64_id (by omega) (by omega)
   by_cases q1 : (j : Int) < 129 + y
   rotate_left
   ·left
    exact ⟨(c4, ([], 0, 0, false), D), by simp only [spec_l3Any.l1, e4, Option.bind_some, hw, q1, decide_false, cond_false], h4, by show D.1.length < _; omega, hu, hf⟩
   by_cases q2 : (D.1.length : Int) < 131
   rotate_left
   ·left
    exact ⟨(c4, ([], 0, 0, false), D), by simp only [spec_l3Any.l1, e4, Option.bind_some, hw, q1, q2, decide_false, decide_true, cond_true, cond_false], h4, by show D.1.length < _; omega, hu, hf⟩
   right
   have e5 : w64 (100 + (j : Int)) = ((100 + j : Nat) : Int) := by rw [w64_id (by omega) (by omega)]; omega
   have e6 := spec_Dec_eq (100 + j) (by omega)
   have hdl2 := digits_len 3 (100 + j) (by show _ < 10000; omega)
   have hb1 : ([121] : List UInt8).length + (Lib.decDigits (100 + j)).length ≤ 9223372036854775807 := by show 1 + _ ≤ _; omega
   have hb2 : ∀ {α : Type} (x : α), decide ((D.1.length + [x].length) * 40 ≤ 140737488355328) = true := fun x => decide_eq_true (lim40 (by omega))
   have hw3 := w64_succ (show j + 1 < 9223372036854775808 by omega)
   refine ⟨(c4, ([], 0, 0, false), (D.1 ++ [([121] ++ Lib.decDigits (100 + j), [], 0)], D.2), ((j + 1 : Nat) : Int)), ⟨h4, rfl, ?_, ?_, ?_, j + 1, rfl, by omega⟩, ?_, ?_⟩
   ·show usedN (D.1 ++ [_]) < _
    unfold usedN
    rw [sumN_snoc]
    exact hu
   ·intro f hf2
    rcases List.mem_append.1 hf2 with hf2 | hf2
    ·exact hf f hf2
    ·rw [List.mem_singleton.1 hf2]; show (121 :: Lib.decDigits (100 + j)).length < _; simp only [List.length_cons]; omega
   ·simp only [List.length_append, List.length_singleton]; omega
   ·simp only [List.length_append, List.length_singleton]; omega
   ·simp only [spec_l3Any.l1, e4, Option.bind_some, hw, q1, q2, decide_true, cond_true, e5, e6, hb1, hb2, hw3])
  ⟨h2, rfl, by have := hdl.2.1; simp only; omega, fun f hf => by have := hdl.2.2 f hf; omega, by simp only; omega, 0, rfl, by omega⟩ (by simp only; omega)
 obtain ⟨⟨c3, z, D⟩, e3, h3, hD⟩ := key
 have e3 : lp spec_l3Any.l1 (c2, ([], 0, 0, false), d, 0) = some (c3, z, D) := e3
 simp only [e3, Option.bind_some]
 exact ⟨_, _, rfl, hD, h3⟩
theorem spec_SameDisk_self (d : DiskT) (h : d.1.length < 1000000000) : spec_SameDisk.f d d = some true := by
 have key := all_loop (step := spec_SameDisk.l0) d.1 (fun _ => true) (fun n => (d, d, (n : Int))) () (by omega)
  (fun rec n h1 => by
   have hw := w64_succ (show n + 1 < 9223372036854775808 by omega)
   simp only [spec_SameDisk.l0, Int.ofNat_lt, h1, decide_true, cond_true, inB_nat, rdA_nat, getD_lt h1, beq_self_eq_true, Bool.and_self, Bool.not_true, cond_false, hw, if_true])
  (fun rec => by simp [spec_SameDisk.l0])
 have key : lp spec_SameDisk.l0 (d, d, 0) = _ := key
 unfold spec_SameDisk.f
 have hall : d.1.all (fun _ => true) = true := by simp
 rw [key, hall]
 simp only [bne_self_eq_false, cond_false, beq_self_eq_true, Bool.not_true, if_true, Option.bind_some, caseS_l]
theorem srt_inj {α : Type} {l : List (List UInt8 × α)} (h : srt l) {i j : Nat} (hi : i < l.length) (hj : j < l.length) (e : l[i].1 = l[j].1) : i = j := by
 unfold srt at h
 rw [List.pairwise_iff_getElem] at h
 rcases Nat.lt_trichotomy i j with c | c | c
 ·have := h i j hi hj c; rw [e, less_irrefl] at this; simp at this
 ·exact c
 ·have := h j i hj hi c; rw [e, less_irrefl] at this; simp at this
theorem fileText_mem {d : DiskT} (h : diskOk d = true) {f : FileT} (hf : f ∈ d.1) : fileText d f.1 = (f.2.1, true) := by
 have hs := ((diskOk_iff d).1 h).2.2.2.2.2
 unfold fileText
 rw [if_neg (by rw [h]; simp)]
 rcases fileIx_cases d.1 f.1 with ⟨e, hno⟩ | ⟨i, hi, e, hn⟩
 ·exact absurd rfl (hno f hf)
 ·rw [ix_some e]
  obtain ⟨j, hj, ej⟩ := List.getElem_of_mem hf
  have : i = j := srt_inj hs hi hj (by rw [hn, ej])
  subst this
  simp only
  rw [getD_lt hi, ej]
theorem fileText_none {d : DiskT} {n : List UInt8} (h : ∀ f ∈ d.1, f.1 ≠ n) : (fileText d n).2 = false := by
 unfold fileText
 split
 ·rfl
 ·rcases fileIx_cases d.1 n with ⟨e, hno⟩ | ⟨i, hi, e, hn⟩
  ·rw [ix_none e]
  ·exact absurd hn (h _ (List.getElem_mem hi))
def dTrunc (n : List UInt8) (z : Int) (d : DiskT) : DiskT × Int := dstep d (actTrunc n z)
theorem dstep_zero {d : DiskT} {act : List FileT → Int × List FileT} (h : (dstep d act).2 = 0) : diskOk d = true ∧ (act d.1).1 = 0 ∧ (dstep d act).1 = ((act d.1).2, (tick d).2) := by
 unfold dstep at h ⊢
 split at h
 ·simp at h
 rename_i c
 split at h
 ·simp at h
 rename_i c2
 rw [if_neg c, if_neg c2]
 exact ⟨by simpa using c, h, rfl⟩
theorem removeTxt {d : DiskT} {n : List UInt8} (h : (dRemove n d).2 = 0) : (fileText (dRemove n d).1 n).2 = false := by
 obtain ⟨k, ha, hx⟩ := dstep_zero h
 have hx : (dRemove n d).1 = _ := hx
 unfold actRemove at ha hx
 rcases fileIx_cases d.1 n with ⟨e, _⟩ | ⟨i, hi, e, hn⟩
 ·rw [ix_none e] at ha; simp at ha
 rw [ix_some e] at hx
 simp only at hx
 apply fileText_none
 rw [hx]
 intro f hf
 have := remIx_ne hi (diskOk_pw k) f hf
 rw [hn] at this
 exact this
theorem fileText_eq_none {d : DiskT} {n : List UInt8} (h : ∀ f ∈ d.1, f.1 ≠ n) : fileText d n = ([], false) := by
 unfold fileText
 split
 ·rfl
 ·rcases fileIx_cases d.1 n with ⟨e, hno⟩ | ⟨i, hi, e, hn⟩
  ·rw [ix_none e]
  ·exact absurd hn (h _ (List.getElem_mem hi))
theorem ft_same {d e : DiskT} (hd : diskOk d = true) (he : diskOk e = true) (n : List UInt8) (hm : ∀ t, (∃ s, ((n, t, s) : FileT) ∈ d.1) ↔ ∃ s, ((n, t, s) : FileT) ∈ e.1) : fileText e n = fileText d n := by
 by_cases c : ∃ t s, ((n, t, s) : FileT) ∈ d.1
 ·obtain ⟨t, s, hs⟩ := c
  obtain ⟨s', hs'⟩ := (hm t).1 ⟨s, hs⟩
  have e1 := fileText_mem hd hs
  have e2 := fileText_mem he hs'
  exact e2.trans e1.symm
 ·have h1 : ∀ f ∈ d.1, f.1 ≠ n := fun f hf e => c ⟨f.2.1, f.2.2, by rw [← e]; exact hf⟩
  have h2 : ∀ f ∈ e.1, f.1 ≠ n := fun f hf e' => by
   obtain ⟨s, hs⟩ := (hm f.2.1).2 ⟨f.2.2, by rw [← e']; exact hf⟩
   exact c ⟨_, _, hs⟩
  rw [fileText_eq_none h1, fileText_eq_none h2]
theorem ft_files {d : DiskT} {act : List FileT → Int × List FileT} (h : diskOk d = true) (hk : diskOk (dstep d act).1 = true) (n : List UInt8) (hm : ∀ t, (∃ s, ((n, t, s) : FileT) ∈ d.1) ↔ ∃ s, ((n, t, s) : FileT) ∈ (act d.1).2) : fileText (dstep d act).1 n = fileText d n := by
 refine ft_same h hk n fun t => ?_
 have hx : (dstep d act).1.1 = d.1 ∨ (dstep d act).1.1 = (act d.1).2 := by
  unfold dstep
  split
  ·exact .inl rfl
  ·split
   ·exact .inl rfl
   ·exact .inr rfl
 rcases hx with e | e
 ·rw [e]
 ·rw [e]; exact hm t
theorem mem_set_ne {l : List FileT} {i : Nat} (hi : i < l.length) {f : FileT} (hf : f.1 = l[i].1) {x : FileT} (hx : x.1 ≠ l[i].1) : x ∈ l.set i f ↔ x ∈ l := by
 constructor
 ·intro h
  rcases List.mem_or_eq_of_mem_set h with h | e
  ·exact h
  ·rw [e] at hx; exact absurd hf hx
 ·intro h
  obtain ⟨j, hj, e⟩ := List.getElem_of_mem h
  have hij : i ≠ j := fun c => by subst c; rw [e] at hx; exact hx rfl
  exact List.mem_iff_getElem.2 ⟨j, by simpa using hj, by rw [List.getElem_set, if_neg hij]; exact e⟩
theorem mem_remIx_ne {l : List FileT} {i : Nat} (hi : i < l.length) {x : FileT} (hx : x.1 ≠ l[i].1) : x ∈ remIx l i ↔ x ∈ l := by
 constructor
 ·intro h; exact (remIx_sub l i).subset h
 ·intro h
  rw [remIx_split hi] at h
  unfold remIx
  rcases List.mem_append.1 h with h | h
  ·exact List.mem_append_left _ h
  ·rcases List.mem_cons.1 h with e | h
   ·rw [e] at hx; exact absurd rfl hx
   ·exact List.mem_append_right _ h
theorem ft_Remove {d : DiskT} (h : diskOk d = true) {m n : List UInt8} (hne : n ≠ m) : fileText (dRemove m d).1 n = fileText d n := by
 refine ft_files h (dk_Remove h m) n fun t => ?_
 unfold actRemove
 rcases fileIx_cases d.1 m with ⟨e, _⟩ | ⟨i, hi, e, hn⟩
 ·rw [ix_none e]
 ·rw [ix_some e]
  simp only
  constructor
  ·rintro ⟨s, hs⟩; exact ⟨s, (mem_remIx_ne hi (by rw [hn]; exact hne)).2 hs⟩
  ·rintro ⟨s, hs⟩; exact ⟨s, (mem_remIx_ne hi (by rw [hn]; exact hne)).1 hs⟩
theorem ft_Gone {d : DiskT} (h : diskOk d = true) {m n : List UInt8} (hne : n ≠ m) : fileText (dGone m d).1 n = fileText d n := by
 unfold dGone; split
 ·exact ft_Remove h hne
 ·rfl
theorem ft_Create {d : DiskT} (h : diskOk d = true) {m n : List UInt8} (hne : n ≠ m) : fileText (dCreate m d).1 n = fileText d n := by
 refine ft_files h (dk_Create h m) n fun t => ?_
 unfold actCreate
 split
 ·exact Iff.rfl
 split
 ·exact Iff.rfl
 split
 ·exact Iff.rfl
 ·constructor
  ·rintro ⟨s, hs⟩; exact ⟨s, (mem_insB _ _ _).2 (.inr hs)⟩
  ·rintro ⟨s, hs⟩
   rcases (mem_insB _ _ _).1 hs with e | hs
   ·exact absurd (congrArg (·.1) e) hne
   ·exact ⟨s, hs⟩
theorem ft_Append {d : DiskT} (h : diskOk d = true) {m n t0 : List UInt8} (hne : n ≠ m) : fileText (dAppend m t0 d).1 n = fileText d n := by
 refine ft_files h (dk_Append h m t0) n fun t => ?_
 unfold actAppend
 rcases fileIx_cases d.1 m with ⟨e, _⟩ | ⟨i, hi, e, hn⟩
 ·rw [ix_none e]
 ·rw [ix_some e]
  simp only
  split
  ·exact Iff.rfl
  ·rw [getD_lt hi]
   constructor
   ·rintro ⟨s, hs⟩; exact ⟨s, (mem_set_ne (f := (d.1[i].1, d.1[i].2.1 ++ t0, d.1[i].2.2)) hi rfl (by rw [hn]; exact hne)).2 hs⟩
   ·rintro ⟨s, hs⟩; exact ⟨s, (mem_set_ne (f := (d.1[i].1, d.1[i].2.1 ++ t0, d.1[i].2.2)) hi rfl (by rw [hn]; exact hne)).1 hs⟩
theorem ft_Sync {d : DiskT} (h : diskOk d = true) (m n : List UInt8) : fileText (dSync m d).1 n = fileText d n := by
 refine ft_files h (dk_Sync h m) n fun t => ?_
 unfold actSync
 rcases fileIx_cases d.1 m with ⟨e, _⟩ | ⟨i, hi, e, hn⟩
 ·rw [ix_none e]
 ·rw [ix_some e]
  simp only
  rw [getD_lt hi]
  by_cases hne : n = m
  ·subst hne
   have hs := ((diskOk_iff d).1 h).2.2.2.2.2
   have uniq : ∀ t s, ((n, t, s) : FileT) ∈ d.1 → d.1[i] = (n, t, s) := fun t s hx => by
    obtain ⟨j, hj, ej⟩ := List.getElem_of_mem hx
    have : i = j := srt_inj hs hi hj (by rw [hn, ej])
    subst this; exact ej
   constructor
   ·rintro ⟨s, hx⟩
    refine ⟨(d.1[i].2.1.length : Int), List.mem_iff_getElem.2 ⟨i, by simpa using hi, ?_⟩⟩
    rw [List.getElem_set_self, uniq t s hx]
   ·rintro ⟨s, hx⟩
    rcases List.mem_or_eq_of_mem_set hx with hx | e
    ·exact ⟨s, hx⟩
    ·have e1 : t = d.1[i].2.1 := congrArg (·.2.1) e
     refine ⟨d.1[i].2.2, ?_⟩
     rw [e1, ← hn]; exact List.getElem_mem hi
  ·constructor
   ·rintro ⟨s, hs⟩; exact ⟨s, (mem_set_ne (f := (d.1[i].1, d.1[i].2.1, (d.1[i].2.1.length : Int))) hi rfl (by rw [hn]; exact hne)).2 hs⟩
   ·rintro ⟨s, hs⟩; exact ⟨s, (mem_set_ne (f := (d.1[i].1, d.1[i].2.1, (d.1[i].2.1.length : Int))) hi rfl (by rw [hn]; exact hne)).1 hs⟩
theorem mem_dropF_ne {l : List FileT} {b : List UInt8} {x : FileT} (hx : x.1 ≠ b) : x ∈ dropF l b ↔ x ∈ l := by
 unfold dropF
 rcases fileIx_cases l b with ⟨e, _⟩ | ⟨i, hi, e, hn⟩
 ·rw [ix_none e]
 ·rw [ix_some e]; exact mem_remIx_ne hi (by rw [hn]; exact hx)
theorem ft_Rename {d : DiskT} (h : diskOk d = true) {a b n : List UInt8} (h1 : n ≠ a) (h2 : n ≠ b) : fileText (dRename a b d).1 n = fileText d n := by
 refine ft_files h (dk_Rename h a b) n fun t => ?_
 unfold actRename
 split
 ·exact Iff.rfl
 rcases fileIx_cases d.1 a with ⟨e, _⟩ | ⟨i, hi, e, hn⟩
 ·rw [ix_none e]
 ·rw [ix_some e]
  simp only
  split
  ·exact Iff.rfl
  ·constructor
   ·rintro ⟨s, hs⟩; exact ⟨s, (mem_insB _ _ _).2 (.inr ((mem_dropF_ne h2).2 ((mem_remIx_ne hi (by rw [hn]; exact h1)).2 hs)))⟩
   ·rintro ⟨s, hs⟩
    rcases (mem_insB _ _ _).1 hs with e | hs
    ·exact absurd (congrArg (·.1) e) h2
    ·exact ⟨s, (mem_remIx_ne hi (by rw [hn]; exact h1)).1 ((mem_dropF_ne h2).1 hs)⟩
theorem ft_sstep {w : WorkT} {op : DiskT → DiskT × Int} {n : List UInt8} (ho : fileText (op w.1).1 n = fileText w.1 n) : fileText (sstep op w).1 n = fileText w.1 n := by
 unfold sstep; split
 ·exact ho
 ·rfl
theorem ft_sNew {w : WorkT} (h : diskOk w.1 = true) {m n : List UInt8} (hne : n ≠ m) : fileText (sNew m w).1 n = fileText w.1 n := by
 have h1 : diskOk (sstep (dGone m) w).1 = true := dk_sstep (op := dGone m) h fun k => dk_Gone k m
 unfold sNew
 rw [ft_sstep (op := dCreate m) (ft_Create h1 hne), ft_sstep (op := dGone m) (ft_Gone h hne)]
theorem ft_sFile {w : WorkT} (h : diskOk w.1 = true) {m n t : List UInt8} (hne : n ≠ m) : fileText (sFile m t w).1 n = fileText w.1 n := by
 have h2 : diskOk (sNew m w).1 = true := dk_sNew h m
 have h3 : diskOk (sstep (dAppend m t) (sNew m w)).1 = true := dk_sstep (op := dAppend m t) h2 fun k => dk_Append k m t
 show fileText (sstep (dSync m) (sstep (dAppend m t) (sNew m w))).1 n = _
 rw [ft_sstep (op := dSync m) (ft_Sync h3 m n), ft_sstep (op := dAppend m t) (ft_Append h2 hne), ft_sNew h hne]
abbrev tempN : List UInt8 := [116, 101, 109, 112]
abbrev liveN : List UInt8 := [108, 105, 118, 101]
theorem ft_sPut {w : WorkT} (h : diskOk w.1 = true) (v : LiveT) {n : List UInt8} (h1 : n ≠ tempN) (h2 : n ≠ liveN) : fileText (sPut v w).1 n = fileText w.1 n := by
 have h3 := dk_sFile h tempN (showLive v)
 unfold sPut
 rw [ft_sstep (op := dRename tempN liveN) (ft_Rename h3 h1 h2), ft_sFile h h1]
theorem ft_sDrop {n : List UInt8} : ∀ (names : List (List UInt8)) {w : WorkT}, diskOk w.1 = true → (∀ m ∈ names, n ≠ m) → fileText (sDrop names w).1 n = fileText w.1 n
 | [], w, _, _ => rfl
 | m :: l, w, h, hne => by
  have h1 : diskOk (sstep (dGone m) w).1 = true := dk_sstep (op := dGone m) h fun k => dk_Gone k m
  show fileText (sDrop l (sstep (dGone m) w)).1 n = _
  rw [ft_sDrop l h1 fun x hx => hne x (List.mem_cons_of_mem _ hx), ft_sstep (op := dGone m) (ft_Gone h (hne m List.mem_cons_self))]
theorem createTxt {d : DiskT} {n : List UInt8} (h : (dCreate n d).2 = 0) : fileText (dCreate n d).1 n = ([], true) := by
 obtain ⟨k, ha, hx⟩ := dstep_zero h
 have hk : diskOk (dCreate n d).1 = true := dk_Create k n
 have hx : (dCreate n d).1 = _ := hx
 unfold actCreate at ha hx
 split at ha
 ·simp at ha
 rename_i c1
 rw [if_neg c1] at hx
 split at ha
 ·simp at ha
 rename_i c2
 rw [if_neg c2] at hx
 split at ha
 ·simp at ha
 rename_i c3
 rw [if_neg c3] at hx
 have hm : ((n, [], 0) : FileT) ∈ (dCreate n d).1.1 := by rw [hx]; exact (mem_insB _ _ _).2 (.inl rfl)
 exact fileText_mem hk hm
theorem digs_inj : ∀ (k a b : Nat), a < k → Lib.decDigits a = Lib.decDigits b → a = b
 | 0, a, b, h, _ => by omega
 | k + 1, a, b, h, e => by
  have last : ∀ n : Nat, (Lib.decDigits n).getLast? = some (UInt8.ofNat (48 + n % 10)) := fun n => by
   by_cases c : n < 10
   ·rw [Lib.decDigits_one c, Nat.mod_eq_of_lt c]; rfl
   ·have := digs_step (n := n) (by omega)
    unfold digs at this
    rw [if_neg (by omega), if_neg (by omega)] at this
    rw [this]; simp
  have hm : a % 10 = b % 10 := by
   have h1 := last a
   rw [e, last b] at h1
   have h2 : UInt8.ofNat (48 + b % 10) = UInt8.ofNat (48 + a % 10) := Option.some.inj h1
   have h3 := congrArg UInt8.toNat h2
   simp only [UInt8.toNat_ofNat'] at h3
   omega
  by_cases ca : a < 10
  ·by_cases cb : b < 10
   ·omega
   ·exfalso
    have := digs_step (n := b) (by omega)
    unfold digs at this
    rw [if_neg (by omega), if_neg (by omega)] at this
    rw [this, Lib.decDigits_one ca] at e
    have hl := congrArg List.length e
    have h0 : 0 < (Lib.decDigits (b / 10)).length := by
     cases hd : Lib.decDigits (b / 10) with
     | nil => have := last (b / 10); rw [hd] at this; simp at this
     | cons x l => simp
    simp only [List.length_append, List.length_cons, List.length_nil] at hl
    omega
  ·by_cases cb : b < 10
   ·exfalso
    have := digs_step (n := a) (by omega)
    unfold digs at this
    rw [if_neg (by omega), if_neg (by omega)] at this
    rw [this, Lib.decDigits_one cb] at e
    have hl := congrArg List.length e
    have h0 : 0 < (Lib.decDigits (a / 10)).length := by
     cases hd : Lib.decDigits (a / 10) with
     | nil => have := last (a / 10); rw [hd] at this; simp at this
     | cons x l => simp
    simp only [List.length_append, List.length_cons, List.length_nil] at hl
    omega
   ·have e1 := digs_step (n := a) (by omega)
    have e2 := digs_step (n := b) (by omega)
    unfold digs at e1 e2
    rw [if_neg (by omega), if_neg (by omega)] at e1 e2
    rw [e1, e2] at e
    have := (List.append_inj' e rfl).1
    have := digs_inj k (a / 10) (b / 10) (by omega) this
    omega
theorem segName_inj {i j : Int} (hi : 1 ≤ i ∧ i ≤ 100000) (hj : 1 ≤ j ∧ j ≤ 100000) (h : segName i = segName j) : i = j := by
 unfold segName nameN at h
 rw [if_pos hi, if_pos hj] at h
 have := digs_inj (i.toNat + 1) i.toNat j.toNat (by omega) (List.append_cancel_left h)
 omega
theorem segName_temp (i : Int) : segName i ≠ tempN := by
 unfold segName nameN
 split
 ·intro h; have := congrArg List.head? h; simp at this
 ·simp
theorem segName_live (i : Int) : segName i ≠ liveN := by
 unfold segName nameN
 split
 ·intro h; have := congrArg List.head? h; simp at this
 ·simp
theorem segName_hint (i j : Int) (hi : 1 ≤ i ∧ i ≤ 100000) : segName i ≠ hintName j := by
 unfold segName hintName nameN
 rw [if_pos hi]
 split
 ·intro h; have := congrArg List.head? h; simp at this
 ·simp
theorem frame_eq {t : List UInt8} (h : t.length ≤ 200) : frame t = fix4 (crcT (varT (t.length : Int) ++ t)) ++ (varN t.length ++ t) ∧ (fix4 (crcT (varT (t.length : Int) ++ t))).length = 4 := by
 unfold frame
 rw [if_neg (by omega), varT_nat t.length (by omega)]
 exact ⟨rfl, fix4_len4 (crcT_range _)⟩
theorem unframe_back {t : List UInt8} (h : t.length ≤ 200) (r : List UInt8) : unframe (frame t ++ r) = (t, ((frame t).length : Int)) := by
 obtain ⟨e, h4⟩ := frame_eq h
 have hb := rvT_back 7 true t.length (t ++ r) (by omega) (by simp) (by omega)
 generalize hC : fix4 (crcT (varT (t.length : Int) ++ t)) = C at *
 have hl : (frame t).length = 4 + (varN t.length).length + t.length := by rw [e]; simp only [List.length_append, h4]; omega
 have e1 : (frame t ++ r).drop 4 = varN t.length ++ (t ++ r) := by
  rw [e, List.append_assoc, ← h4, List.drop_left, List.append_assoc]
 have e2 : (frame t ++ r).take (4 + (varN t.length).length + t.length) = frame t := by rw [← hl, List.take_left]
 have e3 : (frame t).drop (4 + (varN t.length).length) = t := by
  rw [e, show C ++ (varN t.length ++ t) = (C ++ varN t.length) ++ t by rw [List.append_assoc], show 4 + (varN t.length).length = (C ++ varN t.length).length by rw [List.length_append, h4], List.drop_left]
 unfold unframe
 rw [if_neg (by rw [List.length_append]; omega), e1, hb]
 simp only
 rw [if_neg (by rw [List.length_append]; omega), e2, e3, if_pos rfl, hl]
theorem unframe_some {s : List UInt8} (h : (unframe s).2 ≠ 0) : ∃ t r, s = frame t ++ r ∧ t.length ≤ 200 ∧ unframe s = (t, ((frame t).length : Int)) := by
 have key : ∃ t r, s = frame t ++ r ∧ t.length ≤ 200 := by
  unfold unframe at h
  split at h
  ·exact absurd rfl h
  split at h
  ·exact absurd rfl h
  rename_i n k hr
  split at h
  ·exact absurd rfl h
  rename_i c
  split at h
  ·rename_i c2
   refine ⟨_, s.drop (4 + k + n), by rw [c2, List.take_append_drop], ?_⟩
   rw [List.length_drop, List.length_take]; omega
  ·exact absurd rfl h
 obtain ⟨t, r, e, hl⟩ := key
 exact ⟨t, r, e, hl, by rw [e]; exact unframe_back hl r⟩
theorem frame_pos {t : List UInt8} (h : t.length ≤ 200) : 5 ≤ (frame t).length := by
 obtain ⟨e, h4⟩ := frame_eq h
 have := (varN_len 6 t.length (by omega)).1
 rw [e]; simp only [List.length_append, h4]; omega
theorem isRec_inj {s : List UInt8} {r q : RecT} (h : isRec s r) (k : isRec s q) : r = q := by
 have a := impl_ReadRec_back h
 rw [impl_ReadRec_back k] at a
 simp only [Option.some.injEq, Prod.mk.injEq, and_true] at a
 exact a.symm
theorem readRec_back {r : RecT} (h : recOk r = true) : readRec (showRec r) = (r, true) := by
 rcases readRec_cases (showRec r) with ⟨_, e⟩ | ⟨q, e, hq⟩
 ·exact absurd ⟨r, h, rfl⟩ e
 ·rw [e, isRec_inj hq ⟨h, rfl⟩]
def fr (r : RecT) : List UInt8 := frame (showRec r)
def txt (rs : List RecT) : List UInt8 := (rs.map fr).flatten
theorem fr_len (r : RecT) : 5 ≤ (fr r).length ∧ (fr r).length ≤ 71 := by
 have h := showRec_len r
 refine ⟨frame_pos (by omega), ?_⟩
 obtain ⟨e, h4⟩ := frame_eq (t := showRec r) (by omega)
 have := (varN_len 0 (showRec r).length (by omega)).2
 unfold fr
 rw [e]; simp only [List.length_append, h4]; omega
theorem txt_cons (r : RecT) (rs : List RecT) : txt (r :: rs) = fr r ++ txt rs := rfl
theorem lastI_one (x : Int) : lastI [x] = x := rfl
theorem lastI_cons (x y : Int) (l : List Int) : lastI (x :: y :: l) = lastI (y :: l) := by
 unfold lastI
 simp only [List.length_cons, Nat.add_sub_cancel]
 rfl
theorem digs_name : ∀ (k n : Nat), n < k → (Lib.decDigits n).all nameB = true
 | 0, n, h => by omega
 | k + 1, n, h => by
  have hb : ∀ m, m < 10 → nameB (UInt8.ofNat (48 + m)) = true := fun m hm => by
   unfold nameB
   have : (UInt8.ofNat (48 + m)).toNat = 48 + m := by simp only [UInt8.toNat_ofNat']; omega
   rw [this]
   simp; omega
  by_cases c : n < 10
  ·rw [Lib.decDigits_one c, List.all_cons, hb n c]; rfl
  ·have := digs_step (n := n) (by omega)
   unfold digs at this
   rw [if_neg (by omega), if_neg (by omega)] at this
   rw [this, List.all_append, digs_name k (n / 10) (by omega), List.all_cons, hb (n % 10) (by omega)]; rfl
theorem has_ix {d : DiskT} {n : List UInt8} (h : (fileText d n).2 = true) : ∃ i : Nat, ∃ hi : i < d.1.length, d.1.findIdx? (fun f => f.1 == n) = some i ∧ d.1[i].1 = n ∧ fileIx d.1 n = (i : Int) := by
 rcases fileIx_cases d.1 n with ⟨e, _⟩ | ⟨i, hi, e, hn⟩
 ·unfold fileText at h
  split at h
  ·simp at h
  ·rw [ix_none e] at h; simp at h
 ·exact ⟨i, hi, ix_some e, hn, e⟩
theorem hasnt_ix {d : DiskT} {n : List UInt8} (hk : diskOk d = true) (h : (fileText d n).2 = false) : fileIx d.1 n = -1 := by
 rcases fileIx_cases d.1 n with ⟨e, _⟩ | ⟨i, hi, e, hn⟩
 ·exact e
 ·unfold fileText at h
  rw [if_neg (by rw [hk]; simp), ix_some e] at h; simp at h
theorem itoa_neg' (u : Nat) (h : 1 ≤ u) : Lib.itoa (-(u : Int)) = [45] ++ Lib.decDigits u := by
 unfold Lib.itoa
 rw [if_pos (by omega)]
 simp
theorem spec_Dec_neg (n : Nat) (h1 : 1 ≤ n) (hn : n < 1000000000000000000) : spec_Dec.f (-(n : Int)) = some ([45] ++ Lib.decDigits n) := by
 unfold spec_Dec.f
 have c1 : ((-(n : Int)) == 0) = false := by
  have : ¬ (-(n : Int)) = 0 := by omega
  simpa using this
 have c2 : decide ((-(n : Int)) < 0) = true := by simp; omega
 have key := lp_eq (step := spec_Dec.l0) (a := ((-(n : Int)), ([] : List UInt8), true)) (fun a => (digs (-a.1).toNat ++ a.2.1, true)) (fun a => a.1 ≤ 0 ∧ a.2.2 = true ∧ a.2.1.length + (-a.1).toNat ≤ n) (fun a => (-a.1).toNat)
  (fun rec a ha ih => by
   obtain ⟨x, s, f⟩ := a
   obtain ⟨h0, hf, hl⟩ := ha
   simp only at hf hl h0 ih ⊢
   subst hf
   obtain ⟨m, rfl⟩ : ∃ m : Nat, x = -(m : Int) := ⟨(-x).toNat, by omega⟩
   simp only [Int.neg_neg, Int.toNat_natCast] at hl ih ⊢
   by_cases d : m = 0
   ·subst d
    simp [spec_Dec.l0, digs]
   ·have d1 : ((-(m : Int)) != 0) = true := by
     have : ¬ (-(m : Int)) = 0 := by omega
     simpa using this
    have e1 : Int.tmod (-(m : Int)) 10 = -((m % 10 : Nat) : Int) := by rw [Int.neg_tmod]; rfl
    have e2 : w64 (Int.tdiv (-(m : Int)) 10) = -((m / 10 : Nat) : Int) := by
     rw [Int.neg_tdiv, show Int.tdiv (m : Int) 10 = ((m / 10 : Nat) : Int) from rfl]; exact w64_id (by omega) (by omega)
    have e5 : w64 (0 - -((m % 10 : Nat) : Int)) = ((m % 10 : Nat) : Int) := by rw [w64_id (by omega) (by omega)]; omega
    have e4 : strOf [IntKind.wrap .u8 (w64 (48 + ((m % 10 : Nat) : Int)))] = [UInt8.ofNat (48 + m % 10)] := by
     have e : w64 (48 + ((m % 10 : Nat) : Int)) = ((48 + m % 10 : Nat) : Int) := by rw [w64_id (by omega) (by omega)]; omega
     rw [e]
     unfold strOf
     simp only [List.map_cons, List.map_nil, u8_wrap]
    have hb : ([UInt8.ofNat (48 + m % 10)] : List UInt8).length + s.length ≤ 9223372036854775807 := by show 1 + _ ≤ _; omega
    have ih := ih (-((m / 10 : Nat) : Int), [UInt8.ofNat (48 + m % 10)] ++ s, true) ⟨by simp only; omega, rfl, by simp only [List.length_append, List.length_singleton, Int.neg_neg, Int.toNat_natCast]; omega⟩ (by simp only [Int.neg_neg, Int.toNat_natCast]; omega)
    simp only [Int.neg_neg, Int.toNat_natCast] at ih
    have e6 : (bif decide (-((m % 10 : Nat) : Int) < 0) then some (-(m : Int), s, true, w64 (0 - -((m % 10 : Nat) : Int))) else some (-(m : Int), s, true, -((m % 10 : Nat) : Int))) = some (-(m : Int), s, true, ((m % 10 : Nat) : Int)) := by
     rw [e5]
     by_cases z : -((m % 10 : Nat) : Int) < 0
     ·simp only [z, decide_true, cond_true]
     ·have : ((m % 10 : Nat) : Int) = 0 := by omega
      simp only [decide_eq_false z, cond_false]
      rw [this]; rfl
    simp only [spec_Dec.l0, d1, cond_true, e1, e2, e6, Option.bind_some, e4, hb, decide_true, ih]
    rw [digs_step d, List.append_assoc])
  ⟨by simp only; omega, rfl, by simp⟩ (by simp only [Int.neg_neg, Int.toNat_natCast]; omega)
 have hd : decide (([45] : List UInt8).length + (digs n ++ []).length ≤ 9223372036854775807) = true := by
  have := digits_len 17 n (by omega)
  refine lim63 ?_
  unfold digs
  rw [if_neg (by omega), List.append_nil]
  show 1 + _ ≤ _; omega
 simp only [Int.neg_neg, Int.toNat_natCast] at key
 simp only [c1, c2, cond_false, key, Option.bind_some, cond_true, hd]
 unfold digs
 rw [if_neg (by omega), List.append_nil]
theorem spec_Dec_all (n : Int) (h : -1000000000000000000 < n ∧ n < 1000000000000000000) : spec_Dec.f n = some (Lib.itoa n) := by
 rcases Int.lt_or_le n 0 with c | c
 ·obtain ⟨m, rfl⟩ : ∃ m : Nat, n = -(m : Int) := ⟨(-n).toNat, by omega⟩
  rw [spec_Dec_neg m (by omega) (by omega), itoa_neg' m (by omega)]
 ·obtain ⟨m, rfl⟩ : ∃ m : Nat, n = (m : Int) := ⟨n.toNat, by omega⟩
  rw [spec_Dec_eq m (by omega), itoa_nat]
def isDig (b : UInt8) : Bool := decide (48 ≤ b.toNat) && decide (b.toNat ≤ 57)
def digStep (a : Nat × Nat) (b : UInt8) : Nat × Nat := if isDig b = true then (a.1 * 10 + (b.toNat - 48), a.2 + 1) else a
def digFold (s : List UInt8) : Nat × Nat := s.foldl digStep (0, 0)
theorem digStep_bound (l : List UInt8) : ∀ (a : Nat × Nat) (n : Nat), a.1 < 10 ^ n → a.2 ≤ n → (l.foldl digStep a).1 < 10 ^ (n + l.length) ∧ (l.foldl digStep a).2 ≤ n + l.length := by
 induction l with
 | nil => intro a n h1 h2; exact ⟨h1, h2⟩
 | cons b l ih =>
  intro a n h1 h2
  have b1 : (digStep a b).1 < 10 ^ (n + 1) := by
   unfold digStep isDig
   rw [Nat.pow_succ]
   split
   ·rename_i c
    simp only [Bool.and_eq_true, decide_eq_true_eq] at c
    show a.1 * 10 + (b.toNat - 48) < _
    omega
   ·omega
  have b2 : (digStep a b).2 ≤ n + 1 := by
   unfold digStep
   split
   ·show a.2 + 1 ≤ n + 1; omega
   ·omega
  have := ih (digStep a b) (n + 1) b1 b2
  rw [List.foldl_cons, List.length_cons, show n + (l.length + 1) = n + 1 + l.length by omega]
  exact this
def sgn : List UInt8 → Bool
 | [] => false
 | b :: _ => b == 45
def readDec (s : List UInt8) : Int × Bool :=
 let p := digFold (s.take 11)
 let n : Int := if sgn s = true then -(p.1 : Int) else (p.1 : Int)
 if 9 < p.2 ∨ 10 < s.length ∨ Lib.itoa n ≠ s then (0, false) else (n, true)
theorem spec_ReadDec_l0 (s : List UInt8) (hl : s.length < 1000000000000) : lp spec_ReadDec.l0 (s, 0, 0, 0) = some (s, ((digFold (s.take 11)).1 : Int), ((digFold (s.take 11)).2 : Int)) := by
 have hN : (s.take 11).length = min 11 s.length := List.length_take
 have key := lp_up (step := spec_ReadDec.l0) (fun n (p : Nat × Nat) => (s, (p.1 : Int), (p.2 : Int), (n : Int))) (s.take 11).length (fun n p => (s, ((((s.take 11).drop n).foldl digStep p).1 : Int), ((((s.take 11).drop n).foldl digStep p).2 : Int))) (fun n p => p.1 < 10 ^ n ∧ p.2 ≤ n)
  (fun rec n p hn hp ih => by
   rcases Nat.lt_or_ge n (s.take 11).length with h | h
   ·have hs : n < s.length := by omega
    have h11 : n < 11 := by omega
    have hw := w64_succ (show n + 1 < 9223372036854775808 by omega)
    have c1 : (n : Int) < (s.length : Int) := by omega
    have c2 : (n : Int) < 11 := by omega
    have hg : (s.take 11)[n] = s[n] := List.getElem_take
    have hpow : 10 ^ n ≤ 10 ^ 10 := Nat.pow_le_pow_right (by omega) (by omega)
    have hp1 : p.1 < 10000000000 := Nat.lt_of_lt_of_le hp.1 hpow
    rw [List.drop_eq_getElem_cons h, hg, List.foldl_cons]
    have hstep := digStep_bound [s[n]] p n hp.1 hp.2
    have ih := ih (digStep p s[n]) h hstep
    simp only [spec_ReadDec.l0, c1, c2, decide_true, cond_true, inB_nat, hs, bAt_nat s n hs]
    have hlt := UInt8.toNat_lt s[n]
    by_cases d1 : 48 ≤ s[n].toNat
    ·have d1' : ((s[n].toNat : Nat) : Int) ≥ 48 := by omega
     by_cases d2 : s[n].toNat ≤ 57
     ·have d2' : ((s[n].toNat : Nat) : Int) ≤ 57 := by omega
      have e1 : w64 (IntKind.wrap .u8 ((s[n].toNat : Int) - 48)) = ((s[n].toNat - 48 : Nat) : Int) := by
       have : (s[n].toNat : Int) - 48 = ((s[n].toNat - 48 : Nat) : Int) := by omega
       rw [this, show IntKind.wrap .u8 ((s[n].toNat - 48 : Nat) : Int) = ((s[n].toNat - 48 : Nat) : Int) by unfold IntKind.wrap; show ((((s[n].toNat - 48 : Nat) : Int)) % 256 : Int) = _; omega]
       exact w64_nat (by omega)
      have e2 : w64 ((p.1 : Int) * 10) = ((p.1 * 10 : Nat) : Int) := by rw [w64_id (by omega) (by omega)]; omega
      have e3 : w64 (((p.1 * 10 : Nat) : Int) + ((s[n].toNat - 48 : Nat) : Int)) = ((p.1 * 10 + (s[n].toNat - 48) : Nat) : Int) := by rw [w64_id (by omega) (by omega)]; omega
      have e4 : w64 ((p.2 : Int) + 1) = ((p.2 + 1 : Nat) : Int) := w64_succ (by have := hp.2; omega)
      have e5 : digStep p s[n] = (p.1 * 10 + (s[n].toNat - 48), p.2 + 1) := by
       unfold digStep isDig
       rw [if_pos (by simp [d1, d2])]
      rw [e5] at ih ⊢
      simp only [d1', d2', decide_true, cond_true, e1, e2, e3, e4, Option.bind_some, hw, ih]
     ·have d2' : ¬ ((s[n].toNat : Nat) : Int) ≤ 57 := by omega
      have e5 : digStep p s[n] = p := by unfold digStep isDig; rw [if_neg (by simp [d2])]
      rw [e5] at ih ⊢
      simp only [d1', d2', decide_true, decide_false, cond_true, cond_false, Option.bind_some, hw, ih]
    ·have d1' : ¬ ((s[n].toNat : Nat) : Int) ≥ 48 := by omega
     have e5 : digStep p s[n] = p := by unfold digStep isDig; rw [if_neg (by simp [d1])]
     rw [e5] at ih ⊢
     simp only [d1', decide_false, cond_false, Option.bind_some, hw, ih]
   ·have hn2 : n = (s.take 11).length := by omega
    have hnil : (s.take 11).drop n = [] := List.drop_eq_nil_of_le (by omega)
    rw [hnil, List.foldl_nil]
    by_cases c : n < s.length
    ·have c1 : (n : Int) < (s.length : Int) := by omega
     have c2 : ¬ (n : Int) < 11 := by omega
     simp only [spec_ReadDec.l0, c1, c2, decide_true, decide_false, cond_true, cond_false]
    ·have c1 : ¬ (n : Int) < (s.length : Int) := by omega
     simp only [spec_ReadDec.l0, c1, decide_false, cond_false])
  (by omega) 0 (0, 0) (Nat.zero_le _) ⟨by decide, Nat.le_refl _⟩
 exact key
theorem spec_ReadDec_eq (s : List UInt8) (hl : s.length < 1000000000000) : spec_ReadDec.f s = some (readDec s) := by
 have hb := digStep_bound (s.take 11) (0, 0) 0 (by decide) (Nat.le_refl _)
 have h11 : (s.take 11).length ≤ 11 := by rw [List.length_take]; omega
 have hpow : 10 ^ (0 + (s.take 11).length) ≤ 10 ^ 11 := Nat.pow_le_pow_right (by omega) (by omega)
 have hv : (digFold (s.take 11)).1 < 100000000000 := Nat.lt_of_lt_of_le hb.1 hpow
 unfold spec_ReadDec.f readDec
 rw [spec_ReadDec_l0 s hl, Option.bind_some]
 have e1 : (bif decide ((s.length : Int) > 0) then
   bif inB 0 s.length then
   bif (bAt s 0) == 45 then some (s, w64 (0 - ((digFold (s.take 11)).1 : Int)), ((digFold (s.take 11)).2 : Int)) else some (s, ((digFold (s.take 11)).1 : Int), ((digFold (s.take 11)).2 : Int))
   else none
   else some (s, ((digFold (s.take 11)).1 : Int), ((digFold (s.take 11)).2 : Int)) : Option (List UInt8 × Int × Int)) =
   some (s, (if sgn s = true then -((digFold (s.take 11)).1 : Int) else ((digFold (s.take 11)).1 : Int)), ((digFold (s.take 11)).2 : Int)) := by
  cases s with
  | nil => rfl
  | cons b r =>
   have c1 : ((b :: r).length : Int) > 0 := by simp
   have c2 : inB 0 (b :: r).length = true := by unfold inB; simp
   have c3 : bAt (b :: r) 0 = (b.toNat : Int) := rfl
   simp only [c1, decide_true, cond_true, c2, c3, sgn]
   by_cases z : b = 45
   ·subst z
    have hw : w64 (0 - ((digFold (((45 : UInt8) :: r).take 11)).1 : Int)) = -((digFold (((45 : UInt8) :: r).take 11)).1 : Int) := by rw [w64_id (by omega) (by omega)]; omega
    rw [hw]; rfl
   ·have z1 : ((b.toNat : Int) == 45) = false := by
     have : ¬ (b.toNat : Int) = 45 := fun h => z (by
      have : b.toNat = 45 := by omega
      exact UInt8.toNat_inj.1 (by rw [this]; rfl))
     simpa using this
    have z2 : (b == 45) = false := by simpa using z
    simp only [z1, cond_false, z2, Bool.false_eq_true, if_false]
 dsimp only
 rw [e1, Option.bind_some]
 dsimp only
 have hvb : -1000000000000000000 < (if sgn s = true then -((digFold (s.take 11)).1 : Int) else ((digFold (s.take 11)).1 : Int)) ∧ (if sgn s = true then -((digFold (s.take 11)).1 : Int) else ((digFold (s.take 11)).1 : Int)) < 1000000000000000000 := by split <;> omega
 generalize (if sgn s = true then -((digFold (s.take 11)).1 : Int) else ((digFold (s.take 11)).1 : Int)) = v at hvb ⊢
 generalize (digFold (s.take 11)).2 = q
 have hd := spec_Dec_all v hvb
 by_cases c1 : 9 < q
 ·have h1 : decide ((q : Int) > 9) = true := by simp; omega
  rw [h1, cond_true, if_pos (.inl c1)]
 have h1 : decide ((q : Int) > 9) = false := by simp; omega
 rw [h1, cond_false]
 by_cases c2 : 10 < s.length
 ·have h2 : decide ((s.length : Int) > 10) = true := by simp; omega
  rw [h2, cond_true, if_pos (.inr (.inl c2))]
 have h2 : decide ((s.length : Int) > 10) = false := by simp; omega
 rw [h2, cond_false, hd, Option.bind_some]
 by_cases c3 : Lib.itoa v = s
 ·rw [if_neg (by simp only [not_or, ne_eq, Decidable.not_not]; exact ⟨c1, c2, c3⟩)]
  have : (Lib.itoa v == s) = true := by rw [c3]; simp
  simp only [this, Bool.not_true, cond_false]
 ·rw [if_pos (.inr (.inr c3))]
  have : (Lib.itoa v == s) = false := by simpa using c3
  simp only [this, Bool.not_false, cond_true]
theorem digFold_digits : ∀ (k n : Nat), n < k → ∀ (a : Nat × Nat), (Lib.decDigits n).foldl digStep a = (a.1 * 10 ^ (Lib.decDigits n).length + n, a.2 + (Lib.decDigits n).length)
 | 0, n, h, a => by omega
 | k + 1, n, h, a => by
  have hd : ∀ m, m < 10 → ∀ a : Nat × Nat, digStep a (UInt8.ofNat (48 + m)) = (a.1 * 10 + m, a.2 + 1) := fun m hm a => by
   have e : (UInt8.ofNat (48 + m)).toNat = 48 + m := by simp only [UInt8.toNat_ofNat']; omega
   unfold digStep isDig
   rw [e, if_pos (by simp; omega)]
   simp
  by_cases c : n < 10
  ·rw [Lib.decDigits_one c]
   simp only [List.foldl_cons, List.foldl_nil, List.length_cons, List.length_nil]
   rw [hd n c]
  ·have := digs_step (n := n) (by omega)
   unfold digs at this
   rw [if_neg (by omega), if_neg (by omega)] at this
   rw [this, List.foldl_append, digFold_digits k (n / 10) (by omega), List.foldl_cons, List.foldl_nil, hd _ (by omega)]
   simp only [List.length_append, List.length_cons, List.length_nil, Nat.zero_add, Prod.mk.injEq]
   constructor
   ·rw [Nat.pow_succ, ← Nat.mul_assoc, Nat.add_mul]; omega
   ·omega
theorem readDec_digits {n : Nat} (h : n ≤ 100000) : readDec (Lib.decDigits n) = ((n : Int), true) := by
 have hl := digits_len 5 n (by show _ < 1000000; omega)
 have ht : (Lib.decDigits n).take 11 = Lib.decDigits n := List.take_of_length_le (by omega)
 have hf : digFold (Lib.decDigits n) = (n, (Lib.decDigits n).length) := by
  unfold digFold
  rw [digFold_digits (n + 1) n (by omega)]
  simp
 have hh : sgn (Lib.decDigits n) = false := by
  have ha := digs_name (n + 1) n (by omega)
  rw [List.all_eq_true] at ha
  cases e : Lib.decDigits n with
  | nil => rfl
  | cons b r =>
   have := ha b (by rw [e]; exact List.mem_cons_self)
   show (b == 45) = false
   cases h : b == 45 with
   | false => rfl
   | true =>
    have : b = 45 := by simpa using h
    subst this
    revert this; decide
 unfold readDec
 simp only [ht, hf, hh, Bool.false_eq_true, if_false]
 rw [if_neg]
 simp only [not_or, ne_eq, Decidable.not_not]
 exact ⟨by omega, by omega, itoa_nat n⟩
theorem hintName_inj {i j : Int} (hi : 1 ≤ i ∧ i ≤ 100000) (hj : 1 ≤ j ∧ j ≤ 100000) (h : hintName i = hintName j) : i = j := by
 unfold hintName nameN at h
 rw [if_pos hi, if_pos hj] at h
 have := digs_inj (i.toNat + 1) i.toNat j.toNat (by omega) (List.append_cancel_left h)
 omega
def named (name : List UInt8) (id : Int) : Prop := (1 ≤ id ∧ id ≤ 100000) ∧ (name = segName id ∨ name = hintName id)
theorem named_inj {name : List UInt8} {i j : Int} (hi : named name i) (hj : named name j) : i = j := by
 obtain ⟨h1, h2⟩ := hi
 obtain ⟨k1, k2⟩ := hj
 rcases h2 with h2 | h2 <;> rcases k2 with k2 | k2
 ·exact segName_inj h1 k1 (h2.symm.trans k2)
 ·exact absurd (h2.symm.trans k2) (segName_hint i j h1)
 ·exact absurd (k2.symm.trans h2) (segName_hint j i k1)
 ·exact hintName_inj h1 k1 (h2.symm.trans k2)
noncomputable def idOf (name : List UInt8) : Int × Bool := @dite (Int × Bool) (∃ id, named name id) (Classical.propDecidable _) (fun h => (h.choose, true)) (fun _ => (0, false))
theorem idOf_yes {name : List UInt8} {id : Int} (h : named name id) : idOf name = (id, true) := by
 have hx : ∃ id, named name id := ⟨id, h⟩
 unfold idOf
 rw [dif_pos hx, named_inj hx.choose_spec h]
theorem idOf_no {name : List UInt8} (h : ¬ ∃ id, named name id) : idOf name = (0, false) := by
 unfold idOf; rw [dif_neg h]
theorem idOf_named {name : List UInt8} {id : Int} (h : idOf name = (id, true)) : named name id := by
 by_cases hx : ∃ id, named name id
 ·obtain ⟨j, hj⟩ := hx
  rw [idOf_yes hj] at h
  simp only [Prod.mk.injEq, and_true] at h
  rw [← h]; exact hj
 ·rw [idOf_no hx] at h; simp at h
noncomputable def idAt (name : List UInt8) (k : Nat) : Option Int :=
 if k < name.length ∧ (readDec (name.drop k)).2 = true ∧ 1 ≤ (readDec (name.drop k)).1 ∧ (segName (readDec (name.drop k)).1 = name ∨ hintName (readDec (name.drop k)).1 = name) then some (readDec (name.drop k)).1 else none
theorem idAt_named {name : List UInt8} {k : Nat} {n : Int} (h : idAt name k = some n) : named name n := by
 unfold idAt at h
 split at h
 ·rename_i c
  have h : (readDec (name.drop k)).1 = n := Option.some.inj h
  rw [h] at c
  obtain ⟨c1, c2, c3, c4⟩ := c
  have hr : n ≤ 100000 := by
   rcases Int.lt_or_le 100000 n with z | z
   ·exfalso
    unfold segName hintName nameN at c4
    rw [if_neg (by omega), if_neg (by omega)] at c4
    rcases c4 with e | e <;> rw [← e] at c1 <;> simp at c1
   ·exact z
  exact ⟨⟨c3, hr⟩, c4.imp Eq.symm Eq.symm⟩
 ·simp at h
theorem idAt_all {name : List UInt8} {id : Int} (h : named name id) : idAt name 3 = some id ∨ idAt name 4 = some id := by
 obtain ⟨h1, h2⟩ := h
 obtain ⟨n, rfl⟩ : ∃ n : Nat, id = (n : Int) := ⟨id.toNat, by omega⟩
 have hr := readDec_digits (n := n) (by omega)
 have hne : (Lib.decDigits n) ≠ [] := fun e => by
  have := digFold_digits (n + 1) n (by omega) (0, 0)
  rw [e] at this
  simp at this; omega
 have hpos : 0 < (Lib.decDigits n).length := List.length_pos_iff.2 hne
 rcases h2 with h2 | h2
 ·left
  have e : name = [115, 101, 103] ++ Lib.decDigits n := by rw [h2]; unfold segName nameN; rw [if_pos h1, Int.toNat_natCast]
  have hd : name.drop 3 = Lib.decDigits n := by rw [e]; rfl
  unfold idAt
  rw [hd, hr]
  rw [if_pos ⟨by rw [e, List.length_append]; show 3 < 3 + _; omega, rfl, h1.1, .inl h2.symm⟩]
 ·right
  have e : name = [104, 105, 110, 116] ++ Lib.decDigits n := by rw [h2]; unfold hintName nameN; rw [if_pos h1, Int.toNat_natCast]
  have hd : name.drop 4 = Lib.decDigits n := by rw [e]; rfl
  unfold idAt
  rw [hd, hr]
  rw [if_pos ⟨by rw [e, List.length_append]; show 4 < 4 + _; omega, rfl, h1.1, .inr h2.symm⟩]
theorem spec_IdOf_eq (name : List UInt8) (hl : name.length < 1000000000000) : spec_IdOf.f name = some (idOf name) := by
 have key := lp_up (step := spec_IdOf.l0) (fun n (_ : Unit) => (name, (n : Int))) 5 (fun n _ => match (if n = 3 then idAt name 3 else none), (if n ≤ 4 then idAt name 4 else none) with | some x, _ => .inr (x, true) | none, some x => .inr (x, true) | none, none => .inl ()) (fun n _ => 3 ≤ n)
  (fun rec n _ hn h3 ih => by
   rcases Nat.lt_or_ge n 5 with h | h
   ·have hw := w64_succ (show n + 1 < 9223372036854775808 by omega)
    have c1 : (n : Int) ≤ 4 := by omega
    have hone : (bif decide ((name.length : Int) > (n : Int)) then
      bif (decide (0 ≤ (n : Int)) && decide ((n : Int) ≤ (name.length : Int))) then
      (spec_ReadDec.f (name.drop (n : Int).toNat)).bind fun (t1_0, t1_1) =>
      (bif t1_1 then
      bif decide (t1_0 ≥ 1) then
      (spec_SegName.f t1_0).bind fun t2 =>
      bif t2 == name then
      some (Sum.inr (t1_0, true))
      else
      (spec_HintName.f t1_0).bind fun t3 =>
      bif t3 == name then
      some (Sum.inr (t1_0, true))
      else
      some (Sum.inl (name, (n : Int)))
      else
      some (Sum.inl (name, (n : Int)))
      else
      some (Sum.inl (name, (n : Int))) : Option ((List UInt8 × Int) ⊕ (Int × Bool))).bind (fun o4 => caseS o4 (fun (x0, x4) =>
      some (Sum.inl (x0, x4))) (fun (x2, x3) =>
      some (Sum.inr (x2, x3))))
      else none
      else
      some (Sum.inl (name, (n : Int))) : Option ((List UInt8 × Int) ⊕ (Int × Bool))) = some (match idAt name n with | some x => .inr (x, true) | none => .inl (name, (n : Int))) := by
     by_cases d : n < name.length
     ·have d1 : (name.length : Int) > (n : Int) := by omega
      have d2 : (decide (0 ≤ (n : Int)) && decide ((n : Int) ≤ (name.length : Int))) = true := by simp; omega
      simp only [d1, decide_true, cond_true, d2, Int.toNat_natCast, spec_ReadDec_eq (name.drop n) (by rw [List.length_drop]; omega), Option.bind_some]
      unfold idAt
      generalize readDec (name.drop n) = p
      obtain ⟨v, b⟩ := p
      simp only [spec_SegName_eq, spec_HintName_eq, Option.bind_some]
      cases b
      ·simp
      ·by_cases e : v ≥ 1
       ·by_cases e1 : segName v = name
        ·simp [d, e, e1, caseS_r]
        ·have e1' : (segName v == name) = false := by simpa using e1
         by_cases e2 : hintName v = name
         ·simp [d, e, e1', e1, e2, caseS_r]
         ·have e2' : (hintName v == name) = false := by simpa using e2
          simp [d, e, e1', e1, e2', e2, caseS_l]
       ·have e' : ¬ 1 ≤ v := e
        simp [d, e, e', caseS_l]
     ·have d1 : ¬ (name.length : Int) > (n : Int) := by omega
      simp only [d1, decide_false, cond_false]
      unfold idAt
      rw [if_neg (fun z => d z.1)]
    simp only [spec_IdOf.l0, c1, decide_true, cond_true]
    erw [hone]
    simp only [Option.bind_some]
    have ih := ih () h (by omega)
    have : n = 3 ∨ n = 4 := by omega
    rcases this with rfl | rfl
    ·cases e3 : idAt name 3 with
     | some x => simp [caseS_r]
     | none =>
      simp only [caseS_l, hw]
      rw [ih]
      simp
    ·cases e4 : idAt name 4 with
     | some x => simp [caseS_r]
     | none =>
      simp only [caseS_l, hw]
      rw [ih]
      simp
   ·have : n = 5 := by omega
    subst this
    simp [spec_IdOf.l0])
  (by omega) 3 () (by omega) (Nat.le_refl _)
 have key : lp spec_IdOf.l0 (name, 3) = _ := key
 unfold spec_IdOf.f
 rw [key, Option.bind_some]
 simp only [if_true, show (3 : Nat) ≤ 4 by omega]
 cases e3 : idAt name 3 with
 | some x => simp only [caseS_r]; rw [idOf_yes (idAt_named e3)]
 | none =>
  cases e4 : idAt name 4 with
  | some x => simp only [caseS_r]; rw [idOf_yes (idAt_named e4)]
  | none =>
   simp only [caseS_l]
   rw [idOf_no]
   rintro ⟨id, h⟩
   rcases idAt_all h with z | z
   ·rw [e3] at z; simp at z
   ·rw [e4] at z; simp at z
noncomputable def orphB (v : LiveT) (f : FileT) : Bool := ((idOf f.1).2 && !(v.2.any fun i => i == (idOf f.1).1)) || f.1 == tempN
noncomputable def orphP (d : DiskT) (v : LiveT) : List (List UInt8) := if diskOk d = false then [] else (d.1.filter (orphB v)).map (·.1)
theorem spec_Orphans_l2 (d : DiskT) (v : LiveT) (acc : List (List UInt8)) (i id : Int) (is : Bool) (hv : v.2.length < 1000000000) :
  lp spec_Orphans.l2 (d, v, acc, i, id, is, false, 0) = some (d, v, acc, i, is, v.2.any fun x => x == id) := by
 have key := lp_up (step := spec_Orphans.l2) (fun n (b : Bool) => (d, v, acc, i, id, is, b, (n : Int))) v.2.length (fun n b => (d, v, acc, i, is, b || (v.2.drop n).any fun x => x == id)) (fun _ _ => True)
  (fun rec n b hn _ ih => by
   rcases Nat.lt_or_ge n v.2.length with h | h
   ·have hw := w64_succ (show n + 1 < 9223372036854775808 by omega)
    rw [List.drop_eq_getElem_cons h, List.any_cons]
    simp only [spec_Orphans.l2, Int.ofNat_lt, h, decide_true, cond_true, inB_nat, rdA_nat, getD_lt h]
    cases b
    ·simp only [cond_false, Option.bind_some, hw, ih _ h trivial, Bool.false_or]
    ·simp only [cond_true, Option.bind_some, hw, ih _ h trivial, Bool.true_or]
   ·have : n = v.2.length := by omega
    subst this
    simp [spec_Orphans.l2])
  (by omega) 0 false (Nat.zero_le _) trivial
 have key : lp spec_Orphans.l2 (d, v, acc, i, id, is, false, 0) = _ := key
 rw [key, List.drop_zero, Bool.false_or]
theorem lim16' {a : Nat} (h : a < 1000000000001) : (a + 1) * 16 ≤ 140737488355328 := by omega
theorem spec_Orphans_eq (d : DiskT) (v : LiveT) (hd : dlim d) (hv : v.2.length < 1000000000) : spec_Orphans.f d v = some (orphP d v) := by
 have key := lp_up (step := spec_Orphans.l0) (fun n (acc : List (List UInt8)) => (d, v, acc, (n : Int))) d.1.length (fun n acc => acc ++ ((d.1.drop n).filter (orphB v)).map (·.1)) (fun n acc => acc.length ≤ n)
  (fun rec n acc hn ha ih => by
   rcases Nat.lt_or_ge n d.1.length with h | h
   ·have hlen := hd.1
    have hw := w64_succ (show n + 1 < 9223372036854775808 by omega)
    have hnm := hd.2.2 _ (List.getElem_mem h)
    have hb : (acc.length + ([d.1[n].1] : List (List UInt8)).length) * 16 ≤ 140737488355328 := lim16' (by omega)
    have i1 := ih (acc ++ [d.1[n].1]) h (by rw [List.length_append]; show acc.length + 1 ≤ n + 1; omega)
    have i2 := ih acc h (by omega)
    rw [List.drop_eq_getElem_cons h, List.filter_cons]
    simp only [spec_Orphans.l0, Int.ofNat_lt, h, decide_true, cond_true, inB_nat, rdA_nat, getD_lt h]
    rw [spec_IdOf_eq d.1[n].1 hnm, Option.bind_some]
    simp only [spec_Orphans_l2 d v acc (n : Int) _ _ hv, Option.bind_some, hb, decide_true, cond_true]
    have hob : orphB v d.1[n] = (((idOf d.1[n].1).2 && !(v.2.any fun i => i == (idOf d.1[n].1).1)) || d.1[n].1 == tempN) := rfl
    rw [hob]
    obtain ⟨tb, hT⟩ : ∃ tb, (d.1[n].1 == tempN) = tb := ⟨_, rfl⟩
    have ht : (d.1[n].1 == [116, 101, 109, 112]) = tb := hT
    rw [hT]
    cases (idOf d.1[n].1).2 <;> cases (v.2.any fun i => i == (idOf d.1[n].1).1) <;> cases tb <;>
     simp only [inB_nat, h, rdA_nat, getD_lt h, ht, hb, decide_true, cond_true, cond_false, Option.bind_some, Bool.not_true, Bool.not_false, Bool.and_true, Bool.and_false, Bool.or_true, Bool.or_false, Bool.true_and, Bool.false_and, Bool.false_or, Bool.true_or, if_true, Bool.false_eq_true, if_false, hw, i1, i2, List.map_cons, List.append_assoc, List.singleton_append]
   ·have : n = d.1.length := by omega
    subst this
    simp [spec_Orphans.l0])
  (by have := hd.1; omega) 0 [] (Nat.zero_le _) (Nat.le_refl _)
 have key : lp spec_Orphans.l0 (d, v, [], 0) = _ := key
 unfold spec_Orphans.f orphP
 rw [spec_DiskOk_eq d hd, Option.bind_some]
 cases diskOk d
 ·simp
 ·simp only [Bool.not_true, cond_false, key, Option.bind_some, List.drop_zero, List.nil_append, Bool.true_eq_false, if_false]
theorem sstep_inv {op : DiskT → DiskT × Int} {w : WorkT} (h : (sstep op w).2 = 0) : w.2 = 0 ∧ (op w.1).2 = 0 ∧ sstep op w = op w.1 := by
 unfold sstep at h ⊢
 split at h
 ·rename_i c; rw [if_pos c]; exact ⟨c, h, rfl⟩
 ·rename_i c; exact absurd h c
theorem goneTxt {d : DiskT} {n : List UInt8} (h : (dGone n d).2 = 0) : (fileText (dGone n d).1 n).2 = false := by
 unfold dGone at h ⊢
 rcases fileIx_cases d.1 n with ⟨e, hno⟩ | ⟨i, hi, e, hn⟩
 ·rw [if_neg (by omega)]
  show (fileText d n).2 = false
  unfold fileText
  split
  ·rfl
  ·rw [ix_none e]
 ·rw [if_pos (by omega)] at h ⊢
  exact removeTxt h
theorem absGone {d : DiskT} (hk : diskOk d = true) {n m : List UInt8} (h : (fileText d n).2 = false) : (fileText (dGone m d).1 n).2 = false := by
 by_cases c : n = m
 ·subst c
  unfold dGone
  rw [if_neg (by rw [hasnt_ix hk h]; omega)]
  exact h
 ·rw [ft_Gone hk c]; exact h
theorem sDropGone : ∀ (names : List (List UInt8)) {w : WorkT}, diskOk w.1 = true → (sDrop names w).2 = 0 → w.2 = 0 ∧ (∀ n, (fileText w.1 n).2 = false → (fileText (sDrop names w).1 n).2 = false) ∧ ∀ n ∈ names, (fileText (sDrop names w).1 n).2 = false
 | [], w, _, h => ⟨h, fun n hn => hn, fun n hn => by simp at hn⟩
 | m :: names, w, hk, h => by
  have h : (sDrop names (sstep (dGone m) w)).2 = 0 := h
  have hk1 : diskOk (sstep (dGone m) w).1 = true := dk_sstep (op := dGone m) hk fun k => dk_Gone k m
  obtain ⟨a1, a2, a3⟩ := sDropGone names hk1 h
  obtain ⟨h1, h2, h3⟩ := sstep_inv (op := dGone m) a1
  have hab : ∀ n, (fileText w.1 n).2 = false → (fileText (sstep (dGone m) w).1 n).2 = false := fun n hn => by
   rw [h3]; exact absGone hk hn
  refine ⟨h1, fun n hn => a2 n (hab n hn), fun n hn => ?_⟩
  rcases List.mem_cons.1 hn with rfl | hn
  ·refine a2 _ ?_
   rw [h3]; exact goneTxt h2
  ·exact a3 n hn
theorem srt_nodup {α : Type} {l : List (List UInt8 × α)} (h : srt l) : (l.map (·.1)).Nodup := by
 unfold srt at h
 unfold List.Nodup
 rw [List.pairwise_map]
 exact h.imp fun hab => less_ne hab
theorem parseUint_snoc (d : UInt8) : ∀ (l : List UInt8) (a u : Nat), Lib.parseUint10 a l = .ok u → (48 ≤ d.toNat ∧ d.toNat ≤ 57) → u < 1000000000000 → Lib.parseUint10 a (l ++ [d]) = .ok (u * 10 + (d.toNat - 48))
 | [], a, u, h, hd, hu => by
  have h : a = u := by simp only [Lib.parseUint10] at h; injection h
  subst h
  show Lib.parseUint10 a [d] = _
  rw [Lib.parseUint10, if_pos hd, if_neg (by omega), if_neg (by omega)]
  rfl
 | c :: l, a, u, h, hd, hu => by
  rw [List.cons_append, Lib.parseUint10]
  rw [Lib.parseUint10] at h
  split
  ·rename_i c1
   rw [if_pos c1] at h
   split
   ·rename_i c2; rw [if_pos c2] at h; cases h
   ·rename_i c2
    rw [if_neg c2] at h
    split
    ·rename_i c3; rw [if_pos c3] at h; cases h
    ·rename_i c3
     rw [if_neg c3] at h
     exact parseUint_snoc d l _ u h hd hu
  ·rename_i c1
   rw [if_neg c1] at h; cases h
theorem parseUint_digits : ∀ (k n : Nat), n < k → n < 1000000000000 → Lib.parseUint10 0 (Lib.decDigits n) = .ok n
 | 0, n, h, _ => by omega
 | k + 1, n, h, hn => by
  have e : ∀ m, m < 10 → (UInt8.ofNat (48 + m)).toNat = 48 + m := fun m hm => by simp only [UInt8.toNat_ofNat']; omega
  by_cases c : n < 10
  ·rw [Lib.decDigits_one c, Lib.parseUint10, e n c, if_pos (by omega), if_neg (by omega), if_neg (by omega), Lib.parseUint10]
   congr 1; omega
  ·have := digs_step (n := n) (by omega)
   unfold digs at this
   rw [if_neg (by omega), if_neg (by omega)] at this
   rw [this, parseUint_snoc _ _ 0 (n / 10) (parseUint_digits k (n / 10) (by omega) (by omega)) (by rw [e _ (by omega)]; omega) (by omega), e _ (by omega)]
   congr 1; omega
theorem digits_ne (n : Nat) : Lib.decDigits n ≠ [] := fun e => by
 have h1 := digFold_digits (n + 1) n (by omega) (1, 0)
 rw [e] at h1
 have h2 := digFold_digits (n + 1) n (by omega) (0, 0)
 rw [e] at h2
 simp at h1 h2
 subst h2
 rw [Lib.decDigits_one (by omega)] at e
 simp at e
theorem digits_head (n : Nat) {c : UInt8} {r : List UInt8} (h : Lib.decDigits n = c :: r) : isDig c = true := by
 have ha := digs_name (n + 1) n (by omega)
 have key : ∀ (k n : Nat), n < k → ∀ b ∈ Lib.decDigits n, isDig b = true := by
  intro k
  induction k with
  | zero => intro n h; omega
  | succ k ih =>
   intro n h b hb
   have e : ∀ m, m < 10 → isDig (UInt8.ofNat (48 + m)) = true := fun m hm => by
    unfold isDig
    have : (UInt8.ofNat (48 + m)).toNat = 48 + m := by simp only [UInt8.toNat_ofNat']; omega
    rw [this]; simp; omega
   by_cases c : n < 10
   ·rw [Lib.decDigits_one c] at hb
    rw [List.mem_singleton.1 hb]; exact e n c
   ·have := digs_step (n := n) (by omega)
    unfold digs at this
    rw [if_neg (by omega), if_neg (by omega)] at this
    rw [this] at hb
    rcases List.mem_append.1 hb with hb | hb
    ·exact ih (n / 10) (by omega) b hb
    ·rw [List.mem_singleton.1 hb]; exact e _ (by omega)
 exact key (n + 1) n (by omega) c (by rw [h]; exact List.mem_cons_self)
theorem atoiAll_digits {n : Nat} (hn : n < 1000000000000) : Lib.atoiAll (Lib.decDigits n) = .ok (n : Int) := by
 have hp := parseUint_digits (n + 1) n (by omega) hn
 cases e : Lib.decDigits n with
 | nil => exact absurd e (digits_ne n)
 | cons c r =>
  have hd := digits_head n e
  unfold isDig at hd
  simp only [Bool.and_eq_true, decide_eq_true_eq] at hd
  rw [Lib.atoiAll_plain c r (by omega) (by omega)]
  rw [e] at hp
  unfold Lib.parseMag
  rw [if_neg (by simp), hp]
  unfold Lib.signless
  simp
  omega
def readDecI (s : List UInt8) : Int × Bool :=
 match Lib.atoiAll s with
 | .ok n => if Lib.itoa n = s ∧ -999999999 ≤ n ∧ n ≤ 999999999 then (n, true) else (0, false)
 | _ => (0, false)
theorem impl_Dec_eq (n : Int) (h : -9223372036854775808 ≤ n ∧ n ≤ 9223372036854775807) : impl_Dec.f n = some (Lib.itoa n) := by
 unfold impl_Dec.f strconv_Itoa.f
 have : (decide (-9223372036854775808 ≤ n) && decide (n ≤ 9223372036854775807)) = true := by simp; omega
 rw [this]; rfl
theorem impl_ReadDec_eq (s : List UInt8) (hl : s.length < 1000000000000) : impl_ReadDec.f s = some (readDecI s) := by
 unfold impl_ReadDec.f readDecI strconv_Atoi.f
 have h1 : decide (s.length ≤ 281474976710656) = true := by simp; omega
 rw [h1, cond_true]
 rcases num3 (Lib.atoiAll s) with ⟨n, ha⟩ | ha | ha
 ·rw [ha]
  have hb := Lib.atoiAll_bounds ha
  simp only [Option.bind_some, cond_false, impl_Dec_eq n hb, impl_in_eq]
  by_cases c : Lib.itoa n = s
  ·have : (Lib.itoa n == s) = true := by simpa using c
   simp only [this, Bool.not_true, cond_false]
   by_cases c2 : -999999999 ≤ n ∧ n ≤ 999999999
   ·rw [if_pos ⟨c, c2⟩]
    simp [c2]
   ·rw [if_neg (fun z => c2 z.2)]
    have : decide (-999999999 ≤ n ∧ n ≤ 999999999) = false := decide_eq_false c2
    simp only [this, Bool.not_false, cond_true]
  ·have : (Lib.itoa n == s) = false := by simpa using c
   rw [if_neg (fun z => c z.1)]
   simp only [this, Bool.not_false, cond_true]
 ·simp [ha]
 ·simp [ha]
theorem readDecI_true {s : List UInt8} {n : Int} (h : readDecI s = (n, true)) : Lib.itoa n = s := by
 unfold readDecI at h
 split at h
 ·split at h
  ·rename_i c
   simp only [Prod.mk.injEq, and_true] at h
   rw [← h]; exact c.1
  ·simp at h
 ·simp at h
theorem readDecI_digits {n : Nat} (h : n ≤ 100000) : readDecI (Lib.decDigits n) = ((n : Int), true) := by
 unfold readDecI
 rw [atoiAll_digits (by omega)]
 simp only
 rw [if_pos ⟨itoa_nat n, by omega, by omega⟩]
theorem HasPrefix_eq (s p : List UInt8) : stringslite_HasPrefix.f s p = some (decide (p.length ≤ s.length) && (s.take p.length == p)) := by
 unfold stringslite_HasPrefix.f
 by_cases c : p.length ≤ s.length
 ·have c1 : (s.length : Int) ≥ (p.length : Int) := by omega
  have c2 : (decide (0 ≤ (p.length : Int)) && decide ((p.length : Int) ≤ (s.length : Int))) = true := by simp; omega
  rw [c2, decide_eq_true c1, cond_true, cond_true, decide_eq_true c, Bool.true_and, Int.toNat_natCast]
 ·have c1 : ¬ (s.length : Int) ≥ (p.length : Int) := by omega
  simp only [c1, c, decide_false, cond_false, Bool.false_and]
theorem CutPrefix_yes (p r : List UInt8) : strings_CutPrefix.f (p ++ r) p = some (r, true) := by
 unfold strings_CutPrefix.f stringslite_CutPrefix.f
 rw [HasPrefix_eq]
 have c1 : decide (p.length ≤ (p ++ r).length) = true := by simp
 have c2 : ((p ++ r).take p.length == p) = true := by rw [List.take_left]; simp
 have c3 : (decide (0 ≤ (p.length : Int)) && decide ((p.length : Int) ≤ ((p ++ r).length : Int))) = true := by rw [List.length_append]; simp; omega
 simp only [c1, c2, Bool.true_and, Option.bind_some, Bool.not_true, cond_false, c3, cond_true, Int.toNat_natCast, List.drop_left]
theorem CutPrefix_no {s p : List UInt8} (h : ¬ ∃ r, s = p ++ r) : strings_CutPrefix.f s p = some (s, false) := by
 unfold strings_CutPrefix.f stringslite_CutPrefix.f
 rw [HasPrefix_eq]
 have c : (decide (p.length ≤ s.length) && (s.take p.length == p)) = false := by
  cases e : (decide (p.length ≤ s.length) && (s.take p.length == p)) with
  | false => rfl
  | true =>
   simp only [Bool.and_eq_true, decide_eq_true_eq, beq_iff_eq] at e
   exact absurd ⟨s.drop p.length, by rw [← e.2, List.length_take, Nat.min_eq_left e.1, List.take_append_drop]⟩ h
 simp only [c, Option.bind_some, Bool.not_false, cond_true]
theorem seg_pre {id : Int} (h : 1 ≤ id ∧ id ≤ 100000) : segName id = [115, 101, 103] ++ Lib.decDigits id.toNat := by unfold segName nameN; rw [if_pos h]
theorem hint_pre {id : Int} (h : 1 ≤ id ∧ id ≤ 100000) : hintName id = [104, 105, 110, 116] ++ Lib.decDigits id.toNat := by unfold hintName nameN; rw [if_pos h]
theorem idOf_rest {w r : List UInt8} {name : List UInt8} (hn : name = w ++ r) (hw : (w = [115, 101, 103] ∧ ∀ id, 1 ≤ id ∧ id ≤ 100000 → name ≠ hintName id) ∨ (w = [104, 105, 110, 116] ∧ ∀ id, 1 ≤ id ∧ id ≤ 100000 → name ≠ segName id)) :
  (if (readDecI r).2 = true ∧ 1 ≤ (readDecI r).1 ∧ (readDecI r).1 ≤ 100000 then ((readDecI r).1, true) else (0, false)) = idOf name := by
 have hnm : ∀ id, 1 ≤ id ∧ id ≤ 100000 → Lib.decDigits id.toNat = r → named name id := fun id hid e => by
  refine ⟨hid, ?_⟩
  rcases hw with ⟨hw, _⟩ | ⟨hw, _⟩
  ·left; rw [hn, hw, ← e, seg_pre hid]
  ·right; rw [hn, hw, ← e, hint_pre hid]
 by_cases c : (readDecI r).2 = true ∧ 1 ≤ (readDecI r).1 ∧ (readDecI r).1 ≤ 100000
 ·rw [if_pos c]
  have ht : readDecI r = ((readDecI r).1, true) := by rw [← c.1]
  have hi := readDecI_true ht
  generalize (readDecI r).1 = n at c hi
  obtain ⟨m, rfl⟩ : ∃ m : Nat, n = (m : Int) := ⟨n.toNat, by omega⟩
  rw [itoa_nat] at hi
  exact (idOf_yes (hnm (m : Int) c.2 (by rw [Int.toNat_natCast]; exact hi))).symm
 ·rw [if_neg c, idOf_no]
  rintro ⟨id, hid, hor⟩
  apply c
  have hr : r = Lib.decDigits id.toNat := by
   rcases hw with ⟨hw, hno⟩ | ⟨hw, hno⟩
   ·rcases hor with e | e
    ·rw [hn, hw, seg_pre hid] at e; exact List.append_cancel_left e
    ·exact absurd e (hno id hid)
   ·rcases hor with e | e
    ·exact absurd e (hno id hid)
    ·rw [hn, hw, hint_pre hid] at e; exact List.append_cancel_left e
  have := readDecI_digits (n := id.toNat) (by omega)
  rw [← hr] at this
  rw [this]
  exact ⟨rfl, by show (1 : Int) ≤ (id.toNat : Int); omega, by show (id.toNat : Int) ≤ 100000; omega⟩
theorem impl_IdOf_eq (name : List UInt8) (hl : name.length < 1000000000000) : impl_IdOf.f name = some (idOf name) := by
 have fin : ∀ (r : List UInt8), r.length < 1000000000000 → ((impl_ReadDec.f r).bind fun (t3_0, t3_1) =>
   bif !true then some ((0 : Int), false) else
   bif !t3_1 then some (0, false) else
   (impl_in.f t3_0 1 100000).bind fun t4 => bif !t4 then some (0, false) else some (t3_0, true)) = some (if (readDecI r).2 = true ∧ 1 ≤ (readDecI r).1 ∧ (readDecI r).1 ≤ 100000 then ((readDecI r).1, true) else (0, false)) := fun r hr => by
  rw [impl_ReadDec_eq r hr, Option.bind_some]
  generalize readDecI r = p
  obtain ⟨n, b⟩ := p
  simp only [Bool.not_true, cond_false, impl_in_eq, Option.bind_some]
  cases b
  ·simp
  ·by_cases c : 1 ≤ n ∧ n ≤ 100000
   ·simp [c]
   ·have : decide (1 ≤ n ∧ n ≤ 100000) = false := decide_eq_false c
    simp only [Bool.not_true, cond_false, this, Bool.not_false, cond_true]
    rw [if_neg (fun z => c z.2)]
 unfold impl_IdOf.f
 by_cases h1 : ∃ r, name = [115, 101, 103] ++ r
 ·obtain ⟨r, rfl⟩ := h1
  rw [List.length_append] at hl
  rw [CutPrefix_yes]
  have := fin r (by omega)
  simp only [Option.bind_some, Bool.not_true, cond_false] at this ⊢
  rw [this, idOf_rest rfl (.inl ⟨rfl, fun id hid e => by
   rw [hint_pre hid] at e
   have := congrArg (fun l => l.getD 0 0) e
   simp at this⟩)]
 ·rw [CutPrefix_no h1]
  by_cases h2 : ∃ r, name = [104, 105, 110, 116] ++ r
  ·obtain ⟨r, rfl⟩ := h2
   rw [List.length_append] at hl
   rw [Option.bind_some]
   simp only [Bool.not_false, cond_true]
   rw [CutPrefix_yes]
   have := fin r (by omega)
   simp only [Option.bind_some, Bool.not_true, cond_false] at this ⊢
   rw [this, idOf_rest rfl (.inr ⟨rfl, fun id hid e => by
    rw [seg_pre hid] at e
    have := congrArg (fun l => l.getD 0 0) e
    simp at this⟩)]
  ·rw [Option.bind_some]
   simp only [Bool.not_false, cond_true]
   rw [CutPrefix_no h2]
   simp only [Option.bind_some, impl_ReadDec_eq name hl, Bool.not_false, cond_true]
   rw [idOf_no]
   rintro ⟨id, hid, e | e⟩
   ·exact h1 ⟨_, e.trans (seg_pre hid)⟩
   ·exact h2 ⟨_, e.trans (hint_pre hid)⟩
theorem impl_hasInt_eq (l : List Int) (n : Int) (hl : l.length < 1000000000) : impl_hasInt.f l n = some (l.any fun x => x == n) := by
 have key := lp_up (step := impl_hasInt.l0) (fun k (_ : Unit) => (n, l, (l.length : Int), (k : Int))) l.length (fun k _ => if (l.drop k).any (fun x => x == n) = true then .inr true else .inl ()) (fun _ _ => True)
  (fun rec k _ hk _ ih => by
   rcases Nat.lt_or_ge k l.length with h | h
   ·have hw := w64_succ (show k + 1 < 9223372036854775808 by omega)
    rw [List.drop_eq_getElem_cons h, List.any_cons]
    simp only [impl_hasInt.l0, Int.ofNat_lt, h, decide_true, cond_true, inB_nat, rdA_nat, getD_lt h]
    cases hq : (l[k] == n)
    ·simp only [cond_false, hw, ih () h trivial, Bool.false_or]
    ·simp
   ·have : k = l.length := by omega
    subst this
    simp [impl_hasInt.l0])
  (by omega) 0 () (Nat.zero_le _) trivial
 have key : lp impl_hasInt.l0 (n, l, (l.length : Int), 0) = _ := key
 unfold impl_hasInt.f
 rw [key, Option.bind_some, List.drop_zero]
 cases l.any fun x => x == n
 ·simp [caseS_l]
 ·simp [caseS_r]
theorem impl_Orphans_eq (d : DiskT) (v : LiveT) (hd : dlim d) (hv : v.2.length < 1000000000) : impl_Orphans.f d v = some (orphP d v) := by
 have key := lp_up (step := impl_Orphans.l0) (fun n (acc : List (List UInt8)) => (v, acc, d.1, (d.1.length : Int), (n : Int))) d.1.length (fun n acc => acc ++ ((d.1.drop n).filter (orphB v)).map (·.1)) (fun n acc => acc.length ≤ n)
  (fun rec n acc hn ha ih => by
   rcases Nat.lt_or_ge n d.1.length with h | h
   ·have hlen := hd.1
    have hw := w64_succ (show n + 1 < 9223372036854775808 by omega)
    have hnm := hd.2.2 _ (List.getElem_mem h)
    have hb : (acc.length + ([d.1[n].1] : List (List UInt8)).length) * 16 ≤ 140737488355328 := lim16' (by omega)
    have i1 := ih (acc ++ [d.1[n].1]) h (by rw [List.length_append]; show acc.length + 1 ≤ n + 1; omega)
    have i2 := ih acc h (by omega)
    rw [List.drop_eq_getElem_cons h, List.filter_cons]
    simp only [impl_Orphans.l0, Int.ofNat_lt, h, decide_true, cond_true, inB_nat, rdA_nat, getD_lt h]
    rw [impl_IdOf_eq d.1[n].1 hnm, Option.bind_some]
    have hob : orphB v d.1[n] = (((idOf d.1[n].1).2 && !(v.2.any fun i => i == (idOf d.1[n].1).1)) || d.1[n].1 == tempN) := rfl
    rw [hob]
    obtain ⟨tb, hT⟩ : ∃ tb, (d.1[n].1 == tempN) = tb := ⟨_, rfl⟩
    have ht : (d.1[n].1 == [116, 101, 109, 112]) = tb := hT
    rw [hT]
    simp only [impl_hasInt_eq v.2 _ hv, ht]
    cases (idOf d.1[n].1).2 <;> cases (v.2.any fun i => i == (idOf d.1[n].1).1) <;> cases tb <;>
     simp only [inB_nat, h, rdA_nat, getD_lt h, ht, hb, decide_true, cond_true, cond_false, Option.bind_some, Bool.not_true, Bool.not_false, Bool.and_true, Bool.and_false, Bool.or_true, Bool.or_false, Bool.true_and, Bool.false_and, Bool.false_or, Bool.true_or, if_true, Bool.false_eq_true, if_false, hw, i1, i2, List.map_cons, List.append_assoc, List.singleton_append]
   ·have : n = d.1.length := by omega
    subst this
    simp [impl_Orphans.l0])
  (by have := hd.1; omega) 0 [] (Nat.zero_le _) (Nat.le_refl _)
 have key : lp impl_Orphans.l0 (v, [], d.1, (d.1.length : Int), 0) = _ := key
 unfold impl_Orphans.f orphP
 rw [impl_DiskOk_eq d hd, Option.bind_some]
 cases diskOk d
 ·simp
 ·simp only [Bool.not_true, cond_false, key, Option.bind_some, List.drop_zero, List.nil_append, Bool.true_eq_false, if_false]
def isLive (s : List UInt8) (v : LiveT) : Prop := liveOk v = true ∧ showLive v = s
def zeroLive : LiveT := (0, [])
def liveBody (v : LiveT) : List UInt8 := varT v.1 ++ varT (v.2.length : Int) ++ (v.2.map varT).flatten
theorem live_in {v : LiveT} (h : liveOk v = true) : numIn v.1 ∧ (∀ x ∈ v.2, numIn x ∧ x ≤ 100000) ∧ 1 ≤ v.2.length ∧ v.2.length ≤ 60 ∧ v.1 ≤ 100000 := by
 obtain ⟨k1, k2, k3, k4⟩ := (liveOk_iff v).1 h
 rw [w64_id (by omega) (by omega)] at k1
 have := idsOk_mem _ _ k1
 refine ⟨⟨by omega, by omega⟩, fun x hx => ?_, k3, k4, k2.2⟩
 have := this x hx
 exact ⟨⟨by omega, by omega⟩, by omega⟩
theorem varT_small {n : Int} (h : 0 ≤ n ∧ n ≤ 100000) : (varT n).length ≤ 3 := by
 obtain ⟨m, rfl⟩ : ∃ m : Nat, n = (m : Int) := ⟨n.toNat, by omega⟩
 rw [varT_nat m (by omega)]
 exact (varN_len 2 m (by show m < 2097152; omega)).2
theorem flat_len {l : List Int} (h : ∀ x ∈ l, 0 ≤ x ∧ x ≤ 100000) : ((l.map varT).flatten).length ≤ 3 * l.length := by
 induction l with
 | nil => simp
 | cons x l ih =>
  have h1 := varT_small (h x List.mem_cons_self)
  have h2 := ih (fun y hy => h y (List.mem_cons_of_mem _ hy))
  simp only [List.map_cons, List.flatten_cons, List.length_append, List.length_cons]
  omega
theorem liveBody_len {v : LiveT} (h : liveOk v = true) : (liveBody v).length ≤ 200 := by
 obtain ⟨h1, h2, h3, h4, h5⟩ := live_in h
 have a1 := varT_small ⟨h1.1, h5⟩
 have a2 := varT_small (n := (v.2.length : Int)) (by omega)
 have a3 := flat_len (l := v.2) (fun x hx => ⟨(h2 x hx).1.1, (h2 x hx).2⟩)
 unfold liveBody
 simp only [List.length_append]; omega
theorem isLive_frame {s : List UInt8} {v : LiveT} (h : isLive s v) : s = frame (liveBody v) ∧ unframe s = (liveBody v, (s.length : Int)) ∧ 5 ≤ s.length := by
 have e : s = frame (liveBody v) := by
  rw [← h.2]; unfold showLive; rw [if_neg (by rw [h.1]; simp)]; rfl
 have hb := unframe_back (liveBody_len h.1) []
 rw [List.append_nil, ← e] at hb
 exact ⟨e, hb, by rw [e]; exact frame_pos (liveBody_len h.1)⟩
theorem impl_ReadLive_back {s : List UInt8} {v : LiveT} (h : isLive s v) : impl_ReadLive.f s = some (v, true) := by
 obtain ⟨e1, e2, e3⟩ := isLive_frame h
 obtain ⟨n1, n2, n3, n4, n5⟩ := live_in h.1
 have hbl := liveBody_len h.1
 have hsl : s.length ≤ 211 := by rw [e1]; exact frame_len _
 obtain ⟨nx, ids⟩ := v
 have hcnt : numIn (ids.length : Int) := ⟨by omega, by have : ids.length ≤ 60 := n4; omega⟩
 have hbd : liveBody (nx, ids) = varT nx ++ (varT (ids.length : Int) ++ (ids.map varT).flatten) := by unfold liveBody; rw [List.append_assoc]
 have hbl2 := hbl
 rw [hbd] at hbl2
 simp only [List.length_append] at hbl2
 have m1 := num_back n1 (varT (ids.length : Int) ++ (ids.map varT).flatten) (by simp only [List.length_append]; omega)
 have m2 := num_back hcnt (ids.map varT).flatten (by simp only [List.length_append]; omega)
 have n4 : ids.length ≤ 60 := n4
 have key := lp_up (step := impl_ReadLive.l0) (fun n (_ : Unit) => (s, ((0, []) : LiveT), (s.length : Int), (((ids.drop n).map varT).flatten, false), ((nx, ids.take n) : LiveT), (ids.length : Int), (n : Int))) ids.length (fun _ _ => (s, (0, []), (s.length : Int), ([], false), (nx, ids))) (fun _ _ => True)
  (fun rec n _ hn _ ih => by
   rcases Nat.lt_or_ge n ids.length with h1 | h1
   ·have hw := w64_succ (show n + 1 < 9223372036854775808 by omega)
    have hin := (n2 _ (List.getElem_mem h1)).1
    have hd : ((ids.drop n).map varT).flatten = varT ids[n] ++ ((ids.drop (n + 1)).map varT).flatten := by
     rw [List.drop_eq_getElem_cons h1]; rfl
    have hfl : ((ids.drop n).map varT).flatten.length ≤ 3 * (ids.drop n).length := flat_len (fun x hx => ⟨(n2 x (List.mem_of_mem_drop hx)).1.1, (n2 x (List.mem_of_mem_drop hx)).2⟩)
    have m3 := num_back hin ((ids.drop (n + 1)).map varT).flatten (by rw [← hd]; rw [List.length_drop] at hfl; omega)
    have hb : ((ids.take n).length + ([ids[n]] : List Int).length) * 8 ≤ 140737488355328 := lim8 (by rw [List.length_take]; omega)
    have hi : ids.take n ++ [ids[n]] = ids.take (n + 1) := (List.take_succ_eq_append_getElem h1).symm
    simp only [impl_ReadLive.l0, Int.ofNat_lt, h1, decide_true, cond_true, hd, Bool.not_false, m3, Option.bind_some, hb, hw, hi, ih () h1 trivial]
   ·have : n = ids.length := by omega
    subst this
    simp [impl_ReadLive.l0])
  (by omega) 0 () (Nat.zero_le _) trivial
 have key : lp impl_ReadLive.l0 (s, (0, []), (s.length : Int), ((ids.map varT).flatten, false), (nx, []), (ids.length : Int), 0) = _ := key
 unfold impl_ReadLive.f
 rw [impl_Unframe_eq s (by omega), e2, hbd, Option.bind_some]
 simp only [m1, m2, Option.bind_some, key]
 have c1 : ((s.length : Int) == 0) = false := by
  have : ¬ (s.length : Int) = 0 := by omega
  simpa using this
 have hok : liveOk (nx, ids) = true := h.1
 simp only [c1, cond_false, bne_self_eq_false, beq_self_eq_true, Bool.not_true, impl_LiveOk_eq (nx, ids) (by show ids.length < 2 ^ 62; omega), Option.bind_some, hok]
theorem ReadLive_loop (s : List UInt8) (u : Int) (B : List UInt8) (hB : B.length < 1000000000000) (n1 : Int) (st : ScanT) (pre : List UInt8) (cnt : Int) (hst : st.1.length ≤ B.length) (hpre : st.2 = false → 0 ≤ cnt ∧ B = pre ++ st.1) :
  ∃ st' ids, lp impl_ReadLive.l0 (s, (0, []), u, st, (n1, []), cnt, 0) = some (s, (0, []), u, st', (n1, ids)) ∧ ids.length ≤ B.length + 1 ∧
   (st'.2 = false → st.2 = false ∧ (ids.length : Int) = cnt ∧ (∀ x ∈ ids, numIn x) ∧ B = pre ++ ((ids.map varT).flatten ++ st'.1)) := by
 have key := lp_ok (step := impl_ReadLive.l0) (a := (s, ((0, []) : LiveT), u, st, ((n1, []) : LiveT), cnt, 0))
  (fun a => ∃ (st' : ScanT) (ids : List Int), a = (s, (0, []), u, st', (n1, ids), cnt, (ids.length : Int)) ∧ st'.1.length ≤ B.length ∧ (st'.2 = false → ids.length + st'.1.length ≤ B.length) ∧ ids.length ≤ B.length + 1 ∧
   (st'.2 = false → st.2 = false ∧ (ids.length : Int) ≤ cnt ∧ (∀ x ∈ ids, numIn x) ∧ B = pre ++ ((ids.map varT).flatten ++ st'.1)))
  (fun a => if a.2.2.2.1.2 = true then 0 else a.2.2.2.1.1.length + 1)
  (fun b => ∃ (st' : ScanT) (ids : List Int), b = (s, (0, []), u, st', (n1, ids)) ∧ ids.length ≤ B.length + 1 ∧ (st'.2 = false → st.2 = false ∧ (ids.length : Int) = cnt ∧ (∀ x ∈ ids, numIn x) ∧ B = pre ++ ((ids.map varT).flatten ++ st'.1)))
  (fun rec a ha => by
   obtain ⟨st', ids, rfl, h1, h2, h4, h3⟩ := ha
   obtain ⟨t, bad⟩ := st'
   simp only at h1 h2 h3 h4
   by_cases c : (ids.length : Int) < cnt
   ·cases bad with
    | true =>
     left
     exact ⟨(s, (0, []), u, (t, true), (n1, ids)), by simp only [impl_ReadLive.l0, c, decide_true, cond_true, Bool.not_true, cond_false], (t, true), ids, rfl, h4, fun e => by simp at e⟩
    | false =>
     right
     obtain ⟨g1, g2, g3, g4⟩ := h3 rfl
     have g5 := h2 rfl
     have hw := w64_succ (show ids.length + 1 < 9223372036854775808 by omega)
     rcases num_cases t (by omega) with ⟨x, r, m, et, hx⟩ | m
     ·have hx1 := (readVar_back hx []).2
      have hle : t.length = (varT x).length + r.length := by rw [et, List.length_append]
      have hb : (ids.length + ([x] : List Int).length) * 8 ≤ 140737488355328 := lim8 (by omega)
      refine ⟨(s, (0, []), u, (r, false), (n1, ids ++ [x]), cnt, ((ids.length + 1 : Nat) : Int)), ⟨(r, false), ids ++ [x], by simp only [List.length_append, List.length_singleton], by show r.length ≤ _; omega, fun _ => by simp only [List.length_append, List.length_singleton]; omega, by simp only [List.length_append, List.length_singleton]; omega, fun _ => ⟨g1, by simp only [List.length_append, List.length_singleton]; omega, fun y hy => ?_, ?_⟩⟩, ?_, ?_⟩
      ·rcases List.mem_append.1 hy with hy | hy
       ·exact g3 y hy
       ·rw [List.mem_singleton.1 hy]; exact hx
      ·rw [g4, et]; simp
      ·simp only [Bool.false_eq_true, if_false]; omega
      ·simp only [impl_ReadLive.l0, c, decide_true, cond_true, Bool.not_false, m, Option.bind_some, hb, hw]
     ·have hb : (ids.length + ([0] : List Int).length) * 8 ≤ 140737488355328 := lim8 (by omega)
      refine ⟨(s, (0, []), u, (t, true), (n1, ids ++ [0]), cnt, ((ids.length + 1 : Nat) : Int)), ⟨(t, true), ids ++ [0], by simp only [List.length_append, List.length_singleton], h1, fun e => by simp at e, by simp only [List.length_append, List.length_singleton]; omega, fun e => by simp at e⟩, ?_, ?_⟩
      ·simp only [if_true, Bool.false_eq_true, if_false]; omega
      ·simp only [impl_ReadLive.l0, c, decide_true, cond_true, Bool.not_false, m, Option.bind_some, hb, hw]
   ·left
    refine ⟨(s, (0, []), u, (t, bad), (n1, ids)), by simp only [impl_ReadLive.l0, c, decide_false, cond_false], (t, bad), ids, rfl, h4, fun e => ?_⟩
    obtain ⟨g1, g2, g3, g4⟩ := h3 e
    exact ⟨g1, by omega, g3, g4⟩)
  ⟨st, [], rfl, hst, fun _ => by simp; exact hst, by simp, fun e => ⟨e, by simpa using (hpre e).1, by simp, by simpa using (hpre e).2⟩⟩ (by simp only; split <;> omega)
 obtain ⟨b, eb, st', ids, rfl, h1, h2⟩ := key
 exact ⟨st', ids, eb, h1, h2⟩
end Go.Rf.G
