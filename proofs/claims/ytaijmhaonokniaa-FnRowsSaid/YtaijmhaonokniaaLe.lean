/- Plain: keys in order; names; a disk that is right; files looked for. -/
import Derived.Test.YtaijmhaonokniaaLd
namespace Go.Rf.G
open Go Go.Rf
set_option linter.unusedVariables false
set_option linter.unusedSimpArgs false
set_option synthInstance.maxSize 4000

/-! ### the order of texts -/

theorem less_irrefl : ∀ a : List UInt8, Op.bytesLess a a = false
  | [] => rfl
  | x :: a => by simp [Op.bytesLess, less_irrefl a]

theorem u8_lt {a b : UInt8} : a < b ↔ a.toNat < b.toNat := UInt8.lt_iff_toNat_lt
theorem u8_eq {a b : UInt8} (h : a.toNat = b.toNat) : a = b := UInt8.toNat.inj h

theorem less_trans : ∀ a b c : List UInt8, Op.bytesLess a b = true → Op.bytesLess b c = true → Op.bytesLess a c = true
  | _, [], _, h, _ => by simp [Op.bytesLess] at h
  | _, _ :: _, [], _, h => by simp [Op.bytesLess] at h
  | [], _ :: _, _ :: _, _, _ => rfl
  | x :: a, y :: b, z :: c, h1, h2 => by
    simp only [Op.bytesLess, Bool.or_eq_true, decide_eq_true_eq, Bool.and_eq_true, beq_iff_eq] at h1 h2 ⊢
    rcases h1 with h1 | ⟨h1, k1⟩
    · rcases h2 with h2 | ⟨h2, k2⟩
      · left; rw [u8_lt] at *; omega
      · left; rw [← h2]; exact h1
    · rcases h2 with h2 | ⟨h2, k2⟩
      · left; rw [h1]; exact h2
      · exact .inr ⟨h1.trans h2, less_trans a b c k1 k2⟩

theorem less_total : ∀ a b : List UInt8, Op.bytesLess a b = false → a ≠ b → Op.bytesLess b a = true
  | [], [], _, h => absurd rfl h
  | [], _ :: _, h, _ => by simp [Op.bytesLess] at h
  | _ :: _, [], _, _ => rfl
  | x :: a, y :: b, h1, h2 => by
    simp only [Op.bytesLess, Bool.or_eq_false_iff, decide_eq_false_iff_not, Bool.and_eq_false_iff] at h1
    simp only [Op.bytesLess, Bool.or_eq_true, decide_eq_true_eq, Bool.and_eq_true, beq_iff_eq]
    by_cases e : x = y
    · subst e
      right
      refine ⟨rfl, less_total a b ?_ fun e => h2 (by rw [e])⟩
      rcases h1.2 with k | k
      · simp at k
      · exact k
    · left
      rw [u8_lt] at *
      have := h1.1
      have hne : x.toNat ≠ y.toNat := fun k => e (u8_eq k)
      omega

theorem less_asymm (a b : List UInt8) (h : Op.bytesLess a b = true) : Op.bytesLess b a = false := by
  cases hb : Op.bytesLess b a with
  | false => rfl
  | true => have := less_trans a b a h hb; rw [less_irrefl] at this; simp at this

theorem less_ne {a b : List UInt8} (h : Op.bytesLess a b = true) : a ≠ b := fun e => by rw [e, less_irrefl] at h; simp at h

theorem leK_not (a b : List UInt8) : leK a b = !Op.bytesLess b a := by
  unfold leK
  cases h : Op.bytesLess a b with
  | true => rw [less_asymm a b h]; rfl
  | false =>
    by_cases e : a = b
    · subst e; simp [h]
    · rw [less_total a b h e]
      have : (a == b) = false := by simpa using e
      simp [this]

/-! ### names -/

def nameB (b : UInt8) : Bool := (decide (97 ≤ b.toNat) && decide (b.toNat ≤ 122)) || (decide (48 ≤ b.toNat) && decide (b.toNat ≤ 57))

def nameOk (s : List UInt8) : Bool := s.all nameB && decide (1 ≤ s.length ∧ s.length ≤ 12)

theorem bAt_nat (s : List UInt8) (n : Nat) (h : n < s.length) : bAt s (n : Int) = (s[n].toNat : Int) := by
  unfold bAt
  rw [Int.toNat_natCast, getD_lt h]

theorem dec_ge {a : Nat} {k : Nat} : decide ((a : Int) ≥ (k : Int)) = decide (k ≤ a) := decide_eq_decide.2 (by omega)
theorem dec_le {a : Nat} {k : Nat} : decide ((a : Int) ≤ (k : Int)) = decide (a ≤ k) := decide_eq_decide.2 (by omega)

theorem impl_NameOk_eq (s : List UInt8) (hl : s.length < 2 ^ 62) : impl_NameOk.f s = some (nameOk s) := by
  have key := all_loop (step := impl_NameOk.l0) s nameB (fun n => (s, (n : Int))) s hl
    (fun rec n h => by
      have hw : w64 ((n : Int) + 1) = ((n + 1 : Nat) : Int) := w64_succ (by omega)
      have e1 : decide ((s[n].toNat : Int) ≥ 97) = decide (97 ≤ s[n].toNat) := dec_ge (k := 97)
      have e2 : decide ((s[n].toNat : Int) ≤ 122) = decide (s[n].toNat ≤ 122) := dec_le (k := 122)
      have e3 : decide ((s[n].toNat : Int) ≥ 48) = decide (48 ≤ s[n].toNat) := dec_ge (k := 48)
      have e4 : decide ((s[n].toNat : Int) ≤ 57) = decide (s[n].toNat ≤ 57) := dec_le (k := 57)
      simp only [impl_NameOk.l0, Int.ofNat_lt, h, decide_true, cond_true, inB_nat, bAt_nat s n h, e1, e2, e3, e4]
      unfold nameB
      cases decide (97 ≤ s[n].toNat) <;> cases decide (s[n].toNat ≤ 122) <;> cases decide (48 ≤ s[n].toNat) <;> cases decide (s[n].toNat ≤ 57) <;> simp [hw])
    (fun rec => by simp [impl_NameOk.l0])
  have key : lp impl_NameOk.l0 (s, 0) = _ := key
  unfold impl_NameOk.f nameOk
  rw [key, Option.bind_some]
  have e : decide ((1 : Int) ≤ (s.length : Int) ∧ (s.length : Int) ≤ 12) = decide (1 ≤ s.length ∧ s.length ≤ 12) := decide_eq_decide.2 (by omega)
  cases h : s.all nameB
  · simp
  · simp only [if_true, caseS_l, impl_in_eq, Option.bind_some, e, Bool.true_and]

theorem spec_NameOk_eq (s : List UInt8) (hl : s.length < 2 ^ 62) : spec_NameOk.f s = some (nameOk s) := by
  have key := all_loop (step := spec_NameOk.l0) s nameB (fun n => (s, (n : Int))) s hl
    (fun rec n h => by
      have hw : w64 ((n : Int) + 1) = ((n + 1 : Nat) : Int) := w64_succ (by omega)
      have e1 : decide ((s[n].toNat : Int) ≥ 97) = decide (97 ≤ s[n].toNat) := dec_ge (k := 97)
      have e2 : decide ((s[n].toNat : Int) ≤ 122) = decide (s[n].toNat ≤ 122) := dec_le (k := 122)
      have e3 : decide ((s[n].toNat : Int) ≥ 48) = decide (48 ≤ s[n].toNat) := dec_ge (k := 48)
      have e4 : decide ((s[n].toNat : Int) ≤ 57) = decide (s[n].toNat ≤ 57) := dec_le (k := 57)
      simp only [spec_NameOk.l0, Int.ofNat_lt, h, decide_true, cond_true, inB_nat, bAt_nat s n h, e1, e2, e3, e4]
      unfold nameB
      cases decide (97 ≤ s[n].toNat) <;> cases decide (s[n].toNat ≤ 122) <;> cases decide (48 ≤ s[n].toNat) <;> cases decide (s[n].toNat ≤ 57) <;> simp [hw])
    (fun rec => by simp [spec_NameOk.l0])
  have key : lp spec_NameOk.l0 (s, 0) = _ := key
  unfold spec_NameOk.f nameOk
  rw [key, Option.bind_some]
  have e : decide ((1 : Int) ≤ (s.length : Int) ∧ (s.length : Int) ≤ 12) = decide (1 ≤ s.length ∧ s.length ≤ 12) := decide_eq_decide.2 (by omega)
  cases h : s.all nameB
  · simp
  · simp only [if_true, caseS_l, spec_l1In_eq, Option.bind_some, e, Bool.true_and]

/-! ### disks -/

abbrev FileT := List UInt8 × List UInt8 × Int
abbrev DiskT := List FileT × Int × Int × Bool

def usedN (l : List FileT) : Nat := sumN (fun f => f.2.1.length) l

def fileOk (f : FileT) : Bool := nameOk f.1 && decide (0 ≤ f.2.2 ∧ f.2.2 ≤ (f.2.1.length : Int))

/-- Do the names rise, from a name on? -/
def riseF : Option (List UInt8) → List FileT → Bool
  | _, [] => true
  | none, f :: r => riseF (some f.1) r
  | some p, f :: r => Op.bytesLess p f.1 && riseF (some f.1) r

def filesOk (l : List FileT) : Bool := l.all fileOk && riseF none l

def diskOk (d : DiskT) : Bool := decide (d.1.length ≤ 130) && (decide (0 ≤ d.2.1 ∧ d.2.1 ≤ 100000) && (decide (-1 ≤ d.2.2.1 ∧ d.2.2.1 ≤ 100000) && (decide ((usedN d.1 : Int) ≤ d.2.1) && filesOk d.1)))

def before (l : List FileT) : Nat → Option (List UInt8)
  | 0 => none
  | n + 1 => some (l.getD n ([], [], 0)).1

/-- One file after the other: each right, and behind the one before. -/
def okFrom (p : Option (List UInt8)) (l : List FileT) : Bool := l.all fileOk && riseF p l

def follows (p : Option (List UInt8)) (f : FileT) : Bool := match p with | none => true | some q => Op.bytesLess q f.1

theorem okFrom_cons (p : Option (List UInt8)) (f : FileT) (l : List FileT) : okFrom p (f :: l) = (fileOk f && follows p f && okFrom (some f.1) l) := by
  unfold okFrom follows
  cases p <;> simp only [List.all_cons, riseF] <;> cases fileOk f <;> simp [Bool.and_comm, Bool.and_assoc, Bool.and_left_comm]

theorem spec_l3Used_eq (d : DiskT) (hl : d.1.length < 2 ^ 62) (hu : usedN d.1 < 2 ^ 62) : spec_l3Used.f d = some (usedN d.1 : Int) := by
  have key := lp_up (step := spec_l3Used.l0) (fun n (s : Int) => (d, s, (n : Int))) d.1.length (fun n s => s + (usedN (d.1.drop n) : Int)) (fun n s => 0 ≤ s ∧ s + (usedN (d.1.drop n) : Int) < 2 ^ 62)
    (fun rec n s hn hi ih => by
      rcases Nat.lt_or_ge n d.1.length with h | h
      · have e : usedN (d.1.drop n) = d.1[n].2.1.length + usedN (d.1.drop (n + 1)) := sumN_drop _ h
        have h2 := hi.2
        have h1 := hi.1
        rw [e] at h2
        simp only [spec_l3Used.l0, Int.ofNat_lt, h, decide_true, cond_true, inB_nat, rdA_nat, getD_lt h, w64_succ (show n + 1 < 9223372036854775808 by omega)]
        rw [w64_id (by omega) (by omega), ih _ h ⟨by omega, by omega⟩, e]
        congr 1; omega
      · have : n = d.1.length := by omega
        subst this
        simp [spec_l3Used.l0, usedN, sumN])
    hl 0 0 (Nat.zero_le _) ⟨by omega, by simp only [List.drop_zero]; omega⟩
  have key : lp spec_l3Used.l0 (d, 0, 0) = _ := key
  unfold spec_l3Used.f
  rw [key]; simp

theorem impl_used_eq (d : DiskT) (hl : d.1.length < 2 ^ 62) (hu : usedN d.1 < 2 ^ 62) : impl_used.f d = some (usedN d.1 : Int) := by
  have key := lp_up (step := impl_used.l0) (fun n (s : Int) => (s, d.1, (d.1.length : Int), (n : Int))) d.1.length (fun n s => s + (usedN (d.1.drop n) : Int)) (fun n s => 0 ≤ s ∧ s + (usedN (d.1.drop n) : Int) < 2 ^ 62)
    (fun rec n s hn hi ih => by
      rcases Nat.lt_or_ge n d.1.length with h | h
      · have e : usedN (d.1.drop n) = d.1[n].2.1.length + usedN (d.1.drop (n + 1)) := sumN_drop _ h
        have h2 := hi.2
        have h1 := hi.1
        rw [e] at h2
        simp only [impl_used.l0, Int.ofNat_lt, h, decide_true, cond_true, inB_nat, rdA_nat, getD_lt h, w64_succ (show n + 1 < 9223372036854775808 by omega)]
        rw [w64_id (by omega) (by omega), ih _ h ⟨by omega, by omega⟩, e]
        congr 1; omega
      · have : n = d.1.length := by omega
        subst this
        simp [impl_used.l0, usedN, sumN])
    hl 0 0 (Nat.zero_le _) ⟨by omega, by simp only [List.drop_zero]; omega⟩
  have key : lp impl_used.l0 (0, d.1, (d.1.length : Int), 0) = _ := key
  unfold impl_used.f
  rw [key]; simp

theorem before_succ (l : List FileT) (n : Nat) (h : n < l.length) : before l (n + 1) = some l[n].1 := by
  show some (l.getD n ([], [], 0)).1 = _
  rw [getD_lt h]

theorem nameOk_len {f : List UInt8} (h : nameOk f = true) : f.length ≤ 12 := by
  unfold nameOk at h
  simp only [Bool.and_eq_true, decide_eq_true_eq] at h
  exact h.2.2

theorem impl_DiskOk_l0 (d : DiskT) (hl : d.1.length < 2 ^ 62) (hu : usedN d.1 < 2 ^ 62) (hn : ∀ f ∈ d.1, f.1.length < 2 ^ 62) : lp impl_DiskOk.l0 (d, 0, d.1, (d.1.length : Int), 0) = some (if filesOk d.1 = true then .inl (d, (usedN d.1 : Int)) else .inr false) := by
  have key := lp_up (step := impl_DiskOk.l0) (fun n (s : Int) => (d, s, d.1, (d.1.length : Int), (n : Int))) d.1.length (fun n s => if okFrom (before d.1 n) (d.1.drop n) = true then .inl (d, s + (usedN (d.1.drop n) : Int)) else .inr false) (fun n s => 0 ≤ s ∧ s + (usedN (d.1.drop n) : Int) < 2 ^ 62)
    (fun rec n s hn' hi ih => by
      rcases Nat.lt_or_ge n d.1.length with h | h
      · have e : usedN (d.1.drop n) = d.1[n].2.1.length + usedN (d.1.drop (n + 1)) := sumN_drop _ h
        have h2 := hi.2
        have h1 := hi.1
        rw [e] at h2
        have hw : w64 ((n : Int) + 1) = ((n + 1 : Nat) : Int) := w64_succ (by omega)
        have hw2 : w64 (s + (d.1[n].2.1.length : Int)) = s + (d.1[n].2.1.length : Int) := w64_id (by omega) (by omega)
        have ih2 := ih (s + (d.1[n].2.1.length : Int)) h ⟨by omega, by omega⟩
        have ea : s + (d.1[n].2.1.length : Int) + (usedN (d.1.drop (n + 1)) : Int) = s + ((d.1[n].2.1.length + usedN (d.1.drop (n + 1)) : Nat) : Int) := by omega
        rw [before_succ d.1 n h, ea] at ih2
        have hnm := hn d.1[n] (List.getElem_mem h)
        rw [List.drop_eq_getElem_cons h, okFrom_cons, ← List.drop_eq_getElem_cons h, e]
        simp only [impl_DiskOk.l0, Int.ofNat_lt, h, decide_true, cond_true, inB_nat, rdA_nat, getD_lt h, impl_NameOk_eq _ hnm, Option.bind_some, impl_in_eq]
        unfold fileOk
        rcases Bool.eq_false_or_eq_true (nameOk d.1[n].1) with k1 | k1
        rotate_left
        · simp [k1]
        rcases Bool.eq_false_or_eq_true (decide (0 ≤ d.1[n].2.2 ∧ d.1[n].2.2 ≤ (d.1[n].2.1.length : Int))) with k2 | k2
        rotate_left
        · simp only [k1, k2, Bool.not_true, Bool.not_false, cond_false, cond_true, Option.bind_some, caseS_r]; simp
        simp only [k1, k2, Bool.not_true, cond_false, Bool.true_and]
        cases n with
        | zero =>
          have z : ¬ ((0 : Nat) : Int) > 0 := by omega
          simp only [z, decide_false, cond_false, Option.bind_some, caseS_l, hw2, hw, ih2, before, follows, Bool.true_and]
        | succ m =>
          have z : ((m + 1 : Nat) : Int) > 0 := by omega
          have hm : m < d.1.length := by omega
          have z2 : w64 (((m + 1 : Nat) : Int) - 1) = (m : Int) := by rw [w64_id (by omega) (by omega)]; omega
          rw [before_succ d.1 m hm]
          simp only [z, decide_true, cond_true, z2, inB_nat, hm, rdA_nat, getD_lt hm, follows]
          rcases Bool.eq_false_or_eq_true (Op.bytesLess d.1[m].1 d.1[m + 1].1) with k3 | k3
          · simp only [k3, Bool.not_true, cond_false, Option.bind_some, caseS_l, hw2, hw, ih2, Bool.true_and]
          · simp [k3]
      · have : n = d.1.length := by omega
        subst this
        simp [impl_DiskOk.l0, okFrom, riseF, usedN, sumN])
    hl 0 0 (Nat.zero_le _) ⟨by omega, by simp only [List.drop_zero]; omega⟩
  have key : lp impl_DiskOk.l0 (d, 0, d.1, (d.1.length : Int), 0) = _ := key
  rw [key, List.drop_zero, Int.zero_add]; rfl

theorem spec_DiskOk_l0 (d : DiskT) (hl : d.1.length < 2 ^ 62) (hn : ∀ f ∈ d.1, f.1.length < 2 ^ 62) : lp spec_DiskOk.l0 (d, 0) = some (if filesOk d.1 = true then .inl () else .inr false) := by
  have key := lp_up (step := spec_DiskOk.l0) (fun n (_ : Unit) => (d, (n : Int))) d.1.length (fun n _ => if okFrom (before d.1 n) (d.1.drop n) = true then .inl () else .inr false) (fun _ _ => True)
    (fun rec n s hn' _ ih => by
      rcases Nat.lt_or_ge n d.1.length with h | h
      · have hw : w64 ((n : Int) + 1) = ((n + 1 : Nat) : Int) := w64_succ (by omega)
        have ih2 := ih () h trivial
        rw [before_succ d.1 n h] at ih2
        have hnm := hn d.1[n] (List.getElem_mem h)
        rw [List.drop_eq_getElem_cons h, okFrom_cons]
        simp only [spec_DiskOk.l0, Int.ofNat_lt, h, decide_true, cond_true, inB_nat, rdA_nat, getD_lt h, spec_NameOk_eq _ hnm, Option.bind_some, spec_l1In_eq]
        unfold fileOk
        rcases Bool.eq_false_or_eq_true (nameOk d.1[n].1) with k1 | k1
        rotate_left
        · simp [k1]
        rcases Bool.eq_false_or_eq_true (decide (0 ≤ d.1[n].2.2 ∧ d.1[n].2.2 ≤ (d.1[n].2.1.length : Int))) with k2 | k2
        rotate_left
        · simp only [k1, k2, Bool.not_true, Bool.not_false, cond_false, cond_true, Option.bind_some, caseS_r]; simp
        simp only [k1, k2, Bool.not_true, cond_false, Bool.true_and]
        cases n with
        | zero =>
          have z : ¬ ((0 : Nat) : Int) > 0 := by omega
          simp only [z, decide_false, cond_false, Option.bind_some, caseS_l, hw, ih2, before, follows, Bool.true_and]
        | succ m =>
          have z : ((m + 1 : Nat) : Int) > 0 := by omega
          have hm : m < d.1.length := by omega
          have z2 : w64 (((m + 1 : Nat) : Int) - 1) = (m : Int) := by rw [w64_id (by omega) (by omega)]; omega
          have z3 : (Op.bytesLess d.1[m + 1].1 d.1[m].1 || d.1[m + 1].1 == d.1[m].1) = !Op.bytesLess d.1[m].1 d.1[m + 1].1 := leK_not _ _
          rw [before_succ d.1 m hm]
          simp only [z, decide_true, cond_true, z2, inB_nat, hm, rdA_nat, getD_lt hm, follows, z3]
          rcases Bool.eq_false_or_eq_true (Op.bytesLess d.1[m].1 d.1[m + 1].1) with k3 | k3
          · simp only [k3, Bool.not_true, cond_false, Option.bind_some, caseS_l, hw, ih2, Bool.true_and]
          · simp [k3]
      · have : n = d.1.length := by omega
        subst this
        simp [spec_DiskOk.l0, okFrom, riseF])
    hl 0 () (Nat.zero_le _) trivial
  have key : lp spec_DiskOk.l0 (d, 0) = _ := key
  rw [key, List.drop_zero]; rfl

/-- A disk that fits into memory. -/
def dlim (d : DiskT) : Prop := d.1.length < 1000000000 ∧ usedN d.1 < 1000000000000 ∧ ∀ f ∈ d.1, f.1.length < 1000000000000

theorem impl_DiskOk_eq (d : DiskT) (h : dlim d) : impl_DiskOk.f d = some (diskOk d) := by
  obtain ⟨h1, h2, h3⟩ := h
  unfold impl_DiskOk.f diskOk
  have e1 : decide ((d.1.length : Int) > 130) = !decide (d.1.length ≤ 130) := by
    by_cases c : d.1.length ≤ 130
    · have : ¬ (d.1.length : Int) > 130 := by omega
      simp [c, this]
    · have : (d.1.length : Int) > 130 := by omega
      simp [c, this]
  rw [e1, impl_in_eq, impl_in_eq, impl_DiskOk_l0 d (by omega) (by omega) fun f hf => by have := h3 f hf; omega]
  cases decide (d.1.length ≤ 130)
  · rfl
  · simp only [Bool.not_true, cond_false, Option.bind_some, Bool.true_and]
    cases decide (0 ≤ d.2.1 ∧ d.2.1 ≤ 100000)
    · rfl
    · simp only [Bool.not_true, cond_false, Option.bind_some, Bool.true_and]
      cases decide (-1 ≤ d.2.2.1 ∧ d.2.2.1 ≤ 100000)
      · rfl
      · cases filesOk d.1 <;> simp

theorem spec_DiskOk_eq (d : DiskT) (h : dlim d) : spec_DiskOk.f d = some (diskOk d) := by
  obtain ⟨h1, h2, h3⟩ := h
  unfold spec_DiskOk.f diskOk
  have e1 : decide ((d.1.length : Int) > 130) = !decide (d.1.length ≤ 130) := by
    by_cases c : d.1.length ≤ 130
    · have : ¬ (d.1.length : Int) > 130 := by omega
      simp [c, this]
    · have : (d.1.length : Int) > 130 := by omega
      simp [c, this]
  have e2 : decide ((usedN d.1 : Int) > d.2.1) = !decide ((usedN d.1 : Int) ≤ d.2.1) := by
    by_cases c : (usedN d.1 : Int) ≤ d.2.1
    · have : ¬ (usedN d.1 : Int) > d.2.1 := by omega
      simp [c, this]
    · have : (usedN d.1 : Int) > d.2.1 := by omega
      simp [c, this]
  rw [e1, spec_l1In_eq, spec_l1In_eq, spec_l3Used_eq d (by omega) (by omega), spec_DiskOk_l0 d (by omega) fun f hf => by have := h3 f hf; omega]
  cases decide (d.1.length ≤ 130)
  · rfl
  · simp only [Bool.not_true, cond_false, Option.bind_some, Bool.true_and]
    cases decide (0 ≤ d.2.1 ∧ d.2.1 ≤ 100000)
    · rfl
    · simp only [Bool.not_true, cond_false, Option.bind_some, Bool.true_and]
      cases decide (-1 ≤ d.2.2.1 ∧ d.2.2.1 ≤ 100000)
      · rfl
      · simp only [Bool.not_true, cond_false, Option.bind_some, Bool.true_and, e2]
        cases decide ((usedN d.1 : Int) ≤ d.2.1)
        · rfl
        · cases filesOk d.1 <;> simp

theorem impl_copyDisk_eq (d : DiskT) (h : d.1.length < 1000000000000) : impl_copyDisk.f d = some d := by
  unfold impl_copyDisk.f
  have : (([] : List FileT).length + d.1.length) * 40 ≤ 140737488355328 := by simp; omega
  simp only [this, decide_true, cond_true, List.nil_append]

theorem spec_l3Copy_eq (d : DiskT) (h : d.1.length < 1000000000000) : spec_l3Copy.f d = some d := impl_copyDisk_eq d h

/-! ### a file's place -/

def fileIx (l : List FileT) (name : List UInt8) : Int := match l.findIdx? (fun f => f.1 == name) with | some i => (i : Int) | none => -1

theorem fileIx_loop {A B : Type} {step : (A → Option (B ⊕ Int)) → A → Option (B ⊕ Int)} (l : List FileT) (name : List UInt8) (st : Nat → A) (b : B) (hl : l.length < 2 ^ 62)
    (hs : ∀ rec n, (h : n < l.length) → step rec (st n) = if (l[n].1 == name) = true then some (.inr (n : Int)) else rec (st (n + 1)))
    (he : ∀ rec, step rec (st l.length) = some (.inl b)) : lp step (st 0) = some (match l.findIdx? (fun f => f.1 == name) with | some i => .inr (i : Int) | none => .inl b) := by
  have := lp_up (step := step) (fun n (_ : Unit) => st n) l.length (fun n _ => match (l.drop n).findIdx? (fun f => f.1 == name) with | some i => .inr ((n + i : Nat) : Int) | none => .inl b) (fun _ _ => True)
    (fun rec n s hn _ ih => by
      rcases Nat.lt_or_ge n l.length with h | h
      · rw [hs rec n h, ih () h trivial, List.drop_eq_getElem_cons h, List.findIdx?_cons]
        cases hf : l[n].1 == name
        · simp only [Bool.false_eq_true, if_false]
          cases List.findIdx? (fun f => f.1 == name) (l.drop (n + 1)) with
          | none => rfl
          | some i => simp only [Option.map_some]; congr 2; omega
        · simp
      · have : n = l.length := by omega
        subst this
        rw [he]; simp) hl 0 () (Nat.zero_le _) trivial
  simpa using this

theorem impl_fileAt_eq (d : DiskT) (name : List UInt8) (hl : d.1.length < 2 ^ 62) : impl_fileAt.f d name = some (fileIx d.1 name) := by
  have hk := fileIx_loop (step := impl_fileAt.l0) d.1 name (fun n => (name, d.1, (d.1.length : Int), (n : Int))) () hl
    (fun rec n h => by
      simp only [impl_fileAt.l0, Int.ofNat_lt, h, decide_true, cond_true, inB_nat, rdA_nat, getD_lt h, w64_succ (show n + 1 < 9223372036854775808 by omega)]
      cases d.1[n].1 == name <;> simp)
    (fun rec => by simp [impl_fileAt.l0])
  have hk : lp impl_fileAt.l0 (name, d.1, (d.1.length : Int), 0) = _ := hk
  unfold impl_fileAt.f fileIx
  rw [hk, Option.bind_some]
  cases List.findIdx? (fun f => f.1 == name) d.1 <;> rfl

theorem spec_l3Find_eq (d : DiskT) (name : List UInt8) (hl : d.1.length < 2 ^ 62) : spec_l3Find.f d name = some (fileIx d.1 name) := by
  have hk := fileIx_loop (step := spec_l3Find.l0) d.1 name (fun n => (name, d, (n : Int))) () hl
    (fun rec n h => by
      simp only [spec_l3Find.l0, Int.ofNat_lt, h, decide_true, cond_true, inB_nat, rdA_nat, getD_lt h, w64_succ (show n + 1 < 9223372036854775808 by omega)]
      cases d.1[n].1 == name <;> simp)
    (fun rec => by simp [spec_l3Find.l0])
  have hk : lp spec_l3Find.l0 (name, d, 0) = _ := hk
  unfold spec_l3Find.f fileIx
  rw [hk, Option.bind_some]
  cases List.findIdx? (fun f => f.1 == name) d.1 <;> rfl

theorem fileIx_cases (l : List FileT) (name : List UInt8) : (fileIx l name = -1 ∧ ∀ f ∈ l, f.1 ≠ name) ∨ ∃ i : Nat, ∃ h : i < l.length, fileIx l name = (i : Int) ∧ l[i].1 = name := by
  unfold fileIx
  cases hf : List.findIdx? (fun f => f.1 == name) l with
  | none =>
    left
    refine ⟨rfl, fun f hm => ?_⟩
    have := List.findIdx?_eq_none_iff.1 hf f hm
    simpa using this
  | some i =>
    right
    obtain ⟨h, h1, _⟩ := List.findIdx?_eq_some_iff_getElem.1 hf
    exact ⟨i, h, rfl, by simpa using h1⟩
end Go.Rf.G
