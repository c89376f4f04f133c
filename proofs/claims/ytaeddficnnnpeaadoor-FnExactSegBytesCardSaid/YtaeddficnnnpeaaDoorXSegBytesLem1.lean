/- Plain laws: what the plain functions answer. -/
import Derived.Test.YtaeddficnnnpeaaDoorRf5
import Derived.Test.YtaeddficnnnpeaaDoorXSegBytesFns
namespace Go.Rf.G
open Go Go.Rf
set_option linter.unusedVariables false
set_option linter.unusedSimpArgs false
set_option synthInstance.maxSize 4000

theorem loopF_eq {A B : Type} {step : (A → Option B) → A → Option B} {F : A → B} {P : A → Prop} {m : A → Nat}
    (h : ∀ rec a, P a → (∀ a', P a' → m a' < m a → rec a' = some (F a')) → step rec a = some (F a)) : ∀ n a, P a → m a < n → loopF step n a = some (F a)
  | 0, _, _, hn => by omega
  | n + 1, a, hp, hn => h (loopF step n) a hp fun a' hp' hlt => loopF_eq h n a' hp' (by omega)

/-- A loop, by its meaning. -/
theorem lp_eq {A B : Type} {step : (A → Option B) → A → Option B} (F : A → B) (P : A → Prop) (m : A → Nat)
    (h : ∀ rec a, P a → (∀ a', P a' → m a' < m a → rec a' = some (F a')) → step rec a = some (F a)) {a : A} (hp : P a) (hm : m a < 2 ^ 62) : lp step a = some (F a) :=
  loopF_eq h FUEL a hp (Nat.lt_of_lt_of_le hm fuel_le)

/-- A loop that counts up to N. -/
theorem lp_up {A B σ : Type} {step : (A → Option B) → A → Option B} (st : Nat → σ → A) (N : Nat) (F : Nat → σ → B) (Inv : Nat → σ → Prop)
    (h : ∀ rec n s, n ≤ N → Inv n s → (∀ s', n < N → Inv (n + 1) s' → rec (st (n + 1) s') = some (F (n + 1) s')) → step rec (st n s) = some (F n s))
    (hN : N < 2 ^ 62) : ∀ n s, n ≤ N → Inv n s → lp step (st n s) = some (F n s) := by
  have key : ∀ k f n s, n ≤ N → Inv n s → N - n = k → k < f → loopF step f (st n s) = some (F n s) := by
    intro k
    induction k with
    | zero =>
      intro f n s hn hi hk hf
      obtain ⟨f, rfl⟩ : ∃ g, f = g + 1 := ⟨f - 1, by omega⟩
      exact h _ n s hn hi fun s' hlt => by omega
    | succ k ih =>
      intro f n s hn hi hk hf
      obtain ⟨f, rfl⟩ : ∃ g, f = g + 1 := ⟨f - 1, by omega⟩
      exact h _ n s hn hi fun s' hlt hi' => ih f (n + 1) s' hlt hi' (by omega) (by omega)
  intro n s hn hi
  exact key (N - n) FUEL n s hn hi rfl (Nat.lt_of_lt_of_le (by omega) fuel_le)

@[simp] theorem inB_nat (n m : Nat) : inB (n : Int) m = decide (n < m) := by
  unfold inB
  by_cases h : n < m <;> simp [h, Int.natCast_nonneg]

@[simp] theorem rdA_nat {α : Type} (z : α) (xs : List α) (n : Nat) : rdA z xs (n : Int) = xs.getD n z := rfl

theorem w64_id {n : Int} (h1 : -9223372036854775808 ≤ n) (h2 : n < 9223372036854775808) : w64 n = n := by
  unfold w64 IntKind.wrap
  simp only [IntKind.bits, IntKind.signed]
  by_cases h : n % 2 ^ 64 ≥ 2 ^ 63 <;> simp [h] <;> omega

theorem w64_nat {n : Nat} (h : n < 9223372036854775808) : w64 (n : Int) = n := w64_id (by omega) (by omega)

theorem w64_succ {n : Nat} (h : n + 1 < 9223372036854775808) : w64 ((n : Int) + 1) = ((n + 1 : Nat) : Int) := by
  rw [w64_id (by omega) (by omega)]; omega

theorem len_le {l : Nat} (h : l ≤ reachBytes) : l < 140737488355328 := by unfold reachBytes at h; omega

theorem getD_lt {α : Type} {xs : List α} {z : α} {n : Nat} (h : n < xs.length) : xs.getD n z = xs[n] := by simp [List.getD, h]

/-- Two rows alike from place n on. -/
theorem drop_eq_iff {α : Type} {a b : List α} {n : Nat} (h1 : n < a.length) (h2 : n < b.length) : a.drop n = b.drop n ↔ a[n] = b[n] ∧ a.drop (n + 1) = b.drop (n + 1) := by
  rw [List.drop_eq_getElem_cons h1, List.drop_eq_getElem_cons h2, List.cons.injEq]

/-- So much less, or -1. -/
def szr (b : Nat) (left : Int) : Int := if (b : Int) ≤ left then left - b else -1

theorem szr_neg {b : Nat} {left : Int} : decide (szr b left < 0) = !decide ((b : Int) ≤ left) := by
  unfold szr
  by_cases h : (b : Int) ≤ left
  · rw [if_pos h]; simp [h]
  · rw [if_neg h]; simp [h]

theorem szr_pos {b : Nat} {left : Int} (h : (b : Int) ≤ left) : szr b left = left - b := if_pos h

def sumN {α : Type} (f : α → Nat) : List α → Nat
  | [] => 0
  | x :: r => f x + sumN f r

theorem sumN_drop {α : Type} (f : α → Nat) {l : List α} {n : Nat} (h : n < l.length) : sumN f (l.drop n) = f l[n] + sumN f (l.drop (n + 1)) := by
  rw [List.drop_eq_getElem_cons h]; rfl

theorem sumN_mem {α : Type} (f : α → Nat) : ∀ {l : List α} {x : α}, x ∈ l → f x ≤ sumN f l
  | y :: l, x, h => by
    rcases List.mem_cons.1 h with k | k
    · subst k; exact Nat.le_add_right _ _
    · exact Nat.le_trans (sumN_mem f k) (Nat.le_add_left _ _)

/-- The bulk of a row. -/
def bulkL {α : Type} (f : α → Nat) (l : List α) : Nat := l.length + sumN f l

theorem sz_loop {X : Type} {step : (List X × Int × Int → Option (Int ⊕ Int)) → List X × Int × Int → Option (Int ⊕ Int)} (bulk : X → Nat) (l : List X) (hl : l.length < 2 ^ 62)
    (hs : ∀ rec (n : Nat) (left : Int), (hn : n < l.length) → 0 ≤ left → left ≤ 1048576 → step rec (l, left, (n : Int)) = if (bulk l[n] : Int) ≤ left then rec (l, left - bulk l[n], ((n + 1 : Nat) : Int)) else some (.inr (-1)))
    (he : ∀ rec (left : Int), step rec (l, left, (l.length : Int)) = some (.inl left)) (left : Int) (h0 : 0 ≤ left) (h1 : left ≤ 1048576) :
    lp step (l, left, 0) = some (if (sumN bulk l : Int) ≤ left then .inl (left - sumN bulk l) else .inr (-1)) := by
  have := lp_up (step := step) (fun n (s : Int) => (l, s, (n : Int))) l.length (fun n s => if (sumN bulk (l.drop n) : Int) ≤ s then .inl (s - sumN bulk (l.drop n)) else .inr (-1)) (fun _ s => 0 ≤ s ∧ s ≤ 1048576)
    (fun rec n s hn hi ih => by
      rcases Nat.lt_or_ge n l.length with h | h
      · rw [hs rec n s h hi.1 hi.2, sumN_drop bulk h]
        by_cases hb : (bulk l[n] : Int) ≤ s
        · rw [if_pos hb, ih _ h ⟨by omega, by omega⟩]
          congr 1
          by_cases hc : (sumN bulk (l.drop (n + 1)) : Int) ≤ s - bulk l[n]
          · rw [if_pos hc, if_pos (by omega)]; congr 1; omega
          · rw [if_neg hc, if_neg (by omega)]
        · rw [if_neg hb, if_neg (by omega)]
      · have : n = l.length := by omega
        subst this
        rw [he]
        simp [sumN, hi.1])
    hl 0 left (Nat.zero_le _) ⟨h0, h1⟩
  simpa using this

theorem eq_loop {X : Type} [DecidableEq X] {step : (List X × List X × Int → Option (Unit ⊕ Bool)) → List X × List X × Int → Option (Unit ⊕ Bool)} (a b : List X) (hl : a.length = b.length) (ha : a.length < 2 ^ 62)
    (hs : ∀ rec (n : Nat), (h1 : n < a.length) → (h2 : n < b.length) → step rec (a, b, (n : Int)) = if a[n] = b[n] then rec (a, b, ((n + 1 : Nat) : Int)) else some (.inr false))
    (he : ∀ rec, step rec (a, b, (a.length : Int)) = some (.inl ())) : lp step (a, b, 0) = some (if a = b then .inl () else .inr false) := by
  have := lp_up (step := step) (fun n (_ : Unit) => (a, b, (n : Int))) a.length (fun n _ => if a.drop n = b.drop n then .inl () else .inr false) (fun _ _ => True)
    (fun rec n s hn _ ih => by
      rcases Nat.lt_or_ge n a.length with h | h
      · rw [hs rec n h (by omega), ih () h trivial]
        by_cases hc : a[n] = b[n]
        · rw [if_pos hc]; simp only [drop_eq_iff h (by omega : n < b.length), hc, true_and]
        · rw [if_neg hc, if_neg fun k => hc ((drop_eq_iff h (by omega)).1 k).1]
      · have : n = a.length := by omega
        subst this
        rw [he]
        simp [hl])
    ha 0 () (Nat.zero_le _) trivial
  simpa using this

/-- Rows made cell by cell. -/
theorem to_loop {X : Type} {step : (List X × List X × Int → Option (List X)) → List X × List X × Int → Option (List X)} (l : List X) (hl : l.length < 2 ^ 62)
    (hs : ∀ rec (r : List X) (n : Nat), (h1 : n < l.length) → r.length = l.length → step rec (l, r, (n : Int)) = rec (l, r.set n l[n], ((n + 1 : Nat) : Int)))
    (he : ∀ rec r, step rec (l, r, (l.length : Int)) = some r) (r : List X) (hr : r.length = l.length) : lp step (l, r, 0) = some l := by
  have := lp_up (step := step) (fun n (r : List X) => (l, r, (n : Int))) l.length (fun n r => l) (fun n r => r.length = l.length ∧ r.take n = l.take n)
    (fun rec n r hn hi ih => by
      obtain ⟨hi1, hi2⟩ := hi
      rcases Nat.lt_or_ge n l.length with h | h
      · rw [hs rec r n h hi1]
        refine ih _ h ⟨by simp [hi1], ?_⟩
        rw [List.take_succ_eq_append_getElem (by simp [hi1, h]), List.take_succ_eq_append_getElem h, List.take_set_of_le (Nat.le_refl _), hi2]
        simp
      · have : n = l.length := by omega
        subst this
        rw [he]
        rw [List.take_length, ← hi1, List.take_length] at hi2
        rw [hi2])
    hl 0 r (Nat.zero_le _) ⟨hr, by simp⟩
  simpa using this

def markL {X : Type} (mk : Int → X → X) (c : Nat) : List X → Int → List X
  | [], _ => []
  | x :: r, k => mk k x :: markL mk c r (k + c)

@[simp] theorem markL_len {X : Type} (mk : Int → X → X) (c : Nat) : ∀ (l : List X) (k : Int), (markL mk c l k).length = l.length
  | [], _ => rfl
  | x :: r, k => by simp [markL, markL_len mk c r]

theorem all_loop {X A B : Type} {step : (A → Option (B ⊕ Bool)) → A → Option (B ⊕ Bool)} (l : List X) (f : X → Bool) (st : Nat → A) (b : B) (hl : l.length < 2 ^ 62)
    (hs : ∀ rec n, (h : n < l.length) → step rec (st n) = if f l[n] = true then rec (st (n + 1)) else some (.inr false))
    (he : ∀ rec, step rec (st l.length) = some (.inl b)) : lp step (st 0) = some (if l.all f = true then .inl b else .inr false) := by
  have := lp_up (step := step) (fun n (_ : Unit) => st n) l.length (fun n _ => if (l.drop n).all f = true then .inl b else .inr false) (fun _ _ => True)
    (fun rec n s hn _ ih => by
      rcases Nat.lt_or_ge n l.length with h | h
      · rw [hs rec n h, ih () h trivial, List.drop_eq_getElem_cons h, List.all_cons]
        cases f l[n] <;> simp
      · have : n = l.length := by omega
        subst this
        rw [he]; simp) hl 0 () (Nat.zero_le _) trivial
  simpa using this

def okL {α : Type} (f : α → Prop) (l : List α) : Prop := l.length ≤ reachBytes ∧ ∀ x ∈ l, f x

@[simp] theorem caseS_l {A B C : Type} (a : A) (f : A → C) (g : B → C) : caseS (.inl a) f g = f a := rfl

@[simp] theorem caseS_r {A B C : Type} (b : B) (f : A → C) (g : B → C) : caseS (.inr b) f g = g b := rfl

theorem pair_eta {A B : Type} (p : A × B) : (p.1, p.2) = p := rfl

theorem sumN_zero {α : Type} {f : α → Nat} (h : ∀ x, f x = 0) : ∀ l : List α, sumN f l = 0
  | [] => rfl
  | x :: r => by show f x + sumN f r = 0; rw [h, sumN_zero h r]

theorem if_len {β : Type} (n : Int) (a b : β) : (bif (n == n) then a else b) = a := by simp

theorem if_lim {β : Type} {c n : Int} (h1 : 0 ≤ n) (h2 : c * n ≤ 140737488355328) (a b : β) : (bif (decide (0 ≤ n) && decide (c * n ≤ 140737488355328)) then a else b) = a := by simp [h1, h2]

def bulk_Int (x : Int) : Nat := 0

def ok_Int (x : Int) : Prop := True

theorem of_Int (x : Int) (h : wfD (.int .i64) x) : ok_Int x := trivial

theorem szIntS_eq (l : List (Int)) (left : Int) (h0 : 0 ≤ left) (h1 : left ≤ 1048576) (hx : okL ok_Int l) : laws_szIntS.f l left = some (szr (bulkL bulk_Int l) left) := by
  have hl := len_le hx.1
  unfold laws_szIntS.f
  simp only [Bool.cond_decide]
  rw [w64_id (by omega) (by omega)]
  unfold szr bulkL
  rw [show sumN bulk_Int l = 0 from sumN_zero (fun _ => rfl) l]
  repeat' split
  all_goals first | rfl | (congr 1; omega) | omega

theorem toIntS_eq (l : List (Int)) (hx : okL ok_Int l) (hs : l.length ≤ 1048576) : laws_toIntS.f l = some l := by
  have hl := len_le hx.1
  unfold laws_toIntS.f
  rw [if_len, if_lim (by omega) (by omega)]
  simp only []
  rw [to_loop l (by omega) (fun rec r n h1 h2 => ?_) (fun rec r => ?_) _ (by simp)]
  · rfl
  · have h3 : n < r.length := by omega
    simp only [laws_toIntS.l0, Int.ofNat_lt, h1, h3, decide_true, cond_true, inB_nat, rdA_nat, getD_lt h1, w64_succ (show n + 1 < 9223372036854775808 by omega), Int.toNat_natCast]
  · simp [laws_toIntS.l0]

theorem eqIntS_eq (a b : List (Int)) (ha : a.length < 2 ^ 62) : laws_eqIntS.f a b = some (decide (a = b)) := by
  unfold laws_eqIntS.f
  by_cases hl : a.length = b.length
  rotate_left
  · have : a ≠ b := fun h => hl (by rw [h])
    have h2 : ((a.length : Int) != (b.length : Int)) = true := by simp; omega
    rw [h2]; simp [this]
  have h2 : ((a.length : Int) != (b.length : Int)) = false := by simp; omega
  rw [h2, cond_false, eq_loop a b hl ha (fun rec n h1 h2 => ?_) (fun rec => ?_)]
  · by_cases e : a = b <;> simp [e, caseS]
  · simp only [laws_eqIntS.l0, Int.ofNat_lt, h1, h2, decide_true, cond_true, inB_nat, rdA_nat, getD_lt h1, getD_lt h2, w64_succ (show n + 1 < 9223372036854775808 by omega)]
    by_cases e : a[n] = b[n]
    · simp [e]
    · have e2 : (a[n] == b[n]) = false := by simpa using e
      have e3 : (a[n] != b[n]) = true := by simpa using e
      simp [e, e2, e3]
  · simp [laws_eqIntS.l0]

def bulk_File (x : List UInt8 × List UInt8 × Int) : Nat := x.1.length + x.2.1.length

def ok_File (x : List UInt8 × List UInt8 × Int) : Prop := x.1.length ≤ reachBytes ∧ x.2.1.length ≤ reachBytes

theorem of_File (x : List UInt8 × List UInt8 × Int) (h : wfD (.pair .str (.pair .str (.int .i64))) x) : ok_File x := ⟨h.1, h.2.1⟩

theorem szFile_eq (x : List UInt8 × List UInt8 × Int) (left : Int) (h0 : 0 ≤ left) (h1 : left ≤ 1048576) (hx : ok_File x) : laws_szFile.f x left = some (szr (bulk_File x) left) := by
  unfold ok_File at hx
  have l0 := len_le hx.1
  have l1 := len_le hx.2
  unfold laws_szFile.f szr bulk_File
  simp only [Bool.cond_decide]
  rw [w64_id (by omega) (by omega)]
  by_cases c0 : left - (x.1.length : Int) < 0
  · simp only [c0, if_true]; rw [if_neg (by omega)]
  simp only [c0, if_false]
  rw [w64_id (by omega) (by omega)]
  repeat' split
  all_goals first | rfl | (congr 1; omega) | omega

theorem szFileS_eq (l : List (List UInt8 × List UInt8 × Int)) (left : Int) (h0 : 0 ≤ left) (h1 : left ≤ 1048576) (hx : okL ok_File l) : laws_szFileS.f l left = some (szr (bulkL bulk_File l) left) := by
  have hl := len_le hx.1
  unfold laws_szFileS.f
  simp only [Bool.cond_decide]
  rw [w64_id (by omega) (by omega)]
  by_cases c : left - (l.length : Int) < 0
  · rw [if_pos c]; unfold szr bulkL; rw [if_neg (by omega)]
  rw [if_neg c, sz_loop bulk_File l (by omega) (fun rec n s hn i0 i1 => ?_) (fun rec s => ?_) _ (by omega) (by omega)]
  · rw [Option.bind_some]; unfold szr bulkL
    by_cases d : (sumN bulk_File l : Int) ≤ left - l.length
    · rw [if_pos d, if_pos (by omega)]; show some _ = some _; congr 1; omega
    · rw [if_neg d, if_neg (by omega)]; rfl
  · have hb := hx.2 l[n] (List.getElem_mem hn)
    simp only [laws_szFileS.l0, Int.ofNat_lt, hn, decide_true, cond_true, inB_nat, rdA_nat, getD_lt hn, w64_succ (show n + 1 < 9223372036854775808 by omega), pair_eta, szFile_eq _ s i0 i1 hb, Option.bind_some, szr_neg]
    by_cases d : (bulk_File l[n] : Int) ≤ s
    · simp only [d, decide_true, Bool.not_true, cond_false, if_true, szr_pos d]
    · simp only [d, decide_false, Bool.not_false, cond_true, if_false]
  · simp [laws_szFileS.l0]

theorem toFile_eq (x : List UInt8 × List UInt8 × Int) : laws_toFile.f x = some x := rfl

theorem toFileS_eq (l : List (List UInt8 × List UInt8 × Int)) (hx : okL ok_File l) (hs : l.length ≤ 1048576) : laws_toFileS.f l = some l := by
  have hl := len_le hx.1
  unfold laws_toFileS.f
  rw [if_len, if_lim (by omega) (by omega)]
  simp only []
  rw [to_loop l (by omega) (fun rec r n h1 h2 => ?_) (fun rec r => ?_) _ (by simp)]
  · rfl
  · have h3 : n < r.length := by omega
    simp only [laws_toFileS.l0, Int.ofNat_lt, h1, h3, decide_true, cond_true, inB_nat, rdA_nat, getD_lt h1, w64_succ (show n + 1 < 9223372036854775808 by omega), Int.toNat_natCast, pair_eta, toFile_eq, Option.bind_some]
  · simp [laws_toFileS.l0]

theorem eqFile_eq (x y : List UInt8 × List UInt8 × Int) : laws_eqFile.f x y = some (decide (x = y)) := by
  obtain ⟨a0, a1, a2⟩ := x
  obtain ⟨b0, b1, b2⟩ := y
  unfold laws_eqFile.f
  by_cases e0 : a0 = b0
  rotate_left
  · have d2 : (a0 == b0) = false := by simpa using e0
    have d3 : (a0 != b0) = true := by simpa using e0
    simp [e0, d2, d3]
  by_cases e1 : a1 = b1
  rotate_left
  · have d2 : (a1 == b1) = false := by simpa using e1
    have d3 : (a1 != b1) = true := by simpa using e1
    simp [e1, d2, d3]
  by_cases e2 : a2 = b2
  rotate_left
  · have d2 : (a2 == b2) = false := by simpa using e2
    have d3 : (a2 != b2) = true := by simpa using e2
    simp [e2, d2, d3]
  simp [e0, e1, e2]

theorem eqFileS_eq (a b : List (List UInt8 × List UInt8 × Int)) (ha : a.length < 2 ^ 62) : laws_eqFileS.f a b = some (decide (a = b)) := by
  unfold laws_eqFileS.f
  by_cases hl : a.length = b.length
  rotate_left
  · have : a ≠ b := fun h => hl (by rw [h])
    have h2 : ((a.length : Int) != (b.length : Int)) = true := by simp; omega
    rw [h2]; simp [this]
  have h2 : ((a.length : Int) != (b.length : Int)) = false := by simp; omega
  rw [h2, cond_false, eq_loop a b hl ha (fun rec n h1 h2 => ?_) (fun rec => ?_)]
  · by_cases e : a = b <;> simp [e, caseS]
  · simp only [laws_eqFileS.l0, Int.ofNat_lt, h1, h2, decide_true, cond_true, inB_nat, rdA_nat, getD_lt h1, getD_lt h2, w64_succ (show n + 1 < 9223372036854775808 by omega), pair_eta, eqFile_eq _ _, Option.bind_some]
    by_cases e : a[n] = b[n]
    · simp [e]
    · have e2 : (a[n] == b[n]) = false := by simpa using e
      have e3 : (a[n] != b[n]) = true := by simpa using e
      simp [e, e2, e3]
  · simp [laws_eqFileS.l0]

def bulk_Entry (x : List UInt8 × Int × Int × Int × Int) : Nat := x.1.length

def ok_Entry (x : List UInt8 × Int × Int × Int × Int) : Prop := x.1.length ≤ reachBytes

theorem of_Entry (x : List UInt8 × Int × Int × Int × Int) (h : wfD (.pair .str (.pair (.int .i64) (.pair (.int .i64) (.pair (.int .i64) (.int .i64))))) x) : ok_Entry x := h.1

theorem szEntry_eq (x : List UInt8 × Int × Int × Int × Int) (left : Int) (h0 : 0 ≤ left) (h1 : left ≤ 1048576) (hx : ok_Entry x) : laws_szEntry.f x left = some (szr (bulk_Entry x) left) := by
  unfold ok_Entry at hx
  have l0 := len_le hx
  unfold laws_szEntry.f szr bulk_Entry
  simp only [Bool.cond_decide]
  rw [w64_id (by omega) (by omega)]
  repeat' split
  all_goals first | rfl | (congr 1; omega) | omega

theorem szEntryS_eq (l : List (List UInt8 × Int × Int × Int × Int)) (left : Int) (h0 : 0 ≤ left) (h1 : left ≤ 1048576) (hx : okL ok_Entry l) : laws_szEntryS.f l left = some (szr (bulkL bulk_Entry l) left) := by
  have hl := len_le hx.1
  unfold laws_szEntryS.f
  simp only [Bool.cond_decide]
  rw [w64_id (by omega) (by omega)]
  by_cases c : left - (l.length : Int) < 0
  · rw [if_pos c]; unfold szr bulkL; rw [if_neg (by omega)]
  rw [if_neg c, sz_loop bulk_Entry l (by omega) (fun rec n s hn i0 i1 => ?_) (fun rec s => ?_) _ (by omega) (by omega)]
  · rw [Option.bind_some]; unfold szr bulkL
    by_cases d : (sumN bulk_Entry l : Int) ≤ left - l.length
    · rw [if_pos d, if_pos (by omega)]; show some _ = some _; congr 1; omega
    · rw [if_neg d, if_neg (by omega)]; rfl
  · have hb := hx.2 l[n] (List.getElem_mem hn)
    simp only [laws_szEntryS.l0, Int.ofNat_lt, hn, decide_true, cond_true, inB_nat, rdA_nat, getD_lt hn, w64_succ (show n + 1 < 9223372036854775808 by omega), pair_eta, szEntry_eq _ s i0 i1 hb, Option.bind_some, szr_neg]
    by_cases d : (bulk_Entry l[n] : Int) ≤ s
    · simp only [d, decide_true, Bool.not_true, cond_false, if_true, szr_pos d]
    · simp only [d, decide_false, Bool.not_false, cond_true, if_false]
  · simp [laws_szEntryS.l0]

theorem toEntry_eq (x : List UInt8 × Int × Int × Int × Int) : laws_toEntry.f x = some x := rfl

theorem toEntryS_eq (l : List (List UInt8 × Int × Int × Int × Int)) (hx : okL ok_Entry l) (hs : l.length ≤ 1048576) : laws_toEntryS.f l = some l := by
  have hl := len_le hx.1
  unfold laws_toEntryS.f
  rw [if_len, if_lim (by omega) (by omega)]
  simp only []
  rw [to_loop l (by omega) (fun rec r n h1 h2 => ?_) (fun rec r => ?_) _ (by simp)]
  · rfl
  · have h3 : n < r.length := by omega
    simp only [laws_toEntryS.l0, Int.ofNat_lt, h1, h3, decide_true, cond_true, inB_nat, rdA_nat, getD_lt h1, w64_succ (show n + 1 < 9223372036854775808 by omega), Int.toNat_natCast, pair_eta, toEntry_eq, Option.bind_some]
  · simp [laws_toEntryS.l0]

theorem eqEntry_eq (x y : List UInt8 × Int × Int × Int × Int) : laws_eqEntry.f x y = some (decide (x = y)) := by
  obtain ⟨a0, a1, a2, a3, a4⟩ := x
  obtain ⟨b0, b1, b2, b3, b4⟩ := y
  unfold laws_eqEntry.f
  by_cases e0 : a0 = b0
  rotate_left
  · have d2 : (a0 == b0) = false := by simpa using e0
    have d3 : (a0 != b0) = true := by simpa using e0
    simp [e0, d2, d3]
  by_cases e1 : a1 = b1
  rotate_left
  · have d2 : (a1 == b1) = false := by simpa using e1
    have d3 : (a1 != b1) = true := by simpa using e1
    simp [e1, d2, d3]
  by_cases e2 : a2 = b2
  rotate_left
  · have d2 : (a2 == b2) = false := by simpa using e2
    have d3 : (a2 != b2) = true := by simpa using e2
    simp [e2, d2, d3]
  by_cases e3 : a3 = b3
  rotate_left
  · have d2 : (a3 == b3) = false := by simpa using e3
    have d3 : (a3 != b3) = true := by simpa using e3
    simp [e3, d2, d3]
  by_cases e4 : a4 = b4
  rotate_left
  · have d2 : (a4 == b4) = false := by simpa using e4
    have d3 : (a4 != b4) = true := by simpa using e4
    simp [e4, d2, d3]
  simp [e0, e1, e2, e3, e4]

theorem eqEntryS_eq (a b : List (List UInt8 × Int × Int × Int × Int)) (ha : a.length < 2 ^ 62) : laws_eqEntryS.f a b = some (decide (a = b)) := by
  unfold laws_eqEntryS.f
  by_cases hl : a.length = b.length
  rotate_left
  · have : a ≠ b := fun h => hl (by rw [h])
    have h2 : ((a.length : Int) != (b.length : Int)) = true := by simp; omega
    rw [h2]; simp [this]
  have h2 : ((a.length : Int) != (b.length : Int)) = false := by simp; omega
  rw [h2, cond_false, eq_loop a b hl ha (fun rec n h1 h2 => ?_) (fun rec => ?_)]
  · by_cases e : a = b <;> simp [e, caseS]
  · simp only [laws_eqEntryS.l0, Int.ofNat_lt, h1, h2, decide_true, cond_true, inB_nat, rdA_nat, getD_lt h1, getD_lt h2, w64_succ (show n + 1 < 9223372036854775808 by omega), pair_eta, eqEntry_eq _ _, Option.bind_some]
    by_cases e : a[n] = b[n]
    · simp [e]
    · have e2 : (a[n] == b[n]) = false := by simpa using e
      have e3 : (a[n] != b[n]) = true := by simpa using e
      simp [e, e2, e3]
  · simp [laws_eqEntryS.l0]

def bulk_Disk (x : List (List UInt8 × List UInt8 × Int) × Int × Int × Bool) : Nat := bulkL bulk_File x.1

def ok_Disk (x : List (List UInt8 × List UInt8 × Int) × Int × Int × Bool) : Prop := okL ok_File x.1

theorem of_Disk (x : List (List UInt8 × List UInt8 × Int) × Int × Int × Bool) (h : wfD (.pair (.sl false (.pair .str (.pair .str (.int .i64)))) (.pair (.int .i64) (.pair (.int .i64) .bool))) x) : ok_Disk x := ⟨h.1.1, fun y hy => of_File y (h.1.2 y hy)⟩

theorem szDisk_eq (x : List (List UInt8 × List UInt8 × Int) × Int × Int × Bool) (left : Int) (h0 : 0 ≤ left) (h1 : left ≤ 1048576) (hx : ok_Disk x) : laws_szDisk.f x left = some (szr (bulk_Disk x) left) := by
  unfold ok_Disk at hx
  unfold laws_szDisk.f bulk_Disk
  rw [szFileS_eq (x.1) left (by omega) (by omega) hx, Option.bind_some, szr_neg]
  by_cases c0 : ((bulkL bulk_File x.1 : Nat) : Int) ≤ left
  rotate_left
  · simp only [c0, decide_false, Bool.not_false, cond_true]
    all_goals (unfold szr; rw [if_neg (by omega)])
  simp only [c0, decide_true, Bool.not_true, cond_false]
  all_goals (rw [szr_pos c0])
  all_goals (unfold szr; rw [if_pos (by omega)])
  all_goals first | done | (congr 1; omega)

theorem toDisk_eq (x : List (List UInt8 × List UInt8 × Int) × Int × Int × Bool) (hx : ok_Disk x) (hs : bulk_Disk x ≤ 1048576) : laws_toDisk.f x = some x := by
  unfold ok_Disk at hx
  unfold bulk_Disk at hs
  unfold laws_toDisk.f
  simp only [toFileS_eq (x.1) hx (by first | omega | (unfold bulkL at hs; omega)), Option.bind_some]

def lim_Disk (x : List (List UInt8 × List UInt8 × Int) × Int × Int × Bool) : Prop := x.1.length < 2 ^ 62

theorem eqDisk_eq (x y : List (List UInt8 × List UInt8 × Int) × Int × Int × Bool) (hx : lim_Disk x) : laws_eqDisk.f x y = some (decide (x = y)) := by
  have h0 := hx
  obtain ⟨a0, a1, a2, a3⟩ := x
  obtain ⟨b0, b1, b2, b3⟩ := y
  unfold laws_eqDisk.f
  simp only [eqFileS_eq a0 b0 h0, Option.bind_some]
  by_cases e0 : a0 = b0
  rotate_left
  · simp [e0]
  by_cases e1 : a1 = b1
  rotate_left
  · have d2 : (a1 == b1) = false := by simpa using e1
    have d3 : (a1 != b1) = true := by simpa using e1
    simp [e1, d2, d3]
  by_cases e2 : a2 = b2
  rotate_left
  · have d2 : (a2 == b2) = false := by simpa using e2
    have d3 : (a2 != b2) = true := by simpa using e2
    simp [e2, d2, d3]
  by_cases e3 : a3 = b3
  rotate_left
  · have d2 : (a3 == b3) = false := by simpa using e3
    have d3 : (a3 != b3) = true := by simpa using e3
    simp [e3, d2, d3]
  simp [e0, e1, e2, e3]

def bulk_Live (x : Int × List (Int)) : Nat := bulkL bulk_Int x.2

def ok_Live (x : Int × List (Int)) : Prop := okL ok_Int x.2

theorem of_Live (x : Int × List (Int)) (h : wfD (.pair (.int .i64) (.sl false (.int .i64))) x) : ok_Live x := ⟨h.2.1, fun y hy => of_Int y (h.2.2 y hy)⟩

theorem szLive_eq (x : Int × List (Int)) (left : Int) (h0 : 0 ≤ left) (h1 : left ≤ 1048576) (hx : ok_Live x) : laws_szLive.f x left = some (szr (bulk_Live x) left) := by
  unfold ok_Live at hx
  unfold laws_szLive.f bulk_Live
  rw [szIntS_eq (x.2) left (by omega) (by omega) hx, Option.bind_some, szr_neg]
  by_cases c0 : ((bulkL bulk_Int x.2 : Nat) : Int) ≤ left
  rotate_left
  · simp only [c0, decide_false, Bool.not_false, cond_true]
    all_goals (unfold szr; rw [if_neg (by omega)])
  simp only [c0, decide_true, Bool.not_true, cond_false]
  all_goals (rw [szr_pos c0])
  all_goals (unfold szr; rw [if_pos (by omega)])
  all_goals first | done | (congr 1; omega)

theorem toLive_eq (x : Int × List (Int)) (hx : ok_Live x) (hs : bulk_Live x ≤ 1048576) : laws_toLive.f x = some x := by
  unfold ok_Live at hx
  unfold bulk_Live at hs
  unfold laws_toLive.f
  simp only [toIntS_eq (x.2) hx (by first | omega | (unfold bulkL at hs; omega)), Option.bind_some]

def lim_Live (x : Int × List (Int)) : Prop := x.2.length < 2 ^ 62

theorem eqLive_eq (x y : Int × List (Int)) (hx : lim_Live x) : laws_eqLive.f x y = some (decide (x = y)) := by
  have h1 := hx
  obtain ⟨a0, a1⟩ := x
  obtain ⟨b0, b1⟩ := y
  unfold laws_eqLive.f
  simp only [eqIntS_eq a1 b1 h1, Option.bind_some]
  by_cases e0 : a0 = b0
  rotate_left
  · have d2 : (a0 == b0) = false := by simpa using e0
    have d3 : (a0 != b0) = true := by simpa using e0
    simp [e0, d2, d3]
  by_cases e1 : a1 = b1
  rotate_left
  · simp [e1]
  simp [e0, e1]

def bulk_Store (x : (Int × List (Int)) × List (List UInt8 × Int × Int × Int × Int) × Int × Int × Int) : Nat := bulk_Live x.1 + bulkL bulk_Entry x.2.1

def ok_Store (x : (Int × List (Int)) × List (List UInt8 × Int × Int × Int × Int) × Int × Int × Int) : Prop := ok_Live x.1 ∧ okL ok_Entry x.2.1

theorem of_Store (x : (Int × List (Int)) × List (List UInt8 × Int × Int × Int × Int) × Int × Int × Int) (h : wfD (.pair (.pair (.int .i64) (.sl false (.int .i64))) (.pair (.sl false (.pair .str (.pair (.int .i64) (.pair (.int .i64) (.pair (.int .i64) (.int .i64)))))) (.pair (.int .i64) (.pair (.int .i64) (.int .i64))))) x) : ok_Store x := ⟨of_Live _ h.1, ⟨h.2.1.1, fun y hy => of_Entry y (h.2.1.2 y hy)⟩⟩

theorem szStore_eq (x : (Int × List (Int)) × List (List UInt8 × Int × Int × Int × Int) × Int × Int × Int) (left : Int) (h0 : 0 ≤ left) (h1 : left ≤ 1048576) (hx : ok_Store x) : laws_szStore.f x left = some (szr (bulk_Store x) left) := by
  unfold ok_Store at hx
  unfold laws_szStore.f bulk_Store
  rw [szLive_eq (x.1) left (by omega) (by omega) hx.1, Option.bind_some, szr_neg]
  by_cases c0 : ((bulk_Live x.1 : Nat) : Int) ≤ left
  rotate_left
  · simp only [c0, decide_false, Bool.not_false, cond_true]
    all_goals (unfold szr; rw [if_neg (by omega)])
  simp only [c0, decide_true, Bool.not_true, cond_false]
  all_goals (rw [szr_pos c0])
  rw [szEntryS_eq (x.2.1) (left - ((bulk_Live x.1 : Nat) : Int)) (by omega) (by omega) hx.2, Option.bind_some, szr_neg]
  by_cases c1 : ((bulkL bulk_Entry x.2.1 : Nat) : Int) ≤ left - ((bulk_Live x.1 : Nat) : Int)
  rotate_left
  · simp only [c1, decide_false, Bool.not_false, cond_true]
    all_goals (unfold szr; rw [if_neg (by omega)])
  simp only [c1, decide_true, Bool.not_true, cond_false]
  all_goals (rw [szr_pos c1])
  all_goals (unfold szr; rw [if_pos (by omega)])
  all_goals first | done | (congr 1; omega)

theorem toStore_eq (x : (Int × List (Int)) × List (List UInt8 × Int × Int × Int × Int) × Int × Int × Int) (hx : ok_Store x) (hs : bulk_Store x ≤ 1048576) : laws_toStore.f x = some x := by
  unfold ok_Store at hx
  unfold bulk_Store at hs
  unfold laws_toStore.f
  simp only [toLive_eq (x.1) hx.1 (by omega), toEntryS_eq (x.2.1) hx.2 (by first | omega | (unfold bulkL at hs; omega)), Option.bind_some]

def lim_Store (x : (Int × List (Int)) × List (List UInt8 × Int × Int × Int × Int) × Int × Int × Int) : Prop := lim_Live (x.1) ∧ x.2.1.length < 2 ^ 62

theorem eqStore_eq (x y : (Int × List (Int)) × List (List UInt8 × Int × Int × Int × Int) × Int × Int × Int) (hx : lim_Store x) : laws_eqStore.f x y = some (decide (x = y)) := by
  obtain ⟨h0, h1⟩ := hx
  obtain ⟨a0, a1, a2, a3, a4⟩ := x
  obtain ⟨b0, b1, b2, b3, b4⟩ := y
  unfold laws_eqStore.f
  simp only [eqLive_eq a0 b0 h0, eqEntryS_eq a1 b1 h1, Option.bind_some]
  by_cases e0 : a0 = b0
  rotate_left
  · simp [e0]
  by_cases e1 : a1 = b1
  rotate_left
  · simp [e1]
  by_cases e2 : a2 = b2
  rotate_left
  · have d2 : (a2 == b2) = false := by simpa using e2
    have d3 : (a2 != b2) = true := by simpa using e2
    simp [e2, d2, d3]
  by_cases e3 : a3 = b3
  rotate_left
  · have d2 : (a3 == b3) = false := by simpa using e3
    have d3 : (a3 != b3) = true := by simpa using e3
    simp [e3, d2, d3]
  by_cases e4 : a4 = b4
  rotate_left
  · have d2 : (a4 == b4) = false := by simpa using e4
    have d3 : (a4 != b4) = true := by simpa using e4
    simp [e4, d2, d3]
  simp [e0, e1, e2, e3, e4]

theorem impl_in_eq (n a b : Int) : impl_in.f n a b = some (decide (a ≤ n ∧ n ≤ b)) := by
  unfold impl_in.f
  by_cases h : a ≤ n
  · have h2 : n ≥ a := h
    simp [h, h2]
  · have h2 : ¬ n ≥ a := h
    simp [h, h2]

theorem spec_l1In_eq (n a b : Int) : spec_l1In.f n a b = some (decide (a ≤ n ∧ n ≤ b)) := impl_in_eq n a b

abbrev EntryT := List UInt8 × Int × Int × Int × Int

def leK (a b : List UInt8) : Bool := Op.bytesLess a b || a == b

theorem dnn {k : Int} (h : 0 ≤ k) : decide (k < 0) = false := by
  have : ¬ k < 0 := by omega
  simp [this]

theorem less_irrefl : ∀ a : List UInt8, Op.bytesLess a a = false
  | [] => rfl
  | x :: a => by simp [Op.bytesLess, less_irrefl a]

theorem u8_lt {a b : UInt8} : a < b ↔ a.toNat < b.toNat := UInt8.lt_iff_toNat_lt

theorem u8_eq {a b : UInt8} (h : a.toNat = b.toNat) : a = b := UInt8.toNat.inj h

theorem less_trans : ∀ a b c : List UInt8, Op.bytesLess a b = true → Op.bytesLess b c = true → Op.bytesLess a c = true
  | _, [], _, h, _ => by simp [Op.bytesLess] at h
  | _, _ :: _, [], _, h => by simp [Op.bytesLess] at h
  | [], _ :: _, _ :: _, _, _ => rfl
  | x :: a, y :: b, z :: c, h1, h2 => by
    simp only [Op.bytesLess, Bool.or_eq_true, decide_eq_true_eq, Bool.and_eq_true, beq_iff_eq] at h1 h2 ⊢
    rcases h1 with h1 | ⟨h1, k1⟩
    · rcases h2 with h2 | ⟨h2, k2⟩
      · left; rw [u8_lt] at *; omega
      · left; rw [← h2]; exact h1
    · rcases h2 with h2 | ⟨h2, k2⟩
      · left; rw [h1]; exact h2
      · exact .inr ⟨h1.trans h2, less_trans a b c k1 k2⟩

theorem less_total : ∀ a b : List UInt8, Op.bytesLess a b = false → a ≠ b → Op.bytesLess b a = true
  | [], [], _, h => absurd rfl h
  | [], _ :: _, h, _ => by simp [Op.bytesLess] at h
  | _ :: _, [], _, _ => rfl
  | x :: a, y :: b, h1, h2 => by
    simp only [Op.bytesLess, Bool.or_eq_false_iff, decide_eq_false_iff_not, Bool.and_eq_false_iff] at h1
    simp only [Op.bytesLess, Bool.or_eq_true, decide_eq_true_eq, Bool.and_eq_true, beq_iff_eq]
    by_cases e : x = y
    · subst e
      right
      refine ⟨rfl, less_total a b ?_ fun e => h2 (by rw [e])⟩
      rcases h1.2 with k | k
      · simp at k
      · exact k
    · left
      rw [u8_lt] at *
      have := h1.1
      have hne : x.toNat ≠ y.toNat := fun k => e (u8_eq k)
      omega

theorem less_asymm (a b : List UInt8) (h : Op.bytesLess a b = true) : Op.bytesLess b a = false := by
  cases hb : Op.bytesLess b a with
  | false => rfl
  | true => have := less_trans a b a h hb; rw [less_irrefl] at this; simp at this

theorem leK_not (a b : List UInt8) : leK a b = !Op.bytesLess b a := by
  unfold leK
  cases h : Op.bytesLess a b with
  | true => rw [less_asymm a b h]; rfl
  | false =>
    by_cases e : a = b
    · subst e; simp [h]
    · rw [less_total a b h e]
      have : (a == b) = false := by simpa using e
      simp [this]

def nameB (b : UInt8) : Bool := (decide (97 ≤ b.toNat) && decide (b.toNat ≤ 122)) || (decide (48 ≤ b.toNat) && decide (b.toNat ≤ 57))

def nameOk (s : List UInt8) : Bool := s.all nameB && decide (1 ≤ s.length ∧ s.length ≤ 12)

theorem bAt_nat (s : List UInt8) (n : Nat) (h : n < s.length) : bAt s (n : Int) = (s[n].toNat : Int) := by
  unfold bAt
  rw [Int.toNat_natCast, getD_lt h]

theorem dec_ge {a : Nat} {k : Nat} : decide ((a : Int) ≥ (k : Int)) = decide (k ≤ a) := decide_eq_decide.2 (by omega)

theorem dec_le {a : Nat} {k : Nat} : decide ((a : Int) ≤ (k : Int)) = decide (a ≤ k) := decide_eq_decide.2 (by omega)

theorem impl_NameOk_eq (s : List UInt8) (hl : s.length < 2 ^ 62) : impl_NameOk.f s = some (nameOk s) := by
  have key := all_loop (step := impl_NameOk.l0) s nameB (fun n => (s, (n : Int))) s hl
    (fun rec n h => by
      have hw : w64 ((n : Int) + 1) = ((n + 1 : Nat) : Int) := w64_succ (by omega)
      have e1 : decide ((s[n].toNat : Int) ≥ 97) = decide (97 ≤ s[n].toNat) := dec_ge (k := 97)
      have e2 : decide ((s[n].toNat : Int) ≤ 122) = decide (s[n].toNat ≤ 122) := dec_le (k := 122)
      have e3 : decide ((s[n].toNat : Int) ≥ 48) = decide (48 ≤ s[n].toNat) := dec_ge (k := 48)
      have e4 : decide ((s[n].toNat : Int) ≤ 57) = decide (s[n].toNat ≤ 57) := dec_le (k := 57)
      simp only [impl_NameOk.l0, Int.ofNat_lt, h, decide_true, cond_true, inB_nat, bAt_nat s n h, e1, e2, e3, e4]
      unfold nameB
      cases decide (97 ≤ s[n].toNat) <;> cases decide (s[n].toNat ≤ 122) <;> cases decide (48 ≤ s[n].toNat) <;> cases decide (s[n].toNat ≤ 57) <;> simp [hw])
    (fun rec => by simp [impl_NameOk.l0])
  have key : lp impl_NameOk.l0 (s, 0) = _ := key
  unfold impl_NameOk.f nameOk
  rw [key, Option.bind_some]
  have e : decide ((1 : Int) ≤ (s.length : Int) ∧ (s.length : Int) ≤ 12) = decide (1 ≤ s.length ∧ s.length ≤ 12) := decide_eq_decide.2 (by omega)
  cases h : s.all nameB
  · simp
  · simp only [if_true, caseS_l, impl_in_eq, Option.bind_some, e, Bool.true_and]

theorem spec_NameOk_eq (s : List UInt8) (hl : s.length < 2 ^ 62) : spec_NameOk.f s = some (nameOk s) := by
  have key := all_loop (step := spec_NameOk.l0) s nameB (fun n => (s, (n : Int))) s hl
    (fun rec n h => by
      have hw : w64 ((n : Int) + 1) = ((n + 1 : Nat) : Int) := w64_succ (by omega)
      have e1 : decide ((s[n].toNat : Int) ≥ 97) = decide (97 ≤ s[n].toNat) := dec_ge (k := 97)
      have e2 : decide ((s[n].toNat : Int) ≤ 122) = decide (s[n].toNat ≤ 122) := dec_le (k := 122)
      have e3 : decide ((s[n].toNat : Int) ≥ 48) = decide (48 ≤ s[n].toNat) := dec_ge (k := 48)
      have e4 : decide ((s[n].toNat : Int) ≤ 57) = decide (s[n].toNat ≤ 57) := dec_le (k := 57)
      simp only [spec_NameOk.l0, Int.ofNat_lt, h, decide_true, cond_true, inB_nat, bAt_nat s n h, e1, e2, e3, e4]
      unfold nameB
      cases decide (97 ≤ s[n].toNat) <;> cases decide (s[n].toNat ≤ 122) <;> cases decide (48 ≤ s[n].toNat) <;> cases decide (s[n].toNat ≤ 57) <;> simp [hw])
    (fun rec => by simp [spec_NameOk.l0])
  have key : lp spec_NameOk.l0 (s, 0) = _ := key
  unfold spec_NameOk.f nameOk
  rw [key, Option.bind_some]
  have e : decide ((1 : Int) ≤ (s.length : Int) ∧ (s.length : Int) ≤ 12) = decide (1 ≤ s.length ∧ s.length ≤ 12) := decide_eq_decide.2 (by omega)
  cases h : s.all nameB
  · simp
  · simp only [if_true, caseS_l, spec_l1In_eq, Option.bind_some, e, Bool.true_and]

abbrev FileT := List UInt8 × List UInt8 × Int

abbrev DiskT := List FileT × Int × Int × Bool

def usedN (l : List FileT) : Nat := sumN (fun f => f.2.1.length) l

def fileOk (f : FileT) : Bool := nameOk f.1 && decide (0 ≤ f.2.2 ∧ f.2.2 ≤ (f.2.1.length : Int))

/-- Do the names rise, from a name on? -/
def riseF : Option (List UInt8) → List FileT → Bool
  | _, [] => true
  | none, f :: r => riseF (some f.1) r
  | some p, f :: r => Op.bytesLess p f.1 && riseF (some f.1) r

def filesOk (l : List FileT) : Bool := l.all fileOk && riseF none l

def diskOk (d : DiskT) : Bool := decide (d.1.length ≤ 130) && (decide (0 ≤ d.2.1 ∧ d.2.1 ≤ 100000) && (decide (-1 ≤ d.2.2.1 ∧ d.2.2.1 ≤ 100000) && (decide ((usedN d.1 : Int) ≤ d.2.1) && filesOk d.1)))

def before (l : List FileT) : Nat → Option (List UInt8)
  | 0 => none
  | n + 1 => some (l.getD n ([], [], 0)).1

/-- One file after the other: each right, and behind the one before. -/
def okFrom (p : Option (List UInt8)) (l : List FileT) : Bool := l.all fileOk && riseF p l

def follows (p : Option (List UInt8)) (f : FileT) : Bool := match p with | none => true | some q => Op.bytesLess q f.1

theorem okFrom_cons (p : Option (List UInt8)) (f : FileT) (l : List FileT) : okFrom p (f :: l) = (fileOk f && follows p f && okFrom (some f.1) l) := by
  unfold okFrom follows
  cases p <;> simp only [List.all_cons, riseF] <;> cases fileOk f <;> simp [Bool.and_comm, Bool.and_assoc, Bool.and_left_comm]

theorem spec_l3Used_eq (d : DiskT) (hl : d.1.length < 2 ^ 62) (hu : usedN d.1 < 2 ^ 62) : spec_l3Used.f d = some (usedN d.1 : Int) := by
  have key := lp_up (step := spec_l3Used.l0) (fun n (s : Int) => (d, s, (n : Int))) d.1.length (fun n s => s + (usedN (d.1.drop n) : Int)) (fun n s => 0 ≤ s ∧ s + (usedN (d.1.drop n) : Int) < 2 ^ 62)
    (fun rec n s hn hi ih => by
      rcases Nat.lt_or_ge n d.1.length with h | h
      · have e : usedN (d.1.drop n) = d.1[n].2.1.length + usedN (d.1.drop (n + 1)) := sumN_drop _ h
        have h2 := hi.2
        have h1 := hi.1
        rw [e] at h2
        simp only [spec_l3Used.l0, Int.ofNat_lt, h, decide_true, cond_true, inB_nat, rdA_nat, getD_lt h, w64_succ (show n + 1 < 9223372036854775808 by omega)]
        rw [w64_id (by omega) (by omega), ih _ h ⟨by omega, by omega⟩, e]
        congr 1; omega
      · have : n = d.1.length := by omega
        subst this
        simp [spec_l3Used.l0, usedN, sumN])
    hl 0 0 (Nat.zero_le _) ⟨by omega, by simp only [List.drop_zero]; omega⟩
  have key : lp spec_l3Used.l0 (d, 0, 0) = _ := key
  unfold spec_l3Used.f
  rw [key]; simp

theorem before_succ (l : List FileT) (n : Nat) (h : n < l.length) : before l (n + 1) = some l[n].1 := by
  show some (l.getD n ([], [], 0)).1 = _
  rw [getD_lt h]

theorem impl_DiskOk_l0 (d : DiskT) (hl : d.1.length < 2 ^ 62) (hu : usedN d.1 < 2 ^ 62) (hn : ∀ f ∈ d.1, f.1.length < 2 ^ 62) : lp impl_DiskOk.l0 (d, 0, d.1, (d.1.length : Int), 0) = some (if filesOk d.1 = true then .inl (d, (usedN d.1 : Int)) else .inr false) := by
  have key := lp_up (step := impl_DiskOk.l0) (fun n (s : Int) => (d, s, d.1, (d.1.length : Int), (n : Int))) d.1.length (fun n s => if okFrom (before d.1 n) (d.1.drop n) = true then .inl (d, s + (usedN (d.1.drop n) : Int)) else .inr false) (fun n s => 0 ≤ s ∧ s + (usedN (d.1.drop n) : Int) < 2 ^ 62)
    (fun rec n s hn' hi ih => by
      rcases Nat.lt_or_ge n d.1.length with h | h
      · have e : usedN (d.1.drop n) = d.1[n].2.1.length + usedN (d.1.drop (n + 1)) := sumN_drop _ h
        have h2 := hi.2
        have h1 := hi.1
        rw [e] at h2
        have hw : w64 ((n : Int) + 1) = ((n + 1 : Nat) : Int) := w64_succ (by omega)
        have hw2 : w64 (s + (d.1[n].2.1.length : Int)) = s + (d.1[n].2.1.length : Int) := w64_id (by omega) (by omega)
        have ih2 := ih (s + (d.1[n].2.1.length : Int)) h ⟨by omega, by omega⟩
        have ea : s + (d.1[n].2.1.length : Int) + (usedN (d.1.drop (n + 1)) : Int) = s + ((d.1[n].2.1.length + usedN (d.1.drop (n + 1)) : Nat) : Int) := by omega
        rw [before_succ d.1 n h, ea] at ih2
        have hnm := hn d.1[n] (List.getElem_mem h)
        rw [List.drop_eq_getElem_cons h, okFrom_cons, ← List.drop_eq_getElem_cons h, e]
        simp only [impl_DiskOk.l0, Int.ofNat_lt, h, decide_true, cond_true, inB_nat, rdA_nat, getD_lt h, impl_NameOk_eq _ hnm, Option.bind_some, impl_in_eq]
        unfold fileOk
        rcases Bool.eq_false_or_eq_true (nameOk d.1[n].1) with k1 | k1
        rotate_left
        · simp [k1]
        rcases Bool.eq_false_or_eq_true (decide (0 ≤ d.1[n].2.2 ∧ d.1[n].2.2 ≤ (d.1[n].2.1.length : Int))) with k2 | k2
        rotate_left
        · simp only [k1, k2, Bool.not_true, Bool.not_false, cond_false, cond_true, Option.bind_some, caseS_r]; simp
        simp only [k1, k2, Bool.not_true, cond_false, Bool.true_and]
        cases n with
        | zero =>
          have z : ¬ ((0 : Nat) : Int) > 0 := by omega
          simp only [z, decide_false, cond_false, Option.bind_some, caseS_l, hw2, hw, ih2, before, follows, Bool.true_and]
        | succ m =>
          have z : ((m + 1 : Nat) : Int) > 0 := by omega
          have hm : m < d.1.length := by omega
          have z2 : w64 (((m + 1 : Nat) : Int) - 1) = (m : Int) := by rw [w64_id (by omega) (by omega)]; omega
          rw [before_succ d.1 m hm]
          simp only [z, decide_true, cond_true, z2, inB_nat, hm, rdA_nat, getD_lt hm, follows]
          rcases Bool.eq_false_or_eq_true (Op.bytesLess d.1[m].1 d.1[m + 1].1) with k3 | k3
          · simp only [k3, Bool.not_true, cond_false, Option.bind_some, caseS_l, hw2, hw, ih2, Bool.true_and]
          · simp [k3]
      · have : n = d.1.length := by omega
        subst this
        simp [impl_DiskOk.l0, okFrom, riseF, usedN, sumN])
    hl 0 0 (Nat.zero_le _) ⟨by omega, by simp only [List.drop_zero]; omega⟩
  have key : lp impl_DiskOk.l0 (d, 0, d.1, (d.1.length : Int), 0) = _ := key
  rw [key, List.drop_zero, Int.zero_add]; rfl

theorem spec_DiskOk_l0 (d : DiskT) (hl : d.1.length < 2 ^ 62) (hn : ∀ f ∈ d.1, f.1.length < 2 ^ 62) : lp spec_DiskOk.l0 (d, 0) = some (if filesOk d.1 = true then .inl () else .inr false) := by
  have key := lp_up (step := spec_DiskOk.l0) (fun n (_ : Unit) => (d, (n : Int))) d.1.length (fun n _ => if okFrom (before d.1 n) (d.1.drop n) = true then .inl () else .inr false) (fun _ _ => True)
    (fun rec n s hn' _ ih => by
      rcases Nat.lt_or_ge n d.1.length with h | h
      · have hw : w64 ((n : Int) + 1) = ((n + 1 : Nat) : Int) := w64_succ (by omega)
        have ih2 := ih () h trivial
        rw [before_succ d.1 n h] at ih2
        have hnm := hn d.1[n] (List.getElem_mem h)
        rw [List.drop_eq_getElem_cons h, okFrom_cons]
        simp only [spec_DiskOk.l0, Int.ofNat_lt, h, decide_true, cond_true, inB_nat, rdA_nat, getD_lt h, spec_NameOk_eq _ hnm, Option.bind_some, spec_l1In_eq]
        unfold fileOk
        rcases Bool.eq_false_or_eq_true (nameOk d.1[n].1) with k1 | k1
        rotate_left
        · simp [k1]
        rcases Bool.eq_false_or_eq_true (decide (0 ≤ d.1[n].2.2 ∧ d.1[n].2.2 ≤ (d.1[n].2.1.length : Int))) with k2 | k2
        rotate_left
        · simp only [k1, k2, Bool.not_true, Bool.not_false, cond_false, cond_true, Option.bind_some, caseS_r]; simp
        simp only [k1, k2, Bool.not_true, cond_false, Bool.true_and]
        cases n with
        | zero =>
          have z : ¬ ((0 : Nat) : Int) > 0 := by omega
          simp only [z, decide_false, cond_false, Option.bind_some, caseS_l, hw, ih2, before, follows, Bool.true_and]
        | succ m =>
          have z : ((m + 1 : Nat) : Int) > 0 := by omega
          have hm : m < d.1.length := by omega
          have z2 : w64 (((m + 1 : Nat) : Int) - 1) = (m : Int) := by rw [w64_id (by omega) (by omega)]; omega
          have z3 : (Op.bytesLess d.1[m + 1].1 d.1[m].1 || d.1[m + 1].1 == d.1[m].1) = !Op.bytesLess d.1[m].1 d.1[m + 1].1 := leK_not _ _
          rw [before_succ d.1 m hm]
          simp only [z, decide_true, cond_true, z2, inB_nat, hm, rdA_nat, getD_lt hm, follows, z3]
          rcases Bool.eq_false_or_eq_true (Op.bytesLess d.1[m].1 d.1[m + 1].1) with k3 | k3
          · simp only [k3, Bool.not_true, cond_false, Option.bind_some, caseS_l, hw, ih2, Bool.true_and]
          · simp [k3]
      · have : n = d.1.length := by omega
        subst this
        simp [spec_DiskOk.l0, okFrom, riseF])
    hl 0 () (Nat.zero_le _) trivial
  have key : lp spec_DiskOk.l0 (d, 0) = _ := key
  rw [key, List.drop_zero]; rfl

/-- A disk that fits into memory. -/
def dlim (d : DiskT) : Prop := d.1.length < 1000000000 ∧ usedN d.1 < 1000000000000 ∧ ∀ f ∈ d.1, f.1.length < 1000000000000

theorem impl_DiskOk_eq (d : DiskT) (h : dlim d) : impl_DiskOk.f d = some (diskOk d) := by
  obtain ⟨h1, h2, h3⟩ := h
  unfold impl_DiskOk.f diskOk
  have e1 : decide ((d.1.length : Int) > 130) = !decide (d.1.length ≤ 130) := by
    by_cases c : d.1.length ≤ 130
    · have : ¬ (d.1.length : Int) > 130 := by omega
      simp [c, this]
    · have : (d.1.length : Int) > 130 := by omega
      simp [c, this]
  rw [e1, impl_in_eq, impl_in_eq, impl_DiskOk_l0 d (by omega) (by omega) fun f hf => by have := h3 f hf; omega]
  cases decide (d.1.length ≤ 130)
  · rfl
  · simp only [Bool.not_true, cond_false, Option.bind_some, Bool.true_and]
    cases decide (0 ≤ d.2.1 ∧ d.2.1 ≤ 100000)
    · rfl
    · simp only [Bool.not_true, cond_false, Option.bind_some, Bool.true_and]
      cases decide (-1 ≤ d.2.2.1 ∧ d.2.2.1 ≤ 100000)
      · rfl
      · cases filesOk d.1 <;> simp

theorem spec_DiskOk_eq (d : DiskT) (h : dlim d) : spec_DiskOk.f d = some (diskOk d) := by
  obtain ⟨h1, h2, h3⟩ := h
  unfold spec_DiskOk.f diskOk
  have e1 : decide ((d.1.length : Int) > 130) = !decide (d.1.length ≤ 130) := by
    by_cases c : d.1.length ≤ 130
    · have : ¬ (d.1.length : Int) > 130 := by omega
      simp [c, this]
    · have : (d.1.length : Int) > 130 := by omega
      simp [c, this]
  have e2 : decide ((usedN d.1 : Int) > d.2.1) = !decide ((usedN d.1 : Int) ≤ d.2.1) := by
    by_cases c : (usedN d.1 : Int) ≤ d.2.1
    · have : ¬ (usedN d.1 : Int) > d.2.1 := by omega
      simp [c, this]
    · have : (usedN d.1 : Int) > d.2.1 := by omega
      simp [c, this]
  rw [e1, spec_l1In_eq, spec_l1In_eq, spec_l3Used_eq d (by omega) (by omega), spec_DiskOk_l0 d (by omega) fun f hf => by have := h3 f hf; omega]
  cases decide (d.1.length ≤ 130)
  · rfl
  · simp only [Bool.not_true, cond_false, Option.bind_some, Bool.true_and]
    cases decide (0 ≤ d.2.1 ∧ d.2.1 ≤ 100000)
    · rfl
    · simp only [Bool.not_true, cond_false, Option.bind_some, Bool.true_and]
      cases decide (-1 ≤ d.2.2.1 ∧ d.2.2.1 ≤ 100000)
      · rfl
      · simp only [Bool.not_true, cond_false, Option.bind_some, Bool.true_and, e2]
        cases decide ((usedN d.1 : Int) ≤ d.2.1)
        · rfl
        · cases filesOk d.1 <;> simp

def fileIx (l : List FileT) (name : List UInt8) : Int := match l.findIdx? (fun f => f.1 == name) with | some i => (i : Int) | none => -1

theorem fileIx_loop {A B : Type} {step : (A → Option (B ⊕ Int)) → A → Option (B ⊕ Int)} (l : List FileT) (name : List UInt8) (st : Nat → A) (b : B) (hl : l.length < 2 ^ 62)
    (hs : ∀ rec n, (h : n < l.length) → step rec (st n) = if (l[n].1 == name) = true then some (.inr (n : Int)) else rec (st (n + 1)))
    (he : ∀ rec, step rec (st l.length) = some (.inl b)) : lp step (st 0) = some (match l.findIdx? (fun f => f.1 == name) with | some i => .inr (i : Int) | none => .inl b) := by
  have := lp_up (step := step) (fun n (_ : Unit) => st n) l.length (fun n _ => match (l.drop n).findIdx? (fun f => f.1 == name) with | some i => .inr ((n + i : Nat) : Int) | none => .inl b) (fun _ _ => True)
    (fun rec n s hn _ ih => by
      rcases Nat.lt_or_ge n l.length with h | h
      · rw [hs rec n h, ih () h trivial, List.drop_eq_getElem_cons h, List.findIdx?_cons]
        cases hf : l[n].1 == name
        · simp only [Bool.false_eq_true, if_false]
          cases List.findIdx? (fun f => f.1 == name) (l.drop (n + 1)) with
          | none => rfl
          | some i => simp only [Option.map_some]; congr 2; omega
        · simp
      · have : n = l.length := by omega
        subst this
        rw [he]; simp) hl 0 () (Nat.zero_le _) trivial
  simpa using this

theorem impl_fileAt_eq (d : DiskT) (name : List UInt8) (hl : d.1.length < 2 ^ 62) : impl_fileAt.f d name = some (fileIx d.1 name) := by
  have hk := fileIx_loop (step := impl_fileAt.l0) d.1 name (fun n => (name, d.1, (d.1.length : Int), (n : Int))) () hl
    (fun rec n h => by
      simp only [impl_fileAt.l0, Int.ofNat_lt, h, decide_true, cond_true, inB_nat, rdA_nat, getD_lt h, w64_succ (show n + 1 < 9223372036854775808 by omega)]
      cases d.1[n].1 == name <;> simp)
    (fun rec => by simp [impl_fileAt.l0])
  have hk : lp impl_fileAt.l0 (name, d.1, (d.1.length : Int), 0) = _ := hk
  unfold impl_fileAt.f fileIx
  rw [hk, Option.bind_some]
  cases List.findIdx? (fun f => f.1 == name) d.1 <;> rfl

theorem spec_l3Find_eq (d : DiskT) (name : List UInt8) (hl : d.1.length < 2 ^ 62) : spec_l3Find.f d name = some (fileIx d.1 name) := by
  have hk := fileIx_loop (step := spec_l3Find.l0) d.1 name (fun n => (name, d, (n : Int))) () hl
    (fun rec n h => by
      simp only [spec_l3Find.l0, Int.ofNat_lt, h, decide_true, cond_true, inB_nat, rdA_nat, getD_lt h, w64_succ (show n + 1 < 9223372036854775808 by omega)]
      cases d.1[n].1 == name <;> simp)
    (fun rec => by simp [spec_l3Find.l0])
  have hk : lp spec_l3Find.l0 (name, d, 0) = _ := hk
  unfold spec_l3Find.f fileIx
  rw [hk, Option.bind_some]
  cases List.findIdx? (fun f => f.1 == name) d.1 <;> rfl

theorem fileIx_cases (l : List FileT) (name : List UInt8) : (fileIx l name = -1 ∧ ∀ f ∈ l, f.1 ≠ name) ∨ ∃ i : Nat, ∃ h : i < l.length, fileIx l name = (i : Int) ∧ l[i].1 = name := by
  unfold fileIx
  cases hf : List.findIdx? (fun f => f.1 == name) l with
  | none =>
    left
    refine ⟨rfl, fun f hm => ?_⟩
    have := List.findIdx?_eq_none_iff.1 hf f hm
    simpa using this
  | some i =>
    right
    obtain ⟨h, h1, _⟩ := List.findIdx?_eq_some_iff_getElem.1 hf
    exact ⟨i, h, rfl, by simpa using h1⟩

theorem inB_ix {l : List FileT} {i : Nat} (h : i < l.length) : inB (i : Int) l.length = true := by simp [h]

theorem rdA_ix {l : List FileT} {i : Nat} (h : i < l.length) : rdA ([], [], 0) l (i : Int) = l[i] := by rw [rdA_nat, getD_lt h]

theorem ix_none {l : List FileT} {name : List UInt8} (h : fileIx l name = -1) : l.findIdx? (fun f => f.1 == name) = none := by
  unfold fileIx at h
  cases e : l.findIdx? (fun f => f.1 == name) with
  | none => rfl
  | some i => rw [e] at h; simp only at h; omega

theorem ix_some {l : List FileT} {name : List UInt8} {i : Nat} (h : fileIx l name = (i : Int)) : l.findIdx? (fun f => f.1 == name) = some i := by
  unfold fileIx at h
  cases e : l.findIdx? (fun f => f.1 == name) with
  | none => rw [e] at h; simp only at h; omega
  | some j => rw [e] at h; simp only at h; congr 1; omega

theorem used_mem {l : List FileT} {f : FileT} (h : f ∈ l) : f.2.1.length ≤ usedN l := sumN_mem (fun f => f.2.1.length) h

theorem sumN_le {α : Type} {f g : α → Nat} (h : ∀ x, f x ≤ g x) : ∀ l : List α, sumN f l ≤ sumN g l
  | [] => Nat.le_refl _
  | x :: l => Nat.add_le_add (h x) (sumN_le h l)

theorem dlim_of {x0 : DiskT} (hok : ok_Disk x0) (hb : bulk_Disk x0 ≤ 1048576) : dlim x0 := by
  have h1 : usedN x0.1 ≤ sumN bulk_File x0.1 := sumN_le (fun f => by unfold bulk_File; omega) _
  unfold bulk_Disk bulkL at hb
  refine ⟨by omega, by omega, fun f hf => ?_⟩
  have h2 := sumN_mem bulk_File hf
  have h3 : f.1.length ≤ bulk_File f := by unfold bulk_File; omega
  omega

theorem u8_wrap (n : Nat) : UInt8.ofNat (IntKind.wrap .u8 (n : Int)).toNat = UInt8.ofNat n := by
  have e : IntKind.wrap .u8 (n : Int) = ((n % 256 : Nat) : Int) := by
    unfold IntKind.wrap
    simp only [IntKind.bits, IntKind.signed]
    simp
  rw [e, Int.toNat_natCast]
  exact UInt8.ofNat_mod_size

abbrev LiveT := Int × List Int

abbrev StoreT := LiveT × List EntryT × Int × Int × Int

theorem itoa_nat (n : Nat) : Lib.itoa (n : Int) = Lib.decDigits n := by
  unfold Lib.itoa
  rw [if_neg (by omega), Int.toNat_natCast]

theorem digits_len : ∀ (k n : Nat), n < 10 ^ (k + 1) → (Lib.decDigits n).length ≤ k + 1
  | 0, n, h => by rw [Lib.decDigits, dif_pos (by simpa using h)]; simp
  | k + 1, n, h => by
    rw [Lib.decDigits]
    split
    · simp
    · have := digits_len k (n / 10) (by rw [Nat.div_lt_iff_lt_mul (by omega)]; rw [Nat.pow_succ] at h; exact h)
      simp only [List.length_append, List.length_singleton]; omega

/-- The digits of what is left; none for 0. -/
def digs (n : Nat) : List UInt8 := if n = 0 then [] else Lib.decDigits n

theorem digs_step {n : Nat} (h : n ≠ 0) : digs n = digs (n / 10) ++ [UInt8.ofNat (48 + n % 10)] := by
  unfold digs
  rw [if_neg h, Lib.decDigits]
  split
  · rename_i h2
    rw [if_pos (by omega), Nat.mod_eq_of_lt h2]; rfl
  · rename_i h2
    rw [if_neg (by omega)]

theorem spec_Dec_eq (n : Nat) (hn : n < 1000000000000000000) : spec_Dec.f (n : Int) = some (Lib.decDigits n) := by
  unfold spec_Dec.f
  by_cases c : n = 0
  · subst c
    rw [Lib.decDigits]; rfl
  have c1 : ((n : Int) == 0) = false := by simpa using c
  have c2 : decide ((n : Int) < 0) = false := dnn (by omega)
  have key := lp_eq (step := spec_Dec.l0) (a := ((n : Int), ([] : List UInt8), false)) (fun a => (digs a.1.toNat ++ a.2.1, false)) (fun a => 0 ≤ a.1 ∧ a.2.2 = false ∧ a.2.1.length + a.1.toNat ≤ n) (fun a => a.1.toNat)
    (fun rec a ha ih => by
      obtain ⟨x, s, f⟩ := a
      obtain ⟨h0, hf, hl⟩ := ha
      simp only at hf hl h0 ih ⊢
      subst hf
      obtain ⟨m, rfl⟩ : ∃ m : Nat, x = (m : Int) := ⟨x.toNat, by omega⟩
      simp only [Int.toNat_natCast] at hl ih ⊢
      by_cases d : m = 0
      · subst d
        simp [spec_Dec.l0, digs]
      · have d1 : ((m : Int) != 0) = true := by simpa using d
        have e1 : Int.tmod (m : Int) 10 = ((m % 10 : Nat) : Int) := rfl
        have e2 : w64 (Int.tdiv (m : Int) 10) = ((m / 10 : Nat) : Int) := by
          rw [show Int.tdiv (m : Int) 10 = ((m / 10 : Nat) : Int) from rfl]; exact w64_nat (by omega)
        have e3 : decide (((m % 10 : Nat) : Int) < 0) = false := dnn (by omega)
        have e4 : strOf [IntKind.wrap .u8 (w64 (48 + ((m % 10 : Nat) : Int)))] = [UInt8.ofNat (48 + m % 10)] := by
          have e : w64 (48 + ((m % 10 : Nat) : Int)) = ((48 + m % 10 : Nat) : Int) := by rw [w64_id (by omega) (by omega)]; omega
          rw [e]
          unfold strOf
          simp only [List.map_cons, List.map_nil, u8_wrap]
        have hb : ([UInt8.ofNat (48 + m % 10)] : List UInt8).length + s.length ≤ 9223372036854775807 := by show 1 + _ ≤ _; omega
        have ih := ih (((m / 10 : Nat) : Int), [UInt8.ofNat (48 + m % 10)] ++ s, false) ⟨by simp only; omega, rfl, by simp only [List.length_append, List.length_singleton, Int.toNat_natCast]; omega⟩ (by simp only [Int.toNat_natCast]; omega)
        simp only [Int.toNat_natCast] at ih
        simp only [spec_Dec.l0, d1, cond_true, e1, e2, e3, cond_false, Option.bind_some, e4, hb, decide_true, ih]
        rw [digs_step d, List.append_assoc])
    ⟨by simp only; omega, rfl, by simp⟩ (by simp only [Int.toNat_natCast]; omega)
  simp only [c1, c2, cond_false, key, Option.bind_some, Int.toNat_natCast]
  unfold digs
  simp [c]

theorem Itoa_nat (n : Nat) (hn : n < 1000000000000000000) : strconv_Itoa.f (n : Int) = some (Lib.decDigits n) := by
  unfold strconv_Itoa.f
  have c : (decide (-9223372036854775808 ≤ (n : Int)) && decide ((n : Int) ≤ 9223372036854775807)) = true := by simp; omega
  rw [c, itoa_nat]; rfl

/-- The name of what has a number. -/
def nameN (word : List UInt8) (id : Int) : List UInt8 := if 1 ≤ id ∧ id ≤ 100000 then word ++ Lib.decDigits id.toNat else []

def segName (id : Int) : List UInt8 := nameN [115, 101, 103] id

theorem impl_named_eq (word : List UInt8) (id : Int) (hw : word.length ≤ 100) : impl_named.f word id = some (nameN word id) := by
  unfold impl_named.f nameN impl_Dec.f
  rw [impl_in_eq, Option.bind_some]
  by_cases h : 1 ≤ id ∧ id ≤ 100000
  · obtain ⟨n, rfl⟩ : ∃ n : Nat, id = (n : Int) := ⟨id.toNat, by omega⟩
    have hl := digits_len 5 n (by show n < 1000000; omega)
    have hb : word.length + (Lib.decDigits n).length ≤ 9223372036854775807 := by omega
    simp only [h, and_self, decide_true, Bool.not_true, cond_false, Itoa_nat n (by omega), Option.bind_some, hb, cond_true, if_true, Int.toNat_natCast]
  · simp [h]

theorem impl_SegName_eq (id : Int) : impl_SegName.f id = some (segName id) := by
  unfold impl_SegName.f segName
  rw [impl_named_eq [115, 101, 103] id (by show 3 ≤ 100; decide), Option.bind_some]

theorem spec_SegName_eq (id : Int) : spec_SegName.f id = some (segName id) := by
  unfold spec_SegName.f segName nameN
  rw [spec_l1In_eq, Option.bind_some]
  by_cases h : 1 ≤ id ∧ id ≤ 100000
  · obtain ⟨n, rfl⟩ : ∃ n : Nat, id = (n : Int) := ⟨id.toNat, by omega⟩
    have hl := digits_len 5 n (by show n < 1000000; omega)
    have hb : ([115, 101, 103] : List UInt8).length + (Lib.decDigits n).length ≤ 9223372036854775807 := by show 3 + _ ≤ _; omega
    simp only [h, and_self, decide_true, Bool.not_true, cond_false, spec_Dec_eq n (by omega), Option.bind_some, hb, cond_true, if_true, Int.toNat_natCast]
  · simp [h]

/-- A file's text. -/
def fileText (d : DiskT) (n : List UInt8) : List UInt8 × Bool :=
  if diskOk d = false then ([], false) else
  match d.1.findIdx? (fun f => f.1 == n) with
  | some i => ((d.1.getD i ([], [], 0)).2.1, true)
  | none => ([], false)

theorem impl_FileText_eq (d : DiskT) (n : List UInt8) (h : dlim d) : impl_FileText.f d n = some (fileText d n) := by
  have hl := h.1
  unfold impl_FileText.f fileText
  rw [impl_fileAt_eq d n (by omega), Option.bind_some, impl_DiskOk_eq d h]
  rcases fileIx_cases d.1 n with ⟨e, _⟩ | ⟨i, hi, e, _⟩
  · rw [e, ix_none e]; simp
  · rw [e, ix_some e]
    rcases Bool.eq_false_or_eq_true (diskOk d) with k | k
    · simp only [dnn (show (0 : Int) ≤ (i : Int) by omega), cond_false, Option.bind_some, k, Bool.not_true, inB_ix hi, cond_true, rdA_ix hi, getD_lt hi, Bool.true_eq_false, if_false]
    · simp only [dnn (show (0 : Int) ≤ (i : Int) by omega), cond_false, Option.bind_some, k, Bool.not_false, cond_true, if_true]

theorem spec_FileText_eq (d : DiskT) (n : List UInt8) (h : dlim d) : spec_FileText.f d n = some (fileText d n) := by
  have hl := h.1
  unfold spec_FileText.f fileText
  rw [spec_DiskOk_eq d h, Option.bind_some, spec_l3Find_eq d n (by omega)]
  rcases Bool.eq_false_or_eq_true (diskOk d) with k | k
  rotate_left
  · simp [k]
  rcases fileIx_cases d.1 n with ⟨e, _⟩ | ⟨i, hi, e, _⟩
  · rw [e, ix_none e]; simp [k]
  · rw [e, ix_some e]
    simp only [dnn (show (0 : Int) ≤ (i : Int) by omega), cond_false, Option.bind_some, k, Bool.not_true, inB_ix hi, cond_true, rdA_ix hi, getD_lt hi, Bool.true_eq_false, if_false]

theorem fileText_len (d : DiskT) (n : List UInt8) (h : dlim d) : (fileText d n).1.length ≤ usedN d.1 := by
  unfold fileText
  split
  · simp
  · rcases fileIx_cases d.1 n with ⟨e, _⟩ | ⟨i, hi, e, _⟩
    · rw [ix_none e]; simp
    · rw [ix_some e]
      simp only [getD_lt hi]
      exact used_mem (List.getElem_mem hi)

/-- What all segments hold. -/
def segN (d : DiskT) (l : List Int) : Nat := sumN (fun id => (fileText d (segName id)).1.length) l

theorem spec_SegBytes_eq (s : StoreT) (d : DiskT) (h : dlim d) (hl : s.1.2.length < 1000000000) : spec_SegBytes.f s d = some ((segN d (s.1.2.take 60) : Nat) : Int) := by
  have hu := h.2.1
  have key := lp_up (step := spec_SegBytes.l0) (fun n (a : Int) => (s, d, a, (n : Int))) s.1.2.length (fun n a => a + ((segN d ((s.1.2.take 60).drop n) : Nat) : Int)) (fun n a => 0 ≤ a ∧ a ≤ (n : Int) * 1000000000000 ∧ n ≤ 60)
    (fun rec n a hn ha ih => by
      obtain ⟨ha1, ha2, ha3⟩ := ha
      rcases Nat.lt_or_ge n s.1.2.length with h1 | h1
      · rcases Nat.lt_or_ge n 60 with h6 | h6
        · have h60 : (n : Int) < 60 := by omega
          have hft := fileText_len d (segName s.1.2[n]) h
          have hw : w64 (a + ((fileText d (segName s.1.2[n])).1.length : Int)) = a + ((fileText d (segName s.1.2[n])).1.length : Int) := w64_id (by omega) (by omega)
          have ht : n < (s.1.2.take 60).length := by rw [List.length_take]; omega
          have hg : (s.1.2.take 60)[n] = s.1.2[n] := List.getElem_take
          have ih := ih (a + ((fileText d (segName s.1.2[n])).1.length : Int)) h1 ⟨by omega, by omega, h6⟩
          rw [List.drop_eq_getElem_cons ht, hg]
          simp only [spec_SegBytes.l0, Int.ofNat_lt, h1, h60, decide_true, cond_true, inB_nat, rdA_nat, getD_lt h1, spec_SegName_eq, spec_FileText_eq d _ h, Option.bind_some, hw, w64_succ (show n + 1 < 9223372036854775808 by omega), ih]
          congr 1
          unfold segN
          simp only [sumN]; omega
        · have : n = 60 := by omega
          subst this
          have h60 : ¬ ((60 : Nat) : Int) < 60 := by omega
          have e : (s.1.2.take 60).drop 60 = [] := by rw [List.drop_eq_nil_iff, List.length_take]; omega
          simp only [spec_SegBytes.l0, Int.ofNat_lt, h1, h60, decide_true, decide_false, cond_true, cond_false, e]
          simp [segN, sumN]
      · have : n = s.1.2.length := by omega
        subst this
        have e : (s.1.2.take 60).drop s.1.2.length = [] := by rw [List.drop_eq_nil_iff, List.length_take]; omega
        simp [spec_SegBytes.l0, e, segN, sumN])
    (by omega) 0 0 (Nat.zero_le _) ⟨by omega, by omega, by omega⟩
  have key : lp spec_SegBytes.l0 (s, d, 0, 0) = _ := key
  unfold spec_SegBytes.f
  rw [key, Option.bind_some, List.drop_zero, Int.zero_add]

theorem impl_SegBytes_eq (s : StoreT) (d : DiskT) (h : dlim d) (hl : s.1.2.length < 1000000000) : impl_SegBytes.f s d = some ((segN d (s.1.2.take 60) : Nat) : Int) := by
  have hu := h.2.1
  have key := lp_up (step := impl_SegBytes.l0) (fun n (a : Int) => (d, a, s.1.2, (s.1.2.length : Int), (n : Int))) s.1.2.length (fun n a => a + ((segN d ((s.1.2.take 60).drop n) : Nat) : Int)) (fun n a => 0 ≤ a ∧ a ≤ (min n 60 : Nat) * 1000000000000)
    (fun rec n a hn ha ih => by
      obtain ⟨ha1, ha2⟩ := ha
      rcases Nat.lt_or_ge n s.1.2.length with h1 | h1
      · have hw1 := w64_succ (show n + 1 < 9223372036854775808 by omega)
        rcases Nat.lt_or_ge n 60 with h6 | h6
        · have h60 : (n : Int) < 60 := by omega
          have hft := fileText_len d (segName s.1.2[n]) h
          have hmin : min n 60 = n := by omega
          rw [hmin] at ha2
          have hw : w64 (a + ((fileText d (segName s.1.2[n])).1.length : Int)) = a + ((fileText d (segName s.1.2[n])).1.length : Int) := w64_id (by omega) (by omega)
          have ht : n < (s.1.2.take 60).length := by rw [List.length_take]; omega
          have hg : (s.1.2.take 60)[n] = s.1.2[n] := List.getElem_take
          have ih := ih (a + ((fileText d (segName s.1.2[n])).1.length : Int)) h1 ⟨by omega, by rw [show min (n + 1) 60 = n + 1 by omega]; omega⟩
          rw [List.drop_eq_getElem_cons ht, hg]
          simp only [impl_SegBytes.l0, Int.ofNat_lt, h1, h60, decide_true, cond_true, inB_nat, rdA_nat, getD_lt h1, impl_SegName_eq, impl_FileText_eq d _ h, Option.bind_some, hw, hw1, ih]
          congr 1
          unfold segN
          simp only [sumN]; omega
        · have h60 : ¬ (n : Int) < 60 := by omega
          have e : ∀ m, 60 ≤ m → (s.1.2.take 60).drop m = [] := fun m hm => by rw [List.drop_eq_nil_iff, List.length_take]; omega
          have ih := ih a h1 ⟨ha1, by rw [show min (n + 1) 60 = min n 60 by omega]; exact ha2⟩
          rw [e (n + 1) (by omega)] at ih
          rw [e n h6]
          simp only [impl_SegBytes.l0, Int.ofNat_lt, h1, h60, decide_true, decide_false, cond_true, cond_false, inB_nat, Option.bind_some, hw1, ih]
      · have : n = s.1.2.length := by omega
        subst this
        have e : (s.1.2.take 60).drop s.1.2.length = [] := by rw [List.drop_eq_nil_iff, List.length_take]; omega
        simp [impl_SegBytes.l0, e, segN, sumN])
    (by omega) 0 0 (Nat.zero_le _) ⟨by omega, by omega⟩
  have key : lp impl_SegBytes.l0 (d, 0, s.1.2, (s.1.2.length : Int), 0) = _ := key
  unfold impl_SegBytes.f
  rw [key, Option.bind_some, List.drop_zero, Int.zero_add]

theorem FnExactSegBytes_true (x0 : StoreT) (w0 : wfD (.pair (.pair (.int .i64) (.sl false (.int .i64))) (.pair (.sl false (.pair .str (.pair (.int .i64) (.pair (.int .i64) (.pair (.int .i64) (.int .i64)))))) (.pair (.int .i64) (.pair (.int .i64) (.int .i64))))) x0) (x1 : DiskT) (w1 : wfD (.pair (.sl false (.pair .str (.pair .str (.int .i64)))) (.pair (.int .i64) (.pair (.int .i64) .bool))) x1) : laws_FnExactSegBytes.f x0 x1 = some true := by
  have k0 := of_Store _ w0
  have k1 := of_Disk _ w1
  unfold laws_FnExactSegBytes.f
  rw [szStore_eq x0 1048576 (by omega) (by omega) k0, Option.bind_some, szr_neg]
  by_cases c0 : ((bulk_Store x0 : Nat) : Int) ≤ 1048576
  rotate_left
  · simp [c0]
  simp only [c0, decide_true, Bool.not_true, cond_false]
  rw [szr_pos c0, szDisk_eq x1 _ (by omega) (by omega) k1, Option.bind_some, szr_neg]
  by_cases c1 : ((bulk_Disk x1 : Nat) : Int) ≤ 1048576 - (bulk_Store x0 : Nat)
  rotate_left
  · simp [c1]
  simp only [c1, decide_true, Bool.not_true, cond_false]
  have hb : bulk_Store x0 ≤ 1048576 := by omega
  have hb1 : bulk_Disk x1 ≤ 1048576 := by omega
  have hd := dlim_of k1 hb1
  have l1 : x1.1.length ≤ 1048576 := by unfold bulk_Disk bulkL at hb1; omega
  have l2 : x0.1.2.length ≤ 1048576 := by unfold bulk_Store bulk_Live bulkL at hb; omega
  have l3 : x0.2.1.length ≤ 1048576 := by unfold bulk_Store bulkL at hb; omega
  have hx : lim_Disk x1 := show _ < _ by omega
  have hs : lim_Store x0 := by constructor <;> first | omega | (show _ < _; omega)
  simp only [toStore_eq _ k0 hb, toDisk_eq _ k1 hb1, spec_SegBytes_eq x0 x1 hd (show x0.1.2.length < 1000000000 by omega), impl_SegBytes_eq x0 x1 hd (show x0.1.2.length < 1000000000 by omega), Option.bind_some, bne_self_eq_false, cond_false, eqStore_eq x0 x0 hs, eqDisk_eq x1 x1 hx, decide_true, Bool.not_true]

end Go.Rf.G
