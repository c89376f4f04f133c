/- Tools for plain laws: loops, indices, whole numbers. -/
import Derived.Test.YtaijmhaonokniaaFns
import Derived.Test.YtaijmhaonokniaaRfZf
namespace Go.Rf.G
set_option linter.unusedSimpArgs false
open Go Go.Rf
set_option linter.unusedVariables false

theorem loopF_eq {A B : Type} {step : (A → Option B) → A → Option B} {F : A → B} {P : A → Prop} {m : A → Nat}
    (h : ∀ rec a, P a → (∀ a', P a' → m a' < m a → rec a' = some (F a')) → step rec a = some (F a)) : ∀ n a, P a → m a < n → loopF step n a = some (F a)
  | 0, _, _, hn => by omega
  | n + 1, a, hp, hn => h (loopF step n) a hp fun a' hp' hlt => loopF_eq h n a' hp' (by omega)

/-- A loop, by its meaning. -/
theorem lp_eq {A B : Type} {step : (A → Option B) → A → Option B} (F : A → B) (P : A → Prop) (m : A → Nat)
    (h : ∀ rec a, P a → (∀ a', P a' → m a' < m a → rec a' = some (F a')) → step rec a = some (F a)) {a : A} (hp : P a) (hm : m a < 2 ^ 62) : lp step a = some (F a) :=
  loopF_eq h FUEL a hp (Nat.lt_of_lt_of_le hm fuel_le)

/-- A loop that counts up to N. -/
theorem lp_up {A B σ : Type} {step : (A → Option B) → A → Option B} (st : Nat → σ → A) (N : Nat) (F : Nat → σ → B) (Inv : Nat → σ → Prop)
    (h : ∀ rec n s, n ≤ N → Inv n s → (∀ s', n < N → Inv (n + 1) s' → rec (st (n + 1) s') = some (F (n + 1) s')) → step rec (st n s) = some (F n s))
    (hN : N < 2 ^ 62) : ∀ n s, n ≤ N → Inv n s → lp step (st n s) = some (F n s) := by
  have key : ∀ k f n s, n ≤ N → Inv n s → N - n = k → k < f → loopF step f (st n s) = some (F n s) := by
    intro k
    induction k with
    | zero =>
      intro f n s hn hi hk hf
      obtain ⟨f, rfl⟩ : ∃ g, f = g + 1 := ⟨f - 1, by omega⟩
      exact h _ n s hn hi fun s' hlt => by omega
    | succ k ih =>
      intro f n s hn hi hk hf
      obtain ⟨f, rfl⟩ : ∃ g, f = g + 1 := ⟨f - 1, by omega⟩
      exact h _ n s hn hi fun s' hlt hi' => ih f (n + 1) s' hlt hi' (by omega) (by omega)
  intro n s hn hi
  exact key (N - n) FUEL n s hn hi rfl (Nat.lt_of_lt_of_le (by omega) fuel_le)

/-! ### numbers -/

@[simp] theorem inB_nat (n m : Nat) : inB (n : Int) m = decide (n < m) := by
  unfold inB
  by_cases h : n < m <;> simp [h, Int.natCast_nonneg]

@[simp] theorem rdA_nat {α : Type} (z : α) (xs : List α) (n : Nat) : rdA z xs (n : Int) = xs.getD n z := rfl

theorem w64_id {n : Int} (h1 : -9223372036854775808 ≤ n) (h2 : n < 9223372036854775808) : w64 n = n := by
  unfold w64 IntKind.wrap
  simp only [IntKind.bits, IntKind.signed]
  by_cases h : n % 2 ^ 64 ≥ 2 ^ 63 <;> simp [h] <;> omega

theorem w64_nat {n : Nat} (h : n < 9223372036854775808) : w64 (n : Int) = n := w64_id (by omega) (by omega)

theorem w64_succ {n : Nat} (h : n + 1 < 9223372036854775808) : w64 ((n : Int) + 1) = ((n + 1 : Nat) : Int) := by
  rw [w64_id (by omega) (by omega)]; omega

theorem len_le {l : Nat} (h : l ≤ reachBytes) : l < 140737488355328 := by unfold reachBytes at h; omega

theorem getD_lt {α : Type} {xs : List α} {z : α} {n : Nat} (h : n < xs.length) : xs.getD n z = xs[n] := by simp [List.getD, h]

/-- Two rows alike from place n on. -/
theorem drop_eq_iff {α : Type} {a b : List α} {n : Nat} (h1 : n < a.length) (h2 : n < b.length) : a.drop n = b.drop n ↔ a[n] = b[n] ∧ a.drop (n + 1) = b.drop (n + 1) := by
  rw [List.drop_eq_getElem_cons h1, List.drop_eq_getElem_cons h2, List.cons.injEq]

/-! ### what the laws' own functions do -/

/-- So much less, or -1. -/
def szr (b : Nat) (left : Int) : Int := if (b : Int) ≤ left then left - b else -1

theorem szr_neg {b : Nat} {left : Int} : decide (szr b left < 0) = !decide ((b : Int) ≤ left) := by
  unfold szr
  by_cases h : (b : Int) ≤ left
  · rw [if_pos h]; simp [h]
  · rw [if_neg h]; simp [h]

theorem szr_pos {b : Nat} {left : Int} (h : (b : Int) ≤ left) : szr b left = left - b := if_pos h

def sumN {α : Type} (f : α → Nat) : List α → Nat
  | [] => 0
  | x :: r => f x + sumN f r

theorem sumN_drop {α : Type} (f : α → Nat) {l : List α} {n : Nat} (h : n < l.length) : sumN f (l.drop n) = f l[n] + sumN f (l.drop (n + 1)) := by
  rw [List.drop_eq_getElem_cons h]; rfl

theorem sumN_mem {α : Type} (f : α → Nat) : ∀ {l : List α} {x : α}, x ∈ l → f x ≤ sumN f l
  | y :: l, x, h => by
    rcases List.mem_cons.1 h with k | k
    · subst k; exact Nat.le_add_right _ _
    · exact Nat.le_trans (sumN_mem f k) (Nat.le_add_left _ _)

/-- The bulk of a row. -/
def bulkL {α : Type} (f : α → Nat) (l : List α) : Nat := l.length + sumN f l

theorem sz_loop {X : Type} {step : (List X × Int × Int → Option (Int ⊕ Int)) → List X × Int × Int → Option (Int ⊕ Int)} (bulk : X → Nat) (l : List X) (hl : l.length < 2 ^ 62)
    (hs : ∀ rec (n : Nat) (left : Int), (hn : n < l.length) → 0 ≤ left → left ≤ 1048576 → step rec (l, left, (n : Int)) = if (bulk l[n] : Int) ≤ left then rec (l, left - bulk l[n], ((n + 1 : Nat) : Int)) else some (.inr (-1)))
    (he : ∀ rec (left : Int), step rec (l, left, (l.length : Int)) = some (.inl left)) (left : Int) (h0 : 0 ≤ left) (h1 : left ≤ 1048576) :
    lp step (l, left, 0) = some (if (sumN bulk l : Int) ≤ left then .inl (left - sumN bulk l) else .inr (-1)) := by
  have := lp_up (step := step) (fun n (s : Int) => (l, s, (n : Int))) l.length (fun n s => if (sumN bulk (l.drop n) : Int) ≤ s then .inl (s - sumN bulk (l.drop n)) else .inr (-1)) (fun _ s => 0 ≤ s ∧ s ≤ 1048576)
    (fun rec n s hn hi ih => by
      rcases Nat.lt_or_ge n l.length with h | h
      · rw [hs rec n s h hi.1 hi.2, sumN_drop bulk h]
        by_cases hb : (bulk l[n] : Int) ≤ s
        · rw [if_pos hb, ih _ h ⟨by omega, by omega⟩]
          congr 1
          by_cases hc : (sumN bulk (l.drop (n + 1)) : Int) ≤ s - bulk l[n]
          · rw [if_pos hc, if_pos (by omega)]; congr 1; omega
          · rw [if_neg hc, if_neg (by omega)]
        · rw [if_neg hb, if_neg (by omega)]
      · have : n = l.length := by omega
        subst this
        rw [he]
        simp [sumN, hi.1])
    hl 0 left (Nat.zero_le _) ⟨h0, h1⟩
  simpa using this

theorem eq_loop {X : Type} [DecidableEq X] {step : (List X × List X × Int → Option (Unit ⊕ Bool)) → List X × List X × Int → Option (Unit ⊕ Bool)} (a b : List X) (hl : a.length = b.length) (ha : a.length < 2 ^ 62)
    (hs : ∀ rec (n : Nat), (h1 : n < a.length) → (h2 : n < b.length) → step rec (a, b, (n : Int)) = if a[n] = b[n] then rec (a, b, ((n + 1 : Nat) : Int)) else some (.inr false))
    (he : ∀ rec, step rec (a, b, (a.length : Int)) = some (.inl ())) : lp step (a, b, 0) = some (if a = b then .inl () else .inr false) := by
  have := lp_up (step := step) (fun n (_ : Unit) => (a, b, (n : Int))) a.length (fun n _ => if a.drop n = b.drop n then .inl () else .inr false) (fun _ _ => True)
    (fun rec n s hn _ ih => by
      rcases Nat.lt_or_ge n a.length with h | h
      · rw [hs rec n h (by omega), ih () h trivial]
        by_cases hc : a[n] = b[n]
        · rw [if_pos hc]; simp only [drop_eq_iff h (by omega : n < b.length), hc, true_and]
        · rw [if_neg hc, if_neg fun k => hc ((drop_eq_iff h (by omega)).1 k).1]
      · have : n = a.length := by omega
        subst this
        rw [he]
        simp [hl])
    ha 0 () (Nat.zero_le _) trivial
  simpa using this

/-- Rows made cell by cell. -/
theorem to_loop {X : Type} {step : (List X × List X × Int → Option (List X)) → List X × List X × Int → Option (List X)} (l : List X) (hl : l.length < 2 ^ 62)
    (hs : ∀ rec (r : List X) (n : Nat), (h1 : n < l.length) → r.length = l.length → step rec (l, r, (n : Int)) = rec (l, r.set n l[n], ((n + 1 : Nat) : Int)))
    (he : ∀ rec r, step rec (l, r, (l.length : Int)) = some r) (r : List X) (hr : r.length = l.length) : lp step (l, r, 0) = some l := by
  have := lp_up (step := step) (fun n (r : List X) => (l, r, (n : Int))) l.length (fun n r => l) (fun n r => r.length = l.length ∧ r.take n = l.take n)
    (fun rec n r hn hi ih => by
      obtain ⟨hi1, hi2⟩ := hi
      rcases Nat.lt_or_ge n l.length with h | h
      · rw [hs rec r n h hi1]
        refine ih _ h ⟨by simp [hi1], ?_⟩
        rw [List.take_succ_eq_append_getElem (by simp [hi1, h]), List.take_succ_eq_append_getElem h, List.take_set_of_le (Nat.le_refl _), hi2]
        simp
      · have : n = l.length := by omega
        subst this
        rw [he]
        rw [List.take_length, ← hi1, List.take_length] at hi2
        rw [hi2])
    hl 0 r (Nat.zero_le _) ⟨hr, by simp⟩
  simpa using this

/-! ### marks -/

def markL {X : Type} (mk : Int → X → X) (c : Nat) : List X → Int → List X
  | [], _ => []
  | x :: r, k => mk k x :: markL mk c r (k + c)

@[simp] theorem markL_len {X : Type} (mk : Int → X → X) (c : Nat) : ∀ (l : List X) (k : Int), (markL mk c l k).length = l.length
  | [], _ => rfl
  | x :: r, k => by simp [markL, markL_len mk c r]

theorem markL_get {X : Type} (mk : Int → X → X) (c : Nat) : ∀ (l : List X) (k : Int) (n : Nat) (h : n < l.length) (h' : n < (markL mk c l k).length), (markL mk c l k)[n] = mk (k + c * n) l[n]
  | x :: r, k, 0, _, _ => by simp [markL]
  | x :: r, k, n + 1, h, h' => by
    simp only [markL, List.getElem_cons_succ]
    rw [markL_get mk c r (k + c) n (by simpa using h) _]
    congr 1
    rw [Int.natCast_add, Int.mul_add]; omega

theorem mark_loop {X : Type} {step : (List X × Int × Int → Option (List X × Int)) → List X × Int × Int → Option (List X × Int)} (mk : Int → X → X) (c : Nat) (l : List X) (hl : l.length < 2 ^ 62)
    (hs : ∀ rec (r : List X) (k : Int) (n : Nat), r.length = l.length → (h : n < r.length) → 0 < k → k < 1000000000000 → step rec (r, k, (n : Int)) = rec (r.set n (mk k r[n]), k + c, ((n + 1 : Nat) : Int)))
    (he : ∀ rec (r : List X) (k : Int), r.length = l.length → step rec (r, k, (l.length : Int)) = some (r, k)) (k : Int) (h0 : 0 < k) (h1 : k + c * l.length < 1000000000000) :
    lp step (l, k, 0) = some (markL mk c l k, k + c * l.length) := by
  have key := lp_up (step := step) (fun n (s : List X × Int) => (s.1, s.2, (n : Int))) l.length (fun n s => (markL mk c l k, k + c * l.length))
    (fun n s => s.1.length = l.length ∧ s.2 = k + c * n ∧ s.1.take n = (markL mk c l k).take n ∧ s.1.drop n = l.drop n)
    (fun rec n s hn hi ih => by
      obtain ⟨i1, i2, i3, i4⟩ := hi
      rcases Nat.lt_or_ge n l.length with h | h
      · have hb : (c : Int) * n ≤ c * l.length := Int.mul_le_mul_of_nonneg_left (by omega) (by omega)
        have hb0 : 0 ≤ (c : Int) * n := Int.mul_nonneg (by omega) (by omega)
        rw [hs rec s.1 s.2 n i1 (by omega) (by omega) (by omega)]
        refine ih (s.1.set n (mk s.2 (s.1[n]'(by omega))), s.2 + c) h ⟨by simp [i1], ?_, ?_, ?_⟩
        · show s.2 + c = _; rw [i2, Int.natCast_add, Int.mul_add]; omega
        · show (s.1.set n _).take (n + 1) = _
          have hg : s.1[n]'(by omega) = l[n] := by
            have := i4
            rw [List.drop_eq_getElem_cons (by omega), List.drop_eq_getElem_cons h, List.cons.injEq] at this
            exact this.1
          rw [List.take_succ_eq_append_getElem (by simp; omega), List.take_succ_eq_append_getElem (by simp; omega), List.take_set_of_le (Nat.le_refl _), i3, markL_get mk c l k n h]
          simp [i2, hg]
        · show (s.1.set n _).drop (n + 1) = _
          rw [List.drop_set_of_lt (by omega)]
          have := i4
          rw [List.drop_eq_getElem_cons (by omega), List.drop_eq_getElem_cons h, List.cons.injEq] at this
          exact this.2
      · have : n = l.length := by omega
        subst this
        rw [he rec s.1 s.2 i1, i2]
        rw [← i1, List.take_length, i1, ← markL_len mk c l k, List.take_length] at i3
        rw [i3])
    hl 0 (l, k) (Nat.zero_le _) ⟨rfl, by simp, by simp, by simp⟩
  simpa using key

theorem held_loop {X : Type} {step : (List X × Int × Int → Option (Int ⊕ Int)) → List X × Int × Int → Option (Int ⊕ Int)} (mk : Int → X → X) (c : Nat) (l : List X) (hl : l.length < 2 ^ 62)
    (hs : ∀ rec (r : List X) (k : Int) (n : Nat) (x : X), (h : n < r.length) → n < 4611686018427387904 → r[n] = mk k x → 0 < k → k < 1000000000000 → step rec (r, k, (n : Int)) = rec (r, k + c, ((n + 1 : Nat) : Int)))
    (he : ∀ rec (r : List X) (k : Int), step rec (r, k, (r.length : Int)) = some (.inl k)) (k : Int) (h0 : 0 < k) (h1 : k + c * l.length < 1000000000000) :
    lp step (markL mk c l k, k, 0) = some (.inl (k + c * l.length)) := by
  have key := lp_up (step := step) (fun n (s : Int) => (markL mk c l k, s, (n : Int))) l.length (fun n s => .inl (k + c * l.length))
    (fun n s => s = k + c * n)
    (fun rec n s hn hi ih => by
      rcases Nat.lt_or_ge n l.length with h | h
      · have hb : (c : Int) * n ≤ c * l.length := Int.mul_le_mul_of_nonneg_left (by omega) (by omega)
        have hb0 : 0 ≤ (c : Int) * n := Int.mul_nonneg (by omega) (by omega)
        rw [hs rec _ s n l[n] (by simpa using h) (by omega) (by rw [markL_get mk c l k n h, hi]) (by omega) (by omega)]
        exact ih _ h (by rw [hi, Int.natCast_add, Int.mul_add]; omega)
      · have : n = l.length := by omega
        subst this
        have := he rec (markL mk c l k) s
        rw [markL_len] at this
        rw [this, hi])
    hl 0 k (Nat.zero_le _) (by simp)
  simpa using key
/-! ### loops of the usual kinds -/

theorem all_loop {X A B : Type} {step : (A → Option (B ⊕ Bool)) → A → Option (B ⊕ Bool)} (l : List X) (f : X → Bool) (st : Nat → A) (b : B) (hl : l.length < 2 ^ 62)
    (hs : ∀ rec n, (h : n < l.length) → step rec (st n) = if f l[n] = true then rec (st (n + 1)) else some (.inr false))
    (he : ∀ rec, step rec (st l.length) = some (.inl b)) : lp step (st 0) = some (if l.all f = true then .inl b else .inr false) := by
  have := lp_up (step := step) (fun n (_ : Unit) => st n) l.length (fun n _ => if (l.drop n).all f = true then .inl b else .inr false) (fun _ _ => True)
    (fun rec n s hn _ ih => by
      rcases Nat.lt_or_ge n l.length with h | h
      · rw [hs rec n h, ih () h trivial, List.drop_eq_getElem_cons h, List.all_cons]
        cases f l[n] <;> simp
      · have : n = l.length := by omega
        subst this
        rw [he]; simp) hl 0 () (Nat.zero_le _) trivial
  simpa using this

theorem find_loop {X A B C : Type} {step : (A → Option (B ⊕ C)) → A → Option (B ⊕ C)} (l : List X) (f : X → Bool) (r : X → C) (st : Nat → A) (b : B) (hl : l.length < 2 ^ 62)
    (hs : ∀ rec n, (h : n < l.length) → step rec (st n) = if f l[n] = true then some (.inr (r l[n])) else rec (st (n + 1)))
    (he : ∀ rec, step rec (st l.length) = some (.inl b)) : lp step (st 0) = some (match l.find? f with | some x => .inr (r x) | none => .inl b) := by
  have := lp_up (step := step) (fun n (_ : Unit) => st n) l.length (fun n _ => match (l.drop n).find? f with | some x => .inr (r x) | none => .inl b) (fun _ _ => True)
    (fun rec n s hn _ ih => by
      rcases Nat.lt_or_ge n l.length with h | h
      · rw [hs rec n h, ih () h trivial, List.drop_eq_getElem_cons h, List.find?_cons]
        cases hf : f l[n] <;> simp
      · have : n = l.length := by omega
        subst this
        rw [he]; simp) hl 0 () (Nat.zero_le _) trivial
  simpa using this

theorem fold_loop {X A B S : Type} {step : (A → Option B) → A → Option B} (l : List X) (g : S → X → S) (st : Nat → S → A) (out : S → B) (Inv : Nat → S → Prop) (hl : l.length < 2 ^ 62)
    (hs : ∀ rec n s, (h : n < l.length) → Inv n s → step rec (st n s) = rec (st (n + 1) (g s l[n])))
    (hi : ∀ n s, (h : n < l.length) → Inv n s → Inv (n + 1) (g s l[n]))
    (he : ∀ rec s, Inv l.length s → step rec (st l.length s) = some (out s)) (s : S) (h0 : Inv 0 s) : lp step (st 0 s) = some (out (l.foldl g s)) := by
  have := lp_up (step := step) st l.length (fun n s => out ((l.drop n).foldl g s)) Inv
    (fun rec n s hn hv ih => by
      rcases Nat.lt_or_ge n l.length with h | h
      · rw [hs rec n s h hv, ih _ h (hi n s h hv), List.drop_eq_getElem_cons h]; rfl
      · have : n = l.length := by omega
        subst this
        rw [he rec s hv]; simp) hl 0 s (Nat.zero_le _) h0
  simpa using this

/-- A loop that counts down to nothing. -/
theorem lp_down {A B σ : Type} {step : (A → Option B) → A → Option B} (st : Nat → σ → A) (F : Nat → σ → B) (Inv : Nat → σ → Prop)
    (h : ∀ rec n s, Inv n s → (∀ m s', n = m + 1 → Inv m s' → rec (st m s') = some (F m s')) → step rec (st n s) = some (F n s)) : ∀ n s, n < 2 ^ 62 → Inv n s → lp step (st n s) = some (F n s) := by
  have key : ∀ n f s, n < f → Inv n s → loopF step f (st n s) = some (F n s) := by
    intro n
    induction n with
    | zero =>
      intro f s hf hi
      obtain ⟨f, rfl⟩ : ∃ g, f = g + 1 := ⟨f - 1, by omega⟩
      exact h _ 0 s hi fun m s' he => by omega
    | succ n ih =>
      intro f s hf hi
      obtain ⟨f, rfl⟩ : ∃ g, f = g + 1 := ⟨f - 1, by omega⟩
      exact h _ (n + 1) s hi fun m s' he hi' => by
        have : m = n := by omega
        subst this
        exact ih f s' (by omega) hi'
  intro n s hn hi
  exact key n FUEL s (Nat.lt_of_lt_of_le hn fuel_le) hi

/-- The last element that fits, looked for from the end on. -/
theorem rfind_loop {X A B C : Type} {step : (A → Option (B ⊕ C)) → A → Option (B ⊕ C)} (l : List X) (f : X → Bool) (r : X → C) (st : Nat → A) (b : B) (hl : l.length < 2 ^ 62)
    (hs : ∀ rec n, (h : n < l.length) → step rec (st (n + 1)) = if f l[n] = true then some (.inr (r l[n])) else rec (st n))
    (he : ∀ rec, step rec (st 0) = some (.inl b)) : lp step (st l.length) = some (match l.reverse.find? f with | some x => .inr (r x) | none => .inl b) := by
  have := lp_down (step := step) (fun n (_ : Unit) => st n) (fun n _ => match (l.take n).reverse.find? f with | some x => .inr (r x) | none => .inl b) (fun n _ => n ≤ l.length)
    (fun rec n s hn ih => by
      cases n with
      | zero => rw [he]; simp
      | succ n =>
        have h : n < l.length := hn
        rw [hs rec n h, ih n () rfl (by omega), List.take_succ_eq_append_getElem h, List.reverse_append]
        simp only [List.reverse_cons, List.reverse_nil, List.nil_append, List.cons_append, List.find?_cons]
        cases hf : f l[n] <;> simp) l.length () hl (Nat.le_refl _)
  simpa using this
end Go.Rf.G
