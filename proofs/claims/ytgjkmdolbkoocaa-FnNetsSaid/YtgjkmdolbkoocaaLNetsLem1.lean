/- Plain laws: what the plain functions answer. -/
import Derived.Test.YtgjkmdolbkoocaaRf5
import Derived.Test.YtgjkmdolbkoocaaLNetsFns
namespace Go.Rf.G
open Go Go.Rf
set_option linter.unusedVariables false
set_option linter.unusedSimpArgs false
set_option synthInstance.maxSize 4000

/-- A loop that counts up to N. -/
theorem lp_up {A B σ : Type} {step : (A → Option B) → A → Option B} (st : Nat → σ → A) (N : Nat) (F : Nat → σ → B) (Inv : Nat → σ → Prop)
    (h : ∀ rec n s, n ≤ N → Inv n s → (∀ s', n < N → Inv (n + 1) s' → rec (st (n + 1) s') = some (F (n + 1) s')) → step rec (st n s) = some (F n s))
    (hN : N < 2 ^ 62) : ∀ n s, n ≤ N → Inv n s → lp step (st n s) = some (F n s) := by
  have key : ∀ k f n s, n ≤ N → Inv n s → N - n = k → k < f → loopF step f (st n s) = some (F n s) := by
    intro k
    induction k with
    | zero =>
      intro f n s hn hi hk hf
      obtain ⟨f, rfl⟩ : ∃ g, f = g + 1 := ⟨f - 1, by omega⟩
      exact h _ n s hn hi fun s' hlt => by omega
    | succ k ih =>
      intro f n s hn hi hk hf
      obtain ⟨f, rfl⟩ : ∃ g, f = g + 1 := ⟨f - 1, by omega⟩
      exact h _ n s hn hi fun s' hlt hi' => ih f (n + 1) s' hlt hi' (by omega) (by omega)
  intro n s hn hi
  exact key (N - n) FUEL n s hn hi rfl (Nat.lt_of_lt_of_le (by omega) fuel_le)

@[simp] theorem inB_nat (n m : Nat) : inB (n : Int) m = decide (n < m) := by
  unfold inB
  by_cases h : n < m <;> simp [h, Int.natCast_nonneg]

@[simp] theorem rdA_nat {α : Type} (z : α) (xs : List α) (n : Nat) : rdA z xs (n : Int) = xs.getD n z := rfl

theorem w64_id {n : Int} (h1 : -9223372036854775808 ≤ n) (h2 : n < 9223372036854775808) : w64 n = n := by
  unfold w64 IntKind.wrap
  simp only [IntKind.bits, IntKind.signed]
  by_cases h : n % 2 ^ 64 ≥ 2 ^ 63 <;> simp [h] <;> omega

theorem w64_nat {n : Nat} (h : n < 9223372036854775808) : w64 (n : Int) = n := w64_id (by omega) (by omega)

theorem w64_succ {n : Nat} (h : n + 1 < 9223372036854775808) : w64 ((n : Int) + 1) = ((n + 1 : Nat) : Int) := by
  rw [w64_id (by omega) (by omega)]; omega

theorem getD_lt {α : Type} {xs : List α} {z : α} {n : Nat} (h : n < xs.length) : xs.getD n z = xs[n] := by simp [List.getD, h]

/-- Two rows alike from place n on. -/
theorem drop_eq_iff {α : Type} {a b : List α} {n : Nat} (h1 : n < a.length) (h2 : n < b.length) : a.drop n = b.drop n ↔ a[n] = b[n] ∧ a.drop (n + 1) = b.drop (n + 1) := by
  rw [List.drop_eq_getElem_cons h1, List.drop_eq_getElem_cons h2, List.cons.injEq]

theorem eq_loop {X : Type} [DecidableEq X] {step : (List X × List X × Int → Option (Unit ⊕ Bool)) → List X × List X × Int → Option (Unit ⊕ Bool)} (a b : List X) (hl : a.length = b.length) (ha : a.length < 2 ^ 62)
    (hs : ∀ rec (n : Nat), (h1 : n < a.length) → (h2 : n < b.length) → step rec (a, b, (n : Int)) = if a[n] = b[n] then rec (a, b, ((n + 1 : Nat) : Int)) else some (.inr false))
    (he : ∀ rec, step rec (a, b, (a.length : Int)) = some (.inl ())) : lp step (a, b, 0) = some (if a = b then .inl () else .inr false) := by
  have := lp_up (step := step) (fun n (_ : Unit) => (a, b, (n : Int))) a.length (fun n _ => if a.drop n = b.drop n then .inl () else .inr false) (fun _ _ => True)
    (fun rec n s hn _ ih => by
      rcases Nat.lt_or_ge n a.length with h | h
      · rw [hs rec n h (by omega), ih () h trivial]
        by_cases hc : a[n] = b[n]
        · rw [if_pos hc]; simp only [drop_eq_iff h (by omega : n < b.length), hc, true_and]
        · rw [if_neg hc, if_neg fun k => hc ((drop_eq_iff h (by omega)).1 k).1]
      · have : n = a.length := by omega
        subst this
        rw [he]
        simp [hl])
    ha 0 () (Nat.zero_le _) trivial
  simpa using this

def markL {X : Type} (mk : Int → X → X) (c : Nat) : List X → Int → List X
  | [], _ => []
  | x :: r, k => mk k x :: markL mk c r (k + c)

@[simp] theorem markL_len {X : Type} (mk : Int → X → X) (c : Nat) : ∀ (l : List X) (k : Int), (markL mk c l k).length = l.length
  | [], _ => rfl
  | x :: r, k => by simp [markL, markL_len mk c r]

theorem all_loop {X A B : Type} {step : (A → Option (B ⊕ Bool)) → A → Option (B ⊕ Bool)} (l : List X) (f : X → Bool) (st : Nat → A) (b : B) (hl : l.length < 2 ^ 62)
    (hs : ∀ rec n, (h : n < l.length) → step rec (st n) = if f l[n] = true then rec (st (n + 1)) else some (.inr false))
    (he : ∀ rec, step rec (st l.length) = some (.inl b)) : lp step (st 0) = some (if l.all f = true then .inl b else .inr false) := by
  have := lp_up (step := step) (fun n (_ : Unit) => st n) l.length (fun n _ => if (l.drop n).all f = true then .inl b else .inr false) (fun _ _ => True)
    (fun rec n s hn _ ih => by
      rcases Nat.lt_or_ge n l.length with h | h
      · rw [hs rec n h, ih () h trivial, List.drop_eq_getElem_cons h, List.all_cons]
        cases f l[n] <;> simp
      · have : n = l.length := by omega
        subst this
        rw [he]; simp) hl 0 () (Nat.zero_le _) trivial
  simpa using this

theorem find_loop {X A B C : Type} {step : (A → Option (B ⊕ C)) → A → Option (B ⊕ C)} (l : List X) (f : X → Bool) (r : X → C) (st : Nat → A) (b : B) (hl : l.length < 2 ^ 62)
    (hs : ∀ rec n, (h : n < l.length) → step rec (st n) = if f l[n] = true then some (.inr (r l[n])) else rec (st (n + 1)))
    (he : ∀ rec, step rec (st l.length) = some (.inl b)) : lp step (st 0) = some (match l.find? f with | some x => .inr (r x) | none => .inl b) := by
  have := lp_up (step := step) (fun n (_ : Unit) => st n) l.length (fun n _ => match (l.drop n).find? f with | some x => .inr (r x) | none => .inl b) (fun _ _ => True)
    (fun rec n s hn _ ih => by
      rcases Nat.lt_or_ge n l.length with h | h
      · rw [hs rec n h, ih () h trivial, List.drop_eq_getElem_cons h, List.find?_cons]
        cases hf : f l[n] <;> simp
      · have : n = l.length := by omega
        subst this
        rw [he]; simp) hl 0 () (Nat.zero_le _) trivial
  simpa using this

theorem fold_loop {X A B S : Type} {step : (A → Option B) → A → Option B} (l : List X) (g : S → X → S) (st : Nat → S → A) (out : S → B) (Inv : Nat → S → Prop) (hl : l.length < 2 ^ 62)
    (hs : ∀ rec n s, (h : n < l.length) → Inv n s → step rec (st n s) = rec (st (n + 1) (g s l[n])))
    (hi : ∀ n s, (h : n < l.length) → Inv n s → Inv (n + 1) (g s l[n]))
    (he : ∀ rec s, Inv l.length s → step rec (st l.length s) = some (out s)) (s : S) (h0 : Inv 0 s) : lp step (st 0 s) = some (out (l.foldl g s)) := by
  have := lp_up (step := step) st l.length (fun n s => out ((l.drop n).foldl g s)) Inv
    (fun rec n s hn hv ih => by
      rcases Nat.lt_or_ge n l.length with h | h
      · rw [hs rec n s h hv, ih _ h (hi n s h hv), List.drop_eq_getElem_cons h]; rfl
      · have : n = l.length := by omega
        subst this
        rw [he rec s hv]; simp) hl 0 s (Nat.zero_le _) h0
  simpa using this

/-- A loop that counts down to nothing. -/
theorem lp_down {A B σ : Type} {step : (A → Option B) → A → Option B} (st : Nat → σ → A) (F : Nat → σ → B) (Inv : Nat → σ → Prop)
    (h : ∀ rec n s, Inv n s → (∀ m s', n = m + 1 → Inv m s' → rec (st m s') = some (F m s')) → step rec (st n s) = some (F n s)) : ∀ n s, n < 2 ^ 62 → Inv n s → lp step (st n s) = some (F n s) := by
  have key : ∀ n f s, n < f → Inv n s → loopF step f (st n s) = some (F n s) := by
    intro n
    induction n with
    | zero =>
      intro f s hf hi
      obtain ⟨f, rfl⟩ : ∃ g, f = g + 1 := ⟨f - 1, by omega⟩
      exact h _ 0 s hi fun m s' he => by omega
    | succ n ih =>
      intro f s hf hi
      obtain ⟨f, rfl⟩ : ∃ g, f = g + 1 := ⟨f - 1, by omega⟩
      exact h _ (n + 1) s hi fun m s' he hi' => by
        have : m = n := by omega
        subst this
        exact ih f s' (by omega) hi'
  intro n s hn hi
  exact key n FUEL s (Nat.lt_of_lt_of_le hn fuel_le) hi

/-- The last element that fits, looked for from the end on. -/
theorem rfind_loop {X A B C : Type} {step : (A → Option (B ⊕ C)) → A → Option (B ⊕ C)} (l : List X) (f : X → Bool) (r : X → C) (st : Nat → A) (b : B) (hl : l.length < 2 ^ 62)
    (hs : ∀ rec n, (h : n < l.length) → step rec (st (n + 1)) = if f l[n] = true then some (.inr (r l[n])) else rec (st n))
    (he : ∀ rec, step rec (st 0) = some (.inl b)) : lp step (st l.length) = some (match l.reverse.find? f with | some x => .inr (r x) | none => .inl b) := by
  have := lp_down (step := step) (fun n (_ : Unit) => st n) (fun n _ => match (l.take n).reverse.find? f with | some x => .inr (r x) | none => .inl b) (fun n _ => n ≤ l.length)
    (fun rec n s hn ih => by
      cases n with
      | zero => rw [he]; simp
      | succ n =>
        have h : n < l.length := hn
        rw [hs rec n h, ih n () rfl (by omega), List.take_succ_eq_append_getElem h, List.reverse_append]
        simp only [List.reverse_cons, List.reverse_nil, List.nil_append, List.cons_append, List.find?_cons]
        cases hf : f l[n] <;> simp) l.length () hl (Nat.le_refl _)
  simpa using this

@[simp] theorem caseS_l {A B C : Type} (a : A) (f : A → C) (g : B → C) : caseS (.inl a) f g = f a := rfl

@[simp] theorem caseS_r {A B C : Type} (b : B) (f : A → C) (g : B → C) : caseS (.inr b) f g = g b := rfl

theorem pair_eta {A B : Type} (p : A × B) : (p.1, p.2) = p := rfl

theorem and3_beq {A B C : Type} [BEq A] [BEq B] [BEq C] [LawfulBEq A] [LawfulBEq B] [LawfulBEq C] [DecidableEq (A × B × C)] (x y : A × B × C) : (x.1 == y.1 && (x.2.1 == y.2.1 && x.2.2 == y.2.2)) = decide (x = y) := by
  obtain ⟨a, b, c⟩ := x
  obtain ⟨d, e, f⟩ := y
  by_cases h1 : a = d
  · by_cases h2 : b = e
    · by_cases h3 : c = f
      · simp [h1, h2, h3]
      · have : (c == f) = false := by simpa using h3
        simp [h1, h2, h3, this]
    · have : (b == e) = false := by simpa using h2
      simp [h1, h2, this]
  · have : (a == d) = false := by simpa using h1
    simp [h1, this]

theorem len_ne {a b : Nat} (h : a ≠ b) : ((a : Int) != (b : Int)) = true := by
  have : (a : Int) ≠ (b : Int) := by omega
  simpa using this

theorem len_eq {a b : Nat} (h : a = b) : ((a : Int) != (b : Int)) = false := by simp [h]

theorem bif_dec {β : Type} {P : Prop} [Decidable P] (a b : β) : (bif !decide P then a else b) = if P then b else a := by
  by_cases h : P <;> simp [h]

theorem spec_SamePairs_eq (a b : List (List UInt8 × List UInt8 × Int)) (ha : a.length < 2 ^ 62) : spec_SamePairs.f a b = some (decide (a = b)) := by
  unfold spec_SamePairs.f
  by_cases hl : a.length = b.length
  rotate_left
  · have : a ≠ b := fun h => hl (by rw [h])
    rw [len_ne hl]; simp [this]
  rw [len_eq hl, cond_false, eq_loop a b hl ha (fun rec n h1 h2 => ?_) (fun rec => ?_)]
  · by_cases e : a = b <;> simp [e]
  · simp only [spec_SamePairs.l0, Int.ofNat_lt, h1, h2, decide_true, cond_true, inB_nat, rdA_nat, getD_lt h1, getD_lt h2, w64_succ (show n + 1 < 9223372036854775808 by omega), and3_beq, bif_dec]
  · simp [spec_SamePairs.l0]

theorem impl_in_eq (n a b : Int) : impl_in.f n a b = some (decide (a ≤ n ∧ n ≤ b)) := by
  unfold impl_in.f
  by_cases h : a ≤ n
  · have h2 : n ≥ a := h
    simp [h, h2]
  · have h2 : ¬ n ≥ a := h
    simp [h, h2]

def keyOk (s : List UInt8) : Bool := decide (1 ≤ s.length ∧ s.length ≤ 8)

theorem impl_KeyOk_eq (s : List UInt8) : impl_KeyOk.f s = some (keyOk s) := by
  unfold impl_KeyOk.f keyOk
  rw [impl_in_eq, Option.bind_some]
  congr 1
  apply decide_eq_decide.2
  omega

theorem spec_KeyOk_eq (s : List UInt8) : spec_KeyOk.f s = some (keyOk s) := impl_KeyOk_eq s

def putOk (p : List UInt8 × Bool × List UInt8) : Bool := keyOk p.1 && (decide (p.2.2.length ≤ 24) && (!p.2.1 || p.2.2 == []))

def putsOk (l : List (List UInt8 × Bool × List UInt8)) : Bool := decide (l.length ≤ 8) && l.all putOk

theorem spec_PutsOk_eq (l : List (List UInt8 × Bool × List UInt8)) (hl : l.length < 2 ^ 62) : spec_PutsOk.f l = some (putsOk l) := by
  unfold spec_PutsOk.f putsOk
  by_cases h8 : l.length ≤ 8
  rotate_left
  · have : (l.length : Int) > 8 := by omega
    simp [this, h8]
  have h9 : ¬ (l.length : Int) > 8 := by omega
  have key := all_loop (step := spec_PutsOk.l0) l putOk (fun n => (l, (n : Int))) () hl
    (fun rec n h => by
      simp only [spec_PutsOk.l0, Int.ofNat_lt, h, decide_true, cond_true, inB_nat, rdA_nat, getD_lt h, pair_eta, spec_KeyOk_eq, Option.bind_some, w64_succ (show n + 1 < 9223372036854775808 by omega), putOk]
      have hw : w64 ((n : Int) + 1) = (n : Int) + 1 := w64_id (by omega) (by omega)
      rcases Bool.eq_false_or_eq_true (keyOk l[n].1) with hko | hko
      rotate_left
      · simp [hko]
      · by_cases h24 : l[n].2.2.length ≤ 24
        · have : ¬ (l[n].2.2.length : Int) > 24 := by omega
          rcases Bool.eq_false_or_eq_true l[n].2.1 with hd | hd
          · rcases Bool.eq_false_or_eq_true (l[n].2.2 == []) with he | he <;> simp [this, h24, hd, he, hko, hw]
          · simp [this, h24, hd, hko, hw]
        · have : (l[n].2.2.length : Int) > 24 := by omega
          simp [this, h24, hko])
    (fun rec => by simp [spec_PutsOk.l0])
  have key : lp spec_PutsOk.l0 (l, 0) = _ := key
  rw [key]
  cases h : l.all putOk <;> simp [h8, h9]

/-- The last one of a key. -/
def lastOf (l : List (List UInt8 × Bool × List UInt8)) (key : List UInt8) : Option (List UInt8 × Bool × List UInt8) := l.reverse.find? fun p => p.1 == key

def ownW (l : List (List UInt8 × Bool × List UInt8)) (key : List UInt8) : (List UInt8 × Bool × List UInt8) × Bool :=
  match lastOf l key with
  | some p => (p, true)
  | none => (([], false, []), false)

theorem impl_OwnWrite_eq (t : Bool × List (List UInt8 × Int) × List (List UInt8 × Bool × List UInt8)) (key : List UInt8) (hl : t.2.2.length < 2 ^ 62) : impl_OwnWrite.f t key = some (ownW t.2.2 key) := by
  have hk := rfind_loop (step := impl_OwnWrite.l0) t.2.2 (fun p => p.1 == key) (fun p => (p, true)) (fun n => (key, t, ([], false, []), (n : Int) - 1)) ([], false, []) hl
    (fun rec n h => by
      have e : ((n + 1 : Nat) : Int) - 1 = (n : Int) := by omega
      have e2 : w64 ((n : Int) - 1) = (n : Int) - 1 := w64_id (by omega) (by omega)
      have e3 : (n : Int) ≥ 0 := by omega
      simp only [e, impl_OwnWrite.l0, e3, decide_true, cond_true, inB_nat, rdA_nat, h, getD_lt h, e2, pair_eta]
      cases h2 : (t.2.2[n].1 == key) <;> simp)
    (fun rec => by simp [impl_OwnWrite.l0])
  unfold impl_OwnWrite.f ownW lastOf
  rw [w64_id (by omega) (by omega)]
  simp only []
  rw [hk, Option.bind_some]
  cases List.find? (fun p => p.1 == key) t.2.2.reverse <;> rfl

theorem spec_OwnWrite_eq (t : Bool × List (List UInt8 × Int) × List (List UInt8 × Bool × List UInt8)) (key : List UInt8) (hl : t.2.2.length < 2 ^ 62) : spec_OwnWrite.f t key = some (ownW t.2.2 key) := impl_OwnWrite_eq t key hl

abbrev PutT := List UInt8 × Bool × List UInt8

abbrev PairT := List UInt8 × List UInt8 × Int

abbrev TxnT := Bool × List (List UInt8 × Int) × List (List UInt8 × Bool × List UInt8)

/-- The keys, each where it comes first. -/
def firsts (l : List PutT) : List (List UInt8) := l.foldl (fun ks p => if p.1 ∈ ks then ks else ks ++ [p.1]) []

def netW (l : List PutT) : List PutT := (firsts l).map fun k => (ownW l k).1

theorem firsts_snoc (l : List PutT) (p : PutT) : firsts (l ++ [p]) = if p.1 ∈ firsts l then firsts l else firsts l ++ [p.1] := by
  unfold firsts; rw [List.foldl_append]; rfl

theorem ownW_snoc (l : List PutT) (p : PutT) (k : List UInt8) : ownW (l ++ [p]) k = if p.1 = k then (p, true) else ownW l k := by
  unfold ownW lastOf
  rw [List.reverse_append, List.reverse_cons, List.reverse_nil, List.nil_append, List.cons_append, List.nil_append, List.find?_cons]
  by_cases h : p.1 = k
  · simp [h]
  · have : (p.1 == k) = false := by simpa using h
    simp [h, this]

/-- One list grows cell by cell. -/
theorem snoc_ind {α : Type} {P : List α → Prop} (h0 : P []) (hs : ∀ l x, P l → P (l ++ [x])) : ∀ l, P l := by
  have key : ∀ n (l : List α), l.length = n → P l := by
    intro n
    induction n with
    | zero => intro l h; rw [List.eq_nil_of_length_eq_zero h]; exact h0
    | succ n ih =>
      intro l h
      have hlt : n < l.length := by omega
      have e : l.take n ++ [l[n]] = l := by
        rw [← List.take_succ_eq_append_getElem hlt, List.take_of_length_le (by omega)]
      rw [← e]
      exact hs _ _ (ih _ (by simp; omega))
  exact fun l => key l.length l rfl

theorem firsts_mem (l : List PutT) (k : List UInt8) : k ∈ firsts l ↔ ∃ p ∈ l, p.1 = k := by
  induction l using snoc_ind with
  | h0 => simp [firsts]
  | hs l p ih =>
    rw [firsts_snoc]
    by_cases h : p.1 ∈ firsts l
    · rw [if_pos h, ih]
      constructor
      · rintro ⟨q, h1, h2⟩; exact ⟨q, List.mem_append_left _ h1, h2⟩
      · rintro ⟨q, h1, h2⟩
        rcases List.mem_append.1 h1 with k1 | k1
        · exact ⟨q, k1, h2⟩
        · simp only [List.mem_singleton] at k1
          subst k1; subst h2
          exact ih.1 h
    · rw [if_neg h, List.mem_append, ih]
      constructor
      · rintro (⟨q, h1, h2⟩ | h1)
        · exact ⟨q, List.mem_append_left _ h1, h2⟩
        · simp only [List.mem_singleton] at h1
          exact ⟨p, by simp, h1.symm⟩
      · rintro ⟨q, h1, h2⟩
        rcases List.mem_append.1 h1 with k1 | k1
        · exact .inl ⟨q, k1, h2⟩
        · simp only [List.mem_singleton] at k1
          subst k1; right; simp [h2]

theorem firsts_nodup (l : List PutT) : (firsts l).Nodup := by
  induction l using snoc_ind with
  | h0 => simp [firsts]
  | hs l p ih =>
    rw [firsts_snoc]
    by_cases h : p.1 ∈ firsts l
    · rw [if_pos h]; exact ih
    · rw [if_neg h, List.nodup_append]
      refine ⟨ih, by simp, fun a ha b hb => ?_⟩
      simp only [List.mem_singleton] at hb
      subst hb
      intro e; subst e; exact h ha

theorem firsts_len (l : List PutT) : (firsts l).length ≤ l.length := by
  induction l using snoc_ind with
  | h0 => simp [firsts]
  | hs l p ih =>
    rw [firsts_snoc]
    split <;> simp <;> omega

theorem ownW_key (l : List PutT) (k : List UInt8) (h : k ∈ firsts l) : (ownW l k).1.1 = k ∧ (ownW l k).2 = true := by
  induction l using snoc_ind with
  | h0 => simp [firsts] at h
  | hs l p ih =>
    rw [ownW_snoc]
    by_cases e : p.1 = k
    · rw [if_pos e]; exact ⟨e, rfl⟩
    · rw [if_neg e]
      rw [firsts_snoc] at h
      apply ih
      split at h
      · exact h
      · rcases List.mem_append.1 h with h | h
        · exact h
        · simp only [List.mem_singleton] at h; exact absurd h.symm e

/-- The last place of a key, from place i on, or s. -/
def lastIx (key : List UInt8) : List PutT → Nat → Int → Int
  | [], _, s => s
  | x :: r, i, s => lastIx key r (i + 1) (if x.1 == key then i else s)

theorem lastIx_none (key : List UInt8) : ∀ (l : List PutT) (i : Nat) (s : Int), (∀ p ∈ l, p.1 ≠ key) → lastIx key l i s = s
  | [], _, _, _ => rfl
  | x :: r, i, s, h => by
    have : (x.1 == key) = false := by simpa using h x (by simp)
    show lastIx key r (i + 1) (if (x.1 == key) = true then (i : Int) else s) = s
    rw [this]
    exact lastIx_none key r (i + 1) s fun p hp => h p (List.mem_cons_of_mem _ hp)

theorem lastIx_at (key : List UInt8) : ∀ (l : List PutT) (i : Nat) (s : Int) (j : Nat) (hj : j < l.length), l[j].1 = key → (∀ m, (hm : m < l.length) → l[m].1 = key → m = j) → lastIx key l i s = ((i + j : Nat) : Int)
  | x :: r, i, s, 0, _, h, hu => by
    show lastIx key r (i + 1) (if (x.1 == key) = true then (i : Int) else s) = _
    have h : x.1 = key := h
    rw [h]
    simp only [beq_self_eq_true, if_true]
    rw [lastIx_none key r (i + 1) i fun p hp => by
      intro e
      obtain ⟨m, hm, hp⟩ := List.getElem_of_mem hp
      have := hu (m + 1) (by simpa using hm) (by simpa [hp] using e)
      omega]
    simp
  | x :: r, i, s, j + 1, hj, h, hu => by
    show lastIx key r (i + 1) (if (x.1 == key) = true then (i : Int) else s) = _
    rw [lastIx_at key r (i + 1) _ j (by simpa using hj) (by simpa using h) fun m hm hk => by
      have := hu (m + 1) (by simpa using hm) (by simpa using hk); omega]
    congr 1; omega

def netStep (out : List PutT) (p : PutT) : List PutT := if lastIx p.1 out 0 (-1) ≥ 0 then out.set (lastIx p.1 out 0 (-1)).toNat p else out ++ [p]

theorem netStep_eq (m : List PutT) (p : PutT) : netStep (netW m) p = netW (m ++ [p]) := by
  have keys : ∀ (j : Nat) (hj : j < (netW m).length), (netW m)[j].1 = (firsts m)[j]'(by simpa [netW] using hj) := fun j hj => by
    simp only [netW, List.getElem_map]
    exact (ownW_key m _ (List.getElem_mem _)).1
  unfold netStep
  by_cases h : p.1 ∈ firsts m
  · obtain ⟨j, hj, hk⟩ := List.getElem_of_mem h
    have hj' : j < (netW m).length := by simpa [netW] using hj
    have e := lastIx_at p.1 (netW m) 0 (-1) j hj' (by rw [keys j hj', hk]) fun q hq hqk => by
      rw [keys q hq] at hqk
      exact (List.getElem_inj (firsts_nodup m)).1 (hqk.trans hk.symm)
    rw [e, if_pos (by omega)]
    have e2 : ((0 + j : Nat) : Int).toNat = j := by omega
    rw [e2]
    unfold netW
    rw [firsts_snoc, if_pos h]
    apply List.ext_getElem (by simp)
    intro i h1 h2
    rw [List.getElem_set]
    simp only [List.getElem_map]
    have hi : i < (firsts m).length := by simpa using h2
    by_cases hij : j = i
    · subst hij
      rw [if_pos rfl, ownW_snoc, if_pos hk.symm]
    · rw [if_neg hij, ownW_snoc, if_neg]
      intro hp
      rw [← hk] at hp
      exact hij ((List.getElem_inj (firsts_nodup m)).1 hp)
  · rw [lastIx_none p.1 (netW m) 0 (-1) fun q hq => by
      intro e
      obtain ⟨j, hj, hq⟩ := List.getElem_of_mem hq
      have := keys j hj
      rw [hq, e] at this
      exact h (this ▸ List.getElem_mem _)]
    rw [if_neg (by omega)]
    unfold netW
    rw [firsts_snoc, if_neg h, List.map_append]
    congr 1
    · apply List.map_congr_left
      intro k hk
      rw [ownW_snoc, if_neg]
      intro e; subst e; exact h hk
    · simp [ownW_snoc]

theorem netFold (l : List PutT) : l.foldl netStep [] = netW l := by
  induction l using snoc_ind with
  | h0 => rfl
  | hs l p ih => rw [List.foldl_append, ih]; exact netStep_eq l p

theorem impl_net_l2 (out : List PutT) (p : PutT) (x9 : List PutT) (x10 x11 : Int) (hl : out.length < 2 ^ 62) :
    lp impl_net.l2 (out, p, -1, x9, x10, x11, (out.length : Int), 0) = some (out, p, lastIx p.1 out 0 (-1), x9, x10, x11) := by
  have key := lp_up (step := impl_net.l2) (fun n (s : Int) => (out, p, s, x9, x10, x11, (out.length : Int), (n : Int))) out.length (fun n s => (out, p, lastIx p.1 (out.drop n) n s, x9, x10, x11)) (fun _ _ => True)
    (fun rec n s hn _ ih => by
      rcases Nat.lt_or_ge n out.length with h | h
      · have hw : w64 ((n : Int) + 1) = ((n + 1 : Nat) : Int) := w64_succ (show n + 1 < 9223372036854775808 by omega)
        simp only [impl_net.l2, Int.ofNat_lt, h, decide_true, cond_true, inB_nat, rdA_nat, getD_lt h, w64_succ (show n + 1 < 9223372036854775808 by omega)]
        rw [List.drop_eq_getElem_cons h]
        show _ = some (out, p, lastIx p.1 (out.drop (n + 1)) (n + 1) (if (out[n].1 == p.1) = true then (n : Int) else s), x9, x10, x11)
        cases out[n].1 == p.1
        · simp only [cond_false, Option.bind_some, Bool.false_eq_true, if_false]; rw [hw]; exact ih s h trivial
        · simp only [cond_true, Option.bind_some, if_true]; rw [hw]; exact ih n h trivial
      · have : n = out.length := by omega
        subst this
        simp [impl_net.l2, lastIx])
    hl 0 (-1) (Nat.zero_le _) trivial
  simpa using key

theorem netStep_len (out : List PutT) (p : PutT) : (netStep out p).length ≤ out.length + 1 := by
  unfold netStep; split <;> simp

theorem lastIx_bound (key : List UInt8) : ∀ (l : List PutT) (i : Nat) (s : Int), lastIx key l i s = s ∨ (∃ j : Nat, lastIx key l i s = ((i + j : Nat) : Int) ∧ j < l.length)
  | [], _, _ => .inl rfl
  | x :: r, i, s => by
    show lastIx key r (i + 1) (if (x.1 == key) = true then (i : Int) else s) = s ∨ ∃ j : Nat, lastIx key r (i + 1) (if (x.1 == key) = true then (i : Int) else s) = _ ∧ _
    rcases lastIx_bound key r (i + 1) (if (x.1 == key) = true then (i : Int) else s) with h | ⟨j, h1, h2⟩
    · rw [h]
      split
      · exact .inr ⟨0, by simp, by simp⟩
      · exact .inl rfl
    · exact .inr ⟨j + 1, by rw [h1]; congr 1; omega, by simp; omega⟩

theorem impl_net_eq (l : List PutT) (hl : l.length < 2 ^ 40) : impl_net.f l = some (netW l) := by
  have hk := fold_loop (step := impl_net.l0) l netStep (fun n (s : List PutT) => (s, l, (l.length : Int), (n : Int))) id (fun n s => s.length ≤ n) (by omega)
    (fun rec n s h hi => by
      have hs : s.length < 2 ^ 62 := by omega
      have hw : w64 ((n : Int) + 1) = ((n + 1 : Nat) : Int) := w64_succ (show n + 1 < 9223372036854775808 by omega)
      simp only [impl_net.l0, Int.ofNat_lt, h, decide_true, cond_true, inB_nat, rdA_nat, getD_lt h, pair_eta, impl_net_l2 s l[n] l _ _ hs, Option.bind_some, w64_succ (show n + 1 < 9223372036854775808 by omega)]
      unfold netStep
      by_cases hp : lastIx l[n].1 s 0 (-1) ≥ 0
      · rcases lastIx_bound l[n].1 s 0 (-1) with k | ⟨j, k1, k2⟩
        · omega
        · rw [if_pos hp]
          have : inB (lastIx l[n].1 s 0 (-1)) s.length = true := by rw [k1]; simp [k2]
          simp only [hp, decide_true, cond_true, this, Option.bind_some, hw]
      · rw [if_neg hp]
        have hb : (s.length + [l[n]].length) * 40 ≤ 140737488355328 := by simp; omega
        simp only [hp, decide_false, cond_false, hb, decide_true, cond_true, Option.bind_some, hw])
    (fun n s h hi => by have := netStep_len s l[n]; omega)
    (fun rec s hi => by simp [impl_net.l0]) [] (by simp)
  have hk : lp impl_net.l0 ([], l, (l.length : Int), 0) = _ := hk
  unfold impl_net.f
  rw [hk, netFold]; rfl

theorem impl_NetWrites_eq (t : TxnT) (hl : t.2.2.length < 2 ^ 40) : impl_NetWrites.f t = some (netW t.2.2) := by
  unfold impl_NetWrites.f; rw [impl_net_eq _ hl]; rfl

def isFirst (l : List PutT) (i : Nat) : Bool := (l.take i).all fun q => !(q.1 == (l.getD i ([], false, [])).1)

theorem spec_NetWrites_l2 (t : TxnT) (out : List PutT) (i : Nat) (h : i < t.2.2.length) (hl : t.2.2.length < 2 ^ 40) :
    lp spec_NetWrites.l2 (t, out, (i : Int), true, 0) = some (t, out, (i : Int), isFirst t.2.2 i) := by
  have key := lp_up (step := spec_NetWrites.l2) (fun n (s : Bool) => (t, out, (i : Int), s, (n : Int))) i (fun n s => (t, out, (i : Int), s && ((t.2.2.take i).drop n).all fun q => !(q.1 == t.2.2[i].1))) (fun _ _ => True)
    (fun rec n s hn _ ih => by
      rcases Nat.lt_or_ge n i with h2 | h2
      · have h3 : n < t.2.2.length := by omega
        have h4 : n < (t.2.2.take i).length := by simp; omega
        have hw : w64 ((n : Int) + 1) = ((n + 1 : Nat) : Int) := w64_succ (show n + 1 < 9223372036854775808 by omega)
        simp only [spec_NetWrites.l2, Int.ofNat_lt, h, h2, h3, decide_true, cond_true, inB_nat, rdA_nat, getD_lt h, getD_lt h3, w64_succ (show n + 1 < 9223372036854775808 by omega)]
        rw [List.drop_eq_getElem_cons h4, List.all_cons, List.getElem_take]
        cases s
        · simp only [cond_false, Option.bind_some]
          rw [hw, ih false h2 trivial]; simp
        · simp only [cond_true, Option.bind_some]
          rw [hw, ih _ h2 trivial]; simp
      · have : n = i := by omega
        subst this
        have : (t.2.2.take n).drop n = [] := by simp
        simp [spec_NetWrites.l2, this])
    (by omega) 0 true (Nat.zero_le _) trivial
  rw [show isFirst t.2.2 i = (t.2.2.take i).all (fun q => !(q.1 == t.2.2[i].1)) by unfold isFirst; rw [getD_lt h]]
  simpa using key

theorem isFirst_iff (l : List PutT) (i : Nat) (h : i < l.length) : isFirst l i = true ↔ l[i].1 ∉ firsts (l.take i) := by
  unfold isFirst
  rw [List.all_eq_true, firsts_mem, getD_lt h]
  constructor
  · rintro h1 ⟨p, hp, e⟩
    have := h1 p hp
    simp [e] at this
  · intro h1 q hq
    simp only [Bool.not_eq_true', beq_eq_false_iff_ne]
    exact fun e => h1 ⟨q, hq, e⟩

theorem spec_NetWrites_eq (t : TxnT) (hl : t.2.2.length < 2 ^ 40) : spec_NetWrites.f t = some (netW t.2.2) := by
  have key := lp_up (step := spec_NetWrites.l0) (fun n (s : List PutT) => (t, s, (n : Int))) t.2.2.length (fun n s => netW t.2.2) (fun n s => s = (firsts (t.2.2.take n)).map fun k => (ownW t.2.2 k).1)
    (fun rec n s hn hi ih => by
      rcases Nat.lt_or_ge n t.2.2.length with h | h
      · have hs : s.length ≤ n := by
          have := firsts_len (t.2.2.take n)
          rw [hi, List.length_map]
          simp only [List.length_take] at this; omega
        have hb : (s.length + [(ownW t.2.2 t.2.2[n].1).1].length) * 40 ≤ 140737488355328 := by simp; omega
        have hw : w64 ((n : Int) + 1) = ((n + 1 : Nat) : Int) := w64_succ (show n + 1 < 9223372036854775808 by omega)
        simp only [spec_NetWrites.l0, Int.ofNat_lt, h, decide_true, cond_true, spec_NetWrites_l2 t s n h hl, Option.bind_some, inB_nat, rdA_nat, getD_lt h, spec_OwnWrite_eq t _ (show t.2.2.length < 2 ^ 62 by omega), w64_succ (show n + 1 < 9223372036854775808 by omega)]
        have e := isFirst_iff t.2.2 n h
        cases hf : isFirst t.2.2 n
        · simp only [cond_false, Option.bind_some]
          rw [hw]
          refine ih s h ?_
          rw [hi, List.take_succ_eq_append_getElem h, firsts_snoc, if_pos]
          by_cases hm : t.2.2[n].1 ∈ firsts (t.2.2.take n)
          · exact hm
          · rw [e.2 hm] at hf; simp at hf
        · simp only [cond_true, Option.bind_some, hb, decide_true]
          rw [hw]
          refine ih _ h ?_
          rw [hi, List.take_succ_eq_append_getElem h, firsts_snoc, if_neg (e.1 hf), List.map_append]; rfl
      · have : n = t.2.2.length := by omega
        subst this
        rw [List.take_length] at hi
        simp [spec_NetWrites.l0, hi, netW])
    (by omega) 0 [] (Nat.zero_le _) (by simp [firsts])
  have key : lp spec_NetWrites.l0 (t, [], 0) = _ := key
  unfold spec_NetWrites.f
  rw [key]; rfl

theorem lim40 {a : Nat} (h : a < 1000000000001) : (a + 1) * 40 ≤ 140737488355328 := by omega

def leK (a b : List UInt8) : Bool := Op.bytesLess a b || a == b

/-- One ahead of the first of a greater key. -/
def insB {α : Type} (l : List (List UInt8 × α)) (p : List UInt8 × α) : List (List UInt8 × α) :=
  let k := (l.takeWhile fun x => leK x.1 p.1).length
  l.take k ++ [p] ++ l.drop k

def dropK {α : Type} (l : List (List UInt8 × α)) (key : List UInt8) : List (List UInt8 × α) := l.filter fun x => !(x.1 == key)

theorem insB_len {α : Type} (l : List (List UInt8 × α)) (p : List UInt8 × α) : (insB l p).length = l.length + 1 := by
  have : (l.takeWhile fun x => leK x.1 p.1).length ≤ l.length := (List.takeWhile_sublist _).length_le
  simp only [insB, List.length_append, List.length_take, List.length_drop, List.length_cons, List.length_nil]; omega

theorem dropK_len {α : Type} (l : List (List UInt8 × α)) (key : List UInt8) : (dropK l key).length ≤ l.length := List.length_filter_le _ _

theorem foldl_filter {α : Type} (f : α → Bool) : ∀ (l s : List α), l.foldl (fun s x => if f x = true then s ++ [x] else s) s = s ++ l.filter f
  | [], s => by simp
  | x :: l, s => by
    rw [List.foldl_cons, foldl_filter f l, List.filter_cons]
    cases f x <;> simp

def foldStep (b : Int) (l : List PairT) (p : PutT) : List PairT := if p.2.1 = true then dropK l p.1 else insB (dropK l p.1) (p.1, p.2.2, b)

def foldP (l : List PairT) (puts : List PutT) (b : Int) : List PairT := puts.foldl (foldStep b) l

theorem foldStep_len (b : Int) (l : List PairT) (p : PutT) : (foldStep b l p).length ≤ l.length + 1 := by
  have := dropK_len l p.1
  unfold foldStep; split
  · omega
  · rw [insB_len]; omega

theorem foldP_len (b : Int) : ∀ (puts : List PutT) (l : List PairT), (foldP l puts b).length ≤ l.length + puts.length
  | [], l => by simp [foldP]
  | p :: puts, l => by
    have h1 := foldP_len b puts (foldStep b l p)
    have h2 := foldStep_len b l p
    show (foldP (foldStep b l p) puts b).length ≤ _
    simp only [List.length_cons]; omega

theorem impl_copyPairs_eq (l : List PairT) (hl : l.length < 2 ^ 40) : impl_copyPairs.f l = some l := by
  unfold impl_copyPairs.f
  have : (([] : List PairT).length + l.length) * 40 ≤ 140737488355328 := by simp; omega
  simp only [this, decide_true, cond_true, List.nil_append]

theorem impl_without_eq (l : List PairT) (key : List UInt8) (hl : l.length < 2 ^ 40) : impl_without.f l key = some (dropK l key) := by
  have hk := fold_loop (step := impl_without.l0) l (fun s x => if (!(x.1 == key)) = true then s ++ [x] else s) (fun n (s : List PairT) => (key, s, l, (l.length : Int), (n : Int))) id (fun n s => s.length ≤ n) (by omega)
    (fun rec n s h hi => by
      have hb : (s.length + [l[n]].length) * 40 ≤ 140737488355328 := by simp; omega
      have hw : w64 ((n : Int) + 1) = ((n + 1 : Nat) : Int) := w64_succ (show n + 1 < 9223372036854775808 by omega)
      simp only [impl_without.l0, Int.ofNat_lt, h, decide_true, cond_true, inB_nat, rdA_nat, getD_lt h, pair_eta, hb, w64_succ (show n + 1 < 9223372036854775808 by omega)]
      cases l[n].1 == key <;> simp [hw])
    (fun n s h hi => by
      have : ∀ b : Bool, (if b = true then s ++ [l[n]] else s).length ≤ n + 1 := fun b => by cases b <;> simp <;> omega
      exact this _)
    (fun rec s hi => by simp [impl_without.l0]) [] (by simp)
  have hk : lp impl_without.l0 (key, [], l, (l.length : Int), 0) = _ := hk
  unfold impl_without.f
  rw [hk, foldl_filter]; rfl

theorem takeWhile_drop {α : Type} (f : α → Bool) (l : List α) (n : Nat) (h : n < l.length) : ((l.drop n).takeWhile f).length = if f l[n] = true then ((l.drop (n + 1)).takeWhile f).length + 1 else 0 := by
  rw [List.drop_eq_getElem_cons h, List.takeWhile_cons]
  split <;> simp

theorem impl_Fold_l2 (x2 : Int) (rest : List PairT) (p : PutT) (x13 : List PutT) (x14 x15 : Int) (hl : rest.length < 2 ^ 62) :
    lp impl_Fold.l2 (x2, rest, p, 0, x13, x14, x15) = some (x2, rest, p, ((rest.takeWhile fun x => leK x.1 p.1).length : Int), x13, x14, x15) := by
  have key := lp_up (step := impl_Fold.l2) (fun n (_ : Unit) => (x2, rest, p, (n : Int), x13, x14, x15)) rest.length (fun n _ => (x2, rest, p, ((n + ((rest.drop n).takeWhile fun x => leK x.1 p.1).length : Nat) : Int), x13, x14, x15)) (fun _ _ => True)
    (fun rec n s hn _ ih => by
      rcases Nat.lt_or_ge n rest.length with h | h
      · rw [takeWhile_drop _ _ _ h]
        simp only [impl_Fold.l2, Int.ofNat_lt, h, decide_true, cond_true, inB_nat, rdA_nat, getD_lt h, w64_succ (show n + 1 < 9223372036854775808 by omega)]
        show (bif leK rest[n].1 p.1 then _ else _) = _
        cases leK rest[n].1 p.1
        · simp
        · simp only [cond_true, if_true]
          rw [ih () h trivial]
          congr 4; congr 1; omega
      · have : n = rest.length := by omega
        subst this
        simp [impl_Fold.l2])
    hl 0 () (Nat.zero_le _) trivial
  simpa using key

theorem impl_Fold_eq (l : List PairT) (puts : List PutT) (b : Int) (hl : l.length + puts.length < 2 ^ 40) : impl_Fold.f l puts b = some (foldP l puts b) := by
  have hk := fold_loop (step := impl_Fold.l0) puts (foldStep b) (fun n (s : List PairT) => (b, s, puts, (puts.length : Int), (n : Int))) id (fun n s => s.length ≤ l.length + n) (by omega)
    (fun rec n s h hi => by
      have hd := dropK_len s puts[n].1
      have hw : w64 ((n : Int) + 1) = ((n + 1 : Nat) : Int) := w64_succ (show n + 1 < 9223372036854775808 by omega)
      have htw : ((dropK s puts[n].1).takeWhile fun x => leK x.1 puts[n].1).length ≤ (dropK s puts[n].1).length := (List.takeWhile_sublist _).length_le
      simp only [impl_Fold.l0, Int.ofNat_lt, h, decide_true, cond_true, inB_nat, rdA_nat, getD_lt h, impl_without_eq s _ (show s.length < 2 ^ 40 by omega), Option.bind_some, pair_eta, impl_Fold_l2 b (dropK s puts[n].1) puts[n] puts _ _ (by omega), w64_succ (show n + 1 < 9223372036854775808 by omega)]
      unfold foldStep
      cases hdel : puts[n].2.1
      · generalize hk : ((dropK s puts[n].1).takeWhile fun x => leK x.1 puts[n].1).length = k at *
        have c1 : (0 : Int) ≤ (k : Int) := by omega
        have c2 : (k : Int) ≤ ((dropK s puts[n].1).length : Int) := by omega
        have c3 : (List.take k (dropK s puts[n].1)).length < 2 ^ 40 := by simp; omega
        simp only [cond_false, c1, c2, decide_true, Bool.and_self, cond_true, Int.toNat_natCast, impl_copyPairs_eq _ c3, Option.bind_some]
        have c4 : ((List.take k (dropK s puts[n].1)).length + [(puts[n].1, puts[n].2.2, b)].length) * 40 ≤ 140737488355328 := by simp; omega
        simp only [c4, decide_true, cond_true]
        have c5 : ((List.take k (dropK s puts[n].1) ++ [(puts[n].1, puts[n].2.2, b)]).length + (List.drop k (dropK s puts[n].1)).length) * 40 ≤ 140737488355328 := by simp; omega
        simp only [c5, decide_true, cond_true, Option.bind_some]
        have hins : insB (dropK s puts[n].1) (puts[n].1, puts[n].2.2, b) = List.take k (dropK s puts[n].1) ++ [(puts[n].1, puts[n].2.2, b)] ++ List.drop k (dropK s puts[n].1) := by
          unfold insB; simp only [hk]
        simp [hins, hw]
      · simp [hw])
    (fun n s h hi => by have := foldStep_len b s puts[n]; omega)
    (fun rec s hi => by simp [impl_Fold.l0]) l (by simp)
  have hk : lp impl_Fold.l0 (b, l, puts, (puts.length : Int), 0) = _ := hk
  unfold impl_Fold.f
  rw [impl_copyPairs_eq l (by omega), Option.bind_some, hk]; rfl

def setStep (p : PairT) (s : List PairT × Bool) (x : PairT) : List PairT × Bool :=
  if (x.1 == p.1) = true then s else if s.2 = false ∧ leK x.1 p.1 = false then (s.1 ++ [p] ++ [x], true) else (s.1 ++ [x], s.2)

theorem setStep_len (p : PairT) (s : List PairT × Bool) (x : PairT) : (setStep p s x).1.length ≤ s.1.length + 2 := by
  unfold setStep; split
  · omega
  · split <;> simp <;> omega

theorem set_true (p : PairT) : ∀ (l out : List PairT), l.foldl (setStep p) (out, true) = (out ++ dropK l p.1, true)
  | [], out => by simp [dropK]
  | x :: l, out => by
    rw [List.foldl_cons]
    by_cases h : (x.1 == p.1) = true
    · have e1 : setStep p (out, true) x = (out, true) := by unfold setStep; rw [if_pos h]
      rw [e1, set_true p l]
      simp [dropK, h]
    · have e1 : setStep p (out, true) x = (out ++ [x], true) := by unfold setStep; rw [if_neg h, if_neg (by simp)]
      rw [e1, set_true p l]
      simp [dropK, h]

theorem set_false (p : PairT) : ∀ (l out : List PairT), (let s := l.foldl (setStep p) (out, false); if s.2 = true then s.1 else s.1 ++ [p]) = out ++ insB (dropK l p.1) p
  | [], out => by simp [dropK, insB]
  | x :: l, out => by
    rw [List.foldl_cons]
    by_cases h : (x.1 == p.1) = true
    · have e1 : setStep p (out, false) x = (out, false) := by unfold setStep; rw [if_pos h]
      have e2 : dropK (x :: l) p.1 = dropK l p.1 := by simp [dropK, h]
      rw [e1, e2]; exact set_false p l out
    · have e2 : dropK (x :: l) p.1 = x :: dropK l p.1 := by simp [dropK, h]
      rw [e2]
      cases hk : leK x.1 p.1
      · have e1 : setStep p (out, false) x = (out ++ [p] ++ [x], true) := by unfold setStep; rw [if_neg h, if_pos ⟨rfl, hk⟩]
        rw [e1, set_true]
        simp [insB, hk]
      · have e1 : setStep p (out, false) x = (out ++ [x], false) := by unfold setStep; rw [if_neg h, if_neg (by simp [hk])]
        rw [e1, set_false p l (out ++ [x])]
        simp [insB, hk]

theorem spec_l13Set_eq (l : List PairT) (p : PairT) (del : Bool) (hl : l.length < 2 ^ 38) : spec_l13Set.f l p del = some (if del = true then dropK l p.1 else insB (dropK l p.1) p) := by
  have hk := fold_loop (step := spec_l13Set.l0) l (setStep p) (fun n (s : List PairT × Bool) => (l, p, s.1, s.2, (n : Int))) (fun s => (p, s.1, s.2)) (fun n s => s.1.length ≤ 2 * n) (by omega)
    (fun rec n s h hi => by
      have hi : s.1.length ≤ 2 * n := hi
      have hq : s.1.length < 1000000000000 := by omega
      have hb1 : (s.1.length + [p].length) * 40 ≤ 140737488355328 := lim40 (Nat.lt_succ_of_lt hq)
      have hb2 : (s.1.length + ([l[n]] : List PairT).length) * 40 ≤ 140737488355328 := lim40 (Nat.lt_succ_of_lt hq)
      have hb3 : ((s.1 ++ [p]).length + ([l[n]] : List PairT).length) * 40 ≤ 140737488355328 := by rw [List.length_append]; exact lim40 (Nat.succ_lt_succ hq)
      have hw : w64 ((n : Int) + 1) = (n : Int) + 1 := w64_id (by omega) (by omega)
      have hle : (Op.bytesLess l[n].1 p.1 || l[n].1 == p.1) = leK l[n].1 p.1 := rfl
      simp only [spec_l13Set.l0, Int.ofNat_lt, h, decide_true, cond_true, inB_nat, rdA_nat, getD_lt h, pair_eta, hle]
      unfold setStep
      rcases Bool.eq_false_or_eq_true (l[n].1 == p.1) with h1 | h1
      · simp [h1, hw]
      · rcases Bool.eq_false_or_eq_true s.2 with h2 | h2
        · simp only [h1, h2, cond_false, Bool.not_true, Option.bind_some, inB_nat, rdA_nat, getD_lt h, pair_eta, h, decide_true, cond_true, hb2]
          simp [hw]
        · rcases Bool.eq_false_or_eq_true (leK l[n].1 p.1) with h3 | h3
          · simp only [h1, h2, h3, cond_false, Bool.not_true, Bool.not_false, Option.bind_some, inB_nat, rdA_nat, getD_lt h, pair_eta, h, decide_true, cond_true, hb2]
            simp [hw]
          · simp only [h1, h2, h3, cond_false, Bool.not_true, Bool.not_false, Option.bind_some, inB_nat, rdA_nat, getD_lt h, pair_eta, h, decide_true, cond_true, hb1, hb3]
            simp [hw])
    (fun n s h hi => by have := setStep_len p s l[n]; have hi : s.1.length ≤ 2 * n := hi; show _ ≤ 2 * (n + 1); omega)
    (fun rec s hi => by simp [spec_l13Set.l0]) ([], del) (by simp)
  have hk : lp spec_l13Set.l0 (l, p, [], del, 0) = _ := hk
  have hlen : ∀ (m : List PairT) (s : List PairT × Bool), (m.foldl (setStep p) s).1.length ≤ s.1.length + 2 * m.length := by
    intro m
    induction m with
    | nil => intro s; simp
    | cons x m ih => intro s; rw [List.foldl_cons]; have := ih (setStep p s x); have := setStep_len p s x; simp only [List.length_cons]; omega
  unfold spec_l13Set.f
  rw [hk, Option.bind_some]
  cases del with
  | true => rw [set_true]; simp
  | false =>
    have hf := set_false p l []
    have hb := hlen l ([], false)
    generalize l.foldl (setStep p) ([], false) = s at *
    obtain ⟨s1, s2⟩ := s
    simp only [List.length_nil, Nat.zero_add] at hb
    have hb1 : (s1.length + [p].length) * 40 ≤ 140737488355328 := by simp; omega
    cases s2
    · simp only [Bool.false_eq_true, if_false, List.nil_append] at hf ⊢
      simp only [Bool.not_false, cond_true, hb1, decide_true, hf]
    · simp only [if_true, List.nil_append] at hf
      simp [hf]

theorem spec_Fold_eq (l : List PairT) (puts : List PutT) (b : Int) (hl : l.length + puts.length < 2 ^ 37) : spec_Fold.f l puts b = some (foldP l puts b) := by
  have hk := fold_loop (step := spec_Fold.l0) puts (foldStep b) (fun n (s : List PairT) => (puts, b, s, (n : Int))) id (fun n s => s.length ≤ l.length + n) (by omega)
    (fun rec n s h hi => by
      simp only [spec_Fold.l0, Int.ofNat_lt, h, decide_true, cond_true, inB_nat, rdA_nat, getD_lt h, spec_l13Set_eq s _ _ (show s.length < 2 ^ 38 by omega), Option.bind_some, w64_succ (show n + 1 < 9223372036854775808 by omega)]
      rfl)
    (fun n s h hi => by have := foldStep_len b s puts[n]; omega)
    (fun rec s hi => by simp [spec_Fold.l0]) l (by simp)
  have hk : lp spec_Fold.l0 (puts, b, l, 0) = _ := hk
  unfold spec_Fold.f
  have : (([] : List PairT).length + l.length) * 40 ≤ 140737488355328 := by simp; omega
  simp only [this, decide_true, cond_true, List.nil_append]
  rw [hk]; rfl

theorem dnn {k : Int} (h : 0 ≤ k) : decide (k < 0) = false := by
  have : ¬ k < 0 := by omega
  simp [this]

theorem netW_len (l : List PutT) : (netW l).length ≤ l.length := by
  unfold netW; rw [List.length_map]; exact firsts_len l

theorem less_irrefl : ∀ a : List UInt8, Op.bytesLess a a = false
  | [] => rfl
  | x :: a => by simp [Op.bytesLess, less_irrefl a]

theorem u8_lt {a b : UInt8} : a < b ↔ a.toNat < b.toNat := UInt8.lt_iff_toNat_lt

theorem u8_eq {a b : UInt8} (h : a.toNat = b.toNat) : a = b := UInt8.toNat.inj h

theorem less_trans : ∀ a b c : List UInt8, Op.bytesLess a b = true → Op.bytesLess b c = true → Op.bytesLess a c = true
  | _, [], _, h, _ => by simp [Op.bytesLess] at h
  | _, _ :: _, [], _, h => by simp [Op.bytesLess] at h
  | [], _ :: _, _ :: _, _, _ => rfl
  | x :: a, y :: b, z :: c, h1, h2 => by
    simp only [Op.bytesLess, Bool.or_eq_true, decide_eq_true_eq, Bool.and_eq_true, beq_iff_eq] at h1 h2 ⊢
    rcases h1 with h1 | ⟨h1, k1⟩
    · rcases h2 with h2 | ⟨h2, k2⟩
      · left; rw [u8_lt] at *; omega
      · left; rw [← h2]; exact h1
    · rcases h2 with h2 | ⟨h2, k2⟩
      · left; rw [h1]; exact h2
      · exact .inr ⟨h1.trans h2, less_trans a b c k1 k2⟩

theorem less_total : ∀ a b : List UInt8, Op.bytesLess a b = false → a ≠ b → Op.bytesLess b a = true
  | [], [], _, h => absurd rfl h
  | [], _ :: _, h, _ => by simp [Op.bytesLess] at h
  | _ :: _, [], _, _ => rfl
  | x :: a, y :: b, h1, h2 => by
    simp only [Op.bytesLess, Bool.or_eq_false_iff, decide_eq_false_iff_not, Bool.and_eq_false_iff] at h1
    simp only [Op.bytesLess, Bool.or_eq_true, decide_eq_true_eq, Bool.and_eq_true, beq_iff_eq]
    by_cases e : x = y
    · subst e
      right
      refine ⟨rfl, less_total a b ?_ fun e => h2 (by rw [e])⟩
      rcases h1.2 with k | k
      · simp at k
      · exact k
    · left
      rw [u8_lt] at *
      have := h1.1
      have hne : x.toNat ≠ y.toNat := fun k => e (u8_eq k)
      omega

theorem less_asymm (a b : List UInt8) (h : Op.bytesLess a b = true) : Op.bytesLess b a = false := by
  cases hb : Op.bytesLess b a with
  | false => rfl
  | true => have := less_trans a b a h hb; rw [less_irrefl] at this; simp at this

theorem leK_not (a b : List UInt8) : leK a b = !Op.bytesLess b a := by
  unfold leK
  cases h : Op.bytesLess a b with
  | true => rw [less_asymm a b h]; rfl
  | false =>
    by_cases e : a = b
    · subst e; simp [h]
    · rw [less_total a b h e]
      have : (a == b) = false := by simpa using e
      simp [this]

theorem spec_l15Copy_eq (t : TxnT) (h1 : t.2.1.length < 1000000000000) (h2 : t.2.2.length < 1000000000000) : spec_l15Copy.f t = some t := by
  unfold spec_l15Copy.f
  have c1 : t.2.1.length * 24 ≤ 140737488355328 := by omega
  have c2 : t.2.2.length * 40 ≤ 140737488355328 := by omega
  simp [c1, c2]

def txnWrite (t : TxnT) (p : PutT) : TxnT × Bool :=
  if t.1 = true ∧ putOk p = true ∧ (netW (t.2.2 ++ [p])).length ≤ 8 ∧ t.2.2.length < 50 then ((t.1, t.2.1, t.2.2 ++ [p]), true) else (t, false)

theorem spec_TxnWrite_eq (t : TxnT) (p : PutT) (h1 : t.2.1.length < 1000000000) (h2 : t.2.2.length < 1000000000) : spec_TxnWrite.f t p = some (txnWrite t p) := by
  have hc := spec_l15Copy_eq t (by omega) (by omega)
  have hb : (t.2.2.length + ([p] : List PutT).length) * 40 ≤ 140737488355328 := lim40 (by omega)
  have hn : spec_NetWrites.f (t.1, t.2.1, t.2.2 ++ [p]) = some (netW (t.2.2 ++ [p])) := spec_NetWrites_eq (t.1, t.2.1, t.2.2 ++ [p]) (by show (t.2.2 ++ [p]).length < _; rw [List.length_append]; show _ + 1 < _; omega)
  have hl : (t.2.2 ++ [p]).length = t.2.2.length + 1 := List.length_append
  have hp : spec_PutsOk.f [p] = some (putOk p) := by
    rw [spec_PutsOk_eq [p] (by show 1 < 2 ^ 62; decide)]
    unfold putsOk
    simp
  unfold spec_TxnWrite.f txnWrite
  simp only [hc, Option.bind_some, hb, decide_true, cond_true, hp, hn]
  rcases Bool.eq_false_or_eq_true t.1 with k | k
  rotate_left
  · simp [k]
  rcases Bool.eq_false_or_eq_true (putOk p) with k2 | k2
  rotate_left
  · simp [k, k2]
  simp only [k, k2, Bool.not_true, cond_false, true_and]
  by_cases c : (netW (t.2.2 ++ [p])).length ≤ 8
  rotate_left
  · have c1 : ((netW (t.2.2 ++ [p])).length : Int) > 8 := by omega
    simp only [c, c1, decide_true, cond_true, false_and, if_false]
  have c1 : ¬ ((netW (t.2.2 ++ [p])).length : Int) > 8 := by omega
  by_cases c2 : t.2.2.length < 50
  · have c3 : ¬ (((t.2.2 ++ [p]).length : Nat) : Int) > 50 := by omega
    simp only [c, c1, c2, c3, decide_false, cond_false, and_self, if_true]
  · have c3 : (((t.2.2 ++ [p]).length : Nat) : Int) > 50 := by omega
    simp only [c, c1, c2, c3, decide_true, decide_false, cond_true, cond_false, and_false, if_false]

theorem wrap64_nat {n : Nat} (h : n < 9223372036854775808) : IntKind.wrap .i64 (n : Int) = n := w64_nat h

abbrev CurT := List Int × Int × Int

def Cur (c : CurT) : Prop := 0 ≤ c.2.1 ∧ c.1.length < 2 ^ 60

theorem and255 (x : Int) : 0 ≤ bits (fun _ a b => a &&& b) .i64 x 255 ∧ bits (fun _ a b => a &&& b) .i64 x 255 ≤ 255 := by
  have e : bits (fun _ a b => a &&& b) .i64 x 255 = IntKind.wrap .i64 ((BitVec.ofInt 64 x &&& BitVec.ofInt 64 255).toNat : Int) := rfl
  have h : (BitVec.ofInt 64 x &&& BitVec.ofInt 64 255).toNat ≤ 255 := by
    rw [BitVec.toNat_and]
    exact Nat.le_trans Nat.and_le_right (by decide)
  rw [e, wrap64_nat (by omega)]
  omega

theorem l1Byte_ok {c : CurT} (h : Cur c) : ∃ x c', spec_l1Byte.f c = some (x, c') ∧ 0 ≤ x ∧ x ≤ 255 ∧ Cur c' := by
  obtain ⟨l, i, s⟩ := c
  obtain ⟨h1, h2⟩ := h
  simp only at h1 h2
  unfold spec_l1Byte.f
  simp only
  generalize bits (fun _ a b => a ^^^ b) .i64 _ _ = y
  by_cases c : i < (l.length : Int)
  · obtain ⟨j, rfl⟩ : ∃ j : Nat, i = (j : Int) := ⟨i.toNat, by omega⟩
    have c2 : j < l.length := by omega
    simp only [c, decide_true, cond_true, inB_nat, c2]
    refine ⟨_, _, rfl, (and255 _).1, (and255 _).2, ?_, h2⟩
    show 0 ≤ w64 _
    rw [w64_id (by omega) (by omega)]; omega
  · simp only [c, decide_false, cond_false]
    exact ⟨_, _, rfl, (and255 _).1, (and255 _).2, h1, h2⟩

theorem tmod_range {x n : Int} (hx : 0 ≤ x) (hn : 0 < n) : 0 ≤ Int.tmod x n ∧ Int.tmod x n < n := by
  exact ⟨Int.tmod_nonneg n hx, Int.tmod_lt_of_pos x hn⟩

theorem l1Below_ok {c : CurT} (h : Cur c) (n : Int) : ∃ x c', spec_l1Below.f c n = some (x, c') ∧ 0 ≤ x ∧ (0 < n → x < n) ∧ (n ≤ 0 → x = 0) ∧ Cur c' := by
  unfold spec_l1Below.f
  by_cases c0 : n ≤ 0
  · simp only [c0, decide_true, cond_true]
    exact ⟨0, c, rfl, Int.le_refl _, fun h => by omega, fun _ => rfl, h⟩
  have hn : (n != 0) = true := by simp; omega
  by_cases c1 : n ≤ 256
  · obtain ⟨x, c', e, h1, h2, h3⟩ := l1Byte_ok h
    simp only [c0, c1, decide_true, decide_false, cond_true, cond_false, e, Option.bind_some, hn]
    have := tmod_range h1 (show 0 < n by omega)
    exact ⟨_, _, rfl, this.1, fun _ => this.2, fun h => h.elim, h3⟩
  · obtain ⟨x, c1', e1, a1, b1, h1⟩ := l1Byte_ok h
    obtain ⟨y, c2', e2, a2, b2, h2⟩ := l1Byte_ok h1
    obtain ⟨z, c3', e3, a3, b3, h3⟩ := l1Byte_ok h2
    obtain ⟨w, c4', e4, a4, b4, h4⟩ := l1Byte_ok h3
    simp only [c0, c1, decide_false, cond_false, e1, e2, e3, e4, Option.bind_some, hn, cond_true]
    rw [w64_id (n := x * 16777216) (by omega) (by omega), w64_id (n := y * 65536) (by omega) (by omega), w64_id (n := z * 256) (by omega) (by omega), w64_id (n := x * 16777216 + y * 65536) (by omega) (by omega), w64_id (n := x * 16777216 + y * 65536 + z * 256) (by omega) (by omega), w64_id (n := x * 16777216 + y * 65536 + z * 256 + w) (by omega) (by omega)]
    have := tmod_range (x := x * 16777216 + y * 65536 + z * 256 + w) (n := n) (by omega) (by omega)
    exact ⟨_, _, rfl, this.1, fun _ => this.2, fun h => h.elim, h4⟩

theorem l1Once_ok {c : CurT} (h : Cur c) (n : Int) : ∃ b c', spec_l1Once.f c n = some (b, c') ∧ Cur c' := by
  obtain ⟨x, c', e, _, _, _, h'⟩ := l1Below_ok h n
  unfold spec_l1Once.f
  simp only [e, Option.bind_some]
  exact ⟨_, _, rfl, h'⟩

theorem l1Pick_ok {c : CurT} (h : Cur c) (l : List (List UInt8)) (hl : 0 < l.length) : ∃ x c', spec_l1Pick.f c l = some (x, c') ∧ x ∈ l ∧ Cur c' := by
  obtain ⟨x, c', e, h1, h2, _, h'⟩ := l1Below_ok h (l.length : Int)
  have h2 := h2 (by omega)
  unfold spec_l1Pick.f
  simp only [e, Option.bind_some]
  obtain ⟨j, rfl⟩ : ∃ j : Nat, x = (j : Int) := ⟨x.toNat, by omega⟩
  have c2 : j < l.length := by omega
  simp only [inB_nat, c2, decide_true, cond_true, rdA_nat, getD_lt c2]
  exact ⟨_, _, rfl, List.getElem_mem c2, h'⟩

def keyList : List (List UInt8) := [[97], [98], [99], [107, 101, 121], [108, 111, 110, 103, 110, 97, 109, 101]]

theorem l5Key_ok {c : CurT} (h : Cur c) : ∃ x c', spec_l5Key.f c = some (x, c') ∧ keyOk x = true ∧ Cur c' := by
  obtain ⟨x, c', e, hm, h'⟩ := l1Pick_ok h keyList (by decide)
  unfold spec_l5Key.f
  have e : spec_l1Pick.f c [[97], [98], [99], [107, 101, 121], [108, 111, 110, 103, 110, 97, 109, 101]] = some (x, c') := e
  simp only [e, Option.bind_some]
  refine ⟨_, _, rfl, ?_, h'⟩
  have : ∀ y ∈ keyList, keyOk y = true := by decide
  exact this x hm

/-- A loop that counts down to nothing, with a cursor. -/
theorem down_ok {A B σ : Type} {step : (A → Option B) → A → Option B} (st : Nat → σ → A) (Inv : Nat → σ → Prop) (Post : B → Prop)
    (hz : ∀ rec s, Inv 0 s → ∃ b, step rec (st 0 s) = some b ∧ Post b)
    (hs : ∀ rec n s, Inv (n + 1) s → ∃ s', Inv n s' ∧ step rec (st (n + 1) s) = rec (st n s')) (n : Nat) (s : σ) (hi : Inv n s) (hn : n < 2 ^ 62) : ∃ b, lp step (st n s) = some b ∧ Post b := by
  have key : ∀ n f s, Inv n s → n < f → ∃ b, loopF step f (st n s) = some b ∧ Post b := by
    intro n
    induction n with
    | zero =>
      intro f s hi hf
      obtain ⟨f, rfl⟩ : ∃ g, f = g + 1 := ⟨f - 1, by omega⟩
      exact hz _ s hi
    | succ n ih =>
      intro f s hi hf
      obtain ⟨f, rfl⟩ : ∃ g, f = g + 1 := ⟨f - 1, by omega⟩
      obtain ⟨s', hi', e⟩ := hs (loopF step f) n s hi
      show ∃ b, step (loopF step f) (st (n + 1) s) = some b ∧ Post b
      rw [e]
      exact ih f s' hi' (by omega)
  exact key n FUEL s hi (Nat.lt_of_lt_of_le hn fuel_le)

/-- A loop that ends with what is wanted. -/
theorem lp_ok {A B : Type} {step : (A → Option B) → A → Option B} (P : A → Prop) (m : A → Nat) (Post : B → Prop)
    (h : ∀ rec a, P a → (∃ b, step rec a = some b ∧ Post b) ∨ ∃ a', P a' ∧ m a' < m a ∧ step rec a = rec a') {a : A} (hp : P a) (hm : m a < 2 ^ 62) : ∃ b, lp step a = some b ∧ Post b := by
  have key : ∀ f a, P a → m a < f → ∃ b, loopF step f a = some b ∧ Post b := by
    intro f
    induction f with
    | zero => intro a _ hf; omega
    | succ f ih =>
      intro a hp hf
      rcases h (loopF step f) a hp with hx | ⟨a', hp', hlt, e⟩
      · exact hx
      · show ∃ b, step (loopF step f) a = some b ∧ Post b
        rw [e]
        exact ih a' hp' (by omega)
  exact key FUEL a hp (Nat.lt_of_lt_of_le hm fuel_le)

theorem l1Text_ok {c : CurT} (h : Cur c) (most : Int) (h0 : 0 ≤ most) (h1 : most < 1000000000) : ∃ x c', spec_l1Text.f c most = some (x, c') ∧ (x.length : Int) ≤ most ∧ Cur c' := by
  obtain ⟨st, c1, e1, _, _, _, hc1⟩ := l1Below_ok h 4
  obtain ⟨n, c2, e2, a2, b2, _, hc2⟩ := l1Below_ok hc1 (most + 1)
  have b2 := b2 (by omega)
  obtain ⟨m, rfl⟩ : ∃ m : Nat, n = (m : Int) := ⟨n.toNat, by omega⟩
  have key := down_ok (step := spec_l1Text.l0) (fun k (s : CurT × List Int) => (s.1, s.2, st, (k : Int))) (fun k s => Cur s.1 ∧ s.2.length + k = m) (fun b => Cur b.1 ∧ b.2.length = m)
    (fun rec s hi => ⟨_, by simp [spec_l1Text.l0], hi.1, by simpa using hi.2⟩)
    (fun rec k s hi => by
      obtain ⟨hi1, hi2⟩ := hi
      obtain ⟨x, c', e, _, _, h'⟩ := l1Byte_ok hi1
      have e0 : ((k + 1 : Nat) : Int) > 0 := by omega
      have hw : w64 (((k + 1 : Nat) : Int) - 1) = (k : Int) := by rw [w64_id (by omega) (by omega)]; omega
      have hb : ∀ v : Int, (s.2.length + [v].length) * 1 ≤ 140737488355328 := fun v => by show (s.2.length + 1) * 1 ≤ _; omega
      cases d1 : (st == 1) <;> cases d2 : (st == 2) <;> simp only [spec_l1Text.l0, e0, decide_true, cond_true, cond_false, e, Option.bind_some, d1, d2, hb, hw]
      all_goals exact ⟨(c', s.2 ++ [_]), ⟨h', by simp only [List.length_append, List.length_singleton]; omega⟩, rfl⟩)
    m (c2, []) ⟨hc2, by simp⟩ (by omega)
  obtain ⟨⟨c3, xs⟩, e3, hc3, hl⟩ := key
  have e3 : lp spec_l1Text.l0 (c2, [], st, (m : Int)) = some (c3, xs) := e3
  unfold spec_l1Text.f
  rw [e1, Option.bind_some]
  simp only [w64_id (n := most + 1) (by omega) (by omega), e2, Option.bind_some, e3]
  refine ⟨_, _, rfl, ?_, hc3⟩
  unfold strOf
  simp only at hl
  rw [List.length_map, hl]; omega

theorem l1New_ok (l : List Int) (hl : l.length < 2 ^ 60) : ∃ c, spec_l1New.f l = some c ∧ Cur c := by
  have key : ∃ s, lp spec_l1New.l0 (l, w64 (10101 + (l.length : Int)), 0) = some (l, s) := by
    have := lp_ok (step := spec_l1New.l0) (a := (l, w64 (10101 + (l.length : Int)), ((0 : Nat) : Int))) (fun a => a.1 = l ∧ ∃ n : Nat, a.2.2 = (n : Int) ∧ n ≤ l.length) (fun a => l.length - a.2.2.toNat) (fun b => b.1 = l)
      (fun rec a ha => by
        obtain ⟨x, s, i⟩ := a
        obtain ⟨hx, n, hn, hle⟩ := ha
        simp only at hx hn
        subst hx hn
        by_cases c : n < x.length
        · by_cases c2 : (n : Int) < 4000
          · right
            have c3 : (n : Int) < (x.length : Int) := by omega
            refine ⟨(x, bits (fun _ a b => a &&& b) .i64 (w64 ((w64 ((w64 (s * 131)) + (w64 (x.getD n 0)))) + 7)) 1073741823, ((n + 1 : Nat) : Int)), ⟨rfl, n + 1, rfl, c⟩, by simp only [Int.toNat_natCast]; omega, ?_⟩
            simp only [spec_l1New.l0, c3, c2, decide_true, cond_true, inB_nat, c, rdA_nat, w64_succ (show n + 1 < 9223372036854775808 by omega)]
          · left
            have c3 : (n : Int) < (x.length : Int) := by omega
            exact ⟨(x, s), by simp only [spec_l1New.l0, c3, c2, decide_true, decide_false, cond_true, cond_false], rfl⟩
        · left
          have c3 : ¬ (n : Int) < (x.length : Int) := by omega
          exact ⟨(x, s), by simp only [spec_l1New.l0, c3, decide_false, cond_false], rfl⟩)
      ⟨rfl, 0, rfl, Nat.zero_le _⟩ (by simp only; omega)
    obtain ⟨⟨b1, b2⟩, e, hb⟩ := this
    simp only at hb
    subst hb
    exact ⟨b2, e⟩
  obtain ⟨s, e⟩ := key
  unfold spec_l1New.f
  simp only [e, Option.bind_some]
  exact ⟨_, rfl, Int.le_refl _, hl⟩

abbrev ReadT := List UInt8 × Int

def readS (t : TxnT) (key : List UInt8) (b : Int) : TxnT × Int :=
  if t.1 = false ∨ keyOk key = false then (t, 4) else
  match t.2.1.find? (fun r => r.1 == key) with
  | some r => if r.2 = b then (t, 0) else (t, 7)
  | none => if 20 ≤ t.2.1.length then (t, 5) else ((t.1, t.2.1 ++ [(key, b)], t.2.2), 0)

theorem lim24 {a : Nat} (h : a < 1000000000001) : (a + 1) * 24 ≤ 140737488355328 := by omega

theorem spec_TxnRead_eq (t : TxnT) (key : List UInt8) (b : Int) (h1 : t.2.1.length < 1000000000) (h2 : t.2.2.length < 1000000000) : spec_TxnRead.f t key b = some (readS t key b) := by
  unfold spec_TxnRead.f readS
  rw [spec_l15Copy_eq t (by omega) (by omega), Option.bind_some]
  rcases Bool.eq_false_or_eq_true t.1 with k | k
  rotate_left
  · simp [k]
  simp only [k, Bool.not_true, cond_false, spec_KeyOk_eq, Option.bind_some]
  rcases Bool.eq_false_or_eq_true (keyOk key) with k2 | k2
  rotate_left
  · simp [k2]
  have key' := find_loop (step := spec_TxnRead.l0) t.2.1 (fun r => r.1 == key) (fun r => (t, if r.2 = b then (0 : Int) else 7)) (fun n => (key, b, t, ((false, [], []) : TxnT), t, (n : Int))) (key, b, t, (false, [], []), t) (by omega)
    (fun rec n h => by
      simp only [spec_TxnRead.l0, Int.ofNat_lt, h, decide_true, cond_true, inB_nat, rdA_nat, getD_lt h, w64_succ (show n + 1 < 9223372036854775808 by omega)]
      rcases Bool.eq_false_or_eq_true (t.2.1[n].1 == key) with c | c
      · by_cases c2 : t.2.1[n].2 = b
        · have c3 : (t.2.1[n].2 != b) = false := by simpa using c2
          simp only [c, c3, cond_true, cond_false, if_true]
          rw [if_pos c2]
        · have c3 : (t.2.1[n].2 != b) = true := by simpa using c2
          simp only [c, c2, c3, cond_true, if_true, if_false]
      · simp only [c, cond_false, Bool.false_eq_true, if_false])
    (fun rec => by simp [spec_TxnRead.l0])
  have key' : lp spec_TxnRead.l0 (key, b, t, (false, [], []), t, 0) = _ := key'
  simp only [k2, Bool.not_true, cond_false, key', Option.bind_some, Bool.true_eq_false, or_self, if_false]
  cases t.2.1.find? (fun r => r.1 == key) with
  | some r =>
    simp only [caseS_r]
    split <;> rfl
  | none =>
    simp only [caseS_l]
    by_cases c : 20 ≤ t.2.1.length
    · have c2 : (t.2.1.length : Int) ≥ 20 := by omega
      simp only [c, c2, decide_true, cond_true, if_true]
    · have c2 : ¬ (t.2.1.length : Int) ≥ 20 := by omega
      have hb : (t.2.1.length + ([(key, b)] : List ReadT).length) * 24 ≤ 140737488355328 := lim24 (by omega)
      have hb : decide ((t.2.1.length + ([(key, b)] : List ReadT).length) * 24 ≤ 140737488355328) = true := decide_eq_true hb
      simp only [c, c2, decide_false, cond_false, if_false, hb, cond_true, k]

/-- What a session of the program's own is: no key is noted twice; what it wrote is little. -/
structure TxnOk (t : TxnT) : Prop where
  keys : t.2.1.Pairwise (fun a b => a.1 ≠ b.1)
  reads : t.2.1.length ≤ 20
  writes : t.2.2.length ≤ 50
  net : (netW t.2.2).length ≤ 8

theorem readS_ok {t : TxnT} (h : TxnOk t) (key : List UInt8) (b : Int) : TxnOk (readS t key b).1 := by
  unfold readS
  split
  · exact h
  split
  · split <;> exact h
  · rename_i hf
    split
    · exact h
    · refine ⟨?_, ?_, h.writes, h.net⟩
      · show (t.2.1 ++ [(key, b)]).Pairwise _
        rw [List.pairwise_append]
        refine ⟨h.keys, by simp, fun x hx y hy => ?_⟩
        rw [List.mem_singleton.1 hy]
        have := List.find?_eq_none.1 hf x hx
        simpa using this
      · show (t.2.1 ++ [(key, b)]).length ≤ 20
        rw [List.length_append]; show _ + 1 ≤ 20; omega

theorem txnWrite_ok {t : TxnT} (h : TxnOk t) (p : PutT) : TxnOk (txnWrite t p).1 := by
  unfold txnWrite
  split
  · rename_i c
    refine ⟨h.keys, h.reads, ?_, c.2.2.1⟩
    show (t.2.2 ++ [p]).length ≤ 50
    rw [List.length_append]; show _ + 1 ≤ 50; omega
  · exact h

theorem down1 {k : Nat} (hk : k < 2 ^ 60) : w64 (((k + 1 : Nat) : Int) - 1) = (k : Int) := by rw [w64_id (by omega) (by omega)]; omega

theorem l12Puts_ok {c : CurT} (h : Cur c) : ∃ l c', spec_l12Puts.f c = some (l, c') ∧ l.length ≤ 3 ∧ (∀ p ∈ l, putOk p = true) ∧ Cur c' := by
  obtain ⟨n, c1, e1, a1, b1, _, h1⟩ := l1Below_ok h 4
  have b1 := b1 (by omega)
  obtain ⟨m, rfl⟩ : ∃ m : Nat, n = (m : Int) := ⟨n.toNat, by omega⟩
  have key := down_ok (step := spec_l12Puts.l0) (fun k (s : CurT × List PutT) => (s.1, s.2, (k : Int))) (fun k s => Cur s.1 ∧ s.2.length + k = m ∧ ∀ p ∈ s.2, putOk p = true) (fun b => Cur b.1 ∧ b.2.length = m ∧ ∀ p ∈ b.2, putOk p = true)
    (fun rec s hi => ⟨_, by simp [spec_l12Puts.l0], hi.1, by simpa using hi.2.1, hi.2.2⟩)
    (fun rec k s hi => by
      obtain ⟨hi1, hi2, hi3⟩ := hi
      obtain ⟨ky, c2, f1, g1, h2⟩ := l5Key_ok hi1
      obtain ⟨v, c3, f2, g2, h3⟩ := l1Text_ok h2 16 (by omega) (by omega)
      obtain ⟨o, c4, f3, h4⟩ := l1Once_ok h3 4
      have e0 : ((k + 1 : Nat) : Int) > 0 := by omega
      have hw := down1 (show k < 2 ^ 60 by omega)
      have hb : ∀ v : PutT, (s.2.length + [v].length) * 40 ≤ 140737488355328 := fun v => lim40 (by omega)
      cases o <;> simp only [spec_l12Puts.l0, e0, decide_true, cond_true, cond_false, f1, f2, f3, Option.bind_some, hb, hw]
      · exact ⟨(c4, s.2 ++ [(ky, false, v)]), ⟨h4, by simp only [List.length_append, List.length_singleton]; omega, fun p hp => by
          rcases List.mem_append.1 hp with hp | hp
          · exact hi3 p hp
          · rw [List.mem_singleton.1 hp]; unfold putOk; simp [g1]; omega⟩, rfl⟩
      · exact ⟨(c4, s.2 ++ [(ky, true, [])]), ⟨h4, by simp only [List.length_append, List.length_singleton]; omega, fun p hp => by
          rcases List.mem_append.1 hp with hp | hp
          · exact hi3 p hp
          · rw [List.mem_singleton.1 hp]; unfold putOk; simp [g1]⟩, rfl⟩)
    m (c1, []) ⟨h1, by simp, by simp⟩ (by omega)
  obtain ⟨⟨c5, l⟩, e5, h5, hl, hp⟩ := key
  have e5 : lp spec_l12Puts.l0 (c1, [], (m : Int)) = some (c5, l) := e5
  unfold spec_l12Puts.f
  simp only [e1, Option.bind_some, e5]
  refine ⟨_, _, rfl, ?_, hp, h5⟩
  simp only at hl; omega

theorem spec_Dec_ok (n : Nat) (hn : n < 1000000000) : ∃ s, spec_Dec.f (n : Int) = some s ∧ s.length ≤ n + 1 := by
  unfold spec_Dec.f
  by_cases c : n = 0
  · subst c
    exact ⟨[48], rfl, by simp⟩
  have c1 : ((n : Int) == 0) = false := by simpa using c
  have c2 : decide ((n : Int) < 0) = false := dnn (by omega)
  have key := lp_ok (step := spec_Dec.l0) (a := ((n : Int), ([] : List UInt8), false)) (fun a => ∃ m : Nat, a.1 = (m : Int) ∧ a.2.2 = false ∧ a.2.1.length + m ≤ n) (fun a => a.1.toNat) (fun b => b.2 = false ∧ b.1.length ≤ n)
    (fun rec a ha => by
      obtain ⟨x, s, f⟩ := a
      obtain ⟨m, rfl, hf, hl⟩ := ha
      simp only at hf hl
      subst hf
      by_cases d : m = 0
      · left
        subst d
        exact ⟨(s, false), by simp [spec_Dec.l0], rfl, by simpa using hl⟩
      · right
        have d1 : ((m : Int) != 0) = true := by simpa using d
        have e1 : Int.tmod (m : Int) 10 = ((m % 10 : Nat) : Int) := rfl
        have e2 : w64 (Int.tdiv (m : Int) 10) = ((m / 10 : Nat) : Int) := by
          rw [show Int.tdiv (m : Int) 10 = ((m / 10 : Nat) : Int) from rfl]; exact w64_nat (by omega)
        have e3 : decide (((m % 10 : Nat) : Int) < 0) = false := dnn (by omega)
        refine ⟨(((m / 10 : Nat) : Int), strOf [IntKind.wrap .u8 (w64 (48 + ((m % 10 : Nat) : Int)))] ++ s, false), ⟨m / 10, rfl, rfl, ?_⟩, ?_, ?_⟩
        · simp only [List.length_append, strOf, List.length_map, List.length_singleton]; omega
        · simp only [Int.toNat_natCast]; omega
        · have hb : (strOf [IntKind.wrap .u8 (w64 (48 + ((m % 10 : Nat) : Int)))]).length + s.length ≤ 9223372036854775807 := by
            simp only [strOf, List.length_map, List.length_singleton]; omega
          simp only [spec_Dec.l0, d1, cond_true, e1, e2, e3, cond_false, Option.bind_some, hb, decide_true])
    ⟨n, rfl, rfl, by simp⟩ (by simp only [Int.toNat_natCast]; omega)
  obtain ⟨⟨s, f⟩, e, hf, hl⟩ := key
  simp only at hf hl
  subst hf
  simp only [c1, c2, cond_false, e, Option.bind_some]
  exact ⟨_, rfl, by omega⟩

theorem l12AnyPuts_ok {c : CurT} (h : Cur c) : ∃ l c', spec_l12AnyPuts.f c = some (l, c') ∧ l.length ≤ 12 ∧ Cur c' := by
  obtain ⟨l, c1, e1, hl, _, h1⟩ := l12Puts_ok h
  obtain ⟨x, c2, e2, _, _, _, h2⟩ := l1Below_ok h1 14
  unfold spec_l12AnyPuts.f
  simp only [e1, e2, Option.bind_some]
  have hb : ∀ {α : Type} (v : α), (l.length + [v].length) * 40 ≤ 140737488355328 := fun v => lim40 (by omega)
  cases d0 : (x == 0)
  rotate_left
  · obtain ⟨p, c3, e3, _, h3⟩ := l1Pick_ok h2 ([[], [110, 105, 110, 101, 98, 121, 116, 101, 115]] : List (List UInt8)) (by decide)
    simp only [cond_true, e3, Option.bind_some, hb, decide_true]
    exact ⟨_, _, rfl, by simp only [List.length_append, List.length_singleton]; omega, h3⟩
  cases d1 : (x == 1)
  rotate_left
  · simp only [cond_true, cond_false]
    have key := lp_ok (step := spec_l12AnyPuts.l1) (a := (c2, l)) (fun a => Cur a.1 ∧ a.2.length ≤ 9) (fun a => 9 - a.2.length) (fun b => Cur b.1 ∧ b.2.length ≤ 9)
      (fun rec a ha => by
        obtain ⟨c3, l3⟩ := a
        obtain ⟨h3, hl3⟩ := ha
        simp only at h3 hl3
        obtain ⟨y, c4, e4, a4, b4, _, h4⟩ := l1Below_ok h3 2
        have b4 := b4 (by omega)
        obtain ⟨s, e5, hs⟩ := spec_Dec_ok l3.length (by omega)
        have hw : w64 (8 + y) = 8 + y := w64_id (by omega) (by omega)
        by_cases d : (l3.length : Int) < 8 + y
        · right
          have hb1 : ([107] : List UInt8).length + s.length ≤ 9223372036854775807 := by show 1 + s.length ≤ _; omega
          have hb2 : (l3.length + ([([107] ++ s, false, [])] : List PutT).length) * 40 ≤ 140737488355328 := lim40 (by omega)
          refine ⟨(c4, l3 ++ [([107] ++ s, false, [])]), ⟨h4, by simp only [List.length_append, List.length_singleton]; omega⟩, by simp only [List.length_append, List.length_singleton]; omega, ?_⟩
          simp only [spec_l12AnyPuts.l1, e4, Option.bind_some, hw, d, decide_true, cond_true, e5, hb1, hb2]
        · left
          refine ⟨(c4, l3), ?_, h4, hl3⟩
          simp only [spec_l12AnyPuts.l1, e4, Option.bind_some, hw, d, decide_false, cond_false])
      ⟨h2, by simp only; omega⟩ (by simp only; omega)
    obtain ⟨⟨c3, l3⟩, e3, h3, hl3⟩ := key
    simp only [e3, Option.bind_some]
    exact ⟨_, _, rfl, by simp only at hl3; omega, h3⟩
  cases d2 : (x == 2)
  · simp only [cond_false]
    exact ⟨_, _, rfl, by omega, h2⟩
  · simp only [cond_false, cond_true, hb, decide_true]
    exact ⟨_, _, rfl, by simp only [List.length_append, List.length_singleton]; omega, h2⟩

theorem l15Txn_ok {c : CurT} (h : Cur c) : ∃ t c', spec_l15Txn.f c = some (t, c') ∧ TxnOk t ∧ Cur c' := by
  obtain ⟨o, c1, e1, h1⟩ := l1Once_ok h 12
  obtain ⟨n, c2, e2, a2, b2, _, h2⟩ := l1Below_ok h1 8
  have b2 := b2 (by omega)
  obtain ⟨m, rfl⟩ : ∃ m : Nat, n = (m : Int) := ⟨n.toNat, by omega⟩
  have key := down_ok (step := spec_l15Txn.l0) (fun k (s : CurT × TxnT) => (s.1, ((false, [], []) : TxnT), s.2, (k : Int))) (fun k s => Cur s.1 ∧ TxnOk s.2 ∧ k ≤ 8) (fun b => Cur b.1 ∧ TxnOk b.2.2)
    (fun rec s hi => ⟨(s.1, (false, [], []), s.2), by simp [spec_l15Txn.l0], hi.1, hi.2.1⟩)
    (fun rec k s hi => by
      obtain ⟨hi1, hi2, hi3⟩ := hi
      have e0 : ((k + 1 : Nat) : Int) > 0 := by omega
      have hw := down1 (show k < 2 ^ 60 by omega)
      obtain ⟨o, c3, f3, h3⟩ := l1Once_ok hi1 2
      have hr := hi2.reads
      have hwr := hi2.writes
      cases o
      · obtain ⟨l, c4, f4, hl, h4⟩ := l12AnyPuts_ok h3
        have hb : ∀ {α : Type} (v : α), (l.length + [v].length) * 40 ≤ 140737488355328 := fun v => lim40 (by omega)
        have hi0 : inB 0 (l ++ ([([97], false, [118])] : List PutT)).length = true := by simp [inB]
        simp only [spec_l15Txn.l0, e0, decide_true, cond_true, cond_false, f3, f4, Option.bind_some, hb, hi0, pair_eta, spec_TxnWrite_eq s.2 _ (show s.2.2.1.length < 1000000000 by omega) (show s.2.2.2.length < 1000000000 by omega), hw]
        exact ⟨(c4, (txnWrite s.2 _).1), ⟨h4, txnWrite_ok hi2 _, by omega⟩, rfl⟩
      · obtain ⟨ky, c4, f4, _, h4⟩ := l5Key_ok h3
        obtain ⟨y, c5, f5, _, _, _, h5⟩ := l1Below_ok h4 6
        simp only [spec_l15Txn.l0, e0, decide_true, cond_true, f3, f4, f5, Option.bind_some, spec_TxnRead_eq s.2 ky y (show s.2.2.1.length < 1000000000 by omega) (show s.2.2.2.length < 1000000000 by omega), hw]
        exact ⟨(c5, (readS s.2 ky y).1), ⟨h5, readS_ok hi2 _ _, by omega⟩, rfl⟩)
    m (c2, (!o, [], [])) ⟨h2, ⟨List.Pairwise.nil, by simp, by simp, by simp [netW, firsts]⟩, by omega⟩ (by omega)
  obtain ⟨⟨c5, d5, t⟩, e5, h5, ht⟩ := key
  have e5 : lp spec_l15Txn.l0 (c2, (false, [], []), (!o, [], []), (m : Int)) = some (c5, d5, t) := e5
  unfold spec_l15Txn.f
  simp only [e1, e2, Option.bind_some, e5]
  exact ⟨_, _, rfl, ht, h5⟩

theorem DrawNetWrites_ok (l : List Int) (hl : l.length < 2 ^ 60) : ∃ t, spec_DrawNetWrites.f l = some t ∧ TxnOk t := by
  obtain ⟨c, e1, h1⟩ := l1New_ok l hl
  obtain ⟨t, c2, e2, ht, _⟩ := l15Txn_ok h1
  unfold spec_DrawNetWrites.f
  simp only [e1, e2, Option.bind_some]
  exact ⟨_, rfl, ht⟩

theorem big_eq (l : List Int) : laws_big.f l = some (decide ((l.length : Int) > 1048576)) := rfl

def srt {α : Type} (l : List (List UInt8 × α)) : Prop := l.Pairwise (fun a b => Op.bytesLess a.1 b.1 = true)

theorem insB_cons {α : Type} (x : List UInt8 × α) (l : List (List UInt8 × α)) (p : List UInt8 × α) : insB (x :: l) p = if leK x.1 p.1 = true then x :: insB l p else p :: x :: l := by
  cases h : leK x.1 p.1 <;> simp [insB, h]

theorem mem_insB {α : Type} (y p : List UInt8 × α) : ∀ l : List (List UInt8 × α), y ∈ insB l p ↔ y = p ∨ y ∈ l
  | [] => by simp [insB]
  | x :: l => by
    rw [insB_cons]
    split
    · rw [List.mem_cons, mem_insB y p l, List.mem_cons]
      constructor
      · rintro (h | h | h)
        · exact .inr (.inl h)
        · exact .inl h
        · exact .inr (.inr h)
      · rintro (h | h | h)
        · exact .inr (.inl h)
        · exact .inl h
        · exact .inr (.inr h)
    · rw [List.mem_cons]

theorem srt_insB {α : Type} (p : List UInt8 × α) : ∀ l : List (List UInt8 × α), srt l → (∀ x ∈ l, x.1 ≠ p.1) → srt (insB l p)
  | [], _, _ => by simp [insB, srt]
  | x :: l, h, hn => by
    have h := List.pairwise_cons.1 h
    rw [insB_cons]
    split
    · rename_i c
      refine List.Pairwise.cons (fun y hy => ?_) (srt_insB p l h.2 fun y hy => hn y (List.mem_cons_of_mem _ hy))
      rcases (mem_insB y p l).1 hy with e | hy
      · rw [e]
        unfold leK at c
        rcases Bool.or_eq_true _ _ ▸ c with c | c
        · exact c
        · exact absurd (by simpa using c) (hn x List.mem_cons_self)
      · exact h.1 y hy
    · rename_i c
      have c2 : Op.bytesLess p.1 x.1 = true := by
        rw [leK_not] at c
        simpa using c
      refine List.Pairwise.cons (fun y hy => ?_) (List.Pairwise.cons h.1 h.2)
      rcases List.mem_cons.1 hy with e | hy
      · rw [e]; exact c2
      · exact less_trans _ _ _ c2 (h.1 y hy)

theorem srt_dropK {α : Type} {l : List (List UInt8 × α)} (h : srt l) (k : List UInt8) : srt (dropK l k) := h.sublist List.filter_sublist

theorem mem_dropK {α : Type} (l : List (List UInt8 × α)) (k : List UInt8) (y : List UInt8 × α) : y ∈ dropK l k ↔ y ∈ l ∧ y.1 ≠ k := by
  unfold dropK
  rw [List.mem_filter]
  simp

theorem srt_foldStep (b : Int) {l : List PairT} (h : srt l) (p : PutT) : srt (foldStep b l p) := by
  unfold foldStep
  split
  · exact srt_dropK h _
  · exact srt_insB _ _ (srt_dropK h _) fun x hx => ((mem_dropK _ _ _).1 hx).2

theorem srt_foldP (b : Int) : ∀ (puts : List PutT) {l : List PairT}, srt l → srt (foldP l puts b)
  | [], _, h => h
  | p :: puts, _, h => srt_foldP b puts (srt_foldStep b h p)

theorem mem_foldStep (b : Int) (l : List PairT) (p : PutT) (x : PairT) : x ∈ foldStep b l p ↔ if x.1 = p.1 then p.2.1 = false ∧ x.2 = (p.2.2, b) else x ∈ l := by
  unfold foldStep
  obtain ⟨xk, xv, xb⟩ := x
  rcases Bool.eq_false_or_eq_true p.2.1 with c | c
  · rw [if_pos c, mem_dropK]
    by_cases e : xk = p.1
    · rw [if_pos e]; simp [c, e]
    · rw [if_neg e]; simp [e]
  · rw [if_neg (by simp [c]), mem_insB, mem_dropK]
    by_cases e : xk = p.1
    · rw [if_pos e]
      simp [c, e]
    · rw [if_neg e]
      simp [e]

theorem lastOf_snoc (l : List PutT) (p : PutT) (k : List UInt8) : lastOf (l ++ [p]) k = if p.1 = k then some p else lastOf l k := by
  unfold lastOf
  rw [List.reverse_append]
  show List.find? _ (p :: l.reverse) = _
  rw [List.find?_cons]
  by_cases c : p.1 = k
  · simp [c]
  · have : (p.1 == k) = false := by simpa using c
    simp [c, this]

theorem foldP_snoc (l : List PairT) (puts : List PutT) (p : PutT) (b : Int) : foldP l (puts ++ [p]) b = foldStep b (foldP l puts b) p := by
  unfold foldP; rw [List.foldl_append]; rfl

theorem mem_foldP (b : Int) (l : List PairT) (x : PairT) (puts : List PutT) : x ∈ foldP l puts b ↔ match lastOf puts x.1 with | some p => p.2.1 = false ∧ x.2 = (p.2.2, b) | none => x ∈ l := by
  induction puts using snoc_ind with
  | h0 => exact Iff.rfl
  | hs puts p ih =>
    rw [foldP_snoc, mem_foldStep, lastOf_snoc]
    by_cases c : p.1 = x.1
    · rw [if_pos c, if_pos c.symm]
    · rw [if_neg c, if_neg (fun e => c e.symm)]; exact ih

theorem srt_ext {α : Type} : ∀ {a b : List (List UInt8 × α)}, srt a → srt b → (∀ x, x ∈ a ↔ x ∈ b) → a = b
  | [], [], _, _, _ => rfl
  | [], y :: b, _, _, h => by have := (h y).2 List.mem_cons_self; simp at this
  | x :: a, [], _, _, h => by have := (h x).1 List.mem_cons_self; simp at this
  | x :: a, y :: b, ha, hb, h => by
    have ha := List.pairwise_cons.1 ha
    have hb := List.pairwise_cons.1 hb
    have e : x = y := by
      rcases List.mem_cons.1 ((h x).1 List.mem_cons_self) with e | h1
      · exact e
      · rcases List.mem_cons.1 ((h y).2 List.mem_cons_self) with e | h2
        · exact e.symm
        · have l1 := hb.1 x h1
          have l2 := ha.1 y h2
          rw [less_asymm _ _ l1] at l2; simp at l2
    subst e
    congr 1
    refine srt_ext ha.2 hb.2 fun z => ?_
    have hz := h z
    rw [List.mem_cons, List.mem_cons] at hz
    constructor
    · intro hm
      rcases hz.1 (.inr hm) with e | h1
      · subst e; have := ha.1 z hm; rw [less_irrefl] at this; simp at this
      · exact h1
    · intro hm
      rcases hz.2 (.inr hm) with e | h1
      · subst e; have := hb.1 z hm; rw [less_irrefl] at this; simp at this
      · exact h1

theorem foldP_congr (b : Int) {l : List PairT} (hl : srt l) (p q : List PutT) (h : ∀ k, lastOf p k = lastOf q k) : foldP l p b = foldP l q b :=
  srt_ext (srt_foldP b p hl) (srt_foldP b q hl) fun x => by rw [mem_foldP, mem_foldP, h]

theorem lastOf_some {l : List PutT} {k : List UInt8} {p : PutT} (h : lastOf l k = some p) : p ∈ l ∧ p.1 = k := by
  unfold lastOf at h
  exact ⟨by simpa using List.mem_of_find?_eq_some h, by simpa using List.find?_some h⟩

theorem lastOf_none {l : List PutT} {k : List UInt8} (h : lastOf l k = none) : ∀ p ∈ l, p.1 ≠ k := by
  unfold lastOf at h
  intro p hp
  have := List.find?_eq_none.1 h p (by simpa using hp)
  simpa using this

theorem ownW_of {l : List PutT} {k : List UInt8} {p : PutT} (h : lastOf l k = some p) : ownW l k = (p, true) := by unfold ownW; rw [h]

theorem mem_netW {l : List PutT} {q : PutT} : q ∈ netW l ↔ lastOf l q.1 = some q := by
  unfold netW
  rw [List.mem_map]
  constructor
  · rintro ⟨k, hk, rfl⟩
    have hk2 := ownW_key l k hk
    rw [hk2.1]
    unfold ownW at hk2 ⊢
    cases e : lastOf l k with
    | none => rw [e] at hk2; simp at hk2
    | some p => rfl
  · intro h
    refine ⟨q.1, (firsts_mem l q.1).2 ⟨q, (lastOf_some h).1, rfl⟩, ?_⟩
    rw [ownW_of h]

theorem lastOf_netW (l : List PutT) (k : List UInt8) : lastOf (netW l) k = lastOf l k := by
  cases e : lastOf l k with
  | none =>
    cases e2 : lastOf (netW l) k with
    | none => rfl
    | some q =>
      have ⟨h1, h2⟩ := lastOf_some e2
      have := (lastOf_some (mem_netW.1 h1)).1
      exact absurd h2 (lastOf_none e q this)
  | some p =>
    have ⟨h1, h2⟩ := lastOf_some e
    have hp : p ∈ netW l := mem_netW.2 (by rw [h2]; exact e)
    cases e2 : lastOf (netW l) k with
    | none => exact absurd h2 (lastOf_none e2 p hp)
    | some q =>
      have ⟨g1, g2⟩ := lastOf_some e2
      have := mem_netW.1 g1
      rw [g2, e] at this
      exact this.symm

theorem netW_keys (l : List PutT) : (netW l).Pairwise (fun a b => a.1 ≠ b.1) := by
  have h : ((netW l).map (·.1)).Nodup := by
    unfold netW
    rw [List.map_map]
    have : (firsts l).map ((fun (x : PutT) => x.1) ∘ fun k => (ownW l k).1) = firsts l := by
      conv => rhs; rw [← List.map_id (firsts l)]
      exact List.map_congr_left fun k hk => (ownW_key l k hk).1
    rw [this]
    exact firsts_nodup l
  exact List.pairwise_map.1 h

theorem foldP_net (b : Int) {l : List PairT} (hl : srt l) (p : List PutT) : foldP l (netW p) b = foldP l p b :=
  foldP_congr b hl _ _ fun k => lastOf_netW p k

theorem Nets_l2 (t : TxnT) (w : List PutT) (x5 x6 : List PairT) (i : Nat) (hi : i < w.length) (hw : w.Pairwise (fun a b => a.1 ≠ b.1)) (hl : w.length < 1000000000) :
    lp laws_FnNets.l2 (t, w, x5, x6, (i : Int), 0) = some (.inl (t, w, x5, x6, (i : Int))) := by
  have := lp_up (step := laws_FnNets.l2) (fun n (_ : Unit) => (t, w, x5, x6, (i : Int), (n : Int))) i (fun _ _ => .inl (t, w, x5, x6, (i : Int))) (fun _ _ => True)
    (fun rec n s hn _ ih => by
      rcases Nat.lt_or_ge n i with h | h
      · have hn2 : n < w.length := by omega
        have hne : (w[n].1 == w[i].1) = false := by
          have := List.pairwise_iff_getElem.1 hw n i hn2 hi h
          simpa using this
        simp only [laws_FnNets.l2, Int.ofNat_lt, h, decide_true, cond_true, inB_nat, hn2, hi, rdA_nat, getD_lt hn2, getD_lt hi, hne, cond_false, w64_succ (show n + 1 < 9223372036854775808 by omega), ih () h trivial]
      · have : n = i := by omega
        subst this
        simp [laws_FnNets.l2])
    (by omega) 0 () (Nat.zero_le _) trivial
  exact this

theorem put_beq (a : PutT) : (a.1 == a.1 && (a.2.1 == a.2.1 && (a.2.2 == a.2.2))) = true := by simp

theorem FnNets_true (x0 : List Int) (w0 : wfD (.sl false (.int .u8)) x0) : laws_FnNets.f x0 = some true := by
  unfold laws_FnNets.f
  rw [big_eq, Option.bind_some]
  by_cases cb : (x0.length : Int) > 1048576
  · simp [cb]
  simp only [cb, decide_false, cond_false]
  obtain ⟨t, e, ht⟩ := DrawNetWrites_ok x0 (by omega)
  have hwr := ht.writes
  have hnet := ht.net
  have hlen : (netW t.2.2).length ≤ t.2.2.length := netW_len _
  have hf := foldP_net 3 (l := []) (by simp [srt]) t.2.2
  simp only [e, Option.bind_some, impl_NetWrites_eq t (by omega), impl_Fold_eq [] t.2.2 3 (by simp; omega), impl_Fold_eq [] (netW t.2.2) 3 (by simp; omega), hf]
  have hfl := foldP_len 3 t.2.2 []
  have key := lp_up (step := laws_FnNets.l0) (fun n (_ : Unit) => (t, netW t.2.2, foldP [] t.2.2 3, foldP [] t.2.2 3, (n : Int))) (netW t.2.2).length (fun _ _ => .inl (t, netW t.2.2, foldP [] t.2.2 3, foldP [] t.2.2 3)) (fun _ _ => True)
    (fun rec n s hn _ ih => by
      rcases Nat.lt_or_ge n (netW t.2.2).length with h | h
      · have ho : ownW t.2.2 (netW t.2.2)[n].1 = ((netW t.2.2)[n], true) := ownW_of (mem_netW.1 (List.getElem_mem h))
        simp only [laws_FnNets.l0, Int.ofNat_lt, h, decide_true, cond_true, inB_nat, rdA_nat, getD_lt h, impl_OwnWrite_eq t _ (show t.2.2.length < 2 ^ 62 by omega), ho, Option.bind_some, Bool.not_true, cond_false, put_beq, Nets_l2 t _ _ _ n h (netW_keys _) (show (netW t.2.2).length < 1000000000 by omega), caseS_l, w64_succ (show n + 1 < 9223372036854775808 by omega), ih () h trivial]
      · have : n = (netW t.2.2).length := by omega
        subst this
        simp [laws_FnNets.l0])
    (by omega) 0 () (Nat.zero_le _) trivial
  have key : lp laws_FnNets.l0 (t, netW t.2.2, foldP [] t.2.2 3, foldP [] t.2.2 3, 0) = _ := key
  have h8 : ((netW t.2.2).length : Int) ≤ 8 := by omega
  simp only [List.length_nil] at hfl
  simp only [key, Option.bind_some, caseS_l, spec_SamePairs_eq (foldP [] t.2.2 3) (foldP [] t.2.2 3) (by omega), decide_true, cond_true, spec_Fold_eq [] t.2.2 3 (by simp; omega), spec_NetWrites_eq t (by omega), beq_self_eq_true, h8]

end Go.Rf.G
