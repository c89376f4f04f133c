/- Plain laws: what the plain functions answer. -/
import Derived.Test.YtljiidpfgfkhcabRf5
import Derived.Test.YtljiidpfgfkhcabLDiskFns
namespace Go.Rf.G
open Go Go.Rf
set_option linter.unusedVariables false
set_option linter.unusedSimpArgs false
set_option synthInstance.maxSize 4000

theorem loopF_eq {A B : Type} {step : (A → Option B) → A → Option B} {F : A → B} {P : A → Prop} {m : A → Nat}
    (h : ∀ rec a, P a → (∀ a', P a' → m a' < m a → rec a' = some (F a')) → step rec a = some (F a)) : ∀ n a, P a → m a < n → loopF step n a = some (F a)
  | 0, _, _, hn => by omega
  | n + 1, a, hp, hn => h (loopF step n) a hp fun a' hp' hlt => loopF_eq h n a' hp' (by omega)

/-- A loop, by its meaning. -/
theorem lp_eq {A B : Type} {step : (A → Option B) → A → Option B} (F : A → B) (P : A → Prop) (m : A → Nat)
    (h : ∀ rec a, P a → (∀ a', P a' → m a' < m a → rec a' = some (F a')) → step rec a = some (F a)) {a : A} (hp : P a) (hm : m a < 2 ^ 62) : lp step a = some (F a) :=
  loopF_eq h FUEL a hp (Nat.lt_of_lt_of_le hm fuel_le)

/-- A loop that counts up to N. -/
theorem lp_up {A B σ : Type} {step : (A → Option B) → A → Option B} (st : Nat → σ → A) (N : Nat) (F : Nat → σ → B) (Inv : Nat → σ → Prop)
    (h : ∀ rec n s, n ≤ N → Inv n s → (∀ s', n < N → Inv (n + 1) s' → rec (st (n + 1) s') = some (F (n + 1) s')) → step rec (st n s) = some (F n s))
    (hN : N < 2 ^ 62) : ∀ n s, n ≤ N → Inv n s → lp step (st n s) = some (F n s) := by
  have key : ∀ k f n s, n ≤ N → Inv n s → N - n = k → k < f → loopF step f (st n s) = some (F n s) := by
    intro k
    induction k with
    | zero =>
      intro f n s hn hi hk hf
      obtain ⟨f, rfl⟩ : ∃ g, f = g + 1 := ⟨f - 1, by omega⟩
      exact h _ n s hn hi fun s' hlt => by omega
    | succ k ih =>
      intro f n s hn hi hk hf
      obtain ⟨f, rfl⟩ : ∃ g, f = g + 1 := ⟨f - 1, by omega⟩
      exact h _ n s hn hi fun s' hlt hi' => ih f (n + 1) s' hlt hi' (by omega) (by omega)
  intro n s hn hi
  exact key (N - n) FUEL n s hn hi rfl (Nat.lt_of_lt_of_le (by omega) fuel_le)

@[simp] theorem inB_nat (n m : Nat) : inB (n : Int) m = decide (n < m) := by
  unfold inB
  by_cases h : n < m <;> simp [h, Int.natCast_nonneg]

@[simp] theorem rdA_nat {α : Type} (z : α) (xs : List α) (n : Nat) : rdA z xs (n : Int) = xs.getD n z := rfl

theorem w64_id {n : Int} (h1 : -9223372036854775808 ≤ n) (h2 : n < 9223372036854775808) : w64 n = n := by
  unfold w64 IntKind.wrap
  simp only [IntKind.bits, IntKind.signed]
  by_cases h : n % 2 ^ 64 ≥ 2 ^ 63 <;> simp [h] <;> omega

theorem w64_nat {n : Nat} (h : n < 9223372036854775808) : w64 (n : Int) = n := w64_id (by omega) (by omega)

theorem w64_succ {n : Nat} (h : n + 1 < 9223372036854775808) : w64 ((n : Int) + 1) = ((n + 1 : Nat) : Int) := by
  rw [w64_id (by omega) (by omega)]; omega

theorem getD_lt {α : Type} {xs : List α} {z : α} {n : Nat} (h : n < xs.length) : xs.getD n z = xs[n] := by simp [List.getD, h]

def sumN {α : Type} (f : α → Nat) : List α → Nat
  | [] => 0
  | x :: r => f x + sumN f r

theorem sumN_drop {α : Type} (f : α → Nat) {l : List α} {n : Nat} (h : n < l.length) : sumN f (l.drop n) = f l[n] + sumN f (l.drop (n + 1)) := by
  rw [List.drop_eq_getElem_cons h]; rfl

theorem sumN_mem {α : Type} (f : α → Nat) : ∀ {l : List α} {x : α}, x ∈ l → f x ≤ sumN f l
  | y :: l, x, h => by
    rcases List.mem_cons.1 h with k | k
    · subst k; exact Nat.le_add_right _ _
    · exact Nat.le_trans (sumN_mem f k) (Nat.le_add_left _ _)

def markL {X : Type} (mk : Int → X → X) (c : Nat) : List X → Int → List X
  | [], _ => []
  | x :: r, k => mk k x :: markL mk c r (k + c)

@[simp] theorem markL_len {X : Type} (mk : Int → X → X) (c : Nat) : ∀ (l : List X) (k : Int), (markL mk c l k).length = l.length
  | [], _ => rfl
  | x :: r, k => by simp [markL, markL_len mk c r]

theorem all_loop {X A B : Type} {step : (A → Option (B ⊕ Bool)) → A → Option (B ⊕ Bool)} (l : List X) (f : X → Bool) (st : Nat → A) (b : B) (hl : l.length < 2 ^ 62)
    (hs : ∀ rec n, (h : n < l.length) → step rec (st n) = if f l[n] = true then rec (st (n + 1)) else some (.inr false))
    (he : ∀ rec, step rec (st l.length) = some (.inl b)) : lp step (st 0) = some (if l.all f = true then .inl b else .inr false) := by
  have := lp_up (step := step) (fun n (_ : Unit) => st n) l.length (fun n _ => if (l.drop n).all f = true then .inl b else .inr false) (fun _ _ => True)
    (fun rec n s hn _ ih => by
      rcases Nat.lt_or_ge n l.length with h | h
      · rw [hs rec n h, ih () h trivial, List.drop_eq_getElem_cons h, List.all_cons]
        cases f l[n] <;> simp
      · have : n = l.length := by omega
        subst this
        rw [he]; simp) hl 0 () (Nat.zero_le _) trivial
  simpa using this

theorem fold_loop {X A B S : Type} {step : (A → Option B) → A → Option B} (l : List X) (g : S → X → S) (st : Nat → S → A) (out : S → B) (Inv : Nat → S → Prop) (hl : l.length < 2 ^ 62)
    (hs : ∀ rec n s, (h : n < l.length) → Inv n s → step rec (st n s) = rec (st (n + 1) (g s l[n])))
    (hi : ∀ n s, (h : n < l.length) → Inv n s → Inv (n + 1) (g s l[n]))
    (he : ∀ rec s, Inv l.length s → step rec (st l.length s) = some (out s)) (s : S) (h0 : Inv 0 s) : lp step (st 0 s) = some (out (l.foldl g s)) := by
  have := lp_up (step := step) st l.length (fun n s => out ((l.drop n).foldl g s)) Inv
    (fun rec n s hn hv ih => by
      rcases Nat.lt_or_ge n l.length with h | h
      · rw [hs rec n s h hv, ih _ h (hi n s h hv), List.drop_eq_getElem_cons h]; rfl
      · have : n = l.length := by omega
        subst this
        rw [he rec s hv]; simp) hl 0 s (Nat.zero_le _) h0
  simpa using this

@[simp] theorem caseS_l {A B C : Type} (a : A) (f : A → C) (g : B → C) : caseS (.inl a) f g = f a := rfl

@[simp] theorem caseS_r {A B C : Type} (b : B) (f : A → C) (g : B → C) : caseS (.inr b) f g = g b := rfl

theorem pair_eta {A B : Type} (p : A × B) : (p.1, p.2) = p := rfl

theorem rdA_set {α : Type} {z : α} {r : List α} {n : Nat} {v : α} (h : n < r.length) : rdA z (r.set n v) (n : Int) = v := by simp [List.getD, h]

theorem impl_in_eq (n a b : Int) : impl_in.f n a b = some (decide (a ≤ n ∧ n ≤ b)) := by
  unfold impl_in.f
  by_cases h : a ≤ n
  · have h2 : n ≥ a := h
    simp [h, h2]
  · have h2 : ¬ n ≥ a := h
    simp [h, h2]

theorem spec_l1In_eq (n a b : Int) : spec_l1In.f n a b = some (decide (a ≤ n ∧ n ≤ b)) := impl_in_eq n a b

theorem lim40 {a : Nat} (h : a < 1000000000001) : (a + 1) * 40 ≤ 140737488355328 := by omega

def leK (a b : List UInt8) : Bool := Op.bytesLess a b || a == b

/-- One ahead of the first of a greater key. -/
def insB {α : Type} (l : List (List UInt8 × α)) (p : List UInt8 × α) : List (List UInt8 × α) :=
  let k := (l.takeWhile fun x => leK x.1 p.1).length
  l.take k ++ [p] ++ l.drop k

theorem insB_len {α : Type} (l : List (List UInt8 × α)) (p : List UInt8 × α) : (insB l p).length = l.length + 1 := by
  have : (l.takeWhile fun x => leK x.1 p.1).length ≤ l.length := (List.takeWhile_sublist _).length_le
  simp only [insB, List.length_append, List.length_take, List.length_drop, List.length_cons, List.length_nil]; omega

theorem takeWhile_drop {α : Type} (f : α → Bool) (l : List α) (n : Nat) (h : n < l.length) : ((l.drop n).takeWhile f).length = if f l[n] = true then ((l.drop (n + 1)).takeWhile f).length + 1 else 0 := by
  rw [List.drop_eq_getElem_cons h, List.takeWhile_cons]
  split <;> simp

theorem dnn {k : Int} (h : 0 ≤ k) : decide (k < 0) = false := by
  have : ¬ k < 0 := by omega
  simp [this]

theorem less_irrefl : ∀ a : List UInt8, Op.bytesLess a a = false
  | [] => rfl
  | x :: a => by simp [Op.bytesLess, less_irrefl a]

theorem u8_lt {a b : UInt8} : a < b ↔ a.toNat < b.toNat := UInt8.lt_iff_toNat_lt

theorem u8_eq {a b : UInt8} (h : a.toNat = b.toNat) : a = b := UInt8.toNat.inj h

theorem less_trans : ∀ a b c : List UInt8, Op.bytesLess a b = true → Op.bytesLess b c = true → Op.bytesLess a c = true
  | _, [], _, h, _ => by simp [Op.bytesLess] at h
  | _, _ :: _, [], _, h => by simp [Op.bytesLess] at h
  | [], _ :: _, _ :: _, _, _ => rfl
  | x :: a, y :: b, z :: c, h1, h2 => by
    simp only [Op.bytesLess, Bool.or_eq_true, decide_eq_true_eq, Bool.and_eq_true, beq_iff_eq] at h1 h2 ⊢
    rcases h1 with h1 | ⟨h1, k1⟩
    · rcases h2 with h2 | ⟨h2, k2⟩
      · left; rw [u8_lt] at *; omega
      · left; rw [← h2]; exact h1
    · rcases h2 with h2 | ⟨h2, k2⟩
      · left; rw [h1]; exact h2
      · exact .inr ⟨h1.trans h2, less_trans a b c k1 k2⟩

theorem less_total : ∀ a b : List UInt8, Op.bytesLess a b = false → a ≠ b → Op.bytesLess b a = true
  | [], [], _, h => absurd rfl h
  | [], _ :: _, h, _ => by simp [Op.bytesLess] at h
  | _ :: _, [], _, _ => rfl
  | x :: a, y :: b, h1, h2 => by
    simp only [Op.bytesLess, Bool.or_eq_false_iff, decide_eq_false_iff_not, Bool.and_eq_false_iff] at h1
    simp only [Op.bytesLess, Bool.or_eq_true, decide_eq_true_eq, Bool.and_eq_true, beq_iff_eq]
    by_cases e : x = y
    · subst e
      right
      refine ⟨rfl, less_total a b ?_ fun e => h2 (by rw [e])⟩
      rcases h1.2 with k | k
      · simp at k
      · exact k
    · left
      rw [u8_lt] at *
      have := h1.1
      have hne : x.toNat ≠ y.toNat := fun k => e (u8_eq k)
      omega

theorem less_asymm (a b : List UInt8) (h : Op.bytesLess a b = true) : Op.bytesLess b a = false := by
  cases hb : Op.bytesLess b a with
  | false => rfl
  | true => have := less_trans a b a h hb; rw [less_irrefl] at this; simp at this

theorem less_ne {a b : List UInt8} (h : Op.bytesLess a b = true) : a ≠ b := fun e => by rw [e, less_irrefl] at h; simp at h

theorem leK_not (a b : List UInt8) : leK a b = !Op.bytesLess b a := by
  unfold leK
  cases h : Op.bytesLess a b with
  | true => rw [less_asymm a b h]; rfl
  | false =>
    by_cases e : a = b
    · subst e; simp [h]
    · rw [less_total a b h e]
      have : (a == b) = false := by simpa using e
      simp [this]

def nameB (b : UInt8) : Bool := (decide (97 ≤ b.toNat) && decide (b.toNat ≤ 122)) || (decide (48 ≤ b.toNat) && decide (b.toNat ≤ 57))

def nameOk (s : List UInt8) : Bool := s.all nameB && decide (1 ≤ s.length ∧ s.length ≤ 12)

theorem bAt_nat (s : List UInt8) (n : Nat) (h : n < s.length) : bAt s (n : Int) = (s[n].toNat : Int) := by
  unfold bAt
  rw [Int.toNat_natCast, getD_lt h]

theorem dec_ge {a : Nat} {k : Nat} : decide ((a : Int) ≥ (k : Int)) = decide (k ≤ a) := decide_eq_decide.2 (by omega)

theorem dec_le {a : Nat} {k : Nat} : decide ((a : Int) ≤ (k : Int)) = decide (a ≤ k) := decide_eq_decide.2 (by omega)

theorem impl_NameOk_eq (s : List UInt8) (hl : s.length < 2 ^ 62) : impl_NameOk.f s = some (nameOk s) := by
  have key := all_loop (step := impl_NameOk.l0) s nameB (fun n => (s, (n : Int))) s hl
    (fun rec n h => by
      have hw : w64 ((n : Int) + 1) = ((n + 1 : Nat) : Int) := w64_succ (by omega)
      have e1 : decide ((s[n].toNat : Int) ≥ 97) = decide (97 ≤ s[n].toNat) := dec_ge (k := 97)
      have e2 : decide ((s[n].toNat : Int) ≤ 122) = decide (s[n].toNat ≤ 122) := dec_le (k := 122)
      have e3 : decide ((s[n].toNat : Int) ≥ 48) = decide (48 ≤ s[n].toNat) := dec_ge (k := 48)
      have e4 : decide ((s[n].toNat : Int) ≤ 57) = decide (s[n].toNat ≤ 57) := dec_le (k := 57)
      simp only [impl_NameOk.l0, Int.ofNat_lt, h, decide_true, cond_true, inB_nat, bAt_nat s n h, e1, e2, e3, e4]
      unfold nameB
      cases decide (97 ≤ s[n].toNat) <;> cases decide (s[n].toNat ≤ 122) <;> cases decide (48 ≤ s[n].toNat) <;> cases decide (s[n].toNat ≤ 57) <;> simp [hw])
    (fun rec => by simp [impl_NameOk.l0])
  have key : lp impl_NameOk.l0 (s, 0) = _ := key
  unfold impl_NameOk.f nameOk
  rw [key, Option.bind_some]
  have e : decide ((1 : Int) ≤ (s.length : Int) ∧ (s.length : Int) ≤ 12) = decide (1 ≤ s.length ∧ s.length ≤ 12) := decide_eq_decide.2 (by omega)
  cases h : s.all nameB
  · simp
  · simp only [if_true, caseS_l, impl_in_eq, Option.bind_some, e, Bool.true_and]

theorem spec_NameOk_eq (s : List UInt8) (hl : s.length < 2 ^ 62) : spec_NameOk.f s = some (nameOk s) := by
  have key := all_loop (step := spec_NameOk.l0) s nameB (fun n => (s, (n : Int))) s hl
    (fun rec n h => by
      have hw : w64 ((n : Int) + 1) = ((n + 1 : Nat) : Int) := w64_succ (by omega)
      have e1 : decide ((s[n].toNat : Int) ≥ 97) = decide (97 ≤ s[n].toNat) := dec_ge (k := 97)
      have e2 : decide ((s[n].toNat : Int) ≤ 122) = decide (s[n].toNat ≤ 122) := dec_le (k := 122)
      have e3 : decide ((s[n].toNat : Int) ≥ 48) = decide (48 ≤ s[n].toNat) := dec_ge (k := 48)
      have e4 : decide ((s[n].toNat : Int) ≤ 57) = decide (s[n].toNat ≤ 57) := dec_le (k := 57)
      simp only [spec_NameOk.l0, Int.ofNat_lt, h, decide_true, cond_true, inB_nat, bAt_nat s n h, e1, e2, e3, e4]
      unfold nameB
      cases decide (97 ≤ s[n].toNat) <;> cases decide (s[n].toNat ≤ 122) <;> cases decide (48 ≤ s[n].toNat) <;> cases decide (s[n].toNat ≤ 57) <;> simp [hw])
    (fun rec => by simp [spec_NameOk.l0])
  have key : lp spec_NameOk.l0 (s, 0) = _ := key
  unfold spec_NameOk.f nameOk
  rw [key, Option.bind_some]
  have e : decide ((1 : Int) ≤ (s.length : Int) ∧ (s.length : Int) ≤ 12) = decide (1 ≤ s.length ∧ s.length ≤ 12) := decide_eq_decide.2 (by omega)
  cases h : s.all nameB
  · simp
  · simp only [if_true, caseS_l, spec_l1In_eq, Option.bind_some, e, Bool.true_and]

abbrev FileT := List UInt8 × List UInt8 × Int

abbrev DiskT := List FileT × Int × Int × Bool

def usedN (l : List FileT) : Nat := sumN (fun f => f.2.1.length) l

def fileOk (f : FileT) : Bool := nameOk f.1 && decide (0 ≤ f.2.2 ∧ f.2.2 ≤ (f.2.1.length : Int))

/-- Do the names rise, from a name on? -/
def riseF : Option (List UInt8) → List FileT → Bool
  | _, [] => true
  | none, f :: r => riseF (some f.1) r
  | some p, f :: r => Op.bytesLess p f.1 && riseF (some f.1) r

def filesOk (l : List FileT) : Bool := l.all fileOk && riseF none l

def diskOk (d : DiskT) : Bool := decide (d.1.length ≤ 130) && (decide (0 ≤ d.2.1 ∧ d.2.1 ≤ 100000) && (decide (-1 ≤ d.2.2.1 ∧ d.2.2.1 ≤ 100000) && (decide ((usedN d.1 : Int) ≤ d.2.1) && filesOk d.1)))

def before (l : List FileT) : Nat → Option (List UInt8)
  | 0 => none
  | n + 1 => some (l.getD n ([], [], 0)).1

/-- One file after the other: each right, and behind the one before. -/
def okFrom (p : Option (List UInt8)) (l : List FileT) : Bool := l.all fileOk && riseF p l

def follows (p : Option (List UInt8)) (f : FileT) : Bool := match p with | none => true | some q => Op.bytesLess q f.1

theorem okFrom_cons (p : Option (List UInt8)) (f : FileT) (l : List FileT) : okFrom p (f :: l) = (fileOk f && follows p f && okFrom (some f.1) l) := by
  unfold okFrom follows
  cases p <;> simp only [List.all_cons, riseF] <;> cases fileOk f <;> simp [Bool.and_comm, Bool.and_assoc, Bool.and_left_comm]

theorem spec_l3Used_eq (d : DiskT) (hl : d.1.length < 2 ^ 62) (hu : usedN d.1 < 2 ^ 62) : spec_l3Used.f d = some (usedN d.1 : Int) := by
  have key := lp_up (step := spec_l3Used.l0) (fun n (s : Int) => (d, s, (n : Int))) d.1.length (fun n s => s + (usedN (d.1.drop n) : Int)) (fun n s => 0 ≤ s ∧ s + (usedN (d.1.drop n) : Int) < 2 ^ 62)
    (fun rec n s hn hi ih => by
      rcases Nat.lt_or_ge n d.1.length with h | h
      · have e : usedN (d.1.drop n) = d.1[n].2.1.length + usedN (d.1.drop (n + 1)) := sumN_drop _ h
        have h2 := hi.2
        have h1 := hi.1
        rw [e] at h2
        simp only [spec_l3Used.l0, Int.ofNat_lt, h, decide_true, cond_true, inB_nat, rdA_nat, getD_lt h, w64_succ (show n + 1 < 9223372036854775808 by omega)]
        rw [w64_id (by omega) (by omega), ih _ h ⟨by omega, by omega⟩, e]
        congr 1; omega
      · have : n = d.1.length := by omega
        subst this
        simp [spec_l3Used.l0, usedN, sumN])
    hl 0 0 (Nat.zero_le _) ⟨by omega, by simp only [List.drop_zero]; omega⟩
  have key : lp spec_l3Used.l0 (d, 0, 0) = _ := key
  unfold spec_l3Used.f
  rw [key]; simp

theorem impl_used_eq (d : DiskT) (hl : d.1.length < 2 ^ 62) (hu : usedN d.1 < 2 ^ 62) : impl_used.f d = some (usedN d.1 : Int) := by
  have key := lp_up (step := impl_used.l0) (fun n (s : Int) => (s, d.1, (d.1.length : Int), (n : Int))) d.1.length (fun n s => s + (usedN (d.1.drop n) : Int)) (fun n s => 0 ≤ s ∧ s + (usedN (d.1.drop n) : Int) < 2 ^ 62)
    (fun rec n s hn hi ih => by
      rcases Nat.lt_or_ge n d.1.length with h | h
      · have e : usedN (d.1.drop n) = d.1[n].2.1.length + usedN (d.1.drop (n + 1)) := sumN_drop _ h
        have h2 := hi.2
        have h1 := hi.1
        rw [e] at h2
        simp only [impl_used.l0, Int.ofNat_lt, h, decide_true, cond_true, inB_nat, rdA_nat, getD_lt h, w64_succ (show n + 1 < 9223372036854775808 by omega)]
        rw [w64_id (by omega) (by omega), ih _ h ⟨by omega, by omega⟩, e]
        congr 1; omega
      · have : n = d.1.length := by omega
        subst this
        simp [impl_used.l0, usedN, sumN])
    hl 0 0 (Nat.zero_le _) ⟨by omega, by simp only [List.drop_zero]; omega⟩
  have key : lp impl_used.l0 (0, d.1, (d.1.length : Int), 0) = _ := key
  unfold impl_used.f
  rw [key]; simp

theorem before_succ (l : List FileT) (n : Nat) (h : n < l.length) : before l (n + 1) = some l[n].1 := by
  show some (l.getD n ([], [], 0)).1 = _
  rw [getD_lt h]

theorem nameOk_len {f : List UInt8} (h : nameOk f = true) : f.length ≤ 12 := by
  unfold nameOk at h
  simp only [Bool.and_eq_true, decide_eq_true_eq] at h
  exact h.2.2

theorem impl_DiskOk_l0 (d : DiskT) (hl : d.1.length < 2 ^ 62) (hu : usedN d.1 < 2 ^ 62) (hn : ∀ f ∈ d.1, f.1.length < 2 ^ 62) : lp impl_DiskOk.l0 (d, 0, d.1, (d.1.length : Int), 0) = some (if filesOk d.1 = true then .inl (d, (usedN d.1 : Int)) else .inr false) := by
  have key := lp_up (step := impl_DiskOk.l0) (fun n (s : Int) => (d, s, d.1, (d.1.length : Int), (n : Int))) d.1.length (fun n s => if okFrom (before d.1 n) (d.1.drop n) = true then .inl (d, s + (usedN (d.1.drop n) : Int)) else .inr false) (fun n s => 0 ≤ s ∧ s + (usedN (d.1.drop n) : Int) < 2 ^ 62)
    (fun rec n s hn' hi ih => by
      rcases Nat.lt_or_ge n d.1.length with h | h
      · have e : usedN (d.1.drop n) = d.1[n].2.1.length + usedN (d.1.drop (n + 1)) := sumN_drop _ h
        have h2 := hi.2
        have h1 := hi.1
        rw [e] at h2
        have hw : w64 ((n : Int) + 1) = ((n + 1 : Nat) : Int) := w64_succ (by omega)
        have hw2 : w64 (s + (d.1[n].2.1.length : Int)) = s + (d.1[n].2.1.length : Int) := w64_id (by omega) (by omega)
        have ih2 := ih (s + (d.1[n].2.1.length : Int)) h ⟨by omega, by omega⟩
        have ea : s + (d.1[n].2.1.length : Int) + (usedN (d.1.drop (n + 1)) : Int) = s + ((d.1[n].2.1.length + usedN (d.1.drop (n + 1)) : Nat) : Int) := by omega
        rw [before_succ d.1 n h, ea] at ih2
        have hnm := hn d.1[n] (List.getElem_mem h)
        rw [List.drop_eq_getElem_cons h, okFrom_cons, ← List.drop_eq_getElem_cons h, e]
        simp only [impl_DiskOk.l0, Int.ofNat_lt, h, decide_true, cond_true, inB_nat, rdA_nat, getD_lt h, impl_NameOk_eq _ hnm, Option.bind_some, impl_in_eq]
        unfold fileOk
        rcases Bool.eq_false_or_eq_true (nameOk d.1[n].1) with k1 | k1
        rotate_left
        · simp [k1]
        rcases Bool.eq_false_or_eq_true (decide (0 ≤ d.1[n].2.2 ∧ d.1[n].2.2 ≤ (d.1[n].2.1.length : Int))) with k2 | k2
        rotate_left
        · simp only [k1, k2, Bool.not_true, Bool.not_false, cond_false, cond_true, Option.bind_some, caseS_r]; simp
        simp only [k1, k2, Bool.not_true, cond_false, Bool.true_and]
        cases n with
        | zero =>
          have z : ¬ ((0 : Nat) : Int) > 0 := by omega
          simp only [z, decide_false, cond_false, Option.bind_some, caseS_l, hw2, hw, ih2, before, follows, Bool.true_and]
        | succ m =>
          have z : ((m + 1 : Nat) : Int) > 0 := by omega
          have hm : m < d.1.length := by omega
          have z2 : w64 (((m + 1 : Nat) : Int) - 1) = (m : Int) := by rw [w64_id (by omega) (by omega)]; omega
          rw [before_succ d.1 m hm]
          simp only [z, decide_true, cond_true, z2, inB_nat, hm, rdA_nat, getD_lt hm, follows]
          rcases Bool.eq_false_or_eq_true (Op.bytesLess d.1[m].1 d.1[m + 1].1) with k3 | k3
          · simp only [k3, Bool.not_true, cond_false, Option.bind_some, caseS_l, hw2, hw, ih2, Bool.true_and]
          · simp [k3]
      · have : n = d.1.length := by omega
        subst this
        simp [impl_DiskOk.l0, okFrom, riseF, usedN, sumN])
    hl 0 0 (Nat.zero_le _) ⟨by omega, by simp only [List.drop_zero]; omega⟩
  have key : lp impl_DiskOk.l0 (d, 0, d.1, (d.1.length : Int), 0) = _ := key
  rw [key, List.drop_zero, Int.zero_add]; rfl

theorem spec_DiskOk_l0 (d : DiskT) (hl : d.1.length < 2 ^ 62) (hn : ∀ f ∈ d.1, f.1.length < 2 ^ 62) : lp spec_DiskOk.l0 (d, 0) = some (if filesOk d.1 = true then .inl () else .inr false) := by
  have key := lp_up (step := spec_DiskOk.l0) (fun n (_ : Unit) => (d, (n : Int))) d.1.length (fun n _ => if okFrom (before d.1 n) (d.1.drop n) = true then .inl () else .inr false) (fun _ _ => True)
    (fun rec n s hn' _ ih => by
      rcases Nat.lt_or_ge n d.1.length with h | h
      · have hw : w64 ((n : Int) + 1) = ((n + 1 : Nat) : Int) := w64_succ (by omega)
        have ih2 := ih () h trivial
        rw [before_succ d.1 n h] at ih2
        have hnm := hn d.1[n] (List.getElem_mem h)
        rw [List.drop_eq_getElem_cons h, okFrom_cons]
        simp only [spec_DiskOk.l0, Int.ofNat_lt, h, decide_true, cond_true, inB_nat, rdA_nat, getD_lt h, spec_NameOk_eq _ hnm, Option.bind_some, spec_l1In_eq]
        unfold fileOk
        rcases Bool.eq_false_or_eq_true (nameOk d.1[n].1) with k1 | k1
        rotate_left
        · simp [k1]
        rcases Bool.eq_false_or_eq_true (decide (0 ≤ d.1[n].2.2 ∧ d.1[n].2.2 ≤ (d.1[n].2.1.length : Int))) with k2 | k2
        rotate_left
        · simp only [k1, k2, Bool.not_true, Bool.not_false, cond_false, cond_true, Option.bind_some, caseS_r]; simp
        simp only [k1, k2, Bool.not_true, cond_false, Bool.true_and]
        cases n with
        | zero =>
          have z : ¬ ((0 : Nat) : Int) > 0 := by omega
          simp only [z, decide_false, cond_false, Option.bind_some, caseS_l, hw, ih2, before, follows, Bool.true_and]
        | succ m =>
          have z : ((m + 1 : Nat) : Int) > 0 := by omega
          have hm : m < d.1.length := by omega
          have z2 : w64 (((m + 1 : Nat) : Int) - 1) = (m : Int) := by rw [w64_id (by omega) (by omega)]; omega
          have z3 : (Op.bytesLess d.1[m + 1].1 d.1[m].1 || d.1[m + 1].1 == d.1[m].1) = !Op.bytesLess d.1[m].1 d.1[m + 1].1 := leK_not _ _
          rw [before_succ d.1 m hm]
          simp only [z, decide_true, cond_true, z2, inB_nat, hm, rdA_nat, getD_lt hm, follows, z3]
          rcases Bool.eq_false_or_eq_true (Op.bytesLess d.1[m].1 d.1[m + 1].1) with k3 | k3
          · simp only [k3, Bool.not_true, cond_false, Option.bind_some, caseS_l, hw, ih2, Bool.true_and]
          · simp [k3]
      · have : n = d.1.length := by omega
        subst this
        simp [spec_DiskOk.l0, okFrom, riseF])
    hl 0 () (Nat.zero_le _) trivial
  have key : lp spec_DiskOk.l0 (d, 0) = _ := key
  rw [key, List.drop_zero]; rfl

/-- A disk that fits into memory. -/
def dlim (d : DiskT) : Prop := d.1.length < 1000000000 ∧ usedN d.1 < 1000000000000 ∧ ∀ f ∈ d.1, f.1.length < 1000000000000

theorem impl_DiskOk_eq (d : DiskT) (h : dlim d) : impl_DiskOk.f d = some (diskOk d) := by
  obtain ⟨h1, h2, h3⟩ := h
  unfold impl_DiskOk.f diskOk
  have e1 : decide ((d.1.length : Int) > 130) = !decide (d.1.length ≤ 130) := by
    by_cases c : d.1.length ≤ 130
    · have : ¬ (d.1.length : Int) > 130 := by omega
      simp [c, this]
    · have : (d.1.length : Int) > 130 := by omega
      simp [c, this]
  rw [e1, impl_in_eq, impl_in_eq, impl_DiskOk_l0 d (by omega) (by omega) fun f hf => by have := h3 f hf; omega]
  cases decide (d.1.length ≤ 130)
  · rfl
  · simp only [Bool.not_true, cond_false, Option.bind_some, Bool.true_and]
    cases decide (0 ≤ d.2.1 ∧ d.2.1 ≤ 100000)
    · rfl
    · simp only [Bool.not_true, cond_false, Option.bind_some, Bool.true_and]
      cases decide (-1 ≤ d.2.2.1 ∧ d.2.2.1 ≤ 100000)
      · rfl
      · cases filesOk d.1 <;> simp

theorem spec_DiskOk_eq (d : DiskT) (h : dlim d) : spec_DiskOk.f d = some (diskOk d) := by
  obtain ⟨h1, h2, h3⟩ := h
  unfold spec_DiskOk.f diskOk
  have e1 : decide ((d.1.length : Int) > 130) = !decide (d.1.length ≤ 130) := by
    by_cases c : d.1.length ≤ 130
    · have : ¬ (d.1.length : Int) > 130 := by omega
      simp [c, this]
    · have : (d.1.length : Int) > 130 := by omega
      simp [c, this]
  have e2 : decide ((usedN d.1 : Int) > d.2.1) = !decide ((usedN d.1 : Int) ≤ d.2.1) := by
    by_cases c : (usedN d.1 : Int) ≤ d.2.1
    · have : ¬ (usedN d.1 : Int) > d.2.1 := by omega
      simp [c, this]
    · have : (usedN d.1 : Int) > d.2.1 := by omega
      simp [c, this]
  rw [e1, spec_l1In_eq, spec_l1In_eq, spec_l3Used_eq d (by omega) (by omega), spec_DiskOk_l0 d (by omega) fun f hf => by have := h3 f hf; omega]
  cases decide (d.1.length ≤ 130)
  · rfl
  · simp only [Bool.not_true, cond_false, Option.bind_some, Bool.true_and]
    cases decide (0 ≤ d.2.1 ∧ d.2.1 ≤ 100000)
    · rfl
    · simp only [Bool.not_true, cond_false, Option.bind_some, Bool.true_and]
      cases decide (-1 ≤ d.2.2.1 ∧ d.2.2.1 ≤ 100000)
      · rfl
      · simp only [Bool.not_true, cond_false, Option.bind_some, Bool.true_and, e2]
        cases decide ((usedN d.1 : Int) ≤ d.2.1)
        · rfl
        · cases filesOk d.1 <;> simp

theorem impl_copyDisk_eq (d : DiskT) (h : d.1.length < 1000000000000) : impl_copyDisk.f d = some d := by
  unfold impl_copyDisk.f
  have : (([] : List FileT).length + d.1.length) * 40 ≤ 140737488355328 := by simp; omega
  simp only [this, decide_true, cond_true, List.nil_append]

theorem spec_l3Copy_eq (d : DiskT) (h : d.1.length < 1000000000000) : spec_l3Copy.f d = some d := impl_copyDisk_eq d h

def fileIx (l : List FileT) (name : List UInt8) : Int := match l.findIdx? (fun f => f.1 == name) with | some i => (i : Int) | none => -1

theorem fileIx_loop {A B : Type} {step : (A → Option (B ⊕ Int)) → A → Option (B ⊕ Int)} (l : List FileT) (name : List UInt8) (st : Nat → A) (b : B) (hl : l.length < 2 ^ 62)
    (hs : ∀ rec n, (h : n < l.length) → step rec (st n) = if (l[n].1 == name) = true then some (.inr (n : Int)) else rec (st (n + 1)))
    (he : ∀ rec, step rec (st l.length) = some (.inl b)) : lp step (st 0) = some (match l.findIdx? (fun f => f.1 == name) with | some i => .inr (i : Int) | none => .inl b) := by
  have := lp_up (step := step) (fun n (_ : Unit) => st n) l.length (fun n _ => match (l.drop n).findIdx? (fun f => f.1 == name) with | some i => .inr ((n + i : Nat) : Int) | none => .inl b) (fun _ _ => True)
    (fun rec n s hn _ ih => by
      rcases Nat.lt_or_ge n l.length with h | h
      · rw [hs rec n h, ih () h trivial, List.drop_eq_getElem_cons h, List.findIdx?_cons]
        cases hf : l[n].1 == name
        · simp only [Bool.false_eq_true, if_false]
          cases List.findIdx? (fun f => f.1 == name) (l.drop (n + 1)) with
          | none => rfl
          | some i => simp only [Option.map_some]; congr 2; omega
        · simp
      · have : n = l.length := by omega
        subst this
        rw [he]; simp) hl 0 () (Nat.zero_le _) trivial
  simpa using this

theorem impl_fileAt_eq (d : DiskT) (name : List UInt8) (hl : d.1.length < 2 ^ 62) : impl_fileAt.f d name = some (fileIx d.1 name) := by
  have hk := fileIx_loop (step := impl_fileAt.l0) d.1 name (fun n => (name, d.1, (d.1.length : Int), (n : Int))) () hl
    (fun rec n h => by
      simp only [impl_fileAt.l0, Int.ofNat_lt, h, decide_true, cond_true, inB_nat, rdA_nat, getD_lt h, w64_succ (show n + 1 < 9223372036854775808 by omega)]
      cases d.1[n].1 == name <;> simp)
    (fun rec => by simp [impl_fileAt.l0])
  have hk : lp impl_fileAt.l0 (name, d.1, (d.1.length : Int), 0) = _ := hk
  unfold impl_fileAt.f fileIx
  rw [hk, Option.bind_some]
  cases List.findIdx? (fun f => f.1 == name) d.1 <;> rfl

theorem spec_l3Find_eq (d : DiskT) (name : List UInt8) (hl : d.1.length < 2 ^ 62) : spec_l3Find.f d name = some (fileIx d.1 name) := by
  have hk := fileIx_loop (step := spec_l3Find.l0) d.1 name (fun n => (name, d, (n : Int))) () hl
    (fun rec n h => by
      simp only [spec_l3Find.l0, Int.ofNat_lt, h, decide_true, cond_true, inB_nat, rdA_nat, getD_lt h, w64_succ (show n + 1 < 9223372036854775808 by omega)]
      cases d.1[n].1 == name <;> simp)
    (fun rec => by simp [spec_l3Find.l0])
  have hk : lp spec_l3Find.l0 (name, d, 0) = _ := hk
  unfold spec_l3Find.f fileIx
  rw [hk, Option.bind_some]
  cases List.findIdx? (fun f => f.1 == name) d.1 <;> rfl

theorem fileIx_cases (l : List FileT) (name : List UInt8) : (fileIx l name = -1 ∧ ∀ f ∈ l, f.1 ≠ name) ∨ ∃ i : Nat, ∃ h : i < l.length, fileIx l name = (i : Int) ∧ l[i].1 = name := by
  unfold fileIx
  cases hf : List.findIdx? (fun f => f.1 == name) l with
  | none =>
    left
    refine ⟨rfl, fun f hm => ?_⟩
    have := List.findIdx?_eq_none_iff.1 hf f hm
    simpa using this
  | some i =>
    right
    obtain ⟨h, h1, _⟩ := List.findIdx?_eq_some_iff_getElem.1 hf
    exact ⟨i, h, rfl, by simpa using h1⟩

/-- The disk with one step less. -/
def tick (d : DiskT) : DiskT := if d.2.2.1 > 0 then (d.1, d.2.1, d.2.2.1 - 1, d.2.2.2) else d

/-- A step: what it does is told by a code and files. -/
def dstep (d : DiskT) (act : List FileT → Int × List FileT) : DiskT × Int :=
  if diskOk d = false then (d, 5) else if d.2.2.2 = true ∨ d.2.2.1 = 0 then ((d.1, d.2.1, d.2.2.1, true), 1)
  else (((act d.1).2, (tick d).2), (act d.1).1)

theorem diskOk_fuel {d : DiskT} (h : diskOk d = true) : -1 ≤ d.2.2.1 ∧ d.2.2.1 ≤ 100000 ∧ d.1.length ≤ 130 := by
  unfold diskOk at h
  simp only [Bool.and_eq_true, decide_eq_true_eq] at h
  omega

theorem tick_fst (d : DiskT) : (tick d).1 = d.1 := by unfold tick; split <;> rfl

theorem spec_l3Begin_eq (d : DiskT) (h : dlim d) : spec_l3Begin.f d = some (if diskOk d = false then (d, 5) else if d.2.2.2 = true ∨ d.2.2.1 = 0 then ((d.1, d.2.1, d.2.2.1, true), 1) else (tick d, 0)) := by
  unfold spec_l3Begin.f
  rw [spec_l3Copy_eq d (by have := h.1; omega), spec_DiskOk_eq d h]
  simp only [Option.bind_some]
  rcases Bool.eq_false_or_eq_true (diskOk d) with k | k
  · have hf := diskOk_fuel k
    rcases Bool.eq_false_or_eq_true d.2.2.2 with k2 | k2
    · simp [k, k2]
    · by_cases k3 : d.2.2.1 = 0
      · simp [k, k2, k3]
      · have k4 : (d.2.2.1 == 0) = false := by simpa using k3
        unfold tick
        by_cases k5 : d.2.2.1 > 0
        · simp [k, k2, k3, k4, k5, w64_id (show -9223372036854775808 ≤ d.2.2.1 - 1 by omega) (by omega)]
        · simp [k, k2, k3, k4, k5]
  · simp [k]

/-- What the program's 'step' does with what is handed to it. -/
theorem step_eq {C : Type} (d : DiskT) (h : dlim d) (c : C) (does : C → DiskT → Option (Int × DiskT)) (act : List FileT → Int × List FileT) (hd : diskOk d = true → does c (tick d) = some ((act d.1).1, (act d.1).2, (tick d).2)) :
    ((impl_copyDisk.f d).bind fun t1 => (impl_DiskOk.f d).bind fun t2 =>
      bif !t2 then some (t1, 5) else
      bif d.2.2.2 then some ((t1.1, t1.2.1, t1.2.2.1, true), 1) else
      bif d.2.2.1 == 0 then some ((t1.1, t1.2.1, t1.2.2.1, true), 1) else
      (bif decide (d.2.2.1 > 0) then let y3 := w64 (t1.2.2.1 - 1); some (c, (([], 0, 0, false) : DiskT), (t1.1, t1.2.1, y3, t1.2.2.2)) else some (c, ([], 0, 0, false), t1) : Option (C × DiskT × DiskT)).bind fun (x1, x4, x6) =>
      (does x1 x6).bind fun (t4_0, t4_1) => some (t4_1, t4_0)) = some (dstep d act) := by
  rw [impl_copyDisk_eq d (by have := h.1; omega), impl_DiskOk_eq d h]
  simp only [Option.bind_some]
  unfold dstep
  rcases Bool.eq_false_or_eq_true (diskOk d) with k | k
  · have hf := diskOk_fuel k
    have hd := hd k
    rcases Bool.eq_false_or_eq_true d.2.2.2 with k2 | k2
    · simp [k, k2]
    · by_cases k3 : d.2.2.1 = 0
      · simp [k, k2, k3]
      · have k4 : (d.2.2.1 == 0) = false := by simpa using k3
        have e : (bif decide (d.2.2.1 > 0) then some (c, (([], 0, 0, false) : DiskT), ((d.1, d.2.1, w64 (d.2.2.1 - 1), d.2.2.2) : DiskT)) else some (c, ([], 0, 0, false), d)) = some (c, ([], 0, 0, false), tick d) := by
          unfold tick
          by_cases k5 : d.2.2.1 > 0
          · simp [k5, w64_id (show -9223372036854775808 ≤ d.2.2.1 - 1 by omega) (by omega)]
          · simp [k5]
        simp only [k, k4, Bool.not_true, cond_false, e, Option.bind_some, hd]
        simp [k2, k3]
  · simp [k]

theorem inB_ix {l : List FileT} {i : Nat} (h : i < l.length) : inB (i : Int) l.length = true := by simp [h]

theorem rdA_ix {l : List FileT} {i : Nat} (h : i < l.length) : rdA ([], [], 0) l (i : Int) = l[i] := by rw [rdA_nat, getD_lt h]

theorem dlim_tick {d : DiskT} (h : dlim d) : dlim (tick d) := by unfold dlim; rw [tick_fst]; exact h

def actSync (name : List UInt8) (l : List FileT) : Int × List FileT :=
  match l.findIdx? (fun f => f.1 == name) with
  | some i => (0, l.set i ((l.getD i ([], [], 0)).1, (l.getD i ([], [], 0)).2.1, ((l.getD i ([], [], 0)).2.1.length : Int)))
  | none => (3, l)

theorem ix_none {l : List FileT} {name : List UInt8} (h : fileIx l name = -1) : l.findIdx? (fun f => f.1 == name) = none := by
  unfold fileIx at h
  cases e : l.findIdx? (fun f => f.1 == name) with
  | none => rfl
  | some i => rw [e] at h; simp only at h; omega

theorem ix_some {l : List FileT} {name : List UInt8} {i : Nat} (h : fileIx l name = (i : Int)) : l.findIdx? (fun f => f.1 == name) = some i := by
  unfold fileIx at h
  cases e : l.findIdx? (fun f => f.1 == name) with
  | none => rw [e] at h; simp only at h; omega
  | some j => rw [e] at h; simp only at h; congr 1; omega

theorem impl_Sync_1_eq (d : DiskT) (name : List UInt8) (h : d.1.length < 2 ^ 62) : impl_Sync_1.f d name = some ((actSync name d.1).1, (actSync name d.1).2, d.2) := by
  unfold impl_Sync_1.f actSync
  rw [impl_fileAt_eq d name h, Option.bind_some]
  rcases fileIx_cases d.1 name with ⟨e, _⟩ | ⟨i, hi, e, _⟩
  · rw [e, ix_none e]; rfl
  · rw [e, ix_some e]
    simp only [dnn (show (0 : Int) ≤ (i : Int) by omega), cond_false, inB_ix hi, cond_true, rdA_ix hi, Int.toNat_natCast, getD_lt hi]

theorem impl_Sync_eq (d : DiskT) (name : List UInt8) (h : dlim d) : impl_Sync.f d name = some (dstep d (actSync name)) := by
  have hs : impl_step_Sync_1.f d name = some (dstep d (actSync name)) := step_eq d h name (fun n x => impl_Sync_1.f x n) (actSync name) fun _ => by
    show impl_Sync_1.f (tick d) name = _
    rw [impl_Sync_1_eq (tick d) name (by rw [tick_fst]; have := h.1; omega), tick_fst]
  unfold impl_Sync.f
  rw [hs]; rfl

/-- The reference's steps: how they begin. -/
theorem begin_ways (d : DiskT) (h : dlim d) : (∃ (x : DiskT) (c : Int), spec_l3Begin.f d = some (x, c) ∧ (c != 0) = true ∧ ∀ act, dstep d act = (x, c)) ∨
    (diskOk d = true ∧ spec_l3Begin.f d = some (tick d, 0) ∧ ∀ act, dstep d act = (((act d.1).2, (tick d).2), (act d.1).1)) := by
  rw [spec_l3Begin_eq d h]
  unfold dstep
  rcases Bool.eq_false_or_eq_true (diskOk d) with k | k
  · by_cases k2 : d.2.2.2 = true ∨ d.2.2.1 = 0
    · left
      refine ⟨(d.1, d.2.1, d.2.2.1, true), 1, ?_, ?_, fun act => ?_⟩
      · rw [if_neg (by simp [k]), if_pos k2]
      · rfl
      · rw [if_neg (by simp [k]), if_pos k2]
    · right
      refine ⟨k, ?_, fun act => ?_⟩
      · rw [if_neg (by simp [k]), if_neg k2]
      · rw [if_neg (by simp [k]), if_neg k2]
  · left
    refine ⟨d, 5, ?_, ?_, fun act => ?_⟩
    · rw [if_pos k]
    · rfl
    · rw [if_pos k]

theorem spec_Sync_eq (d : DiskT) (name : List UInt8) (h : dlim d) : spec_Sync.f d name = some (dstep d (actSync name)) := by
  have hl : d.1.length < 2 ^ 62 := by have := h.1; omega
  unfold spec_Sync.f
  rcases begin_ways d h with ⟨x, c, e1, e2, e3⟩ | ⟨k, e1, e3⟩
  · rw [e1, e3, Option.bind_some]; simp only [e2, cond_true]
  rw [e1, e3, Option.bind_some]
  simp only [bne_self_eq_false, cond_false, spec_l3Find_eq d name hl, Option.bind_some]
  unfold actSync
  rcases fileIx_cases d.1 name with ⟨e, _⟩ | ⟨i, hi, e, _⟩
  · rw [e, ix_none e]
    show some (tick d, 3) = some ((d.1, (tick d).2), 3)
    rw [← tick_fst d]
  · rw [e, ix_some e]
    have ht : i < (tick d).1.length := by rw [tick_fst]; exact hi
    simp only [dnn (show (0 : Int) ≤ (i : Int) by omega), cond_false, inB_ix hi, inB_ix ht, cond_true, rdA_ix hi, rdA_ix ht, Int.toNat_natCast, getD_lt hi]
    simp only [tick_fst]

def remIx (l : List FileT) (i : Nat) : List FileT := l.take i ++ l.drop (i + 1)

theorem remIx_len {l : List FileT} {i : Nat} (h : i < l.length) : (remIx l i).length = l.length - 1 := by
  unfold remIx
  rw [List.length_append, List.length_take, List.length_drop]; omega

def dropF (l : List FileT) (name : List UInt8) : List FileT :=
  match l.findIdx? (fun f => f.1 == name) with
  | some i => remIx l i
  | none => l

theorem dropF_len (l : List FileT) (name : List UInt8) : (dropF l name).length ≤ l.length := by
  unfold dropF
  cases e : l.findIdx? (fun f => f.1 == name) with
  | none => exact Nat.le_refl _
  | some i =>
    obtain ⟨h, _⟩ := List.findIdx?_eq_some_iff_getElem.1 e
    have := remIx_len h
    simp only; omega

/-- 'append(append(..[:i]), ..[i+1:]...)' -/
theorem cut_eq2 (l : List FileT) (i : Nat) (h : i < l.length) (hl : l.length < 1000000000000) {β : Type} (K : List FileT → Option β) :
    (bif (decide (0 ≤ (i : Int)) && decide ((i : Int) ≤ (l.length : Int))) then
      bif decide ((([] : List FileT).length + (l.take (i : Int).toNat).length) * 40 ≤ 140737488355328) then
      bif (decide (0 ≤ w64 ((i : Int) + 1)) && decide (w64 ((i : Int) + 1) ≤ (l.length : Int))) then
      bif decide (((([] : List FileT) ++ (l.take (i : Int).toNat)).length + (l.drop ((w64 ((i : Int) + 1)).toNat)).length) * 40 ≤ 140737488355328) then
      K ((([] : List FileT) ++ (l.take (i : Int).toNat)) ++ (l.drop ((w64 ((i : Int) + 1)).toNat))) else none else none else none else none) = K (remIx l i) := by
  have hw : w64 ((i : Int) + 1) = ((i + 1 : Nat) : Int) := w64_succ (by omega)
  rw [hw]
  have c1 : (decide (0 ≤ (i : Int)) && decide ((i : Int) ≤ (l.length : Int))) = true := by simp; omega
  have c2 : (decide (0 ≤ ((i + 1 : Nat) : Int)) && decide (((i + 1 : Nat) : Int) ≤ (l.length : Int))) = true := by simp; omega
  have c3 : (l.take i).length * 40 ≤ 140737488355328 := by rw [List.length_take]; omega
  have c4 : ((l.take i).length + (l.drop (i + 1)).length) * 40 ≤ 140737488355328 := by rw [List.length_take, List.length_drop]; omega
  simp only [Int.toNat_natCast, List.nil_append, List.length_nil, Nat.zero_add, c1, c2]
  simp only [c3, c4, decide_true, cond_true]; rfl

theorem impl_Disk_drop_eq (d : DiskT) (name : List UInt8) (h : d.1.length < 1000000000) : impl_Disk_drop.f d name = some (dropF d.1 name, d.2) := by
  unfold impl_Disk_drop.f dropF
  rw [impl_fileAt_eq d name (by omega), Option.bind_some]
  rcases fileIx_cases d.1 name with ⟨e, _⟩ | ⟨i, hi, e, _⟩
  · rw [e, ix_none e]; rfl
  · rw [e, ix_some e]
    have c : (i : Int) ≥ 0 := by omega
    simp only [c, decide_true, cond_true]
    exact cut_eq2 d.1 i hi (by omega) fun l => some (l, d.2)

theorem spec_l3Without_eq (l : List FileT) (i : Nat) (hi : i < l.length) (h : l.length < 1000000000) : spec_l3Without.f l (i : Int) = some (remIx l i) := by
  unfold spec_l3Without.f
  exact cut_eq2 l i hi (by omega) fun l => some l

def actRemove (name : List UInt8) (l : List FileT) : Int × List FileT :=
  match l.findIdx? (fun f => f.1 == name) with
  | some i => (0, remIx l i)
  | none => (3, l)

theorem impl_Remove_1_eq (d : DiskT) (name : List UInt8) (h : d.1.length < 1000000000) : impl_Remove_1.f d name = some ((actRemove name d.1).1, (actRemove name d.1).2, d.2) := by
  unfold impl_Remove_1.f actRemove
  rw [impl_fileAt_eq d name (by omega), Option.bind_some, impl_Disk_drop_eq d name h]
  unfold dropF
  rcases fileIx_cases d.1 name with ⟨e, _⟩ | ⟨i, hi, e, _⟩
  · rw [e, ix_none e]; rfl
  · rw [e, ix_some e]
    simp only [dnn (show (0 : Int) ≤ (i : Int) by omega), cond_false, Option.bind_some]

theorem impl_Remove_eq (d : DiskT) (name : List UInt8) (h : dlim d) : impl_Remove.f d name = some (dstep d (actRemove name)) := by
  have hs : impl_step_Remove_1.f d name = some (dstep d (actRemove name)) := step_eq d h name (fun n x => impl_Remove_1.f x n) (actRemove name) fun _ => by
    show impl_Remove_1.f (tick d) name = _
    rw [impl_Remove_1_eq (tick d) name (by rw [tick_fst]; exact h.1), tick_fst]
  unfold impl_Remove.f
  rw [hs]; rfl

def actTrunc (name : List UInt8) (n : Int) (l : List FileT) : Int × List FileT :=
  match l.findIdx? (fun f => f.1 == name) with
  | some i => if 0 ≤ n ∧ n ≤ ((l.getD i ([], [], 0)).2.1.length : Int) then
      (0, l.set i ((l.getD i ([], [], 0)).1, (l.getD i ([], [], 0)).2.1.take n.toNat, if n < (l.getD i ([], [], 0)).2.2 then n else (l.getD i ([], [], 0)).2.2))
    else (5, l)
  | none => (3, l)

theorem impl_Truncate_1_eq (d : DiskT) (name : List UInt8) (n : Int) (h : d.1.length < 1000000000) : impl_Truncate_1.f d name n = some ((actTrunc name n d.1).1, (actTrunc name n d.1).2, d.2) := by
  unfold impl_Truncate_1.f actTrunc
  rw [impl_fileAt_eq d name (by omega), Option.bind_some]
  rcases fileIx_cases d.1 name with ⟨e, _⟩ | ⟨i, hi, e, _⟩
  · rw [e, ix_none e]; rfl
  · rw [e, ix_some e]
    simp only [dnn (show (0 : Int) ≤ (i : Int) by omega), cond_false, inB_ix hi, cond_true, rdA_ix hi, impl_in_eq, Option.bind_some, getD_lt hi]
    by_cases c : 0 ≤ n ∧ n ≤ (d.1[i].2.1.length : Int)
    · have c2 : (decide (0 ≤ n) && decide (n ≤ (d.1[i].2.1.length : Int))) = true := by simp [c.1, c.2]
      simp only [c, c2, decide_true, Bool.not_true, cond_false, cond_true, Int.toNat_natCast, rdA_set hi, List.set_set, if_true, and_self, Bool.and_self]
    · simp [c]

theorem impl_Truncate_eq (d : DiskT) (name : List UInt8) (n : Int) (h : dlim d) : impl_Truncate.f d name n = some (dstep d (actTrunc name n)) := by
  have hs : impl_step_Truncate_1.f d (name, n) = some (dstep d (actTrunc name n)) := step_eq d h (name, n) (fun c x => impl_Truncate_1.f x c.1 c.2) (actTrunc name n) fun _ => by
    show impl_Truncate_1.f (tick d) name n = _
    rw [impl_Truncate_1_eq (tick d) name n (by rw [tick_fst]; exact h.1), tick_fst]
  unfold impl_Truncate.f
  rw [hs]; rfl

def actAppend (cap : Int) (name text : List UInt8) (l : List FileT) : Int × List FileT :=
  match l.findIdx? (fun f => f.1 == name) with
  | some i => if (text.length : Int) > cap - (usedN l : Int) then (2, l) else
      (0, l.set i ((l.getD i ([], [], 0)).1, (l.getD i ([], [], 0)).2.1 ++ text, (l.getD i ([], [], 0)).2.2))
  | none => (3, l)

theorem used_mem {l : List FileT} {f : FileT} (h : f ∈ l) : f.2.1.length ≤ usedN l := sumN_mem (fun f => f.2.1.length) h

theorem diskOk_cap {d : DiskT} (h : diskOk d = true) : 0 ≤ d.2.1 ∧ d.2.1 ≤ 100000 ∧ (usedN d.1 : Int) ≤ d.2.1 := by
  unfold diskOk at h
  simp only [Bool.and_eq_true, decide_eq_true_eq] at h
  omega

theorem tick_cap (d : DiskT) : (tick d).2.1 = d.2.1 := by unfold tick; split <;> rfl

theorem impl_Append_1_eq (d : DiskT) (name text : List UInt8) (h : dlim d) (hc : 0 ≤ d.2.1 ∧ d.2.1 ≤ 100000) (ht : text.length < 1000000000000) : impl_Append_1.f d name text = some ((actAppend d.2.1 name text d.1).1, (actAppend d.2.1 name text d.1).2, d.2) := by
  obtain ⟨h1, h2, h3⟩ := h
  unfold impl_Append_1.f actAppend
  rw [impl_fileAt_eq d name (by omega), Option.bind_some, impl_used_eq d (by omega) (by omega)]
  rcases fileIx_cases d.1 name with ⟨e, _⟩ | ⟨i, hi, e, _⟩
  · rw [e, ix_none e]; rfl
  · rw [e, ix_some e]
    have hm := used_mem (List.getElem_mem hi)
    have c1 : d.1[i].2.1.length + text.length ≤ 9223372036854775807 := by omega
    simp only [dnn (show (0 : Int) ≤ (i : Int) by omega), cond_false, Option.bind_some, inB_ix hi, cond_true, rdA_ix hi, getD_lt hi, c1, decide_true, Int.toNat_natCast]
    rw [w64_id (by omega) (by omega)]
    by_cases c : (text.length : Int) > d.2.1 - (usedN d.1 : Int)
    · simp [c]
    · simp [c]

theorem impl_Append_eq (d : DiskT) (name text : List UInt8) (h : dlim d) (ht : text.length < 1000000000000) : impl_Append.f d name text = some (dstep d (actAppend d.2.1 name text)) := by
  have hs : impl_step_Append_1.f d (name, text) = some (dstep d (actAppend d.2.1 name text)) := step_eq d h (name, text) (fun c x => impl_Append_1.f x c.1 c.2) (actAppend d.2.1 name text) fun k => by
    have hc := diskOk_cap k
    show impl_Append_1.f (tick d) name text = _
    rw [impl_Append_1_eq (tick d) name text (dlim_tick h) (by rw [tick_cap]; omega) ht, tick_fst, tick_cap]
  unfold impl_Append.f
  rw [hs]; rfl

theorem spec_Append_eq (d : DiskT) (name text : List UInt8) (h : dlim d) (htx : text.length < 1000000000000) : spec_Append.f d name text = some (dstep d (actAppend d.2.1 name text)) := by
  have h1 := h.1
  have h2 := h.2.1
  unfold spec_Append.f
  rcases begin_ways d h with ⟨x, c, e1, e2, e3⟩ | ⟨k, e1, e3⟩
  · rw [e1, e3, Option.bind_some]; simp only [e2, cond_true]
  rw [e1, e3, Option.bind_some]
  have hc := diskOk_cap k
  simp only [bne_self_eq_false, cond_false, spec_l3Find_eq d name (show d.1.length < 2 ^ 62 by omega), Option.bind_some, spec_l3Used_eq d (show d.1.length < 2 ^ 62 by omega) (show usedN d.1 < 2 ^ 62 by omega)]
  unfold actAppend
  rcases fileIx_cases d.1 name with ⟨e, _⟩ | ⟨i, hi, e, _⟩
  · rw [e, ix_none e]
    show some (tick d, 3) = some ((d.1, (tick d).2), 3)
    rw [← tick_fst d]
  · rw [e, ix_some e]
    have ht : i < (tick d).1.length := by rw [tick_fst]; exact hi
    have hm := used_mem (List.getElem_mem hi)
    have c1 : d.1[i].2.1.length + text.length ≤ 9223372036854775807 := by omega
    simp only [dnn (show (0 : Int) ≤ (i : Int) by omega), cond_false, inB_ix hi, inB_ix ht, cond_true, rdA_ix hi, rdA_ix ht, getD_lt hi, c1, decide_true, Int.toNat_natCast]
    rw [w64_id (by omega) (by omega)]
    simp only [tick_fst]
    by_cases c : (text.length : Int) > d.2.1 - (usedN d.1 : Int)
    · simp only [c, decide_true, cond_true, if_true]
      rw [← tick_fst d]
    · simp only [c, decide_false, cond_false, if_false]

def putF (l : List FileT) (f : FileT) : List FileT :=
  let k := (l.takeWhile fun x => Op.bytesLess x.1 f.1).length
  l.take k ++ [f] ++ l.drop k

theorem impl_Disk_put_eq (d : DiskT) (f : FileT) (h : d.1.length < 1000000000) : impl_Disk_put.f d f = some (putF d.1 f, d.2) := by
  have key := lp_up (step := impl_Disk_put.l0) (fun n (_ : Unit) => (d, f, (n : Int))) d.1.length (fun n _ => (d, f, ((n + ((d.1.drop n).takeWhile fun x => Op.bytesLess x.1 f.1).length : Nat) : Int))) (fun _ _ => True)
    (fun rec n s hn _ ih => by
      rcases Nat.lt_or_ge n d.1.length with h2 | h2
      · rw [takeWhile_drop _ _ _ h2]
        simp only [impl_Disk_put.l0, Int.ofNat_lt, h2, decide_true, cond_true, inB_nat, rdA_nat, getD_lt h2, w64_succ (show n + 1 < 9223372036854775808 by omega)]
        cases Op.bytesLess d.1[n].1 f.1
        · simp
        · simp only [cond_true, if_true]
          rw [ih () h2 trivial]
          congr 3; congr 1; omega
      · have : n = d.1.length := by omega
        subst this
        simp [impl_Disk_put.l0])
    (by omega) 0 () (Nat.zero_le _) trivial
  have key : lp impl_Disk_put.l0 (d, f, 0) = _ := key
  unfold impl_Disk_put.f putF
  rw [key, Option.bind_some]
  simp only [List.drop_zero, Nat.zero_add]
  have htw : (d.1.takeWhile fun x => Op.bytesLess x.1 f.1).length ≤ d.1.length := (List.takeWhile_sublist _).length_le
  generalize (d.1.takeWhile fun x => Op.bytesLess x.1 f.1).length = k at *
  have c1 : (decide (0 ≤ (k : Int)) && decide ((k : Int) ≤ (d.1.length : Int))) = true := by simp; omega
  have c2 : (d.1.take k).length * 40 ≤ 140737488355328 := by rw [List.length_take]; omega
  have c3 : ((d.1.take k).length + [f].length) * 40 ≤ 140737488355328 := by rw [List.length_take]; exact lim40 (by omega)
  have c4 : ((d.1.take k ++ [f]).length + (d.1.drop k).length) * 40 ≤ 140737488355328 := by
    rw [List.length_append, List.length_take, List.length_drop]
    show (min k d.1.length + 1 + (d.1.length - k)) * 40 ≤ _
    omega
  simp only [Int.toNat_natCast, List.nil_append, List.length_nil, Nat.zero_add, c1]
  simp only [c2, c3, c4, decide_true, cond_true]

def insStep (f : FileT) (s : List FileT × Bool) (x : FileT) : List FileT × Bool :=
  if s.2 = false ∧ leK x.1 f.1 = false then (s.1 ++ [f] ++ [x], true) else (s.1 ++ [x], s.2)

theorem insStep_len (f : FileT) (s : List FileT × Bool) (x : FileT) : (insStep f s x).1.length ≤ s.1.length + 2 := by
  unfold insStep; split <;> simp <;> omega

theorem ins_true (f : FileT) : ∀ (l out : List FileT), l.foldl (insStep f) (out, true) = (out ++ l, true)
  | [], out => by simp
  | x :: l, out => by
    have e1 : insStep f (out, true) x = (out ++ [x], true) := by unfold insStep; rw [if_neg (by simp)]
    rw [List.foldl_cons, e1, ins_true f l]; simp

theorem ins_false (f : FileT) : ∀ (l out : List FileT), (let s := l.foldl (insStep f) (out, false); if s.2 = true then s.1 else s.1 ++ [f]) = out ++ insB l f
  | [], out => by simp [insB]
  | x :: l, out => by
    rw [List.foldl_cons]
    cases hk : leK x.1 f.1
    · have e1 : insStep f (out, false) x = (out ++ [f] ++ [x], true) := by unfold insStep; rw [if_pos ⟨rfl, hk⟩]
      rw [e1, ins_true]
      simp [insB, hk]
    · have e1 : insStep f (out, false) x = (out ++ [x], false) := by unfold insStep; rw [if_neg (by simp [hk])]
      rw [e1, ins_false f l (out ++ [x])]
      simp [insB, hk]

theorem spec_l3Insert_eq (l : List FileT) (f : FileT) (hl : l.length < 1000000000) : spec_l3Insert.f l f = some (insB l f) := by
  have hk := fold_loop (step := spec_l3Insert.l0) l (insStep f) (fun n (s : List FileT × Bool) => (l, f, s.1, s.2, (n : Int))) (fun s => (f, s.1, s.2)) (fun n s => s.1.length ≤ 2 * n) (by omega)
    (fun rec n s h hi => by
      have hi : s.1.length ≤ 2 * n := hi
      have hq : s.1.length < 1000000000000 := by omega
      have hb1 : (s.1.length + [f].length) * 40 ≤ 140737488355328 := lim40 (Nat.lt_succ_of_lt hq)
      have hb2 : (s.1.length + ([l[n]] : List FileT).length) * 40 ≤ 140737488355328 := lim40 (Nat.lt_succ_of_lt hq)
      have hb3 : ((s.1 ++ [f]).length + ([l[n]] : List FileT).length) * 40 ≤ 140737488355328 := by rw [List.length_append]; exact lim40 (Nat.succ_lt_succ hq)
      have hw : w64 ((n : Int) + 1) = (n : Int) + 1 := w64_id (by omega) (by omega)
      have hle : (Op.bytesLess l[n].1 f.1 || l[n].1 == f.1) = leK l[n].1 f.1 := rfl
      simp only [spec_l3Insert.l0, Int.ofNat_lt, h, decide_true, cond_true, inB_nat, rdA_nat, getD_lt h, pair_eta, hle]
      unfold insStep
      rcases Bool.eq_false_or_eq_true s.2 with h2 | h2
      · simp only [h2, cond_false, Bool.not_true, Option.bind_some, inB_nat, rdA_nat, getD_lt h, pair_eta, h, decide_true, cond_true, hb2]
        simp [hw]
      · rcases Bool.eq_false_or_eq_true (leK l[n].1 f.1) with h3 | h3
        · simp only [h2, h3, cond_false, Bool.not_true, Bool.not_false, Option.bind_some, inB_nat, rdA_nat, getD_lt h, pair_eta, h, decide_true, cond_true, hb2]
          simp [hw]
        · simp only [h2, h3, cond_false, Bool.not_true, Bool.not_false, Option.bind_some, inB_nat, rdA_nat, getD_lt h, pair_eta, h, decide_true, cond_true, hb1, hb3]
          simp [hw])
    (fun n s h hi => by have := insStep_len f s l[n]; have hi : s.1.length ≤ 2 * n := hi; show _ ≤ 2 * (n + 1); omega)
    (fun rec s hi => by simp [spec_l3Insert.l0]) ([], false) (by simp)
  have hk : lp spec_l3Insert.l0 (l, f, [], false, 0) = _ := hk
  have hlen : ∀ (m : List FileT) (s : List FileT × Bool), (m.foldl (insStep f) s).1.length ≤ s.1.length + 2 * m.length := by
    intro m
    induction m with
    | nil => intro s; simp
    | cons x m ih => intro s; rw [List.foldl_cons]; have := ih (insStep f s x); have := insStep_len f s x; simp only [List.length_cons]; omega
  unfold spec_l3Insert.f
  rw [hk, Option.bind_some]
  have hf := ins_false f l []
  have hb := hlen l ([], false)
  generalize l.foldl (insStep f) ([], false) = s at *
  obtain ⟨s1, s2⟩ := s
  simp only [List.length_nil, Nat.zero_add] at hb
  have hb1 : (s1.length + [f].length) * 40 ≤ 140737488355328 := lim40 (by omega)
  cases s2
  · simp only [Bool.false_eq_true, if_false, List.nil_append] at hf
    simp only [Bool.not_false, cond_true, hb1, decide_true, hf]
  · simp only [if_true, List.nil_append] at hf
    simp [hf]

theorem takeWhile_congr {α : Type} {f g : α → Bool} : ∀ {l : List α}, (∀ x ∈ l, f x = g x) → l.takeWhile f = l.takeWhile g
  | [], _ => rfl
  | x :: l, h => by
    rw [List.takeWhile_cons, List.takeWhile_cons, h x (by simp), takeWhile_congr fun y hy => h y (List.mem_cons_of_mem _ hy)]

/-- Where no file has the name both places are one. -/
theorem putF_ins {l : List FileT} {f : FileT} (h : ∀ x ∈ l, x.1 ≠ f.1) : putF l f = insB l f := by
  unfold putF insB
  have : (l.takeWhile fun x => Op.bytesLess x.1 f.1) = l.takeWhile fun x => leK x.1 f.1 := takeWhile_congr fun x hx => by
    unfold leK
    have : (x.1 == f.1) = false := by simpa using h x hx
    rw [this, Bool.or_false]
  rw [this]

def actCreate (name : List UInt8) (l : List FileT) : Int × List FileT :=
  if nameOk name = false then (5, l) else if fileIx l name ≥ 0 then (4, l) else if 130 ≤ l.length then (2, l) else (0, insB l (name, [], 0))

theorem impl_Create_1_eq (d : DiskT) (name : List UInt8) (h : d.1.length < 1000000000) (hn : name.length < 2 ^ 62) : impl_Create_1.f d name = some ((actCreate name d.1).1, (actCreate name d.1).2, d.2) := by
  unfold impl_Create_1.f actCreate
  rw [impl_NameOk_eq name hn, Option.bind_some, impl_fileAt_eq d name (by omega)]
  rcases Bool.eq_false_or_eq_true (nameOk name) with k | k
  rotate_left
  · simp [k]
  simp only [k, Bool.not_true, cond_false, Option.bind_some, Bool.true_eq_false, if_false]
  rcases fileIx_cases d.1 name with ⟨e, hno⟩ | ⟨i, hi, e, _⟩
  · have c : ¬ fileIx d.1 name ≥ 0 := by omega
    simp only [c, decide_false, cond_false, if_false]
    by_cases c2 : 130 ≤ d.1.length
    · have c3 : (d.1.length : Int) ≥ 130 := by omega
      simp [c2, c3]
    · have c3 : ¬ (d.1.length : Int) ≥ 130 := by omega
      simp only [c2, c3, decide_false, cond_false, if_false, impl_Disk_put_eq d _ h, Option.bind_some, putF_ins (l := d.1) (f := (name, [], 0)) hno]
  · have c : fileIx d.1 name ≥ 0 := by omega
    simp [c]

theorem impl_Create_eq (d : DiskT) (name : List UInt8) (h : dlim d) (hn : name.length < 2 ^ 62) : impl_Create.f d name = some (dstep d (actCreate name)) := by
  have hs : impl_step_Create_1.f d name = some (dstep d (actCreate name)) := step_eq d h name (fun n x => impl_Create_1.f x n) (actCreate name) fun _ => by
    show impl_Create_1.f (tick d) name = _
    rw [impl_Create_1_eq (tick d) name (by rw [tick_fst]; exact h.1) hn, tick_fst]
  unfold impl_Create.f
  rw [hs]; rfl

theorem spec_Create_eq (d : DiskT) (name : List UInt8) (h : dlim d) (hn : name.length < 2 ^ 62) : spec_Create.f d name = some (dstep d (actCreate name)) := by
  have hl := h.1
  unfold spec_Create.f
  rcases begin_ways d h with ⟨x, c, e1, e2, e3⟩ | ⟨k, e1, e3⟩
  · rw [e1, e3, Option.bind_some]; simp only [e2, cond_true]
  rw [e1, e3, Option.bind_some]
  simp only [bne_self_eq_false, cond_false, spec_NameOk_eq name hn, spec_l3Find_eq d name (show d.1.length < 2 ^ 62 by omega), Option.bind_some]
  unfold actCreate
  have ht : (d.1, (tick d).2) = tick d := by rw [← tick_fst d]
  rcases Bool.eq_false_or_eq_true (nameOk name) with k | k
  rotate_left
  · simp [k, ht]
  simp only [k, Bool.not_true, cond_false, Bool.true_eq_false, if_false]
  by_cases c : fileIx d.1 name ≥ 0
  · simp [c, ht]
  simp only [c, decide_false, cond_false, if_false]
  by_cases c2 : 130 ≤ d.1.length
  · have c3 : (d.1.length : Int) ≥ 130 := by omega
    simp [c2, c3, ht]
  · have c3 : ¬ (d.1.length : Int) ≥ 130 := by omega
    simp only [c2, c3, decide_false, cond_false, if_false, tick_fst, spec_l3Insert_eq d.1 _ hl, Option.bind_some]

theorem rise_pw : ∀ (l : List FileT) (p : List UInt8), riseF (some p) l = true → (∀ x ∈ l, Op.bytesLess p x.1 = true) ∧ l.Pairwise (fun a b => Op.bytesLess a.1 b.1 = true)
  | [], p, _ => ⟨by simp, List.Pairwise.nil⟩
  | f :: l, p, h => by
    simp only [riseF, Bool.and_eq_true] at h
    obtain ⟨h1, h2⟩ := rise_pw l f.1 h.2
    refine ⟨fun x hx => ?_, List.Pairwise.cons h1 h2⟩
    rcases List.mem_cons.1 hx with e | hx
    · rw [e]; exact h.1
    · exact less_trans _ _ _ h.1 (h1 x hx)

theorem rise_pw0 (l : List FileT) (h : riseF none l = true) : l.Pairwise (fun a b => Op.bytesLess a.1 b.1 = true) := by
  cases l with
  | nil => exact List.Pairwise.nil
  | cons f l =>
    obtain ⟨h1, h2⟩ := rise_pw l f.1 h
    exact List.Pairwise.cons h1 h2

theorem diskOk_pw {d : DiskT} (h : diskOk d = true) : d.1.Pairwise (fun a b => Op.bytesLess a.1 b.1 = true) := by
  unfold diskOk filesOk at h
  simp only [Bool.and_eq_true] at h
  exact rise_pw0 _ h.2.2.2.2.2

theorem remIx_split {l : List FileT} {i : Nat} (h : i < l.length) : l = l.take i ++ l[i] :: l.drop (i + 1) := by
  rw [← List.drop_eq_getElem_cons h, List.take_append_drop]

theorem remIx_sub (l : List FileT) (i : Nat) : (remIx l i).Sublist l := by
  unfold remIx
  have : (l.take i ++ l.drop (i + 1)).Sublist (l.take i ++ l.drop i) := List.Sublist.append (List.Sublist.refl _) (List.drop_sublist_drop_left l (by omega))
  rw [List.take_append_drop] at this
  exact this

theorem remIx_ne {l : List FileT} {i : Nat} (h : i < l.length) (hp : l.Pairwise (fun a b => Op.bytesLess a.1 b.1 = true)) : ∀ x ∈ remIx l i, x.1 ≠ l[i].1 := by
  rw [remIx_split h, List.pairwise_append] at hp
  obtain ⟨_, h2, h3⟩ := hp
  intro x hx
  rcases List.mem_append.1 hx with hx | hx
  · exact less_ne (h3 x hx _ List.mem_cons_self)
  · exact (less_ne ((List.pairwise_cons.1 h2).1 x hx)).symm

theorem dropF_ne {l : List FileT} {name : List UInt8} (hp : l.Pairwise (fun a b => Op.bytesLess a.1 b.1 = true)) : ∀ x ∈ dropF l name, x.1 ≠ name := by
  unfold dropF
  rcases fileIx_cases l name with ⟨e, hno⟩ | ⟨i, hi, e, hn⟩
  · rw [ix_none e]; exact hno
  · rw [ix_some e, ← hn]; exact remIx_ne hi hp

theorem dropF_no {l : List FileT} {name : List UInt8} (h : ∀ x ∈ l, x.1 ≠ name) : dropF l name = l := by
  unfold dropF
  have : l.findIdx? (fun f => f.1 == name) = none := by
    rw [List.findIdx?_eq_none_iff]
    intro x hx
    simpa using h x hx
  rw [this]

theorem putF_back {l : List FileT} {i : Nat} (h : i < l.length) (hp : l.Pairwise (fun a b => Op.bytesLess a.1 b.1 = true)) : putF (remIx l i) l[i] = l := by
  have hs := hp
  rw [remIx_split h, List.pairwise_append] at hs
  obtain ⟨_, h2, h3⟩ := hs
  have e1 : ((remIx l i).takeWhile fun x => Op.bytesLess x.1 l[i].1) = l.take i := by
    unfold remIx
    rw [List.takeWhile_append_of_pos (fun x hx => h3 x hx _ List.mem_cons_self)]
    have : (l.drop (i + 1)).takeWhile (fun x => Op.bytesLess x.1 l[i].1) = [] := by
      cases e : l.drop (i + 1) with
      | nil => rfl
      | cons y r =>
        rw [List.takeWhile_cons, less_asymm _ _ ((List.pairwise_cons.1 h2).1 y (by rw [e]; simp))]; rfl
    rw [this, List.append_nil]
  unfold putF
  rw [e1]
  have hk : (l.take i).length = i := by rw [List.length_take]; omega
  simp only [hk]
  unfold remIx
  rw [List.take_append_of_le_length (by omega), List.take_take, Nat.min_self, List.drop_append_of_le_length (by omega), List.drop_take, Nat.sub_self, List.take_zero, List.nil_append, List.append_assoc, List.singleton_append]
  exact (remIx_split h).symm

def actRename (src dst : List UInt8) (l : List FileT) : Int × List FileT :=
  if nameOk dst = false then (5, l) else
  match l.findIdx? (fun f => f.1 == src) with
  | some i => (0, if src = dst then l else insB (dropF (remIx l i) dst) (dst, (l.getD i ([], [], 0)).2))
  | none => (3, l)

theorem impl_Rename_1_eq (d : DiskT) (src dst : List UInt8) (h : d.1.length < 1000000000) (hn : dst.length < 2 ^ 62) (hp : d.1.Pairwise (fun a b => Op.bytesLess a.1 b.1 = true)) : impl_Rename_1.f d src dst = some ((actRename src dst d.1).1, (actRename src dst d.1).2, d.2) := by
  unfold impl_Rename_1.f actRename
  rw [impl_fileAt_eq d src (by omega), Option.bind_some, impl_NameOk_eq dst hn, Option.bind_some, impl_Disk_drop_eq d src h]
  rcases Bool.eq_false_or_eq_true (nameOk dst) with k | k
  rotate_left
  · simp [k]
  simp only [k, Bool.not_true, cond_false, Bool.true_eq_false, if_false]
  rcases fileIx_cases d.1 src with ⟨e, _⟩ | ⟨i, hi, e, hsrc⟩
  · rw [e, ix_none e]; rfl
  · have e0 : dropF d.1 src = remIx d.1 i := by unfold dropF; rw [ix_some e]
    rw [e, ix_some e, e0]
    have hl := remIx_len hi
    have hl2 := dropF_len (remIx d.1 i) dst
    simp only [dnn (show (0 : Int) ≤ (i : Int) by omega), cond_false, inB_ix hi, cond_true, rdA_ix hi, Option.bind_some, getD_lt hi, impl_Disk_drop_eq (remIx d.1 i, d.2) dst (show (remIx d.1 i).length < 1000000000 by omega), impl_Disk_put_eq (dropF (remIx d.1 i) dst, d.2) (dst, d.1[i].2.1, d.1[i].2.2) (show (dropF (remIx d.1 i) dst).length < 1000000000 by omega)]
    by_cases c : src = dst
    · simp only [c, if_true]
      have hd : d.1[i].1 = dst := by rw [hsrc, c]
      have e2 : dropF (remIx d.1 i) dst = remIx d.1 i := dropF_no (by rw [← hd]; exact remIx_ne hi hp)
      have e3 : putF (remIx d.1 i) (dst, d.1[i].2.1, d.1[i].2.2) = d.1 := by
        have := putF_back hi hp
        rw [← hd]; exact this
      rw [e2, e3]
    · simp only [c, if_false]
      rw [putF_ins (l := dropF (remIx d.1 i) dst) (f := (dst, d.1[i].2.1, d.1[i].2.2)) (dropF_ne (hp.sublist (remIx_sub d.1 i)))]

theorem impl_Rename_eq (d : DiskT) (src dst : List UInt8) (h : dlim d) (hn : dst.length < 2 ^ 62) : impl_Rename.f d src dst = some (dstep d (actRename src dst)) := by
  have hs : impl_step_Rename_1.f d (src, dst) = some (dstep d (actRename src dst)) := step_eq d h (src, dst) (fun c x => impl_Rename_1.f x c.1 c.2) (actRename src dst) fun k => by
    show impl_Rename_1.f (tick d) src dst = _
    rw [impl_Rename_1_eq (tick d) src dst (by rw [tick_fst]; exact h.1) hn (by rw [tick_fst]; exact diskOk_pw k), tick_fst]
  unfold impl_Rename.f
  rw [hs]; rfl

theorem spec_Rename_eq (d : DiskT) (src dst : List UInt8) (h : dlim d) (hn : dst.length < 2 ^ 62) : spec_Rename.f d src dst = some (dstep d (actRename src dst)) := by
  have hl := h.1
  unfold spec_Rename.f
  rcases begin_ways d h with ⟨x, c, e1, e2, e3⟩ | ⟨k, e1, e3⟩
  · rw [e1, e3, Option.bind_some]; simp only [e2, cond_true]
  rw [e1, e3, Option.bind_some]
  have hp := diskOk_pw k
  simp only [bne_self_eq_false, cond_false, spec_NameOk_eq dst hn, spec_l3Find_eq d src (show d.1.length < 2 ^ 62 by omega), Option.bind_some]
  unfold actRename
  have ht : (d.1, (tick d).2) = tick d := by rw [← tick_fst d]
  rcases Bool.eq_false_or_eq_true (nameOk dst) with k2 | k2
  rotate_left
  · simp [k2, ht]
  simp only [k2, Bool.not_true, cond_false, Bool.true_eq_false, if_false]
  rcases fileIx_cases d.1 src with ⟨e, _⟩ | ⟨i, hi, e, hsrc⟩
  · rw [e, ix_none e]
    show some (tick d, 3) = some ((d.1, (tick d).2), 3)
    rw [← tick_fst d]
  · rw [e, ix_some e]
    have hlr := remIx_len hi
    have hl2 := dropF_len (remIx d.1 i) dst
    simp only [dnn (show (0 : Int) ≤ (i : Int) by omega), cond_false]
    by_cases c : src = dst
    · simp [c, ht]
    have c1 : (src == dst) = false := by simpa using c
    simp only [c, c1, cond_false, if_false, inB_ix hi, cond_true, rdA_ix hi, getD_lt hi, tick_fst, spec_l3Without_eq d.1 i hi hl, Option.bind_some, spec_l3Find_eq (remIx d.1 i, (tick d).2) dst (show (remIx d.1 i).length < 2 ^ 62 by omega)]
    rcases fileIx_cases (remIx d.1 i) dst with ⟨e', hno⟩ | ⟨j, hj, e', hdst⟩
    · have c2 : ¬ fileIx (remIx d.1 i) dst ≥ 0 := by omega
      simp only [c2, decide_false, cond_false, Option.bind_some, spec_l3Insert_eq (remIx d.1 i) _ (show (remIx d.1 i).length < 1000000000 by omega), dropF_no hno]
    · have c2 : fileIx (remIx d.1 i) dst ≥ 0 := by omega
      have e4 : dropF (remIx d.1 i) dst = remIx (remIx d.1 i) j := by unfold dropF; rw [ix_some e']
      rw [e4] at hl2
      simp only [c2, decide_true, cond_true]
      simp only [e', spec_l3Without_eq (remIx d.1 i) j hj (by omega), Option.bind_some, spec_l3Insert_eq (remIx (remIx d.1 i) j) _ (show (remIx (remIx d.1 i) j).length < 1000000000 by omega), e4]

theorem wrap64_nat {n : Nat} (h : n < 9223372036854775808) : IntKind.wrap .i64 (n : Int) = n := w64_nat h

theorem u8_wrap (n : Nat) : UInt8.ofNat (IntKind.wrap .u8 (n : Int)).toNat = UInt8.ofNat n := by
  have e : IntKind.wrap .u8 (n : Int) = ((n % 256 : Nat) : Int) := by
    unfold IntKind.wrap
    simp only [IntKind.bits, IntKind.signed]
    simp
  rw [e, Int.toNat_natCast]
  exact UInt8.ofNat_mod_size

theorem sumN_snoc {α : Type} (f : α → Nat) : ∀ (l : List α) (x : α), sumN f (l ++ [x]) = sumN f l + f x
  | [], x => by simp [sumN]
  | y :: l, x => by
    have := sumN_snoc f l x
    simp only [List.cons_append, sumN, this]; omega

abbrev CurT := List Int × Int × Int

def Cur (c : CurT) : Prop := 0 ≤ c.2.1 ∧ c.1.length < 2 ^ 60

theorem and255 (x : Int) : 0 ≤ bits (fun _ a b => a &&& b) .i64 x 255 ∧ bits (fun _ a b => a &&& b) .i64 x 255 ≤ 255 := by
  have e : bits (fun _ a b => a &&& b) .i64 x 255 = IntKind.wrap .i64 ((BitVec.ofInt 64 x &&& BitVec.ofInt 64 255).toNat : Int) := rfl
  have h : (BitVec.ofInt 64 x &&& BitVec.ofInt 64 255).toNat ≤ 255 := by
    rw [BitVec.toNat_and]
    exact Nat.le_trans Nat.and_le_right (by decide)
  rw [e, wrap64_nat (by omega)]
  omega

theorem l1Byte_ok {c : CurT} (h : Cur c) : ∃ x c', spec_l1Byte.f c = some (x, c') ∧ 0 ≤ x ∧ x ≤ 255 ∧ Cur c' := by
  obtain ⟨l, i, s⟩ := c
  obtain ⟨h1, h2⟩ := h
  simp only at h1 h2
  unfold spec_l1Byte.f
  simp only
  generalize bits (fun _ a b => a ^^^ b) .i64 _ _ = y
  by_cases c : i < (l.length : Int)
  · obtain ⟨j, rfl⟩ : ∃ j : Nat, i = (j : Int) := ⟨i.toNat, by omega⟩
    have c2 : j < l.length := by omega
    simp only [c, decide_true, cond_true, inB_nat, c2]
    refine ⟨_, _, rfl, (and255 _).1, (and255 _).2, ?_, h2⟩
    show 0 ≤ w64 _
    rw [w64_id (by omega) (by omega)]; omega
  · simp only [c, decide_false, cond_false]
    exact ⟨_, _, rfl, (and255 _).1, (and255 _).2, h1, h2⟩

theorem tmod_range {x n : Int} (hx : 0 ≤ x) (hn : 0 < n) : 0 ≤ Int.tmod x n ∧ Int.tmod x n < n := by
  exact ⟨Int.tmod_nonneg n hx, Int.tmod_lt_of_pos x hn⟩

theorem l1Below_ok {c : CurT} (h : Cur c) (n : Int) : ∃ x c', spec_l1Below.f c n = some (x, c') ∧ 0 ≤ x ∧ (0 < n → x < n) ∧ (n ≤ 0 → x = 0) ∧ Cur c' := by
  unfold spec_l1Below.f
  by_cases c0 : n ≤ 0
  · simp only [c0, decide_true, cond_true]
    exact ⟨0, c, rfl, Int.le_refl _, fun h => by omega, fun _ => rfl, h⟩
  have hn : (n != 0) = true := by simp; omega
  by_cases c1 : n ≤ 256
  · obtain ⟨x, c', e, h1, h2, h3⟩ := l1Byte_ok h
    simp only [c0, c1, decide_true, decide_false, cond_true, cond_false, e, Option.bind_some, hn]
    have := tmod_range h1 (show 0 < n by omega)
    exact ⟨_, _, rfl, this.1, fun _ => this.2, fun h => h.elim, h3⟩
  · obtain ⟨x, c1', e1, a1, b1, h1⟩ := l1Byte_ok h
    obtain ⟨y, c2', e2, a2, b2, h2⟩ := l1Byte_ok h1
    obtain ⟨z, c3', e3, a3, b3, h3⟩ := l1Byte_ok h2
    obtain ⟨w, c4', e4, a4, b4, h4⟩ := l1Byte_ok h3
    simp only [c0, c1, decide_false, cond_false, e1, e2, e3, e4, Option.bind_some, hn, cond_true]
    rw [w64_id (n := x * 16777216) (by omega) (by omega), w64_id (n := y * 65536) (by omega) (by omega), w64_id (n := z * 256) (by omega) (by omega), w64_id (n := x * 16777216 + y * 65536) (by omega) (by omega), w64_id (n := x * 16777216 + y * 65536 + z * 256) (by omega) (by omega), w64_id (n := x * 16777216 + y * 65536 + z * 256 + w) (by omega) (by omega)]
    have := tmod_range (x := x * 16777216 + y * 65536 + z * 256 + w) (n := n) (by omega) (by omega)
    exact ⟨_, _, rfl, this.1, fun _ => this.2, fun h => h.elim, h4⟩

theorem l1Pick_ok {c : CurT} (h : Cur c) (l : List (List UInt8)) (hl : 0 < l.length) : ∃ x c', spec_l1Pick.f c l = some (x, c') ∧ x ∈ l ∧ Cur c' := by
  obtain ⟨x, c', e, h1, h2, _, h'⟩ := l1Below_ok h (l.length : Int)
  have h2 := h2 (by omega)
  unfold spec_l1Pick.f
  simp only [e, Option.bind_some]
  obtain ⟨j, rfl⟩ : ∃ j : Nat, x = (j : Int) := ⟨x.toNat, by omega⟩
  have c2 : j < l.length := by omega
  simp only [inB_nat, c2, decide_true, cond_true, rdA_nat, getD_lt c2]
  exact ⟨_, _, rfl, List.getElem_mem c2, h'⟩

/-- A loop that counts down to nothing, with a cursor. -/
theorem down_ok {A B σ : Type} {step : (A → Option B) → A → Option B} (st : Nat → σ → A) (Inv : Nat → σ → Prop) (Post : B → Prop)
    (hz : ∀ rec s, Inv 0 s → ∃ b, step rec (st 0 s) = some b ∧ Post b)
    (hs : ∀ rec n s, Inv (n + 1) s → ∃ s', Inv n s' ∧ step rec (st (n + 1) s) = rec (st n s')) (n : Nat) (s : σ) (hi : Inv n s) (hn : n < 2 ^ 62) : ∃ b, lp step (st n s) = some b ∧ Post b := by
  have key : ∀ n f s, Inv n s → n < f → ∃ b, loopF step f (st n s) = some b ∧ Post b := by
    intro n
    induction n with
    | zero =>
      intro f s hi hf
      obtain ⟨f, rfl⟩ : ∃ g, f = g + 1 := ⟨f - 1, by omega⟩
      exact hz _ s hi
    | succ n ih =>
      intro f s hi hf
      obtain ⟨f, rfl⟩ : ∃ g, f = g + 1 := ⟨f - 1, by omega⟩
      obtain ⟨s', hi', e⟩ := hs (loopF step f) n s hi
      show ∃ b, step (loopF step f) (st (n + 1) s) = some b ∧ Post b
      rw [e]
      exact ih f s' hi' (by omega)
  exact key n FUEL s hi (Nat.lt_of_lt_of_le hn fuel_le)

/-- A loop that ends with what is wanted. -/
theorem lp_ok {A B : Type} {step : (A → Option B) → A → Option B} (P : A → Prop) (m : A → Nat) (Post : B → Prop)
    (h : ∀ rec a, P a → (∃ b, step rec a = some b ∧ Post b) ∨ ∃ a', P a' ∧ m a' < m a ∧ step rec a = rec a') {a : A} (hp : P a) (hm : m a < 2 ^ 62) : ∃ b, lp step a = some b ∧ Post b := by
  have key : ∀ f a, P a → m a < f → ∃ b, loopF step f a = some b ∧ Post b := by
    intro f
    induction f with
    | zero => intro a _ hf; omega
    | succ f ih =>
      intro a hp hf
      rcases h (loopF step f) a hp with hx | ⟨a', hp', hlt, e⟩
      · exact hx
      · show ∃ b, step (loopF step f) a = some b ∧ Post b
        rw [e]
        exact ih a' hp' (by omega)
  exact key FUEL a hp (Nat.lt_of_lt_of_le hm fuel_le)

theorem l1Text_ok {c : CurT} (h : Cur c) (most : Int) (h0 : 0 ≤ most) (h1 : most < 1000000000) : ∃ x c', spec_l1Text.f c most = some (x, c') ∧ (x.length : Int) ≤ most ∧ Cur c' := by
  obtain ⟨st, c1, e1, _, _, _, hc1⟩ := l1Below_ok h 4
  obtain ⟨n, c2, e2, a2, b2, _, hc2⟩ := l1Below_ok hc1 (most + 1)
  have b2 := b2 (by omega)
  obtain ⟨m, rfl⟩ : ∃ m : Nat, n = (m : Int) := ⟨n.toNat, by omega⟩
  have key := down_ok (step := spec_l1Text.l0) (fun k (s : CurT × List Int) => (s.1, s.2, st, (k : Int))) (fun k s => Cur s.1 ∧ s.2.length + k = m) (fun b => Cur b.1 ∧ b.2.length = m)
    (fun rec s hi => ⟨_, by simp [spec_l1Text.l0], hi.1, by simpa using hi.2⟩)
    (fun rec k s hi => by
      obtain ⟨hi1, hi2⟩ := hi
      obtain ⟨x, c', e, _, _, h'⟩ := l1Byte_ok hi1
      have e0 : ((k + 1 : Nat) : Int) > 0 := by omega
      have hw : w64 (((k + 1 : Nat) : Int) - 1) = (k : Int) := by rw [w64_id (by omega) (by omega)]; omega
      have hb : ∀ v : Int, (s.2.length + [v].length) * 1 ≤ 140737488355328 := fun v => by show (s.2.length + 1) * 1 ≤ _; omega
      cases d1 : (st == 1) <;> cases d2 : (st == 2) <;> simp only [spec_l1Text.l0, e0, decide_true, cond_true, cond_false, e, Option.bind_some, d1, d2, hb, hw]
      all_goals exact ⟨(c', s.2 ++ [_]), ⟨h', by simp only [List.length_append, List.length_singleton]; omega⟩, rfl⟩)
    m (c2, []) ⟨hc2, by simp⟩ (by omega)
  obtain ⟨⟨c3, xs⟩, e3, hc3, hl⟩ := key
  have e3 : lp spec_l1Text.l0 (c2, [], st, (m : Int)) = some (c3, xs) := e3
  unfold spec_l1Text.f
  rw [e1, Option.bind_some]
  simp only [w64_id (n := most + 1) (by omega) (by omega), e2, Option.bind_some, e3]
  refine ⟨_, _, rfl, ?_, hc3⟩
  unfold strOf
  simp only at hl
  rw [List.length_map, hl]; omega

theorem l1New_ok (l : List Int) (hl : l.length < 2 ^ 60) : ∃ c, spec_l1New.f l = some c ∧ Cur c := by
  have key : ∃ s, lp spec_l1New.l0 (l, w64 (10101 + (l.length : Int)), 0) = some (l, s) := by
    have := lp_ok (step := spec_l1New.l0) (a := (l, w64 (10101 + (l.length : Int)), ((0 : Nat) : Int))) (fun a => a.1 = l ∧ ∃ n : Nat, a.2.2 = (n : Int) ∧ n ≤ l.length) (fun a => l.length - a.2.2.toNat) (fun b => b.1 = l)
      (fun rec a ha => by
        obtain ⟨x, s, i⟩ := a
        obtain ⟨hx, n, hn, hle⟩ := ha
        simp only at hx hn
        subst hx hn
        by_cases c : n < x.length
        · by_cases c2 : (n : Int) < 4000
          · right
            have c3 : (n : Int) < (x.length : Int) := by omega
            refine ⟨(x, bits (fun _ a b => a &&& b) .i64 (w64 ((w64 ((w64 (s * 131)) + (w64 (x.getD n 0)))) + 7)) 1073741823, ((n + 1 : Nat) : Int)), ⟨rfl, n + 1, rfl, c⟩, by simp only [Int.toNat_natCast]; omega, ?_⟩
            simp only [spec_l1New.l0, c3, c2, decide_true, cond_true, inB_nat, c, rdA_nat, w64_succ (show n + 1 < 9223372036854775808 by omega)]
          · left
            have c3 : (n : Int) < (x.length : Int) := by omega
            exact ⟨(x, s), by simp only [spec_l1New.l0, c3, c2, decide_true, decide_false, cond_true, cond_false], rfl⟩
        · left
          have c3 : ¬ (n : Int) < (x.length : Int) := by omega
          exact ⟨(x, s), by simp only [spec_l1New.l0, c3, decide_false, cond_false], rfl⟩)
      ⟨rfl, 0, rfl, Nat.zero_le _⟩ (by simp only; omega)
    obtain ⟨⟨b1, b2⟩, e, hb⟩ := this
    simp only at hb
    subst hb
    exact ⟨b2, e⟩
  obtain ⟨s, e⟩ := key
  unfold spec_l1New.f
  simp only [e, Option.bind_some]
  exact ⟨_, rfl, Int.le_refl _, hl⟩

theorem down1 {k : Nat} (hk : k < 2 ^ 60) : w64 (((k + 1 : Nat) : Int) - 1) = (k : Int) := by rw [w64_id (by omega) (by omega)]; omega

theorem big_eq (l : List Int) : laws_big.f l = some (decide ((l.length : Int) > 1048576)) := rfl

def srt {α : Type} (l : List (List UInt8 × α)) : Prop := l.Pairwise (fun a b => Op.bytesLess a.1 b.1 = true)

theorem insB_cons {α : Type} (x : List UInt8 × α) (l : List (List UInt8 × α)) (p : List UInt8 × α) : insB (x :: l) p = if leK x.1 p.1 = true then x :: insB l p else p :: x :: l := by
  cases h : leK x.1 p.1 <;> simp [insB, h]

theorem mem_insB {α : Type} (y p : List UInt8 × α) : ∀ l : List (List UInt8 × α), y ∈ insB l p ↔ y = p ∨ y ∈ l
  | [] => by simp [insB]
  | x :: l => by
    rw [insB_cons]
    split
    · rw [List.mem_cons, mem_insB y p l, List.mem_cons]
      constructor
      · rintro (h | h | h)
        · exact .inr (.inl h)
        · exact .inl h
        · exact .inr (.inr h)
      · rintro (h | h | h)
        · exact .inr (.inl h)
        · exact .inl h
        · exact .inr (.inr h)
    · rw [List.mem_cons]

theorem srt_insB {α : Type} (p : List UInt8 × α) : ∀ l : List (List UInt8 × α), srt l → (∀ x ∈ l, x.1 ≠ p.1) → srt (insB l p)
  | [], _, _ => by simp [insB, srt]
  | x :: l, h, hn => by
    have h := List.pairwise_cons.1 h
    rw [insB_cons]
    split
    · rename_i c
      refine List.Pairwise.cons (fun y hy => ?_) (srt_insB p l h.2 fun y hy => hn y (List.mem_cons_of_mem _ hy))
      rcases (mem_insB y p l).1 hy with e | hy
      · rw [e]
        unfold leK at c
        rcases Bool.or_eq_true _ _ ▸ c with c | c
        · exact c
        · exact absurd (by simpa using c) (hn x List.mem_cons_self)
      · exact h.1 y hy
    · rename_i c
      have c2 : Op.bytesLess p.1 x.1 = true := by
        rw [leK_not] at c
        simpa using c
      refine List.Pairwise.cons (fun y hy => ?_) (List.Pairwise.cons h.1 h.2)
      rcases List.mem_cons.1 hy with e | hy
      · rw [e]; exact c2
      · exact less_trans _ _ _ c2 (h.1 y hy)

theorem at_eq (l : List Int) (hw : ∀ x ∈ l, 0 ≤ x ∧ x ≤ 255) (n : Nat) (hn : n < 1000000000) (hl : l.length < 1000000000) : ∃ a, laws_at.f l (n : Int) = some a ∧ 0 ≤ a ∧ a ≤ 255 := by
  unfold laws_at.f
  by_cases c : n < l.length
  · have c1 : (n : Int) < (l.length : Int) := by omega
    have h := hw l[n] (List.getElem_mem c)
    simp only [c, c1, decide_true, cond_true, inB_nat, rdA_nat, getD_lt c]
    exact ⟨_, rfl, by rw [w64_id (by omega) (by omega)]; omega, by rw [w64_id (by omega) (by omega)]; omega⟩
  · have c1 : ¬ (n : Int) < (l.length : Int) := by omega
    simp only [c1, decide_false, cond_false]
    rw [w64_id (n := (n : Int) * 37) (by omega) (by omega), w64_id (n := (l.length : Int) * 11) (by omega) (by omega), w64_id (n := (n : Int) * 37 + (l.length : Int) * 11) (by omega) (by omega)]
    have := tmod_range (x := (n : Int) * 37 + (l.length : Int) * 11) (n := 256) (by omega) (by omega)
    exact ⟨_, rfl, this.1, by omega⟩

/-- A disk whose sizes are below a bound. -/
def dl (k : Nat) (d : DiskT) : Prop := d.1.length < k ∧ usedN d.1 < k ∧ ∀ f ∈ d.1, f.1.length < k

theorem dl_lim {k : Nat} {d : DiskT} (h : dl k d) (hk : k ≤ 1000000000) : dlim d := ⟨by have := h.1; omega, by have := h.2.1; omega, fun f hf => by have := h.2.2 f hf; omega⟩

theorem dl_mono {k m : Nat} {d : DiskT} (h : dl k d) (hk : k ≤ m) : dl m d := ⟨by have := h.1; omega, by have := h.2.1; omega, fun f hf => by have := h.2.2 f hf; omega⟩

theorem dl_dstep {k m : Nat} {d : DiskT} {act : List FileT → Int × List FileT} (h : dl k d) (hm : k ≤ m) (ha : dl m ((act d.1).2, d.2)) : dl m (dstep d act).1 := by
  unfold dstep
  split
  · exact dl_mono h hm
  · split
    · exact dl_mono h hm
    · exact ha

theorem sumN_sub {α : Type} (f : α → Nat) {a b : List α} (h : a.Sublist b) : sumN f a ≤ sumN f b := by
  induction h with
  | slnil => exact Nat.le_refl _
  | cons x _ ih => simp only [sumN]; omega
  | cons_cons x _ ih => simp only [sumN]; omega

theorem dl_sub {k : Nat} {d : DiskT} {l : List FileT} (h : dl k d) (hs : l.Sublist d.1) : dl k (l, d.2) :=
  ⟨Nat.lt_of_le_of_lt hs.length_le h.1, Nat.lt_of_le_of_lt (sumN_sub _ hs) h.2.1, fun f hf => h.2.2 f (hs.subset hf)⟩

def dRemove (n : List UInt8) (d : DiskT) : DiskT × Int := dstep d (actRemove n)

def dCreate (n : List UInt8) (d : DiskT) : DiskT × Int := dstep d (actCreate n)

def dAppend (n t : List UInt8) (d : DiskT) : DiskT × Int := dstep d (actAppend d.2.1 n t)

def dSync (n : List UInt8) (d : DiskT) : DiskT × Int := dstep d (actSync n)

def dRename (a b : List UInt8) (d : DiskT) : DiskT × Int := dstep d (actRename a b)

theorem dl_Remove {k : Nat} {d : DiskT} (h : dl k d) (n : List UInt8) : dl k (dRemove n d).1 :=
  dl_dstep h (Nat.le_refl _) (by
    unfold actRemove
    split
    · exact dl_sub h (remIx_sub _ _)
    · exact h)

theorem dl_ins {k m : Nat} {d : DiskT} (h : dl k d) (f : FileT) (h1 : k + 1 ≤ m) (h2 : k + f.2.1.length ≤ m) (h3 : f.1.length < m) : dl m (insB d.1 f, d.2) := by
  refine ⟨?_, ?_, fun g hg => ?_⟩
  · show (insB d.1 f).length < m
    rw [insB_len]; have := h.1; omega
  · show usedN (insB d.1 f) < m
    have e : usedN (insB d.1 f) = usedN d.1 + f.2.1.length := by
      unfold usedN
      generalize d.1 = l
      induction l with
      | nil => simp [insB, sumN]
      | cons x l ih =>
        rw [insB_cons]
        split
        · simp only [sumN, ih]; omega
        · simp only [sumN]; omega
    rw [e]; have := h.2.1; omega
  · rcases (mem_insB g f d.1).1 hg with e | hg
    · rw [e]; exact h3
    · have := h.2.2 g hg; omega

theorem dl_Create {k m : Nat} {d : DiskT} (h : dl k d) (n : List UInt8) (h1 : k + 1 ≤ m) (h3 : n.length < m) : dl m (dCreate n d).1 :=
  dl_dstep h (by omega) (by
    unfold actCreate
    split
    · exact dl_mono h (by omega)
    split
    · exact dl_mono h (by omega)
    split
    · exact dl_mono h (by omega)
    · exact dl_ins h _ h1 (by simp; omega) h3)

theorem usedN_set (l : List FileT) (i : Nat) (f : FileT) (k : Nat) (hi : i < l.length) (hf : f.2.1.length ≤ l[i].2.1.length + k) : usedN (l.set i f) ≤ usedN l + k := by
  unfold usedN
  induction l generalizing i with
  | nil => simp at hi
  | cons x l ih =>
    cases i with
    | zero =>
      simp only [List.set_cons_zero, sumN]
      simp only [List.getElem_cons_zero] at hf
      omega
    | succ i =>
      simp only [List.set_cons_succ, sumN]
      have := ih i (by simpa using hi) (by simpa using hf)
      omega

theorem dl_set {k m c : Nat} {d : DiskT} (h : dl k d) (i : Nat) (f : FileT) (hi : i < d.1.length) (hn : f.1 = (d.1[i]).1) (hf : f.2.1.length ≤ d.1[i].2.1.length + c) (hm : k + c ≤ m) : dl m (d.1.set i f, d.2) := by
  refine ⟨?_, ?_, fun g hg => ?_⟩
  · show (d.1.set i f).length < m
    rw [List.length_set]; have := h.1; omega
  · show usedN (d.1.set i f) < m
    have := usedN_set d.1 i f c hi hf
    have := h.2.1; omega
  · rcases List.mem_or_eq_of_mem_set hg with hg | e
    · have := h.2.2 g hg; omega
    · rw [e, hn]; have := h.2.2 _ (List.getElem_mem hi); omega

theorem dl_Append {k m : Nat} {d : DiskT} (h : dl k d) (n t : List UInt8) (h1 : k + t.length ≤ m) : dl m (dAppend n t d).1 :=
  dl_dstep h (by omega) (by
    unfold actAppend
    rcases fileIx_cases d.1 n with ⟨e, _⟩ | ⟨i, hi, e, _⟩
    · rw [ix_none e]; exact dl_mono h (by omega)
    · rw [ix_some e]
      simp only
      split
      · exact dl_mono h (by omega)
      · rw [getD_lt hi]
        exact dl_set h i _ hi rfl (by simp) h1)

theorem dl_Sync {k : Nat} {d : DiskT} (h : dl k d) (n : List UInt8) : dl k (dSync n d).1 :=
  dl_dstep h (Nat.le_refl _) (by
    unfold actSync
    rcases fileIx_cases d.1 n with ⟨e, _⟩ | ⟨i, hi, e, _⟩
    · rw [ix_none e]; exact h
    · rw [ix_some e]
      simp only
      rw [getD_lt hi]
      exact dl_set (c := 0) h i _ hi rfl (by simp) (Nat.le_refl _))

theorem dropF_sub (l : List FileT) (n : List UInt8) : (dropF l n).Sublist l := by
  unfold dropF; split
  · exact remIx_sub _ _
  · exact List.Sublist.refl _

theorem dl_Rename {k m : Nat} {d : DiskT} (h : dl k d) (a b : List UInt8) (h1 : 2 * k ≤ m) (h2 : 1 ≤ k) (h3 : b.length < m) : dl m (dRename a b d).1 :=
  dl_dstep h (by omega) (by
    unfold actRename
    split
    · exact dl_mono h (by omega)
    · rcases fileIx_cases d.1 a with ⟨e, _⟩ | ⟨i, hi, e, _⟩
      · rw [ix_none e]; exact dl_mono h (by omega)
      · rw [ix_some e]
        simp only
        split
        · exact dl_mono h (by omega)
        · rw [getD_lt hi]
          have hs : (dropF (remIx d.1 i) b).Sublist d.1 := (dropF_sub _ _).trans (remIx_sub _ _)
          have hu := used_mem (List.getElem_mem hi)
          have := h.2.1
          exact dl_ins (d := (dropF (remIx d.1 i) b, d.2)) (dl_sub h hs) _ (by omega) (by simp only; omega) h3)

theorem digits_len : ∀ (k n : Nat), n < 10 ^ (k + 1) → (Lib.decDigits n).length ≤ k + 1
  | 0, n, h => by rw [Lib.decDigits, dif_pos (by simpa using h)]; simp
  | k + 1, n, h => by
    rw [Lib.decDigits]
    split
    · simp
    · have := digits_len k (n / 10) (by rw [Nat.div_lt_iff_lt_mul (by omega)]; rw [Nat.pow_succ] at h; exact h)
      simp only [List.length_append, List.length_singleton]; omega

/-- The digits of what is left; none for 0. -/
def digs (n : Nat) : List UInt8 := if n = 0 then [] else Lib.decDigits n

theorem digs_step {n : Nat} (h : n ≠ 0) : digs n = digs (n / 10) ++ [UInt8.ofNat (48 + n % 10)] := by
  unfold digs
  rw [if_neg h, Lib.decDigits]
  split
  · rename_i h2
    rw [if_pos (by omega), Nat.mod_eq_of_lt h2]; rfl
  · rename_i h2
    rw [if_neg (by omega)]

theorem spec_Dec_eq (n : Nat) (hn : n < 1000000000000000000) : spec_Dec.f (n : Int) = some (Lib.decDigits n) := by
  unfold spec_Dec.f
  by_cases c : n = 0
  · subst c
    rw [Lib.decDigits]; rfl
  have c1 : ((n : Int) == 0) = false := by simpa using c
  have c2 : decide ((n : Int) < 0) = false := dnn (by omega)
  have key := lp_eq (step := spec_Dec.l0) (a := ((n : Int), ([] : List UInt8), false)) (fun a => (digs a.1.toNat ++ a.2.1, false)) (fun a => 0 ≤ a.1 ∧ a.2.2 = false ∧ a.2.1.length + a.1.toNat ≤ n) (fun a => a.1.toNat)
    (fun rec a ha ih => by
      obtain ⟨x, s, f⟩ := a
      obtain ⟨h0, hf, hl⟩ := ha
      simp only at hf hl h0 ih ⊢
      subst hf
      obtain ⟨m, rfl⟩ : ∃ m : Nat, x = (m : Int) := ⟨x.toNat, by omega⟩
      simp only [Int.toNat_natCast] at hl ih ⊢
      by_cases d : m = 0
      · subst d
        simp [spec_Dec.l0, digs]
      · have d1 : ((m : Int) != 0) = true := by simpa using d
        have e1 : Int.tmod (m : Int) 10 = ((m % 10 : Nat) : Int) := rfl
        have e2 : w64 (Int.tdiv (m : Int) 10) = ((m / 10 : Nat) : Int) := by
          rw [show Int.tdiv (m : Int) 10 = ((m / 10 : Nat) : Int) from rfl]; exact w64_nat (by omega)
        have e3 : decide (((m % 10 : Nat) : Int) < 0) = false := dnn (by omega)
        have e4 : strOf [IntKind.wrap .u8 (w64 (48 + ((m % 10 : Nat) : Int)))] = [UInt8.ofNat (48 + m % 10)] := by
          have e : w64 (48 + ((m % 10 : Nat) : Int)) = ((48 + m % 10 : Nat) : Int) := by rw [w64_id (by omega) (by omega)]; omega
          rw [e]
          unfold strOf
          simp only [List.map_cons, List.map_nil, u8_wrap]
        have hb : ([UInt8.ofNat (48 + m % 10)] : List UInt8).length + s.length ≤ 9223372036854775807 := by show 1 + _ ≤ _; omega
        have ih := ih (((m / 10 : Nat) : Int), [UInt8.ofNat (48 + m % 10)] ++ s, false) ⟨by simp only; omega, rfl, by simp only [List.length_append, List.length_singleton, Int.toNat_natCast]; omega⟩ (by simp only [Int.toNat_natCast]; omega)
        simp only [Int.toNat_natCast] at ih
        simp only [spec_Dec.l0, d1, cond_true, e1, e2, e3, cond_false, Option.bind_some, e4, hb, decide_true, ih]
        rw [digs_step d, List.append_assoc])
    ⟨by simp only; omega, rfl, by simp⟩ (by simp only [Int.toNat_natCast]; omega)
  simp only [c1, c2, cond_false, key, Option.bind_some, Int.toNat_natCast]
  unfold digs
  simp [c]

/-- A file's text. -/
def fileText (d : DiskT) (n : List UInt8) : List UInt8 × Bool :=
  if diskOk d = false then ([], false) else
  match d.1.findIdx? (fun f => f.1 == n) with
  | some i => ((d.1.getD i ([], [], 0)).2.1, true)
  | none => ([], false)

theorem impl_FileText_eq (d : DiskT) (n : List UInt8) (h : dlim d) : impl_FileText.f d n = some (fileText d n) := by
  have hl := h.1
  unfold impl_FileText.f fileText
  rw [impl_fileAt_eq d n (by omega), Option.bind_some, impl_DiskOk_eq d h]
  rcases fileIx_cases d.1 n with ⟨e, _⟩ | ⟨i, hi, e, _⟩
  · rw [e, ix_none e]; simp
  · rw [e, ix_some e]
    rcases Bool.eq_false_or_eq_true (diskOk d) with k | k
    · simp only [dnn (show (0 : Int) ≤ (i : Int) by omega), cond_false, Option.bind_some, k, Bool.not_true, inB_ix hi, cond_true, rdA_ix hi, getD_lt hi, Bool.true_eq_false, if_false]
    · simp only [dnn (show (0 : Int) ≤ (i : Int) by omega), cond_false, Option.bind_some, k, Bool.not_false, cond_true, if_true]

theorem spec_FileText_eq (d : DiskT) (n : List UInt8) (h : dlim d) : spec_FileText.f d n = some (fileText d n) := by
  have hl := h.1
  unfold spec_FileText.f fileText
  rw [spec_DiskOk_eq d h, Option.bind_some, spec_l3Find_eq d n (by omega)]
  rcases Bool.eq_false_or_eq_true (diskOk d) with k | k
  rotate_left
  · simp [k]
  rcases fileIx_cases d.1 n with ⟨e, _⟩ | ⟨i, hi, e, _⟩
  · rw [e, ix_none e]; simp [k]
  · rw [e, ix_some e]
    simp only [dnn (show (0 : Int) ≤ (i : Int) by omega), cond_false, Option.bind_some, k, Bool.not_true, inB_ix hi, cond_true, rdA_ix hi, getD_lt hi, Bool.true_eq_false, if_false]

theorem fileText_len (d : DiskT) (n : List UInt8) (h : dlim d) : (fileText d n).1.length ≤ usedN d.1 := by
  unfold fileText
  split
  · simp
  · rcases fileIx_cases d.1 n with ⟨e, _⟩ | ⟨i, hi, e, _⟩
    · rw [ix_none e]; simp
    · rw [ix_some e]
      simp only [getD_lt hi]
      exact used_mem (List.getElem_mem hi)

theorem pw_rise : ∀ (l : List FileT) (p : List UInt8), (∀ x ∈ l, Op.bytesLess p x.1 = true) → srt l → riseF (some p) l = true
  | [], _, _, _ => rfl
  | f :: l, p, h, hs => by
    simp only [riseF, h f List.mem_cons_self, Bool.true_and]
    have hs2 := List.pairwise_cons.1 hs
    exact pw_rise l f.1 hs2.1 hs2.2

theorem pw_rise0 (l : List FileT) (hs : srt l) : riseF none l = true := by
  cases l with
  | nil => rfl
  | cons f l =>
    have hs2 := List.pairwise_cons.1 hs
    exact pw_rise l f.1 hs2.1 hs2.2

/-- Files that a disk of so much room may have. -/
def okF (cap : Int) (l : List FileT) : Prop := l.length ≤ 130 ∧ (usedN l : Int) ≤ cap ∧ (∀ f ∈ l, fileOk f = true) ∧ srt l

theorem diskOk_iff (d : DiskT) : diskOk d = true ↔ (0 ≤ d.2.1 ∧ d.2.1 ≤ 100000) ∧ (-1 ≤ d.2.2.1 ∧ d.2.2.1 ≤ 100000) ∧ okF d.2.1 d.1 := by
  unfold diskOk okF filesOk
  simp only [Bool.and_eq_true, decide_eq_true_eq, List.all_eq_true]
  constructor
  · rintro ⟨h1, h2, h3, h4, h5, h6⟩
    exact ⟨h2, h3, h1, h4, h5, rise_pw0 _ h6⟩
  · rintro ⟨h2, h3, h1, h4, h5, h6⟩
    exact ⟨h1, h2, h3, h4, h5, pw_rise0 _ h6⟩

theorem dk_tick {d : DiskT} (h : diskOk d = true) : diskOk (tick d) = true := by
  rw [diskOk_iff] at h ⊢
  obtain ⟨h1, h2, h3⟩ := h
  rw [tick_cap, tick_fst]
  refine ⟨h1, ?_, h3⟩
  unfold tick; split
  · exact ⟨by show -1 ≤ d.2.2.1 - 1; omega, by show d.2.2.1 - 1 ≤ 100000; omega⟩
  · exact h2

theorem dk_dstep {d : DiskT} {act : List FileT → Int × List FileT} (h : diskOk d = true) (ha : okF d.2.1 d.1 → okF d.2.1 (act d.1).2) : diskOk (dstep d act).1 = true := by
  have ht := dk_tick h
  rw [diskOk_iff] at h ht
  unfold dstep
  split
  · rename_i k; rw [(diskOk_iff d).2 h] at k; exact absurd k (by simp)
  · split
    · exact (diskOk_iff _).2 h
    · refine (diskOk_iff _).2 ⟨?_, ht.2.1, ?_⟩
      · show 0 ≤ (tick d).2.1 ∧ (tick d).2.1 ≤ 100000
        exact ht.1
      · show okF (tick d).2.1 (act d.1).2
        rw [tick_cap]; exact ha h.2.2

theorem okF_sub {cap : Int} {l m : List FileT} (h : okF cap l) (hs : m.Sublist l) : okF cap m := by
  have := sumN_sub (fun f : FileT => f.2.1.length) hs
  have := hs.length_le
  have h2 := h.2.1
  refine ⟨by have := h.1; omega, ?_, fun f hf => h.2.2.1 f (hs.subset hf), h.2.2.2.sublist hs⟩
  unfold usedN at *; omega

theorem usedN_insB (l : List FileT) (f : FileT) : usedN (insB l f) = usedN l + f.2.1.length := by
  unfold usedN
  induction l with
  | nil => simp [insB, sumN]
  | cons x l ih =>
    rw [insB_cons]
    split
    · simp only [sumN, ih]; omega
    · simp only [sumN]; omega

theorem usedN_remIx (l : List FileT) (i : Nat) (h : i < l.length) : usedN (remIx l i) + l[i].2.1.length = usedN l := by
  unfold usedN remIx
  induction l generalizing i with
  | nil => simp at h
  | cons x l ih =>
    cases i with
    | zero => simp only [List.take_zero, List.drop_succ_cons, List.drop_zero, List.nil_append, List.getElem_cons_zero, sumN]; omega
    | succ i =>
      have := ih i (by simpa using h)
      simp only [List.take_succ_cons, List.drop_succ_cons, List.cons_append, sumN, List.getElem_cons_succ] at *
      omega

theorem usedN_set2 (l : List FileT) (i : Nat) (f : FileT) (h : i < l.length) : usedN (l.set i f) + l[i].2.1.length = usedN l + f.2.1.length := by
  unfold usedN
  induction l generalizing i with
  | nil => simp at h
  | cons x l ih =>
    cases i with
    | zero => simp only [List.set_cons_zero, List.getElem_cons_zero, sumN]; omega
    | succ i =>
      have := ih i (by simpa using h)
      simp only [List.set_cons_succ, sumN, List.getElem_cons_succ] at *
      omega

theorem srtF_set {α : Type} {l : List (List UInt8 × α)} (h : srt l) (i : Nat) (hi : i < l.length) (f : List UInt8 × α) (hf : f.1 = l[i].1) : srt (l.set i f) := by
  unfold srt at *
  have e : (l.set i f).map (·.1) = l.map (·.1) := by
    apply List.ext_getElem
    · simp
    · intro n h1 h2
      simp only [List.getElem_map, List.getElem_set]
      split
      · rename_i c; subst c; exact hf
      · rfl
  have h2 : (l.map (·.1)).Pairwise (fun a b => Op.bytesLess a b = true) := List.pairwise_map.2 h
  rw [← e] at h2
  exact List.pairwise_map.1 h2

theorem okF_set {cap : Int} {l : List FileT} (h : okF cap l) (i : Nat) (hi : i < l.length) (f : FileT) (hn : f.1 = l[i].1) (hf : fileOk f = true) (hu : (usedN l : Int) + f.2.1.length - l[i].2.1.length ≤ cap) : okF cap (l.set i f) := by
  have := usedN_set2 l i f hi
  refine ⟨by rw [List.length_set]; exact h.1, by omega, fun g hg => ?_, srtF_set h.2.2.2 i hi f hn⟩
  rcases List.mem_or_eq_of_mem_set hg with hg | e
  · exact h.2.2.1 g hg
  · rw [e]; exact hf

theorem okF_ins {cap : Int} {l : List FileT} (h : okF cap l) (f : FileT) (h1 : l.length < 130) (hne : ∀ x ∈ l, x.1 ≠ f.1) (hf : fileOk f = true) (hu : (usedN l : Int) + f.2.1.length ≤ cap) : okF cap (insB l f) := by
  refine ⟨by rw [insB_len]; omega, by rw [usedN_insB]; omega, fun g hg => ?_, srt_insB f l h.2.2.2 hne⟩
  rcases (mem_insB g f l).1 hg with e | hg
  · rw [e]; exact hf
  · exact h.2.2.1 g hg

theorem dk_Remove {d : DiskT} (h : diskOk d = true) (n : List UInt8) : diskOk (dRemove n d).1 = true :=
  dk_dstep h fun k => by
    unfold actRemove; split
    · exact okF_sub k (remIx_sub _ _)
    · exact k

theorem dk_Create {d : DiskT} (h : diskOk d = true) (n : List UInt8) : diskOk (dCreate n d).1 = true :=
  dk_dstep h fun k => by
    unfold actCreate; split
    · exact k
    · rename_i k1
      split
      · exact k
      · rename_i k2
        split
        · exact k
        · rename_i k3
          rcases fileIx_cases d.1 n with ⟨e, hno⟩ | ⟨i, hi, e, _⟩
          · refine okF_ins k _ (by omega) hno ?_ (by have := k.2.1; simp; exact this)
            unfold fileOk; simp at k1 ⊢; exact k1
          · omega

theorem dk_Append {d : DiskT} (h : diskOk d = true) (n t : List UInt8) : diskOk (dAppend n t d).1 = true :=
  dk_dstep h fun k => by
    unfold actAppend
    rcases fileIx_cases d.1 n with ⟨e, _⟩ | ⟨i, hi, e, _⟩
    · rw [ix_none e]; exact k
    · rw [ix_some e]
      simp only
      split
      · exact k
      · rename_i k1
        rw [getD_lt hi]
        refine okF_set k i hi _ rfl ?_ ?_
        · have := k.2.2.1 _ (List.getElem_mem hi)
          unfold fileOk at *
          simp only [Bool.and_eq_true, decide_eq_true_eq, List.length_append] at *
          exact ⟨this.1, by omega, by omega⟩
        · simp only [List.length_append]; omega

theorem dk_Sync {d : DiskT} (h : diskOk d = true) (n : List UInt8) : diskOk (dSync n d).1 = true :=
  dk_dstep h fun k => by
    unfold actSync
    rcases fileIx_cases d.1 n with ⟨e, _⟩ | ⟨i, hi, e, _⟩
    · rw [ix_none e]; exact k
    · rw [ix_some e]
      simp only
      rw [getD_lt hi]
      refine okF_set k i hi _ rfl ?_ ?_
      · have := k.2.2.1 _ (List.getElem_mem hi)
        unfold fileOk at *
        simp only [Bool.and_eq_true, decide_eq_true_eq] at *
        exact ⟨this.1, by omega, by omega⟩
      · have := k.2.1; simp only; omega

theorem dk_Trunc {d : DiskT} (h : diskOk d = true) (n : List UInt8) (z : Int) : diskOk (dstep d (actTrunc n z)).1 = true :=
  dk_dstep h fun k => by
    unfold actTrunc
    rcases fileIx_cases d.1 n with ⟨e, _⟩ | ⟨i, hi, e, _⟩
    · rw [ix_none e]; exact k
    · rw [ix_some e]
      simp only
      rw [getD_lt hi]
      split
      · rename_i k1
        refine okF_set k i hi _ rfl ?_ ?_
        · have := k.2.2.1 _ (List.getElem_mem hi)
          unfold fileOk at *
          simp only [Bool.and_eq_true, decide_eq_true_eq, List.length_take] at *
          exact ⟨this.1, by omega, by omega⟩
        · have := k.2.1
          simp only [List.length_take]; omega
      · exact k

theorem dk_Rename {d : DiskT} (h : diskOk d = true) (a b : List UInt8) : diskOk (dRename a b d).1 = true :=
  dk_dstep h fun k => by
    unfold actRename
    split
    · exact k
    · rename_i k0
      rcases fileIx_cases d.1 a with ⟨e, _⟩ | ⟨i, hi, e, _⟩
      · rw [ix_none e]; exact k
      · rw [ix_some e]
        simp only
        split
        · exact k
        · rw [getD_lt hi]
          have hs : (dropF (remIx d.1 i) b).Sublist d.1 := (dropF_sub _ _).trans (remIx_sub _ _)
          have h2 := usedN_remIx d.1 i hi
          have h3 := remIx_len hi
          have h4 := dropF_len (remIx d.1 i) b
          have h5 : usedN (dropF (remIx d.1 i) b) ≤ usedN (remIx d.1 i) := sumN_sub (fun f : FileT => f.2.1.length) (dropF_sub _ _)
          have k1 := k.1
          have k2 := k.2.1
          refine okF_ins (okF_sub k hs) _ (by omega) (dropF_ne (k.2.2.2.sublist (remIx_sub d.1 i))) ?_ (by simp only; omega)
          have := k.2.2.1 _ (List.getElem_mem hi)
          unfold fileOk at *
          simp only [Bool.and_eq_true, decide_eq_true_eq, Bool.not_eq_false] at *
          exact ⟨k0, this.2⟩

/-- A right disk is a small one. -/
theorem dl_dk {d : DiskT} (h : diskOk d = true) : dl 100001 d := by
  rw [diskOk_iff] at h
  obtain ⟨h1, h2, h3, h4, h5, h6⟩ := h
  refine ⟨by omega, by omega, fun f hf => ?_⟩
  have := h5 f hf
  unfold fileOk at this
  simp only [Bool.and_eq_true] at this
  have := nameOk_len this.1
  omega

theorem lim8 {a : Nat} (h : a < 1000000000001) : (a + 1) * 8 ≤ 140737488355328 := by omega

theorem lim48 {a : Nat} (h : a < 1000000000001) : (a + 1) * 48 ≤ 140737488355328 := by omega

theorem l1PickInt_ok {c : CurT} (h : Cur c) (l : List Int) (hl : 0 < l.length) : ∃ x c', spec_l1PickInt.f c l = some (x, c') ∧ x ∈ l ∧ Cur c' := by
  obtain ⟨x, c', e, h1, h2, _, h'⟩ := l1Below_ok h (l.length : Int)
  have h2 := h2 (by omega)
  unfold spec_l1PickInt.f
  obtain ⟨n, rfl⟩ : ∃ n : Nat, x = (n : Int) := ⟨x.toNat, by omega⟩
  have hn : n < l.length := by omega
  simp only [e, Option.bind_some, inB_nat, hn, decide_true, cond_true, rdA_nat, getD_lt hn]
  exact ⟨_, _, rfl, List.getElem_mem hn, h'⟩

theorem l3Name_ok {c : CurT} (h : Cur c) : ∃ x c', spec_l3Name.f c = some (x, c') ∧ x.length ≤ 5 ∧ Cur c' := by
  obtain ⟨x, c', e, hx, h'⟩ := l1Pick_ok h ([[108, 105, 118, 101], [115, 101, 103, 49], [115, 101, 103, 50], [115, 101, 103, 51], [116, 101, 109, 112], [104, 105, 110, 116, 49], [120], [97, 57]] : List (List UInt8)) (by decide)
  unfold spec_l3Name.f
  rw [e]
  refine ⟨x, c', rfl, ?_, h'⟩
  simp only [List.mem_cons, List.not_mem_nil, or_false] at hx
  rcases hx with rfl | rfl | rfl | rfl | rfl | rfl | rfl | rfl <;> decide

theorem l3Disk_ok {c : CurT} (h : Cur c) : ∃ d c', spec_l3Disk.f c = some (d, c') ∧ diskOk d = true ∧ Cur c' := by
  obtain ⟨n, c1, e1, a1, b1, _, h1⟩ := l1Below_ok h 12
  have b1 := b1 (by omega)
  obtain ⟨m, rfl⟩ : ∃ m : Nat, n = (m : Int) := ⟨n.toNat, by omega⟩
  have e0 : spec_DiskNew.f 200 = some (([], 200, -1, false) : DiskT) := by
    unfold spec_DiskNew.f
    rw [spec_l1In_eq]; rfl
  have hd0 : diskOk (([], 200, -1, false) : DiskT) = true := by rw [diskOk_iff]; exact ⟨by decide, by decide, by decide, by decide, by simp, List.Pairwise.nil⟩
  have key := down_ok (step := spec_l3Disk.l0) (fun k (s : CurT × DiskT) => (s.1, ([], 0, 0, false), s.2, (k : Int))) (fun k s => Cur s.1 ∧ diskOk s.2 = true ∧ k ≤ m) (fun b => Cur b.1 ∧ diskOk b.2.2 = true)
    (fun rec s hi => ⟨(s.1, ([], 0, 0, false), s.2), by simp [spec_l3Disk.l0], hi.1, hi.2.1⟩)
    (fun rec k s hi => by
      obtain ⟨s, d⟩ := s
      obtain ⟨hi1, hi2, hi3⟩ := hi
      simp only at hi1 hi2 hi3
      obtain ⟨nm, c2, f1, g1, h2⟩ := l3Name_ok hi1
      obtain ⟨v, c3, f2, _, _, _, h3⟩ := l1Below_ok h2 6
      have e0 : ((k + 1 : Nat) : Int) > 0 := by omega
      have hw := down1 (show k < 2 ^ 60 by omega)
      have hd : dlim d := dl_lim (dl_dk hi2) (by omega)
      have ec : spec_Create.f d nm = some (dCreate nm d) := spec_Create_eq d nm hd (by omega)
      have ey : spec_Sync.f d nm = some (dSync nm d) := spec_Sync_eq d nm hd
      simp only [spec_l3Disk.l0, e0, decide_true, cond_true, f1, f2, Option.bind_some]
      cases d0 : (v == 0)
      rotate_left
      · simp only [cond_true, Option.bind_some, ec, hw]
        exact ⟨(c3, (dCreate nm d).1), ⟨h3, dk_Create hi2 nm, by omega⟩, rfl⟩
      cases d1 : (v == 1)
      rotate_left
      · simp only [cond_true, cond_false, Option.bind_some, ec, hw]
        exact ⟨(c3, (dCreate nm d).1), ⟨h3, dk_Create hi2 nm, by omega⟩, rfl⟩
      have ap : ∃ t c4, spec_l1Text.f c3 9 = some (t, c4) ∧ Cur c4 ∧ spec_Append.f d nm t = some (dAppend nm t d) := by
        obtain ⟨t, c4, f3, g3, h4⟩ := l1Text_ok h3 9 (by omega) (by omega)
        exact ⟨t, c4, f3, h4, spec_Append_eq d nm t hd (by omega)⟩
      obtain ⟨t, c4, f3, h4, ea⟩ := ap
      simp only [cond_false, Option.bind_some]
      cases d2 : (v == 2)
      rotate_left
      · simp only [cond_true, cond_false, Option.bind_some, f3, ea, hw]
        exact ⟨(c4, (dAppend nm t d).1), ⟨h4, dk_Append hi2 nm t, by omega⟩, rfl⟩
      simp only [cond_false]
      cases d3 : (v == 3)
      rotate_left
      · simp only [cond_true, cond_false, Option.bind_some, f3, ea, hw]
        exact ⟨(c4, (dAppend nm t d).1), ⟨h4, dk_Append hi2 nm t, by omega⟩, rfl⟩
      simp only [cond_false, Option.bind_some]
      cases d4 : (v == 4)
      rotate_left
      · simp only [cond_true, cond_false, Option.bind_some, ey, hw]
        exact ⟨(c3, (dSync nm d).1), ⟨h3, dk_Sync hi2 nm, by omega⟩, rfl⟩
      · obtain ⟨n2, c5, f5, g5, h5⟩ := l3Name_ok h3
        have er : spec_Rename.f d nm n2 = some (dRename nm n2 d) := spec_Rename_eq d nm n2 hd (by omega)
        simp only [cond_false, Option.bind_some, f5, er, hw]
        exact ⟨(c5, (dRename nm n2 d).1), ⟨h5, dk_Rename hi2 nm n2, by omega⟩, rfl⟩)
    m (c1, ([], 200, -1, false)) ⟨h1, hd0, Nat.le_refl _⟩ (by omega)
  obtain ⟨⟨c5, z, d⟩, e5, h5, hd⟩ := key
  have e5 : lp spec_l3Disk.l0 (c1, ([], 0, 0, false), ([], 200, -1, false), (m : Int)) = some (c5, z, d) := e5
  unfold spec_l3Disk.f
  simp only [e0, e1, Option.bind_some, e5]
  exact ⟨d, c5, rfl, hd, h5⟩

/-- Drawn disks are small. -/
def dSmall (d : DiskT) : Prop := dl 200000 d

theorem l3Any_ok {c : CurT} (h : Cur c) : ∃ d c', spec_l3Any.f c = some (d, c') ∧ dSmall d ∧ Cur c' := by
  obtain ⟨d, c1, e1, hd, h1⟩ := l3Disk_ok h
  obtain ⟨x, c2, e2, _, _, _, h2⟩ := l1Below_ok h1 14
  have hdl := dl_dk hd
  have hsm : ∀ y : Int × Int × Bool, dSmall (d.1, y) := fun y => ⟨by have := hdl.1; show d.1.length < _; omega, by have := hdl.2.1; show usedN d.1 < _; omega, fun f hf => by have := hdl.2.2 f hf; omega⟩
  have hl := dl_lim hdl (by omega)
  unfold spec_l3Any.f
  simp only [e1, e2, Option.bind_some]
  cases d0 : (x == 0)
  rotate_left
  · obtain ⟨v, c3, f3, _, h3⟩ := l1PickInt_ok h2 [0, 1, (-2), (-1)] (by decide)
    simp only [cond_true, f3, Option.bind_some]
    exact ⟨_, _, rfl, hsm _, h3⟩
  cases d1 : (x == 1)
  rotate_left
  · simp only [cond_true, cond_false]
    exact ⟨_, _, rfl, hsm _, h2⟩
  cases d2 : (x == 2)
  rotate_left
  · have hu := spec_l3Used_eq d (by have := hl.1; omega) (by have := hl.2.1; omega)
    obtain ⟨v, c3, f3, _, h3⟩ := l1PickInt_ok h2 [(-1), 5, (usedN d.1 : Int), w64 ((usedN d.1 : Int) + 3), 100000, 100001] (by simp)
    simp only [cond_true, cond_false, hu, f3, Option.bind_some]
    exact ⟨_, _, rfl, hsm _, h3⟩
  have hset : ∀ (f : FileT), 0 < d.1.length → f.1.length ≤ 20 → f.2.1 = (d.1.getD 0 ([], [], 0)).2.1 → dSmall (d.1.set 0 f, d.2) := by
    intro f h0 hf1 hf2
    have hu := usedN_set2 d.1 0 f h0
    rw [getD_lt h0] at hf2
    refine ⟨by show (d.1.set 0 f).length < _; rw [List.length_set]; have := hdl.1; omega, by show usedN (d.1.set 0 f) < _; rw [hf2] at hu; have := hdl.2.1; omega, fun g hg => ?_⟩
    rcases List.mem_or_eq_of_mem_set hg with hg | e
    · have := hdl.2.2 g hg; omega
    · rw [e]; omega
  have hb0 : 0 < d.1.length → inB 0 d.1.length = true ∧ rdA ([], [], 0) d.1 0 = d.1.getD 0 ([], [], 0) := fun h0 => by
    rw [show (0 : Int) = ((0 : Nat) : Int) from rfl]
    exact ⟨by rw [inB_nat]; simpa using h0, rdA_nat ..⟩
  have hn : ∀ y ∈ d.1, y.1.length ≤ 12 := fun y hy => by
    have := ((diskOk_iff d).1 hd).2.2.2.2.1 y hy
    unfold fileOk at this
    simp only [Bool.and_eq_true] at this
    exact nameOk_len this.1
  cases d3 : (x == 3)
  rotate_left
  · rcases Nat.eq_zero_or_pos d.1.length with h0 | h0
    · have : decide ((d.1.length : Int) > 0) = false := by rw [h0]; rfl
      simp only [cond_true, cond_false, this]
      exact ⟨_, _, rfl, hsm _, h2⟩
    · have : decide ((d.1.length : Int) > 0) = true := by simp; omega
      obtain ⟨v, c3, f3, _, _, _, h3⟩ := l1Below_ok h2 9
      obtain ⟨b1, b2⟩ := hb0 h0
      simp only [cond_true, cond_false, this, f3, Option.bind_some, b1, b2, Int.toNat_zero]
      refine ⟨_, _, rfl, hset _ h0 ?_ rfl, h3⟩
      rw [getD_lt h0]; have := hn _ (List.getElem_mem h0); simp only; omega
  cases d4 : (x == 4)
  rotate_left
  · rcases Nat.eq_zero_or_pos d.1.length with h0 | h0
    · have : decide ((d.1.length : Int) > 0) = false := by rw [h0]; rfl
      simp only [cond_true, cond_false, this]
      exact ⟨_, _, rfl, hsm _, h2⟩
    · have : decide ((d.1.length : Int) > 0) = true := by simp; omega
      obtain ⟨v, c3, f3, hv, h3⟩ := l1Pick_ok h2 ([[], [65], [122, 122], [116, 111, 111, 108, 111, 110, 103, 97, 110, 97, 109, 101, 49]] : List (List UInt8)) (by decide)
      obtain ⟨b1, b2⟩ := hb0 h0
      simp only [cond_true, cond_false, this, f3, Option.bind_some, b1, b2, Int.toNat_zero]
      refine ⟨_, _, rfl, hset _ h0 ?_ rfl, h3⟩
      simp only [List.mem_cons, List.not_mem_nil, or_false] at hv
      show v.length ≤ 20
      rcases hv with rfl | rfl | rfl | rfl <;> decide
  cases d5 : (x == 5)
  · simp only [cond_false]
    exact ⟨_, _, rfl, hsm _, h2⟩
  simp only [cond_true, cond_false]
  have hlen : d.1.length ≤ 130 := ((diskOk_iff d).1 hd).2.2.1
  have key := lp_ok (step := spec_l3Any.l1) (a := (c2, ([], 0, 0, false), d, ((0 : Nat) : Int))) (fun a => Cur a.1 ∧ a.2.1 = ([], 0, 0, false) ∧ usedN a.2.2.1.1 < 200000 ∧ (∀ f ∈ a.2.2.1.1, f.1.length < 200000) ∧ a.2.2.1.1.length ≤ 131 ∧ ∃ i : Nat, a.2.2.2 = (i : Int) ∧ i ≤ 131) (fun a => 200 - a.2.2.1.1.length) (fun b => Cur b.1 ∧ dSmall b.2.2)
    (fun rec a ha => by
      obtain ⟨c3, z, D, i⟩ := a
      obtain ⟨h3, hz, hu, hf, hl3, j, hj, hj2⟩ := ha
      simp only at h3 hz hu hf hl3 hj
      subst hz; subst hj
      obtain ⟨y, c4, e4, a4, b4, _, h4⟩ := l1Below_ok h3 3
      have b4 := b4 (by omega)
      have hw : w64 (129 + y) = 129 + y := w64_id (by omega) (by omega)
      by_cases q1 : (j : Int) < 129 + y
      rotate_left
      · left
        exact ⟨(c4, ([], 0, 0, false), D), by simp only [spec_l3Any.l1, e4, Option.bind_some, hw, q1, decide_false, cond_false], h4, by show D.1.length < _; omega, hu, hf⟩
      by_cases q2 : (D.1.length : Int) < 131
      rotate_left
      · left
        exact ⟨(c4, ([], 0, 0, false), D), by simp only [spec_l3Any.l1, e4, Option.bind_some, hw, q1, q2, decide_false, decide_true, cond_true, cond_false], h4, by show D.1.length < _; omega, hu, hf⟩
      right
      have e5 : w64 (100 + (j : Int)) = ((100 + j : Nat) : Int) := by rw [w64_id (by omega) (by omega)]; omega
      have e6 := spec_Dec_eq (100 + j) (by omega)
      have hdl2 := digits_len 3 (100 + j) (by show _ < 10000; omega)
      have hb1 : ([121] : List UInt8).length + (Lib.decDigits (100 + j)).length ≤ 9223372036854775807 := by show 1 + _ ≤ _; omega
      have hb2 : ∀ {α : Type} (x : α), decide ((D.1.length + [x].length) * 40 ≤ 140737488355328) = true := fun x => decide_eq_true (lim40 (by omega))
      have hw3 := w64_succ (show j + 1 < 9223372036854775808 by omega)
      refine ⟨(c4, ([], 0, 0, false), (D.1 ++ [([121] ++ Lib.decDigits (100 + j), [], 0)], D.2), ((j + 1 : Nat) : Int)), ⟨h4, rfl, ?_, ?_, ?_, j + 1, rfl, by omega⟩, ?_, ?_⟩
      · show usedN (D.1 ++ [_]) < _
        unfold usedN
        rw [sumN_snoc]
        exact hu
      · intro f hf2
        rcases List.mem_append.1 hf2 with hf2 | hf2
        · exact hf f hf2
        · rw [List.mem_singleton.1 hf2]; show (121 :: Lib.decDigits (100 + j)).length < _; simp only [List.length_cons]; omega
      · simp only [List.length_append, List.length_singleton]; omega
      · simp only [List.length_append, List.length_singleton]; omega
      · simp only [spec_l3Any.l1, e4, Option.bind_some, hw, q1, q2, decide_true, cond_true, e5, e6, hb1, hb2, hw3])
    ⟨h2, rfl, by have := hdl.2.1; simp only; omega, fun f hf => by have := hdl.2.2 f hf; omega, by simp only; omega, 0, rfl, by omega⟩ (by simp only; omega)
  obtain ⟨⟨c3, z, D⟩, e3, h3, hD⟩ := key
  have e3 : lp spec_l3Any.l1 (c2, ([], 0, 0, false), d, 0) = some (c3, z, D) := e3
  simp only [e3, Option.bind_some]
  exact ⟨_, _, rfl, hD, h3⟩

theorem drawAppend_ok (l : List Int) (hl : l.length < 2 ^ 60) : ∃ d n t, spec_DrawAppend.f l = some (d, n, t) ∧ dSmall d ∧ n.length ≤ 5 ∧ t.length ≤ 40 := by
  obtain ⟨c, e0, h0⟩ := l1New_ok l hl
  obtain ⟨d, c1, e1, hd, h1⟩ := l3Any_ok h0
  obtain ⟨n, c2, e2, hn, h2⟩ := l3Name_ok h1
  obtain ⟨t, c3, e3, ht, h3⟩ := l1Text_ok h2 40 (by omega) (by omega)
  unfold spec_DrawAppend.f
  simp only [e0, e1, e2, e3, Option.bind_some]
  exact ⟨d, n, t, rfl, hd, hn, by omega⟩

theorem spec_SameDisk_self (d : DiskT) (h : d.1.length < 1000000000) : spec_SameDisk.f d d = some true := by
  have key := all_loop (step := spec_SameDisk.l0) d.1 (fun _ => true) (fun n => (d, d, (n : Int))) () (by omega)
    (fun rec n h1 => by
      have hw := w64_succ (show n + 1 < 9223372036854775808 by omega)
      simp only [spec_SameDisk.l0, Int.ofNat_lt, h1, decide_true, cond_true, inB_nat, rdA_nat, getD_lt h1, beq_self_eq_true, Bool.and_self, Bool.not_true, cond_false, hw, if_true])
    (fun rec => by simp [spec_SameDisk.l0])
  have key : lp spec_SameDisk.l0 (d, d, 0) = _ := key
  unfold spec_SameDisk.f
  have hall : d.1.all (fun _ => true) = true := by simp
  rw [key, hall]
  simp only [bne_self_eq_false, cond_false, beq_self_eq_true, Bool.not_true, if_true, Option.bind_some, caseS_l]

theorem srt_inj {α : Type} {l : List (List UInt8 × α)} (h : srt l) {i j : Nat} (hi : i < l.length) (hj : j < l.length) (e : l[i].1 = l[j].1) : i = j := by
  unfold srt at h
  rw [List.pairwise_iff_getElem] at h
  rcases Nat.lt_trichotomy i j with c | c | c
  · have := h i j hi hj c; rw [e, less_irrefl] at this; simp at this
  · exact c
  · have := h j i hj hi c; rw [e, less_irrefl] at this; simp at this

theorem fileText_mem {d : DiskT} (h : diskOk d = true) {f : FileT} (hf : f ∈ d.1) : fileText d f.1 = (f.2.1, true) := by
  have hs := ((diskOk_iff d).1 h).2.2.2.2.2
  unfold fileText
  rw [if_neg (by rw [h]; simp)]
  rcases fileIx_cases d.1 f.1 with ⟨e, hno⟩ | ⟨i, hi, e, hn⟩
  · exact absurd rfl (hno f hf)
  · rw [ix_some e]
    obtain ⟨j, hj, ej⟩ := List.getElem_of_mem hf
    have : i = j := srt_inj hs hi hj (by rw [hn, ej])
    subst this
    simp only
    rw [getD_lt hi, ej]

theorem fileText_none {d : DiskT} {n : List UInt8} (h : ∀ f ∈ d.1, f.1 ≠ n) : (fileText d n).2 = false := by
  unfold fileText
  split
  · rfl
  · rcases fileIx_cases d.1 n with ⟨e, hno⟩ | ⟨i, hi, e, hn⟩
    · rw [ix_none e]
    · exact absurd hn (h _ (List.getElem_mem hi))

def dTrunc (n : List UInt8) (z : Int) (d : DiskT) : DiskT × Int := dstep d (actTrunc n z)

/-- When a step is done. -/
theorem dstep_zero {d : DiskT} {act : List FileT → Int × List FileT} (h : (dstep d act).2 = 0) : diskOk d = true ∧ (act d.1).1 = 0 ∧ (dstep d act).1 = ((act d.1).2, (tick d).2) := by
  unfold dstep at h ⊢
  split at h
  · simp at h
  rename_i c
  split at h
  · simp at h
  rename_i c2
  rw [if_neg c, if_neg c2]
  exact ⟨by simpa using c, h, rfl⟩

theorem appendTxt {d : DiskT} {n t : List UInt8} (h : (dAppend n t d).2 = 0) : (fileText d n).2 = true ∧ fileText (dAppend n t d).1 n = ((fileText d n).1 ++ t, true) := by
  obtain ⟨k, ha, hx⟩ := dstep_zero h
  have hk : diskOk (dAppend n t d).1 = true := dk_Append k n t
  have hx : (dAppend n t d).1 = _ := hx
  unfold actAppend at ha hx
  rcases fileIx_cases d.1 n with ⟨e, _⟩ | ⟨i, hi, e, hn⟩
  · rw [ix_none e] at ha; simp at ha
  rw [ix_some e] at ha hx
  simp only at ha hx
  split at ha
  · simp at ha
  rename_i c
  rw [if_neg c, getD_lt hi] at hx
  have e1 := fileText_mem k (List.getElem_mem hi)
  rw [hn] at e1
  have hm : ((n, d.1[i].2.1 ++ t, d.1[i].2.2) : FileT) ∈ (dAppend n t d).1.1 := by
    rw [hx, ← hn]
    exact List.mem_iff_getElem.2 ⟨i, by simpa using hi, by simp⟩
  have e2 := fileText_mem hk hm
  rw [e1]
  exact ⟨rfl, e2⟩

theorem removeTxt {d : DiskT} {n : List UInt8} (h : (dRemove n d).2 = 0) : (fileText (dRemove n d).1 n).2 = false := by
  obtain ⟨k, ha, hx⟩ := dstep_zero h
  have hx : (dRemove n d).1 = _ := hx
  unfold actRemove at ha hx
  rcases fileIx_cases d.1 n with ⟨e, _⟩ | ⟨i, hi, e, hn⟩
  · rw [ix_none e] at ha; simp at ha
  rw [ix_some e] at hx
  simp only at hx
  apply fileText_none
  rw [hx]
  intro f hf
  have := remIx_ne hi (diskOk_pw k) f hf
  rw [hn] at this
  exact this

theorem renameTxt {d : DiskT} {a b : List UInt8} (h : (dRename a b d).2 = 0) : fileText (dRename a b d).1 b = ((fileText d a).1, true) := by
  obtain ⟨k, ha, hx⟩ := dstep_zero h
  have hk : diskOk (dRename a b d).1 = true := dk_Rename k a b
  have hx : (dRename a b d).1 = _ := hx
  unfold actRename at ha hx
  split at ha
  · simp at ha
  rename_i c
  rw [if_neg c] at hx
  rcases fileIx_cases d.1 a with ⟨e, _⟩ | ⟨i, hi, e, hn⟩
  · rw [ix_none e] at ha; simp at ha
  rw [ix_some e] at hx
  simp only at hx
  have e1 := fileText_mem k (List.getElem_mem hi)
  rw [hn] at e1
  rw [e1]
  have hm : ((b, d.1[i].2) : FileT) ∈ (dRename a b d).1.1 := by
    rw [hx]
    simp only
    split
    · rename_i c2
      rw [← c2, ← hn]; exact List.getElem_mem hi
    · rw [mem_insB, getD_lt hi]; exact .inl rfl
  exact fileText_mem hk hm

/-- What is looked at behind each operation. -/
structure Chk (d x : DiskT) (c : Int) : Prop where
  sm : dl 1000000 x
  ok : c = 0 → diskOk x = true ∧ d.2.2.2 = false ∧ d.2.2.1 ≠ 0 ∧ (d.2.2.1 > 0 → x.2.2.1 = w64 (d.2.2.1 - 1))
  no : c ≠ 0 → ((x.1, x.2.1, d.2.2) : DiskT) = d ∧ (diskOk d = true → d.2.2.2 = true ∨ d.2.2.1 = 0 → c = 1)

theorem chk_dstep {d : DiskT} {act : List FileT → Int × List FileT} (hs : dl 1000000 (dstep d act).1) (hk : diskOk d = true → diskOk (dstep d act).1 = true) (ha : (act d.1).1 ≠ 0 → (act d.1).2 = d.1) : Chk d (dstep d act).1 (dstep d act).2 := by
  refine ⟨hs, fun h => ?_, fun h => ?_⟩
  · obtain ⟨k, h1, h2⟩ := dstep_zero h
    have hf := diskOk_fuel k
    refine ⟨hk k, ?_⟩
    unfold dstep at h
    rw [if_neg (by rw [k]; simp)] at h
    split at h
    · simp at h
    rename_i c
    simp only [not_or] at c
    refine ⟨by simpa using c.1, c.2, fun h3 => ?_⟩
    rw [h2, w64_id (by omega) (by omega)]
    show (tick d).2.2.1 = _
    unfold tick
    rw [if_pos h3]
  · unfold dstep at h ⊢
    by_cases k : diskOk d = false
    · rw [if_pos k] at h ⊢
      exact ⟨rfl, fun k2 => by rw [k] at k2; simp at k2⟩
    rw [if_neg k] at h ⊢
    by_cases c : d.2.2.2 = true ∨ d.2.2.1 = 0
    · rw [if_pos c] at h ⊢
      exact ⟨rfl, fun _ _ => rfl⟩
    rw [if_neg c] at h ⊢
    refine ⟨?_, fun _ k2 => absurd k2 c⟩
    have := ha h
    show ((act d.1).2, (tick d).2.1, d.2.2) = d
    rw [this, tick_cap]

theorem act_no_Append (cap : Int) (n t : List UInt8) (l : List FileT) : (actAppend cap n t l).1 ≠ 0 → (actAppend cap n t l).2 = l := by
  unfold actAppend
  split
  · split
    · intro _; rfl
    · intro h; exact absurd rfl h
  · intro _; rfl

theorem act_no_Create (n : List UInt8) (l : List FileT) : (actCreate n l).1 ≠ 0 → (actCreate n l).2 = l := by
  unfold actCreate
  split
  · intro _; rfl
  split
  · intro _; rfl
  split
  · intro _; rfl
  · intro h; exact absurd rfl h

theorem act_no_Sync (n : List UInt8) (l : List FileT) : (actSync n l).1 ≠ 0 → (actSync n l).2 = l := by
  unfold actSync
  split
  · intro h; exact absurd rfl h
  · intro _; rfl

theorem act_no_Rename (a b : List UInt8) (l : List FileT) : (actRename a b l).1 ≠ 0 → (actRename a b l).2 = l := by
  unfold actRename
  split
  · intro _; rfl
  split
  · intro h; exact absurd rfl h
  · intro _; rfl

theorem act_no_Remove (n : List UInt8) (l : List FileT) : (actRemove n l).1 ≠ 0 → (actRemove n l).2 = l := by
  unfold actRemove
  split
  · intro h; exact absurd rfl h
  · intro _; rfl

theorem act_no_Trunc (n : List UInt8) (z : Int) (l : List FileT) : (actTrunc n z l).1 ≠ 0 → (actTrunc n z l).2 = l := by
  unfold actTrunc
  split
  · split
    · intro h; exact absurd rfl h
    · intro _; rfl
  · intro _; rfl

theorem dl_Trunc {k : Nat} {d : DiskT} (h : dl k d) (n : List UInt8) (z : Int) : dl k (dTrunc n z d).1 :=
  dl_dstep h (Nat.le_refl _) (by
    unfold actTrunc
    rcases fileIx_cases d.1 n with ⟨e, _⟩ | ⟨i, hi, e, _⟩
    · rw [ix_none e]; exact h
    · rw [ix_some e]
      simp only
      rw [getD_lt hi]
      split
      · exact dl_set (c := 0) h i _ hi rfl (by simp only [List.length_take]; omega) (Nat.le_refl _)
      · exact h)

abbrev opsX (d : DiskT) (n t to : List UInt8) (z : Int) : List DiskT := [(dAppend n t d).1, (dCreate n d).1, (dSync n d).1, (dRename n to d).1, (dRemove n d).1, (dTrunc n z d).1]

abbrev opsC (d : DiskT) (n t to : List UInt8) (z : Int) : List Int := [(dAppend n t d).2, (dCreate n d).2, (dSync n d).2, (dRename n to d).2, (dRemove n d).2, (dTrunc n z d).2]

theorem chk_ops {d : DiskT} (h : dSmall d) (n t to : List UInt8) (z : Int) (hn : n.length ≤ 5) (ht : t.length ≤ 40) (hto : to.length ≤ 5) : ∀ k (h1 : k < (opsX d n t to z).length) (h2 : k < (opsC d n t to z).length), Chk d (opsX d n t to z)[k] (opsC d n t to z)[k] := by
  have h : dl 200000 d := h
  have c0 : Chk d (dAppend n t d).1 (dAppend n t d).2 := chk_dstep (dl_Append h n t (by omega)) (fun k => dk_Append k n t) (act_no_Append _ _ _ _)
  have c1 : Chk d (dCreate n d).1 (dCreate n d).2 := chk_dstep (dl_Create h n (by omega) (by omega)) (fun k => dk_Create k n) (act_no_Create _ _)
  have c2 : Chk d (dSync n d).1 (dSync n d).2 := chk_dstep (dl_mono (dl_Sync h n) (by omega)) (fun k => dk_Sync k n) (act_no_Sync _ _)
  have c3 : Chk d (dRename n to d).1 (dRename n to d).2 := chk_dstep (dl_Rename h n to (by omega) (by omega) (by omega)) (fun k => dk_Rename k n to) (act_no_Rename _ _ _)
  have c4 : Chk d (dRemove n d).1 (dRemove n d).2 := chk_dstep (dl_mono (dl_Remove h n) (by omega)) (fun k => dk_Remove k n) (act_no_Remove _ _)
  have c5 : Chk d (dTrunc n z d).1 (dTrunc n z d).2 := chk_dstep (dl_mono (dl_Trunc h n z) (by omega)) (fun k => dk_Trunc k n z) (act_no_Trunc _ _ _)
  intro k h1 h2
  have h1' : k < 6 := h1
  obtain rfl | rfl | rfl | rfl | rfl | rfl : k = 0 ∨ k = 1 ∨ k = 2 ∨ k = 3 ∨ k = 4 ∨ k = 5 := by omega
  · exact c0
  · exact c1
  · exact c2
  · exact c3
  · exact c4
  · exact c5

theorem FnDisk_l0 (l : List Int) (d : DiskT) (n t to : List UInt8) (a : Int) (ha : laws_at.f l 1 = some a) (h : dSmall d) (hn : n.length ≤ 5) (ht : t.length ≤ 40) (hto : to.length ≤ 5) :
    lp laws_FnDisk.l0 (l, d, n, t, to, [], [], 0) = some (d, n, t, to, opsX d n t to (Int.tmod a 12), opsC d n t to (Int.tmod a 12)) := by
  have hd : dlim d := dl_lim h (by omega)
  have e0 : impl_Append.f d n t = some (dAppend n t d) := impl_Append_eq d n t hd (by omega)
  have e1 : impl_Create.f d n = some (dCreate n d) := impl_Create_eq d n hd (by omega)
  have e2 : impl_Sync.f d n = some (dSync n d) := impl_Sync_eq d n hd
  have e3 : impl_Rename.f d n to = some (dRename n to d) := impl_Rename_eq d n to hd (by omega)
  have e4 : impl_Remove.f d n = some (dRemove n d) := impl_Remove_eq d n hd
  have e5 : impl_Truncate.f d n (Int.tmod a 12) = some (dTrunc n (Int.tmod a 12) d) := impl_Truncate_eq d n (Int.tmod a 12) hd
  have key := lp_up (step := laws_FnDisk.l0) (fun k (s : List DiskT × List Int) => (l, d, n, t, to, s.1, s.2, (k : Int))) 6 (fun k s => (d, n, t, to, s.1 ++ (opsX d n t to (Int.tmod a 12)).drop k, s.2 ++ (opsC d n t to (Int.tmod a 12)).drop k)) (fun k s => s.1.length = k ∧ s.2.length = k)
    (fun rec k s hk hi ih => by
      obtain ⟨X, C⟩ := s
      obtain ⟨hX, hC⟩ := hi
      simp only at hX hC
      have hb1 : ∀ {α : Type} (x : α), decide ((X.length + [x].length) * 48 ≤ 140737488355328) = true := fun x => decide_eq_true (lim48 (by omega))
      have hb2 : ∀ {α : Type} (x : α), decide ((C.length + [x].length) * 8 ≤ 140737488355328) = true := fun x => decide_eq_true (lim8 (by omega))
      have ih2 : ∀ (x : DiskT) (c : Int), k < 6 → rec (l, d, n, t, to, X ++ [x], C ++ [c], ((k + 1 : Nat) : Int)) = some (d, n, t, to, (X ++ [x]) ++ (opsX d n t to (Int.tmod a 12)).drop (k + 1), (C ++ [c]) ++ (opsC d n t to (Int.tmod a 12)).drop (k + 1)) := fun x c hk => ih (X ++ [x], C ++ [c]) hk ⟨by rw [List.length_append, hX]; rfl, by rw [List.length_append, hC]; rfl⟩
      have hw := w64_succ (show k + 1 < 9223372036854775808 by omega)
      clear ih hX hC
      obtain rfl | rfl | rfl | rfl | rfl | rfl | rfl : k = 0 ∨ k = 1 ∨ k = 2 ∨ k = 3 ∨ k = 4 ∨ k = 5 ∨ k = 6 := by omega
      · simp only [laws_FnDisk.l0, show decide (((0 : Nat) : Int) < 6) = true from rfl, show (((0 : Nat) : Int) == 0) = true from rfl, cond_true, e0, Option.bind_some, hb1, hb2, hw, ih2 _ _ (show 0 < 6 by decide), List.append_assoc]; rfl
      · simp only [laws_FnDisk.l0, show decide (((1 : Nat) : Int) < 6) = true from rfl, show (((1 : Nat) : Int) == 0) = false from rfl, show (((1 : Nat) : Int) == 1) = true from rfl, cond_true, cond_false, e1, Option.bind_some, hb1, hb2, hw, ih2 _ _ (show 1 < 6 by decide), List.append_assoc]; rfl
      · simp only [laws_FnDisk.l0, show decide (((2 : Nat) : Int) < 6) = true from rfl, show (((2 : Nat) : Int) == 0) = false from rfl, show (((2 : Nat) : Int) == 1) = false from rfl, show (((2 : Nat) : Int) == 2) = true from rfl, cond_true, cond_false, e2, Option.bind_some, hb1, hb2, hw, ih2 _ _ (show 2 < 6 by decide), List.append_assoc]; rfl
      · simp only [laws_FnDisk.l0, show decide (((3 : Nat) : Int) < 6) = true from rfl, show (((3 : Nat) : Int) == 0) = false from rfl, show (((3 : Nat) : Int) == 1) = false from rfl, show (((3 : Nat) : Int) == 2) = false from rfl, show (((3 : Nat) : Int) == 3) = true from rfl, cond_true, cond_false, e3, Option.bind_some, hb1, hb2, hw, ih2 _ _ (show 3 < 6 by decide), List.append_assoc]; rfl
      · simp only [laws_FnDisk.l0, show decide (((4 : Nat) : Int) < 6) = true from rfl, show (((4 : Nat) : Int) == 0) = false from rfl, show (((4 : Nat) : Int) == 1) = false from rfl, show (((4 : Nat) : Int) == 2) = false from rfl, show (((4 : Nat) : Int) == 3) = false from rfl, show (((4 : Nat) : Int) == 4) = true from rfl, cond_true, cond_false, e4, Option.bind_some, hb1, hb2, hw, ih2 _ _ (show 4 < 6 by decide), List.append_assoc]; rfl
      · simp only [laws_FnDisk.l0, show decide (((5 : Nat) : Int) < 6) = true from rfl, show (((5 : Nat) : Int) == 0) = false from rfl, show (((5 : Nat) : Int) == 1) = false from rfl, show (((5 : Nat) : Int) == 2) = false from rfl, show (((5 : Nat) : Int) == 3) = false from rfl, show (((5 : Nat) : Int) == 4) = false from rfl, cond_true, cond_false, ha, e5, Option.bind_some, hb1, hb2, hw, ih2 _ _ (show 5 < 6 by decide), List.append_assoc]; rfl
      · simp only [laws_FnDisk.l0, show decide (((6 : Nat) : Int) < 6) = false from rfl, cond_false, List.drop_succ_cons, List.drop_nil, List.drop_zero, List.append_nil])
    (by decide) 0 ([], []) (Nat.zero_le _) ⟨rfl, rfl⟩
  exact key

theorem FnDisk_l3 (d : DiskT) (n t to : List UInt8) (X : List DiskT) (C : List Int) (h : dSmall d) (hl : X.length = C.length) (hx : X.length < 1000000) (hc : ∀ k (h1 : k < X.length) (h2 : k < C.length), Chk d X[k] C[k]) :
    lp laws_FnDisk.l3 (d, n, t, to, X, C, 0) = some (.inl (d, n, t, to, X, C)) := by
  have key := lp_up (step := laws_FnDisk.l3) (fun k (_ : Unit) => (d, n, t, to, X, C, (k : Int))) X.length (fun _ _ => .inl (d, n, t, to, X, C)) (fun _ _ => True)
    (fun rec k s hk _ ih => by
      rcases Nat.lt_or_ge k X.length with h1 | h1
      · have h2 : k < C.length := by omega
        have hw := w64_succ (show k + 1 < 9223372036854775808 by omega)
        have c := hc k h1 h2
        have ih := ih () h1 trivial
        have hd : dlim d := dl_lim h (by omega)
        have hxl : dlim X[k] := dl_lim c.sm (by omega)
        simp only [laws_FnDisk.l3, Int.ofNat_lt, h1, h2, decide_true, cond_true, inB_nat, rdA_nat, getD_lt h1, getD_lt h2]
        by_cases c0 : C[k] = 0
        · have d0 : (C[k] == 0) = true := by simpa using c0
          obtain ⟨q1, q2, q3, q4⟩ := c.ok c0
          have e1 : spec_DiskOk.f (X[k].1, X[k].2.1, X[k].2.2.1, X[k].2.2.2) = some (diskOk X[k]) := spec_DiskOk_eq X[k] hxl
          have d3 : (d.2.2.1 == 0) = false := by simpa using q3
          simp only [d0, cond_true, e1, q1, q2, d3, Option.bind_some, Bool.not_true, cond_false]
          by_cases c1 : d.2.2.1 > 0
          · simp only [c1, decide_true, cond_true, q4 c1, bne_self_eq_false, cond_false, Option.bind_some, caseS_l, hw, ih]
          · simp only [c1, decide_false, cond_false, Option.bind_some, caseS_l, hw, ih]
        · have d0 : (C[k] == 0) = false := by simpa using c0
          obtain ⟨q1, q2⟩ := c.no c0
          have e1 : spec_SameDisk.f (X[k].1, X[k].2.1, d.2.2) d = some true := by rw [q1]; exact spec_SameDisk_self d (by have := hd.1; omega)
          simp only [d0, cond_false, e1, Option.bind_some, Bool.not_true, spec_DiskOk_eq d hd]
          rcases Bool.eq_false_or_eq_true (diskOk d) with k1 | k1
          rotate_left
          · simp only [k1, cond_false, Option.bind_some, caseS_l, hw, ih]
          rcases Bool.eq_false_or_eq_true d.2.2.2 with k2 | k2
          · have e2 := q2 k1 (.inl k2)
            simp only [k1, k2, cond_true, h2, decide_true, e2, bne_self_eq_false, cond_false, Option.bind_some, caseS_l, hw, ih]
          · by_cases k3 : d.2.2.1 = 0
            · have e2 := q2 k1 (.inr k3)
              have d3 : (d.2.2.1 == 0) = true := by simpa using k3
              simp only [k1, k2, d3, cond_true, h2, decide_true, e2, bne_self_eq_false, cond_false, Option.bind_some, caseS_l, hw, ih]
            · have d3 : (d.2.2.1 == 0) = false := by simpa using k3
              simp only [k1, k2, d3, cond_true, cond_false, Option.bind_some, caseS_l, hw, ih]
      · have : k = X.length := by omega
        subst this
        simp [laws_FnDisk.l3])
    (by omega) 0 () (Nat.zero_le _) trivial
  exact key

theorem FnDisk_true (x0 : List Int) (w0 : wfD (.sl false (.int .u8)) x0) : laws_FnDisk.f x0 = some true := by
  unfold laws_FnDisk.f
  rw [big_eq, Option.bind_some]
  by_cases cb : (x0.length : Int) > 1048576
  · simp [cb]
  simp only [cb, decide_false, cond_false]
  have hbytes : ∀ x ∈ x0, 0 ≤ x ∧ x ≤ 255 := fun x hx => w0.2 x hx
  obtain ⟨a0, ea0, p0, p1⟩ := at_eq x0 hbytes 0 (by omega) (by omega)
  obtain ⟨a1, ea1, _, _⟩ := at_eq x0 hbytes 1 (by omega) (by omega)
  have ea0 : laws_at.f x0 0 = some a0 := ea0
  have ea1 : laws_at.f x0 1 = some a1 := ea1
  obtain ⟨d, n, t, ed, hd, hn, ht⟩ := drawAppend_ok x0 (by omega)
  simp only [ed, ea0, Option.bind_some]
  have hto : ∃ to : List UInt8, inB (Int.tmod a0 4) [[108, 105, 118, 101], [115, 101, 103, 49], [120], [116, 101, 109, 112]].length = true ∧ rdA ([] : List UInt8) [[108, 105, 118, 101], [115, 101, 103, 49], [120], [116, 101, 109, 112]] (Int.tmod a0 4) = to ∧ to.length ≤ 5 := by
    obtain ⟨m, rfl⟩ : ∃ m : Nat, a0 = (m : Int) := ⟨a0.toNat, by omega⟩
    rw [show Int.tmod (m : Int) 4 = ((m % 4 : Nat) : Int) from rfl]
    have : m % 4 < 4 := Nat.mod_lt _ (by decide)
    obtain h | h | h | h : m % 4 = 0 ∨ m % 4 = 1 ∨ m % 4 = 2 ∨ m % 4 = 3 := by omega
    all_goals (rw [h]; exact ⟨_, rfl, rfl, by decide⟩)
  obtain ⟨to, e1, e2, e3⟩ := hto
  have hdl : dl 200000 d := hd
  have hck := chk_ops hd n t to (Int.tmod a1 12) hn ht e3
  simp only [e1, e2, cond_true, FnDisk_l0 x0 d n t to a1 ea1 hd hn ht e3, Option.bind_some, FnDisk_l3 d n t to (opsX d n t to (Int.tmod a1 12)) (opsC d n t to (Int.tmod a1 12)) hd rfl (show 6 < 1000000 by decide) hck, caseS_l]
  have f0 : impl_FileText.f (dAppend n t d).1 n = some (fileText (dAppend n t d).1 n) := impl_FileText_eq _ _ (dl_lim (hck 0 (show 0 < 6 by decide) (show 0 < 6 by decide)).sm (by omega))
  have f4 : impl_FileText.f (dRemove n d).1 n = some (fileText (dRemove n d).1 n) := impl_FileText_eq _ _ (dl_lim (hck 4 (show 4 < 6 by decide) (show 4 < 6 by decide)).sm (by omega))
  have f3 : impl_FileText.f (dRename n to d).1 to = some (fileText (dRename n to d).1 to) := impl_FileText_eq _ _ (dl_lim (hck 3 (show 3 < 6 by decide) (show 3 < 6 by decide)).sm (by omega))
  have fd : spec_FileText.f d n = some (fileText d n) := spec_FileText_eq d n (dl_lim hdl (by omega))
  have hlen := fileText_len d n (dl_lim hdl (by omega))
  have hub := hdl.2.1
  have b0 : inB 0 (opsX d n t to (Int.tmod a1 12)).length = true := rfl
  have b3 : inB 3 (opsX d n t to (Int.tmod a1 12)).length = true := rfl
  have b4 : inB 4 (opsX d n t to (Int.tmod a1 12)).length = true := rfl
  have g0 : inB 0 (opsC d n t to (Int.tmod a1 12)).length = true := rfl
  have g3 : inB 3 (opsC d n t to (Int.tmod a1 12)).length = true := rfl
  have g4 : inB 4 (opsC d n t to (Int.tmod a1 12)).length = true := rfl
  have r0 : rdA (([], 0, 0, false) : DiskT) (opsX d n t to (Int.tmod a1 12)) 0 = (dAppend n t d).1 := rfl
  have r3 : rdA (([], 0, 0, false) : DiskT) (opsX d n t to (Int.tmod a1 12)) 3 = (dRename n to d).1 := rfl
  have r4 : rdA (([], 0, 0, false) : DiskT) (opsX d n t to (Int.tmod a1 12)) 4 = (dRemove n d).1 := rfl
  have s0 : rdA 0 (opsC d n t to (Int.tmod a1 12)) 0 = (dAppend n t d).2 := rfl
  have s3 : rdA 0 (opsC d n t to (Int.tmod a1 12)) 3 = (dRename n to d).2 := rfl
  have s4 : rdA 0 (opsC d n t to (Int.tmod a1 12)) 4 = (dRemove n d).2 := rfl
  have hb : (fileText d n).1.length + t.length ≤ 9223372036854775807 := by omega
  simp only [fd, Option.bind_some, b0, b3, b4, g0, g3, g4, r0, r3, r4, s0, s3, s4, cond_true, f0, f3, f4, hb, decide_true]
  have last : (bif (dRename n to d).2 != 0 then some true else bif (fileText (dRename n to d).1 to).2 then some ((fileText (dRename n to d).1 to).1 == (fileText d n).1) else some false) = some true := by
    by_cases c : (dRename n to d).2 = 0
    · have := renameTxt c
      rw [this, c]
      simp
    · have d1 : ((dRename n to d).2 != 0) = true := by simpa using c
      rw [d1]; rfl
  have mid : (bif (dRemove n d).2 == 0 then bif (fileText (dRemove n d).1 n).2 then some false else (bif (dRename n to d).2 != 0 then some true else bif (fileText (dRename n to d).1 to).2 then some ((fileText (dRename n to d).1 to).1 == (fileText d n).1) else some false) else (bif (dRename n to d).2 != 0 then some true else bif (fileText (dRename n to d).1 to).2 then some ((fileText (dRename n to d).1 to).1 == (fileText d n).1) else some false)) = some true := by
    rw [last]
    by_cases c : (dRemove n d).2 = 0
    · rw [removeTxt c]; cases ((dRemove n d).2 == 0) <;> rfl
    · have d1 : ((dRemove n d).2 == 0) = false := by simpa using c
      rw [d1]; rfl
  by_cases c : (dAppend n t d).2 = 0
  · obtain ⟨q1, q2⟩ := appendTxt c
    have d1 : ((dAppend n t d).2 == 0) = true := by simpa using c
    simp only [d1, cond_true, q1, q2, Bool.not_true, cond_false, beq_self_eq_true]
    exact mid
  · have d1 : ((dAppend n t d).2 == 0) = false := by simpa using c
    simp only [d1, cond_false]
    exact mid

end Go.Rf.G
