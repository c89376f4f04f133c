/- Plain laws: what the plain functions answer. -/
import Derived.Test.YtaijmhaonokniaaRf5
import Derived.Test.YtaijmhaonokniaaLFoldsFns
namespace Go.Rf.G
open Go Go.Rf
set_option linter.unusedVariables false
set_option linter.unusedSimpArgs false
set_option synthInstance.maxSize 4000

/-- A loop that counts up to N. -/
theorem lp_up {A B σ : Type} {step : (A → Option B) → A → Option B} (st : Nat → σ → A) (N : Nat) (F : Nat → σ → B) (Inv : Nat → σ → Prop)
    (h : ∀ rec n s, n ≤ N → Inv n s → (∀ s', n < N → Inv (n + 1) s' → rec (st (n + 1) s') = some (F (n + 1) s')) → step rec (st n s) = some (F n s))
    (hN : N < 2 ^ 62) : ∀ n s, n ≤ N → Inv n s → lp step (st n s) = some (F n s) := by
  have key : ∀ k f n s, n ≤ N → Inv n s → N - n = k → k < f → loopF step f (st n s) = some (F n s) := by
    intro k
    induction k with
    | zero =>
      intro f n s hn hi hk hf
      obtain ⟨f, rfl⟩ : ∃ g, f = g + 1 := ⟨f - 1, by omega⟩
      exact h _ n s hn hi fun s' hlt => by omega
    | succ k ih =>
      intro f n s hn hi hk hf
      obtain ⟨f, rfl⟩ : ∃ g, f = g + 1 := ⟨f - 1, by omega⟩
      exact h _ n s hn hi fun s' hlt hi' => ih f (n + 1) s' hlt hi' (by omega) (by omega)
  intro n s hn hi
  exact key (N - n) FUEL n s hn hi rfl (Nat.lt_of_lt_of_le (by omega) fuel_le)

@[simp] theorem inB_nat (n m : Nat) : inB (n : Int) m = decide (n < m) := by
  unfold inB
  by_cases h : n < m <;> simp [h, Int.natCast_nonneg]

@[simp] theorem rdA_nat {α : Type} (z : α) (xs : List α) (n : Nat) : rdA z xs (n : Int) = xs.getD n z := rfl

theorem w64_id {n : Int} (h1 : -9223372036854775808 ≤ n) (h2 : n < 9223372036854775808) : w64 n = n := by
  unfold w64 IntKind.wrap
  simp only [IntKind.bits, IntKind.signed]
  by_cases h : n % 2 ^ 64 ≥ 2 ^ 63 <;> simp [h] <;> omega

theorem w64_nat {n : Nat} (h : n < 9223372036854775808) : w64 (n : Int) = n := w64_id (by omega) (by omega)

theorem w64_succ {n : Nat} (h : n + 1 < 9223372036854775808) : w64 ((n : Int) + 1) = ((n + 1 : Nat) : Int) := by
  rw [w64_id (by omega) (by omega)]; omega

theorem getD_lt {α : Type} {xs : List α} {z : α} {n : Nat} (h : n < xs.length) : xs.getD n z = xs[n] := by simp [List.getD, h]

/-- Two rows alike from place n on. -/
theorem drop_eq_iff {α : Type} {a b : List α} {n : Nat} (h1 : n < a.length) (h2 : n < b.length) : a.drop n = b.drop n ↔ a[n] = b[n] ∧ a.drop (n + 1) = b.drop (n + 1) := by
  rw [List.drop_eq_getElem_cons h1, List.drop_eq_getElem_cons h2, List.cons.injEq]

def sumN {α : Type} (f : α → Nat) : List α → Nat
  | [] => 0
  | x :: r => f x + sumN f r

theorem sumN_drop {α : Type} (f : α → Nat) {l : List α} {n : Nat} (h : n < l.length) : sumN f (l.drop n) = f l[n] + sumN f (l.drop (n + 1)) := by
  rw [List.drop_eq_getElem_cons h]; rfl

theorem eq_loop {X : Type} [DecidableEq X] {step : (List X × List X × Int → Option (Unit ⊕ Bool)) → List X × List X × Int → Option (Unit ⊕ Bool)} (a b : List X) (hl : a.length = b.length) (ha : a.length < 2 ^ 62)
    (hs : ∀ rec (n : Nat), (h1 : n < a.length) → (h2 : n < b.length) → step rec (a, b, (n : Int)) = if a[n] = b[n] then rec (a, b, ((n + 1 : Nat) : Int)) else some (.inr false))
    (he : ∀ rec, step rec (a, b, (a.length : Int)) = some (.inl ())) : lp step (a, b, 0) = some (if a = b then .inl () else .inr false) := by
  have := lp_up (step := step) (fun n (_ : Unit) => (a, b, (n : Int))) a.length (fun n _ => if a.drop n = b.drop n then .inl () else .inr false) (fun _ _ => True)
    (fun rec n s hn _ ih => by
      rcases Nat.lt_or_ge n a.length with h | h
      · rw [hs rec n h (by omega), ih () h trivial]
        by_cases hc : a[n] = b[n]
        · rw [if_pos hc]; simp only [drop_eq_iff h (by omega : n < b.length), hc, true_and]
        · rw [if_neg hc, if_neg fun k => hc ((drop_eq_iff h (by omega)).1 k).1]
      · have : n = a.length := by omega
        subst this
        rw [he]
        simp [hl])
    ha 0 () (Nat.zero_le _) trivial
  simpa using this

def markL {X : Type} (mk : Int → X → X) (c : Nat) : List X → Int → List X
  | [], _ => []
  | x :: r, k => mk k x :: markL mk c r (k + c)

@[simp] theorem markL_len {X : Type} (mk : Int → X → X) (c : Nat) : ∀ (l : List X) (k : Int), (markL mk c l k).length = l.length
  | [], _ => rfl
  | x :: r, k => by simp [markL, markL_len mk c r]

theorem fold_loop {X A B S : Type} {step : (A → Option B) → A → Option B} (l : List X) (g : S → X → S) (st : Nat → S → A) (out : S → B) (Inv : Nat → S → Prop) (hl : l.length < 2 ^ 62)
    (hs : ∀ rec n s, (h : n < l.length) → Inv n s → step rec (st n s) = rec (st (n + 1) (g s l[n])))
    (hi : ∀ n s, (h : n < l.length) → Inv n s → Inv (n + 1) (g s l[n]))
    (he : ∀ rec s, Inv l.length s → step rec (st l.length s) = some (out s)) (s : S) (h0 : Inv 0 s) : lp step (st 0 s) = some (out (l.foldl g s)) := by
  have := lp_up (step := step) st l.length (fun n s => out ((l.drop n).foldl g s)) Inv
    (fun rec n s hn hv ih => by
      rcases Nat.lt_or_ge n l.length with h | h
      · rw [hs rec n s h hv, ih _ h (hi n s h hv), List.drop_eq_getElem_cons h]; rfl
      · have : n = l.length := by omega
        subst this
        rw [he rec s hv]; simp) hl 0 s (Nat.zero_le _) h0
  simpa using this

@[simp] theorem caseS_l {A B C : Type} (a : A) (f : A → C) (g : B → C) : caseS (.inl a) f g = f a := rfl

@[simp] theorem caseS_r {A B C : Type} (b : B) (f : A → C) (g : B → C) : caseS (.inr b) f g = g b := rfl

theorem pair_eta {A B : Type} (p : A × B) : (p.1, p.2) = p := rfl

theorem and3_beq {A B C : Type} [BEq A] [BEq B] [BEq C] [LawfulBEq A] [LawfulBEq B] [LawfulBEq C] [DecidableEq (A × B × C)] (x y : A × B × C) : (x.1 == y.1 && (x.2.1 == y.2.1 && x.2.2 == y.2.2)) = decide (x = y) := by
  obtain ⟨a, b, c⟩ := x
  obtain ⟨d, e, f⟩ := y
  by_cases h1 : a = d
  · by_cases h2 : b = e
    · by_cases h3 : c = f
      · simp [h1, h2, h3]
      · have : (c == f) = false := by simpa using h3
        simp [h1, h2, h3, this]
    · have : (b == e) = false := by simpa using h2
      simp [h1, h2, this]
  · have : (a == d) = false := by simpa using h1
    simp [h1, this]

theorem len_ne {a b : Nat} (h : a ≠ b) : ((a : Int) != (b : Int)) = true := by
  have : (a : Int) ≠ (b : Int) := by omega
  simpa using this

theorem len_eq {a b : Nat} (h : a = b) : ((a : Int) != (b : Int)) = false := by simp [h]

theorem bif_dec {β : Type} {P : Prop} [Decidable P] (a b : β) : (bif !decide P then a else b) = if P then b else a := by
  by_cases h : P <;> simp [h]

theorem spec_SamePairs_eq (a b : List (List UInt8 × List UInt8 × Int)) (ha : a.length < 2 ^ 62) : spec_SamePairs.f a b = some (decide (a = b)) := by
  unfold spec_SamePairs.f
  by_cases hl : a.length = b.length
  rotate_left
  · have : a ≠ b := fun h => hl (by rw [h])
    rw [len_ne hl]; simp [this]
  rw [len_eq hl, cond_false, eq_loop a b hl ha (fun rec n h1 h2 => ?_) (fun rec => ?_)]
  · by_cases e : a = b <;> simp [e]
  · simp only [spec_SamePairs.l0, Int.ofNat_lt, h1, h2, decide_true, cond_true, inB_nat, rdA_nat, getD_lt h1, getD_lt h2, w64_succ (show n + 1 < 9223372036854775808 by omega), and3_beq, bif_dec]
  · simp [spec_SamePairs.l0]

def keyOk (s : List UInt8) : Bool := decide (1 ≤ s.length ∧ s.length ≤ 8)

def putOk (p : List UInt8 × Bool × List UInt8) : Bool := keyOk p.1 && (decide (p.2.2.length ≤ 24) && (!p.2.1 || p.2.2 == []))

/-- The last one of a key. -/
def lastOf (l : List (List UInt8 × Bool × List UInt8)) (key : List UInt8) : Option (List UInt8 × Bool × List UInt8) := l.reverse.find? fun p => p.1 == key

abbrev PutT := List UInt8 × Bool × List UInt8

abbrev PairT := List UInt8 × List UInt8 × Int

/-- One list grows cell by cell. -/
theorem snoc_ind {α : Type} {P : List α → Prop} (h0 : P []) (hs : ∀ l x, P l → P (l ++ [x])) : ∀ l, P l := by
  have key : ∀ n (l : List α), l.length = n → P l := by
    intro n
    induction n with
    | zero => intro l h; rw [List.eq_nil_of_length_eq_zero h]; exact h0
    | succ n ih =>
      intro l h
      have hlt : n < l.length := by omega
      have e : l.take n ++ [l[n]] = l := by
        rw [← List.take_succ_eq_append_getElem hlt, List.take_of_length_le (by omega)]
      rw [← e]
      exact hs _ _ (ih _ (by simp; omega))
  exact fun l => key l.length l rfl

theorem lim40 {a : Nat} (h : a < 1000000000001) : (a + 1) * 40 ≤ 140737488355328 := by omega

def leK (a b : List UInt8) : Bool := Op.bytesLess a b || a == b

/-- One ahead of the first of a greater key. -/
def insB {α : Type} (l : List (List UInt8 × α)) (p : List UInt8 × α) : List (List UInt8 × α) :=
  let k := (l.takeWhile fun x => leK x.1 p.1).length
  l.take k ++ [p] ++ l.drop k

def dropK {α : Type} (l : List (List UInt8 × α)) (key : List UInt8) : List (List UInt8 × α) := l.filter fun x => !(x.1 == key)

theorem insB_len {α : Type} (l : List (List UInt8 × α)) (p : List UInt8 × α) : (insB l p).length = l.length + 1 := by
  have : (l.takeWhile fun x => leK x.1 p.1).length ≤ l.length := (List.takeWhile_sublist _).length_le
  simp only [insB, List.length_append, List.length_take, List.length_drop, List.length_cons, List.length_nil]; omega

theorem dropK_len {α : Type} (l : List (List UInt8 × α)) (key : List UInt8) : (dropK l key).length ≤ l.length := List.length_filter_le _ _

theorem foldl_filter {α : Type} (f : α → Bool) : ∀ (l s : List α), l.foldl (fun s x => if f x = true then s ++ [x] else s) s = s ++ l.filter f
  | [], s => by simp
  | x :: l, s => by
    rw [List.foldl_cons, foldl_filter f l, List.filter_cons]
    cases f x <;> simp

def foldStep (b : Int) (l : List PairT) (p : PutT) : List PairT := if p.2.1 = true then dropK l p.1 else insB (dropK l p.1) (p.1, p.2.2, b)

def foldP (l : List PairT) (puts : List PutT) (b : Int) : List PairT := puts.foldl (foldStep b) l

theorem foldStep_len (b : Int) (l : List PairT) (p : PutT) : (foldStep b l p).length ≤ l.length + 1 := by
  have := dropK_len l p.1
  unfold foldStep; split
  · omega
  · rw [insB_len]; omega

theorem foldP_len (b : Int) : ∀ (puts : List PutT) (l : List PairT), (foldP l puts b).length ≤ l.length + puts.length
  | [], l => by simp [foldP]
  | p :: puts, l => by
    have h1 := foldP_len b puts (foldStep b l p)
    have h2 := foldStep_len b l p
    show (foldP (foldStep b l p) puts b).length ≤ _
    simp only [List.length_cons]; omega

theorem impl_copyPairs_eq (l : List PairT) (hl : l.length < 2 ^ 40) : impl_copyPairs.f l = some l := by
  unfold impl_copyPairs.f
  have : (([] : List PairT).length + l.length) * 40 ≤ 140737488355328 := by simp; omega
  simp only [this, decide_true, cond_true, List.nil_append]

theorem impl_without_eq (l : List PairT) (key : List UInt8) (hl : l.length < 2 ^ 40) : impl_without.f l key = some (dropK l key) := by
  have hk := fold_loop (step := impl_without.l0) l (fun s x => if (!(x.1 == key)) = true then s ++ [x] else s) (fun n (s : List PairT) => (key, s, l, (l.length : Int), (n : Int))) id (fun n s => s.length ≤ n) (by omega)
    (fun rec n s h hi => by
      have hb : (s.length + [l[n]].length) * 40 ≤ 140737488355328 := by simp; omega
      have hw : w64 ((n : Int) + 1) = ((n + 1 : Nat) : Int) := w64_succ (show n + 1 < 9223372036854775808 by omega)
      simp only [impl_without.l0, Int.ofNat_lt, h, decide_true, cond_true, inB_nat, rdA_nat, getD_lt h, pair_eta, hb, w64_succ (show n + 1 < 9223372036854775808 by omega)]
      cases l[n].1 == key <;> simp [hw])
    (fun n s h hi => by
      have : ∀ b : Bool, (if b = true then s ++ [l[n]] else s).length ≤ n + 1 := fun b => by cases b <;> simp <;> omega
      exact this _)
    (fun rec s hi => by simp [impl_without.l0]) [] (by simp)
  have hk : lp impl_without.l0 (key, [], l, (l.length : Int), 0) = _ := hk
  unfold impl_without.f
  rw [hk, foldl_filter]; rfl

theorem takeWhile_drop {α : Type} (f : α → Bool) (l : List α) (n : Nat) (h : n < l.length) : ((l.drop n).takeWhile f).length = if f l[n] = true then ((l.drop (n + 1)).takeWhile f).length + 1 else 0 := by
  rw [List.drop_eq_getElem_cons h, List.takeWhile_cons]
  split <;> simp

theorem impl_Fold_l2 (x2 : Int) (rest : List PairT) (p : PutT) (x13 : List PutT) (x14 x15 : Int) (hl : rest.length < 2 ^ 62) :
    lp impl_Fold.l2 (x2, rest, p, 0, x13, x14, x15) = some (x2, rest, p, ((rest.takeWhile fun x => leK x.1 p.1).length : Int), x13, x14, x15) := by
  have key := lp_up (step := impl_Fold.l2) (fun n (_ : Unit) => (x2, rest, p, (n : Int), x13, x14, x15)) rest.length (fun n _ => (x2, rest, p, ((n + ((rest.drop n).takeWhile fun x => leK x.1 p.1).length : Nat) : Int), x13, x14, x15)) (fun _ _ => True)
    (fun rec n s hn _ ih => by
      rcases Nat.lt_or_ge n rest.length with h | h
      · rw [takeWhile_drop _ _ _ h]
        simp only [impl_Fold.l2, Int.ofNat_lt, h, decide_true, cond_true, inB_nat, rdA_nat, getD_lt h, w64_succ (show n + 1 < 9223372036854775808 by omega)]
        show (bif leK rest[n].1 p.1 then _ else _) = _
        cases leK rest[n].1 p.1
        · simp
        · simp only [cond_true, if_true]
          rw [ih () h trivial]
          congr 4; congr 1; omega
      · have : n = rest.length := by omega
        subst this
        simp [impl_Fold.l2])
    hl 0 () (Nat.zero_le _) trivial
  simpa using key

theorem impl_Fold_eq (l : List PairT) (puts : List PutT) (b : Int) (hl : l.length + puts.length < 2 ^ 40) : impl_Fold.f l puts b = some (foldP l puts b) := by
  have hk := fold_loop (step := impl_Fold.l0) puts (foldStep b) (fun n (s : List PairT) => (b, s, puts, (puts.length : Int), (n : Int))) id (fun n s => s.length ≤ l.length + n) (by omega)
    (fun rec n s h hi => by
      have hd := dropK_len s puts[n].1
      have hw : w64 ((n : Int) + 1) = ((n + 1 : Nat) : Int) := w64_succ (show n + 1 < 9223372036854775808 by omega)
      have htw : ((dropK s puts[n].1).takeWhile fun x => leK x.1 puts[n].1).length ≤ (dropK s puts[n].1).length := (List.takeWhile_sublist _).length_le
      simp only [impl_Fold.l0, Int.ofNat_lt, h, decide_true, cond_true, inB_nat, rdA_nat, getD_lt h, impl_without_eq s _ (show s.length < 2 ^ 40 by omega), Option.bind_some, pair_eta, impl_Fold_l2 b (dropK s puts[n].1) puts[n] puts _ _ (by omega), w64_succ (show n + 1 < 9223372036854775808 by omega)]
      unfold foldStep
      cases hdel : puts[n].2.1
      · generalize hk : ((dropK s puts[n].1).takeWhile fun x => leK x.1 puts[n].1).length = k at *
        have c1 : (0 : Int) ≤ (k : Int) := by omega
        have c2 : (k : Int) ≤ ((dropK s puts[n].1).length : Int) := by omega
        have c3 : (List.take k (dropK s puts[n].1)).length < 2 ^ 40 := by simp; omega
        simp only [cond_false, c1, c2, decide_true, Bool.and_self, cond_true, Int.toNat_natCast, impl_copyPairs_eq _ c3, Option.bind_some]
        have c4 : ((List.take k (dropK s puts[n].1)).length + [(puts[n].1, puts[n].2.2, b)].length) * 40 ≤ 140737488355328 := by simp; omega
        simp only [c4, decide_true, cond_true]
        have c5 : ((List.take k (dropK s puts[n].1) ++ [(puts[n].1, puts[n].2.2, b)]).length + (List.drop k (dropK s puts[n].1)).length) * 40 ≤ 140737488355328 := by simp; omega
        simp only [c5, decide_true, cond_true, Option.bind_some]
        have hins : insB (dropK s puts[n].1) (puts[n].1, puts[n].2.2, b) = List.take k (dropK s puts[n].1) ++ [(puts[n].1, puts[n].2.2, b)] ++ List.drop k (dropK s puts[n].1) := by
          unfold insB; simp only [hk]
        simp [hins, hw]
      · simp [hw])
    (fun n s h hi => by have := foldStep_len b s puts[n]; omega)
    (fun rec s hi => by simp [impl_Fold.l0]) l (by simp)
  have hk : lp impl_Fold.l0 (b, l, puts, (puts.length : Int), 0) = _ := hk
  unfold impl_Fold.f
  rw [impl_copyPairs_eq l (by omega), Option.bind_some, hk]; rfl

def setStep (p : PairT) (s : List PairT × Bool) (x : PairT) : List PairT × Bool :=
  if (x.1 == p.1) = true then s else if s.2 = false ∧ leK x.1 p.1 = false then (s.1 ++ [p] ++ [x], true) else (s.1 ++ [x], s.2)

theorem setStep_len (p : PairT) (s : List PairT × Bool) (x : PairT) : (setStep p s x).1.length ≤ s.1.length + 2 := by
  unfold setStep; split
  · omega
  · split <;> simp <;> omega

theorem set_true (p : PairT) : ∀ (l out : List PairT), l.foldl (setStep p) (out, true) = (out ++ dropK l p.1, true)
  | [], out => by simp [dropK]
  | x :: l, out => by
    rw [List.foldl_cons]
    by_cases h : (x.1 == p.1) = true
    · have e1 : setStep p (out, true) x = (out, true) := by unfold setStep; rw [if_pos h]
      rw [e1, set_true p l]
      simp [dropK, h]
    · have e1 : setStep p (out, true) x = (out ++ [x], true) := by unfold setStep; rw [if_neg h, if_neg (by simp)]
      rw [e1, set_true p l]
      simp [dropK, h]

theorem set_false (p : PairT) : ∀ (l out : List PairT), (let s := l.foldl (setStep p) (out, false); if s.2 = true then s.1 else s.1 ++ [p]) = out ++ insB (dropK l p.1) p
  | [], out => by simp [dropK, insB]
  | x :: l, out => by
    rw [List.foldl_cons]
    by_cases h : (x.1 == p.1) = true
    · have e1 : setStep p (out, false) x = (out, false) := by unfold setStep; rw [if_pos h]
      have e2 : dropK (x :: l) p.1 = dropK l p.1 := by simp [dropK, h]
      rw [e1, e2]; exact set_false p l out
    · have e2 : dropK (x :: l) p.1 = x :: dropK l p.1 := by simp [dropK, h]
      rw [e2]
      cases hk : leK x.1 p.1
      · have e1 : setStep p (out, false) x = (out ++ [p] ++ [x], true) := by unfold setStep; rw [if_neg h, if_pos ⟨rfl, hk⟩]
        rw [e1, set_true]
        simp [insB, hk]
      · have e1 : setStep p (out, false) x = (out ++ [x], false) := by unfold setStep; rw [if_neg h, if_neg (by simp [hk])]
        rw [e1, set_false p l (out ++ [x])]
        simp [insB, hk]

theorem spec_l13Set_eq (l : List PairT) (p : PairT) (del : Bool) (hl : l.length < 2 ^ 38) : spec_l13Set.f l p del = some (if del = true then dropK l p.1 else insB (dropK l p.1) p) := by
  have hk := fold_loop (step := spec_l13Set.l0) l (setStep p) (fun n (s : List PairT × Bool) => (l, p, s.1, s.2, (n : Int))) (fun s => (p, s.1, s.2)) (fun n s => s.1.length ≤ 2 * n) (by omega)
    (fun rec n s h hi => by
      have hi : s.1.length ≤ 2 * n := hi
      have hq : s.1.length < 1000000000000 := by omega
      have hb1 : (s.1.length + [p].length) * 40 ≤ 140737488355328 := lim40 (Nat.lt_succ_of_lt hq)
      have hb2 : (s.1.length + ([l[n]] : List PairT).length) * 40 ≤ 140737488355328 := lim40 (Nat.lt_succ_of_lt hq)
      have hb3 : ((s.1 ++ [p]).length + ([l[n]] : List PairT).length) * 40 ≤ 140737488355328 := by rw [List.length_append]; exact lim40 (Nat.succ_lt_succ hq)
      have hw : w64 ((n : Int) + 1) = (n : Int) + 1 := w64_id (by omega) (by omega)
      have hle : (Op.bytesLess l[n].1 p.1 || l[n].1 == p.1) = leK l[n].1 p.1 := rfl
      simp only [spec_l13Set.l0, Int.ofNat_lt, h, decide_true, cond_true, inB_nat, rdA_nat, getD_lt h, pair_eta, hle]
      unfold setStep
      rcases Bool.eq_false_or_eq_true (l[n].1 == p.1) with h1 | h1
      · simp [h1, hw]
      · rcases Bool.eq_false_or_eq_true s.2 with h2 | h2
        · simp only [h1, h2, cond_false, Bool.not_true, Option.bind_some, inB_nat, rdA_nat, getD_lt h, pair_eta, h, decide_true, cond_true, hb2]
          simp [hw]
        · rcases Bool.eq_false_or_eq_true (leK l[n].1 p.1) with h3 | h3
          · simp only [h1, h2, h3, cond_false, Bool.not_true, Bool.not_false, Option.bind_some, inB_nat, rdA_nat, getD_lt h, pair_eta, h, decide_true, cond_true, hb2]
            simp [hw]
          · simp only [h1, h2, h3, cond_false, Bool.not_true, Bool.not_false, Option.bind_some, inB_nat, rdA_nat, getD_lt h, pair_eta, h, decide_true, cond_true, hb1, hb3]
            simp [hw])
    (fun n s h hi => by have := setStep_len p s l[n]; have hi : s.1.length ≤ 2 * n := hi; show _ ≤ 2 * (n + 1); omega)
    (fun rec s hi => by simp [spec_l13Set.l0]) ([], del) (by simp)
  have hk : lp spec_l13Set.l0 (l, p, [], del, 0) = _ := hk
  have hlen : ∀ (m : List PairT) (s : List PairT × Bool), (m.foldl (setStep p) s).1.length ≤ s.1.length + 2 * m.length := by
    intro m
    induction m with
    | nil => intro s; simp
    | cons x m ih => intro s; rw [List.foldl_cons]; have := ih (setStep p s x); have := setStep_len p s x; simp only [List.length_cons]; omega
  unfold spec_l13Set.f
  rw [hk, Option.bind_some]
  cases del with
  | true => rw [set_true]; simp
  | false =>
    have hf := set_false p l []
    have hb := hlen l ([], false)
    generalize l.foldl (setStep p) ([], false) = s at *
    obtain ⟨s1, s2⟩ := s
    simp only [List.length_nil, Nat.zero_add] at hb
    have hb1 : (s1.length + [p].length) * 40 ≤ 140737488355328 := by simp; omega
    cases s2
    · simp only [Bool.false_eq_true, if_false, List.nil_append] at hf ⊢
      simp only [Bool.not_false, cond_true, hb1, decide_true, hf]
    · simp only [if_true, List.nil_append] at hf
      simp [hf]

theorem less_irrefl : ∀ a : List UInt8, Op.bytesLess a a = false
  | [] => rfl
  | x :: a => by simp [Op.bytesLess, less_irrefl a]

theorem u8_lt {a b : UInt8} : a < b ↔ a.toNat < b.toNat := UInt8.lt_iff_toNat_lt

theorem u8_eq {a b : UInt8} (h : a.toNat = b.toNat) : a = b := UInt8.toNat.inj h

theorem less_trans : ∀ a b c : List UInt8, Op.bytesLess a b = true → Op.bytesLess b c = true → Op.bytesLess a c = true
  | _, [], _, h, _ => by simp [Op.bytesLess] at h
  | _, _ :: _, [], _, h => by simp [Op.bytesLess] at h
  | [], _ :: _, _ :: _, _, _ => rfl
  | x :: a, y :: b, z :: c, h1, h2 => by
    simp only [Op.bytesLess, Bool.or_eq_true, decide_eq_true_eq, Bool.and_eq_true, beq_iff_eq] at h1 h2 ⊢
    rcases h1 with h1 | ⟨h1, k1⟩
    · rcases h2 with h2 | ⟨h2, k2⟩
      · left; rw [u8_lt] at *; omega
      · left; rw [← h2]; exact h1
    · rcases h2 with h2 | ⟨h2, k2⟩
      · left; rw [h1]; exact h2
      · exact .inr ⟨h1.trans h2, less_trans a b c k1 k2⟩

theorem less_total : ∀ a b : List UInt8, Op.bytesLess a b = false → a ≠ b → Op.bytesLess b a = true
  | [], [], _, h => absurd rfl h
  | [], _ :: _, h, _ => by simp [Op.bytesLess] at h
  | _ :: _, [], _, _ => rfl
  | x :: a, y :: b, h1, h2 => by
    simp only [Op.bytesLess, Bool.or_eq_false_iff, decide_eq_false_iff_not, Bool.and_eq_false_iff] at h1
    simp only [Op.bytesLess, Bool.or_eq_true, decide_eq_true_eq, Bool.and_eq_true, beq_iff_eq]
    by_cases e : x = y
    · subst e
      right
      refine ⟨rfl, less_total a b ?_ fun e => h2 (by rw [e])⟩
      rcases h1.2 with k | k
      · simp at k
      · exact k
    · left
      rw [u8_lt] at *
      have := h1.1
      have hne : x.toNat ≠ y.toNat := fun k => e (u8_eq k)
      omega

theorem less_asymm (a b : List UInt8) (h : Op.bytesLess a b = true) : Op.bytesLess b a = false := by
  cases hb : Op.bytesLess b a with
  | false => rfl
  | true => have := less_trans a b a h hb; rw [less_irrefl] at this; simp at this

theorem leK_not (a b : List UInt8) : leK a b = !Op.bytesLess b a := by
  unfold leK
  cases h : Op.bytesLess a b with
  | true => rw [less_asymm a b h]; rfl
  | false =>
    by_cases e : a = b
    · subst e; simp [h]
    · rw [less_total a b h e]
      have : (a == b) = false := by simpa using e
      simp [this]

theorem wrap64_nat {n : Nat} (h : n < 9223372036854775808) : IntKind.wrap .i64 (n : Int) = n := w64_nat h

abbrev CurT := List Int × Int × Int

def Cur (c : CurT) : Prop := 0 ≤ c.2.1 ∧ c.1.length < 2 ^ 60

theorem and255 (x : Int) : 0 ≤ bits (fun _ a b => a &&& b) .i64 x 255 ∧ bits (fun _ a b => a &&& b) .i64 x 255 ≤ 255 := by
  have e : bits (fun _ a b => a &&& b) .i64 x 255 = IntKind.wrap .i64 ((BitVec.ofInt 64 x &&& BitVec.ofInt 64 255).toNat : Int) := rfl
  have h : (BitVec.ofInt 64 x &&& BitVec.ofInt 64 255).toNat ≤ 255 := by
    rw [BitVec.toNat_and]
    exact Nat.le_trans Nat.and_le_right (by decide)
  rw [e, wrap64_nat (by omega)]
  omega

theorem l1Byte_ok {c : CurT} (h : Cur c) : ∃ x c', spec_l1Byte.f c = some (x, c') ∧ 0 ≤ x ∧ x ≤ 255 ∧ Cur c' := by
  obtain ⟨l, i, s⟩ := c
  obtain ⟨h1, h2⟩ := h
  simp only at h1 h2
  unfold spec_l1Byte.f
  simp only
  generalize bits (fun _ a b => a ^^^ b) .i64 _ _ = y
  by_cases c : i < (l.length : Int)
  · obtain ⟨j, rfl⟩ : ∃ j : Nat, i = (j : Int) := ⟨i.toNat, by omega⟩
    have c2 : j < l.length := by omega
    simp only [c, decide_true, cond_true, inB_nat, c2]
    refine ⟨_, _, rfl, (and255 _).1, (and255 _).2, ?_, h2⟩
    show 0 ≤ w64 _
    rw [w64_id (by omega) (by omega)]; omega
  · simp only [c, decide_false, cond_false]
    exact ⟨_, _, rfl, (and255 _).1, (and255 _).2, h1, h2⟩

theorem tmod_range {x n : Int} (hx : 0 ≤ x) (hn : 0 < n) : 0 ≤ Int.tmod x n ∧ Int.tmod x n < n := by
  exact ⟨Int.tmod_nonneg n hx, Int.tmod_lt_of_pos x hn⟩

theorem l1Below_ok {c : CurT} (h : Cur c) (n : Int) : ∃ x c', spec_l1Below.f c n = some (x, c') ∧ 0 ≤ x ∧ (0 < n → x < n) ∧ (n ≤ 0 → x = 0) ∧ Cur c' := by
  unfold spec_l1Below.f
  by_cases c0 : n ≤ 0
  · simp only [c0, decide_true, cond_true]
    exact ⟨0, c, rfl, Int.le_refl _, fun h => by omega, fun _ => rfl, h⟩
  have hn : (n != 0) = true := by simp; omega
  by_cases c1 : n ≤ 256
  · obtain ⟨x, c', e, h1, h2, h3⟩ := l1Byte_ok h
    simp only [c0, c1, decide_true, decide_false, cond_true, cond_false, e, Option.bind_some, hn]
    have := tmod_range h1 (show 0 < n by omega)
    exact ⟨_, _, rfl, this.1, fun _ => this.2, fun h => h.elim, h3⟩
  · obtain ⟨x, c1', e1, a1, b1, h1⟩ := l1Byte_ok h
    obtain ⟨y, c2', e2, a2, b2, h2⟩ := l1Byte_ok h1
    obtain ⟨z, c3', e3, a3, b3, h3⟩ := l1Byte_ok h2
    obtain ⟨w, c4', e4, a4, b4, h4⟩ := l1Byte_ok h3
    simp only [c0, c1, decide_false, cond_false, e1, e2, e3, e4, Option.bind_some, hn, cond_true]
    rw [w64_id (n := x * 16777216) (by omega) (by omega), w64_id (n := y * 65536) (by omega) (by omega), w64_id (n := z * 256) (by omega) (by omega), w64_id (n := x * 16777216 + y * 65536) (by omega) (by omega), w64_id (n := x * 16777216 + y * 65536 + z * 256) (by omega) (by omega), w64_id (n := x * 16777216 + y * 65536 + z * 256 + w) (by omega) (by omega)]
    have := tmod_range (x := x * 16777216 + y * 65536 + z * 256 + w) (n := n) (by omega) (by omega)
    exact ⟨_, _, rfl, this.1, fun _ => this.2, fun h => h.elim, h4⟩

theorem l1Once_ok {c : CurT} (h : Cur c) (n : Int) : ∃ b c', spec_l1Once.f c n = some (b, c') ∧ Cur c' := by
  obtain ⟨x, c', e, _, _, _, h'⟩ := l1Below_ok h n
  unfold spec_l1Once.f
  simp only [e, Option.bind_some]
  exact ⟨_, _, rfl, h'⟩

theorem l1Pick_ok {c : CurT} (h : Cur c) (l : List (List UInt8)) (hl : 0 < l.length) : ∃ x c', spec_l1Pick.f c l = some (x, c') ∧ x ∈ l ∧ Cur c' := by
  obtain ⟨x, c', e, h1, h2, _, h'⟩ := l1Below_ok h (l.length : Int)
  have h2 := h2 (by omega)
  unfold spec_l1Pick.f
  simp only [e, Option.bind_some]
  obtain ⟨j, rfl⟩ : ∃ j : Nat, x = (j : Int) := ⟨x.toNat, by omega⟩
  have c2 : j < l.length := by omega
  simp only [inB_nat, c2, decide_true, cond_true, rdA_nat, getD_lt c2]
  exact ⟨_, _, rfl, List.getElem_mem c2, h'⟩

def keyList : List (List UInt8) := [[97], [98], [99], [107, 101, 121], [108, 111, 110, 103, 110, 97, 109, 101]]

theorem l5Key_ok {c : CurT} (h : Cur c) : ∃ x c', spec_l5Key.f c = some (x, c') ∧ keyOk x = true ∧ Cur c' := by
  obtain ⟨x, c', e, hm, h'⟩ := l1Pick_ok h keyList (by decide)
  unfold spec_l5Key.f
  have e : spec_l1Pick.f c [[97], [98], [99], [107, 101, 121], [108, 111, 110, 103, 110, 97, 109, 101]] = some (x, c') := e
  simp only [e, Option.bind_some]
  refine ⟨_, _, rfl, ?_, h'⟩
  have : ∀ y ∈ keyList, keyOk y = true := by decide
  exact this x hm

/-- A loop that counts down to nothing, with a cursor. -/
theorem down_ok {A B σ : Type} {step : (A → Option B) → A → Option B} (st : Nat → σ → A) (Inv : Nat → σ → Prop) (Post : B → Prop)
    (hz : ∀ rec s, Inv 0 s → ∃ b, step rec (st 0 s) = some b ∧ Post b)
    (hs : ∀ rec n s, Inv (n + 1) s → ∃ s', Inv n s' ∧ step rec (st (n + 1) s) = rec (st n s')) (n : Nat) (s : σ) (hi : Inv n s) (hn : n < 2 ^ 62) : ∃ b, lp step (st n s) = some b ∧ Post b := by
  have key : ∀ n f s, Inv n s → n < f → ∃ b, loopF step f (st n s) = some b ∧ Post b := by
    intro n
    induction n with
    | zero =>
      intro f s hi hf
      obtain ⟨f, rfl⟩ : ∃ g, f = g + 1 := ⟨f - 1, by omega⟩
      exact hz _ s hi
    | succ n ih =>
      intro f s hi hf
      obtain ⟨f, rfl⟩ : ∃ g, f = g + 1 := ⟨f - 1, by omega⟩
      obtain ⟨s', hi', e⟩ := hs (loopF step f) n s hi
      show ∃ b, step (loopF step f) (st (n + 1) s) = some b ∧ Post b
      rw [e]
      exact ih f s' hi' (by omega)
  exact key n FUEL s hi (Nat.lt_of_lt_of_le hn fuel_le)

/-- A loop that ends with what is wanted. -/
theorem lp_ok {A B : Type} {step : (A → Option B) → A → Option B} (P : A → Prop) (m : A → Nat) (Post : B → Prop)
    (h : ∀ rec a, P a → (∃ b, step rec a = some b ∧ Post b) ∨ ∃ a', P a' ∧ m a' < m a ∧ step rec a = rec a') {a : A} (hp : P a) (hm : m a < 2 ^ 62) : ∃ b, lp step a = some b ∧ Post b := by
  have key : ∀ f a, P a → m a < f → ∃ b, loopF step f a = some b ∧ Post b := by
    intro f
    induction f with
    | zero => intro a _ hf; omega
    | succ f ih =>
      intro a hp hf
      rcases h (loopF step f) a hp with hx | ⟨a', hp', hlt, e⟩
      · exact hx
      · show ∃ b, step (loopF step f) a = some b ∧ Post b
        rw [e]
        exact ih a' hp' (by omega)
  exact key FUEL a hp (Nat.lt_of_lt_of_le hm fuel_le)

theorem l1Text_ok {c : CurT} (h : Cur c) (most : Int) (h0 : 0 ≤ most) (h1 : most < 1000000000) : ∃ x c', spec_l1Text.f c most = some (x, c') ∧ (x.length : Int) ≤ most ∧ Cur c' := by
  obtain ⟨st, c1, e1, _, _, _, hc1⟩ := l1Below_ok h 4
  obtain ⟨n, c2, e2, a2, b2, _, hc2⟩ := l1Below_ok hc1 (most + 1)
  have b2 := b2 (by omega)
  obtain ⟨m, rfl⟩ : ∃ m : Nat, n = (m : Int) := ⟨n.toNat, by omega⟩
  have key := down_ok (step := spec_l1Text.l0) (fun k (s : CurT × List Int) => (s.1, s.2, st, (k : Int))) (fun k s => Cur s.1 ∧ s.2.length + k = m) (fun b => Cur b.1 ∧ b.2.length = m)
    (fun rec s hi => ⟨_, by simp [spec_l1Text.l0], hi.1, by simpa using hi.2⟩)
    (fun rec k s hi => by
      obtain ⟨hi1, hi2⟩ := hi
      obtain ⟨x, c', e, _, _, h'⟩ := l1Byte_ok hi1
      have e0 : ((k + 1 : Nat) : Int) > 0 := by omega
      have hw : w64 (((k + 1 : Nat) : Int) - 1) = (k : Int) := by rw [w64_id (by omega) (by omega)]; omega
      have hb : ∀ v : Int, (s.2.length + [v].length) * 1 ≤ 140737488355328 := fun v => by show (s.2.length + 1) * 1 ≤ _; omega
      cases d1 : (st == 1) <;> cases d2 : (st == 2) <;> simp only [spec_l1Text.l0, e0, decide_true, cond_true, cond_false, e, Option.bind_some, d1, d2, hb, hw]
      all_goals exact ⟨(c', s.2 ++ [_]), ⟨h', by simp only [List.length_append, List.length_singleton]; omega⟩, rfl⟩)
    m (c2, []) ⟨hc2, by simp⟩ (by omega)
  obtain ⟨⟨c3, xs⟩, e3, hc3, hl⟩ := key
  have e3 : lp spec_l1Text.l0 (c2, [], st, (m : Int)) = some (c3, xs) := e3
  unfold spec_l1Text.f
  rw [e1, Option.bind_some]
  simp only [w64_id (n := most + 1) (by omega) (by omega), e2, Option.bind_some, e3]
  refine ⟨_, _, rfl, ?_, hc3⟩
  unfold strOf
  simp only at hl
  rw [List.length_map, hl]; omega

theorem l1New_ok (l : List Int) (hl : l.length < 2 ^ 60) : ∃ c, spec_l1New.f l = some c ∧ Cur c := by
  have key : ∃ s, lp spec_l1New.l0 (l, w64 (10101 + (l.length : Int)), 0) = some (l, s) := by
    have := lp_ok (step := spec_l1New.l0) (a := (l, w64 (10101 + (l.length : Int)), ((0 : Nat) : Int))) (fun a => a.1 = l ∧ ∃ n : Nat, a.2.2 = (n : Int) ∧ n ≤ l.length) (fun a => l.length - a.2.2.toNat) (fun b => b.1 = l)
      (fun rec a ha => by
        obtain ⟨x, s, i⟩ := a
        obtain ⟨hx, n, hn, hle⟩ := ha
        simp only at hx hn
        subst hx hn
        by_cases c : n < x.length
        · by_cases c2 : (n : Int) < 4000
          · right
            have c3 : (n : Int) < (x.length : Int) := by omega
            refine ⟨(x, bits (fun _ a b => a &&& b) .i64 (w64 ((w64 ((w64 (s * 131)) + (w64 (x.getD n 0)))) + 7)) 1073741823, ((n + 1 : Nat) : Int)), ⟨rfl, n + 1, rfl, c⟩, by simp only [Int.toNat_natCast]; omega, ?_⟩
            simp only [spec_l1New.l0, c3, c2, decide_true, cond_true, inB_nat, c, rdA_nat, w64_succ (show n + 1 < 9223372036854775808 by omega)]
          · left
            have c3 : (n : Int) < (x.length : Int) := by omega
            exact ⟨(x, s), by simp only [spec_l1New.l0, c3, c2, decide_true, decide_false, cond_true, cond_false], rfl⟩
        · left
          have c3 : ¬ (n : Int) < (x.length : Int) := by omega
          exact ⟨(x, s), by simp only [spec_l1New.l0, c3, decide_false, cond_false], rfl⟩)
      ⟨rfl, 0, rfl, Nat.zero_le _⟩ (by simp only; omega)
    obtain ⟨⟨b1, b2⟩, e, hb⟩ := this
    simp only at hb
    subst hb
    exact ⟨b2, e⟩
  obtain ⟨s, e⟩ := key
  unfold spec_l1New.f
  simp only [e, Option.bind_some]
  exact ⟨_, rfl, Int.le_refl _, hl⟩

theorem down1 {k : Nat} (hk : k < 2 ^ 60) : w64 (((k + 1 : Nat) : Int) - 1) = (k : Int) := by rw [w64_id (by omega) (by omega)]; omega

theorem l12Puts_ok {c : CurT} (h : Cur c) : ∃ l c', spec_l12Puts.f c = some (l, c') ∧ l.length ≤ 3 ∧ (∀ p ∈ l, putOk p = true) ∧ Cur c' := by
  obtain ⟨n, c1, e1, a1, b1, _, h1⟩ := l1Below_ok h 4
  have b1 := b1 (by omega)
  obtain ⟨m, rfl⟩ : ∃ m : Nat, n = (m : Int) := ⟨n.toNat, by omega⟩
  have key := down_ok (step := spec_l12Puts.l0) (fun k (s : CurT × List PutT) => (s.1, s.2, (k : Int))) (fun k s => Cur s.1 ∧ s.2.length + k = m ∧ ∀ p ∈ s.2, putOk p = true) (fun b => Cur b.1 ∧ b.2.length = m ∧ ∀ p ∈ b.2, putOk p = true)
    (fun rec s hi => ⟨_, by simp [spec_l12Puts.l0], hi.1, by simpa using hi.2.1, hi.2.2⟩)
    (fun rec k s hi => by
      obtain ⟨hi1, hi2, hi3⟩ := hi
      obtain ⟨ky, c2, f1, g1, h2⟩ := l5Key_ok hi1
      obtain ⟨v, c3, f2, g2, h3⟩ := l1Text_ok h2 16 (by omega) (by omega)
      obtain ⟨o, c4, f3, h4⟩ := l1Once_ok h3 4
      have e0 : ((k + 1 : Nat) : Int) > 0 := by omega
      have hw := down1 (show k < 2 ^ 60 by omega)
      have hb : ∀ v : PutT, (s.2.length + [v].length) * 40 ≤ 140737488355328 := fun v => lim40 (by omega)
      cases o <;> simp only [spec_l12Puts.l0, e0, decide_true, cond_true, cond_false, f1, f2, f3, Option.bind_some, hb, hw]
      · exact ⟨(c4, s.2 ++ [(ky, false, v)]), ⟨h4, by simp only [List.length_append, List.length_singleton]; omega, fun p hp => by
          rcases List.mem_append.1 hp with hp | hp
          · exact hi3 p hp
          · rw [List.mem_singleton.1 hp]; unfold putOk; simp [g1]; omega⟩, rfl⟩
      · exact ⟨(c4, s.2 ++ [(ky, true, [])]), ⟨h4, by simp only [List.length_append, List.length_singleton]; omega, fun p hp => by
          rcases List.mem_append.1 hp with hp | hp
          · exact hi3 p hp
          · rw [List.mem_singleton.1 hp]; unfold putOk; simp [g1]⟩, rfl⟩)
    m (c1, []) ⟨h1, by simp, by simp⟩ (by omega)
  obtain ⟨⟨c5, l⟩, e5, h5, hl, hp⟩ := key
  have e5 : lp spec_l12Puts.l0 (c1, [], (m : Int)) = some (c5, l) := e5
  unfold spec_l12Puts.f
  simp only [e1, Option.bind_some, e5]
  refine ⟨_, _, rfl, ?_, hp, h5⟩
  simp only at hl; omega

theorem big_eq (l : List Int) : laws_big.f l = some (decide ((l.length : Int) > 1048576)) := rfl

def srt {α : Type} (l : List (List UInt8 × α)) : Prop := l.Pairwise (fun a b => Op.bytesLess a.1 b.1 = true)

theorem insB_cons {α : Type} (x : List UInt8 × α) (l : List (List UInt8 × α)) (p : List UInt8 × α) : insB (x :: l) p = if leK x.1 p.1 = true then x :: insB l p else p :: x :: l := by
  cases h : leK x.1 p.1 <;> simp [insB, h]

theorem mem_insB {α : Type} (y p : List UInt8 × α) : ∀ l : List (List UInt8 × α), y ∈ insB l p ↔ y = p ∨ y ∈ l
  | [] => by simp [insB]
  | x :: l => by
    rw [insB_cons]
    split
    · rw [List.mem_cons, mem_insB y p l, List.mem_cons]
      constructor
      · rintro (h | h | h)
        · exact .inr (.inl h)
        · exact .inl h
        · exact .inr (.inr h)
      · rintro (h | h | h)
        · exact .inr (.inl h)
        · exact .inl h
        · exact .inr (.inr h)
    · rw [List.mem_cons]

theorem srt_insB {α : Type} (p : List UInt8 × α) : ∀ l : List (List UInt8 × α), srt l → (∀ x ∈ l, x.1 ≠ p.1) → srt (insB l p)
  | [], _, _ => by simp [insB, srt]
  | x :: l, h, hn => by
    have h := List.pairwise_cons.1 h
    rw [insB_cons]
    split
    · rename_i c
      refine List.Pairwise.cons (fun y hy => ?_) (srt_insB p l h.2 fun y hy => hn y (List.mem_cons_of_mem _ hy))
      rcases (mem_insB y p l).1 hy with e | hy
      · rw [e]
        unfold leK at c
        rcases Bool.or_eq_true _ _ ▸ c with c | c
        · exact c
        · exact absurd (by simpa using c) (hn x List.mem_cons_self)
      · exact h.1 y hy
    · rename_i c
      have c2 : Op.bytesLess p.1 x.1 = true := by
        rw [leK_not] at c
        simpa using c
      refine List.Pairwise.cons (fun y hy => ?_) (List.Pairwise.cons h.1 h.2)
      rcases List.mem_cons.1 hy with e | hy
      · rw [e]; exact c2
      · exact less_trans _ _ _ c2 (h.1 y hy)

theorem srt_dropK {α : Type} {l : List (List UInt8 × α)} (h : srt l) (k : List UInt8) : srt (dropK l k) := h.sublist List.filter_sublist

theorem mem_dropK {α : Type} (l : List (List UInt8 × α)) (k : List UInt8) (y : List UInt8 × α) : y ∈ dropK l k ↔ y ∈ l ∧ y.1 ≠ k := by
  unfold dropK
  rw [List.mem_filter]
  simp

theorem srt_foldStep (b : Int) {l : List PairT} (h : srt l) (p : PutT) : srt (foldStep b l p) := by
  unfold foldStep
  split
  · exact srt_dropK h _
  · exact srt_insB _ _ (srt_dropK h _) fun x hx => ((mem_dropK _ _ _).1 hx).2

theorem srt_foldP (b : Int) : ∀ (puts : List PutT) {l : List PairT}, srt l → srt (foldP l puts b)
  | [], _, h => h
  | p :: puts, _, h => srt_foldP b puts (srt_foldStep b h p)

theorem mem_foldStep (b : Int) (l : List PairT) (p : PutT) (x : PairT) : x ∈ foldStep b l p ↔ if x.1 = p.1 then p.2.1 = false ∧ x.2 = (p.2.2, b) else x ∈ l := by
  unfold foldStep
  obtain ⟨xk, xv, xb⟩ := x
  rcases Bool.eq_false_or_eq_true p.2.1 with c | c
  · rw [if_pos c, mem_dropK]
    by_cases e : xk = p.1
    · rw [if_pos e]; simp [c, e]
    · rw [if_neg e]; simp [e]
  · rw [if_neg (by simp [c]), mem_insB, mem_dropK]
    by_cases e : xk = p.1
    · rw [if_pos e]
      simp [c, e]
    · rw [if_neg e]
      simp [e]

theorem lastOf_snoc (l : List PutT) (p : PutT) (k : List UInt8) : lastOf (l ++ [p]) k = if p.1 = k then some p else lastOf l k := by
  unfold lastOf
  rw [List.reverse_append]
  show List.find? _ (p :: l.reverse) = _
  rw [List.find?_cons]
  by_cases c : p.1 = k
  · simp [c]
  · have : (p.1 == k) = false := by simpa using c
    simp [c, this]

theorem foldP_snoc (l : List PairT) (puts : List PutT) (p : PutT) (b : Int) : foldP l (puts ++ [p]) b = foldStep b (foldP l puts b) p := by
  unfold foldP; rw [List.foldl_append]; rfl

theorem mem_foldP (b : Int) (l : List PairT) (x : PairT) (puts : List PutT) : x ∈ foldP l puts b ↔ match lastOf puts x.1 with | some p => p.2.1 = false ∧ x.2 = (p.2.2, b) | none => x ∈ l := by
  induction puts using snoc_ind with
  | h0 => exact Iff.rfl
  | hs puts p ih =>
    rw [foldP_snoc, mem_foldStep, lastOf_snoc]
    by_cases c : p.1 = x.1
    · rw [if_pos c, if_pos c.symm]
    · rw [if_neg c, if_neg (fun e => c e.symm)]; exact ih

abbrev AckT := Int × List PutT

def foldAcks (l : List PairT) (a : List AckT) : List PairT := a.foldl (fun l a => foldP l a.2 a.1) l

def acksN (a : List AckT) : Nat := sumN (fun a => a.2.length) a

theorem impl_FoldAcks_eq (l : List PairT) (a : List AckT) (h : l.length + acksN a < 2 ^ 36) (ha : a.length < 2 ^ 62) : impl_FoldAcks.f l a = some (foldAcks l a) := by
  have hk := fold_loop (step := impl_FoldAcks.l0) a (fun l a => foldP l a.2 a.1) (fun n (s : List PairT) => (s, a, (a.length : Int), (n : Int))) (fun s => s) (fun n s => s.length + sumN (fun a => a.2.length) (a.drop n) ≤ l.length + acksN a) ha
    (fun rec n s h hi => by
      have hi : s.length + sumN (fun a => a.2.length) (a.drop n) ≤ l.length + acksN a := hi
      rw [sumN_drop _ h] at hi
      have hi : s.length + (a[n].2.length + sumN (fun a => a.2.length) (a.drop (n + 1))) ≤ l.length + acksN a := hi
      simp only [impl_FoldAcks.l0, Int.ofNat_lt, h, decide_true, cond_true, inB_nat, rdA_nat, getD_lt h, impl_Fold_eq s a[n].2 a[n].1 (by omega), Option.bind_some, w64_succ (show n + 1 < 9223372036854775808 by omega)])
    (fun n s h hi => by
      have hi : s.length + sumN (fun a => a.2.length) (a.drop n) ≤ l.length + acksN a := hi
      rw [sumN_drop _ h] at hi
      have hi : s.length + (a[n].2.length + sumN (fun a => a.2.length) (a.drop (n + 1))) ≤ l.length + acksN a := hi
      have := foldP_len a[n].1 a[n].2 s
      show (foldP s a[n].2 a[n].1).length + _ ≤ _
      omega)
    (fun rec s hi => by simp [impl_FoldAcks.l0]) l (by rw [List.drop_zero]; exact Nat.le_refl _)
  have hk : lp impl_FoldAcks.l0 (l, a, (a.length : Int), 0) = _ := hk
  unfold impl_FoldAcks.f
  rw [impl_copyPairs_eq l (by omega), Option.bind_some, hk, Option.bind_some]; rfl

theorem srt_set (l : List PairT) (h : srt l) (p : PairT) : srt (insB (dropK l p.1) p) :=
  srt_insB _ _ (srt_dropK h _) fun x hx => ((mem_dropK _ _ _).1 hx).2

theorem l13Pairs_ok {c : CurT} (h : Cur c) : ∃ l c', spec_l13Pairs.f c = some (l, c') ∧ srt l ∧ l.length ≤ 5 ∧ Cur c' := by
  obtain ⟨n, c1, e1, a1, b1, _, h1⟩ := l1Below_ok h 6
  have b1 := b1 (by omega)
  obtain ⟨m, rfl⟩ : ∃ m : Nat, n = (m : Int) := ⟨n.toNat, by omega⟩
  have key := down_ok (step := spec_l13Pairs.l0) (fun k (s : CurT × List PairT) => (s.1, s.2, (k : Int))) (fun k s => Cur s.1 ∧ s.2.length + k ≤ m ∧ srt s.2) (fun b => Cur b.1 ∧ b.2.length ≤ m ∧ srt b.2)
    (fun rec s hi => ⟨_, by simp [spec_l13Pairs.l0], hi.1, by simpa using hi.2.1, hi.2.2⟩)
    (fun rec k s hi => by
      obtain ⟨hi1, hi2, hi3⟩ := hi
      obtain ⟨ky, c2, f1, g1, h2⟩ := l5Key_ok hi1
      obtain ⟨v, c3, f2, g2, h3⟩ := l1Text_ok h2 4 (by omega) (by omega)
      obtain ⟨x, c4, f3, _, _, _, h4⟩ := l1Below_ok h3 9
      have e0 : ((k + 1 : Nat) : Int) > 0 := by omega
      have hw := down1 (show k < 2 ^ 60 by omega)
      simp only [spec_l13Pairs.l0, e0, decide_true, cond_true, f1, f2, f3, Option.bind_some, spec_l13Set_eq s.2 _ false (show s.2.length < 2 ^ 38 by omega), hw]
      refine ⟨(c4, insB (dropK s.2 ky) (ky, v, w64 (1 + x))), ⟨h4, ?_, srt_set s.2 hi3 (ky, v, w64 (1 + x))⟩, rfl⟩
      have := dropK_len s.2 ky
      simp only [insB_len]; omega)
    m (c1, []) ⟨h1, by simp, by simp [srt]⟩ (by omega)
  obtain ⟨⟨c5, l⟩, e5, h5, hl, hs⟩ := key
  have e5 : lp spec_l13Pairs.l0 (c1, [], (m : Int)) = some (c5, l) := e5
  unfold spec_l13Pairs.f
  simp only [e1, Option.bind_some, e5]
  exact ⟨_, _, rfl, hs, by simp only at hl; omega, h5⟩

theorem DrawFold_ok (l : List Int) (hl : l.length < 2 ^ 60) : ∃ q p b, spec_DrawFold.f l = some (q, p, b) ∧ srt q ∧ q.length ≤ 5 ∧ p.length ≤ 3 := by
  obtain ⟨c, e1, h1⟩ := l1New_ok l hl
  obtain ⟨q, c2, e2, hs, hq, h2⟩ := l13Pairs_ok h1
  obtain ⟨p, c3, e3, hp, _, h3⟩ := l12Puts_ok h2
  obtain ⟨x, c4, e4, _, _, _, _⟩ := l1Below_ok h3 20
  unfold spec_DrawFold.f
  simp only [e1, e2, e3, e4, Option.bind_some]
  exact ⟨_, _, _, rfl, hs, hq, hp⟩

theorem at_eq (l : List Int) (hw : ∀ x ∈ l, 0 ≤ x ∧ x ≤ 255) (n : Nat) (hn : n < 1000000000) (hl : l.length < 1000000000) : ∃ a, laws_at.f l (n : Int) = some a ∧ 0 ≤ a ∧ a ≤ 255 := by
  unfold laws_at.f
  by_cases c : n < l.length
  · have c1 : (n : Int) < (l.length : Int) := by omega
    have h := hw l[n] (List.getElem_mem c)
    simp only [c, c1, decide_true, cond_true, inB_nat, rdA_nat, getD_lt c]
    exact ⟨_, rfl, by rw [w64_id (by omega) (by omega)]; omega, by rw [w64_id (by omega) (by omega)]; omega⟩
  · have c1 : ¬ (n : Int) < (l.length : Int) := by omega
    simp only [c1, decide_false, cond_false]
    rw [w64_id (n := (n : Int) * 37) (by omega) (by omega), w64_id (n := (l.length : Int) * 11) (by omega) (by omega), w64_id (n := (n : Int) * 37 + (l.length : Int) * 11) (by omega) (by omega)]
    have := tmod_range (x := (n : Int) * 37 + (l.length : Int) * 11) (n := 256) (by omega) (by omega)
    exact ⟨_, rfl, this.1, by omega⟩

theorem Folds_l2 (q : List PairT) (p : List PutT) (b : Int) (X : List PairT) (i : Nat) (hi : i < p.length) (hl : p.length < 1000000000) :
    lp laws_FnFolds.l2 (q, p, b, X, (i : Int), true, ((i + 1 : Nat) : Int)) = some (q, p, b, X, (i : Int), (p.drop (i + 1)).all fun x => !(x.1 == p[i].1)) := by
  have := lp_up (step := laws_FnFolds.l2) (fun n (f : Bool) => (q, p, b, X, (i : Int), f, (n : Int))) p.length (fun n f => (q, p, b, X, (i : Int), f && (p.drop n).all fun x => !(x.1 == p[i].1))) (fun _ _ => True)
    (fun rec n f hn _ ih => by
      rcases Nat.lt_or_ge n p.length with h | h
      · have hw := w64_succ (show n + 1 < 9223372036854775808 by omega)
        rw [List.drop_eq_getElem_cons h, List.all_cons]
        cases f
        · simp only [laws_FnFolds.l2, Int.ofNat_lt, h, decide_true, cond_true, cond_false, Option.bind_some, hw, ih false h trivial, Bool.false_and]
        · simp only [laws_FnFolds.l2, Int.ofNat_lt, h, decide_true, cond_true, inB_nat, hi, rdA_nat, getD_lt h, getD_lt hi, Option.bind_some, hw, ih _ h trivial, Bool.true_and]
      · have : n = p.length := by omega
        subst this
        simp [laws_FnFolds.l2])
    (by omega) (i + 1) true hi trivial
  simpa using this

def isB (x : PairT) (p : PutT) (b : Int) : Bool := x.1 == p.1 && (p.2.1 || (x.2.1 == p.2.2 && x.2.2 == b))

theorem Folds_l4 (q : List PairT) (p : List PutT) (b : Int) (X : List PairT) (i : Nat) (g : Bool) (hi : i < p.length) (hl : X.length < 1000000000) :
    lp laws_FnFolds.l4 (q, p, b, X, (i : Int), g, false, 0) = some (q, p, b, X, (i : Int), g, X.any fun x => isB x p[i] b) := by
  have := lp_up (step := laws_FnFolds.l4) (fun n (f : Bool) => (q, p, b, X, (i : Int), g, f, (n : Int))) X.length (fun n f => (q, p, b, X, (i : Int), g, f || (X.drop n).any fun x => isB x p[i] b)) (fun _ _ => True)
    (fun rec n f hn _ ih => by
      rcases Nat.lt_or_ge n X.length with h | h
      · have hw := w64_succ (show n + 1 < 9223372036854775808 by omega)
        rw [List.drop_eq_getElem_cons h, List.any_cons]
        cases f
        · rw [show isB X[n] p[i] b = (X[n].1 == p[i].1 && (p[i].2.1 || (X[n].2.1 == p[i].2.2 && X[n].2.2 == b))) from rfl]
          rcases Bool.eq_false_or_eq_true (X[n].1 == p[i].1) with c1 | c1 <;> rcases Bool.eq_false_or_eq_true p[i].2.1 with c2 | c2 <;> rcases Bool.eq_false_or_eq_true (X[n].2.1 == p[i].2.2) with c3 | c3 <;>
            simp only [laws_FnFolds.l4, Int.ofNat_lt, h, decide_true, cond_true, cond_false, inB_nat, hi, rdA_nat, getD_lt h, getD_lt hi, c1, c2, c3, Option.bind_some, hw, ih _ h trivial, Bool.true_and, Bool.false_and, Bool.true_or, Bool.false_or, Bool.and_true, Bool.or_false]
        · simp only [laws_FnFolds.l4, Int.ofNat_lt, h, decide_true, cond_true, Option.bind_some, hw, ih true h trivial, Bool.true_or]
      · have : n = X.length := by omega
        subst this
        simp [laws_FnFolds.l4])
    (by omega) 0 false (Nat.zero_le _) trivial
  simpa using this

theorem lastOf_at (p : List PutT) (i : Nat) (hi : i < p.length) (h : ((p.drop (i + 1)).all fun x => !(x.1 == p[i].1)) = true) : lastOf p p[i].1 = some p[i] := by
  have e : p = p.take i ++ p[i] :: p.drop (i + 1) := by rw [← List.drop_eq_getElem_cons hi, List.take_append_drop]
  have e2 : lastOf (p.take i ++ p[i] :: p.drop (i + 1)) p[i].1 = some p[i] := by
    unfold lastOf
    rw [List.reverse_append, List.reverse_cons, List.append_assoc, List.find?_append]
    have : (p.drop (i + 1)).reverse.find? (fun x => x.1 == p[i].1) = none := by
      rw [List.find?_eq_none]
      intro x hx
      have := List.all_eq_true.1 h x (by simpa using hx)
      simpa using this
    rw [this]
    simp
  rw [← e] at e2
  exact e2

theorem Folds_is (q : List PairT) (p : List PutT) (b : Int) (i : Nat) (hi : i < p.length) (h : ((p.drop (i + 1)).all fun x => !(x.1 == p[i].1)) = true) :
    ((foldP q p b).any fun x => isB x p[i] b) = !p[i].2.1 := by
  have hl := lastOf_at p i hi h
  rcases Bool.eq_false_or_eq_true p[i].2.1 with c | c
  · rw [c]
    show _ = false
    rw [List.any_eq_false]
    intro x hx hk
    have hx := (mem_foldP b q x p).1 hx
    unfold isB at hk
    simp only [Bool.and_eq_true, beq_iff_eq] at hk
    rw [hk.1, hl] at hx
    simp only [c] at hx
    exact absurd hx.1 (by simp)
  · rw [c]
    show _ = true
    rw [List.any_eq_true]
    refine ⟨(p[i].1, p[i].2.2, b), (mem_foldP b q _ p).2 ?_, ?_⟩
    · simp only [hl]; exact ⟨c, trivial⟩
    · unfold isB; simp

theorem FnFolds_true (x0 : List Int) (w0 : wfD (.sl false (.int .u8)) x0) : laws_FnFolds.f x0 = some true := by
  unfold laws_FnFolds.f
  rw [big_eq, Option.bind_some]
  by_cases cb : (x0.length : Int) > 1048576
  · simp [cb]
  simp only [cb, decide_false, cond_false]
  obtain ⟨q, p, b, e, hs, hq, hp⟩ := DrawFold_ok x0 (by omega)
  obtain ⟨a, ea, ha0, ha1⟩ := at_eq x0 (fun x hx => w0.2 x hx) 0 (by omega) (by omega)
  have ea : laws_at.f x0 0 = some a := ea
  simp only [e, Option.bind_some, impl_Fold_eq q p b (by omega)]
  have hX := srt_foldP b p hs
  have hXl := foldP_len b p q
  have hk : ∃ k : Nat, k ≤ p.length ∧ (bif decide ((p.length : Int) > 0) then
      (laws_at.f x0 0).bind fun t4 =>
      bif (w64 ((p.length : Int) + 1)) != 0 then
      let y5 := Int.tmod t4 (w64 ((p.length : Int) + 1))
      some (q, p, b, foldP q p b, y5)
      else none
      else
      some (q, p, b, foldP q p b, 0) : Option (List (List UInt8 × List UInt8 × Int) × List (List UInt8 × Bool × List UInt8) × Int × List (List UInt8 × List UInt8 × Int) × Int)) = some (q, p, b, foldP q p b, (k : Int)) := by
    by_cases c : (p.length : Int) > 0
    · have hw : w64 ((p.length : Int) + 1) = (p.length : Int) + 1 := w64_id (by omega) (by omega)
      have hw2 : ((p.length : Int) + 1 != 0) = true := by simp; omega
      have hr := tmod_range ha0 (show 0 < (p.length : Int) + 1 by omega)
      refine ⟨(Int.tmod a ((p.length : Int) + 1)).toNat, by omega, ?_⟩
      simp only [c, decide_true, cond_true, ea, Option.bind_some, hw, hw2]
      rw [Int.toNat_of_nonneg hr.1]
    · exact ⟨0, Nat.zero_le _, by simp only [c, decide_false, cond_false]; rfl⟩
  obtain ⟨k, hkp, ek⟩ := hk
  have c1 : (decide (0 ≤ (k : Int)) && decide ((k : Int) ≤ (p.length : Int))) = true := by simp; omega
  have hA := foldP_len b (p.take k) q
  rw [List.length_take] at hA
  have hfp : foldP (foldP q (p.take k) b) (p.drop k) b = foldP q p b := by
    unfold foldP; rw [← List.foldl_append, List.take_append_drop]
  simp only [ek, Option.bind_some, c1, cond_true, Int.toNat_natCast, impl_Fold_eq q (p.take k) b (by rw [List.length_take]; omega), impl_Fold_eq (foldP q (p.take k) b) (p.drop k) b (by rw [List.length_drop]; omega), hfp, spec_SamePairs_eq (foldP q p b) (foldP q p b) (by omega), decide_true, Bool.not_true, cond_false]
  have key := lp_up (step := laws_FnFolds.l0) (fun n (_ : Unit) => (q, p, b, foldP q p b, (n : Int))) p.length (fun _ _ => .inl (q, p, b, foldP q p b)) (fun _ _ => True)
    (fun rec n s hn _ ih => by
      rcases Nat.lt_or_ge n p.length with h | h
      · have hw := w64_succ (show n + 1 < 9223372036854775808 by omega)
        simp only [laws_FnFolds.l0, Int.ofNat_lt, h, decide_true, cond_true, hw, Folds_l2 q p b _ n h (by omega), Option.bind_some, Folds_l4 q p b (foldP q p b) n _ h (by omega)]
        rcases Bool.eq_false_or_eq_true ((p.drop (n + 1)).all fun x => !(x.1 == p[n].1)) with c | c
        · have hne : ((!p[n].2.1) == p[n].2.1) = false := by cases p[n].2.1 <;> rfl
          simp only [c, cond_true, inB_nat, h, decide_true, Folds_is q p b n h c, rdA_nat, getD_lt h, hne, cond_false, Option.bind_some, caseS_l, hw, ih () h trivial]
        · simp only [c, cond_false, Option.bind_some, caseS_l, hw, ih () h trivial]
      · have : n = p.length := by omega
        subst this
        simp [laws_FnFolds.l0])
    (by omega) 0 () (Nat.zero_le _) trivial
  have key : lp laws_FnFolds.l0 (q, p, b, foldP q p b, 0) = _ := key
  have key6 := lp_ok (step := laws_FnFolds.l6) (a := (q, p, b, foldP q p b, ((1 : Nat) : Int))) (fun a => ∃ n : Nat, a = (q, p, b, foldP q p b, (n : Int)) ∧ 1 ≤ n) (fun a => (foldP q p b).length - a.2.2.2.2.toNat) (fun r => r = .inl (q, p, b, foldP q p b))
    (fun rec a ha => by
      obtain ⟨n, rfl, hn⟩ := ha
      rcases Nat.lt_or_ge n (foldP q p b).length with h | h
      · right
        obtain ⟨m, rfl⟩ : ∃ m, n = m + 1 := ⟨n - 1, by omega⟩
        have hm : m < (foldP q p b).length := by omega
        have hlt := List.pairwise_iff_getElem.1 hX m (m + 1) hm h (by omega)
        have hw1 : w64 (((m + 1 : Nat) : Int) - 1) = (m : Int) := down1 (by omega)
        have hle : (Op.bytesLess (foldP q p b)[m + 1].1 (foldP q p b)[m].1 || (foldP q p b)[m + 1].1 == (foldP q p b)[m].1) = false := by
          have := leK_not (foldP q p b)[m + 1].1 (foldP q p b)[m].1
          unfold leK at this
          rw [this, hlt]; rfl
        refine ⟨(q, p, b, foldP q p b, ((m + 1 + 1 : Nat) : Int)), ⟨m + 1 + 1, rfl, by omega⟩, by simp only [Int.toNat_natCast]; omega, ?_⟩
        simp only [laws_FnFolds.l6, Int.ofNat_lt, h, decide_true, cond_true, inB_nat, hw1, hm, rdA_nat, getD_lt h, getD_lt hm, hle, cond_false, w64_succ (show m + 1 + 1 < 9223372036854775808 by omega)]
      · left
        have c : ¬ (n : Int) < ((foldP q p b).length : Int) := by omega
        exact ⟨_, by simp only [laws_FnFolds.l6, c, decide_false, cond_false], rfl⟩)
    ⟨1, rfl, Nat.le_refl _⟩ (by simp only; omega)
  obtain ⟨r, er, hr⟩ := key6
  subst hr
  have er : lp laws_FnFolds.l6 (q, p, b, foldP q p b, 1) = _ := er
  have hfa : impl_FoldAcks.f q [(b, p)] = some (foldP q p b) := impl_FoldAcks_eq q [(b, p)] (by show q.length + (p.length + 0) < 2 ^ 36; omega) (by show 1 < 2 ^ 62; decide)
  simp only [key, Option.bind_some, caseS_l, er, hfa, spec_SamePairs_eq (foldP q p b) (foldP q p b) (show (foldP q p b).length < 2 ^ 62 by omega), decide_true]

end Go.Rf.G
