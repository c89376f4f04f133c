/- Plain: what is drawn. -/
import Derived.Test.YtaijmhaonokniaaLm
namespace Go.Rf.G
open Go Go.Rf
set_option linter.unusedVariables false
set_option linter.unusedSimpArgs false
set_option synthInstance.maxSize 4000

abbrev CurT := List Int × Int × Int

def Cur (c : CurT) : Prop := 0 ≤ c.2.1 ∧ c.1.length < 2 ^ 60

theorem and255 (x : Int) : 0 ≤ bits (fun _ a b => a &&& b) .i64 x 255 ∧ bits (fun _ a b => a &&& b) .i64 x 255 ≤ 255 := by
  have e : bits (fun _ a b => a &&& b) .i64 x 255 = IntKind.wrap .i64 ((BitVec.ofInt 64 x &&& BitVec.ofInt 64 255).toNat : Int) := rfl
  have h : (BitVec.ofInt 64 x &&& BitVec.ofInt 64 255).toNat ≤ 255 := by
    rw [BitVec.toNat_and]
    exact Nat.le_trans Nat.and_le_right (by decide)
  rw [e, wrap64_nat (by omega)]
  omega

theorem l1Byte_ok {c : CurT} (h : Cur c) : ∃ x c', spec_l1Byte.f c = some (x, c') ∧ 0 ≤ x ∧ x ≤ 255 ∧ Cur c' := by
  obtain ⟨l, i, s⟩ := c
  obtain ⟨h1, h2⟩ := h
  simp only at h1 h2
  unfold spec_l1Byte.f
  simp only
  generalize bits (fun _ a b => a ^^^ b) .i64 _ _ = y
  by_cases c : i < (l.length : Int)
  · obtain ⟨j, rfl⟩ : ∃ j : Nat, i = (j : Int) := ⟨i.toNat, by omega⟩
    have c2 : j < l.length := by omega
    simp only [c, decide_true, cond_true, inB_nat, c2]
    refine ⟨_, _, rfl, (and255 _).1, (and255 _).2, ?_, h2⟩
    show 0 ≤ w64 _
    rw [w64_id (by omega) (by omega)]; omega
  · simp only [c, decide_false, cond_false]
    exact ⟨_, _, rfl, (and255 _).1, (and255 _).2, h1, h2⟩

theorem tmod_range {x n : Int} (hx : 0 ≤ x) (hn : 0 < n) : 0 ≤ Int.tmod x n ∧ Int.tmod x n < n := by
  exact ⟨Int.tmod_nonneg n hx, Int.tmod_lt_of_pos x hn⟩

theorem l1Below_ok {c : CurT} (h : Cur c) (n : Int) : ∃ x c', spec_l1Below.f c n = some (x, c') ∧ 0 ≤ x ∧ (0 < n → x < n) ∧ (n ≤ 0 → x = 0) ∧ Cur c' := by
  unfold spec_l1Below.f
  by_cases c0 : n ≤ 0
  · simp only [c0, decide_true, cond_true]
    exact ⟨0, c, rfl, Int.le_refl _, fun h => by omega, fun _ => rfl, h⟩
  have hn : (n != 0) = true := by simp; omega
  by_cases c1 : n ≤ 256
  · obtain ⟨x, c', e, h1, h2, h3⟩ := l1Byte_ok h
    simp only [c0, c1, decide_true, decide_false, cond_true, cond_false, e, Option.bind_some, hn]
    have := tmod_range h1 (show 0 < n by omega)
    exact ⟨_, _, rfl, this.1, fun _ => this.2, fun h => h.elim, h3⟩
  · obtain ⟨x, c1', e1, a1, b1, h1⟩ := l1Byte_ok h
    obtain ⟨y, c2', e2, a2, b2, h2⟩ := l1Byte_ok h1
    obtain ⟨z, c3', e3, a3, b3, h3⟩ := l1Byte_ok h2
    obtain ⟨w, c4', e4, a4, b4, h4⟩ := l1Byte_ok h3
    simp only [c0, c1, decide_false, cond_false, e1, e2, e3, e4, Option.bind_some, hn, cond_true]
    rw [w64_id (n := x * 16777216) (by omega) (by omega), w64_id (n := y * 65536) (by omega) (by omega), w64_id (n := z * 256) (by omega) (by omega), w64_id (n := x * 16777216 + y * 65536) (by omega) (by omega), w64_id (n := x * 16777216 + y * 65536 + z * 256) (by omega) (by omega), w64_id (n := x * 16777216 + y * 65536 + z * 256 + w) (by omega) (by omega)]
    have := tmod_range (x := x * 16777216 + y * 65536 + z * 256 + w) (n := n) (by omega) (by omega)
    exact ⟨_, _, rfl, this.1, fun _ => this.2, fun h => h.elim, h4⟩

theorem l1Once_ok {c : CurT} (h : Cur c) (n : Int) : ∃ b c', spec_l1Once.f c n = some (b, c') ∧ Cur c' := by
  obtain ⟨x, c', e, _, _, _, h'⟩ := l1Below_ok h n
  unfold spec_l1Once.f
  simp only [e, Option.bind_some]
  exact ⟨_, _, rfl, h'⟩

theorem l1Pick_ok {c : CurT} (h : Cur c) (l : List (List UInt8)) (hl : 0 < l.length) : ∃ x c', spec_l1Pick.f c l = some (x, c') ∧ x ∈ l ∧ Cur c' := by
  obtain ⟨x, c', e, h1, h2, _, h'⟩ := l1Below_ok h (l.length : Int)
  have h2 := h2 (by omega)
  unfold spec_l1Pick.f
  simp only [e, Option.bind_some]
  obtain ⟨j, rfl⟩ : ∃ j : Nat, x = (j : Int) := ⟨x.toNat, by omega⟩
  have c2 : j < l.length := by omega
  simp only [inB_nat, c2, decide_true, cond_true, rdA_nat, getD_lt c2]
  exact ⟨_, _, rfl, List.getElem_mem c2, h'⟩

def keyList : List (List UInt8) := [[97], [98], [99], [107, 101, 121], [108, 111, 110, 103, 110, 97, 109, 101]]

theorem l5Key_ok {c : CurT} (h : Cur c) : ∃ x c', spec_l5Key.f c = some (x, c') ∧ keyOk x = true ∧ Cur c' := by
  obtain ⟨x, c', e, hm, h'⟩ := l1Pick_ok h keyList (by decide)
  unfold spec_l5Key.f
  have e : spec_l1Pick.f c [[97], [98], [99], [107, 101, 121], [108, 111, 110, 103, 110, 97, 109, 101]] = some (x, c') := e
  simp only [e, Option.bind_some]
  refine ⟨_, _, rfl, ?_, h'⟩
  have : ∀ y ∈ keyList, keyOk y = true := by decide
  exact this x hm

/-- A loop that counts down to nothing, with a cursor. -/
theorem down_ok {A B σ : Type} {step : (A → Option B) → A → Option B} (st : Nat → σ → A) (Inv : Nat → σ → Prop) (Post : B → Prop)
    (hz : ∀ rec s, Inv 0 s → ∃ b, step rec (st 0 s) = some b ∧ Post b)
    (hs : ∀ rec n s, Inv (n + 1) s → ∃ s', Inv n s' ∧ step rec (st (n + 1) s) = rec (st n s')) (n : Nat) (s : σ) (hi : Inv n s) (hn : n < 2 ^ 62) : ∃ b, lp step (st n s) = some b ∧ Post b := by
  have key : ∀ n f s, Inv n s → n < f → ∃ b, loopF step f (st n s) = some b ∧ Post b := by
    intro n
    induction n with
    | zero =>
      intro f s hi hf
      obtain ⟨f, rfl⟩ : ∃ g, f = g + 1 := ⟨f - 1, by omega⟩
      exact hz _ s hi
    | succ n ih =>
      intro f s hi hf
      obtain ⟨f, rfl⟩ : ∃ g, f = g + 1 := ⟨f - 1, by omega⟩
      obtain ⟨s', hi', e⟩ := hs (loopF step f) n s hi
      show ∃ b, step (loopF step f) (st (n + 1) s) = some b ∧ Post b
      rw [e]
      exact ih f s' hi' (by omega)
  exact key n FUEL s hi (Nat.lt_of_lt_of_le hn fuel_le)

/-- A loop that ends with what is wanted. -/
theorem lp_ok {A B : Type} {step : (A → Option B) → A → Option B} (P : A → Prop) (m : A → Nat) (Post : B → Prop)
    (h : ∀ rec a, P a → (∃ b, step rec a = some b ∧ Post b) ∨ ∃ a', P a' ∧ m a' < m a ∧ step rec a = rec a') {a : A} (hp : P a) (hm : m a < 2 ^ 62) : ∃ b, lp step a = some b ∧ Post b := by
  have key : ∀ f a, P a → m a < f → ∃ b, loopF step f a = some b ∧ Post b := by
    intro f
    induction f with
    | zero => intro a _ hf; omega
    | succ f ih =>
      intro a hp hf
      rcases h (loopF step f) a hp with hx | ⟨a', hp', hlt, e⟩
      · exact hx
      · show ∃ b, step (loopF step f) a = some b ∧ Post b
        rw [e]
        exact ih a' hp' (by omega)
  exact key FUEL a hp (Nat.lt_of_lt_of_le hm fuel_le)

theorem l1Text_ok {c : CurT} (h : Cur c) (most : Int) (h0 : 0 ≤ most) (h1 : most < 1000000000) : ∃ x c', spec_l1Text.f c most = some (x, c') ∧ (x.length : Int) ≤ most ∧ Cur c' := by
  obtain ⟨st, c1, e1, _, _, _, hc1⟩ := l1Below_ok h 4
  obtain ⟨n, c2, e2, a2, b2, _, hc2⟩ := l1Below_ok hc1 (most + 1)
  have b2 := b2 (by omega)
  obtain ⟨m, rfl⟩ : ∃ m : Nat, n = (m : Int) := ⟨n.toNat, by omega⟩
  have key := down_ok (step := spec_l1Text.l0) (fun k (s : CurT × List Int) => (s.1, s.2, st, (k : Int))) (fun k s => Cur s.1 ∧ s.2.length + k = m) (fun b => Cur b.1 ∧ b.2.length = m)
    (fun rec s hi => ⟨_, by simp [spec_l1Text.l0], hi.1, by simpa using hi.2⟩)
    (fun rec k s hi => by
      obtain ⟨hi1, hi2⟩ := hi
      obtain ⟨x, c', e, _, _, h'⟩ := l1Byte_ok hi1
      have e0 : ((k + 1 : Nat) : Int) > 0 := by omega
      have hw : w64 (((k + 1 : Nat) : Int) - 1) = (k : Int) := by rw [w64_id (by omega) (by omega)]; omega
      have hb : ∀ v : Int, (s.2.length + [v].length) * 1 ≤ 140737488355328 := fun v => by show (s.2.length + 1) * 1 ≤ _; omega
      cases d1 : (st == 1) <;> cases d2 : (st == 2) <;> simp only [spec_l1Text.l0, e0, decide_true, cond_true, cond_false, e, Option.bind_some, d1, d2, hb, hw]
      all_goals exact ⟨(c', s.2 ++ [_]), ⟨h', by simp only [List.length_append, List.length_singleton]; omega⟩, rfl⟩)
    m (c2, []) ⟨hc2, by simp⟩ (by omega)
  obtain ⟨⟨c3, xs⟩, e3, hc3, hl⟩ := key
  have e3 : lp spec_l1Text.l0 (c2, [], st, (m : Int)) = some (c3, xs) := e3
  unfold spec_l1Text.f
  rw [e1, Option.bind_some]
  simp only [w64_id (n := most + 1) (by omega) (by omega), e2, Option.bind_some, e3]
  refine ⟨_, _, rfl, ?_, hc3⟩
  unfold strOf
  simp only at hl
  rw [List.length_map, hl]; omega

theorem l1New_ok (l : List Int) (hl : l.length < 2 ^ 60) : ∃ c, spec_l1New.f l = some c ∧ Cur c := by
  have key : ∃ s, lp spec_l1New.l0 (l, w64 (10101 + (l.length : Int)), 0) = some (l, s) := by
    have := lp_ok (step := spec_l1New.l0) (a := (l, w64 (10101 + (l.length : Int)), ((0 : Nat) : Int))) (fun a => a.1 = l ∧ ∃ n : Nat, a.2.2 = (n : Int) ∧ n ≤ l.length) (fun a => l.length - a.2.2.toNat) (fun b => b.1 = l)
      (fun rec a ha => by
        obtain ⟨x, s, i⟩ := a
        obtain ⟨hx, n, hn, hle⟩ := ha
        simp only at hx hn
        subst hx hn
        by_cases c : n < x.length
        · by_cases c2 : (n : Int) < 4000
          · right
            have c3 : (n : Int) < (x.length : Int) := by omega
            refine ⟨(x, bits (fun _ a b => a &&& b) .i64 (w64 ((w64 ((w64 (s * 131)) + (w64 (x.getD n 0)))) + 7)) 1073741823, ((n + 1 : Nat) : Int)), ⟨rfl, n + 1, rfl, c⟩, by simp only [Int.toNat_natCast]; omega, ?_⟩
            simp only [spec_l1New.l0, c3, c2, decide_true, cond_true, inB_nat, c, rdA_nat, w64_succ (show n + 1 < 9223372036854775808 by omega)]
          · left
            have c3 : (n : Int) < (x.length : Int) := by omega
            exact ⟨(x, s), by simp only [spec_l1New.l0, c3, c2, decide_true, decide_false, cond_true, cond_false], rfl⟩
        · left
          have c3 : ¬ (n : Int) < (x.length : Int) := by omega
          exact ⟨(x, s), by simp only [spec_l1New.l0, c3, decide_false, cond_false], rfl⟩)
      ⟨rfl, 0, rfl, Nat.zero_le _⟩ (by simp only; omega)
    obtain ⟨⟨b1, b2⟩, e, hb⟩ := this
    simp only at hb
    subst hb
    exact ⟨b2, e⟩
  obtain ⟨s, e⟩ := key
  unfold spec_l1New.f
  simp only [e, Option.bind_some]
  exact ⟨_, rfl, Int.le_refl _, hl⟩
end Go.Rf.G
