/- Plain laws: what the plain functions answer. -/
import Derived.Test.YtljiidpfgfkhcabDoorRf5
import Derived.Test.YtljiidpfgfkhcabDoorXCodeWordFns
namespace Go.Rf.G
open Go Go.Rf
set_option linter.unusedVariables false
set_option linter.unusedSimpArgs false
set_option synthInstance.maxSize 4000

@[simp] theorem inB_nat (n m : Nat) : inB (n : Int) m = decide (n < m) := by
  unfold inB
  by_cases h : n < m <;> simp [h, Int.natCast_nonneg]

@[simp] theorem rdA_nat {α : Type} (z : α) (xs : List α) (n : Nat) : rdA z xs (n : Int) = xs.getD n z := rfl

def markL {X : Type} (mk : Int → X → X) (c : Nat) : List X → Int → List X
  | [], _ => []
  | x :: r, k => mk k x :: markL mk c r (k + c)

@[simp] theorem markL_len {X : Type} (mk : Int → X → X) (c : Nat) : ∀ (l : List X) (k : Int), (markL mk c l k).length = l.length
  | [], _ => rfl
  | x :: r, k => by simp [markL, markL_len mk c r]

@[simp] theorem caseS_l {A B C : Type} (a : A) (f : A → C) (g : B → C) : caseS (.inl a) f g = f a := rfl

@[simp] theorem caseS_r {A B C : Type} (b : B) (f : A → C) (g : B → C) : caseS (.inr b) f g = g b := rfl

theorem impl_in_eq (n a b : Int) : impl_in.f n a b = some (decide (a ≤ n ∧ n ≤ b)) := by
  unfold impl_in.f
  by_cases h : a ≤ n
  · have h2 : n ≥ a := h
    simp [h, h2]
  · have h2 : ¬ n ≥ a := h
    simp [h, h2]

theorem spec_l1In_eq (n a b : Int) : spec_l1In.f n a b = some (decide (a ≤ n ∧ n ≤ b)) := impl_in_eq n a b

abbrev codeWords : List (List UInt8) := [[111, 107], [100, 111, 119, 110], [115, 112, 97, 99, 101], [99, 111, 114, 114, 117, 112, 116], [97, 114, 103, 115], [109, 97, 110, 121], [99, 108, 111, 115, 101, 100], [99, 111, 110, 102, 108, 105, 99, 116], [110, 111, 110, 101]]

theorem split_words : strings_Split.f [111, 107, 32, 100, 111, 119, 110, 32, 115, 112, 97, 99, 101, 32, 99, 111, 114, 114, 117, 112, 116, 32, 97, 114, 103, 115, 32, 109, 97, 110, 121, 32, 99, 108, 111, 115, 101, 100, 32, 99, 111, 110, 102, 108, 105, 99, 116, 32, 110, 111, 110, 101] [32] = some codeWords := by
  unfold strings_Split.f
  rw [Lib.splitB_data]
  rfl

theorem FnExactCodeWord_true (x0 : Int) (w0 : wfD (.int .i64) x0) : laws_FnExactCodeWord.f x0 = some true := by
  unfold laws_FnExactCodeWord.f spec_CodeWord.f impl_CodeWord.f
  rw [split_words, spec_l1In_eq, impl_in_eq]
  by_cases h : 0 ≤ x0 ∧ x0 ≤ 8
  · obtain ⟨n, rfl⟩ : ∃ n : Nat, x0 = (n : Int) := ⟨x0.toNat, by omega⟩
    have hn : n < 9 := by omega
    have hl : inB (n : Int) codeWords.length = true := by rw [inB_nat]; exact decide_eq_true hn
    simp only [Option.bind_some, h, and_self, decide_true, Bool.not_true, cond_false]
    rw [show inB (n : Int) codeWords.length = true from hl]
    simp [hn]
  · simp only [Option.bind_some, h, decide_false, Bool.not_false, cond_true]
    rfl

end Go.Rf.G
