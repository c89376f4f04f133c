/- The table of types, checked. -/
import Derived.Test.YtaijmhaonokniaaRfZc
namespace Go.Rf
set_option linter.unusedVariables false
set_option linter.unusedSimpArgs false

def eqV : Value → Value → Bool
  | .int k n, .int k' m => kEq k k' && decide (n = m)
  | .bool a, .bool b => a == b
  | .string a, .string b => decide (a.data.toList = b.data.toList)
  | .slice none n c, .slice none m d => Nat.beq n m && Nat.beq c d
  | _, _ => false

theorem eqV_iff {a b : Value} (h : eqV a b = true) : a = b := by
  unfold eqV at h
  split at h
  · simp only [Bool.and_eq_true, decide_eq_true_eq] at h
    rw [kEq_iff h.1, h.2]
  · simp only [beq_iff_eq] at h; rw [h]
  · simp only [decide_eq_true_eq] at h
    congr 1
    apply ByteArray.ext
    apply Array.ext'
    exact h
  · simp only [Bool.and_eq_true] at h
    rw [Nat.eq_of_beq_eq_true h.1, Nat.eq_of_beq_eq_true h.2]
  · simp at h

def eqVs : List Value → List Value → Bool
  | [], [] => true
  | a :: r, b :: r' => eqV a b && eqVs r r'
  | _, _ => false

theorem eqVs_iff : ∀ {l m : List Value}, eqVs l m = true → l = m
  | [], [], _ => rfl
  | a :: r, b :: r', h => by
    simp only [eqVs, Bool.and_eq_true] at h
    rw [eqV_iff h.1, eqVs_iff h.2]
  | [], _ :: _, h => by simp [eqVs] at h
  | _ :: _, [], h => by simp [eqVs] at h

def tagChk (P : Program) (t n b : Nat) (zs : List Value) : Bool :=
  match P.info? t with
  | some i => Nat.beq i.size n && Nat.beq i.bytes b && match i.zero with
    | some z => eqVs z.cells.toList zs
    | none => false
  | none => false

theorem tagChk_ok {P : Program} {t n b : Nat} {zs : List Value} (h : tagChk P t n b zs = true) : TagOk P t n b zs := by
  unfold tagChk at h
  unfold TagOk
  cases hi : P.info? t with
  | none => rw [hi] at h; simp at h
  | some i =>
    rw [hi] at h
    simp only [Bool.and_eq_true] at h
    cases hz : i.zero with
    | none => rw [hz] at h; simp at h
    | some z =>
      rw [hz] at h
      exact ⟨by simp [Nat.eq_of_beq_eq_true h.1.1], by simp [Nat.eq_of_beq_eq_true h.1.2], z, by simp [hz], eqVs_iff h.2⟩

def fldChk (P : Program) : List Field → List (Nat × Nat × Bool) → Bool
  | [], [] => true
  | fd :: fs, (o, n, g) :: l => Nat.beq fd.offset o && (match P.info? fd.type with | some i => Nat.beq i.size n | none => false) && !Nat.beq n 0 && (match P.underlying fd.type with | some d => aggD d == g | none => false) && fldChk P fs l
  | _, _ => false

theorem fldChk_ok {P : Program} : ∀ {fs : List Field} {l : List (Nat × Nat × Bool)}, fldChk P fs l = true → fs.length = l.length ∧
    ∀ (j o n : Nat) (g : Bool), l[j]? = some (o, n, g) → ∃ fd : Field, fs[j]? = some fd ∧ fd.offset = o ∧ (P.info? fd.type).map (·.size) = some n ∧ n ≠ 0 ∧ (P.underlying fd.type).map aggD = some g
  | [], [], _ => ⟨rfl, by simp⟩
  | fd :: fs, (o, n, g) :: l, h => by
    simp only [fldChk, Bool.and_eq_true] at h
    obtain ⟨⟨⟨⟨h1, h2⟩, h3⟩, h4⟩, h5⟩ := h
    obtain ⟨k1, k2⟩ := fldChk_ok h5
    refine ⟨by simp [k1], fun j o' n' g' hj => ?_⟩
    cases j with
    | zero =>
      simp only [List.getElem?_cons_zero, Option.some.injEq, Prod.mk.injEq] at hj
      obtain ⟨rfl, rfl, rfl⟩ := hj
      refine ⟨fd, rfl, Nat.eq_of_beq_eq_true h1, ?_, ?_, ?_⟩
      · cases hi : P.info? fd.type with
        | none => rw [hi] at h2; simp at h2
        | some i => rw [hi] at h2; simp [Nat.eq_of_beq_eq_true h2]
      · intro e; subst e; simp at h3
      · cases hi : P.underlying fd.type with
        | none => rw [hi] at h4; simp at h4
        | some d => rw [hi] at h4; simpa using h4
    | succ j => exact k2 j o' n' g' (by simpa using hj)
  | [], _ :: _, h => by simp [fldChk] at h
  | _ :: _, [], h => by simp [fldChk] at h

def kindChk (P : Program) (T : Tab) (t : Nat) (td : TD) : Bool :=
  match td.ty, P.underlying t with
  | .int k, some (.int k') => kEq k k'
  | .bool, some .bool => true
  | .str, some .string => true
  | .sl _ e, some (.slice el) => (match td.elem with | some el' => Nat.beq el el' | none => false) && tagChk P el e.size (elemBytes T t) (zeroVals e)
  | .pair _ _, _ => td.agg
  | _, _ => false

theorem kindChk_ok {P : Program} {T : Tab} {t : Nat} {td : TD} (h : kindChk P T t td = true) : match td.ty with
    | .int k => P.underlying t = some (.int k)
    | .bool => P.underlying t = some .bool
    | .str => P.underlying t = some .string
    | .sl _ e => ∃ el, td.elem = some el ∧ P.underlying t = some (.slice el) ∧ TagOk P el e.size (elemBytes T t) (zeroVals e)
    | .pair _ _ => td.agg = true
    | .box _ _ => False := by
  unfold kindChk at h
  split at h
  · rename_i k k' h1 h2; rw [h1]; simp only; rw [h2, kEq_iff h]
  · rename_i h1 h2; rw [h1]; exact h2
  · rename_i h1 h2; rw [h1]; exact h2
  · rename_i m e el h1 h2
    rw [h1]
    simp only [Bool.and_eq_true] at h
    cases he : td.elem with
    | none => rw [he] at h; simp at h
    | some el' =>
      rw [he] at h
      have := Nat.eq_of_beq_eq_true h.1
      subst this
      exact ⟨el, rfl, h2, tagChk_ok h.2⟩
  · rename_i a b h1; rw [h1]; exact h
  · simp at h
end Go.Rf
