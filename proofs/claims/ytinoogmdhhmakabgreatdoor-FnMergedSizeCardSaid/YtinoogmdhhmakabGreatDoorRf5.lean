/- A walk by reflection, part 5. -/
import Derived.WalkKit
import Derived.ProofKit
import Derived.OpenShut
import Derived.ShutString
import Derived.ChangeOld
import Derived.SizedLaws
import Derived.Carry
import Derived.WideShapes
import Derived.Lib.ItoaNum
import Derived.Lib.LaidTab
import Derived.Lib.SplitLaws
import Derived.Handed
import Derived.Test.YtinoogmdhhmakabGreatDoorRf4

/- Comparing structs whose cells are numbers, truth values and strings. -/
namespace Go.Rf
set_option linter.unusedVariables false
set_option linter.unusedSimpArgs false

theorem eqCells_cons {a c : Sc} {r r' : List Sc} {z : Bool} (h : eqCells (a :: r) (c :: r') = some z) : ∃ x y, eqCells.eqSc a c = some x ∧ eqCells r r' = some y ∧ z = (x && y) := by
  cases r with
  | nil =>
    cases r' with
    | nil => exact ⟨z, true, by simpa [eqCells] using h, rfl, by simp⟩
    | cons => simp only [eqCells] at h; split at h <;> simp_all [eqCells]
  | cons p q =>
    simp only [eqCells] at h
    split at h
    · rename_i x y h1 h2
      simp only [Option.some.injEq] at h
      exact ⟨x, y, h1, h2, h.symm⟩
    · simp at h

theorem eqCells_split : ∀ (l1 m1 : List Sc) {l2 m2 : List Sc} {z : Bool}, l1.length = m1.length → eqCells (l1 ++ l2) (m1 ++ m2) = some z → ∃ x y, eqCells l1 m1 = some x ∧ eqCells l2 m2 = some y ∧ z = (x && y)
  | [], [], _, _, z, _, h => ⟨true, z, rfl, h, by simp⟩
  | a :: l1, c :: m1, l2, m2, z, hl, h => by
    obtain ⟨x, y, h1, h2, h3⟩ := eqCells_cons h
    obtain ⟨x2, y2, k1, k2, k3⟩ := eqCells_split l1 m1 (by simpa using hl) h2
    refine ⟨x && x2, y2, ?_, k2, by rw [h3, k3, Bool.and_assoc]⟩
    cases l1 with
    | nil =>
      cases m1 with
      | nil => simp only [eqCells, Option.some.injEq] at k1 ⊢; rw [h1, ← k1]; simp
      | cons => simp at hl
    | cons p q =>
      cases m1 with
      | nil => simp at hl
      | cons p' q' => simp only [eqCells]; rw [h1, k1]
  | [], _ :: _, _, _, _, h, _ => by simp at h
  | _ :: _, [], _, _, _, h, _ => by simp at h


theorem sameNs_iff : ∀ {a b : List Nat}, sameNs a b = true → a = b
  | [], [], _ => rfl
  | a :: r, b :: r', h => by
    simp only [sameNs, Bool.and_eq_true] at h
    rw [Nat.eq_of_beq_eq_true h.1, sameNs_iff h.2]
  | [], _ :: _, h => by simp [sameNs] at h
  | _ :: _, [], h => by simp [sameNs] at h

theorem kindsOf_map : ∀ (l : List Sc), kindsOf l = l.map kindS
  | [] => rfl
  | c :: r => by simp [kindsOf, kindsOf_map r]

theorem eqCells_len : ∀ {l m : List Sc} {b : Bool}, eqCells l m = some b → l.length = m.length
  | [], [], _, _ => rfl
  | a :: r, c :: r', b, h => by
    obtain ⟨x, y, _, h2, _⟩ := eqCells_cons h
    simp [eqCells_len h2]
  | [], _ :: _, _, h => by simp [eqCells] at h
  | _ :: _, [], _, h => by simp [eqCells] at h

def eqFs (P : Program) (g : TypeId → Option (List Nat)) : List Field → Nat → Option (List Nat)
  | [], _ => some []
  | f :: fs, n => match g f.type, P.info? f.type with
    | some ks, some i => bif (f.name == "_") || !Nat.beq f.offset n || !Nat.beq i.size ks.length then none else
      match eqFs P g fs (n + ks.length) with
      | some r => some (ks ++ r)
      | none => none
    | _, _ => none

/-- The kinds of the cells of a type whose values are compared cell by cell. -/
def eqT (P : Program) : Nat → TypeId → Option (List Nat)
  | 0, _ => none
  | d + 1, t => match P.underlying t with
    | some (.int _) => some [0]
    | some .bool => some [1]
    | some .string => some [2]
    | some (.struct fs) => bif P.stoodInHeld t then none else eqFs P (eqT P d) fs.toList 0
    | _ => none

def EqOk (P : Program) (d : Nat) (t : TypeId) (ks : List Nat) : Prop :=
  ∃ g, (P.underlying t).map aggD = some g ∧ (g = false → ks.length = 1) ∧ ∀ (d' : Nat), d ≤ d' → ∀ (w : World) (l m : List Sc) (b : Bool) (vs us : List Value), kindsOf l = ks → eqCells l m = some b → All2 flatS l vs → All2 flatS m us →
    (Op.equalIn d' t (mkV g vs) (mkV g us)).run P w = .ok b w

theorem part_run {P : Program} {t n : Nat} {g : Bool} {w : World} (hs : (P.info? t).map (·.size) = some n) (hg : (P.underlying t).map aggD = some g) (h1 : g = false → n = 1) {pre cs post : List Value} (hc : cs.length = n) :
    (part t (pre ++ (cs ++ post)).toArray pre.length).run P w = .ok (mkV g cs) w := by
  unfold part
  rw [Sem.run_bind, run_agg w hg, Result.andThen_ok]
  cases g with
  | true =>
    simp only [if_true, Sem.run_bind, run_size w hs, Result.andThen_ok, Sem.run_pure, mkV]
    congr 2
    apply Array.ext'
    simp [← hc, List.take_append, List.drop_append]
  | false =>
    have h1 := h1 rfl
    subst h1
    obtain ⟨v, rfl⟩ : ∃ v, cs = [v] := by
      match cs, hc with
      | [v], _ => exact ⟨v, rfl⟩
    simp [mkV]


theorem eqFs_ok {P : Program} {d : Nat} {g : TypeId → Option (List Nat)} (hg : ∀ t n, g t = some n → EqOk P d t n) : ∀ (fs : List Field) (n : Nat) (N : List Nat), eqFs P g fs n = some N →
    ∀ (d' : Nat), d ≤ d' → ∀ (w : World) (l m : List Sc) (b : Bool) (pre vs pre' us : List Value), pre.length = n → pre'.length = n → kindsOf l = N → eqCells l m = some b → All2 flatS l vs → All2 flatS m us →
      (Op.eqFields d' (pre ++ vs).toArray (pre' ++ us).toArray fs).run P w = .ok b w
  | [], n, N, h => by
    simp only [eqFs, Option.some.injEq] at h
    subst h
    intro d' _ w l m b pre vs pre' us _ _ hl he _ _
    have hl : l = [] := by cases l with
      | nil => rfl
      | cons => simp [kindsOf] at hl
    subst hl
    have hm : m = [] := by have := eqCells_len he; cases m with
      | nil => rfl
      | cons => simp at this
    subst hm
    simp only [eqCells, Option.some.injEq] at he
    subst he
    simp [Op.eqFields]
  | f :: fs, n, N, h => by
    simp only [eqFs] at h
    split at h <;> try (simp at h; done)
    rename_i ks i hk hi
    cases hb : ((f.name == "_") || !Nat.beq f.offset n || !Nat.beq i.size ks.length) with
    | true => rw [hb] at h; simp at h
    | false =>
      rw [hb] at h
      simp only [cond_false] at h
      split at h <;> try (simp at h; done)
      rename_i r hr
      simp only [Option.some.injEq] at h
      subst h
      simp only [Bool.or_eq_false_iff, Bool.not_eq_false'] at hb
      obtain ⟨⟨hname, hoff⟩, hsz⟩ := hb
      have hoff := Nat.eq_of_beq_eq_true hoff
      have hsz := Nat.eq_of_beq_eq_true hsz
      obtain ⟨gg, e1, e2, e3⟩ := hg _ _ hk
      have ih := eqFs_ok hg fs (n + ks.length) r hr
      intro d' hd w l m b pre vs pre' us hp hp' hl he hv hu
      have hvl := hv.length
      have hul := hu.length
      have hlm := eqCells_len he
      have hll : l.length = ks.length + r.length := by have := congrArg List.length hl; rw [kindsOf_map] at this; simpa using this
      have hl1 : kindsOf (l.take ks.length) = ks := by rw [kindsOf_map, List.map_take, ← kindsOf_map, hl]; simp
      have hl2 : kindsOf (l.drop ks.length) = r := by rw [kindsOf_map, List.map_drop, ← kindsOf_map, hl]; simp
      have el : l = l.take ks.length ++ l.drop ks.length := (List.take_append_drop ks.length l).symm
      have em : m = m.take ks.length ++ m.drop ks.length := (List.take_append_drop ks.length m).symm
      have ev : vs = vs.take ks.length ++ vs.drop ks.length := (List.take_append_drop ks.length vs).symm
      have eu : us = us.take ks.length ++ us.drop ks.length := (List.take_append_drop ks.length us).symm
      rw [el, em] at he
      obtain ⟨x, y, h1, h2, h3⟩ := eqCells_split (l.take ks.length) (m.take ks.length) (by simp; omega) he
      have hsize : (P.info? f.type).map (·.size) = some ks.length := by rw [hi]; simp [hsz]
      have r1 := part_run (P := P) (w := w) hsize e1 e2 (pre := pre) (cs := vs.take ks.length) (post := vs.drop ks.length) (by simp; omega)
      have r2 := part_run (P := P) (w := w) hsize e1 e2 (pre := pre') (cs := us.take ks.length) (post := us.drop ks.length) (by simp; omega)
      have r3 := e3 d' hd w (l.take ks.length) (m.take ks.length) x (vs.take ks.length) (us.take ks.length) hl1 h1 (hv.take ks.length) (hu.take ks.length)
      rw [← ev, hp] at r1
      rw [← eu, hp'] at r2
      have r4 := ih d' hd w (l.drop ks.length) (m.drop ks.length) y (pre ++ vs.take ks.length) (vs.drop ks.length) (pre' ++ us.take ks.length) (us.drop ks.length) (by simp; omega) (by simp; omega) hl2 h2 (hv.drop ks.length) (hu.drop ks.length)
      rw [List.append_assoc, List.append_assoc, ← ev, ← eu] at r4
      have hne : f.name ≠ "_" := by simpa using hname
      simp only [Op.eqFields, if_pos hne, Sem.run_bind, hoff, r1, r2, r3, Result.andThen_ok]
      cases x with
      | false => simp [h3]
      | true => simp [h3, r4]

theorem eqT_ok {P : Program} : ∀ (d : Nat) (t : TypeId) (n : List Nat), eqT P d t = some n → EqOk P d t n
  | 0, _, _, h => by simp [eqT] at h
  | d + 1, t, n, h => by
    simp only [eqT] at h
    have one : ∀ (q : Nat) (l m : List Sc) (b : Bool) (vs us : List Value), kindsOf l = [q] → eqCells l m = some b → All2 flatS l vs → All2 flatS m us → ∃ a c v u, kindS a = q ∧ eqCells.eqSc a c = some b ∧ vs = [v] ∧ us = [u] ∧ flatS a v ∧ flatS c u := by
      intro q l m b vs us hl he hv hu
      have hm := eqCells_len he
      match l, m, hl, hm, hv, hu with
      | [a], [c], hl, _, ⟨v, vs', e1, p1, q1⟩, ⟨u, us', e2, p2, q2⟩ =>
        have q1 : vs' = [] := q1
        have q2 : us' = [] := q2
        subst q1; subst q2
        exact ⟨a, c, v, u, by simpa [kindsOf] using hl, by simpa [eqCells] using he, e1, e2, p1, p2⟩
    split at h <;> try (simp at h; done)
    · rename_i k hu
      simp only [Option.some.injEq] at h
      subst h
      refine ⟨false, by rw [hu]; rfl, fun _ => rfl, fun d' hd w l m b vs us hl he hv hu2 => ?_⟩
      obtain ⟨d'', rfl⟩ : ∃ d'', d' = d'' + 1 := ⟨d' - 1, by omega⟩
      obtain ⟨a, c, v, u, h0, h1, rfl, rfl, p1, p2⟩ := one 0 l m b vs us hl he hv hu2
      show (Op.equalIn (d'' + 1) t v u).run P w = _
      cases a <;> simp [kindS] at h0
      cases c <;> simp only [eqCells.eqSc, reduceCtorEq] at h1
      rename_i k1 n1 k2 n2
      cases hk : kEq k1 k2 with
      | false => rw [hk] at h1; simp at h1
      | true =>
        rw [hk] at h1
        simp only [cond_true, Option.some.injEq] at h1
        rw [show v = .int k1 n1 from p1, show u = .int k2 n2 from p2, ← kEq_iff hk, run_equalIn_int w d'' t k1 k n1 n2 hu, h1]
    · rename_i hu
      simp only [Option.some.injEq] at h
      subst h
      refine ⟨false, by rw [hu]; rfl, fun _ => rfl, fun d' hd w l m b vs us hl he hv hu2 => ?_⟩
      obtain ⟨d'', rfl⟩ : ∃ d'', d' = d'' + 1 := ⟨d' - 1, by omega⟩
      obtain ⟨a, c, v, u, h0, h1, rfl, rfl, p1, p2⟩ := one 1 l m b vs us hl he hv hu2
      show (Op.equalIn (d'' + 1) t v u).run P w = _
      cases a <;> simp [kindS] at h0
      cases c <;> simp only [eqCells.eqSc, reduceCtorEq, Option.some.injEq] at h1
      rename_i n1 n2
      rw [show v = .bool n1 from p1, show u = .bool n2 from p2, run_equalIn_bool' w d'' t n1 n2 hu, h1]
    · rename_i hu
      simp only [Option.some.injEq] at h
      subst h
      refine ⟨false, by rw [hu]; rfl, fun _ => rfl, fun d' hd w l m b vs us hl he hv hu2 => ?_⟩
      obtain ⟨d'', rfl⟩ : ∃ d'', d' = d'' + 1 := ⟨d' - 1, by omega⟩
      obtain ⟨a, c, v, u, h0, h1, rfl, rfl, p1, p2⟩ := one 2 l m b vs us hl he hv hu2
      show (Op.equalIn (d'' + 1) t v u).run P w = _
      cases a <;> simp [kindS] at h0
      cases c <;> simp only [eqCells.eqSc, reduceCtorEq, Option.some.injEq] at h1
      rename_i n1 n2
      rw [show v = .string ⟨n1.toArray⟩ from p1, show u = .string ⟨n2.toArray⟩ from p2, run_equalIn_string w d'' t _ _ hu, ByteArray.toList_eq, ByteArray.toList_eq, ← h1]
    · rename_i fs hu
      cases hs : P.stoodInHeld t with
      | true => rw [hs] at h; simp at h
      | false =>
        rw [hs] at h
        simp only [cond_false] at h
        refine ⟨true, by rw [hu]; rfl, fun h => by simp at h, fun d' hd w l m b vs us hl he hv hu2 => ?_⟩
        obtain ⟨d'', rfl⟩ : ∃ d'', d' = d'' + 1 := ⟨d' - 1, by omega⟩
        have := eqFs_ok (P := P) (d := d) (fun t n h => eqT_ok d t n h) fs.toList 0 n h d'' (by omega) w l m b [] vs [] us rfl rfl hl he hv hu2
        have hf : P.fieldsOf t = fs := by unfold Program.fieldsOf; rw [hu]
        show (Op.equalIn (d'' + 1) t (.agg vs.toArray) (.agg us.toArray)).run P w = _
        rw [run_equalIn_agg w d'' t _ _ (by rw [hf]; exact hu) hs, hf]
        exact this

/-! ### the table's check -/

def typeChk (P : Program) (T : Tab) (t : Nat) (td : TD) : Bool :=
  tagChk P t td.ty.size td.bytes (zeroVals td.ty) && (kindChk P T t td && td.ty.plain) &&
  (match P.underlying t with
    | some (.struct fs) => td.agg && Nat.beq fs.size td.flds.length && fldChk P fs.toList td.flds
    | some d => !td.agg && !aggD d && (match td.flds with | [] => true | _ => false)
    | none => false) &&
  (!td.eq || (td.agg && !P.eqGuardType P.depth t && (match eqT P 20 t with | some ks => sameNs ks (flatK td.ty) | none => false)))

def chkTab (P : Program) (T : Tab) : Tab → Bool
  | [] => true
  | (t, td) :: r => typeChk P T t td && chkTab P T r

theorem typeChk_ok {P : Program} {T : Tab} {t : Nat} {td : TD} (h : typeChk P T t td = true) : TypeOk P T t td := by
  unfold typeChk at h
  simp only [Bool.and_eq_true] at h
  obtain ⟨⟨⟨h1, h2⟩, h3⟩, h4⟩ := h
  refine ⟨tagChk_ok h1, ?_, h2.2, ?_, kindChk_ok h2.1, ?_⟩
  · intro ha
    split at h3
    · rename_i fs hu
      simp only [Bool.and_eq_true] at h3
      have hs := Nat.eq_of_beq_eq_true h3.1.2
      obtain ⟨k1, k2⟩ := fldChk_ok h3.2
      refine ⟨fs, hu, hs, fun j o n g hj => ?_⟩
      obtain ⟨fd, e1, e2⟩ := k2 j o n g hj
      exact ⟨fd, by rw [← Array.getElem?_toList]; exact e1, e2⟩
    · rw [ha] at h3; simp at h3
    · simp at h3
  · intro ha
    split at h3
    · rw [ha] at h3; simp at h3
    · rename_i d hn hu
      simp only [Bool.and_eq_true, Bool.not_eq_true'] at h3
      refine ⟨by rw [hu]; simp [h3.1.2], ?_⟩
      have h5 := h3.2
      split at h5
      · assumption
      · simp at h5
    · simp at h3
  · intro he
    rw [he] at h4
    simp only [Bool.not_true, Bool.false_or, Bool.and_eq_true, Bool.not_eq_true'] at h4
    refine ⟨h4.1.2, ?_⟩
    have ha := h4.1.1
    have h5 := h4.2
    split at h5
    · rename_i ks hk
      have := sameNs_iff h5
      subst this
      obtain ⟨g, e1, e2, e3⟩ := eqT_ok 20 t _ hk
      intro w xs ys l m b hl hc hx hy
      have hl := sameNs_iff hl
      have r := e3 10000 (by decide) w l m b xs.toList ys.toList hl hc hx hy
      have hg : g = true := by
        split at h3
        · rename_i fs hu; rw [hu] at e1; simpa [aggD] using e1.symm
        · rw [ha] at h3; simp at h3
        · simp at h3
      subst hg
      simpa [mkV] using r
    · simp at h5

theorem chkTab_ok {P : Program} {T : Tab} : ∀ {R : Tab}, chkTab P T R = true → ∀ t td, lkp R t = some td → TypeOk P T t td
  | [], _, _, _, h => by simp [lkp] at h
  | (t, td) :: r, hc, t', td', h => by
    simp only [chkTab, Bool.and_eq_true] at hc
    unfold lkp at h
    cases he : nEq t t' with
    | true =>
      rw [he] at h
      simp only [cond_true, Option.some.injEq] at h
      rw [← Nat.eq_of_beq_eq_true he, ← h]
      exact typeChk_ok hc.1
    | false =>
      rw [he] at h
      exact chkTab_ok hc.2 t' td' h

theorem tabOk {P : Program} {T : Tab} (h : chkTab P T T = true) : TabOk P T := chkTab_ok h
end Go.Rf

/- A row's data as readable values; a law's call. -/
namespace Go.Rf
set_option linter.unusedVariables false
set_option linter.unusedSimpArgs false
open Go.RowKit

/-- Data as they come: numbers fit, nothing is longer than memory is. -/
def wfD : (t : Ty) → t.den → Prop
  | .int k, n => k.min ≤ (show Int from n) ∧ (show Int from n) ≤ k.max
  | .bool, _ => True
  | .str, s => List.length (α := UInt8) s ≤ reachBytes
  | .sl _ t, xs => List.length (α := t.den) xs ≤ reachBytes ∧ ∀ x, List.Mem (α := t.den) x xs → wfD t x
  | .pair a b, x => wfD a x.1 ∧ wfD b x.2
  | .box _ t, x => wfD t x

def chkF (P : Program) (g : Ty → TypeId → Bool) : List Field → Ty → Nat → Bool
  | [], _, _ => false
  | [f], T, o => g T f.type && Nat.beq f.offset o && Nat.beq (P.cellsOf f.type) T.size
  | f :: h :: r, T, o => match T with
    | .pair a b => g a f.type && Nat.beq f.offset o && Nat.beq (P.cellsOf f.type) a.size && chkF P g (h :: r) b (o + a.size)
    | _ => false

def chkRd (P : Program) : Nat → Ty → TypeId → Bool
  | 0, _, _ => false
  | n + 1, T, t => match T, P.underlying t with
    | .int k, some (.int k') => kEq k k'
    | .bool, some .bool => true
    | .str, some .string => true
    | .sl _ e, some (.slice el) => Nat.beq (P.cellsOf el) e.size && Nat.ble 1 (P.bytesOf el) && chkRd P n e el
    | .pair a b, some (.struct fs) => chkF P (chkRd P n) fs.toList (.pair a b) 0 && Nat.beq (P.cellsOf t) (Ty.pair a b).size
    | _, _ => false

section
variable {H : Type} {enc : TypeId × Value → H} {P : Program} {w : World}

theorem exists_list {α : Type} {R : Nat → α → Prop} : ∀ (n : Nat), (∀ i, i < n → ∃ d, R i d) → ∃ xs : List α, xs.length = n ∧ ∀ (i : Nat) (d : α), xs[i]? = some d → R i d
  | 0, _ => ⟨[], rfl, by simp⟩
  | n + 1, h => by
    obtain ⟨xs, h1, h2⟩ := exists_list n fun i hi => h i (by omega)
    obtain ⟨d, hd⟩ := h n (by omega)
    refine ⟨xs ++ [d], by simp [h1], fun i e he => ?_⟩
    rcases Nat.lt_or_ge i xs.length with k | k
    · rw [List.getElem?_append_left k] at he; exact h2 i e he
    · rw [List.getElem?_append_right k] at he
      have : i = n := by
        rcases Nat.eq_zero_or_pos (i - xs.length) with z | z
        · omega
        · rw [List.getElem?_eq_none (by simp; omega)] at he; simp at he
      subst this
      rw [h1, Nat.sub_self] at he
      simp only [List.getElem?_cons_zero, Option.some.injEq] at he
      rw [← he]; exact hd

theorem ch_chunks {α : Type} {R : α → List Value → Prop} (L : List Value) (c : Nat) : ∀ (xs : List α) (off : Nat), (∀ (i : Nat) (x : α), xs[i]? = some x → R x ((L.drop (off + i * c)).take c)) → Ch R xs ((L.drop off).take (xs.length * c))
  | [], off, _ => by show _ = _; simp
  | x :: xs, off, h => by
    have h0 := h 0 x rfl
    have ih := ch_chunks L c xs (off + c) fun i y hy => by
      have := h (i + 1) y (by simpa using hy)
      rw [show off + c + i * c = off + (i + 1) * c by rw [Nat.add_mul]; omega]; exact this
    refine ⟨(L.drop off).take c, (L.drop (off + c)).take (xs.length * c), ?_, by simpa using h0, ih⟩
    rw [List.length_cons, Nat.add_mul, Nat.one_mul, Nat.add_comm (xs.length * c) c, List.take_add, List.drop_drop]

theorem cells_at {a : Addr} {n : Nat} {cs : List Value} (h : w.cells? 0 a n = some cs) : cs.length = n ∧ ∀ j, j < n → w.cell? (a.add j) = cs[j]? := by
  unfold World.cells? at h
  rw [if_pos (Nat.zero_le _)] at h
  exact ⟨by simpa using mapM_some_length h, fun j hj => mapM_some_get h j j (by simp [hj])⟩

theorem add_add (a : Addr) (i j : Nat) : (a.add i).add j = a.add (i + j) := by
  unfold Addr.add
  by_cases hi : i = 0
  · subst hi; simp
  · by_cases hj : j = 0
    · subst hj; simp
    · simp [hi, hj, Nat.add_assoc]

/-- The cells of a block, from its cells one by one. -/
theorem block_of {a : Addr} {n : Nat} {v : Nat → Option Value} (hn : 0 < n) (h : ∀ j, j < n → w.cell? (a.add j) = v j) (hv : ∀ j, j < n → (v j).isSome = true) :
    a.spot = none ∧ a.block < w.heap.size ∧ ∃ C e fr, w.heap[a.block]? = some (.cells C e fr) ∧ a.off + n ≤ C.size ∧ ∀ j, j < n → C[a.off + j]? = v j := by
  have h0 := h 0 hn
  have hv0 := hv 0 hn
  have a0 : a.add 0 = a := by simp [Addr.add]
  rw [a0] at h0
  unfold World.cell? at h0
  split at h0
  · rename_i C e fr hh
    have hs : a.spot = none := by
      cases hsp : a.spot with
      | none => rfl
      | some x => rw [hsp] at h0; simp at h0; rw [← h0] at hv0; simp at hv0
    have hall : ∀ j, j < n → C[a.off + j]? = v j := fun j hj => by
      have := h j hj
      have e1 : a.add j = ⟨a.block, a.off + j, none⟩ := by
        obtain ⟨b, o, sp⟩ := a
        simp only at hs
        subst hs
        exact add_at b o j
      rw [e1] at this
      unfold World.cell? at this
      rw [hh] at this
      simpa using this
    refine ⟨hs, ?_, C, e, fr, hh, ?_, hall⟩
    · rcases Nat.lt_or_ge a.block w.heap.size with k | k
      · exact k
      · rw [Array.getElem?_eq_none k] at hh; simp at hh
    · have := hall (n - 1) (by omega)
      have hz := hv (n - 1) (by omega)
      rw [← this] at hz
      have hlt : a.off + (n - 1) < C.size := by
        rcases Nat.lt_or_ge (a.off + (n - 1)) C.size with k | k
        · exact k
        · rw [Array.getElem?_eq_none k] at hz; simp at hz
      omega
  · rw [← h0] at hv0; simp at hv0

def Light (P : Program) (t : TypeId) (d : DataW H) : Prop := ∀ n ∈ d.weights P t, n ≤ reachBytes

theorem weights_all {e : TypeId} : ∀ {ds : List (DataW H)} {d : DataW H} {n : Nat}, d ∈ ds → n ∈ d.weights P e → n ∈ DataW.weightsAll P e ds
  | x :: ds, d, n, hd, hn => by
    simp only [DataW.weightsAll, List.mem_append]
    rcases List.mem_cons.1 hd with k | k
    · subst k; exact .inl hn
    · exact .inr (weights_all k hn)

def Opens (P : Program) (w : World) (enc : TypeId × Value → H) (T : Ty) (t : TypeId) : Prop :=
  ∀ (fuel : Nat) (cs : List Value) (x : DataW H × List MemPlace), DataW.trod enc P w 0 (fun _ => true) true fuel t cs = some x → Light P t x.1 → ∃ d, Rd w (fun b => b < w.heap.size) T d cs ∧ wfD T d

theorem chkF_ok {g : Ty → TypeId → Bool} (hg : ∀ T t, g T t = true → Opens P w enc T t) {m : Nat} {cs : List Value} : ∀ (fs : List Field) (T : Ty) (o : Nat) (xs : List (DataW H × List MemPlace)), chkF P g fs T o = true →
    (∀ (i : Nat) (f : Field), fs[i]? = some f → DataW.trod enc P w 0 (fun _ => true) true m f.type ((cs.drop f.offset).take (P.cellsOf f.type)) = xs[i]?) → xs.length = fs.length →
    (∀ n ∈ DataW.weightsEach P (fs.map (·.type)) (xs.map (·.1)), n ≤ reachBytes) → ∃ d, Rd w (fun b => b < w.heap.size) T d ((cs.drop o).take T.size) ∧ wfD T d
  | [], _, _, _, h, _, _, _ => by simp [chkF] at h
  | [f], T, o, xs, h, hx, hl, hw => by
    simp only [chkF, Bool.and_eq_true] at h
    obtain ⟨⟨h1, h2⟩, h3⟩ := h
    have h2 := Nat.eq_of_beq_eq_true h2
    have h3 := Nat.eq_of_beq_eq_true h3
    obtain ⟨x, rfl⟩ : ∃ x, xs = [x] := by
      match xs, hl with
      | [x], _ => exact ⟨x, rfl⟩
    have := hx 0 f rfl
    rw [h2, h3] at this
    exact hg T f.type h1 m _ x this fun n hn => hw n (by simpa [DataW.weightsEach] using hn)
  | f :: f2 :: r, T, o, xs, h, hx, hl, hw => by
    simp only [chkF] at h
    split at h <;> try (simp at h; done)
    rename_i a b
    simp only [Bool.and_eq_true] at h
    obtain ⟨⟨⟨h1, h2⟩, h3⟩, h4⟩ := h
    have h2 := Nat.eq_of_beq_eq_true h2
    have h3 := Nat.eq_of_beq_eq_true h3
    obtain ⟨x, xs, rfl⟩ : ∃ x xs', xs = x :: xs' := by
      match xs, hl with
      | x :: xs, _ => exact ⟨x, xs, rfl⟩
    have := hx 0 f rfl
    rw [h2, h3] at this
    obtain ⟨d1, r1, w1⟩ := hg a f.type h1 m _ x this fun n hn => hw n (by simp only [List.map_cons, DataW.weightsEach, List.mem_append]; exact .inl hn)
    obtain ⟨d2, r2, w2⟩ := chkF_ok hg (f2 :: r) b (o + a.size) xs h4 (fun i f' hf => by have := hx (i + 1) f' (by simpa using hf); simpa using this) (by simpa using hl)
      (fun n hn => hw n (by simp only [List.map_cons, DataW.weightsEach, List.mem_append] at hn ⊢; exact .inr hn))
    exact ⟨(d1, d2), ⟨_, _, by show List.take (a.size + b.size) _ = _; rw [List.take_add, List.drop_drop], r1, r2⟩, w1, w2⟩

theorem chkRd_ok : ∀ (n : Nat) (T : Ty) (t : TypeId), chkRd P n T t = true → Opens P w enc T t
  | 0, _, _, h => by simp [chkRd] at h
  | n + 1, T, t, h => by
    intro fuel cs x hx hl
    unfold chkRd at h
    split at h
    · rename_i k k' hu
      have := kEq_iff h
      subst this
      obtain ⟨z, e, e2, hw⟩ := DataW.trod_int hu hx
      simp only [Lit.wf, Bool.and_eq_true, decide_eq_true_eq] at hw
      exact ⟨z, e, hw⟩
    · rename_i hu
      obtain ⟨z, e, _⟩ := DataW.trod_bool hu hx
      exact ⟨z, e, trivial⟩
    · rename_i hu
      obtain ⟨z, e, e2, _⟩ := DataW.trod_string hu hx
      refine ⟨z.data.toList, e, ?_⟩
      rw [e2] at hl
      exact hl _ (by simp [DataW.weights])
    · rename_i m el elT hu
      simp only [Bool.and_eq_true] at h
      obtain ⟨⟨h1, h2⟩, h3⟩ := h
      have h1 := Nat.eq_of_beq_eq_true h1
      have h2 := Nat.le_of_ble_eq_true h2
      have ih := chkRd_ok n el elT h3
      rcases DataW.trod_slice hu hx with ⟨e, _⟩ | ⟨a, len, cap, elems, rest, fu, _, e, e2, _, hlc, hcm, hel, hread, _⟩
      · exact ⟨([] : List el.den), ⟨none, 0, e, Nat.le_refl _, .inl rfl⟩, Nat.zero_le _, fun _ hd => by cases hd⟩
      · rw [e2] at hl
        have hwl : (elems.length + rest.length) * P.bytesOf elT ≤ reachBytes := hl _ (by simp [DataW.weights, hu])
        have hlen : elems.length ≤ reachBytes := by
          have : elems.length + rest.length ≤ (elems.length + rest.length) * P.bytesOf elT := Nat.le_mul_of_pos_right _ h2
          omega
        have hpos := el.pos
        have each : ∀ i, i < len → ∃ (cs' : List Value) (y : DataW H × List MemPlace), w.cells? 0 (a.add (i * el.size)) el.size = some cs' ∧ DataW.trod enc P w 0 (fun _ => true) true fu elT cs' = some y ∧ elems[i]? = some y := fun i hi => by
          have := hread i hi
          rw [h1] at this
          have hlt : i < elems.length := by omega
          rw [List.getElem?_eq_getElem hlt] at this
          obtain ⟨cs', q1, q2⟩ := Option.bind_eq_some_iff.1 this
          exact ⟨cs', _, q1, q2, List.getElem?_eq_getElem hlt⟩
        rcases Nat.eq_zero_or_pos len with hz | hz
        · subst hz
          exact ⟨([] : List el.den), ⟨some a, cap, e, Nat.zero_le _, .inl rfl⟩, Nat.zero_le _, fun _ hd => by cases hd⟩
        · let v : Nat → Option Value := fun j => w.cell? (a.add j)
          have hv : ∀ j, j < len * el.size → (v j).isSome = true := fun j hj => by
            have hi : j / el.size < len := Nat.div_lt_of_lt_mul (by rw [Nat.mul_comm]; exact hj)
            obtain ⟨cs', y, q1, _⟩ := each _ hi
            obtain ⟨l1, l2⟩ := cells_at q1
            have hm : j % el.size < el.size := Nat.mod_lt _ hpos
            have := l2 _ hm
            rw [add_add, Nat.mul_comm, Nat.div_add_mod] at this
            show (w.cell? (a.add j)).isSome = true
            rw [this, List.getElem?_eq_getElem (by omega)]; rfl
          obtain ⟨k1, k2, C, ec, fr, k3, k4, k5⟩ := block_of (n := len * el.size) (v := v) (Nat.mul_pos hz hpos) (fun j _ => rfl) hv
          have chunk : ∀ i, i < len → ∃ d, Rd w (fun b => b < w.heap.size) el d ((C.toList.drop (a.off + i * el.size)).take el.size) ∧ wfD el d := fun i hi => by
            obtain ⟨cs', y, q1, q2, q3⟩ := each i hi
            obtain ⟨l1, l2⟩ := cells_at q1
            have hcs : cs' = (C.toList.drop (a.off + i * el.size)).take el.size := by
              have hb : i * el.size + el.size ≤ len * el.size := by rw [← Nat.succ_mul]; exact Nat.mul_le_mul_right _ hi
              apply List.ext_getElem?
              intro j
              by_cases hj : j < el.size
              · rw [← l2 j hj, add_add, List.getElem?_take_of_lt hj, List.getElem?_drop, Array.getElem?_toList, Nat.add_assoc, k5 _ (by omega)]
              · rw [List.getElem?_eq_none (by omega), List.getElem?_eq_none (by simp; omega)]
            rw [← hcs]
            refine ih fu cs' y q2 fun n hn => hl n ?_
            simp only [DataW.weights, hu, List.mem_cons, List.mem_append]
            exact .inr (.inl (weights_all (List.mem_map.2 ⟨y, List.mem_of_getElem? q3, rfl⟩) hn))
          obtain ⟨xs, x1, x2⟩ := exists_list len chunk
          refine ⟨xs, ⟨some a, cap, by rw [e, x1], by rw [x1]; exact hlc, .inr ⟨a, C, ec, fr, C.toList.take a.off, (C.toList.drop a.off).take (xs.length * el.size), C.toList.drop (a.off + xs.length * el.size), rfl, k1, k2, k3, ?_, ?_, ?_⟩⟩, by rw [x1]; omega, ?_⟩
          · rw [← List.drop_drop, List.take_append_drop, List.take_append_drop]
          · rw [List.length_take, Array.length_toList]; omega
          · exact ch_chunks _ _ xs a.off fun i d hd => (x2 i d hd).1
          · intro d hd
            obtain ⟨i, hi⟩ := List.getElem?_of_mem hd
            exact (x2 i d hi).2
    · rename_i a b fs hu
      simp only [Bool.and_eq_true] at h
      obtain ⟨h1, h2⟩ := h
      have h2 := Nat.eq_of_beq_eq_true h2
      obtain ⟨xs, m, _, e, hlen, hxl, hf⟩ := DataW.trod_struct hu hx
      rw [e] at hl
      obtain ⟨d, hd, hw⟩ := chkF_ok (fun T t h => chkRd_ok n T t h) (m := m) (cs := cs) fs.toList (.pair a b) 0 xs h1 (fun i f hf2 => hf i f (by simpa using hf2)) (by simpa using hxl)
        (fun k hk => hl k (by simpa [DataW.weights, hu] using hk))
      refine ⟨d, ?_, hw⟩
      rw [List.drop_zero, ← h2, ← hlen, List.take_length] at hd
      exact hd
    · simp at h
end

/-! ### a law's call -/

section
variable {P : Program}

/-- All parameters are read alone, the result is one truth value. -/
def lawSig : List PK → Bool
  | [] => true
  | .val t :: r => !t.owns && lawSig r
  | _ => false

theorem law_args {w : World} {S : Nat → Prop} : ∀ (ps : List PK), lawSig ps = true → ∀ (vs : List Value) (x : Tys (ps.map PK.ty)) fp tp, ArgsOk w S ps vs x fp tp → fp = [] ∧ tp = []
  | [], _, _, _, _, _, ⟨_, h1, h2⟩ => ⟨h1, h2⟩
  | p :: ps, h, _, x, _, _, ⟨v, vs', f1, f2, t1, t2, e1, e2, e3, h1, h2⟩ => by
    cases p with
    | val t =>
      simp only [lawSig, Bool.and_eq_true, Bool.not_eq_true'] at h
      obtain ⟨_, q, ht⟩ := h1
      obtain ⟨rfl, rfl⟩ := law_args ps h.2 vs' _ _ _ h2
      have := noowns_fp t h.1 _ _ _ q
      subst this
      rw [tops_noown t h.1] at ht
      subst ht
      exact ⟨e2, e3⟩
    | io t => simp [lawSig] at h
    | ptr t => simp [lawSig] at h

theorem law_calls [Laid] {g : Nat} {fn : Func} {body : Code} {c : Ctr} (hc : CtrOk P g c) (hf : P.funcs[g]? = some fn) (hn : (fn.name == "runtime.NumGoroutine") = false) (hb : fn.body = some body)
    (ps : List PK) (hs : c.g = ⟨ps, [.val .bool]⟩) (hl : lawSig ps = true) (w : World) (args : List Value) (x : Tys c.g.ins) (y : Tys c.g.outs) (hargs : ArgsOk w (fun b => b < w.heap.size) c.g.ps args x [] []) (hL : Laid.L w) (hy : c.fn x = some y)
    (htrue : ∀ (w' : World) (S' : Nat → Prop) us f1 t1, ResOk w' S' c.g.rs us (splitTys (c.g.rs.map RK.ty) (ioOf c.g.ps) y).1 f1 t1 → us = [.bool true]) :
    Calls P g args.toArray w fun e w' => e = .returned (.bool true) ∧ Below w.heap.size w w' := by
  have h := hc w args x (fun b => b < w.heap.size) [] [] y (fun _ h => h) hargs List.nodup_nil (by simp) hL (by simp) hy
    { dst := some 0, op := .move (.const .nilIface), type := 0, pos := "", after := #[], guard := none } ⟨#[undef], []⟩ (fun a' w' => a'.tmps.getD 0 undef = .bool true ∧ Below w.heap.size w w') (fun _ _ _ => False)
    (fun us w' S' f1 f2 t1 t2 hr _ post => ?_)
  · have hcall : (callFunc g args.toArray).run P w = .ok (.enter g args.toArray) w := by
      have hne : ¬ fn.name = "runtime.NumGoroutine" := by simpa using hn
      unfold callFunc
      simp [run_program, hf, hne, hb]
    rw [hcall, Oper.upon_enter] at h
    refine h.mono fun e w' he => ?_
    cases e with
    | returned v =>
      have he : ((⟨#[undef], []⟩ : Act).put (some 0) v).tmps.getD 0 undef = .bool true ∧ Below w.heap.size w w' := he
      obtain ⟨h1, h2⟩ := he
      refine ⟨?_, h2⟩
      have : v = .bool true := by simpa [Act.put] using h1
      rw [this]
    | panicked ch => exact he.elim
    | outgrown => exact absurd he (by simp [LetsOut])
  · have := htrue w' S' us f1 t1 hr
    subst this
    exact ⟨by simp [Act.put, resV], post.os, post.tape, post.output, post.size, fun k hk => post.old k hk (by simp)⟩
end
end Go.Rf

/- Tools for the rows of a seat. -/
namespace Go.Rf
set_option linter.unusedVariables false
set_option linter.unusedSimpArgs false
open Go.RowKit Go.WideShapes

section
variable {P : Program}

theorem EnvOk.nil [Laid] : EnvOk P [] := fun g cs h => by simp [lkp] at h

theorem EnvOk.cons [Laid] {g : Nat} {cs : List Ctr} {E : Env} (h : ∀ c ∈ cs, CtrOk P g c) (hE : EnvOk P E) : EnvOk P ((g, cs) :: E) := fun g' cs' hl => by
  unfold lkp at hl
  cases he : nEq g g' with
  | true =>
    rw [he] at hl
    simp only [cond_true, Option.some.injEq] at hl
    rw [← (nEq_iff _ _).1 he, ← hl]
    exact h
  | false =>
    rw [he] at hl
    exact hE g' cs' hl

theorem ctrs_nil [Laid] {g : Nat} : ∀ c ∈ ([] : List Ctr), CtrOk P g c := by simp
theorem ctrs_cons [Laid] {g : Nat} {c : Ctr} {cs : List Ctr} (h : CtrOk P g c) (hs : ∀ c ∈ cs, CtrOk P g c) : ∀ d ∈ c :: cs, CtrOk P g d := fun d hd => by
  rcases List.mem_cons.1 hd with k | k
  · rw [k]; exact h
  · exact hs d k

variable {H : Type} {enc : TypeId × Value → H} {W : World}

theorem form_okWide {n : Nat} {T : Ty} {t : TypeId} {r : Reach} {base : Nat} {v : Value} (h : chkRd P n T t = true) (hv : Value.okWide P W r base t v) : Form T v := by
  unfold Form
  cases n with
  | zero => simp [chkRd] at h
  | succ n =>
    unfold chkRd at h
    split at h
    · rename_i hu; obtain ⟨z, rfl⟩ := okWide_int hu hv; rfl
    · rename_i hu; obtain ⟨z, rfl⟩ := okWide_bool hu hv; rfl
    · rename_i hu; obtain ⟨z, rfl⟩ := okWide_string hu hv; rfl
    · rename_i hu; obtain ⟨a, l, c, rfl⟩ := okWide_slice hu hv; rfl
    · rename_i hu; obtain ⟨cs, rfl, _⟩ := okWide_struct hu hv; exact ⟨cs, rfl⟩
    · simp at h

/-- One parameter. -/
theorem arg_ok {n : Nat} {T : Ty} {t : TypeId} {r : Reach} {base : Nat} {v : Value} {d : DataW H} {p : List MemPlace} (h : chkRd P n T t = true) (ho : T.owns = false) (hv : Value.okWide P W r base t v)
    (hd : DataW.Trod enc P W 0 (fun _ => true) true t v d p) (hl : Light P t d) : ∃ x, ArgOk W (fun b => b < W.heap.size) (.val T) x v [] [] ∧ wfD T x := by
  obtain ⟨fuel, hf⟩ := hd
  obtain ⟨x, h1, h2⟩ := chkRd_ok n T t h fuel _ _ hf hl
  exact ⟨x, ⟨form_okWide h hv, noown_ow T ho x _ h1, (tops_noown T ho _).symm⟩, h2⟩

theorem light_of {ts : List TypeId} {ds : List (DataW H)} (h : (DataW.weightsEach P ts ds).all (· ≤ reachBytes) = true) {j : Nat} {t : TypeId} {d : DataW H} (ht : ts[j]? = some t) (hd : ds[j]? = some d) : Light P t d := fun n hn => by
  have := List.all_eq_true.1 h n (DataW.weights_mem_each ht hd n hn)
  simpa using this

theorem args_nil {S : Nat → Prop} : ArgsOk W S [] [] () [] [] := ⟨rfl, rfl, rfl⟩

theorem args_cons {S : Nat → Prop} {T : Ty} {ps : List PK} {v : Value} {vs : List Value} {x : T.den} {xs : Tys (ps.map PK.ty)} (h : ArgOk W S (.val T) x v [] []) (hs : ArgsOk W S ps vs xs [] []) :
    ArgsOk W S (.val T :: ps) (v :: vs) (consTy T (ps.map PK.ty) x xs) [] [] := by
  refine ⟨v, vs, [], [], [], [], rfl, rfl, rfl, ?_, ?_⟩
  · show ArgOk W S (.val T) (headTy T (ps.map PK.ty) (consTy T (ps.map PK.ty) x xs)) v [] []
    rw [head_cons]; exact h
  · show ArgsOk W S ps vs (tailTy T (ps.map PK.ty) (consTy T (ps.map PK.ty) x xs)) [] []
    rw [tail_cons]; exact hs

theorem res_bool {S : Nat → Prop} {us : List Value} {x : Bool} {f1 t1 : List Nat} (h : ResOk W S [.val .bool] us x f1 t1) : us = [.bool x] := by
  obtain ⟨v, vs', f1, f2, t1, t2, e1, e2, e3, ⟨hF, ⟨h1, _⟩, _⟩, h2, _⟩ := h
  subst e1; subst h2
  have hF : v.oneCell' = true := hF
  have h1 : v.cells.toList = [.bool x] := h1
  rw [cells_one hF] at h1
  simp at h1
  rw [h1]

theorem args_lt {t : TypeId} {v : Value} {d : DataW H} {p : List MemPlace} (hd : DataW.Trod enc P W 0 (fun _ => true) true t v d p) : ∀ x ∈ p, x.block < W.heap.size := by
  obtain ⟨m, hm⟩ := hd; exact DataW.trod_lt m _ _ _ hm

theorem shutB {spare : Nat → Bool} {held : Bool} {base t : Nat} (hu : P.underlying t = some .bool) (b : Bool) : DataW.Trod enc P W base spare held t (.bool b) (.lit (.bool b)) [] :=
  ⟨1, by simp [DataW.trod, Value.cells, hu]⟩
end
end Go.Rf

/- Contracts of functions of Go's library, out of what is proved of their calls. -/
namespace Go.Rf
set_option linter.unusedVariables false
set_option linter.unusedSimpArgs false
open Go.RowKit

theorem ctr_of_calls [Laid] {P : Program} {g : Nat} {c : Ctr} {fn : Func} (hf : P.funcs[g]? = some fn) (hn : (fn.name == "runtime.NumGoroutine") = false) (hb : fn.body.isSome = true)
    (h : ∀ (w : World) (args : List Value) (x : Tys c.g.ins) (S : Nat → Prop) (fp tp : List Nat) (y : Tys c.g.outs), (∀ b, S b → b < w.heap.size) → ArgsOk w S c.g.ps args x fp tp → Laid.L w → c.fn x = some y →
      Calls P g args.toArray w fun e w' => ∃ us S' f1 f2 t1 t2, e = .returned (resV us) ∧ ResOk w' S' c.g.rs us (splitTys (c.g.rs.map RK.ty) (ioOf c.g.ps) y).1 f1 t1 ∧ BackOk w' S' c.g.ps args (splitTys (c.g.rs.map RK.ty) (ioOf c.g.ps) y).2 f2 t2 ∧
        Post w S fp tp w' S' (f1 ++ f2) (t1 ++ t2)) : CtrOk P g c := by
  intro w args x S fp tp y hS hargs _ _ hLw _ hy o a K Q hK
  have hcall : (callFunc g args.toArray).run P w = .ok (.enter g args.toArray) w := by
    have hne : ¬ fn.name = "runtime.NumGoroutine" := by simpa using hn
    obtain ⟨body, hb⟩ := Option.isSome_iff_exists.1 hb
    unfold callFunc
    simp [run_program, hf, hne, hb]
  rw [hcall, Oper.upon_enter]
  refine (h w args x S fp tp y hS hargs hLw hy).mono fun e w' he => ?_
  obtain ⟨us, S', f1, f2, t1, t2, rfl, q1, q2, q3⟩ := he
  exact hK us w' S' f1 f2 t1 t2 q1 q2 q3

theorem post_below {w w' : World} {S : Nat → Prop} (hS : ∀ b, S b → b < w.heap.size) (h : Below w.heap.size w w') : Post w S [] [] w' S [] [] :=
  { nd := List.nodup_nil
    imm := by simp
    top := by simp
    all := by simp
    sub := fun b hb => .inl hb
    bnd := fun b hb => Nat.lt_of_lt_of_le (hS b hb) h.size
    old := fun b hb _ => h.block b hb
    size := h.size
    os := h.os
    tape := h.tape
    output := h.output }

/-- Nothing is asked. -/
abbrev noLaid : Laid := ⟨fun _ => True, fun _ => False, fun _ _ _ h => h, fun _ _ _ h => h.elim⟩

/-- A table of numbers lies in a package-level variable. -/
abbrev tabLaid (P : Program) (name : String) (k : IntKind) (zs : List Int) : Laid where
  L w := Lib.TabIs P w name k zs
  lb b := P.globalNamed name = some b
  keep w w' h hL := by
    unfold Lib.TabIs World.var? at *
    cases hg : P.globalNamed name with
    | none => rw [hg] at hL; simp at hL
    | some g => rw [hg] at hL; simp only [Option.bind_some] at hL ⊢; rw [h g hg]; exact hL
  bnd w b hL hb := by
    unfold Lib.TabIs World.var? at hL
    rw [hb] at hL
    simp only [Option.bind_some] at hL
    rcases Nat.lt_or_ge b w.heap.size with h | h
    · exact h
    · rw [Array.getElem?_eq_none h] at hL; simp at hL

namespace G

/-- A number in digits, where it is one that a number of 64 bits holds. -/
noncomputable def strconv_Itoa.f (n : Int) : Option (List UInt8) := bif decide (-9223372036854775808 ≤ n) && decide (n ≤ 9223372036854775807) then some (Lib.itoa n) else none

end G

def itoaSig : Sig := ⟨[.val (.int .i64)], [.val .str]⟩
noncomputable def itoaCtr : Ctr := ⟨itoaSig, fun x => G.strconv_Itoa.f x⟩

theorem itoa_ok [Laid] {P : Program} {g : Nat} {fn : Func} (hf : P.funcs[g]? = some fn) (hn : (fn.name == "runtime.NumGoroutine") = false) (hb : fn.body.isSome = true)
    (h : ∀ n : Int, -9223372036854775808 ≤ n → n ≤ 9223372036854775807 → ∀ w, Laid.L w → Calls P g #[.int .i64 n] w fun e w' => e = .returned (.string ⟨(Lib.itoa n).toArray⟩) ∧ Below w.heap.size w w') : CtrOk P g itoaCtr := by
  refine ctr_of_calls hf hn hb fun w args x0 S fp tp y hS hargs hL hy => ?_
  obtain ⟨x, hx⟩ : ∃ x : Int, x = x0 := ⟨x0, rfl⟩
  obtain ⟨v, vs', f1, f2, t1, t2, rfl, rfl, rfl, ⟨hF, ⟨hv, rfl⟩, rfl⟩, rfl, rfl, rfl⟩ := hargs
  have hF : v.oneCell' = true := hF
  have hc := Go.Rf.cells_one hF
  have hv : v.cells.toList = [.int .i64 x] := by rw [hx]; exact hv
  rw [hc] at hv
  have hv : v = .int .i64 x := by simpa using hv
  subst hv
  have hy : G.strconv_Itoa.f x = some y := by rw [hx]; exact hy
  unfold G.strconv_Itoa.f at hy
  cases hr : (decide (-9223372036854775808 ≤ x) && decide (x ≤ 9223372036854775807)) with
  | false => rw [hr] at hy; simp at hy
  | true =>
    rw [hr] at hy
    rw [cond_true] at hy
    cases hy
    simp only [Bool.and_eq_true, decide_eq_true_eq] at hr
    refine (h x hr.1 hr.2 w hL).mono fun e w' ⟨he, hB⟩ => ?_
    refine ⟨[.string ⟨(Lib.itoa x).toArray⟩], S, [], [], [], [], he, ?_, ?_, post_below hS hB⟩
    · exact ⟨_, [], [], [], [], [], rfl, rfl, rfl, ⟨rfl, ⟨rfl, rfl⟩, rfl⟩, rfl, rfl, rfl⟩
    · exact ⟨_, [], rfl, rfl, rfl, rfl⟩
end Go.Rf

/- Contracts: strings.Split. A row whose world's shape is told. -/
namespace Go.Rf
set_option linter.unusedVariables false
set_option linter.unusedSimpArgs false
open Go.RowKit

/-- A package-level variable holds a number. -/
abbrev cellLaid (g : Nat) : Laid where
  L w := ∃ m, w.cell? ⟨g, 0, none⟩ = some (.int .i64 m)
  lb b := b = g
  keep w w' h hL := by
    obtain ⟨m, hm⟩ := hL
    refine ⟨m, ?_⟩
    unfold World.cell? at hm ⊢
    rw [h g rfl]
    exact hm
  bnd w b hL hb := by
    obtain ⟨m, hm⟩ := hL
    subst hb
    exact World.block_lt_of_cell? _ _ hm

namespace G

/-- The pieces of a text, where the separator is not empty. -/
noncomputable def strings_Split.f (s sep : List UInt8) : Option (List (List UInt8)) :=
  bif decide (1 ≤ sep.length) && decide (s.length < 4294967281) then some ((Lib.splitB ⟨sep.toArray⟩ 0 (Lib.countB ⟨s.toArray⟩ ⟨sep.toArray⟩) ⟨s.toArray⟩).map fun b => b.data.toList) else none

end G

def splitSig : Sig := ⟨[.val .str, .val .str], [.val (.sl true .str)]⟩
noncomputable def splitCtr : Ctr := ⟨splitSig, fun x => G.strings_Split.f x.1 x.2⟩

theorem bytes_back (b : ByteArray) : (⟨b.data.toList.toArray⟩ : ByteArray) = b := by
  cases b; simp

theorem pieces_ok {w : World} {I : Nat → Prop} : ∀ l : List ByteArray, ChO (Ow w I .str) (l.map fun b => b.data.toList) (l.map Value.string) []
  | [] => ⟨rfl, rfl⟩
  | b :: l => ⟨[.string b], l.map Value.string, [], [], rfl, rfl, ⟨by show [Value.string b] = [Value.string ⟨b.data.toList.toArray⟩]; rw [bytes_back], rfl⟩, pieces_ok l⟩

theorem split_ok [Laid] {P : Program} {g : Nat} {fn : Func} {t9 : TypeId} (hf : P.funcs[g]? = some fn) (hn : (fn.name == "runtime.NumGoroutine") = false) (hb : fn.body.isSome = true)
    (h : ∀ s sep : ByteArray, s.size < 4294967281 → 1 ≤ sep.size → ∀ w, Laid.L w → Calls P g #[.string s, .string sep] w fun e w' =>
      e = .returned (.slice (some ⟨w.heap.size, 0, none⟩) (Lib.countB s sep + 1) (Lib.countB s sep + 1)) ∧ w' = w.alloc (.cells ((Lib.splitB sep 0 (Lib.countB s sep) s).map Value.string).toArray t9)) : CtrOk P g splitCtr := by
  refine ctr_of_calls hf hn hb fun w args x0 S fp tp y hS hargs hL hy => ?_
  obtain ⟨s, sep, hx⟩ : ∃ s sep : List UInt8, x0 = (s, sep) := ⟨x0.1, x0.2, rfl⟩
  subst hx
  obtain ⟨v, vs', f1, f2, t1, t2, rfl, rfl, rfl, ⟨hF, ⟨hv, rfl⟩, rfl⟩, v', vs2, g1, g2, u1, u2, rfl, rfl, rfl, ⟨hF', ⟨hv', rfl⟩, rfl⟩, rfl, rfl, rfl⟩ := hargs
  have hF : v.oneCell' = true := hF
  have hF' : v'.oneCell' = true := hF'
  have hv : v.cells.toList = [.string ⟨s.toArray⟩] := hv
  have hv' : v'.cells.toList = [.string ⟨sep.toArray⟩] := hv'
  rw [Go.Rf.cells_one hF] at hv
  rw [Go.Rf.cells_one hF'] at hv'
  have hv : v = .string ⟨s.toArray⟩ := by simpa using hv
  have hv' : v' = .string ⟨sep.toArray⟩ := by simpa using hv'
  subst hv; subst hv'
  have hy : G.strings_Split.f s sep = some y := hy
  unfold G.strings_Split.f at hy
  cases hr : (decide (1 ≤ sep.length) && decide (s.length < 4294967281)) with
  | false => rw [hr] at hy; simp at hy
  | true =>
    rw [hr] at hy
    rw [cond_true] at hy
    simp only [Bool.and_eq_true, decide_eq_true_eq] at hr
    have h1 : 1 ≤ (⟨sep.toArray⟩ : ByteArray).size := by show 1 ≤ sep.toArray.size; simpa using hr.1
    have h2 : (⟨s.toArray⟩ : ByteArray).size < 4294967281 := by show s.toArray.size < _; simpa using hr.2
    have hlen := Lib.splitB_all ⟨sep.toArray⟩ h1 0 _ ⟨s.toArray⟩ rfl
    refine (h ⟨s.toArray⟩ ⟨sep.toArray⟩ h2 h1 w hL).mono fun e w' ⟨he, hw⟩ => ?_
    generalize Lib.splitB ⟨sep.toArray⟩ 0 (Lib.countB ⟨s.toArray⟩ ⟨sep.toArray⟩) ⟨s.toArray⟩ = L at *
    have hy : y = L.map fun b => b.data.toList := (Option.some.inj hy).symm
    subst hy
    subst hw
    have hheap : (w.alloc (.cells (L.map Value.string).toArray t9)).heap[w.heap.size]? = some (.cells (L.map Value.string).toArray t9 (0, 0)) := by show (w.heap.push _)[w.heap.size]? = _; simp
    have hold : ∀ b, b < w.heap.size → (w.alloc (.cells (L.map Value.string).toArray t9)).heap[b]? = w.heap[b]? := fun b hb => by show (w.heap.push _)[b]? = _; rw [Array.getElem?_push, if_neg (Nat.ne_of_lt hb)]
    have hsz : (w.alloc (.cells (L.map Value.string).toArray t9)).heap.size = w.heap.size + 1 := by show (w.heap.push _).size = _; simp
    have hl2 : (L.map fun b => b.data.toList).length = Lib.countB ⟨s.toArray⟩ ⟨sep.toArray⟩ + 1 := by rw [List.length_map, hlen]
    refine ⟨[.slice (some ⟨w.heap.size, 0, none⟩) (Lib.countB ⟨s.toArray⟩ ⟨sep.toArray⟩ + 1) (Lib.countB ⟨s.toArray⟩ ⟨sep.toArray⟩ + 1)], S, [w.heap.size], [], [w.heap.size], [], he, ?_, ?_, ?_⟩
    · refine ⟨_, [], [w.heap.size], [], [w.heap.size], [], rfl, rfl, rfl, ⟨rfl, ?_, rfl⟩, rfl, rfl, rfl⟩
      refine .inr ⟨w.heap.size, Lib.countB ⟨s.toArray⟩ ⟨sep.toArray⟩ + 1, [], ?_, rfl, L.map Value.string, [], t9, by rw [List.append_nil]; exact hheap, ?_, ?_, pieces_ok L⟩
      · show [Value.slice _ _ _] = [Value.slice _ (L.map fun b => b.data.toList).length _]
        rw [hl2]
      · rw [List.append_nil, List.length_map, hlen]; show _ = _ * 1; omega
      · show (L.map fun b => b.data.toList).length ≤ _
        rw [hl2]; exact Nat.le_refl _
    · exact ⟨_, _, rfl, _, _, rfl, rfl, rfl, rfl⟩
    · exact
      { nd := by simp
        imm := fun b hb k => by
          have : b = w.heap.size := by simpa using hb
          have := hS b k; omega
        top := fun b hb => .inr (by have : b = w.heap.size := by simpa using hb
                                    omega)
        all := fun b hb => .inr (by have : b = w.heap.size := by simpa using hb
                                    omega)
        sub := fun b hb => .inl hb
        bnd := fun b hb => by rw [hsz]; have := hS b hb; omega
        old := fun b hb _ => hold b hb
        size := by rw [hsz]; omega
        os := rfl
        tape := rfl
        output := rfl }

section
variable {H : Type} {enc : TypeId × Value → H}

/-- As the kit's own 'returnsInHanded_of_change_and', but the call may use that its world has its shape. -/
theorem handed_shaped {a : Assume} {C : Checked} {os : Os} {f : FuncId} {fn : Func} {s : ChangeSpec} {conds : List PathCond} {apart fresh handsOn again : Bool} {X : World → Array Value → Prop}
    (hX : ∀ (w w' : World) (args : Array Value), w.heap = w'.heap → X w args → X w' args)
    (own : ownKnob C.prog.godebug = none) (started : os.Started) (noInit : C.prog.inits.idxOf? f = none) (hfn : C.prog.funcs[f]? = some fn)
    (witness : ∃ (w : World) (tape : Tape) (i : Input), w.os = os ∧ (w.forCall tape i).Shaped C.prog ∧ i.vars = [] ∧ Input.okWide C.prog (w.forCall tape i) .any w.heap.size f i ∧
      ((s.pre enc C.prog fn conds apart (w.forCall tape i).memory i.args ∧ X (w.forCall tape i).memory i.args) ∧ sizedMet enc C.prog fn (OpenSpec.ofChange s) apart (w.forCall tape i).memory i.args) ∧ a.holds C.prog (lone (Frame.enter C.prog f i.args .normal) [] (w.forCall tape i)))
    (contract : ∀ (W : World) (base : Nat) (args : Array Value) (ds gs : List (DataW H)) (before : List MemPlace), W.ShapedOpen C.prog →
      (∀ (j : Nat) t v, fn.params[j]? = some t → args[j]? = some v → Value.okWide C.prog W .any base t v) →
      DataW.Whole enc C.prog fn.params.toList s.vars apart W args.toList ds gs before →
      conds.all (PathCond.test C.prog ⟨fn.params.toList, ds, s.plain.varTypes C.prog, gs⟩) = true →
      (DataW.weightsEach C.prog (fn.params.toList ++ s.plain.varTypes C.prog) (ds ++ gs)).all (· ≤ reachBytes) = true → X W args →
      a.holds C.prog (lone (Frame.enter C.prog f args .normal) [] W) →
      Calls C.prog f args W fun e W' => ∃ v, e = .returned v ∧ s.post enc C.prog fn apart fresh handsOn again W args v W') :
    ReturnsInHanded a C os f .any (fun w args => (s.pre enc C.prog fn conds apart w args ∧ X w args) ∧ sizedMet enc C.prog fn (OpenSpec.ofChange s) apart w args) (s.post enc C.prog fn apart fresh handsOn again) := by
  refine returnsInHanded_of_calls own started noInit witness ?_
  intro w tape i _ hsh _ hok hpre hholds
  obtain ⟨_, _, _, fn', hfn', _, _, _, _, hval⟩ := hok
  have e : fn' = fn := Option.some.inj (hfn'.symm.trans hfn)
  subst e
  obtain ⟨⟨⟨ds, gs, before, hw, hc⟩, hx⟩, hz⟩ := hpre
  have hw' := DataW.Whole.of_heap (w' := w.forCall tape i) (by rfl) hw
  refine (contract (w.forCall tape i) w.heap.size i.args ds gs before hsh hval hw' hc (hz.weights hw) (hX _ _ _ (by rfl) hx) hholds).mono fun e W' ⟨v, he, hp⟩ => ?_
  subst he
  exact ChangeSpec.post_blind hp
end
end Go.Rf
