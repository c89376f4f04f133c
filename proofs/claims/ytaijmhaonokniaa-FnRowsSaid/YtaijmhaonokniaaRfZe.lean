/- Comparing structs whose cells are numbers, truth values and strings. -/
import Derived.Test.YtaijmhaonokniaaRfZd
namespace Go.Rf
set_option linter.unusedVariables false
set_option linter.unusedSimpArgs false

theorem eqCells_cons {a c : Sc} {r r' : List Sc} {z : Bool} (h : eqCells (a :: r) (c :: r') = some z) : ∃ x y, eqCells.eqSc a c = some x ∧ eqCells r r' = some y ∧ z = (x && y) := by
  cases r with
  | nil =>
    cases r' with
    | nil => exact ⟨z, true, by simpa [eqCells] using h, rfl, by simp⟩
    | cons => simp only [eqCells] at h; split at h <;> simp_all [eqCells]
  | cons p q =>
    simp only [eqCells] at h
    split at h
    · rename_i x y h1 h2
      simp only [Option.some.injEq] at h
      exact ⟨x, y, h1, h2, h.symm⟩
    · simp at h

theorem eqCells_split : ∀ (l1 m1 : List Sc) {l2 m2 : List Sc} {z : Bool}, l1.length = m1.length → eqCells (l1 ++ l2) (m1 ++ m2) = some z → ∃ x y, eqCells l1 m1 = some x ∧ eqCells l2 m2 = some y ∧ z = (x && y)
  | [], [], _, _, z, _, h => ⟨true, z, rfl, h, by simp⟩
  | a :: l1, c :: m1, l2, m2, z, hl, h => by
    obtain ⟨x, y, h1, h2, h3⟩ := eqCells_cons h
    obtain ⟨x2, y2, k1, k2, k3⟩ := eqCells_split l1 m1 (by simpa using hl) h2
    refine ⟨x && x2, y2, ?_, k2, by rw [h3, k3, Bool.and_assoc]⟩
    cases l1 with
    | nil =>
      cases m1 with
      | nil => simp only [eqCells, Option.some.injEq] at k1 ⊢; rw [h1, ← k1]; simp
      | cons => simp at hl
    | cons p q =>
      cases m1 with
      | nil => simp at hl
      | cons p' q' => simp only [eqCells]; rw [h1, k1]
  | [], _ :: _, _, _, _, h, _ => by simp at h
  | _ :: _, [], _, _, _, h, _ => by simp at h


theorem sameNs_iff : ∀ {a b : List Nat}, sameNs a b = true → a = b
  | [], [], _ => rfl
  | a :: r, b :: r', h => by
    simp only [sameNs, Bool.and_eq_true] at h
    rw [Nat.eq_of_beq_eq_true h.1, sameNs_iff h.2]
  | [], _ :: _, h => by simp [sameNs] at h
  | _ :: _, [], h => by simp [sameNs] at h

theorem kindsOf_map : ∀ (l : List Sc), kindsOf l = l.map kindS
  | [] => rfl
  | c :: r => by simp [kindsOf, kindsOf_map r]

theorem eqCells_len : ∀ {l m : List Sc} {b : Bool}, eqCells l m = some b → l.length = m.length
  | [], [], _, _ => rfl
  | a :: r, c :: r', b, h => by
    obtain ⟨x, y, _, h2, _⟩ := eqCells_cons h
    simp [eqCells_len h2]
  | [], _ :: _, _, h => by simp [eqCells] at h
  | _ :: _, [], _, h => by simp [eqCells] at h

def eqFs (P : Program) (g : TypeId → Option (List Nat)) : List Field → Nat → Option (List Nat)
  | [], _ => some []
  | f :: fs, n => match g f.type, P.info? f.type with
    | some ks, some i => bif (f.name == "_") || !Nat.beq f.offset n || !Nat.beq i.size ks.length then none else
      match eqFs P g fs (n + ks.length) with
      | some r => some (ks ++ r)
      | none => none
    | _, _ => none

/-- The kinds of the cells of a type whose values are compared cell by cell. -/
def eqT (P : Program) : Nat → TypeId → Option (List Nat)
  | 0, _ => none
  | d + 1, t => match P.underlying t with
    | some (.int _) => some [0]
    | some .bool => some [1]
    | some .string => some [2]
    | some (.struct fs) => bif P.stoodInHeld t then none else eqFs P (eqT P d) fs.toList 0
    | _ => none

def EqOk (P : Program) (d : Nat) (t : TypeId) (ks : List Nat) : Prop :=
  ∃ g, (P.underlying t).map aggD = some g ∧ (g = false → ks.length = 1) ∧ ∀ (d' : Nat), d ≤ d' → ∀ (w : World) (l m : List Sc) (b : Bool) (vs us : List Value), kindsOf l = ks → eqCells l m = some b → All2 flatS l vs → All2 flatS m us →
    (Op.equalIn d' t (mkV g vs) (mkV g us)).run P w = .ok b w

theorem part_run {P : Program} {t n : Nat} {g : Bool} {w : World} (hs : (P.info? t).map (·.size) = some n) (hg : (P.underlying t).map aggD = some g) (h1 : g = false → n = 1) {pre cs post : List Value} (hc : cs.length = n) :
    (part t (pre ++ (cs ++ post)).toArray pre.length).run P w = .ok (mkV g cs) w := by
  unfold part
  rw [Sem.run_bind, run_agg w hg, Result.andThen_ok]
  cases g with
  | true =>
    simp only [if_true, Sem.run_bind, run_size w hs, Result.andThen_ok, Sem.run_pure, mkV]
    congr 2
    apply Array.ext'
    simp [← hc, List.take_append, List.drop_append]
  | false =>
    have h1 := h1 rfl
    subst h1
    obtain ⟨v, rfl⟩ : ∃ v, cs = [v] := by
      match cs, hc with
      | [v], _ => exact ⟨v, rfl⟩
    simp [mkV]


theorem eqFs_ok {P : Program} {d : Nat} {g : TypeId → Option (List Nat)} (hg : ∀ t n, g t = some n → EqOk P d t n) : ∀ (fs : List Field) (n : Nat) (N : List Nat), eqFs P g fs n = some N →
    ∀ (d' : Nat), d ≤ d' → ∀ (w : World) (l m : List Sc) (b : Bool) (pre vs pre' us : List Value), pre.length = n → pre'.length = n → kindsOf l = N → eqCells l m = some b → All2 flatS l vs → All2 flatS m us →
      (Op.eqFields d' (pre ++ vs).toArray (pre' ++ us).toArray fs).run P w = .ok b w
  | [], n, N, h => by
    simp only [eqFs, Option.some.injEq] at h
    subst h
    intro d' _ w l m b pre vs pre' us _ _ hl he _ _
    have hl : l = [] := by cases l with
      | nil => rfl
      | cons => simp [kindsOf] at hl
    subst hl
    have hm : m = [] := by have := eqCells_len he; cases m with
      | nil => rfl
      | cons => simp at this
    subst hm
    simp only [eqCells, Option.some.injEq] at he
    subst he
    simp [Op.eqFields]
  | f :: fs, n, N, h => by
    simp only [eqFs] at h
    split at h <;> try (simp at h; done)
    rename_i ks i hk hi
    cases hb : ((f.name == "_") || !Nat.beq f.offset n || !Nat.beq i.size ks.length) with
    | true => rw [hb] at h; simp at h
    | false =>
      rw [hb] at h
      simp only [cond_false] at h
      split at h <;> try (simp at h; done)
      rename_i r hr
      simp only [Option.some.injEq] at h
      subst h
      simp only [Bool.or_eq_false_iff, Bool.not_eq_false'] at hb
      obtain ⟨⟨hname, hoff⟩, hsz⟩ := hb
      have hoff := Nat.eq_of_beq_eq_true hoff
      have hsz := Nat.eq_of_beq_eq_true hsz
      obtain ⟨gg, e1, e2, e3⟩ := hg _ _ hk
      have ih := eqFs_ok hg fs (n + ks.length) r hr
      intro d' hd w l m b pre vs pre' us hp hp' hl he hv hu
      have hvl := hv.length
      have hul := hu.length
      have hlm := eqCells_len he
      have hll : l.length = ks.length + r.length := by have := congrArg List.length hl; rw [kindsOf_map] at this; simpa using this
      have hl1 : kindsOf (l.take ks.length) = ks := by rw [kindsOf_map, List.map_take, ← kindsOf_map, hl]; simp
      have hl2 : kindsOf (l.drop ks.length) = r := by rw [kindsOf_map, List.map_drop, ← kindsOf_map, hl]; simp
      have el : l = l.take ks.length ++ l.drop ks.length := (List.take_append_drop ks.length l).symm
      have em : m = m.take ks.length ++ m.drop ks.length := (List.take_append_drop ks.length m).symm
      have ev : vs = vs.take ks.length ++ vs.drop ks.length := (List.take_append_drop ks.length vs).symm
      have eu : us = us.take ks.length ++ us.drop ks.length := (List.take_append_drop ks.length us).symm
      rw [el, em] at he
      obtain ⟨x, y, h1, h2, h3⟩ := eqCells_split (l.take ks.length) (m.take ks.length) (by simp; omega) he
      have hsize : (P.info? f.type).map (·.size) = some ks.length := by rw [hi]; simp [hsz]
      have r1 := part_run (P := P) (w := w) hsize e1 e2 (pre := pre) (cs := vs.take ks.length) (post := vs.drop ks.length) (by simp; omega)
      have r2 := part_run (P := P) (w := w) hsize e1 e2 (pre := pre') (cs := us.take ks.length) (post := us.drop ks.length) (by simp; omega)
      have r3 := e3 d' hd w (l.take ks.length) (m.take ks.length) x (vs.take ks.length) (us.take ks.length) hl1 h1 (hv.take ks.length) (hu.take ks.length)
      rw [← ev, hp] at r1
      rw [← eu, hp'] at r2
      have r4 := ih d' hd w (l.drop ks.length) (m.drop ks.length) y (pre ++ vs.take ks.length) (vs.drop ks.length) (pre' ++ us.take ks.length) (us.drop ks.length) (by simp; omega) (by simp; omega) hl2 h2 (hv.drop ks.length) (hu.drop ks.length)
      rw [List.append_assoc, List.append_assoc, ← ev, ← eu] at r4
      have hne : f.name ≠ "_" := by simpa using hname
      simp only [Op.eqFields, if_pos hne, Sem.run_bind, hoff, r1, r2, r3, Result.andThen_ok]
      cases x with
      | false => simp [h3]
      | true => simp [h3, r4]

theorem eqT_ok {P : Program} : ∀ (d : Nat) (t : TypeId) (n : List Nat), eqT P d t = some n → EqOk P d t n
  | 0, _, _, h => by simp [eqT] at h
  | d + 1, t, n, h => by
    simp only [eqT] at h
    have one : ∀ (q : Nat) (l m : List Sc) (b : Bool) (vs us : List Value), kindsOf l = [q] → eqCells l m = some b → All2 flatS l vs → All2 flatS m us → ∃ a c v u, kindS a = q ∧ eqCells.eqSc a c = some b ∧ vs = [v] ∧ us = [u] ∧ flatS a v ∧ flatS c u := by
      intro q l m b vs us hl he hv hu
      have hm := eqCells_len he
      match l, m, hl, hm, hv, hu with
      | [a], [c], hl, _, ⟨v, vs', e1, p1, q1⟩, ⟨u, us', e2, p2, q2⟩ =>
        have q1 : vs' = [] := q1
        have q2 : us' = [] := q2
        subst q1; subst q2
        exact ⟨a, c, v, u, by simpa [kindsOf] using hl, by simpa [eqCells] using he, e1, e2, p1, p2⟩
    split at h <;> try (simp at h; done)
    · rename_i k hu
      simp only [Option.some.injEq] at h
      subst h
      refine ⟨false, by rw [hu]; rfl, fun _ => rfl, fun d' hd w l m b vs us hl he hv hu2 => ?_⟩
      obtain ⟨d'', rfl⟩ : ∃ d'', d' = d'' + 1 := ⟨d' - 1, by omega⟩
      obtain ⟨a, c, v, u, h0, h1, rfl, rfl, p1, p2⟩ := one 0 l m b vs us hl he hv hu2
      show (Op.equalIn (d'' + 1) t v u).run P w = _
      cases a <;> simp [kindS] at h0
      cases c <;> simp only [eqCells.eqSc, reduceCtorEq] at h1
      rename_i k1 n1 k2 n2
      cases hk : kEq k1 k2 with
      | false => rw [hk] at h1; simp at h1
      | true =>
        rw [hk] at h1
        simp only [cond_true, Option.some.injEq] at h1
        rw [show v = .int k1 n1 from p1, show u = .int k2 n2 from p2, ← kEq_iff hk, run_equalIn_int w d'' t k1 k n1 n2 hu, h1]
    · rename_i hu
      simp only [Option.some.injEq] at h
      subst h
      refine ⟨false, by rw [hu]; rfl, fun _ => rfl, fun d' hd w l m b vs us hl he hv hu2 => ?_⟩
      obtain ⟨d'', rfl⟩ : ∃ d'', d' = d'' + 1 := ⟨d' - 1, by omega⟩
      obtain ⟨a, c, v, u, h0, h1, rfl, rfl, p1, p2⟩ := one 1 l m b vs us hl he hv hu2
      show (Op.equalIn (d'' + 1) t v u).run P w = _
      cases a <;> simp [kindS] at h0
      cases c <;> simp only [eqCells.eqSc, reduceCtorEq, Option.some.injEq] at h1
      rename_i n1 n2
      rw [show v = .bool n1 from p1, show u = .bool n2 from p2, run_equalIn_bool' w d'' t n1 n2 hu, h1]
    · rename_i hu
      simp only [Option.some.injEq] at h
      subst h
      refine ⟨false, by rw [hu]; rfl, fun _ => rfl, fun d' hd w l m b vs us hl he hv hu2 => ?_⟩
      obtain ⟨d'', rfl⟩ : ∃ d'', d' = d'' + 1 := ⟨d' - 1, by omega⟩
      obtain ⟨a, c, v, u, h0, h1, rfl, rfl, p1, p2⟩ := one 2 l m b vs us hl he hv hu2
      show (Op.equalIn (d'' + 1) t v u).run P w = _
      cases a <;> simp [kindS] at h0
      cases c <;> simp only [eqCells.eqSc, reduceCtorEq, Option.some.injEq] at h1
      rename_i n1 n2
      rw [show v = .string ⟨n1.toArray⟩ from p1, show u = .string ⟨n2.toArray⟩ from p2, run_equalIn_string w d'' t _ _ hu, ByteArray.toList_eq, ByteArray.toList_eq, ← h1]
    · rename_i fs hu
      cases hs : P.stoodInHeld t with
      | true => rw [hs] at h; simp at h
      | false =>
        rw [hs] at h
        simp only [cond_false] at h
        refine ⟨true, by rw [hu]; rfl, fun h => by simp at h, fun d' hd w l m b vs us hl he hv hu2 => ?_⟩
        obtain ⟨d'', rfl⟩ : ∃ d'', d' = d'' + 1 := ⟨d' - 1, by omega⟩
        have := eqFs_ok (P := P) (d := d) (fun t n h => eqT_ok d t n h) fs.toList 0 n h d'' (by omega) w l m b [] vs [] us rfl rfl hl he hv hu2
        have hf : P.fieldsOf t = fs := by unfold Program.fieldsOf; rw [hu]
        show (Op.equalIn (d'' + 1) t (.agg vs.toArray) (.agg us.toArray)).run P w = _
        rw [run_equalIn_agg w d'' t _ _ (by rw [hf]; exact hu) hs, hf]
        exact this

/-! ### the table's check -/

def typeChk (P : Program) (T : Tab) (t : Nat) (td : TD) : Bool :=
  tagChk P t td.ty.size td.bytes (zeroVals td.ty) && (kindChk P T t td && td.ty.plain) &&
  (match P.underlying t with
    | some (.struct fs) => td.agg && Nat.beq fs.size td.flds.length && fldChk P fs.toList td.flds
    | some d => !td.agg && !aggD d && (match td.flds with | [] => true | _ => false)
    | none => false) &&
  (!td.eq || (td.agg && !P.eqGuardType P.depth t && (match eqT P 20 t with | some ks => sameNs ks (flatK td.ty) | none => false)))

def chkTab (P : Program) (T : Tab) : Tab → Bool
  | [] => true
  | (t, td) :: r => typeChk P T t td && chkTab P T r

theorem typeChk_ok {P : Program} {T : Tab} {t : Nat} {td : TD} (h : typeChk P T t td = true) : TypeOk P T t td := by
  unfold typeChk at h
  simp only [Bool.and_eq_true] at h
  obtain ⟨⟨⟨h1, h2⟩, h3⟩, h4⟩ := h
  refine ⟨tagChk_ok h1, ?_, h2.2, ?_, kindChk_ok h2.1, ?_⟩
  · intro ha
    split at h3
    · rename_i fs hu
      simp only [Bool.and_eq_true] at h3
      have hs := Nat.eq_of_beq_eq_true h3.1.2
      obtain ⟨k1, k2⟩ := fldChk_ok h3.2
      refine ⟨fs, hu, hs, fun j o n g hj => ?_⟩
      obtain ⟨fd, e1, e2⟩ := k2 j o n g hj
      exact ⟨fd, by rw [← Array.getElem?_toList]; exact e1, e2⟩
    · rw [ha] at h3; simp at h3
    · simp at h3
  · intro ha
    split at h3
    · rw [ha] at h3; simp at h3
    · rename_i d hn hu
      simp only [Bool.and_eq_true, Bool.not_eq_true'] at h3
      refine ⟨by rw [hu]; simp [h3.1.2], ?_⟩
      have h5 := h3.2
      split at h5
      · assumption
      · simp at h5
    · simp at h3
  · intro he
    rw [he] at h4
    simp only [Bool.not_true, Bool.false_or, Bool.and_eq_true, Bool.not_eq_true'] at h4
    refine ⟨h4.1.2, ?_⟩
    have ha := h4.1.1
    have h5 := h4.2
    split at h5
    · rename_i ks hk
      have := sameNs_iff h5
      subst this
      obtain ⟨g, e1, e2, e3⟩ := eqT_ok 20 t _ hk
      intro w xs ys l m b hl hc hx hy
      have hl := sameNs_iff hl
      have r := e3 10000 (by decide) w l m b xs.toList ys.toList hl hc hx hy
      have hg : g = true := by
        split at h3
        · rename_i fs hu; rw [hu] at e1; simpa [aggD] using e1.symm
        · rw [ha] at h3; simp at h3
        · simp at h3
      subst hg
      simpa [mkV] using r
    · simp at h5

theorem chkTab_ok {P : Program} {T : Tab} : ∀ {R : Tab}, chkTab P T R = true → ∀ t td, lkp R t = some td → TypeOk P T t td
  | [], _, _, _, h => by simp [lkp] at h
  | (t, td) :: r, hc, t', td', h => by
    simp only [chkTab, Bool.and_eq_true] at hc
    unfold lkp at h
    cases he : nEq t t' with
    | true =>
      rw [he] at h
      simp only [cond_true, Option.some.injEq] at h
      rw [← Nat.eq_of_beq_eq_true he, ← h]
      exact typeChk_ok hc.1
    | false =>
      rw [he] at h
      exact chkTab_ok hc.2 t' td' h

theorem tabOk {P : Program} {T : Tab} (h : chkTab P T T = true) : TabOk P T := chkTab_ok h
end Go.Rf
