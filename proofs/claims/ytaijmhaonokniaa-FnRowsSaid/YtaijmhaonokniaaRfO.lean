/- build, store. -/
import Derived.Test.YtaijmhaonokniaaRfN
namespace Go.Rf
set_option linter.unusedVariables false
set_option linter.unusedSimpArgs false

section
variable {P : Program} {T : Tab} {E : Env} {B : Base} {Al Al' : Nat → Prop} {s s' : St} {a : Act} {w w' : World} {W W' : Wit} {o : Oper} {f : Nat}
  {ob ob' : Nat → Option Obj} {rs rs' : List Key} {u : Upd}

theorem set_range (off : Nat) (l : List Value) (cs : Array Value) (h : off + l.length ≤ cs.size) :
    ((l.zipIdx 0).foldl (fun cs (x : Value × Nat) => cs.setIfInBounds (off + x.2) x.1) cs).toList = cs.toList.take off ++ l ++ cs.toList.drop (off + l.length) := by
  obtain ⟨g1, g2⟩ := Great.foldl_set off l 0 cs
  apply List.ext_getElem?
  intro k
  rw [Array.getElem?_toList, g2 k]
  simp only [Nat.add_zero]
  rcases Nat.lt_or_ge k off with h1 | h1
  · rw [if_neg (by omega), List.append_assoc, List.getElem?_append_left (by simp; omega), List.getElem?_take_of_lt h1, Array.getElem?_toList]
  · rcases Nat.lt_or_ge k (off + l.length) with h2 | h2
    · rw [if_pos ⟨h1, h2, by omega⟩, List.append_assoc, List.getElem?_append_right (by simp; omega), List.getElem?_append_left (by simp; omega)]
      congr 1
      simp; omega
    · rw [if_neg (by omega), List.getElem?_append_right (by simp; omega), List.getElem?_drop, Array.getElem?_toList]
      congr 1
      simp; omega

theorem setRange_vs {l vs : List Sc} {cs us : List Value} {off : Nat} (h : All2 (Vs w W ob) l cs) (k : All2 (Vs w W ob) vs us) : All2 (Vs w W ob) (setRange l off vs) (cs.take off ++ us ++ cs.drop (off + us.length)) := by
  unfold setRange
  rw [k.length]
  exact All2.append (All2.append (h.take off) k) (h.drop _)

theorem setRange_men {l vs : List Sc} {off id : Nat} (h : menL (setRange l off vs) id) : menL l id ∨ menL vs id := by
  obtain ⟨c, h1, h2⟩ := h
  unfold setRange at h1
  rcases List.mem_append.1 h1 with h1 | h1
  · rcases List.mem_append.1 h1 with h1 | h1
    · exact .inl ⟨c, List.mem_of_mem_take h1, h2⟩
    · exact .inr ⟨c, h1, h2⟩
  · exact .inl ⟨c, List.mem_of_mem_drop h1, h2⟩

theorem fill_exec {r : Upd × List Key} (flds : List (Nat × Nat × Bool)) (pl : Nat → Option (Nat × Nat))
    (hpl : ∀ j o n g, flds[j]? = some (o, n, g) → pl j = some (o, n) ∧ n ≠ 0) : ∀ (js : List Nat) (vs : List AV) (us : List Value) (l : List Sc) (C : Array Value) (K : List Sc → OP) (rs : List Key),
    opsRel w W s.ob Al vs us → All2 (Vs w W s.ob) l C.toList → (∀ id, menL l id → Al id) → (step.fillC flds js vs l K).exec s rs = some r →
    ∃ l' C', (K l').exec s rs = some r ∧ Instr.fill pl C (js.zip us) = some C' ∧ All2 (Vs w W s.ob) l' C'.toList ∧ ∀ id, menL l' id → Al id
  | [], [], us, l, C, K, rs, hv, hl, hm, he => by
    have hv : us = [] := hv
    subst hv
    exact ⟨l, C, he, rfl, hl, hm⟩
  | [], _ :: _, _, _, _, _, _, _, _, _, he => by simp [step.fillC, RP.exec] at he
  | _ :: _, [], _, _, _, _, _, _, _, _, he => by simp [step.fillC, RP.exec] at he
  | j :: js, v :: vs, us, l, C, K, rs, ⟨u, us', e, p, hv⟩, hl, hm, he => by
    subst e
    simp only [step.fillC] at he
    cases hj : flds[j]? with
    | none => rw [hj] at he; simp [RP.exec] at he
    | some q =>
      obtain ⟨off, n, g⟩ := q
      rw [hj] at he
      simp only at he
      obtain ⟨hc, he⟩ := exec_bif he
      simp only [Bool.and_eq_true] at hc
      obtain ⟨⟨h1, h2⟩, h3⟩ := hc
      have h1 := (nEq_iff _ _).1 h1
      have h3 : off + n ≤ l.length := Nat.le_of_ble_eq_true h3
      obtain ⟨hp, hn⟩ := hpl j off n g hj
      have hcs := p.1.cells h2 (by rw [h1]; exact Nat.pos_of_ne_zero hn)
      have hus : u.cells.size = n := by have := hcs.length; rw [h1] at this; simpa using this
      have hC : C.size = l.length := by have := hl.length; simpa using this
      have hset := set_range off u.cells.toList C (by rw [Array.length_toList, hus, hC]; exact h3)
      let C2 := (u.cells.toList.zipIdx 0).foldl (fun cs (x : Value × Nat) => cs.setIfInBounds (off + x.2) x.1) C
      have hl2 : All2 (Vs w W s.ob) (setRange l off (cells v)) C2.toList := by
        show All2 _ _ ((u.cells.toList.zipIdx 0).foldl _ C).toList
        rw [hset]; exact setRange_vs hl hcs
      obtain ⟨l', C', k1, k2, k3, k4⟩ := fill_exec flds pl hpl js vs us' _ C2 K rs hv hl2 (fun id hid => (setRange_men hid).elim (hm id) fun k => p.2 id (cells_men k)) he
      refine ⟨l', C', k1, ?_, k3, k4⟩
      rw [← k2]
      simp only [List.zip_cons_cons]
      rw [Instr.fill, hp]
      simp only [hus]
      rw [if_neg (by simp; omega)]
      congr 1
      show Array.foldl _ _ _ = _
      rw [← Array.foldl_toList, Array.toList_zipIdx]

theorem places_of (flds : List (Nat × Nat × Bool)) : ∀ (fs : List Field) (k : Nat), fs.length + k = flds.length →
    (∀ (j o n : Nat) (g : Bool), flds[j + k]? = some (o, n, g) → ∃ fd : Field, fs[j]? = some fd ∧ fd.offset = o ∧ (P.info? fd.type).map (·.size) = some n) →
    fs.mapM (fun f => (P.info? f.type).map fun i => (f.offset, i.size)) = some ((flds.drop k).map fun p => (p.1, p.2.1))
  | [], k, hk, _ => by
    have : flds.drop k = [] := List.drop_eq_nil_of_le (by simp at hk; omega)
    rw [this]
    simp
  | f :: fs, k, hk, h => by
    have hlt : k < flds.length := by simp at hk; omega
    obtain ⟨off, n, g, hj⟩ : ∃ o n g, flds[k]? = some (o, n, g) := ⟨_, _, _, List.getElem?_eq_getElem hlt⟩
    obtain ⟨fd, p1, p2, p3⟩ := h 0 off n g (by rw [Nat.zero_add]; exact hj)
    simp only [List.getElem?_cons_zero, Option.some.injEq] at p1
    subst p1
    have ih := places_of flds fs (k + 1) (by simp at hk; omega) (fun j o n g hj => by
      obtain ⟨fd, r1, r2, r3⟩ := h (j + 1) o n g (by rw [← hj]; congr 1; omega)
      exact ⟨fd, by simpa using r1, r2, r3⟩)
    cases hi : P.info? f.type with
    | none => rw [hi] at p3; simp at p3
    | some i =>
      rw [hi] at p3
      simp only [Option.map_some, Option.some.injEq] at p3
      have hd : flds.drop k = (off, n, g) :: flds.drop (k + 1) := by
        rw [List.drop_eq_getElem_cons hlt]
        congr 1
        rw [List.getElem?_eq_getElem hlt] at hj
        simpa using hj
      simp [List.mapM_cons, hi, ih, hd, p2, p3]

theorem zip_parts (a : Act) : ∀ l : List (Nat × Operand), (l.map fun (i, x) => (i, a.eval x)) = (l.map (·.1)).zip ((l.map (·.2)).map a.eval)
  | [] => rfl
  | x :: l => by simp only [List.map_cons, List.zip_cons_cons, zip_parts a l]

theorem st_build {t : Nat} {parts : Array (Nat × Operand)} (hT : TabOk P T) (h : Rel B Al s a w W) (hd : dstOk B o.dst) (hop : o.op = .build t parts) (he : (step T E o f).exec s rs = some (u, rs')) : Done P B Al (s.up u) o a w := by
  simp only [step, hop] at he
  cases ht : lkp T t with
  | none => rw [ht] at he; simp [RP.exec] at he
  | some td =>
    rw [ht] at he
    simp only at he
    have hty := hT t td ht
    obtain ⟨hag, he⟩ := exec_bif' he
    have hag : td.agg = true := by simpa using hag
    obtain ⟨vs, rs1, h1, k1⟩ := opds_exec h he
    obtain ⟨i, z, q1, q2, q3, q4, q5⟩ := nth_zero hty.tag
    obtain ⟨fs, hf1, hf2, hf3⟩ := hty.agg hag
    obtain ⟨l', C', k2, k3, k4, k5⟩ := fill_exec (w := w) (W := W) td.flds ((td.flds.map fun p => (p.1, p.2.1)).toArray[·]?) (by
      intro j o n g hj
      obtain ⟨fd, _, _, _, hn, _⟩ := hf3 j o n g hj
      exact ⟨by simp [hj], hn⟩) _ _ _ _ z.cells _ _ k1 (by rw [q5]; exact zero_vs td.ty) (fun id hid => (zero_men _ _ hid).elim) h1
    rw [out_exec0 k2]
    have hpl := places_of (P := P) td.flds fs.toList 0 (by simp [hf2]) (fun j o n g hj => by
      obtain ⟨fd, p1, p2, p3, _⟩ := hf3 j o n g hj
      exact ⟨fd, by simpa using p1, p2, p3⟩)
    have hb : P.built t (parts.map fun (i, x) => (i, a.eval x)).toList = some C' := by
      unfold Program.built
      rw [q1, hf1]
      simp only [q4, hpl, List.drop_zero]
      rw [← k3]
      congr 1
      rw [Array.toList_map]
      exact zip_parts a parts.toList
    refine done_val h hd ?_ ⟨C'.toList, rfl, k4⟩ k5
    simp only [execOp, hop, Sem.run_bind, run_build w t _ C' hb, Result.andThen_ok, Sem.run_pure, Array.toArray_toList]
end
end Go.Rf
