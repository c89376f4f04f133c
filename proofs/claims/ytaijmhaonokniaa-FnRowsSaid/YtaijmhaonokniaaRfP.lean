/- store. -/
import Derived.Test.YtaijmhaonokniaaRfO
namespace Go.Rf
set_option linter.unusedVariables false
set_option linter.unusedSimpArgs false

section
variable {P : Program} {T : Tab} {E : Env} {B : Base} {Al Al' : Nat → Prop} {s s' : St} {a : Act} {w w' : World} {W W' : Wit} {o : Oper} {f : Nat}
  {ob ob' : Nat → Option Obj} {rs rs' : List Key} {u : Upd}

theorem Rel.notJ (h : Rel B Al s a w W) {i : Nat} (hi : (s.ob i).isSome = true) (hn : W.nl i = false) {b : Nat} (hb : W.J s.ob b) : b ≠ W.η i := by
  rintro rfl
  rcases hb with k | ⟨j, hj, k⟩
  · exact h.imm i hi _ (η_fp hn) k
  · by_cases hij : i = j
    · subst hij
      have := h.nod i hj
      simp only [fpOf, hn, cond_false, List.nodup_cons] at this
      exact this.1 k
    · exact h.dis i j hij hi hj _ (η_fp hn) (h.nfFp hj k)

theorem Rel.setVar (h : Rel B Al s a w W) {id : Nat} {l l' : List Sc} (ho : s.ob id = some (.var l)) {cs' : List Value} (hl : All2 (Vs w W s.ob) l' cs') (hm : ∀ j, menL l' j → Al j) {d : Option Nat} (hd : dstOk B d) (v : Value) :
    Rel B Al (s.up ⟨dl d (.one .undef), [(id, some (.var l'))]⟩) (a.put d v) (w.setRow (W.η id) cs'.toArray) W := by
  have hS : (s.ob id).isSome = true := by rw [ho]; rfl
  obtain ⟨hn, hnf, vs, e, hh, _⟩ := h.var id l ho
  have hob : ∀ i, i ≠ id → updS s.ob [(id, some (.var l'))] i = s.ob i := fun i hi => upd_ne _ _ hi
  have hobf : updS s.ob [(id, some (.var l'))] id = some (.var l') := upd_same _ _ _
  have hold : ∀ b, b ≠ W.η id → (w.setRow (W.η id) cs'.toArray).heap[b]? = w.heap[b]? := fun b hb => setRow_other w _ b _ hb
  have hIs : ∀ i, (updS s.ob [(id, some (.var l'))] i).isSome = true → (s.ob i).isSome = true := fun i hi => by
    by_cases e : i = id
    · subst e; exact hS
    · rw [hob i e] at hi; exact hi
  have hSi : ∀ i, (s.ob i).isSome = true → (updS s.ob [(id, some (.var l'))] i).isSome = true := fun i hi => by
    by_cases e : i = id
    · subst e; rw [hobf]; rfl
    · rw [hob i e]; exact hi
  have turn : Turn Al W W s.ob (updS s.ob [(id, some (.var l'))]) w (w.setRow (W.η id) cs'.toArray) :=
    { I := fun b hb => hb
      J := fun b hb => hb.imp _root_.id fun ⟨i, hi, hb⟩ => ⟨i, hSi i hi, hb⟩
      hJ := fun b hb => hold b (h.notJ hS hn hb)
      rows := fun i _ t xs' hx => by
        by_cases e : i = id
        · subst e; rw [hobf] at hx; simp at hx
        · rw [hob i e] at hx; exact ⟨_, xs', hx, rfl, rfl, rfl, rfl, rfl⟩
      vars := fun i _ l2 hx => by
        by_cases e : i = id
        · subst e; exact ⟨l, ho, rfl⟩
        · rw [hob i e] at hx; exact ⟨l2, hx, rfl⟩ }
  refine h.turn (C := fun i => i = id)
    { turn := turn
      sub := fun _ hi => hi
      kept := fun i hi => ⟨hob i hi, rfl, rfl, rfl, rfl⟩
      keptH := fun i hi hSi b hb => ⟨hold b fun k => h.dis i id hi hSi hS b hb (k ▸ η_fp hn), h.imm i hSi b hb⟩
      newO := fun i hi x hx => by
        subst hi
        rw [hobf] at hx
        simp only [Option.some.injEq] at hx
        subst hx
        refine ⟨⟨hn, hnf, cs', e, setRow_heap w _ _ _ e _ hh, turn.all hm hl⟩, h.al i hS, fun l2 hl2 j hj => ?_⟩
        simp only [Obj.var.injEq] at hl2
        subst hl2
        exact hm j hj
      newN := fun i hi _ => by subst hi; exact h.nod i hS
      newI := fun i hi _ b hb => by subst hi; exact h.imm i hS b hb
      newD := fun i j hi _ hj hSj b hb => by subst hi; exact h.dis i j (fun e => hj e.symm) hS hSj b hb
      newD2 := fun i j hi hj hij => absurd (hi.trans hj.symm) hij
      newT := fun i hi _ hn => by subst hi; exact h.ownT i hS hn
      newF := fun i hi _ b hb => by subst hi; exact h.ownN i hS b hb
      bnd := fun b hb => by rw [setRow_size]; exact h.bnd b hb
      os := h.os
      tape := h.tape
      output := h.output
      grown := by rw [setRow_size]; exact h.grown
      old := fun b hb hnb => by
        rw [hold b ?_]
        · exact h.old b hb hnb
        · rintro rfl
          rcases h.ownT id hS hn with k | k
          · exact hnb k
          · omega
      from0 := h.from0 } hd ⟨fun k => by simp [isUndef] at k, trivial⟩ (fun _ k => k.elim)

theorem perm_swap3 (a b c : List Nat) : (a ++ (b ++ c)).Perm (b ++ (a ++ c)) := by
  rw [← List.append_assoc, ← List.append_assoc]
  exact List.Perm.append_right c List.perm_append_comm

/-- A part of a row's element written anew. -/
theorem wr_exec (h : Rel B Al s a w W) {α : Type} {r : α × List Key} : ∀ (t : Ty) (x : t.den) (off : Nat) (l : List Sc) (vs : List Value) (K : t.den → List Nat → RP α) (rs : List Key) (cs : List Value) (fp : List Nat),
    All2 (Vs w W s.ob) l vs → Ow w W.I t x cs fp → (wr t x off l K).exec s rs = some r →
    ∃ y ids rs2 fp' fr, (K y ids).exec s rs2 = some r ∧ Ow w (plus W.I fr) t y (cs.take off ++ vs ++ cs.drop (off + vs.length)) fp' ∧ (fp ++ blk W ids).Perm (fp' ++ fr) ∧ (∀ i ∈ ids, (s.ob i).isSome = true) ∧ off + vs.length ≤ cs.length := by
  have whole : ∀ (t : Ty) (x : t.den) (off : Nat) (l : List Sc) (vs : List Value) (K : t.den → List Nat → RP α) (rs : List Key) (cs : List Value) (fp : List Nat),
      All2 (Vs w W s.ob) l vs → Ow w W.I t x cs fp → off = 0 → l.length = t.size → (imp t l fun y _ i => K y i).exec s rs = some r →
      ∃ y ids rs2 fp' fr, (K y ids).exec s rs2 = some r ∧ Ow w (plus W.I fr) t y (cs.take off ++ vs ++ cs.drop (off + vs.length)) fp' ∧ (fp ++ blk W ids).Perm (fp' ++ fr) ∧ (∀ i ∈ ids, (s.ob i).isSome = true) ∧ off + vs.length ≤ cs.length := by
    intro t x off l vs K rs cs fp hl how hoff hlen he
    subst hoff
    obtain ⟨y, l2, ids, rs2, ds, vs2, fp', fr, e, k1, k2, k3, k4, k5, k6⟩ := imp_exec h t l vs _ rs hl he
    have h1 := Ow.size t _ _ _ k3
    have h2 := hl.length
    have h3 : vs2 = [] := by
      rw [e, List.length_append, h1] at h2
      exact List.eq_nil_of_length_eq_zero (by omega)
    subst h3
    rw [List.append_nil] at e
    subst e
    have h4 := Ow.size t _ _ _ how
    refine ⟨y, ids, rs2, fp', fp ++ fr, k1, ?_, ?_, k6, by omega⟩
    · rw [List.take_zero, List.nil_append, List.drop_eq_nil_of_le (by omega), List.append_nil]
      exact Ow.mono (w := w) (fun b hb => hb.imp id fun h => List.mem_append_right _ h) (fun _ _ => rfl) t _ _ _ (fun _ _ => rfl) k3
    · exact (List.Perm.append_left fp k4).trans (perm_swap3 fp fp' fr)
  intro t
  induction t with
  | pair t1 t2 ih1 ih2 =>
    intro x off l vs K rs cs fp hl how he
    simp only [wr] at he
    cases hb1 : (nEq off 0 && nEq l.length (t1.size + t2.size)) with
    | true =>
      rw [hb1] at he
      simp only [Bool.and_eq_true] at hb1
      exact whole (.pair t1 t2) x off l vs K rs cs fp hl how ((nEq_iff _ _).1 hb1.1) ((nEq_iff _ _).1 hb1.2) he
    | false =>
      rw [hb1] at he
      simp only [cond_false] at he
      obtain ⟨c1, c2, f1, f2, e1, e2, r1, r2⟩ := how
      have hc1 := Ow.size t1 _ _ _ r1
      cases hb2 : Nat.ble (off + l.length) t1.size with
      | true =>
        rw [hb2] at he
        simp only [cond_true] at he
        obtain ⟨y, ids, rs2, fp', fr, k1, k2, k3, k4, k5⟩ := ih1 x.1 off l vs _ rs c1 f1 hl r1 he
        refine ⟨(y, x.2), ids, rs2, fp' ++ f2, fr, k1, ⟨_, c2, fp', f2, ?_, rfl, k2, ?_⟩, ?_, k4, by rw [e1, List.length_append]; omega⟩
        · rw [e1, List.take_append_of_le_length (by omega), List.drop_append_of_le_length (by omega)]
          simp [List.append_assoc]
        · exact Ow.mono (w := w) (fun b hb => .inl hb) (fun _ _ => rfl) t2 _ _ _ (fun _ _ => rfl) r2
        · rw [e2]
          refine (?_ : (f1 ++ f2 ++ blk W ids).Perm (f2 ++ (f1 ++ blk W ids))).trans ?_
          · rw [List.append_assoc]; exact perm_swap3 f1 f2 _
          · refine (List.Perm.append_left f2 k3).trans ?_
            rw [List.append_assoc]; exact perm_swap3 f2 fp' fr
      | false =>
        rw [hb2] at he
        simp only [cond_false] at he
        obtain ⟨hle, he⟩ := exec_bif he
        have hle : t1.size ≤ off := Nat.le_of_ble_eq_true hle
        obtain ⟨y, ids, rs2, fp', fr, k1, k2, k3, k4, k5⟩ := ih2 x.2 (off - t1.size) l vs _ rs c2 f2 hl r2 he
        refine ⟨(x.1, y), ids, rs2, f1 ++ fp', fr, k1, ⟨c1, _, f1, fp', ?_, rfl, ?_, k2⟩, ?_, k4, by rw [e1, List.length_append]; omega⟩
        · rw [e1, List.take_append, List.take_of_length_le (by omega), List.drop_append, List.drop_eq_nil_of_le (by omega)]
          simp only [List.append_assoc, List.nil_append, hc1]
          congr 4
          omega
        · exact Ow.mono (w := w) (fun b hb => .inl hb) (fun _ _ => rfl) t1 _ _ _ (fun _ _ => rfl) r1
        · rw [e2, List.append_assoc, List.append_assoc]
          exact List.Perm.append_left f1 k3
  | int k =>
    intro x off l vs K rs cs fp hl how he
    simp only [wr] at he
    obtain ⟨hb, he⟩ := exec_bif he
    simp only [Bool.and_eq_true] at hb
    exact whole _ x off l vs K rs cs fp hl how ((nEq_iff _ _).1 hb.1) ((nEq_iff _ _).1 hb.2) he
  | bool =>
    intro x off l vs K rs cs fp hl how he
    simp only [wr] at he
    obtain ⟨hb, he⟩ := exec_bif he
    simp only [Bool.and_eq_true] at hb
    exact whole _ x off l vs K rs cs fp hl how ((nEq_iff _ _).1 hb.1) ((nEq_iff _ _).1 hb.2) he
  | str =>
    intro x off l vs K rs cs fp hl how he
    simp only [wr] at he
    obtain ⟨hb, he⟩ := exec_bif he
    simp only [Bool.and_eq_true] at hb
    exact whole _ x off l vs K rs cs fp hl how ((nEq_iff _ _).1 hb.1) ((nEq_iff _ _).1 hb.2) he
  | box g t _ =>
    intro x off l vs K rs cs fp hl how he
    simp only [wr] at he
    obtain ⟨hb, he⟩ := exec_bif he
    simp only [Bool.and_eq_true] at hb
    exact whole _ x off l vs K rs cs fp hl how ((nEq_iff _ _).1 hb.1) ((nEq_iff _ _).1 hb.2) he
  | sl m t _ =>
    intro x off l vs K rs cs fp hl how he
    simp only [wr] at he
    obtain ⟨hb, he⟩ := exec_bif he
    simp only [Bool.and_eq_true] at hb
    exact whole _ x off l vs K rs cs fp hl how ((nEq_iff _ _).1 hb.1) ((nEq_iff _ _).1 hb.2) he
end
end Go.Rf
