/- Steps that turn the heap: what stays, and what must be shown. -/
import Derived.Test.YtaijmhaonokniaaRfK
namespace Go.Rf
set_option linter.unusedVariables false
set_option linter.unusedSimpArgs false

structure Turn (Al : Nat → Prop) (W W' : Wit) (ob ob' : Nat → Option Obj) (w w' : World) : Prop where
  I : ∀ b, W.I b → W'.I b
  J : ∀ b, W.J ob b → W'.J ob' b
  hJ : ∀ b, W.J ob b → w'.heap[b]? = w.heap[b]?
  rows : ∀ id, Al id → ∀ t (xs' : List t.den), ob' id = some (.row t xs') → ∃ (t0 : Ty) (xs : List t0.den), ob id = some (.row t0 xs) ∧ t0.size = t.size ∧ xs'.length = xs.length ∧ W'.η id = W.η id ∧ W'.cp id = W.cp id ∧ W'.nl id = W.nl id
  vars : ∀ id, Al id → ∀ l', ob' id = some (.var l') → ∃ l, ob id = some (.var l) ∧ W'.η id = W.η id

section
variable {P : Program} {T : Tab} {E : Env} {B : Base} {Al Al' : Nat → Prop} {s s' : St} {a : Act} {w w' : World} {W W' : Wit} {o : Oper} {f : Nat}
  {ob ob' : Nat → Option Obj}

theorem cut_len_eq {α β : Type} (lo hi : Option Nat) (xs : List α) (ys : List β) (h : ys.length = xs.length) : (cut lo hi ys).length = (cut lo hi xs).length := by
  rw [cut_eq, cut_eq]; simp [h]

theorem Turn.vsc (T : Turn Al W W' ob ob' w w') {c : Sc} {v : Value} (hm : ∀ id, menS c id → Al id) (h : VsC w W ob c v) : VsC w' W' ob' c v := by
  cases c with
  | rd sf t xs =>
    show Rd w' (if sf then W'.J ob' else W'.I) (.sl false t) xs [v]
    have h : Rd w (if sf then W.J ob else W.I) (.sl false t) xs [v] := h
    cases sf
    · exact Rd.mono T.I (fun b hb => T.hJ b (.inl hb)) _ _ _ h
    · exact Rd.mono T.J T.hJ _ _ _ h
  | bx sf g t x =>
    show Rd w' (if sf then W'.J ob' else W'.I) (.box g t) x [v]
    have h : Rd w (if sf then W.J ob else W.I) (.box g t) x [v] := h
    cases sf
    · exact Rd.mono T.I (fun b hb => T.hJ b (.inl hb)) _ _ _ h
    · exact Rd.mono T.J T.hJ _ _ _ h
  | own id =>
    intro t xs' ho'
    obtain ⟨t0, xs, ho, hs, hl, hη, hc, hn⟩ := T.rows id (hm id rfl) t xs' ho'
    rw [h t0 xs ho, hl]; unfold slv; rw [hη, hc, hn]
  | vw id lo hi =>
    intro t xs' ho'
    obtain ⟨t0, xs, ho, hs, hl, hη, hc⟩ := T.rows id (hm id rfl) t xs' ho'
    obtain ⟨A, c, e, k1, k2⟩ := h t0 xs ho
    have := cut_len_eq lo hi xs xs' hl
    exact ⟨A, c, by rw [this]; exact e, by rw [this]; exact k1, by rw [this, hη, ← hs]; exact k2⟩
  | pv id off =>
    obtain ⟨b, e, k⟩ := h
    exact ⟨b, e, fun l' ho' => by obtain ⟨l, ho, hη⟩ := T.vars id (hm id rfl) l' ho'; rw [hη]; exact k l ho⟩
  | pe id i off =>
    obtain ⟨b, o', e, k⟩ := h
    refine ⟨b, o', e, fun t xs' ho' => ?_⟩
    obtain ⟨t0, xs, ho, hs, hl, hη, hc⟩ := T.rows id (hm id rfl) t xs' ho'
    rw [hl, hη, ← hs]; exact k t0 xs ho
  | pr sf t xs i off =>
    obtain ⟨hi, A, C, e, fr, pre, ces, post, k1, k2, k3, k4, k5, k6⟩ := h
    refine ⟨hi, A, C, e, fr, pre, ces, post, k1, ?_, ?_, k4, k5, ?_⟩
    · cases sf
      · exact T.I _ k2
      · exact T.J _ k2
    · rw [← k3]; cases sf
      · exact T.hJ _ (.inl k2)
      · exact T.hJ _ k2
    · cases sf
      · exact Ch.mono (fun x cs => Rd.mono T.I (fun b hb => T.hJ b (.inl hb)) t x cs) _ _ k6
      · exact Ch.mono (fun x cs => Rd.mono T.J T.hJ t x cs) _ _ k6
  | _ => exact h

theorem Turn.vs (T : Turn Al W W' ob ob' w w') {c : Sc} {v : Value} (hm : ∀ id, menS c id → Al id) (h : Vs w W ob c v) : Vs w' W' ob' c v := ⟨h.1, T.vsc hm h.2⟩

theorem Turn.all (T : Turn Al W W' ob ob' w w') {l : List Sc} {vs : List Value} (hm : ∀ id, menL l id → Al id) (h : All2 (Vs w W ob) l vs) : All2 (Vs w' W' ob') l vs :=
  h.imp fun c hc _ k => T.vs (fun id hid => hm id ⟨c, hc, hid⟩) k

theorem Turn.av (T : Turn Al W W' ob ob' w w') {r : AV} {v : Value} (hm : ∀ id, menA r id → Al id) (h : AVr w W ob r v) : AVr w' W' ob' r v := by
  cases r with
  | one c => exact T.vs hm h
  | agg l => obtain ⟨vs, e, p⟩ := h; exact ⟨vs, e, T.all hm p⟩
  | tup l =>
    obtain ⟨vs, e, p⟩ := h
    refine ⟨vs, e, p.imp fun q hq u k => ?_⟩
    have hm' : ∀ id, menL q.2 id → Al id := fun id hid => hm id ⟨q, hq, hid⟩
    split
    · rename_i hb; rw [if_pos hb] at k; obtain ⟨us, e', k⟩ := k; exact ⟨us, e', T.all hm' k⟩
    · rename_i hb; rw [if_neg hb] at k; exact T.all hm' k

def ObjOk (w : World) (W : Wit) (ob : Nat → Option Obj) (i : Nat) : Obj → Prop
  | .row t xs => RowOk w W i t xs
  | .var l => W.nl i = false ∧ W.nf i = [] ∧ ∃ vs e, w.heap[W.η i]? = some (.cells vs.toArray e (0, 0)) ∧ All2 (Vs w W ob) l vs

/-- The state turns at the numbers C alone. -/
structure Chg (B : Base) (Al Al' : Nat → Prop) (C : Nat → Prop) (ob ob' : Nat → Option Obj) (W W' : Wit) (w w' : World) : Prop where
  turn : Turn Al W W' ob ob' w w'
  sub : ∀ i, Al i → Al' i
  kept : ∀ i, ¬ C i → ob' i = ob i ∧ W'.η i = W.η i ∧ W'.nf i = W.nf i ∧ W'.cp i = W.cp i ∧ W'.nl i = W.nl i
  keptH : ∀ i, ¬ C i → (ob i).isSome = true → ∀ b, b ∈ fpOf W i → w'.heap[b]? = w.heap[b]? ∧ ¬ W'.I b
  newO : ∀ i, C i → ∀ x, ob' i = some x → ObjOk w' W' ob' i x ∧ Al' i ∧ (∀ l, x = .var l → ∀ j, menL l j → Al' j)
  newN : ∀ i, C i → (ob' i).isSome = true → (fpOf W' i).Nodup
  newI : ∀ i, C i → (ob' i).isSome = true → ∀ b, b ∈ fpOf W' i → ¬ W'.I b
  newD : ∀ i j, C i → (ob' i).isSome = true → ¬ C j → (ob j).isSome = true → ∀ b, b ∈ fpOf W' i → b ∉ fpOf W j
  newD2 : ∀ i j, C i → C j → i ≠ j → (ob' i).isSome = true → (ob' j).isSome = true → ∀ b, b ∈ fpOf W' i → b ∉ fpOf W' j
  newT : ∀ i, C i → (ob' i).isSome = true → W'.nl i = false → B.fpT (W'.η i) ∨ B.w0.heap.size ≤ W'.η i
  newF : ∀ i, C i → (ob' i).isSome = true → ∀ b, b ∈ W'.nf i → B.fpT b ∨ B.fpN b ∨ B.w0.heap.size ≤ b
  bnd : ∀ b, W'.I b → b < w'.heap.size
  os : w'.os = B.w0.os
  tape : w'.tape = B.w0.tape
  output : w'.output = B.w0.output
  grown : B.w0.heap.size ≤ w'.heap.size
  old : ∀ b, b < B.w0.heap.size → ¬ B.fpT b → w'.heap[b]? = B.w0.heap[b]?
  from0 : ∀ b, W'.I b → B.S0 b ∨ B.fpT b ∨ B.fpN b ∨ B.w0.heap.size ≤ b

theorem fpOf_eq {i : Nat} (h : W'.η i = W.η i ∧ W'.nf i = W.nf i ∧ W'.cp i = W.cp i ∧ W'.nl i = W.nl i) : fpOf W' i = fpOf W i := by unfold fpOf; rw [h.1, h.2.1, h.2.2.2]

theorem Rel.turn {C : Nat → Prop} (h : Rel B Al s a w W) (c : Chg B Al Al' C s.ob ob' W W' w w') {d : Option Nat} {r : AV} {v : Value} (hd : dstOk B d)
    (hv : AVr w' W' ob' r v) (hm : ∀ id, menA r id → Al' id) : Rel B Al' ⟨updS s.sl (dl d r), ob'⟩ (a.put d v) w' W' := by
  have hC : ∀ i, C i ∨ ¬ C i := fun i => Classical.em _
  have keptO : ∀ i x, ¬ C i → ob' i = some x → ObjOk w' W' ob' i x := by
    intro i x hi hx
    obtain ⟨k1, k2, k3, k4, k5⟩ := c.kept i hi
    have hx0 : s.ob i = some x := k1 ▸ hx
    have hS : (s.ob i).isSome = true := by rw [hx0]; rfl
    cases x with
    | row t xs =>
      rcases h.row i t xs hx0 with ⟨q1, q2, q3⟩ | ⟨q0, ces, rest, e, q1, q2, q3, q4⟩
      · exact .inl ⟨k5.trans q1, q2, k3.trans q3⟩
      · have hb : ∀ b, b ∈ W.η i :: W.nf i → b ∈ fpOf W i := fun b hb => by simp only [fpOf, q0, cond_false]; exact hb
        refine .inr ⟨k5.trans q0, ?_⟩
        rw [k2, k3, k4]
        exact ⟨ces, rest, e, ((c.keptH i hi hS (W.η i) (hb _ (List.mem_cons_self ..))).1).trans q1, q2, q3,
          ChO.mono xs ces (W.nf i) (fun x cs f hf => Ow.mono c.turn.I (fun b hb => c.turn.hJ b (.inl hb)) t x cs f (fun b hb' => (c.keptH i hi hS b (hb _ (List.mem_cons_of_mem _ (hf b hb')))).1)) q4⟩
    | var l =>
      obtain ⟨q0, q0', vs, e, q1, q2⟩ := h.var i l hx0
      exact ⟨k5.trans q0, k3.trans q0', vs, e, by rw [k2]; exact ((c.keptH i hi hS (W.η i) (by simp [fpOf, q0])).1).trans q1, c.turn.all (fun id hid => h.mO i l hx0 id hid) q2⟩
  have obj : ∀ i x, ob' i = some x → ObjOk w' W' ob' i x := fun i x hx => (hC i).elim (fun hi => (c.newO i hi x hx).1) fun hi => keptO i x hi hx
  have slots : ∀ i, AVr w' W' ob' (s.sl i) (a.tmps.getD i undef) := fun i => c.turn.av (h.mS i) (h.slots i)
  have hkS : ∀ i, ¬ C i → (ob' i).isSome = true → (s.ob i).isSome = true := fun i hi hx => by rw [← (c.kept i hi).1]; exact hx
  have hfp : ∀ i, ¬ C i → fpOf W' i = fpOf W i := fun i hi => fpOf_eq (c.kept i hi).2
  have base : Rel B Al' ⟨s.sl, ob'⟩ a w' W' :=
    { slots := slots
      mS := fun i id k => c.sub _ (h.mS i id k)
      mO := fun id l hx j hj => (hC id).elim (fun hi => (c.newO id hi _ hx).2.2 l rfl j hj) fun hi => c.sub _ (h.mO id l ((c.kept id hi).1 ▸ hx) j hj)
      al := fun id hx => (hC id).elim (fun hi => by
        obtain ⟨x, hx⟩ := Option.isSome_iff_exists.1 hx
        exact (c.newO id hi x hx).2.1) fun hi => c.sub _ (h.al id (hkS id hi hx))
      row := fun id t xs hx => obj id _ hx
      var := fun id l hx => obj id _ hx
      nod := fun i hx => (hC i).elim (fun hi => c.newN i hi hx) fun hi => by rw [hfp i hi]; exact h.nod i (hkS i hi hx)
      dis := fun i j hij hx hy b hb => by
        rcases hC i with hi | hi <;> rcases hC j with hj | hj
        · exact c.newD2 i j hi hj hij hx hy b hb
        · rw [hfp j hj]; exact c.newD i j hi hx hj (hkS j hj hy) b hb
        · intro hb'; rw [hfp i hi] at hb; exact c.newD j i hj hy hi (hkS i hi hx) b hb' hb
        · rw [hfp i hi] at hb; rw [hfp j hj]; exact h.dis i j hij (hkS i hi hx) (hkS j hj hy) b hb
      imm := fun i hx b hb => (hC i).elim (fun hi => c.newI i hi hx b hb) fun hi => by rw [hfp i hi] at hb; exact (c.keptH i hi (hkS i hi hx) b hb).2
      bnd := c.bnd
      def0 := h.def0
      size := h.size
      pins := h.pins
      os := c.os
      tape := c.tape
      output := c.output
      grown := c.grown
      old := c.old
      ownT := fun i hx hn => (hC i).elim (fun hi => c.newT i hi hx hn) fun hi => by rw [(c.kept i hi).2.1]; rw [(c.kept i hi).2.2.2.2] at hn; exact h.ownT i (hkS i hi hx) hn
      ownN := fun i hx b hb => (hC i).elim (fun hi => c.newF i hi hx b hb) fun hi => by rw [(c.kept i hi).2.2.1] at hb; exact h.ownN i (hkS i hi hx) b hb
      from0 := c.from0 }
  exact base.put hd hv hm
end
end Go.Rf
