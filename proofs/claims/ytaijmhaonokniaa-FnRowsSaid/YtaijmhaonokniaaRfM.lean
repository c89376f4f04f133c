/- New variables and new rows. -/
import Derived.Test.YtaijmhaonokniaaRfL
import Derived.Laws.AppendOwn
import Derived.Laws.MakeOwn
import Derived.Great.FillDense
namespace Go.Rf
set_option linter.unusedVariables false
set_option linter.unusedSimpArgs false

section
variable {P : Program} {T : Tab} {E : Env} {B : Base} {Al Al' : Nat → Prop} {s s' : St} {a : Act} {w w' : World} {W W' : Wit} {o : Oper} {f : Nat}
  {ob ob' : Nat → Option Obj} {rs rs' : List Key} {u : Upd}

theorem lt_of_block {b : Nat} {x : Go.Obj} (h : w.heap[b]? = some x) : b < w.heap.size := (Array.getElem?_eq_some_iff.1 h).1

theorem ChO.lt {α : Type} {R : α → List Value → List Nat → Prop} : ∀ xs cs fp, (∀ x cs f, R x cs f → ∀ b ∈ f, b < w.heap.size) → ChO R xs cs fp → ∀ b ∈ fp, b < w.heap.size
  | [], _, _, _, h, b, hb => by rw [h.2] at hb; simp at hb
  | _ :: xs, _, _, hR, ⟨c1, c2, f1, f2, e, e', r, h⟩, b, hb => by
    rw [e'] at hb
    rcases List.mem_append.1 hb with k | k
    · exact hR _ _ _ r b k
    · exact ChO.lt xs c2 f2 hR h b k

theorem Ow.lt {I : Nat → Prop} : ∀ (t : Ty) (x : t.den) cs fp, Ow w I t x cs fp → ∀ b ∈ fp, b < w.heap.size
  | .int _, _, _, _, h, b, hb => by rw [h.2] at hb; simp at hb
  | .bool, _, _, _, h, b, hb => by rw [h.2] at hb; simp at hb
  | .str, _, _, _, h, b, hb => by rw [h.2] at hb; simp at hb
  | .sl false _, _, _, _, h, b, hb => by rw [h.2] at hb; simp at hb
  | .box _ _, _, _, _, h, b, hb => by rw [h.2] at hb; simp at hb
  | .sl true t, x, _, _, h, b, hb => by
    rcases h with ⟨_, _, e⟩ | ⟨g, c, f, e1, e2, ces, rest, el, h1, _, _, h4⟩
    · rw [e] at hb; simp at hb
    · subst e2
      rcases List.mem_cons.1 hb with k | k
      · subst k; exact lt_of_block h1
      · exact ChO.lt _ _ _ (fun x cs f k => Ow.lt t x cs f k) h4 b k
  | .pair a c, x, _, _, ⟨c1, c2, f1, f2, e, e', h, h'⟩, b, hb => by
    rw [e'] at hb
    rcases List.mem_append.1 hb with k | k
    · exact Ow.lt a _ _ _ h b k
    · exact Ow.lt c _ _ _ h' b k

theorem Rel.lt (h : Rel B Al s a w W) {i : Nat} (hi : (s.ob i).isSome = true) : ∀ b ∈ fpOf W i, b < w.heap.size := by
  obtain ⟨x, hx⟩ := Option.isSome_iff_exists.1 hi
  intro b hb
  cases x with
  | row t xs => exact Ow.lt _ _ _ _ (h.rowOw hx) b hb
  | var l =>
    obtain ⟨hn, h0, vs, e, h1, _⟩ := h.var i l hx
    simp only [fpOf, hn, h0, cond_false, List.mem_singleton] at hb
    subst hb; exact lt_of_block h1

theorem Rel.nfFp (h : Rel B Al s a w W) {i b : Nat} (hi : (s.ob i).isSome = true) (hb : b ∈ W.nf i) : b ∈ fpOf W i := by
  obtain ⟨x, hx⟩ := Option.isSome_iff_exists.1 hi
  cases x with
  | row t xs =>
    rcases h.row i t xs hx with ⟨_, _, e⟩ | ⟨e, _⟩
    · rw [e] at hb; simp at hb
    · simp only [fpOf, e, cond_false]; exact List.mem_cons_of_mem _ hb
  | var l => obtain ⟨_, h0, _⟩ := h.var i l hx; rw [h0] at hb; simp at hb

theorem fpOf_cases {i b : Nat} (hb : b ∈ fpOf W i) : W.nl i = false ∧ (b = W.η i ∨ b ∈ W.nf i) := by
  unfold fpOf at hb
  cases e : W.nl i <;> rw [e] at hb <;> simp at hb
  exact ⟨rfl, hb⟩

theorem η_fp {i : Nat} (h : W.nl i = false) : W.η i ∈ fpOf W i := by simp [fpOf, h]

theorem Rel.Jlt (h : Rel B Al s a w W) {b : Nat} (hb : W.J s.ob b) : b < w.heap.size := by
  rcases hb with hb | ⟨i, hi, hb⟩
  · exact h.bnd b hb
  · exact h.lt hi b (h.nfFp hi hb)

theorem updS_nil {α : Type} (g : Nat → α) : updS g [] = g := rfl

theorem updS_gone (ob : Nat → Option Obj) (k : Nat) (v : Option Obj) : ∀ (ids : List Nat) (j : Nat), updS ob (gone ids ++ [(k, v)]) j = if j = k then v else if j ∈ ids then none else ob j := by
  intro ids
  induction ids generalizing ob with
  | nil =>
    intro j
    show upd ob k v j = _
    by_cases h : j = k
    · subst h; rw [upd_same, if_pos rfl]
    · rw [upd_ne _ _ h, if_neg h]; simp
  | cons i ids ih =>
    intro j
    show updS (upd ob i none) (gone ids ++ [(k, v)]) j = _
    rw [ih]
    by_cases h : j = k
    · rw [if_pos h, if_pos h]
    · rw [if_neg h, if_neg h]
      by_cases h2 : j ∈ ids
      · rw [if_pos h2, if_pos (List.mem_cons_of_mem _ h2)]
      · rw [if_neg h2]
        by_cases h3 : j = i
        · subst h3; rw [upd_same, if_pos (List.mem_cons_self ..)]
        · rw [upd_ne _ _ h3, if_neg (by simp [h2, h3])]

theorem upd_if {α : Type} (g : Nat → α) (i j : Nat) (v : α) : upd g i v j = if j = i then v else g j := by
  by_cases h : j = i
  · subst h; rw [upd_same, if_pos rfl]
  · rw [upd_ne _ _ h, if_neg h]

/-- A new variable. -/
theorem Rel.newVar (h : Rel B Al s a w W) (hf : ¬ Al f) (hA : ∀ i, Al i → Al' i) (hf' : Al' f) {d : Option Nat} (hd : dstOk B d) {l : List Sc} {cs : List Value} {e : TypeId}
    (hl : All2 (Vs w W s.ob) l cs) (hm : ∀ id, menL l id → Al id) :
    ∃ W', Rel B Al' (s.up ⟨dl d (.one (.pv f 0)), [(f, some (.var l))]⟩) (a.put d (pt w.heap.size 0)) (w.alloc (.cells cs.toArray e)) W' := by
  let W' : Wit := { W with η := upd W.η f w.heap.size, nf := upd W.nf f [], nl := upd W.nl f false }
  have ne : ∀ i, Al i → i ≠ f := fun i hi e => hf (e ▸ hi)
  have hη : ∀ i, i ≠ f → W'.η i = W.η i := fun i hi => upd_ne _ _ hi
  have hnf : ∀ i, i ≠ f → W'.nf i = W.nf i := fun i hi => upd_ne _ _ hi
  have hηf : W'.η f = w.heap.size := upd_same _ _ _
  have hnff : W'.nf f = [] := upd_same _ _ _
  have hnl : ∀ i, i ≠ f → W'.nl i = W.nl i := fun i hi => upd_ne _ _ hi
  have hnlf : W'.nl f = false := upd_same _ _ _
  have hfpf : fpOf W' f = [w.heap.size] := by unfold fpOf; rw [hnlf, hηf, hnff]; rfl
  have hob : ∀ i, i ≠ f → updS s.ob [(f, some (.var l))] i = s.ob i := fun i hi => upd_ne _ _ hi
  have hobf : updS s.ob [(f, some (.var l))] f = some (.var l) := upd_same _ _ _
  have hold : ∀ b, b < w.heap.size → (w.alloc (.cells cs.toArray e)).heap[b]? = w.heap[b]? := fun b hb => heap_alloc_old w _ b hb
  have turn : Turn Al W W' s.ob (updS s.ob [(f, some (.var l))]) w (w.alloc (.cells cs.toArray e)) :=
    { I := fun b hb => hb
      J := fun b hb => by
        rcases hb with hb | ⟨i, hi, hb⟩
        · exact .inl hb
        · have := ne i (h.al i hi)
          exact .inr ⟨i, by rw [hob i this]; exact hi, by rw [hnf i this]; exact hb⟩
      hJ := fun b hb => hold b (h.Jlt hb)
      rows := fun id hid t xs' hx => by
        rw [hob id (ne id hid)] at hx
        exact ⟨_, xs', hx, rfl, rfl, hη id (ne id hid), rfl, hnl id (ne id hid)⟩
      vars := fun id hid l' hx => by
        rw [hob id (ne id hid)] at hx
        exact ⟨l', hx, hη id (ne id hid)⟩ }
  refine ⟨W', h.turn (C := fun i => i = f)
    { turn := turn
      sub := hA
      kept := fun i hi => ⟨hob i hi, hη i hi, hnf i hi, rfl, hnl i hi⟩
      keptH := fun i hi hS b hb => ⟨hold b (h.lt hS b hb), h.imm i hS b hb⟩
      newO := fun i hi x hx => by
        subst hi
        rw [hobf] at hx
        simp only [Option.some.injEq] at hx
        subst hx
        refine ⟨⟨hnlf, hnff, cs, e, by rw [hηf]; exact heap_alloc_new w _, turn.all hm hl⟩, hf', fun l' hl' j hj => ?_⟩
        simp only [Obj.var.injEq] at hl'
        subst hl'
        exact hA _ (hm j hj)
      newN := fun i hi _ => by subst hi; rw [hfpf]; simp
      newI := fun i hi _ b hb => by
        subst hi; rw [hfpf] at hb; simp at hb; subst hb
        exact fun k => Nat.lt_irrefl _ (h.bnd _ k)
      newD := fun i j hi _ hj hS b hb hb' => by
        subst hi; rw [hfpf] at hb; simp at hb; subst hb
        exact Nat.lt_irrefl _ (h.lt hS _ hb')
      newD2 := fun i j hi hj hij => absurd (hi.trans hj.symm) hij
      newT := fun i hi _ _ => by subst hi; rw [hηf]; exact .inr h.grown
      newF := fun i hi _ b hb => by subst hi; rw [hnff] at hb; simp at hb
      bnd := fun b hb => by have := h.bnd b hb; simp; omega
      os := h.os
      tape := h.tape
      output := h.output
      grown := by have := h.grown; simp; omega
      old := fun b hb hn => (hold b (Nat.lt_of_lt_of_le hb h.grown)).trans (h.old b hb hn)
      from0 := h.from0 } hd ⟨fun _ => rfl, ?_⟩ ?_⟩
  · refine ⟨w.heap.size, rfl, fun l' _ => hηf.symm⟩
  · intro id hid
    have : f = id := hid
    subst this; exact hf'

theorem mem_blk {ids : List Nat} {b : Nat} : b ∈ blk W ids ↔ ∃ i ∈ ids, b ∈ fpOf W i := by simp [blk]

/-- A row at number f, out of what is taken away. -/
theorem Rel.putRow (h : Rel B Al s a w W) (hA : ∀ i, Al i → Al' i) (hf' : Al' f) {ids : List Nat} (hids : ∀ i ∈ ids, (s.ob i).isSome = true)
    {t : Ty} {xs : List t.den} {n0 : Bool} {g c : Nat} {fp fr : List Nat}
    (hf : ¬ Al f ∨ (f ∈ ids ∧ ∃ xs0 : List t.den, s.ob f = some (.row t xs0) ∧ xs.length = xs0.length ∧ g = W.η f ∧ c = W.cp f ∧ n0 = W.nl f))
    (cons : ∀ b, b ∈ fp ∨ b ∈ fr → ∃ i ∈ ids, b ∈ fpOf W i) (cov : ∀ i ∈ ids, ∀ b ∈ W.nf i, b ∈ fp ∨ b ∈ fr) (nd : (bif n0 then [] else g :: fp).Nodup) (nd2 : ∀ b ∈ fr, b ∉ (bif n0 then [] else g :: fp))
    (hg : n0 = false → g = w.heap.size ∨ ∃ i ∈ ids, W.nl i = false ∧ g = W.η i) (hp : ∀ b, b < w.heap.size → (n0 = true ∨ b ≠ g) → w'.heap[b]? = w.heap[b]?) (hsz : w.heap.size ≤ w'.heap.size)
    (hr : (n0 = true ∧ xs = [] ∧ fp = []) ∨ (n0 = false ∧ RowAt w' (Ow w' (plus W.I fr) t) t.size xs g c fp)) (ho : w'.os = w.os) (htp : w'.tape = w.tape) (hou : w'.output = w.output)
    {ob' : Nat → Option Obj} (hob : ∀ j, ob' j = if j = f then some (.row t xs) else if j ∈ ids then none else s.ob j) :
    ∃ W', ∀ d r v, dstOk B d → ((r = .one (.own f) ∧ v = bif n0 then .slice none 0 0 else .slice (some ⟨g, 0, none⟩) xs.length c) ∨ r = .one .undef) → Rel B Al' ⟨updS s.sl (dl d r), ob'⟩ (a.put d v) w' W' := by
  let W' : Wit := { I := plus W.I fr, η := upd W.η f g, nf := upd W.nf f fp, cp := upd W.cp f c, nl := upd W.nl f n0 }
  have hη : ∀ i, i ≠ f → W'.η i = W.η i := fun i hi => upd_ne _ _ hi
  have hnf : ∀ i, i ≠ f → W'.nf i = W.nf i := fun i hi => upd_ne _ _ hi
  have hcp : ∀ i, i ≠ f → W'.cp i = W.cp i := fun i hi => upd_ne _ _ hi
  have hnl : ∀ i, i ≠ f → W'.nl i = W.nl i := fun i hi => upd_ne _ _ hi
  have hηf : W'.η f = g := upd_same _ _ _
  have hnff : W'.nf f = fp := upd_same _ _ _
  have hcpf : W'.cp f = c := upd_same _ _ _
  have hnlf : W'.nl f = n0 := upd_same _ _ _
  have hfpf : fpOf W' f = (bif n0 then [] else g :: fp) := by unfold fpOf; rw [hnlf, hηf, hnff]
  have hobf : ob' f = some (.row t xs) := by rw [hob, if_pos rfl]
  have hobC : ∀ i, ¬ (i ∈ ids ∨ i = f) → ob' i = s.ob i := fun i hi => by rw [hob, if_neg (fun e => hi (.inr e)), if_neg (fun e => hi (.inl e))]
  have hobN : ∀ i, i ≠ f → ∀ x, ob' i = some x → i ∉ ids ∧ s.ob i = some x := fun i hi x hx => by
    rw [hob, if_neg hi] at hx
    split at hx
    · simp at hx
    · rename_i k; exact ⟨k, hx⟩
  have notI : ∀ b, b ∈ fp ∨ b ∈ fr → ¬ W.I b := fun b hb k => by
    obtain ⟨i, hi, hbi⟩ := cons b hb
    exact h.imm i (hids i hi) b hbi k
  have gI : n0 = false → ¬ W.I g := fun h0 k => by
    rcases hg h0 with e | ⟨i, hi, hn, e⟩
    · rw [e] at k; exact Nat.lt_irrefl _ (h.bnd _ k)
    · exact h.imm i (hids i hi) g (by rw [e]; exact η_fp hn) k
  have gJ : ∀ b, W.J s.ob b → n0 = true ∨ b ≠ g := fun b hb => by
    cases h0 : n0 with
    | true => exact .inl rfl
    | false =>
      refine .inr fun e => ?_
      subst e
      rcases hb with k | ⟨j, hj, k⟩
      · exact gI h0 k
      · rcases hg h0 with e | ⟨i, hi, hn, e⟩
        · have := h.lt hj _ (h.nfFp hj k); omega
        · by_cases hij : i = j
          · subst hij
            have := h.nod i hj
            simp only [fpOf, hn, cond_false, List.nodup_cons] at this
            exact this.1 (e ▸ k)
          · exact h.dis i j hij (hids i hi) hj b (by rw [e]; exact η_fp hn) (h.nfFp hj k)
  have turn : Turn Al W W' s.ob ob' w w' :=
    { I := fun b hb => .inl hb
      J := fun b hb => by
        rcases hb with hb | ⟨i, hi, hb⟩
        · exact .inl (.inl hb)
        · by_cases hi2 : i ∈ ids
          · rcases cov i hi2 b hb with k | k
            · exact .inr ⟨f, by rw [hobf]; rfl, by rw [hnff]; exact k⟩
            · exact .inl (.inr k)
          · have hif : i ≠ f := fun e => by
              subst e
              rcases hf with k | ⟨k, _⟩
              · exact k (h.al i hi)
              · exact hi2 k
            exact .inr ⟨i, by rw [hobC i (by simp [hi2, hif])]; exact hi, by rw [hnf i hif]; exact hb⟩
      hJ := fun b hb => hp b (h.Jlt hb) (gJ b hb)
      rows := fun id hid t2 xs' hx => by
        by_cases e : id = f
        · subst e
          rcases hf with k | ⟨_, xs0, k1, k2, k3, k4, k5⟩
          · exact absurd hid k
          · rw [hobf] at hx
            simp only [Option.some.injEq, Obj.row.injEq] at hx
            obtain ⟨rfl, hx⟩ := hx
            have hx := eq_of_heq hx
            subst hx
            exact ⟨_, xs0, k1, rfl, k2, hηf.trans k3, hcpf.trans k4, hnlf.trans k5⟩
        · exact ⟨_, xs', (hobN id e _ hx).2, rfl, rfl, hη id e, hcp id e, hnl id e⟩
      vars := fun id hid l' hx => by
        by_cases e : id = f
        · subst e; rw [hobf] at hx; simp at hx
        · exact ⟨l', (hobN id e _ hx).2, hη id e⟩ }
  have gNew : ∀ j, j ∉ ids → (s.ob j).isSome = true → ∀ b ∈ fpOf W j, n0 = true ∨ b ≠ g := fun j hj hS b hb => by
    cases h0 : n0 with
    | true => exact .inl rfl
    | false =>
      refine .inr fun e => ?_
      subst e
      rcases hg h0 with e | ⟨i, hi, hn, e⟩
      · have := h.lt hS _ hb; omega
      · exact h.dis i j (fun e => hj (e ▸ hi)) (hids i hi) hS b (by rw [e]; exact η_fp hn) hb
  have keptD : ∀ j, j ∉ ids → (s.ob j).isSome = true → ∀ b ∈ fpOf W j, ¬ (b ∈ fp ∨ b ∈ fr) := fun j hj hS b hb k => by
    obtain ⟨i, hi, hbi⟩ := cons b k
    exact h.dis i j (fun e => hj (e ▸ hi)) (hids i hi) hS b hbi hb
  have fromC : ∀ b, b ∈ fp ∨ b ∈ fr → B.fpT b ∨ B.fpN b ∨ B.w0.heap.size ≤ b := fun b hb => by
    obtain ⟨i, hi, hbi⟩ := cons b hb
    obtain ⟨hn, k | k⟩ := fpOf_cases hbi
    · rw [k]; exact (h.ownT i (hids i hi) hn).imp id .inr
    · exact h.ownN i (hids i hi) b k
  have gT : n0 = false → B.fpT g ∨ B.w0.heap.size ≤ g := fun h0 => by
    rcases hg h0 with e | ⟨i, hi, hn, e⟩
    · rw [e]; exact .inr h.grown
    · rw [e]; exact h.ownT i (hids i hi) hn
  have inF : ∀ b, b ∈ fpOf W' f → n0 = false ∧ (b = g ∨ b ∈ fp) := fun b hb => by
    rw [hfpf] at hb
    cases h0 : n0 <;> rw [h0] at hb <;> simp at hb
    exact ⟨rfl, hb⟩
  have hfin := fun (d : Option Nat) (r : AV) (v : Value) (hd : dstOk B d) => h.turn (C := fun i => i ∈ ids ∨ i = f) (Al' := Al') (W' := W') (w' := w') (ob' := ob') (r := r) (v := v)
    { turn := turn
      sub := hA
      kept := fun i hi => ⟨hobC i hi, hη i (fun e => hi (.inr e)), hnf i (fun e => hi (.inr e)), hcp i (fun e => hi (.inr e)), hnl i (fun e => hi (.inr e))⟩
      keptH := fun i hi hS b hb => ⟨hp b (h.lt hS b hb) (gNew i (fun k => hi (.inl k)) hS b hb), fun k => k.elim (h.imm i hS b hb) fun k => keptD i (fun k => hi (.inl k)) hS b hb (.inr k)⟩
      newO := fun i hi x hx => by
        by_cases e : i = f
        · subst e
          rw [hobf] at hx
          simp only [Option.some.injEq] at hx
          subst hx
          refine ⟨?_, hf', fun l hl => by simp at hl⟩
          show RowOk w' W' i t xs
          unfold RowOk
          rw [hηf, hnff, hcpf, hnlf]
          exact hr
        · exact absurd (hi.resolve_right e) (hobN i e x hx).1
      newN := fun i hi hS => by
        obtain ⟨x, hx⟩ := Option.isSome_iff_exists.1 hS
        by_cases e : i = f
        · subst e; rw [hfpf]; exact nd
        · exact absurd (hi.resolve_right e) (hobN i e x hx).1
      newI := fun i hi hS b hb => by
        obtain ⟨x, hx⟩ := Option.isSome_iff_exists.1 hS
        by_cases e : i = f
        · subst e
          obtain ⟨h0, hb2⟩ := inF b hb
          rintro (k | k)
          · rcases hb2 with q | q
            · exact gI h0 (q ▸ k)
            · exact notI b (.inl q) k
          · rw [hfpf] at hb; exact nd2 b k hb
        · exact absurd (hi.resolve_right e) (hobN i e x hx).1
      newD := fun i j hi hS hj hSj b hb hb' => by
        obtain ⟨x, hx⟩ := Option.isSome_iff_exists.1 hS
        by_cases e : i = f
        · subst e
          obtain ⟨h0, q | q⟩ := inF b hb
          · rcases gNew j (fun k => hj (.inl k)) hSj b hb' with k | k
            · rw [h0] at k; simp at k
            · exact k q
          · exact keptD j (fun k => hj (.inl k)) hSj b hb' (.inl q)
        · exact absurd (hi.resolve_right e) (hobN i e x hx).1
      newD2 := fun i j hi hj hij hS hS' => by
        obtain ⟨x, hx⟩ := Option.isSome_iff_exists.1 hS
        obtain ⟨y, hy⟩ := Option.isSome_iff_exists.1 hS'
        by_cases e : i = f
        · by_cases e' : j = f
          · exact absurd (e.trans e'.symm) hij
          · exact absurd (hj.resolve_right e') (hobN j e' y hy).1
        · exact absurd (hi.resolve_right e) (hobN i e x hx).1
      newT := fun i hi hS hn => by
        obtain ⟨x, hx⟩ := Option.isSome_iff_exists.1 hS
        by_cases e : i = f
        · subst e; rw [hηf]; exact gT (hnlf.symm.trans hn)
        · exact absurd (hi.resolve_right e) (hobN i e x hx).1
      newF := fun i hi hS b hb => by
        obtain ⟨x, hx⟩ := Option.isSome_iff_exists.1 hS
        by_cases e : i = f
        · subst e; rw [hnff] at hb; exact fromC b (.inl hb)
        · exact absurd (hi.resolve_right e) (hobN i e x hx).1
      bnd := fun b hb => by
        rcases hb with k | k
        · exact Nat.lt_of_lt_of_le (h.bnd b k) hsz
        · obtain ⟨i, hi, hbi⟩ := cons b (.inr k)
          exact Nat.lt_of_lt_of_le (h.lt (hids i hi) b hbi) hsz
      os := ho.trans h.os
      tape := htp.trans h.tape
      output := hou.trans h.output
      grown := Nat.le_trans h.grown hsz
      old := fun b hb hn => by
        rw [hp b (Nat.lt_of_lt_of_le hb h.grown) ?_]
        · exact h.old b hb hn
        · cases h0 : n0 with
          | true => exact .inl rfl
          | false =>
            refine .inr ?_
            rintro rfl
            rcases gT h0 with k | k
            · exact hn k
            · omega
      from0 := fun b hb => by
        rcases hb with k | k
        · exact h.from0 b k
        · exact .inr (fromC b (.inr k)) } hd
  refine ⟨W', fun d r v hd hrv => hfin d r v hd ?_ ?_⟩
  · rcases hrv with ⟨rfl, rfl⟩ | rfl
    · refine ⟨fun _ => by cases n0 <;> rfl, ?_⟩
      intro t2 xs2 h2
      rw [hobf] at h2
      simp only [Option.some.injEq, Obj.row.injEq] at h2
      obtain ⟨rfl, h2⟩ := h2
      have h2 := eq_of_heq h2
      subst h2
      unfold slv
      rw [hηf, hcpf, hnlf]
    · exact ⟨fun k => by simp [isUndef] at k, trivial⟩
  · rcases hrv with ⟨rfl, rfl⟩ | rfl
    · intro id hid
      have : f = id := hid
      subst this; exact hf'
    · exact fun id hid => hid.elim

/-- A new row, out of what is taken away. -/
theorem Rel.newRow (h : Rel B Al s a w W) (hf : ¬ Al f) (hA : ∀ i, Al i → Al' i) (hf' : Al' f) {d : Option Nat} (hd : dstOk B d) {ids : List Nat} (hids : ∀ i ∈ ids, (s.ob i).isSome = true)
    {t : Ty} {xs : List t.den} {g c : Nat} {fp fr : List Nat}
    (cons : ∀ b, b ∈ fp ∨ b ∈ fr → ∃ i ∈ ids, b ∈ fpOf W i) (cov : ∀ i ∈ ids, ∀ b ∈ W.nf i, b ∈ fp ∨ b ∈ fr) (nd : (g :: fp).Nodup) (nd2 : ∀ b ∈ fr, b ∉ g :: fp)
    (hg : g = w.heap.size ∨ ∃ i ∈ ids, W.nl i = false ∧ g = W.η i) (hp : ∀ b, b < w.heap.size → b ≠ g → w'.heap[b]? = w.heap[b]?) (hsz : w.heap.size ≤ w'.heap.size)
    (hr : RowAt w' (Ow w' (plus W.I fr) t) t.size xs g c fp) (ho : w'.os = w.os) (htp : w'.tape = w.tape) (hou : w'.output = w.output) :
    ∃ W', Rel B Al' (s.up ⟨dl d (.one (.own f)), gone ids ++ [(f, some (.row t xs))]⟩) (a.put d (.slice (some ⟨g, 0, none⟩) xs.length c)) w' W' := by
  obtain ⟨W', hR⟩ := h.putRow (f := f) (n0 := false) (g := g) (c := c) (w' := w') hA hf' hids (.inl hf) cons cov nd nd2 (fun _ => hg) (fun b hb k => hp b hb (k.resolve_left (by simp))) hsz (.inr ⟨rfl, hr⟩) ho htp hou (updS_gone s.ob f _ ids)
  exact ⟨W', hR d _ _ hd (.inl ⟨rfl, rfl⟩)⟩
end
end Go.Rf
