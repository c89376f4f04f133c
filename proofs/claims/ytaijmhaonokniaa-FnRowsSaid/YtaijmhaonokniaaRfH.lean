/- Reading; and more operations that leave the heap as it was. -/
import Derived.Test.YtaijmhaonokniaaRfG
namespace Go.Rf
set_option linter.unusedVariables false
set_option linter.unusedSimpArgs false

section
variable {P : Program} {T : Tab} {E : Env} {B : Base} {Al : Nat → Prop} {s : St} {a : Act} {w : World} {W : Wit} {o : Oper} {f : Nat}
  {rs rs' : List Key} {u : Upd}

theorem Ch.cast {α β : Type} (e : α = β) {R : α → List Value → Prop} {R' : β → List Value → Prop} (h : ∀ x cs, R x cs → R' (cast e x) cs) (xs : List α) (cs : List Value) (k : Ch R xs cs) :
    Ch R' (cast (congrArg List e) xs) cs := by subst e; exact Ch.mono h xs cs k

theorem len_cast {α β : Type} (e : α = β) (xs : List α) : (cast (congrArg List e) xs).length = xs.length := by subst e; rfl
theorem nil_cast {α β : Type} (e : α = β) (xs : List α) (h : xs = []) : cast (congrArg List e) xs = [] := by subst e; exact h
theorem fst_cast {A B C D : Type} (e : A = C) (e' : B = D) (x : A × B) : (cast (prod_eq e e') x).1 = cast e x.1 := by subst e; subst e'; rfl
theorem snd_cast {A B C D : Type} (e : A = C) (e' : B = D) (x : A × B) : (cast (prod_eq e e') x).2 = cast e' x.2 := by subst e; subst e'; rfl

theorem RdRow.cast {α β : Type} (e : α = β) {I : Nat → Prop} {R : α → List Value → Prop} {R' : β → List Value → Prop} (h : ∀ x cs, R x cs → R' (cast e x) cs) {xs : List α} {A : Option Addr} (k : RdRow w I R xs A) :
    RdRow w I R' (cast (congrArg List e) xs) A := by
  rcases k with k | ⟨a, C, el, fr, pre, ces, post, h1, h2, h3, h4, h5, h6, h7⟩
  · exact .inl (nil_cast e xs k)
  · exact .inr ⟨a, C, el, fr, pre, ces, post, h1, h2, h3, h4, h5, h6, Ch.cast e h _ _ h7⟩

theorem same_size : ∀ (a b : Ty) p, Ty.same a b = some p → a.size = b.size
  | .int _, .int _, _, _ => rfl
  | .bool, .bool, _, _ => rfl
  | .str, .str, _, _ => rfl
  | .sl _ _, .sl _ _, _, _ => rfl
  | .box _ _, .box _ _, _, _ => rfl
  | .pair a b, .pair c d, p, h => by
    simp only [Ty.same] at h
    split at h
    · rename_i h1 h2
      show a.size + b.size = c.size + d.size
      rw [same_size a c _ h1, same_size b d _ h2]
    · simp at h

theorem Rd.same {I : Nat → Prop} : ∀ (a b : Ty) (h : a.den = b.den), Ty.same a b = some ⟨h⟩ → ∀ x cs, Rd w I a x cs → Rd w I b (cast h x) cs
  | .int k, .int k', h, hs, x, cs, r => by
    simp only [Ty.same] at hs
    cases hk : kEq k k' with
    | false => rw [hk] at hs; simp at hs
    | true => have := kEq_iff hk; subst this; exact r
  | .bool, .bool, _, _, _, _, r => r
  | .str, .str, _, _, _, _, r => r
  | .sl m a, .sl m' b, h, hs, xs, cs, r => by
    simp only [Ty.same] at hs
    split at hs
    · rename_i h0 h1
      obtain ⟨A, c, e, hc, hr⟩ := r
      have hl : (cast h xs : List b.den).length = List.length (α := a.den) xs := len_cast h0 xs
      exact ⟨A, c, by rw [e]; exact congrArg (fun n => [Value.slice A n c]) hl.symm, Nat.le_trans (Nat.le_of_eq hl) hc, RdRow.cast h0 (Rd.same a b h0 h1) hr⟩
    · simp at hs
  | .box none a, .box none b, h, hs, x, cs, r => by
    simp only [Ty.same, gEq, cond_true] at hs
    split at hs
    · rename_i h0 h1
      obtain ⟨bl, o, e, hr⟩ := r
      refine ⟨bl, o, e, ?_⟩
      have := RdRow.cast h0 (Rd.same a b h0 h1) hr
      have hc : cast (congrArg List h0) [x] = [cast h x] := by
        have : ∀ {α β : Type} (e : α = β) (x : α), cast (congrArg List e) [x] = [cast e x] := by intro α β e x; subst e; rfl
        exact this h0 x
      rw [hc] at this
      exact this
    · simp at hs
  | .box (some g) a, .box (some g') b, h, hs, x, cs, r => by
    simp only [Ty.same, gEq] at hs
    cases hg : Nat.beq g g' with
    | false => rw [hg] at hs; simp at hs
    | true =>
      rw [hg] at hs
      simp only [cond_true] at hs
      have := Nat.eq_of_beq_eq_true hg
      subst this
      split at hs
      · rename_i h0 h1
        obtain ⟨caps, e, hr⟩ := r
        exact ⟨caps, e, Rd.same a b h0 h1 x caps hr⟩
      · simp at hs
  | .box none _, .box (some _) _, _, hs, _, _, _ => by simp [Ty.same, gEq] at hs
  | .box (some _) _, .box none _, _, hs, _, _, _ => by simp [Ty.same, gEq] at hs
  | .pair a b, .pair c d, h, hs, x, cs, r => by
    simp only [Ty.same] at hs
    split at hs
    · rename_i h1 h3 h2 h4
      obtain ⟨c1, c2, e, r1, r2⟩ := r
      refine ⟨c1, c2, e, ?_, ?_⟩
      · have : (cast h x).1 = cast h1 x.1 := fst_cast h1 h3 x
        rw [this]; exact Rd.same a c h1 h2 _ _ r1
      · have : (cast h x).2 = cast h3 x.2 := snd_cast h1 h3 x
        rw [this]; exact Rd.same b d h3 h4 _ _ r2
    · simp at hs

/-- A part of a row. -/
theorem Ch.drop {α : Type} {R : α → List Value → Prop} : ∀ (n : Nat) (xs : List α) cs, Ch R xs cs → ∃ c1 c2, cs = c1 ++ c2 ∧ Ch R (xs.take n) c1 ∧ Ch R (xs.drop n) c2
  | 0, _, cs, h => ⟨[], cs, rfl, rfl, h⟩
  | n + 1, [], cs, h => ⟨[], [], h, rfl, rfl⟩
  | n + 1, x :: xs, cs, ⟨c1, c2, e, r, h⟩ => by
    obtain ⟨d1, d2, e2, k1, k2⟩ := Ch.drop n xs c2 h
    exact ⟨c1 ++ d1, d2, by rw [e, e2, List.append_assoc], ⟨c1, d1, rfl, r, k1⟩, k2⟩

def readBy (W : Wit) (ob : Nat → Option Obj) (ids : List Nat) (sf : Bool) (b : Nat) : Prop := W.I b ∨ (sf = true ∧ W.J ob b) ∨ ∃ id ∈ ids, (ob id).isSome = true ∧ b ∈ fpOf W id

theorem Rel.rowOw (h : Rel B Al s a w W) {id : Nat} {t : Ty} {xs : List t.den} (ho : s.ob id = some (.row t xs)) : Ow w W.I (.sl true t) xs [slv W id xs.length] (fpOf W id) := by
  rcases h.row id t xs ho with ⟨e1, e2, e3⟩ | ⟨e1, hr⟩
  · exact .inl ⟨e2, by simp [slv, e1], by simp [fpOf, e1]⟩
  · exact .inr ⟨W.η id, W.cp id, W.nf id, by simp [slv, e1], by simp [fpOf, e1], hr⟩

theorem Rel.rowRd (h : Rel B Al s a w W) {id : Nat} {t : Ty} {xs : List t.den} (ho : s.ob id = some (.row t xs)) (m : Bool) :
    Rd w (readBy W s.ob [id] false) (.sl m t) xs [slv W id xs.length] :=
  Ow.rd (I' := readBy W s.ob [id] false) (fun b hb => .inl hb) (.sl true t) xs _ (fpOf W id) (fun b hb => .inr (.inr ⟨id, by simp, by rw [ho]; rfl, hb⟩)) (h.rowOw ho)

theorem slv_inv {i n c : Nat} {A : Option Addr} {m : Nat} (h : slv W i n = .slice A m c) : (A = none ∧ W.nl i = true ∧ m = 0) ∨ (A = some ⟨W.η i, 0, none⟩ ∧ W.nl i = false ∧ m = n ∧ c = W.cp i) := by
  unfold slv at h
  cases e : W.nl i <;> rw [e] at h <;> simp at h
  · obtain ⟨rfl, rfl, rfl⟩ := h; exact .inr ⟨rfl, rfl, rfl, rfl⟩
  · obtain ⟨rfl, rfl, rfl⟩ := h; exact .inl ⟨rfl, rfl, rfl⟩

theorem cut_len_le {α : Type} (lo hi : Option Nat) (xs : List α) : (cut lo hi xs).length ≤ xs.length := by
  unfold cut; split <;> simp <;> omega

theorem cut_eq {α : Type} (lo hi : Option Nat) (xs : List α) : cut lo hi xs = (xs.take (hi.getD xs.length)).drop (lo.getD 0) := by
  unfold cut; split <;> simp

theorem cut_ch {α : Type} {R : α → List Value → Prop} {n : Nat} (hn : ∀ x cs, R x cs → cs.length = n) (lo hi : Option Nat) (xs : List α) (cs : List Value) (h : Ch R xs cs) (hne : cut lo hi xs ≠ []) :
    ∃ c1 c2 c3, cs = c1 ++ (c2 ++ c3) ∧ Ch R (cut lo hi xs) c2 ∧ c1.length = (lo.getD 0) * n := by
  rw [cut_eq] at hne ⊢
  obtain ⟨c1, c2, e, k1, _⟩ := Ch.drop (hi.getD xs.length) xs cs h
  obtain ⟨d1, d2, e', k3, k4⟩ := Ch.drop (lo.getD 0) _ c1 k1
  refine ⟨d1, d2, c2, by rw [e, e', List.append_assoc], k4, ?_⟩
  rw [Ch.len hn _ _ k3, List.length_take]
  have : lo.getD 0 < (xs.take (hi.getD xs.length)).length := by
    rcases Nat.lt_or_ge (lo.getD 0) (xs.take (hi.getD xs.length)).length with h | h
    · exact h
    · exact absurd (List.drop_eq_nil_of_le h) hne
  rw [Nat.min_eq_left (Nat.le_of_lt this)]

theorem Rel.viewRd (h : Rel B Al s a w W) {id : Nat} {t : Ty} {xs : List t.den} (ho : s.ob id = some (.row t xs)) {lo hi : Option Nat} {v : Value} (hv : VsC w W s.ob (.vw id lo hi) v) (m : Bool) :
    Rd w (readBy W s.ob [id] false) (.sl m t) (cut lo hi xs) [v] := by
  obtain ⟨A, c, e, hc, hA⟩ := hv t xs ho
  subst e
  refine ⟨A, c, rfl, hc, ?_⟩
  by_cases hne : cut lo hi xs = []
  · exact .inl hne
  · obtain ⟨A', c', e', _, hr⟩ := h.rowRd ho m
    simp only [List.cons.injEq, and_true] at e'
    have hxs : xs ≠ [] := fun e => hne (by rw [e, cut_eq]; simp)
    rcases hr with hr | ⟨a', C, el, fr, pre, ces, post, q1, q2, q3, q4, q5, q6, q7⟩
    · exact absurd hr hxs
    · rcases slv_inv e' with ⟨e1, _⟩ | ⟨e1, _⟩
      · rw [e1] at q1; simp at q1
      rw [e1] at q1
      simp only [Option.some.injEq] at q1
      subst q1
      obtain ⟨c1, c2, c3, r1, r2, r3⟩ := cut_ch (fun x cs => Rd.size t x cs) lo hi xs ces q7 hne
      rcases hA with hA | hA
      · exact absurd (List.eq_nil_of_length_eq_zero hA) hne
      · exact .inr ⟨_, C, el, fr, pre ++ c1, c2, c3 ++ post, hA, rfl, q3, q4, by rw [q5, r1]; simp, by simp [r3] at q6 ⊢; exact q6, r2⟩

theorem readBy.mono {ids ids' : List Nat} {p p' : Bool} (h1 : ∀ i ∈ ids, i ∈ ids') (h2 : p = true → p' = true) {b : Nat} (h : readBy W s.ob ids p b) : readBy W s.ob ids' p' b := by
  rcases h with h | ⟨h, k⟩ | ⟨id, h, k⟩
  · exact .inl h
  · exact .inr (.inl ⟨h2 h, k⟩)
  · exact .inr (.inr ⟨id, h1 id h, k⟩)

/-- Reading a value off its cells. -/
theorem see_exec (h : Rel B Al s a w W) {α : Type} {r : α × List Key} : ∀ (t : Ty) (l : List Sc) (vs : List Value) (K : t.den → List Sc → List Nat → Bool → RP α) (rs : List Key), All2 (Vs w W s.ob) l vs → (see t l K).exec s rs = some r →
    ∃ x l2 ids sf rs2 cs vs2, vs = cs ++ vs2 ∧ (K x l2 ids sf).exec s rs2 = some r ∧ All2 (Vs w W s.ob) l2 vs2 ∧ Rd w (readBy W s.ob ids sf) t x cs ∧ (∀ c ∈ l2, c ∈ l) ∧ (∀ i ∈ ids, (s.ob i).isSome = true)
  | .int k, c :: l, vs, K, rs, hl, he => by
    obtain ⟨v, vs2, e, p, hl⟩ := hl
    simp only [see] at he
    split at he
    · rename_i k' n
      obtain ⟨hk, he5⟩ := exec_bif he
      clear he
      have hk := kEq_iff hk
      subst hk
      have p : v = _ := p.2
      subst p
      exact ⟨_, _, _, _, _, [_], vs2, e, he5, hl, rfl, fun c hc => List.mem_cons_of_mem _ hc, by simp⟩
    · simp [RP.exec] at he
  | .bool, c :: l, vs, K, rs, hl, he => by
    obtain ⟨v, vs2, e, p, hl⟩ := hl
    simp only [see] at he
    split at he
    · have p : v = _ := p.2
      subst p
      exact ⟨_, _, _, _, _, [_], vs2, e, he, hl, rfl, fun c hc => List.mem_cons_of_mem _ hc, by simp⟩
    · simp [RP.exec] at he
  | .str, c :: l, vs, K, rs, hl, he => by
    obtain ⟨v, vs2, e, p, hl⟩ := hl
    simp only [see] at he
    split at he
    · have p : v = _ := p.2
      subst p
      exact ⟨_, _, _, _, _, [_], vs2, e, he, hl, rfl, fun c hc => List.mem_cons_of_mem _ hc, by simp⟩
    · simp [RP.exec] at he
  | .sl m t, c :: l, vs, K, rs, hl, he => by
    obtain ⟨v, vs2, e, p, hl⟩ := hl
    simp only [see] at he
    split at he
    · have p : v = _ := p.2
      subst p
      exact ⟨_, _, _, _, _, [_], vs2, e, he, hl, ⟨none, 0, rfl, Nat.le_refl _, .inl rfl⟩, fun c hc => List.mem_cons_of_mem _ hc, by simp⟩
    · rename_i id
      simp only [RP.exec] at he
      split at he
      · rename_i t' xs ho
        split at he
        · rename_i hq hsm
          have p : v = _ := p.2 t' xs ho
          subst p
          exact ⟨_, _, _, _, _, [_], vs2, e, he, hl, Rd.same (.sl m t') (.sl m t) (congrArg List hq) (by simp only [Ty.same, hsm]) _ _ (h.rowRd ho m), fun c hc => List.mem_cons_of_mem _ hc, by simp [ho]⟩
        · simp [RP.exec] at he
      · simp [RP.exec] at he
    · rename_i id lo hi
      simp only [RP.exec] at he
      split at he
      · rename_i t' xs ho
        split at he
        · rename_i hq hsm
          exact ⟨_, _, _, _, _, [_], vs2, e, he, hl, Rd.same (.sl m t') (.sl m t) (congrArg List hq) (by simp only [Ty.same, hsm]) _ _ (h.viewRd ho p.2 m), fun c hc => List.mem_cons_of_mem _ hc, by simp [ho]⟩
        · simp [RP.exec] at he
      · simp [RP.exec] at he
    · rename_i sf t' xs
      split at he
      · rename_i hq hsm
        have hp : Rd w (readBy W s.ob [] sf) (.sl m t') xs [v] := by
          have q : Rd w (if sf then W.J s.ob else W.I) (.sl false t') xs [v] := p.2
          refine Rd.mono (I := if sf then W.J s.ob else W.I) (w := w) (fun b hb => ?_) (fun _ _ => rfl) (.sl m t') xs _ q
          cases sf
          · exact .inl hb
          · exact .inr (.inl ⟨rfl, hb⟩)
        exact ⟨_, _, _, _, _, [_], vs2, e, he, hl, Rd.same (.sl m t') (.sl m t) (congrArg List hq) (by simp only [Ty.same, hsm]) _ _ hp, fun c hc => List.mem_cons_of_mem _ hc, by simp⟩
      · simp [RP.exec] at he
    · simp [RP.exec] at he
  | .box g t, c :: l, vs, K, rs, hl, he => by
    obtain ⟨v, vs2, e, p, hl⟩ := hl
    simp only [see] at he
    split at he
    · rename_i sf g' t' x
      obtain ⟨hg, he⟩ := exec_bif' he
      have hg : gEq g' g = true := by simpa using hg
      split at he
      · rename_i hq hsm
        have hp : Rd w (readBy W s.ob [] sf) (.box g' t') x [v] := by
          have q : Rd w (if sf then W.J s.ob else W.I) (.box g' t') x [v] := p.2
          refine Rd.mono (I := if sf then W.J s.ob else W.I) (w := w) (fun b hb => ?_) (fun _ _ => rfl) (.box g' t') x _ q
          cases sf
          · exact .inl hb
          · exact .inr (.inl ⟨rfl, hb⟩)
        exact ⟨_, _, _, _, _, [_], vs2, e, he, hl, Rd.same (.box g' t') (.box g t) hq (by simp only [Ty.same, hg, hsm, cond_true]) _ _ hp, fun c hc => List.mem_cons_of_mem _ hc, by simp⟩
      · simp [RP.exec] at he
    · simp [RP.exec] at he
  | .pair t1 t2, l, vs, K, rs, hl, he => by
    have he : (see t1 l fun x r i p => see t2 r fun y r' j q => K (x, y) r' (i ++ j) (p || q)).exec s rs = some r := by cases l <;> exact he
    obtain ⟨x, l2, i, p, rs2, cs, vs2, e1, k1, k2, k3, k4, k5⟩ := see_exec h t1 l vs _ rs hl he
    obtain ⟨y, l3, j, q, rs3, ds, vs3, e2, q1, q2, q3, q4, q5⟩ := see_exec h t2 l2 vs2 _ rs2 k2 k1
    refine ⟨(x, y), l3, i ++ j, p || q, rs3, cs ++ ds, vs3, by rw [e1, e2, List.append_assoc], q1, q2, ⟨cs, ds, rfl, ?_, ?_⟩, fun c hc => k4 c (q4 c hc), ?_⟩
    · exact Rd.mono (fun b hb => readBy.mono (fun i hi => List.mem_append_left _ hi) (fun h => by simp [h]) hb) (fun _ _ => rfl) t1 x cs k3
    · exact Rd.mono (fun b hb => readBy.mono (fun i hi => List.mem_append_right _ hi) (fun h => by simp [h]) hb) (fun _ _ => rfl) t2 y ds q3
    · intro k hk
      rcases List.mem_append.1 hk with hk | hk
      · exact k5 k hk
      · exact q5 k hk
  | .int _, [], _, _, _, _, he => by simp [see, RP.exec] at he
  | .bool, [], _, _, _, _, he => by simp [see, RP.exec] at he
  | .str, [], _, _, _, _, he => by simp [see, RP.exec] at he
  | .sl _ _, [], _, _, _, _, he => by simp [see, RP.exec] at he
  | .box _ _, [], _, _, _, _, he => by simp [see, RP.exec] at he
end
end Go.Rf
