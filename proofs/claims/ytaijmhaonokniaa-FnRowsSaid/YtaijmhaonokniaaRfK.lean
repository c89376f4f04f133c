/- Values taken out of the state: what is owned goes along. -/
import Derived.Test.YtaijmhaonokniaaRfJ
namespace Go.Rf
set_option linter.unusedVariables false
set_option linter.unusedSimpArgs false

section
variable {P : Program} {T : Tab} {E : Env} {B : Base} {Al : Nat → Prop} {s : St} {a : Act} {w : World} {W : Wit} {o : Oper} {f : Nat}
  {rs rs' : List Key} {u : Upd}

def plus (I : Nat → Prop) (fr : List Nat) (b : Nat) : Prop := I b ∨ b ∈ fr

def blk (W : Wit) (ids : List Nat) : List Nat := ids.flatMap (fpOf W)

theorem blk_append (W : Wit) (i j : List Nat) : blk W (i ++ j) = blk W i ++ blk W j := List.flatMap_append

theorem cons_cast {α β : Type} (e : α = β) (x : α) (xs : List α) : cast (congrArg List e) (x :: xs) = cast e x :: cast (congrArg List e) xs := by subst e; rfl

theorem perm_two {a b c d : List Nat} {x y : List Nat} (h : x.Perm (a ++ b)) (k : y.Perm (c ++ d)) : (x ++ y).Perm ((a ++ c) ++ (b ++ d)) := by
  refine (h.append k).trans ?_
  rw [List.append_assoc, List.append_assoc]
  refine List.Perm.append_left a ?_
  rw [← List.append_assoc, ← List.append_assoc]
  exact List.Perm.append_right d List.perm_append_comm

/-- Owned may become readable. -/
theorem Ow.same {I : Nat → Prop} : ∀ (a b : Ty) (h : a.den = b.den), Ty.same a b = some ⟨h⟩ → Ty.leM a b = true → ∀ x cs fp, Ow w I a x cs fp → ∃ fp' fr, fp.Perm (fp' ++ fr) ∧ Ow w (plus I fr) b (cast h x) cs fp'
  | .int k, .int k', h, hs, _, x, cs, fp, r => by
    refine ⟨[], [], by rw [r.2]; exact List.Perm.refl _, ?_, rfl⟩
    exact Rd.mono (I := I) (w := w) (fun b hb => .inl hb) (fun _ _ => rfl) _ _ _ (Rd.same (.int k) (.int k') h hs x cs r.1)
  | .bool, .bool, _, _, _, _, _, _, r => ⟨[], [], by rw [r.2]; exact List.Perm.refl _, r.1, rfl⟩
  | .str, .str, _, _, _, _, _, _, r => ⟨[], [], by rw [r.2]; exact List.Perm.refl _, r.1, rfl⟩
  | .box g a, .box g' b, h, hs, _, x, cs, fp, r => by
    refine ⟨[], [], by rw [r.2]; exact List.Perm.refl _, ?_, rfl⟩
    exact Rd.mono (I := I) (w := w) (fun b hb => .inl hb) (fun _ _ => rfl) _ _ _ (Rd.same (.box g a) (.box g' b) h hs x cs r.1)
  | .sl true a, .sl false b, h, hs, _, x, cs, fp, r => by
    refine ⟨[], fp, List.Perm.refl _, ?_, rfl⟩
    have h1 := Ow.rd (I' := plus I fp) (fun b hb => .inl hb) (.sl true a) x cs fp (fun b hb => .inr hb) r
    have h2 : Ty.same (.sl true a) (.sl false b) = some ⟨h⟩ := hs
    exact Rd.same (.sl true a) (.sl false b) h h2 x cs h1
  | .sl false a, .sl false b, h, hs, _, x, cs, fp, r => by
    refine ⟨[], [], by rw [r.2]; exact List.Perm.refl _, ?_, rfl⟩
    exact Rd.mono (I := I) (w := w) (fun b hb => .inl hb) (fun _ _ => rfl) _ _ _ (Rd.same (.sl false a) (.sl false b) h hs x cs r.1)
  | .sl false a, .sl true b, _, _, hle, _, _, _, _ => by simp [Ty.leM] at hle
  | .sl true a, .sl true b, h, hs, hle, xs, cs, fp, r => by
    simp only [Ty.same] at hs
    split at hs
    · rename_i h0 h1
      have hle : Ty.leM a b = true := by simpa [Ty.leM] using hle
      rcases r with ⟨e1, e2, e3⟩ | ⟨g, c, f, e1, e2, hr⟩
      · exact ⟨[], [], by rw [e3]; exact List.Perm.refl _, .inl ⟨nil_cast h0 xs e1, e2, rfl⟩⟩
      · subst e2
        have key : ∀ (xs : List a.den) (ces : List Value) (fq : List Nat), ChO (Ow w I a) xs ces fq → ∃ fq' fr, fq.Perm (fq' ++ fr) ∧ ChO (Ow w (plus I fr) b) (cast (congrArg List h0) xs) ces fq' := by
          intro xs
          induction xs with
          | nil =>
            intro ces fq k
            refine ⟨[], [], by rw [k.2]; exact List.Perm.refl _, ?_⟩
            rw [nil_cast h0 [] rfl]
            exact ⟨k.1, rfl⟩
          | cons x xs ih =>
            intro ces fq ⟨c1, c2, f1, f2, q1, q2, q3, q4⟩
            obtain ⟨g1, r1, p1, o1⟩ := Ow.same a b h0 h1 hle x c1 f1 q3
            obtain ⟨g2, r2, p2, o2⟩ := ih c2 f2 q4
            refine ⟨g1 ++ g2, r1 ++ r2, by rw [q2]; exact perm_two p1 p2, ?_⟩
            rw [cons_cast h0]
            refine ⟨c1, c2, g1, g2, q1, rfl, ?_, ?_⟩
            · exact Ow.mono (w := w) (fun b hb => hb.imp id fun h => List.mem_append_left _ h) (fun _ _ => rfl) b _ _ _ (fun _ _ => rfl) o1
            · exact ChO.mono _ _ _ (fun y ds f' _ k => Ow.mono (w := w) (fun b hb => hb.imp id fun h => List.mem_append_right _ h) (fun _ _ => rfl) b _ _ _ (fun _ _ => rfl) k) o2
        obtain ⟨ces, rest, el, q1, q2, q3, q4⟩ := hr
        obtain ⟨fq', fr, p, q⟩ := key xs ces f q4
        have hl : (cast h xs : List b.den).length = List.length (α := a.den) xs := len_cast h0 xs
        refine ⟨g :: fq', fr, List.Perm.cons g p, .inr ⟨g, c, fq', ?_, rfl, ces, rest, el, q1, ?_, Nat.le_trans (Nat.le_of_eq hl) q3, q⟩⟩
        · rw [e1]; exact congrArg (fun n => [Value.slice (some ⟨g, 0, none⟩) n c]) hl.symm
        · rw [q2, same_size a b _ h1]
    · simp at hs
  | .pair a b, .pair c d, h, hs, hle, x, cs, fp, r => by
    simp only [Ty.same] at hs
    split at hs
    · rename_i h1 h3 h2 h4
      simp only [Ty.leM, Bool.and_eq_true] at hle
      obtain ⟨c1, c2, f1, f2, e, e', r1, r2⟩ := r
      obtain ⟨g1, s1, p1, o1⟩ := Ow.same a c h1 h2 hle.1 _ _ _ r1
      obtain ⟨g2, s2, p2, o2⟩ := Ow.same b d h3 h4 hle.2 _ _ _ r2
      refine ⟨g1 ++ g2, s1 ++ s2, by rw [e']; exact perm_two p1 p2, c1, c2, g1, g2, e, rfl, ?_, ?_⟩
      · have : (cast h x).1 = cast h1 x.1 := fst_cast h1 h3 x
        rw [this]
        exact Ow.mono (w := w) (fun b hb => hb.imp id fun h => List.mem_append_left _ h) (fun _ _ => rfl) c _ _ _ (fun _ _ => rfl) o1
      · have : (cast h x).2 = cast h3 x.2 := snd_cast h1 h3 x
        rw [this]
        exact Ow.mono (w := w) (fun b hb => hb.imp id fun h => List.mem_append_right _ h) (fun _ _ => rfl) d _ _ _ (fun _ _ => rfl) o2
    · simp at hs

/-- The blocks that a value's owned slices lead to at once. -/
def tops : Ty → List Value → List Nat
  | .sl true _, c :: _ => match c with
    | .slice (some a) _ _ => [a.block]
    | _ => []
  | .pair a b, cs => tops a (cs.take a.size) ++ tops b (cs.drop a.size)
  | _, _ => []

theorem tops_pair {a b : Ty} {cs ds : List Value} (h : cs.length = a.size) : tops (.pair a b) (cs ++ ds) = tops a cs ++ tops b ds := by
  show tops a ((cs ++ ds).take a.size) ++ tops b ((cs ++ ds).drop a.size) = _
  rw [← h, List.take_left, List.drop_left]

/-- Whereto an in-and-out value leads. -/
def LdOk (W : Wit) (ob : Nat → Option Obj) : Ty → List (Option Nat) → List Value → Prop
  | .sl true t, l, cs => ∃ v, cs = [v] ∧ ((∃ id t0, ∃ xs0 : List (Ty.den t0), l = [some id] ∧ ob id = some (.row t0 xs0) ∧ t0.size = t.size ∧ v = slv W id xs0.length) ∨ (l = [none] ∧ v = .slice none 0 0))
  | .pair a b, l, cs => ∃ l1 l2 c1 c2, l = l1 ++ l2 ∧ cs = c1 ++ c2 ∧ c1.length = a.size ∧ LdOk W ob a l1 c1 ∧ LdOk W ob b l2 c2
  | _, l, _ => l = []

def Lead (W : Wit) (ob : Nat → Option Obj) (t : Ty) (l l2 : List Sc) (cs : List Value) (ids : List Nat) : Prop :=
  (okCells t l).1 = true → LdOk W ob t (leads t l).1 cs ∧ ((leads t l).1.filterMap id).Sublist ids ∧ (leads t l).2 = l2 ∧ (okCells t l).2 = l2

/-- Taking a value out of its cells. -/
theorem imp_exec' (h : Rel B Al s a w W) {α : Type} {r : α × List Key} : ∀ (t : Ty) (l : List Sc) (vs : List Value) (K : t.den → List Sc → List Nat → RP α) (rs : List Key), All2 (Vs w W s.ob) l vs → (imp t l K).exec s rs = some r →
    ∃ x l2 ids rs2 cs vs2 fp fr, vs = cs ++ vs2 ∧ (K x l2 ids).exec s rs2 = some r ∧ All2 (Vs w W s.ob) l2 vs2 ∧ Ow w (plus W.I fr) t x cs fp ∧ (blk W ids).Perm (fp ++ fr) ∧ (∀ c ∈ l2, c ∈ l) ∧ (∀ i ∈ ids, (s.ob i).isSome = true) ∧ (∀ b ∈ tops t cs, ∃ i ∈ ids, W.nl i = false ∧ b = W.η i) ∧ Lead W s.ob t l l2 cs ids
  | .int k, c :: l, vs, K, rs, hl, he => by
    obtain ⟨v, vs2, e, p, hl⟩ := hl
    simp only [imp] at he
    split at he
    · rename_i k' n
      obtain ⟨hk, he5⟩ := exec_bif he
      clear he
      have hk := kEq_iff hk
      subst hk
      have p : v = _ := p.2
      subst p
      exact ⟨_, _, _, _, [_], vs2, [], [], e, he5, hl, ⟨rfl, rfl⟩, List.Perm.refl _, fun c hc => List.mem_cons_of_mem _ hc, by simp, by simp [tops], fun _ => ⟨rfl, List.Sublist.refl _, rfl, rfl⟩⟩
    · simp [RP.exec] at he
  | .bool, c :: l, vs, K, rs, hl, he => by
    obtain ⟨v, vs2, e, p, hl⟩ := hl
    simp only [imp] at he
    split at he
    · have p : v = _ := p.2
      subst p
      exact ⟨_, _, _, _, [_], vs2, [], [], e, he, hl, ⟨rfl, rfl⟩, List.Perm.refl _, fun c hc => List.mem_cons_of_mem _ hc, by simp, by simp [tops], fun _ => ⟨rfl, List.Sublist.refl _, rfl, rfl⟩⟩
    · simp [RP.exec] at he
  | .str, c :: l, vs, K, rs, hl, he => by
    obtain ⟨v, vs2, e, p, hl⟩ := hl
    simp only [imp] at he
    split at he
    · have p : v = _ := p.2
      subst p
      exact ⟨_, _, _, _, [_], vs2, [], [], e, he, hl, ⟨rfl, rfl⟩, List.Perm.refl _, fun c hc => List.mem_cons_of_mem _ hc, by simp, by simp [tops], fun _ => ⟨rfl, List.Sublist.refl _, rfl, rfl⟩⟩
    · simp [RP.exec] at he
  | .sl m t, c :: l, vs, K, rs, hl, he => by
    obtain ⟨v, vs2, e, p, hl⟩ := hl
    simp only [imp] at he
    split at he
    · have p : v = _ := p.2
      subst p
      refine ⟨_, _, _, _, [_], vs2, [], [], e, he, hl, ?_, List.Perm.refl _, fun c hc => List.mem_cons_of_mem _ hc, by simp, by cases m <;> simp [tops], fun _ => ?_⟩
      rotate_left
      · cases m
        · exact ⟨rfl, List.Sublist.refl _, rfl, rfl⟩
        · exact ⟨⟨_, rfl, .inr ⟨rfl, rfl⟩⟩, List.Sublist.refl _, rfl, rfl⟩
      cases m
      · exact ⟨⟨none, 0, rfl, Nat.le_refl _, .inl rfl⟩, rfl⟩
      · exact .inl ⟨rfl, rfl, rfl⟩
    · rename_i id
      simp only [RP.exec] at he
      split at he
      · rename_i t' xs ho
        split at he
        · rename_i hq hsm
          obtain ⟨hle, he5⟩ := exec_bif he
          clear he
          have p : v = _ := p.2 t' xs ho
          subst p
          have ho1 := h.rowOw ho
          obtain ⟨fp, fr, hp, how⟩ := Ow.same (.sl true t') (.sl m t) (congrArg List hq) (by simp only [Ty.same, hsm]) (by cases m <;> simp [Ty.leM, hle]) xs _ _ ho1
          refine ⟨_, _, _, _, [_], vs2, fp, fr, e, he5, hl, how, by simpa [blk] using hp, fun c hc => List.mem_cons_of_mem _ hc, by simp [ho], ?_, ?_⟩
          rotate_left
          · intro _
            cases m
            · exact ⟨rfl, List.nil_sublist _, rfl, rfl⟩
            · exact ⟨⟨_, rfl, .inl ⟨id, t', xs, rfl, ho, same_size t' t _ hsm, rfl⟩⟩, List.Sublist.refl _, rfl, rfl⟩
          intro b hb
          refine ⟨id, by simp, ?_⟩
          cases m
          · simp [tops] at hb
          · cases hnl : W.nl id <;> simp [tops, slv, hnl] at hb
            exact ⟨rfl, hb⟩
        · simp [RP.exec] at he
      · simp [RP.exec] at he
    · rename_i sf t' xs
      obtain ⟨hms, he⟩ := exec_bif' he
      simp only [Bool.or_eq_false_iff] at hms
      obtain ⟨rfl, rfl⟩ := hms
      split at he
      · rename_i hq hsm
        have q : Rd w W.I (.sl false t') xs [v] := p.2
        exact ⟨_, _, _, _, [_], vs2, [], [], e, he, hl, ⟨Rd.mono (w := w) (I := W.I) (fun b hb => .inl hb) (fun _ _ => rfl) (.sl false t) _ _ (Rd.same (.sl false t') (.sl false t) (congrArg List hq) (by simp only [Ty.same, hsm]) _ _ q), rfl⟩, List.Perm.refl _, fun c hc => List.mem_cons_of_mem _ hc, by simp, by simp [tops], fun _ => ⟨rfl, List.Sublist.refl _, rfl, rfl⟩⟩
      · simp [RP.exec] at he
    · simp [RP.exec] at he
  | .box g t, c :: l, vs, K, rs, hl, he => by
    obtain ⟨v, vs2, e, p, hl⟩ := hl
    simp only [imp] at he
    split at he
    · rename_i sf g' t' x
      obtain ⟨hms, he5⟩ := exec_bif' he
      clear he
      simp only [Bool.or_eq_false_iff, Bool.not_eq_false'] at hms
      obtain ⟨rfl, hg⟩ := hms
      split at he5
      · rename_i hq hsm
        have q : Rd w W.I (.box g' t') x [v] := p.2
        exact ⟨_, _, _, _, [_], vs2, [], [], e, he5, hl, ⟨Rd.mono (w := w) (I := W.I) (fun b hb => .inl hb) (fun _ _ => rfl) (.box g t) _ _ (Rd.same (.box g' t') (.box g t) hq (by simp only [Ty.same, hg, hsm, cond_true]) _ _ q), rfl⟩, List.Perm.refl _, fun c hc => List.mem_cons_of_mem _ hc, by simp, by simp [tops], fun _ => ⟨rfl, List.Sublist.refl _, rfl, rfl⟩⟩
      · simp [RP.exec] at he5
    · simp [RP.exec] at he
  | .pair t1 t2, l, vs, K, rs, hl, he => by
    have he : (imp t1 l fun x r i => imp t2 r fun y r' j => K (x, y) r' (i ++ j)).exec s rs = some r := by cases l <;> exact he
    obtain ⟨x, l2, i, rs2, cs, vs2, fp, fr, e1, k1, k2, k3, k6, k4, k5, k7, k8⟩ := imp_exec' h t1 l vs _ rs hl he
    obtain ⟨y, l3, j, rs3, ds, vs3, fq, fs, e2, q1, q2, q3, q6, q4, q5, q7, q8⟩ := imp_exec' h t2 l2 vs2 _ rs2 k2 k1
    refine ⟨(x, y), l3, i ++ j, rs3, cs ++ ds, vs3, fp ++ fq, fr ++ fs, by rw [e1, e2, List.append_assoc], q1, q2, ⟨cs, ds, fp, fq, rfl, rfl, ?_, ?_⟩, by rw [blk_append]; exact perm_two k6 q6, fun c hc => k4 c (q4 c hc), ?_, ?_, ?_⟩
    · exact Ow.mono (w := w) (fun b hb => hb.imp id fun h => List.mem_append_left _ h) (fun _ _ => rfl) t1 _ _ _ (fun _ _ => rfl) k3
    · exact Ow.mono (w := w) (fun b hb => hb.imp id fun h => List.mem_append_right _ h) (fun _ _ => rfl) t2 _ _ _ (fun _ _ => rfl) q3
    · intro k hk
      rcases List.mem_append.1 hk with hk | hk
      · exact k5 k hk
      · exact q5 k hk
    · intro b hb
      rw [tops_pair (Ow.size t1 _ _ _ k3)] at hb
      rcases List.mem_append.1 hb with k | k
      · obtain ⟨i', hi, z⟩ := k7 b k; exact ⟨i', List.mem_append_left _ hi, z⟩
      · obtain ⟨i', hi, z⟩ := q7 b k; exact ⟨i', List.mem_append_right _ hi, z⟩
    · intro hok
      have e1 : okCells (.pair t1 t2) l = ((okCells t1 l).1 && (okCells t2 (okCells t1 l).2).1, (okCells t2 (okCells t1 l).2).2) := rfl
      have e2 : leads (.pair t1 t2) l = ((leads t1 l).1 ++ (leads t2 (leads t1 l).2).1, (leads t2 (leads t1 l).2).2) := rfl
      rw [e1] at hok
      simp only [Bool.and_eq_true] at hok
      obtain ⟨a1, a2, a3, a4⟩ := k8 hok.1
      rw [a4] at hok
      obtain ⟨b1, b2, b3, b4⟩ := q8 hok.2
      rw [e1, e2, a3, a4]
      refine ⟨⟨_, _, cs, ds, rfl, rfl, Ow.size t1 _ _ _ k3, a1, b1⟩, ?_, b3, b4⟩
      rw [List.filterMap_append]
      exact List.Sublist.append a2 b2
  | .int _, [], _, _, _, _, he => by simp [imp, RP.exec] at he
  | .bool, [], _, _, _, _, he => by simp [imp, RP.exec] at he
  | .str, [], _, _, _, _, he => by simp [imp, RP.exec] at he
  | .sl _ _, [], _, _, _, _, he => by simp [imp, RP.exec] at he
  | .box _ _, [], _, _, _, _, he => by simp [imp, RP.exec] at he

theorem imp_exec (h : Rel B Al s a w W) {α : Type} {r : α × List Key} (t : Ty) (l : List Sc) (vs : List Value) (K : t.den → List Sc → List Nat → RP α) (rs : List Key) (hl : All2 (Vs w W s.ob) l vs) (he : (imp t l K).exec s rs = some r) :
    ∃ x l2 ids rs2 cs vs2 fp fr, vs = cs ++ vs2 ∧ (K x l2 ids).exec s rs2 = some r ∧ All2 (Vs w W s.ob) l2 vs2 ∧ Ow w (plus W.I fr) t x cs fp ∧ (blk W ids).Perm (fp ++ fr) ∧ (∀ c ∈ l2, c ∈ l) ∧ (∀ i ∈ ids, (s.ob i).isSome = true) := by
  obtain ⟨x, l2, ids, rs2, cs, vs2, fp, fr, q1, q2, q3, q4, q5, q6, q7, _, _⟩ := imp_exec' h t l vs K rs hl he
  exact ⟨x, l2, ids, rs2, cs, vs2, fp, fr, q1, q2, q3, q4, q5, q6, q7⟩
end
end Go.Rf
