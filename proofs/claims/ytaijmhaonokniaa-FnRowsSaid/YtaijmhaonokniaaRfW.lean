/- Many objects at once. -/
import Derived.Test.YtaijmhaonokniaaRfV
namespace Go.Rf
set_option linter.unusedVariables false
set_option linter.unusedSimpArgs false

section
variable {P : Program} {T : Tab} {E : Env} {B : Base} {Al Al' : Nat → Prop} {s s' : St} {a : Act} {w w' : World} {W W' : Wit} {o : Oper} {f : Nat}
  {ob ob' : Nat → Option Obj} {rs rs' : List Key} {u : Upd} {I : Nat → Prop}

def at1 : List NewOb → Nat → Option NewOb
  | [], _ => none
  | o :: r, j => if j = o.id then some o else at1 r j

theorem at1_mem : ∀ {os : List NewOb} {j : Nat} {o : NewOb}, at1 os j = some o → o ∈ os ∧ o.id = j
  | [], _, _, h => by simp [at1] at h
  | x :: os, j, o, h => by
    unfold at1 at h
    split at h
    · rename_i e
      simp only [Option.some.injEq] at h
      subst h; exact ⟨by simp, e.symm⟩
    · obtain ⟨h1, h2⟩ := at1_mem h; exact ⟨List.mem_cons_of_mem _ h1, h2⟩

theorem at1_of : ∀ {os : List NewOb} {o : NewOb}, (os.map (·.id)).Nodup → o ∈ os → at1 os o.id = some o
  | x :: os, o, hn, ho => by
    rw [List.map_cons, List.nodup_cons] at hn
    unfold at1
    rcases List.mem_cons.1 ho with k | k
    · subst k; rw [if_pos rfl]
    · rw [if_neg]
      · exact at1_of hn.2 k
      · intro e; exact hn.1 (e ▸ List.mem_map.2 ⟨o, k, rfl⟩)

theorem at1_none : ∀ {os : List NewOb} {j : Nat}, at1 os j = none → ∀ o ∈ os, o.id ≠ j
  | x :: os, j, h, o, ho => by
    unfold at1 at h
    split at h
    · simp at h
    · rename_i e
      rcases List.mem_cons.1 ho with k | k
      · subst k; exact fun e' => e e'.symm
      · exact at1_none h o k

theorem updS_os : ∀ (os : List NewOb) (g : Nat → Option Obj) (j : Nat), (os.map (·.id)).Nodup → updS g (os.map NewOb.upd) j = match at1 os j with | some o => some o.ob | none => g j
  | [], _, _, _ => rfl
  | x :: os, g, j, hn => by
    rw [List.map_cons, List.nodup_cons] at hn
    show updS (upd g x.id (some x.ob)) (os.map NewOb.upd) j = _
    rw [updS_os os _ j hn.2, show at1 (x :: os) j = if j = x.id then some x else at1 os j from rfl]
    by_cases e : j = x.id
    · rw [if_pos e]
      have : at1 os j = none := by
        cases h : at1 os j with
        | none => rfl
        | some o => obtain ⟨h1, h2⟩ := at1_mem h; exact absurd (List.mem_map.2 ⟨o, h1, h2.trans e⟩) hn.1
      rw [this, e, upd_same]
    · rw [if_neg e]
      cases at1 os j with
      | none => exact upd_ne _ _ e
      | some o => rfl

theorem updS_gone' : ∀ (ids : List Nat) (g : Nat → Option Obj) (j : Nat), updS g (gone ids) j = if j ∈ ids then none else g j
  | [], g, j => by simp [gone, updS]
  | i :: ids, g, j => by
    show updS (upd g i none) (gone ids) j = _
    rw [updS_gone' ids]
    by_cases h : j ∈ ids
    · rw [if_pos h, if_pos (List.mem_cons_of_mem _ h)]
    · rw [if_neg h]
      by_cases e : j = i
      · subst e; rw [upd_same, if_pos (by simp)]
      · rw [upd_ne _ _ e, if_neg (by simp [h, e])]

theorem updS_app {α : Type} : ∀ (l m : List (Nat × α)) (g : Nat → α), updS g (l ++ m) = updS (updS g l) m
  | [], _, _ => rfl
  | (i, v) :: l, m, g => updS_app l m (upd g i v)

def putW (W : Wit) (I : Nat → Prop) (os : List NewOb) : Wit where
  I := I
  η := fun i => match at1 os i with | some o => o.g | none => W.η i
  nf := fun i => match at1 os i with | some o => o.nf | none => W.nf i
  cp := fun i => match at1 os i with | some o => o.c | none => W.cp i
  nl := fun i => match at1 os i with | some o => o.nl | none => W.nl i

theorem nodup_flat {α : Type} {g : α → List Nat} : ∀ {l : List α}, (l.flatMap g).Nodup → (∀ x ∈ l, (g x).Nodup)
  | x :: l, h, y, hy => by
    rw [List.flatMap_cons, List.nodup_append] at h
    rcases List.mem_cons.1 hy with k | k
    · subst k; exact h.1
    · exact nodup_flat h.2.1 y k

theorem nodup_flat2 {g : NewOb → List Nat} : ∀ {l : List NewOb}, (l.flatMap g).Nodup → ∀ x ∈ l, ∀ y ∈ l, x.id ≠ y.id → ∀ b ∈ g x, b ∉ g y
  | z :: l, h, x, hx, y, hy, hne, b, hb, hb' => by
    rw [List.flatMap_cons, List.nodup_append] at h
    rcases List.mem_cons.1 hx with k | k <;> rcases List.mem_cons.1 hy with q | q
    · subst k; subst q; exact hne rfl
    · subst k; exact h.2.2 b hb b (List.mem_flatMap.2 ⟨y, q, hb'⟩) rfl
    · subst q; exact h.2.2 b hb' b (List.mem_flatMap.2 ⟨x, k, hb⟩) rfl
    · exact nodup_flat2 h.2.1 x k y q hne b hb hb'

/-- Objects put in the place of others. -/
structure Inst (B : Base) (Al Al' : Nat → Prop) (s : St) (W : Wit) (w w' : World) (ids : List Nat) (os : List NewOb) (I' Fr : Nat → Prop) : Prop where
  sub : ∀ i, Al i → Al' i
  isS : ∀ i ∈ ids, (s.ob i).isSome = true
  ndO : (os.map (·.id)).Nodup
  new : ∀ o ∈ os, Al' o.id ∧ (¬ Al o.id ∨ (Again W s.ob o ∧ o.id ∈ ids))
  I1 : ∀ b, W.I b → I' b
  I2 : ∀ b, I' b → W.I b ∨ b ∈ blk W ids ∨ w.heap.size ≤ b
  I3 : ∀ b, I' b → b < w'.heap.size
  I4 : ∀ b, I' b → b ∉ os.flatMap NewOb.fp
  ndB : (os.flatMap NewOb.fp).Nodup
  frD : ∀ b, Fr b → ∀ j, (s.ob j).isSome = true → b ∉ fpOf W j
  frB : ∀ b, Fr b → B.fpT b ∨ B.fpN b ∨ B.w0.heap.size ≤ b
  fpB : ∀ b ∈ os.flatMap NewOb.fp, (b ∈ blk W ids ∨ w.heap.size ≤ b) ∨ Fr b
  tpB : ∀ b ∈ os.flatMap NewOb.tp, ((∃ i ∈ ids, W.nl i = false ∧ b = W.η i) ∨ w.heap.size ≤ b) ∨ (B.fpT b ∨ B.w0.heap.size ≤ b)
  heap : ∀ b, b < w.heap.size → (∀ i ∈ ids, W.nl i = false → b ≠ W.η i) → w'.heap[b]? = w.heap[b]?
  J : ∀ i ∈ ids, ∀ b ∈ W.nf i, I' b ∨ ∃ o ∈ os, b ∈ o.nf
  ok : ∀ o ∈ os, NOk w' I' os o
  size : w.heap.size ≤ w'.heap.size
  os' : w'.os = w.os
  tape : w'.tape = w.tape
  output : w'.output = w.output

theorem Rel.install (h : Rel B Al s a w W) {ids : List Nat} {os : List NewOb} {I' Fr : Nat → Prop} (i : Inst B Al Al' s W w w' ids os I' Fr) {ob' : Nat → Option Obj}
    (hob : ∀ j, ob' j = match at1 os j with | some o => some o.ob | none => if j ∈ ids then none else s.ob j) :
    (∀ c v, VN w' I' os c v → Vs w' (putW W I' os) ob' c v ∧ ∀ j, menS c j → Al' j) ∧
    ∀ d r v, dstOk B d → AVr w' (putW W I' os) ob' r v → (∀ j, menA r j → Al' j) → Rel B Al' ⟨updS s.sl (dl d r), ob'⟩ (a.put d v) w' (putW W I' os) := by
  have hat : ∀ o ∈ os, at1 os o.id = some o := fun o ho => at1_of i.ndO ho
  have hobO : ∀ o ∈ os, ob' o.id = some o.ob := fun o ho => by rw [hob, hat o ho]
  have hη : ∀ o ∈ os, (putW W I' os).η o.id = o.g := fun o ho => by show (match at1 os o.id with | some o => o.g | none => _) = _; rw [hat o ho]
  have hnf : ∀ o ∈ os, (putW W I' os).nf o.id = o.nf := fun o ho => by show (match at1 os o.id with | some o => o.nf | none => _) = _; rw [hat o ho]
  have hcp : ∀ o ∈ os, (putW W I' os).cp o.id = o.c := fun o ho => by show (match at1 os o.id with | some o => o.c | none => _) = _; rw [hat o ho]
  have hnl : ∀ o ∈ os, (putW W I' os).nl o.id = o.nl := fun o ho => by show (match at1 os o.id with | some o => o.nl | none => _) = _; rw [hat o ho]
  have hfp : ∀ o ∈ os, fpOf (putW W I' os) o.id = o.fp := fun o ho => by unfold fpOf NewOb.fp; rw [hη o ho, hnf o ho, hnl o ho]
  have k0 : ∀ j, at1 os j = none → (putW W I' os).η j = W.η j ∧ (putW W I' os).nf j = W.nf j ∧ (putW W I' os).cp j = W.cp j ∧ (putW W I' os).nl j = W.nl j := fun j hj => by
    refine ⟨?_, ?_, ?_, ?_⟩
    · show (match at1 os j with | some o => o.g | none => W.η j) = _; rw [hj]
    · show (match at1 os j with | some o => o.nf | none => W.nf j) = _; rw [hj]
    · show (match at1 os j with | some o => o.c | none => W.cp j) = _; rw [hj]
    · show (match at1 os j with | some o => o.nl | none => W.nl j) = _; rw [hj]
  -- which numbers turn
  have cas : ∀ j, (∃ o ∈ os, o.id = j) ∨ at1 os j = none := fun j => by
    cases hj : at1 os j with
    | none => exact .inr rfl
    | some o => exact .inl ⟨o, at1_mem hj⟩
  have obN : ∀ j x, at1 os j = none → ob' j = some x → j ∉ ids ∧ s.ob j = some x := fun j x hj hx => by
    rw [hob, hj] at hx
    simp only at hx
    split at hx
    · simp at hx
    · rename_i k; exact ⟨k, hx⟩
  have top : ∀ b, b < w.heap.size → W.J s.ob b → ∀ i ∈ ids, W.nl i = false → b ≠ W.η i := fun b _ hb j hj hn => h.notJ (i.isS j hj) hn hb
  have hJ : ∀ b, W.J s.ob b → w'.heap[b]? = w.heap[b]? := fun b hb => i.heap b (h.Jlt hb) (top b (h.Jlt hb) hb)
  have turn : Turn Al W (putW W I' os) s.ob ob' w w' :=
    { I := i.I1
      J := fun b hb => by
        rcases hb with hb | ⟨j, hj, hb⟩
        · exact .inl (i.I1 b hb)
        · by_cases hji : j ∈ ids
          · rcases i.J j hji b hb with k | ⟨o, ho, k⟩
            · exact .inl k
            · exact .inr ⟨o.id, by rw [hobO o ho]; rfl, by rw [hnf o ho]; exact k⟩
          · rcases cas j with ⟨o, ho, e⟩ | hn
            · rcases (i.new o ho).2 with k | ⟨_, k⟩
              · exact absurd (h.al j hj) (e ▸ k)
              · exact absurd (e ▸ k) hji
            · exact .inr ⟨j, by rw [hob, hn]; simp only [if_neg hji]; exact hj, by rw [(k0 j hn).2.1]; exact hb⟩
      hJ := hJ
      rows := fun j hj t xs' hx => by
        rcases cas j with ⟨o, ho, e⟩ | hn
        · subst e
          rcases (i.new o ho).2 with k | ⟨k, _⟩
          · exact absurd hj k
          · rw [hobO o ho] at hx
            simp only [Option.some.injEq] at hx
            rcases k with ⟨t1, xs1, q1, t0, xs0, q2, q3, q4, q5, q6, q7⟩ | ⟨l, l0, q1, _⟩
            · rw [q1] at hx
              simp only [Obj.row.injEq] at hx
              obtain ⟨rfl, hx⟩ := hx
              have hx := eq_of_heq hx
              subst hx
              exact ⟨t0, xs0, q2, q3, q4, by rw [hη o ho]; exact q5, by rw [hcp o ho]; exact q6, by rw [hnl o ho]; exact q7⟩
            · rw [q1] at hx; simp at hx
        · obtain ⟨k1, k2⟩ := obN j _ hn hx
          exact ⟨t, xs', k2, rfl, rfl, (k0 j hn).1, (k0 j hn).2.2.1, (k0 j hn).2.2.2⟩
      vars := fun j hj l' hx => by
        rcases cas j with ⟨o, ho, e⟩ | hn
        · subst e
          rcases (i.new o ho).2 with k | ⟨k, _⟩
          · exact absurd hj k
          · rw [hobO o ho] at hx
            simp only [Option.some.injEq] at hx
            rcases k with ⟨t1, xs1, q1, _⟩ | ⟨l, l0, q1, q2, q3⟩
            · rw [q1] at hx; simp at hx
            · exact ⟨l0, q2, by rw [hη o ho]; exact q3⟩
        · obtain ⟨k1, k2⟩ := obN j _ hn hx
          exact ⟨l', k2, (k0 j hn).1⟩ }
  have hvn : ∀ c v, VN w' I' os c v → Vs w' (putW W I' os) ob' c v ∧ ∀ j, menS c j → Al' j := fun c v hc => by
    have h1 := hc.one
    cases c with
    | int k n => exact ⟨⟨fun _ => h1, hc⟩, fun _ k => k.elim⟩
    | bool b => exact ⟨⟨fun _ => h1, hc⟩, fun _ k => k.elim⟩
    | str s => exact ⟨⟨fun _ => h1, hc⟩, fun _ k => k.elim⟩
    | rd sf t xs => cases sf with
      | false => exact ⟨⟨fun _ => h1, hc⟩, fun _ k => k.elim⟩
      | true => exact hc.elim
    | bx sf g t x => cases sf with
      | false => exact ⟨⟨fun _ => h1, hc⟩, fun _ k => k.elim⟩
      | true => exact hc.elim
    | own id =>
      obtain ⟨o, ho, e, t, xs, q1, q2⟩ := hc
      subst e
      refine ⟨⟨fun _ => h1, fun t2 xs2 h2 => ?_⟩, fun j hj => by have : o.id = j := hj; subst this; exact (i.new o ho).1⟩
      rw [hobO o ho, q1] at h2
      simp only [Option.some.injEq, Obj.row.injEq] at h2
      obtain ⟨rfl, h2⟩ := h2
      have h2 := eq_of_heq h2
      subst h2
      unfold slv
      rw [hη o ho, hcp o ho, hnl o ho]; exact q2
    | pv id off =>
      obtain ⟨o, ho, e, ⟨l, q1⟩, q2⟩ := hc
      subst e
      exact ⟨⟨fun _ => h1, o.g, q2, fun _ _ => (hη o ho).symm⟩, fun j hj => by have : o.id = j := hj; subst this; exact (i.new o ho).1⟩
    | _ => exact hc.elim
  have inC : ∀ j, (ob' j).isSome = true → (j ∈ ids ∨ ∃ o ∈ os, o.id = j) → ∃ o ∈ os, o.id = j := fun j hx hj => by
    rcases hj with hj | hj
    · rcases cas j with k | hn
      · exact k
      · obtain ⟨x, hx⟩ := Option.isSome_iff_exists.1 hx
        exact absurd hj (obN j x hn hx).1
    · exact hj
  have ntC : ∀ j, ¬ (j ∈ ids ∨ ∃ o ∈ os, o.id = j) → j ∉ ids ∧ at1 os j = none := fun j hj => ⟨fun k => hj (.inl k), (cas j).resolve_left fun k => hj (.inr k)⟩
  have blkD : ∀ j, j ∉ ids → (s.ob j).isSome = true → ∀ b ∈ fpOf W j, b ∉ blk W ids := fun j hj hS b hb k => by
    obtain ⟨q, hq, hbq⟩ := mem_blk.1 k
    exact h.dis q j (fun e => hj (e ▸ hq)) (i.isS q hq) hS b hbq hb
  have mf : ∀ {o : NewOb} {b : Nat}, o ∈ os → b ∈ o.fp → b ∈ os.flatMap NewOb.fp := fun ho hb => List.mem_flatMap.2 ⟨_, ho, hb⟩
  have blkT : ∀ b, b ∈ blk W ids ∨ w.heap.size ≤ b → B.fpT b ∨ B.fpN b ∨ B.w0.heap.size ≤ b := fun b hb => by
    rcases hb with hb | hb
    · obtain ⟨q, hq, hbq⟩ := mem_blk.1 hb
      obtain ⟨hn, k | k⟩ := fpOf_cases hbq
      · rw [k]; exact (h.ownT q (i.isS q hq) hn).imp id .inr
      · exact h.ownN q (i.isS q hq) b k
    · exact .inr (.inr (Nat.le_trans h.grown hb))
  refine ⟨hvn, fun d r v hd hv hm => h.turn (C := fun j => j ∈ ids ∨ ∃ o ∈ os, o.id = j)
    { turn := turn
      sub := i.sub
      kept := fun j hj => by
        obtain ⟨k1, k2⟩ := ntC j hj
        exact ⟨by rw [hob, k2]; simp only [if_neg k1], k0 j k2⟩
      keptH := fun j hj hS b hb => by
        obtain ⟨k1, k2⟩ := ntC j hj
        refine ⟨i.heap b (h.lt hS b hb) fun q hq hn e => ?_, fun k => ?_⟩
        · exact h.dis q j (fun e => k1 (e ▸ hq)) (i.isS q hq) hS b (e ▸ η_fp hn) hb
        · rcases i.I2 b k with k | k | k
          · exact h.imm j hS b hb k
          · exact blkD j k1 hS b hb k
          · have := h.lt hS b hb; omega
      newO := fun j hj x hx => by
        obtain ⟨o, ho, e⟩ := inC j (by rw [hx]; rfl) hj
        subst e
        rw [hobO o ho] at hx
        simp only [Option.some.injEq] at hx
        subst hx
        have hk := i.ok o ho
        unfold NOk at hk
        refine ⟨?_, (i.new o ho).1, fun l hl j hj => ?_⟩
        · unfold ObjOk
          split at hk
          · rename_i t xs e
            rw [e]
            show RowOk w' (putW W I' os) o.id t xs
            unfold RowOk
            rw [hη o ho, hcp o ho, hnl o ho, hnf o ho]
            exact hk
          · rename_i l e
            rw [e]
            obtain ⟨q1, q2, vs, el, q3, q4⟩ := hk
            exact ⟨(hnl o ho).trans q1, (hnf o ho).trans q2, vs, el, by rw [hη o ho]; exact q3, q4.imp fun c _ v k => (hvn c v k).1⟩
        · rw [hl] at hk
          obtain ⟨q1, q2, vs, el, q3, q4⟩ := hk
          obtain ⟨c, hc, hcj⟩ := hj
          have : ∀ {l : List Sc} {vs : List Value}, All2 (VN w' I' os) l vs → c ∈ l → ∃ v, VN w' I' os c v := by
            intro l
            induction l with
            | nil => intro vs _ hc; simp at hc
            | cons x l ih =>
              intro vs ⟨v, vs', _, p, q⟩ hc
              rcases List.mem_cons.1 hc with k | k
              · subst k; exact ⟨v, p⟩
              · exact ih q k
          obtain ⟨v, hv⟩ := this q4 hc
          exact (hvn c v hv).2 j hcj
      newN := fun j hj hS => by
        obtain ⟨o, ho, e⟩ := inC j hS hj
        subst e
        rw [hfp o ho]
        exact nodup_flat i.ndB o ho
      newI := fun j hj hS b hb k => by
        obtain ⟨o, ho, e⟩ := inC j hS hj
        subst e
        rw [hfp o ho] at hb
        exact i.I4 b k (mf ho hb)
      newD := fun j q hj hS hq hSq b hb hb' => by
        obtain ⟨o, ho, e⟩ := inC j hS hj
        subst e
        rw [hfp o ho] at hb
        rcases i.fpB b (mf ho hb) with (k | k) | k
        · exact blkD q (ntC q hq).1 hSq b hb' k
        · have := h.lt hSq b hb'; omega
        · exact i.frD b k q hSq hb'
      newD2 := fun j q hj hq hne hS hS' b hb hb' => by
        obtain ⟨o, ho, e⟩ := inC j hS hj
        obtain ⟨o2, ho2, e2⟩ := inC q hS' hq
        subst e; subst e2
        rw [hfp o ho] at hb
        rw [hfp o2 ho2] at hb'
        exact nodup_flat2 i.ndB o ho o2 ho2 hne b hb hb'
      newT := fun j hj hS hn => by
        obtain ⟨o, ho, e⟩ := inC j hS hj
        subst e
        rw [hη o ho]
        rw [hnl o ho] at hn
        rcases i.tpB o.g (List.mem_flatMap.2 ⟨o, ho, by simp [NewOb.tp, hn]⟩) with (⟨q, hq, hn2, e⟩ | k) | k
        · rw [e]; exact h.ownT q (i.isS q hq) hn2
        · exact .inr (Nat.le_trans h.grown k)
        · exact k
      newF := fun j hj hS b hb => by
        obtain ⟨o, ho, e⟩ := inC j hS hj
        subst e
        rw [hnf o ho] at hb
        have hk := i.ok o ho
        have hbf : b ∈ o.fp := by
          cases hn : o.nl with
          | false => simp [NewOb.fp, hn, hb]
          | true =>
            unfold NOk at hk
            split at hk
            · rcases hk with ⟨_, _, e⟩ | ⟨e, _⟩
              · rw [e] at hb; simp at hb
              · rw [e] at hn; simp at hn
            · rw [hk.1] at hn; simp at hn
        exact (i.fpB b (mf ho hbf)).elim (blkT b) (i.frB b)
      bnd := i.I3
      os := i.os'.trans h.os
      tape := i.tape.trans h.tape
      output := i.output.trans h.output
      grown := Nat.le_trans h.grown i.size
      old := fun b hb hn => by
        rw [i.heap b (Nat.lt_of_lt_of_le hb h.grown) fun q hq hn2 e => ?_]
        · exact h.old b hb hn
        · rcases h.ownT q (i.isS q hq) hn2 with k | k
          · exact hn (e ▸ k)
          · omega
      from0 := fun b hb => by
        rcases i.I2 b hb with k | k | k
        · exact h.from0 b k
        · exact .inr (blkT b (.inl k))
        · exact .inr (blkT b (.inr k)) } hd hv hm⟩
end
end Go.Rf
