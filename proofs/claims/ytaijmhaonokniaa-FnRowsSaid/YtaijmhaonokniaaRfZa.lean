/- Data read off a state; a state made out of data. -/
import Derived.Test.YtaijmhaonokniaaRfZ
namespace Go.Rf
set_option linter.unusedVariables false
set_option linter.unusedSimpArgs false

section
variable {P : Program} {T : Tab} {E : Env} {B : Base} {Al Al' : Nat → Prop} {s s' : St} {a : Act} {w w' : World} {W W' : Wit} {f : Nat} {ops : Array Oper}
  {u : Upd} {Q : Exit → Act → World → Prop} {I : Nat → Prop} {rs : List Key}

def ShOk (w : World) (S : Nat → Prop) (a : Act) : (h : Sh) → Tys (shTys h) → List Nat → List Nat → Prop
  | [], _, fp, tp => fp = [] ∧ tp = []
  | (i, .val t) :: h, x, fp, tp => ∃ f1 f2 t1 t2, fp = f1 ++ f2 ∧ tp = t1 ++ t2 ∧ ArgOk w S (.val t) (headTy t (shTys h) x) (a.tmps.getD i undef) f1 t1 ∧ ShOk w S a h (tailTy t (shTys h) x) f2 t2
  | (i, .ptr t) :: h, x, fp, tp => ∃ f1 f2 t1 t2, fp = f1 ++ f2 ∧ tp = t1 ++ t2 ∧ ArgOk w S (.ptr t) (headTy t (shTys h) x) (a.tmps.getD i undef) f1 t1 ∧ ShOk w S a h (tailTy t (shTys h) x) f2 t2
  | (i, .dup j) :: h, x, fp, tp => a.tmps.getD i undef = a.tmps.getD j undef ∧ ShOk w S a h x fp tp

theorem ShOk.mono {S S' : Nat → Prop} (hS : ∀ b, S b → S' b) : ∀ {h : Sh} {x : Tys (shTys h)} {fp tp : List Nat}, ShOk w S a h x fp tp → ShOk w S' a h x fp tp
  | [], _, _, _, h => h
  | (_, .val _) :: _, _, _, _, ⟨f1, f2, t1, t2, e1, e2, h1, h2⟩ => ⟨f1, f2, t1, t2, e1, e2, h1.mono hS, h2.mono hS⟩
  | (_, .ptr _) :: _, _, _, _, ⟨f1, f2, t1, t2, e1, e2, h1, h2⟩ => ⟨f1, f2, t1, t2, e1, e2, h1.mono hS, h2.mono hS⟩
  | (_, .dup _) :: h, _, _, _, ⟨e, h2⟩ => ⟨e, ShOk.mono (h := h) hS h2⟩

/-- One value taken. -/
theorem take_val (h : Rel B Al s a w W) {α : Type} {r : α × List Key} {v : AV} {u : Value} (hp : AVr w W s.ob v u) (t : Ty) (K2 : t.den → List Nat → RP α) (rs : List Key) (hs : shp t v = true)
    (he : (imp t (cells v) fun x rest i => match rest with | [] => K2 x i | _ => .fail).exec s rs = some r) :
    ∃ x i rs2 fp fr, (K2 x i).exec s rs2 = some r ∧ Form t u ∧ Ow w (plus W.I fr) t x u.cells.toList fp ∧ (blk W i).Perm (fp ++ fr) ∧ (∀ j ∈ i, (s.ob j).isSome = true) ∧ (∀ b ∈ tops t u.cells.toList, ∃ j ∈ i, W.nl j = false ∧ b = W.η j) := by
  obtain ⟨hF, hl⟩ := hp.form hs (imp_def he)
  obtain ⟨x, l2, i, rs2, cs, vs2, fp, fr, q1, q2, q3, q4, q5, _, q7, q8, _⟩ := imp_exec' h t _ _ _ _ hl he
  split at q2 <;> try (simp [RP.exec] at q2; done)
  have q3 : vs2 = [] := q3
  subst q3
  rw [List.append_nil] at q1
  rw [q1]
  exact ⟨x, i, rs2, fp, fr, q2, hF, q4, q5, q7, q8⟩

theorem take_var (h : Rel B Al s a w W) {α : Type} {r : α × List Key} {id : Nat} {cs : List Sc} (ho : s.ob id = some (.var cs)) (t : Ty) (K2 : t.den → List Nat → RP α) (rs : List Key)
    (he : (imp t cs fun x rest i => match rest with | [] => K2 x i | _ => .fail).exec s rs = some r) :
    ∃ x i rs2 fp fr vs el, (K2 x i).exec s rs2 = some r ∧ w.heap[W.η id]? = some (.cells vs.toArray el (0, 0)) ∧ Ow w (plus W.I fr) t x vs fp ∧ (blk W (id :: i)).Perm ((W.η id :: fp) ++ fr) ∧ (∀ j ∈ id :: i, (s.ob j).isSome = true) ∧
      (∀ b ∈ W.η id :: tops t vs, ∃ j ∈ id :: i, W.nl j = false ∧ b = W.η j) := by
  obtain ⟨hnl, hnf, vs, el, hh, hl⟩ := h.var id cs ho
  obtain ⟨x, l2, i, rs2, cs0, vs2, fp, fr, q1, q2, q3, q4, q5, _, q7, q8, _⟩ := imp_exec' h t _ _ _ _ hl he
  split at q2 <;> try (simp [RP.exec] at q2; done)
  have q3 : vs2 = [] := q3
  subst q3
  rw [List.append_nil] at q1
  subst q1
  refine ⟨x, i, rs2, fp, fr, vs, el, q2, hh, q4, ?_, ?_, ?_⟩
  · show (fpOf W id ++ blk W i).Perm _
    simp only [fpOf, hnl, hnf, cond_false]
    exact List.Perm.cons _ q5
  · intro j hj
    rcases List.mem_cons.1 hj with k | k
    · subst k; rw [ho]; rfl
    · exact q7 j k
  · intro b hb
    rcases List.mem_cons.1 hb with k | k
    · exact ⟨id, by simp, hnl, k⟩
    · obtain ⟨j, hj, z⟩ := q8 b k; exact ⟨j, List.mem_cons_of_mem _ hj, z⟩

theorem plusL {fr fs : List Nat} (b : Nat) (h : plus I fr b) : plus I (fr ++ fs) b := h.imp id (List.mem_append_left _)
theorem plusR {fr fs : List Nat} (b : Nat) (h : plus I fs b) : plus I (fr ++ fs) b := h.imp id (List.mem_append_right _)

theorem ext_exec (h : Rel B Al s a w W) {α : Type} {r : α × List Key} : ∀ (sh : Sh) (K : Tys (shTys sh) → List Nat → RP α) (rs : List Key), (ext sh K).exec s rs = some r →
    ∃ x ids rs2 fp tp fr, (K x ids).exec s rs2 = some r ∧ ShOk w (plus W.I fr) a sh x fp tp ∧ (blk W ids).Perm (fp ++ fr) ∧ (∀ i ∈ ids, (s.ob i).isSome = true) ∧ (∀ b ∈ tp, ∃ i ∈ ids, W.nl i = false ∧ b = W.η i)
  | [], K, rs, he => ⟨(), [], rs, [], [], [], he, ⟨rfl, rfl⟩, List.Perm.refl _, by simp, by simp⟩
  | (i, .val t) :: sh, K, rs, he => by
    simp only [ext, RP.exec] at he
    obtain ⟨hs, he⟩ := exec_bif' he
    obtain ⟨x, j, rs2, fp, fr, k1, k2, k3, k4, k5, k6⟩ := take_val h (h.slots i) t _ _ (by simpa using hs) he
    obtain ⟨xs, ids, rs3, fq, tq, fs, m1, m2, m3, m4, m5⟩ := ext_exec h sh _ _ k1
    refine ⟨_, _, rs3, fp ++ fq, tops t (a.tmps.getD i undef).cells.toList ++ tq, fr ++ fs, m1, ⟨fp, fq, _, tq, rfl, rfl, ?_, ?_⟩, by rw [blk_append]; exact perm_two k4 m3, ?_, ?_⟩
    · rw [head_cons]; exact ⟨k2, Ow.mono (w := w) plusL (fun _ _ => rfl) t _ _ _ (fun _ _ => rfl) k3, rfl⟩
    · rw [tail_cons]; exact m2.mono plusR
    · intro k hk
      rcases List.mem_append.1 hk with hk | hk
      · exact k5 k hk
      · exact m4 k hk
    · intro b hb
      rcases List.mem_append.1 hb with hb | hb
      · obtain ⟨j', hj, z⟩ := k6 b hb; exact ⟨j', List.mem_append_left _ hj, z⟩
      · obtain ⟨j', hj, z⟩ := m5 b hb; exact ⟨j', List.mem_append_right _ hj, z⟩
  | (i, .ptr t) :: sh, K, rs, he => by
    simp only [ext, RP.exec] at he
    split at he <;> try (simp [RP.exec] at he; done)
    rename_i id off hsl
    obtain ⟨hoff, he5⟩ := exec_bif he
    clear he
    have hoff := (nEq_iff _ _).1 hoff
    subst hoff
    simp only [RP.exec] at he5
    split at he5 <;> try (simp [RP.exec] at he5; done)
    rename_i cs ho
    have hv := h.slots i
    rw [hsl] at hv
    obtain ⟨b, e, k⟩ := hv.2
    have hb := k cs ho
    subst hb
    obtain ⟨x, j, rs2, fp, fr, vs, el, k1, k2, k3, k4, k5, k6⟩ := take_var h ho t _ _ he5
    obtain ⟨xs, ids, rs3, fq, tq, fs, m1, m2, m3, m4, m5⟩ := ext_exec h sh _ _ k1
    refine ⟨_, _, rs3, (W.η id :: fp) ++ fq, (W.η id :: tops t vs) ++ tq, fr ++ fs, m1, ⟨_, fq, _, tq, rfl, rfl, ?_, ?_⟩, ?_, ?_, ?_⟩
    · rw [head_cons]; exact ⟨W.η id, vs, el, fp, e, rfl, rfl, k2, Ow.mono (w := w) plusL (fun _ _ => rfl) t _ _ _ (fun _ _ => rfl) k3⟩
    · rw [tail_cons]; exact m2.mono plusR
    · rw [← List.cons_append, blk_append]; exact perm_two k4 m3
    · intro k hk
      rw [← List.cons_append] at hk
      rcases List.mem_append.1 hk with hk | hk
      · exact k5 k hk
      · exact m4 k hk
    · intro b hb
      rw [← List.cons_append]
      rcases List.mem_append.1 hb with hb | hb
      · obtain ⟨j', hj, z⟩ := k6 b hb; exact ⟨j', List.mem_append_left _ hj, z⟩
      · obtain ⟨j', hj, z⟩ := m5 b hb; exact ⟨j', List.mem_append_right _ hj, z⟩
  | (i, .dup j) :: sh, K, rs, he => by
    simp only [ext, RP.exec] at he
    obtain ⟨hs, he⟩ := exec_bif he
    have key : a.tmps.getD i undef = a.tmps.getD j undef ∧ ∃ rs2, (ext sh K).exec s rs2 = some r := by
      have h1 := h.slots i
      have h2 := h.slots j
      split at he <;> try (simp [RP.exec] at he; done)
      · rename_i id hi
        rw [hi] at hs h1
        simp only [RP.exec] at he
        split at he <;> try (simp [RP.exec] at he; done)
        rename_i t xs ho
        cases hj : s.sl j with
        | one c =>
          rw [hj] at hs h2
          cases c <;> try (simp [sameAV] at hs; done)
          have := (nEq_iff _ _).1 hs
          subst this
          exact ⟨(h1.2 t xs ho).trans (h2.2 t xs ho).symm, _, he⟩
        | agg l => rw [hj] at hs; simp [sameAV] at hs
        | tup l => rw [hj] at hs; simp [sameAV] at hs
      · rename_i id off hi
        rw [hi] at hs h1
        simp only [RP.exec] at he
        split at he <;> try (simp [RP.exec] at he; done)
        rename_i l ho
        cases hj : s.sl j with
        | one c =>
          rw [hj] at hs h2
          cases c <;> try (simp [sameAV] at hs; done)
          simp only [sameAV, Bool.and_eq_true] at hs
          have e1 := (nEq_iff _ _).1 hs.1
          have e2 := (nEq_iff _ _).1 hs.2
          subst e1; subst e2
          obtain ⟨b, q1, q2⟩ := h1.2
          obtain ⟨b', q3, q4⟩ := h2.2
          exact ⟨by rw [q1, q3, q2 l ho, q4 l ho], _, he⟩
        | agg l => rw [hj] at hs; simp [sameAV] at hs
        | tup l => rw [hj] at hs; simp [sameAV] at hs
    obtain ⟨e, rs2, he⟩ := key
    obtain ⟨xs, ids, rs3, fq, tq, fs, m1, m2, m3, m4, m5⟩ := ext_exec h sh _ _ he
    exact ⟨_, _, rs3, fq, tq, fs, m1, ⟨e, m2⟩, m3, m4, m5⟩

/-- All is forgotten but the memory. -/
theorem Rel.bare (h : Rel B Al s a w W) {fr ids : List Nat} (hfr : ∀ b ∈ fr, ∃ i ∈ ids, b ∈ fpOf W i) (hids : ∀ i ∈ ids, (s.ob i).isSome = true) : Rel B (fun i => i < 0) St.empty a w { W with I := plus W.I fr } :=
  { slots := fun i => ⟨fun k => by simp [St.empty, isUndef] at k, trivial⟩
    mS := fun i id k => k.elim
    mO := fun id l hx => by simp [St.empty] at hx
    al := fun id hx => by simp [St.empty] at hx
    row := fun id t xs hx => by simp [St.empty] at hx
    var := fun id l hx => by simp [St.empty] at hx
    nod := fun i hx => by simp [St.empty] at hx
    dis := fun i j _ hx => by simp [St.empty] at hx
    imm := fun i hx => by simp [St.empty] at hx
    bnd := fun b hb => by
      rcases hb with k | k
      · exact h.bnd b k
      · obtain ⟨i, hi, z⟩ := hfr b k; exact h.lt (hids i hi) b z
    def0 := h.def0
    size := h.size
    pins := h.pins
    os := h.os
    tape := h.tape
    output := h.output
    grown := h.grown
    old := h.old
    ownT := fun i hx => by simp [St.empty] at hx
    ownN := fun i hx => by simp [St.empty] at hx
    from0 := fun b hb => by
      rcases hb with k | k
      · exact h.from0 b k
      · obtain ⟨i, hi, z⟩ := hfr b k
        obtain ⟨hn, q | q⟩ := fpOf_cases z
        · rw [q]; exact .inr ((h.ownT i (hids i hi) hn).imp id .inr)
        · exact .inr (h.ownN i (hids i hi) b q) }

theorem Rel.slot (h : Rel B Al s a w W) {i : Nat} {r : AV} (hv : AVr w W s.ob r (a.tmps.getD i undef)) (hm : ∀ j, menA r j → Al j) : Rel B Al ⟨upd s.sl i r, s.ob⟩ a w W :=
  { h with
    slots := fun k => by
      by_cases e : k = i
      · subst e; show AVr w W s.ob (upd s.sl k r k) _; rw [upd_same]; exact hv
      · show AVr w W s.ob (upd s.sl i r k) _; rw [upd_ne _ _ e]; exact h.slots k
    mS := fun k id => by
      show menA (upd s.sl i r k) id → _
      by_cases e : k = i
      · subst e; rw [upd_same]; exact hm id
      · rw [upd_ne _ _ e]; exact h.mS k id }

/-- New objects out of blocks that are nobody's. -/
theorem Rel.adopt (h : Rel B (fun i => i < f) s a w W) {os : List NewOb} (hids : os.map (·.id) = List.range' f os.length) {fp : List Nat} (hfp : fp = os.flatMap NewOb.fp) (hnd : fp.Nodup) (hI : ∀ b ∈ fp, ¬ W.I b)
    (hD : ∀ b ∈ fp, ∀ j, (s.ob j).isSome = true → b ∉ fpOf W j) (hB : ∀ b ∈ fp, B.fpT b ∨ B.fpN b ∨ B.w0.heap.size ≤ b) (htp : ∀ b ∈ os.flatMap NewOb.tp, B.fpT b ∨ B.w0.heap.size ≤ b) (hok : ∀ o ∈ os, NOk w W.I os o)
    {i : Nat} {p : Bool × List Sc} (hp : RVN w W.I os p (a.tmps.getD i undef)) :
    ∃ W', Rel B (fun i => i < f + os.length) (s.app [(i, mkRes [p])] (os.map NewOb.upd)) a w W' ∧ W'.I = W.I ∧ ∀ j, ((s.app [(i, mkRes [p])] (os.map NewOb.upd)).ob j).isSome = true → ∀ b ∈ fpOf W' j, b ∈ fp ∨ ((s.ob j).isSome = true ∧ b ∈ fpOf W j) := by
  have hndO : (os.map (·.id)).Nodup := by rw [hids]; exact List.nodup_range'
  have inst : Inst B (fun i => i < f) (fun i => i < f + os.length) s W w w [] os W.I (fun b => b ∈ fp) :=
    { sub := fun i hi => by omega
      isS := by simp
      ndO := hndO
      new := fun o ho => ⟨(range_mem hids ho).2, .inl (by have := (range_mem hids ho).1; omega)⟩
      I1 := fun _ h => h
      I2 := fun _ h => .inl h
      I3 := h.bnd
      I4 := fun b hb k => hI b (hfp ▸ k) hb
      ndB := hfp ▸ hnd
      frD := hD
      frB := hB
      fpB := fun b hb => .inr (hfp ▸ hb)
      tpB := fun b hb => .inr (htp b hb)
      heap := fun _ _ _ => rfl
      J := by simp
      ok := hok
      size := Nat.le_refl _
      os' := rfl
      tape := rfl
      output := rfl }
  obtain ⟨hvn, hR⟩ := h.install inst (ob' := updS s.ob (os.map NewOb.upd)) (fun j => by rw [updS_os os s.ob j hndO]; cases at1 os j <;> simp)
  have h1 := hR none (.one .undef) undef (fun _ k => by simp at k) ⟨fun k => by simp [isUndef] at k, trivial⟩ (fun _ k => k.elim)
  have hp1 : All2 (RVN w W.I os) [p] [a.tmps.getD i undef] := ⟨_, _, rfl, hp, rfl⟩
  obtain ⟨z1, z2⟩ := mkRes_ok hp1 hvn
  have h2 := Rel.slot (s := ⟨s.sl, updS s.ob (os.map NewOb.upd)⟩) h1 (i := i) z1 z2
  refine ⟨_, h2, rfl, fun j hj b hb => ?_⟩
  have hj : (updS s.ob (os.map NewOb.upd) j).isSome = true := hj
  rw [updS_os os s.ob j hndO] at hj
  unfold fpOf putW at hb
  simp only at hb
  cases hat : at1 os j with
  | some o =>
    rw [hat] at hb
    left
    rw [hfp]
    exact List.mem_flatMap.2 ⟨o, (at1_mem hat).1, hb⟩
  | none =>
    rw [hat] at hb hj
    exact .inr ⟨hj, hb⟩
end
end Go.Rf
