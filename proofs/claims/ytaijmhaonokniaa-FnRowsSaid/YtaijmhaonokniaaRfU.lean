/- A call's arguments. -/
import Derived.Test.YtaijmhaonokniaaRfS
namespace Go.Rf
set_option linter.unusedVariables false
set_option linter.unusedSimpArgs false

section
variable {P : Program} {T : Tab} {E : Env} {B : Base} {Al Al' : Nat → Prop} {s s' : St} {a : Act} {w w' : World} {W W' : Wit} {o : Oper} {f : Nat}
  {ob ob' : Nat → Option Obj} {rs rs' : List Key} {u : Upd}

def SS (W : Wit) (ob : Nat → Option Obj) (fr sn : List Nat) (sf : Bool) (b : Nat) : Prop := b ∈ fr ∨ readBy W ob sn sf b

def pids : List Plc → List Nat
  | [] => []
  | .rows l :: r => l.filterMap id ++ pids r
  | .var i :: r => i :: pids r

def PlOk (W : Wit) (ob : Nat → Option Obj) : List PK → List Value → List Plc → Prop
  | [], us, pl => us = [] ∧ pl = []
  | .val _ :: ps, us, pl => ∃ v us', us = v :: us' ∧ PlOk W ob ps us' pl
  | .io t :: ps, us, pl => ∃ v us' l pl', us = v :: us' ∧ pl = .rows l :: pl' ∧ LdOk W ob t l v.cells.toList ∧ PlOk W ob ps us' pl'
  | .ptr _ :: ps, us, pl => ∃ v us' id l pl', us = v :: us' ∧ pl = .var id :: pl' ∧ ob id = some (.var l) ∧ W.nl id = false ∧ v = pt (W.η id) 0 ∧ PlOk W ob ps us' pl'

theorem ArgOk.mono {S S' : Nat → Prop} (hS : ∀ b, S b → S' b) {p : PK} {x : p.ty.den} {v : Value} {fp tp : List Nat} (h : ArgOk w S p x v fp tp) : ArgOk w S' p x v fp tp := by
  cases p with
  | val t => obtain ⟨h1, h2, h3⟩ := h; exact ⟨h1, Ow.mono (w := w) hS (fun _ _ => rfl) t _ _ _ (fun _ _ => rfl) h2, h3⟩
  | io t => obtain ⟨h1, h2, h3⟩ := h; exact ⟨h1, Ow.mono (w := w) hS (fun _ _ => rfl) t _ _ _ (fun _ _ => rfl) h2, h3⟩
  | ptr t => obtain ⟨g, cs, e, f, h1, h2, h3, h4, h5⟩ := h; exact ⟨g, cs, e, f, h1, h2, h3, h4, Ow.mono (w := w) hS (fun _ _ => rfl) t _ _ _ (fun _ _ => rfl) h5⟩

theorem ArgsOk.mono {S S' : Nat → Prop} (hS : ∀ b, S b → S' b) : ∀ {ps : List PK} {vs : List Value} {x : Tys (ps.map PK.ty)} {fp tp : List Nat}, ArgsOk w S ps vs x fp tp → ArgsOk w S' ps vs x fp tp
  | [], _, _, _, _, h => h
  | p :: ps, _, _, _, _, ⟨v, vs', f1, f2, t1, t2, e1, e2, e3, h1, h2⟩ => ⟨v, vs', f1, f2, t1, t2, e1, e2, e3, h1.mono hS, h2.mono hS⟩

theorem SS.mono {fr fr' sn sn' : List Nat} {sf sf' : Bool} (h1 : ∀ b ∈ fr, b ∈ fr') (h2 : ∀ i ∈ sn, i ∈ sn') (h3 : sf = true → sf' = true) {b : Nat} (h : SS W ob fr sn sf b) : SS W ob fr' sn' sf' b := by
  rcases h with h | h
  · exact .inl (h1 b h)
  · refine .inr ?_
    rcases h with h | ⟨h, k⟩ | ⟨id, h, k⟩
    · exact .inl h
    · exact .inr (.inl ⟨h3 h, k⟩)
    · exact .inr (.inr ⟨id, h2 id h, k⟩)

theorem see_nil {α : Type} {r : α × List Key} : ∀ (t : Ty) (K : t.den → List Sc → List Nat → Bool → RP α) (rs : List Key), (see t [] K).exec s rs = some r → False
  | .pair a _, _, _, h => see_nil a _ _ h
  | .int _, _, _, h => by simp [see, RP.exec] at h
  | .bool, _, _, h => by simp [see, RP.exec] at h
  | .str, _, _, h => by simp [see, RP.exec] at h
  | .sl _ _, _, _, h => by simp [see, RP.exec] at h
  | .box _ _, _, _, h => by simp [see, RP.exec] at h

theorem see_undef {α : Type} {r : α × List Key} {c : Sc} (hc : isUndef c = true) : ∀ (t : Ty) (l : List Sc) (K : t.den → List Sc → List Nat → Bool → RP α) (rs : List Key), (see t (c :: l) K).exec s rs = some r → False
  | .pair a _, l, _, _, h => see_undef hc a l _ _ h
  | .int _, _, _, _, h => by cases c <;> first | (simp [isUndef] at hc; done) | simp [see, RP.exec] at h
  | .bool, _, _, _, h => by cases c <;> first | (simp [isUndef] at hc; done) | simp [see, RP.exec] at h
  | .str, _, _, _, h => by cases c <;> first | (simp [isUndef] at hc; done) | simp [see, RP.exec] at h
  | .sl _ _, _, _, _, h => by cases c <;> first | (simp [isUndef] at hc; done) | simp [see, RP.exec] at h
  | .box _ _, _, _, _, h => by cases c <;> first | (simp [isUndef] at hc; done) | simp [see, RP.exec] at h

theorem cells_one {x : Value} (h1 : x.oneCell' = true) : x.cells = #[x] := by cases x <;> first | rfl | (simp [Value.oneCell'] at h1)

/-- A value of good form: its cells. -/
theorem AVr.form {v : AV} {x : Value} (h : AVr w W s.ob v x) {t : Ty} (hs : shp t v = true) (hu : ∀ c l, Go.Rf.cells v = c :: l → isUndef c = false) : Form t x ∧ All2 (Vs w W s.ob) (Go.Rf.cells v) x.cells.toList := by
  cases v with
  | one c =>
    have h1 : x.oneCell' = true := h.1 (hu c [] rfl)
    refine ⟨?_, ?_⟩
    · unfold Form
      rw [if_neg (by simpa [shp] using hs)]
      exact h1
    · rw [cells_one h1]; exact ⟨x, [], rfl, h, rfl⟩
  | agg l =>
    obtain ⟨vs, e, p⟩ := h
    subst e
    refine ⟨?_, p⟩
    unfold Form
    rw [if_pos (by simpa [shp] using hs)]
    exact ⟨_, rfl⟩
  | tup l => simp [shp] at hs

theorem imp_def {α : Type} {r : α × List Key} {t : Ty} {l : List Sc} {K : t.den → List Sc → List Nat → RP α} (h : (imp t l K).exec s rs = some r) : ∀ c l', l = c :: l' → isUndef c = false := by
  rintro c l' rfl
  cases hc : isUndef c with
  | false => rfl
  | true => exact (imp_undef hc t l' K rs h).elim

theorem see_def {α : Type} {r : α × List Key} {t : Ty} {l : List Sc} {K : t.den → List Sc → List Nat → Bool → RP α} (h : (see t l K).exec s rs = some r) : ∀ c l', l = c :: l' → isUndef c = false := by
  rintro c l' rfl
  cases hc : isUndef c with
  | false => rfl
  | true => exact (see_undef hc t l' K rs h).elim

theorem tops_noown : ∀ (t : Ty), t.owns = false → ∀ cs, tops t cs = []
  | .int _, _, _ => rfl
  | .bool, _, _ => rfl
  | .str, _, _ => rfl
  | .sl false _, _, _ => rfl
  | .box _ _, _, _ => rfl
  | .sl true _, h, _ => by simp [Ty.owns] at h
  | .pair a b, h, cs => by
    simp only [Ty.owns, Bool.or_eq_false_iff] at h
    show tops a _ ++ tops b _ = []
    rw [tops_noown a h.1, tops_noown b h.2]; rfl

theorem head_cons (t : Ty) (ts : List Ty) (x : t.den) (xs : Tys ts) : headTy t ts (consTy t ts x xs) = x := by cases ts <;> rfl
theorem tail_cons (t : Ty) (ts : List Ty) (x : t.den) (xs : Tys ts) : tailTy t ts (consTy t ts x xs) = xs := by cases ts <;> rfl

theorem perm_three {a b x y c d : List Nat} (h : a.Perm (x ++ c)) (k : b.Perm (y ++ d)) : (a ++ b).Perm ((x ++ y) ++ (c ++ d)) := perm_two h k

theorem argsIn_exec (h : Rel B Al s a w W) (hard : Bool) {α : Type} {r : α × List Key} : ∀ (ps : List PK) (vs : List AV) (us : List Value) (K : Tys (ps.map PK.ty) → List Nat → List Nat → Bool → List Plc → RP α) (rs : List Key),
    opsRel w W s.ob Al vs us → okArgs ps vs = true → (argsIn hard ps vs K).exec s rs = some r →
    ∃ x ids sn sf pl rs2 fp tp fr, (K x ids sn sf pl).exec s rs2 = some r ∧ ArgsOk w (SS W s.ob fr sn sf) ps us x fp tp ∧ (blk W ids).Perm (fp ++ fr) ∧ (∀ i ∈ ids, (s.ob i).isSome = true) ∧ (∀ i ∈ sn, (s.ob i).isSome = true) ∧
      (∀ b ∈ tp, ∃ i ∈ ids, W.nl i = false ∧ b = W.η i) ∧ PlOk W s.ob ps us pl ∧ (pids pl).Sublist ids ∧ (hard = true → sn = [] ∧ sf = false)
  | [], vs, us, K, rs, hv, hok, he => by
    cases vs with
    | nil =>
      have hv : us = [] := hv
      subst hv
      exact ⟨(), [], [], false, [], rs, [], [], [], he, ⟨rfl, rfl, rfl⟩, List.Perm.refl _, by simp, by simp, by simp, ⟨rfl, rfl⟩, List.Sublist.refl _, fun _ => ⟨rfl, rfl⟩⟩
    | cons v vs => simp [okArgs] at hok
  | p :: ps, vs, us, K, rs, hv, hok, he => by
    cases vs with
    | nil => simp [okArgs] at hok
    | cons v vs =>
      obtain ⟨u, us', e, hp, hv⟩ := hv
      subst e
      simp only [okArgs, Bool.and_eq_true] at hok
      obtain ⟨hok1, hok2⟩ := hok
      -- a value that is taken
      have took : ∀ (t : Ty) (K2 : t.den → List Nat → RP α) (rs : List Key), shp t v = true → (imp t (cells v) fun x rest i => match rest with | [] => K2 x i | _ => .fail).exec s rs = some r →
          ∃ x i rs2 fp fr, (K2 x i).exec s rs2 = some r ∧ Form t u ∧ Ow w (plus W.I fr) t x u.cells.toList fp ∧ (blk W i).Perm (fp ++ fr) ∧ (∀ j ∈ i, (s.ob j).isSome = true) ∧ (∀ b ∈ tops t u.cells.toList, ∃ j ∈ i, W.nl j = false ∧ b = W.η j) ∧
            ((okCells t (cells v)).1 = true → LdOk W s.ob t (leads t (cells v)).1 u.cells.toList ∧ ((leads t (cells v)).1.filterMap id).Sublist i) := by
        intro t K2 rs hs he
        obtain ⟨hF, hl⟩ := hp.1.form hs (imp_def he)
        obtain ⟨x, l2, i, rs2, cs, vs2, fp, fr, q1, q2, q3, q4, q5, _, q7, q8, q9⟩ := imp_exec' h t _ _ _ _ hl he
        split at q2 <;> try (simp [RP.exec] at q2; done)
        have q3 : vs2 = [] := q3
        subst q3
        rw [List.append_nil] at q1
        rw [q1]
        exact ⟨x, i, rs2, fp, fr, q2, hF, q4, q5, q7, q8, fun hk => ⟨(q9 hk).1, (q9 hk).2.1⟩⟩
      have subP : ∀ {fr0 fr : List Nat} {sn : List Nat} {sf : Bool} (b : Nat), plus W.I fr0 b → SS W s.ob (fr0 ++ fr) sn sf b := fun b hb => hb.elim (fun k => .inr (.inl k)) fun k => .inl (List.mem_append_left _ k)
      cases p with
      | val t =>
        have hok1 : shp t v = true ∧ (okCells t (cells v)).1 = true := by simpa [okArg] using hok1
        simp only [argsIn] at he
        cases hb : (hard || t.owns) with
        | true =>
          rw [hb] at he
          simp only [cond_true] at he
          obtain ⟨x, i, rs2, fp, fr, k1, k2, k3, k4, k5, k6, _⟩ := took t _ _ hok1.1 he
          obtain ⟨xs, j, sn, sf, pl, rs3, fq, tq, fs, m1, m2, m3, m4, m5, m6, m7, m8, m9⟩ := argsIn_exec h hard ps vs us' _ _ hv hok2 k1
          refine ⟨_, _, _, _, _, _, fp ++ fq, tops t u.cells.toList ++ tq, fr ++ fs, m1, ⟨u, us', fp, fq, _, tq, rfl, rfl, rfl, ?_, ?_⟩, by rw [blk_append]; exact perm_two k4 m3, ?_, m5, ?_, ⟨u, us', rfl, m7⟩, m8.trans (List.sublist_append_right _ _), m9⟩
          · show ArgOk w _ (.val t) (headTy t (ps.map PK.ty) (consTy t (ps.map PK.ty) x xs)) u _ _
            rw [head_cons]
            exact ⟨k2, Ow.mono (w := w) subP (fun _ _ => rfl) t _ _ _ (fun _ _ => rfl) k3, rfl⟩
          · show ArgsOk w _ ps us' (tailTy t (ps.map PK.ty) (consTy t (ps.map PK.ty) x xs)) fq tq
            rw [tail_cons]
            exact m2.mono fun b hb => SS.mono (fun b hb => List.mem_append_right _ hb) (fun i hi => hi) (fun h => h) hb
          · intro k hk
            rcases List.mem_append.1 hk with hk | hk
            · exact k5 k hk
            · exact m4 k hk
          · intro b hb
            rcases List.mem_append.1 hb with hb | hb
            · obtain ⟨j', hj, z⟩ := k6 b hb; exact ⟨j', List.mem_append_left _ hj, z⟩
            · obtain ⟨j', hj, z⟩ := m6 b hb; exact ⟨j', List.mem_append_right _ hj, z⟩
        | false =>
          rw [hb] at he
          simp only [cond_false] at he
          simp only [Bool.or_eq_false_iff] at hb
          obtain ⟨hF, hl⟩ := hp.1.form hok1.1 (see_def he)
          obtain ⟨x, l2, sn0, sf0, rs2, cs, vs2, q1, q2, q3, q4, _, q6⟩ := see_exec h t _ _ _ _ hl he
          split at q2 <;> try (simp [RP.exec] at q2; done)
          have q3 : vs2 = [] := q3
          subst q3
          rw [List.append_nil] at q1
          obtain ⟨xs, j, sn, sf, pl, rs3, fq, tq, fs, m1, m2, m3, m4, m5, m6, m7, m8, m9⟩ := argsIn_exec h hard ps vs us' _ _ hv hok2 q2
          refine ⟨_, _, _, _, _, _, fq, tq, fs, m1, ⟨u, us', [], fq, [], tq, rfl, rfl, rfl, ?_, ?_⟩, m3, m4, ?_, m6, ⟨u, us', rfl, m7⟩, m8, fun hh => by rw [hb.1] at hh; simp at hh⟩
          · show ArgOk w _ (.val t) (headTy t (ps.map PK.ty) (consTy t (ps.map PK.ty) x xs)) u _ _
            rw [head_cons]
            refine ⟨hF, ?_, by rw [tops_noown t hb.2]⟩
            rw [q1]
            refine noown_ow t hb.2 _ _ (Rd.mono (w := w) (fun b hb => ?_) (fun _ _ => rfl) t _ _ q4)
            exact .inr (readBy.mono (fun i hi => List.mem_append_left _ hi) (fun h => by simp [h]) hb)
          · show ArgsOk w _ ps us' (tailTy t (ps.map PK.ty) (consTy t (ps.map PK.ty) x xs)) fq tq
            rw [tail_cons]
            exact m2.mono fun b hb => SS.mono (fun b hb => hb) (fun i hi => List.mem_append_right _ hi) (fun h => by simp [h]) hb
          · intro k hk
            rcases List.mem_append.1 hk with hk | hk
            · exact q6 k hk
            · exact m5 k hk
      | io t =>
        have hok1 : shp t v = true ∧ (okCells t (cells v)).1 = true := by simpa [okArg] using hok1
        simp only [argsIn] at he
        obtain ⟨x, i, rs2, fp, fr, k1, k2, k3, k4, k5, k6, k7⟩ := took t _ _ hok1.1 he
        obtain ⟨xs, j, sn, sf, pl, rs3, fq, tq, fs, m1, m2, m3, m4, m5, m6, m7, m8, m9⟩ := argsIn_exec h hard ps vs us' _ _ hv hok2 k1
        refine ⟨_, _, _, _, _, _, fp ++ fq, tops t u.cells.toList ++ tq, fr ++ fs, m1, ⟨u, us', fp, fq, _, tq, rfl, rfl, rfl, ?_, ?_⟩, by rw [blk_append]; exact perm_two k4 m3, ?_, m5, ?_, ⟨u, us', _, pl, rfl, rfl, (k7 hok1.2).1, m7⟩, List.Sublist.append (k7 hok1.2).2 m8, m9⟩
        · show ArgOk w _ (.io t) (headTy t (ps.map PK.ty) (consTy t (ps.map PK.ty) x xs)) u _ _
          rw [head_cons]
          exact ⟨k2, Ow.mono (w := w) subP (fun _ _ => rfl) t _ _ _ (fun _ _ => rfl) k3, rfl⟩
        · show ArgsOk w _ ps us' (tailTy t (ps.map PK.ty) (consTy t (ps.map PK.ty) x xs)) fq tq
          rw [tail_cons]
          exact m2.mono fun b hb => SS.mono (fun b hb => List.mem_append_right _ hb) (fun i hi => hi) (fun h => h) hb
        · intro k hk
          rcases List.mem_append.1 hk with hk | hk
          · exact k5 k hk
          · exact m4 k hk
        · intro b hb
          rcases List.mem_append.1 hb with hb | hb
          · obtain ⟨j', hj, z⟩ := k6 b hb; exact ⟨j', List.mem_append_left _ hj, z⟩
          · obtain ⟨j', hj, z⟩ := m6 b hb; exact ⟨j', List.mem_append_right _ hj, z⟩
      | ptr t =>
        simp only [argsIn] at he
        split at he <;> try (simp [RP.exec] at he; done)
        rename_i id off
        have hoff : off = 0 := (nEq_iff _ _).1 (by simpa [okArg] using hok1)
        subst hoff
        simp only [RP.exec] at he
        split at he <;> try (simp [RP.exec] at he; done)
        rename_i cs ho
        obtain ⟨b, e, k⟩ := hp.1.2
        have hb := k cs ho
        subst hb
        obtain ⟨hnl, hnf, vs0, el, hh, hl⟩ := h.var id cs ho
        obtain ⟨x, l2, i, rs2, cs0, vs2, fp, fr, q1, q2, q3, q4, q5, _, q7, q8, _⟩ := imp_exec' h t _ _ _ _ hl he
        split at q2 <;> try (simp [RP.exec] at q2; done)
        have q3 : vs2 = [] := q3
        subst q3
        rw [List.append_nil] at q1
        subst q1
        obtain ⟨xs, j, sn, sf, pl, rs3, fq, tq, fs, m1, m2, m3, m4, m5, m6, m7, m8, m9⟩ := argsIn_exec h hard ps vs us' _ _ hv hok2 q2
        have hS : (s.ob id).isSome = true := by rw [ho]; rfl
        have hblk : blk W (id :: (i ++ j)) = W.η id :: (blk W i ++ blk W j) := by
          show fpOf W id ++ blk W (i ++ j) = _
          rw [blk_append]
          simp [fpOf, hnl, hnf]
        refine ⟨_, _, _, _, _, _, (W.η id :: fp) ++ fq, (W.η id :: tops t vs0) ++ tq, fr ++ fs, m1, ⟨u, us', _, fq, _, tq, rfl, rfl, rfl, ?_, ?_⟩, ?_, ?_, m5, ?_, ⟨u, us', id, cs, pl, rfl, rfl, ho, hnl, e, m7⟩, List.Sublist.cons_cons id (m8.trans (List.sublist_append_right _ _)), m9⟩
        · show ArgOk w _ (.ptr t) (headTy t (ps.map PK.ty) (consTy t (ps.map PK.ty) x xs)) u _ _
          rw [head_cons]
          exact ⟨W.η id, vs0, el, fp, e, rfl, rfl, hh, Ow.mono (w := w) subP (fun _ _ => rfl) t _ _ _ (fun _ _ => rfl) q4⟩
        · show ArgsOk w _ ps us' (tailTy t (ps.map PK.ty) (consTy t (ps.map PK.ty) x xs)) fq tq
          rw [tail_cons]
          exact m2.mono fun b hb => SS.mono (fun b hb => List.mem_append_right _ hb) (fun i hi => hi) (fun h => h) hb
        · rw [hblk]
          exact List.Perm.cons _ (perm_two q5 m3)
        · intro k hk
          rcases List.mem_cons.1 hk with hk | hk
          · subst hk; exact hS
          · rcases List.mem_append.1 hk with hk | hk
            · exact q7 k hk
            · exact m4 k hk
        · intro b hb
          rcases List.mem_append.1 hb with hb | hb
          · rcases List.mem_cons.1 hb with hb | hb
            · exact ⟨id, by simp, hnl, hb⟩
            · obtain ⟨j', hj, z⟩ := q8 b hb; exact ⟨j', List.mem_cons_of_mem _ (List.mem_append_left _ hj), z⟩
          · obtain ⟨j', hj, z⟩ := m6 b hb; exact ⟨j', List.mem_cons_of_mem _ (List.mem_append_right _ hj), z⟩
end
end Go.Rf
