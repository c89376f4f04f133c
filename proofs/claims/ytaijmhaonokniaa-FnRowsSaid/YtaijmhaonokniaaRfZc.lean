/- A function. -/
import Derived.Test.YtaijmhaonokniaaRfZb
namespace Go.Rf
set_option linter.unusedVariables false
set_option linter.unusedSimpArgs false

section
variable {P : Program} {T : Tab} {E : Env} {A : Ann} {B : Base} {Al : Nat → Prop} {s s' : St} {a : Act} {w w' : World} {W W' : Wit} {f : Nat}
  {u : Upd} {Q : Exit → Act → World → Prop} {rs : List Key}

theorem init_sound {ρ : Type} {K : St → Nat → Option ρ} {r : ρ} : ∀ (ps : List PK) (vs : List Value) (x : Tys (ps.map PK.ty)) (i : Nat) (s : St) (f : Nat) (W : Wit) (fp tp : List Nat), Rel B (fun i => i < f) s a w W → ArgsOk w W.I ps vs x fp tp →
    (∀ j v, vs[j]? = some v → a.tmps.getD (i + j) undef = v) → fp.Nodup → (∀ b ∈ fp, ¬ W.I b) →
    (∀ b ∈ fp, ∀ j, (s.ob j).isSome = true → b ∉ fpOf W j) → (∀ b ∈ fp, B.fpT b ∨ B.fpN b ∨ B.w0.heap.size ≤ b) → (∀ b ∈ tp, B.fpT b ∨ B.w0.heap.size ≤ b) → initP ps x i s f K = some r → ∃ s' f', K s' f' = some r ∧ Sim B f' s' a w
  | [], _, _, _, s, f, W, _, _, h, _, _, _, _, _, _, _, he => ⟨s, f, he, W, h⟩
  | p :: ps, vs, x, i, s, f, W, fp, tp, h, ⟨v, vs', f1, f2, t1, t2, e0, e1, e2, harg, hrest⟩, hsl, hnd, hI, hD, hB, hTp, he => by
    subst e0; subst e1; subst e2
    rw [List.nodup_append] at hnd
    have hv : a.tmps.getD i undef = v := hsl 0 v rfl
    have hsl' : ∀ j u, vs'[j]? = some u → a.tmps.getD (i + 1 + j) undef = u := fun j u hu => by
      have := hsl (j + 1) u (by simpa using hu)
      rw [show i + 1 + j = i + (j + 1) by omega]; exact this
    -- a value's cells
    have val : ∀ (t : Ty) (y : t.den), Form t v → Ow w W.I t y v.cells.toList f1 → t1 = tops t v.cells.toList → ∃ W', Rel B (fun i => i < (explodeO t y f).2.2) (s.app [(i, mkRes [(isPair t, (explodeO t y f).1)])] (explodeO t y f).2.1) a w W' ∧ W'.I = W.I ∧
        ∀ j, ((s.app [(i, mkRes [(isPair t, (explodeO t y f).1)])] (explodeO t y f).2.1).ob j).isSome = true → ∀ b ∈ fpOf W' j, b ∈ f1 ∨ ((s.ob j).isSome = true ∧ b ∈ fpOf W j) := by
      intro t y hF how ht
      obtain ⟨os, p1, p2, p3, p4, p5, p6, p7⟩ := explode_new t y _ f1 f how
      rw [p1, p2]
      exact h.adopt p3 p4 hnd.1 (fun b hb => hI b (List.mem_append_left _ hb)) (fun b hb => hD b (List.mem_append_left _ hb)) (fun b hb => hB b (List.mem_append_left _ hb))
        (fun b hb => hTp b (List.mem_append_left _ (by rw [ht, p5]; exact hb))) p7 (by rw [hv]; exact form_rvn hF p6)
    have next : ∀ (s2 : St) (fn : Nat) (W' : Wit), Rel B (fun i => i < fn) s2 a w W' → W'.I = W.I → (∀ j, (s2.ob j).isSome = true → ∀ b ∈ fpOf W' j, b ∈ f1 ∨ ((s.ob j).isSome = true ∧ b ∈ fpOf W j)) →
        initP ps (tailTy p.ty (ps.map PK.ty) x) (i + 1) s2 fn K = some r → ∃ s' f', K s' f' = some r ∧ Sim B f' s' a w := by
      intro s2 fn W' hR hWI hfp he
      refine init_sound ps vs' _ (i + 1) s2 fn W' f2 t2 hR (by rw [hWI]; exact hrest) hsl' hnd.2.1 (fun b hb => by rw [hWI]; exact hI b (List.mem_append_right _ hb)) (fun b hb j hj hbj => ?_) (fun b hb => hB b (List.mem_append_right _ hb)) (fun b hb => hTp b (List.mem_append_right _ hb)) he
      rcases hfp j hj b hbj with k | ⟨k1, k2⟩
      · exact hnd.2.2 b k b hb rfl
      · exact hD b (List.mem_append_right _ hb) j k1 k2
    cases p with
    | val t =>
      obtain ⟨hF, how, ht⟩ := harg
      obtain ⟨W', hR, hWI, hfp⟩ := val t _ hF how ht
      exact next _ _ W' hR hWI hfp he
    | io t =>
      obtain ⟨hF, how, ht⟩ := harg
      obtain ⟨W', hR, hWI, hfp⟩ := val t _ hF how ht
      exact next _ _ W' hR hWI hfp he
    | ptr t =>
      obtain ⟨g, cs, el, fi, hpv, hf1, ht1, hh, how⟩ := harg
      obtain ⟨os, p1, p2, p3, p4, p5, p7, p8, _⟩ := var_new (t := t) f (f + 1) hh how
      have hpos : 0 < os.length := by obtain ⟨o, ho, _⟩ := p8; exact List.length_pos_of_mem ho
      have hlen : (explodeO t (headTy t (ps.map PK.ty) x) (f + 1)).2.2 = f + os.length := by have : f + 1 + os.length = (explodeO t (headTy t (ps.map PK.ty) x) (f + 1)).2.2 + 1 := p2; omega
      have hids : os.map (·.id) = List.range' f os.length := by
        rw [p3]
        obtain ⟨n, hn⟩ : ∃ n, os.length = n + 1 := ⟨os.length - 1, by omega⟩
        rw [hn]; rfl
      have hrv : RVN w W.I os (false, [.pv f 0]) (a.tmps.getD i undef) := by
        unfold RVN
        rw [if_neg (by simp)]
        obtain ⟨o, ho, k1, k2, k3⟩ := p8
        exact ⟨_, [], rfl, ⟨o, ho, k1, ⟨_, k2⟩, by rw [hv, hpv, k3]⟩, rfl⟩
      obtain ⟨W', hR, hWI, hfp⟩ := h.adopt hids (hf1.trans p4) hnd.1 (fun b hb => hI b (List.mem_append_left _ hb)) (fun b hb => hD b (List.mem_append_left _ hb)) (fun b hb => hB b (List.mem_append_left _ hb))
        (fun b hb => hTp b (List.mem_append_left _ (by rw [ht1, p5]; exact hb))) p7 hrv
      have he : initP ps (tailTy t (ps.map PK.ty) x) (i + 1) (s.app [(i, .one (.pv f 0))] ((f, some (.var (explodeO t (headTy t (ps.map PK.ty) x) (f + 1)).1)) :: (explodeO t (headTy t (ps.map PK.ty) x) (f + 1)).2.1)) (explodeO t (headTy t (ps.map PK.ty) x) (f + 1)).2.2 K = some r := he
      have p1 : (f, some (Obj.var (explodeO t (headTy t (ps.map PK.ty) x) (f + 1)).1)) :: (explodeO t (headTy t (ps.map PK.ty) x) (f + 1)).2.1 = os.map NewOb.upd := p1
      rw [p1, hlen] at he
      exact next _ _ W' hR hWI hfp he

def resSem (P : Program) (a : Act) (rv : ResultVar) : Sem Value :=
  match rv with
  | .tmp t => pure (a.tmps.getD t undef)
  | .cell c t => do loadVar t (← asAddr (a.tmps.getD c undef))

theorem mapM_list (g : ResultVar → Sem Value) : ∀ (l : List ResultVar) (us : List Value), All2 (fun rv u => (g rv).run P w = .ok u w) l us → (l.mapM g).run P w = .ok us w
  | [], us, h => by rw [show us = [] from h]; simp
  | rv :: l, us, ⟨u, us', e, p, h⟩ => by
    rw [e, List.mapM_cons]
    simp only [Sem.run_bind, p, Result.andThen_ok, mapM_list g l us' h, Sem.run_pure]

theorem finRes_exec (hT : TabOk P T) (h : Rel B Al s a w W) {α : Type} {r : α × List Key} : ∀ (rs : List RK) (rv : List ResultVar) (K : Tys (rs.map RK.ty) → List Nat → RP α) (ks : List Key), (finRes T rs rv K).exec s ks = some r →
    ∃ x ids ks2 us fp tp fr, (K x ids).exec s ks2 = some r ∧ ResOk w (plus W.I fr) rs us x fp tp ∧ (blk W ids).Perm (fp ++ fr) ∧ (∀ i ∈ ids, (s.ob i).isSome = true) ∧ (∀ b ∈ tp, ∃ i ∈ ids, W.nl i = false ∧ b = W.η i) ∧
      All2 (fun v u => (resSem P a v).run P w = .ok u w) rv us
  | [], rv, K, ks, he => by
    cases rv with
    | nil => exact ⟨(), [], ks, [], [], [], [], he, ⟨rfl, rfl, rfl⟩, List.Perm.refl _, by simp, by simp, rfl⟩
    | cons => simp [finRes, RP.exec] at he
  | .val t :: rs, rv, K, ks, he => by
    cases rv with
    | nil => simp [finRes, RP.exec] at he
    | cons v rv =>
      have fin : ∀ (x : t.den) (u : Value) (j : List Nat) (ks2 : List Key) (fp fr : List Nat), (finRes T rs rv fun xs ids => K (consTy t (rs.map RK.ty) x xs) (j ++ ids)).exec s ks2 = some r → Form t u → Ow w (plus W.I fr) t x u.cells.toList fp → (blk W j).Perm (fp ++ fr) → (∀ i ∈ j, (s.ob i).isSome = true) →
          (∀ b ∈ tops t u.cells.toList, ∃ i ∈ j, W.nl i = false ∧ b = W.η i) → (resSem P a v).run P w = .ok u w →
          ∃ x ids ks2 us fp tp fr, (K x ids).exec s ks2 = some r ∧ ResOk w (plus W.I fr) (.val t :: rs) us x fp tp ∧ (blk W ids).Perm (fp ++ fr) ∧ (∀ i ∈ ids, (s.ob i).isSome = true) ∧ (∀ b ∈ tp, ∃ i ∈ ids, W.nl i = false ∧ b = W.η i) ∧
            All2 (fun v u => (resSem P a v).run P w = .ok u w) (v :: rv) us := by
        intro x u j ks2 fp fr k1 k2 k3 k4 k5 k6 k7
        obtain ⟨xs, ids, ks3, us, fq, tq, fs, m1, m2, m3, m4, m5, m6⟩ := finRes_exec hT h rs rv _ _ k1
        refine ⟨_, _, ks3, u :: us, fp ++ fq, tops t u.cells.toList ++ tq, fr ++ fs, m1, ⟨u, us, fp, fq, _, tq, rfl, rfl, rfl, ?_, ?_⟩, by rw [blk_append]; exact perm_two k4 m3, ?_, ?_, ⟨u, us, rfl, k7, m6⟩⟩
        · rw [head_cons]; exact ⟨k2, Ow.mono (w := w) plusL (fun _ _ => rfl) t _ _ _ (fun _ _ => rfl) k3, rfl⟩
        · rw [tail_cons]; exact m2.mono plusR
        · intro k hk
          rcases List.mem_append.1 hk with hk | hk
          · exact k5 k hk
          · exact m4 k hk
        · intro b hb
          rcases List.mem_append.1 hb with hb | hb
          · obtain ⟨j', hj, z⟩ := k6 b hb; exact ⟨j', List.mem_append_left _ hj, z⟩
          · obtain ⟨j', hj, z⟩ := m5 b hb; exact ⟨j', List.mem_append_right _ hj, z⟩
      cases v with
      | tmp c =>
        simp only [finRes, RP.exec] at he
        obtain ⟨hs, he⟩ := exec_bif' he
        obtain ⟨x, j, ks2, fp, fr, k1, k2, k3, k4, k5, k6⟩ := take_val h (h.slots c) t _ _ (by simpa using hs) he
        exact fin x _ j ks2 fp fr k1 k2 k3 k4 k5 k6 (by simp [resSem])
      | cell c ty =>
        simp only [finRes] at he
        cases htd : lkp T ty with
        | none => rw [htd] at he; simp [RP.exec] at he
        | some td =>
          rw [htd] at he
          simp only at he
          obtain ⟨hck, he⟩ := exec_bif' he
          simp only [Bool.not_eq_false', Bool.and_eq_true] at hck
          have hsz := (nEq_iff _ _).1 hck.1
          have hag : td.agg = isPair t := by simpa using hck.2
          have hty := hT ty td htd
          simp only [RP.exec] at he
          have hv := h.slots c
          split at he <;> try (simp [RP.exec] at he; done)
          rename_i id off hsl
          rw [hsl] at hv
          simp only [RP.exec] at he
          split at he <;> try (simp [RP.exec] at he; done)
          rename_i l ho
          obtain ⟨b, e, k⟩ := hv.2
          have hb := k l ho
          subst hb
          obtain ⟨_, _, vs, el, hh, hl⟩ := h.var id l ho
          obtain ⟨x, l2, j, ks2, cs, vs2, fp, fr, q1, q2, q3, q4, q5, _, q7, q8, _⟩ := imp_exec' h t _ _ _ _ ((hl.drop off).take t.size) he
          split at q2 <;> try (simp [RP.exec] at q2; done)
          have q3 : vs2 = [] := q3
          subst q3
          rw [List.append_nil] at q1
          have hcl := Ow.size t _ _ _ q4
          have hat : At w (W.η id) 0 vs := ⟨_, el, _, [], [], hh, by simp, rfl⟩
          have hpos := t.pos
          have hat2 := hat.part off t.size (by rw [← q1] at hcl; simp only [List.length_take, List.length_drop] at hcl; omega)
          rw [Nat.zero_add, q1] at hat2
          have hrun := run_loadVar_at (P := P) w (vs := cs) (n := t.size) (g := td.agg) (by rw [← hsz]; exact hty.tag.1) hty.aggD hcl (fun hg => by rw [← hsz]; exact hty.one hg) hat2
          have h1c : ∀ v ∈ cs, v.oneCell' = true := isOne_of_rd (I := fun _ => True) t x cs (Ow.rd (fun _ _ => trivial) t x cs fp (fun _ _ => trivial) q4)
          have hu : Form t (mkV td.agg cs) ∧ (mkV td.agg cs).cells.toList = cs := by
            unfold Form mkV
            cases hg : td.agg with
            | true => rw [hg] at hag; rw [← hag]; exact ⟨⟨_, rfl⟩, rfl⟩
            | false =>
              rw [hg] at hag
              have h1 := hty.one hg
              rw [hsz] at h1
              obtain ⟨v, rfl⟩ : ∃ v, cs = [v] := by
                match cs, hcl with
                | [v], _ => exact ⟨v, rfl⟩
                | [], hn => simp at hn; omega
                | _ :: _ :: _, hn => simp at hn; omega
              have hv1 := h1c v (by simp)
              rw [← hag]
              refine ⟨by simpa using hv1, ?_⟩
              have : ((fun g (vs : List Value) => if g = true then Value.agg vs.toArray else vs.getD 0 undef) false [v]) = v := rfl
              simp [cells_one hv1]
          refine fin x (mkV td.agg cs) j ks2 fp fr q2 hu.1 (by rw [hu.2]; exact q4) q5 q7 (by rw [hu.2]; exact q8) ?_
          simp only [resSem, e, pt, asAddr, Sem.run_bind, Sem.run_pure, Result.andThen_ok, hrun]
  | .ptr t :: rs, rv, K, ks, he => by
    cases rv with
    | nil => simp [finRes, RP.exec] at he
    | cons v rv =>
      cases v with
      | cell c ty => simp [finRes, RP.exec] at he
      | tmp c =>
        simp only [finRes, RP.exec] at he
        have hv := h.slots c
        split at he <;> try (simp [RP.exec] at he; done)
        rename_i id off hsl
        rw [hsl] at hv
        obtain ⟨hoff, he5⟩ := exec_bif he
        clear he
        have hoff := (nEq_iff _ _).1 hoff
        subst hoff
        simp only [RP.exec] at he5
        split at he5 <;> try (simp [RP.exec] at he5; done)
        rename_i cs ho
        obtain ⟨b, e, k⟩ := hv.2
        have hb := k cs ho
        subst hb
        obtain ⟨x, j, rs2, fp, fr, vs, el, k1, k2, k3, k4, k5, k6⟩ := take_var h ho t _ _ he5
        obtain ⟨xs, ids, ks3, us, fq, tq, fs, m1, m2, m3, m4, m5, m6⟩ := finRes_exec hT h rs rv _ _ k1
        refine ⟨_, _, ks3, a.tmps.getD c undef :: us, (W.η id :: fp) ++ fq, (W.η id :: tops t vs) ++ tq, fr ++ fs, m1, ⟨_, us, _, fq, _, tq, rfl, rfl, rfl, ?_, ?_⟩, ?_, ?_, ?_, ⟨_, us, rfl, by simp only [resSem, Sem.run_pure], m6⟩⟩
        · rw [head_cons]; exact ⟨W.η id, vs, el, fp, e, rfl, rfl, k2, Ow.mono (w := w) plusL (fun _ _ => rfl) t _ _ _ (fun _ _ => rfl) k3⟩
        · rw [tail_cons]; exact m2.mono plusR
        · rw [← List.cons_append, blk_append]; exact perm_two k4 m3
        · intro k hk
          rw [← List.cons_append] at hk
          rcases List.mem_append.1 hk with hk | hk
          · exact k5 k hk
          · exact m4 k hk
        · intro b hb
          rw [← List.cons_append]
          rcases List.mem_append.1 hb with hb | hb
          · obtain ⟨j', hj, z⟩ := k6 b hb; exact ⟨j', List.mem_append_left _ hj, z⟩
          · obtain ⟨j', hj, z⟩ := m5 b hb; exact ⟨j', List.mem_append_right _ hj, z⟩

def notVal : PK → Bool
  | .val _ => false
  | _ => true

theorem finIo_exec (h : Rel B Al s a w W) {α : Type} {r : α × List Key} : ∀ (ps : List PK) (vs : List Value) (n : Nat) (K : Tys (ioOf ps) → List Nat → RP α) (ks : List Key), vs.length = ps.length →
    (∀ (j : Nat) (v : Value) (p : PK), vs[j]? = some v → ps[j]? = some p → notVal p = true → a.tmps.getD (n + j) undef = v) → (finIo ps n K).exec s ks = some r →
    ∃ x ids ks2 fp tp fr, (K x ids).exec s ks2 = some r ∧ BackOk w (plus W.I fr) ps vs x fp tp ∧ (blk W ids).Perm (fp ++ fr) ∧ (∀ i ∈ ids, (s.ob i).isSome = true) ∧ (∀ b ∈ tp, ∃ i ∈ ids, W.nl i = false ∧ b = W.η i)
  | [], vs, n, K, ks, hl, _, he => ⟨(), [], ks, [], [], [], he, ⟨List.eq_nil_of_length_eq_zero hl, rfl, rfl⟩, List.Perm.refl _, by simp, by simp⟩
  | p :: ps, [], n, K, ks, hl, _, he => by simp at hl
  | p :: ps, v :: vs, n, K, ks, hl, hp, he => by
    have hl' : vs.length = ps.length := by simpa using hl
    have hp' : ∀ (j : Nat) (u : Value) (p : PK), vs[j]? = some u → ps[j]? = some p → notVal p = true → a.tmps.getD (n + 1 + j) undef = u := fun j u q hu hq hn => by
      have := hp (j + 1) u q (by simpa using hu) (by simpa using hq) hn
      rw [show n + 1 + j = n + (j + 1) by omega]; exact this
    cases p with
    | val t =>
      obtain ⟨x, ids, ks2, fp, tp, fr, m1, m2, m3, m4, m5⟩ := finIo_exec h ps vs (n + 1) K ks hl' hp' he
      exact ⟨x, ids, ks2, fp, tp, fr, m1, ⟨v, vs, rfl, m2⟩, m3, m4, m5⟩
    | io t =>
      have hv : a.tmps.getD n undef = v := hp 0 v (.io t) rfl rfl rfl
      simp only [finIo, RP.exec] at he
      obtain ⟨hs, he⟩ := exec_bif' he
      obtain ⟨x, j, rs2, fp, fr, k1, k2, k3, k4, k5, k6⟩ := take_val h (h.slots n) t _ _ (by simpa using hs) he
      rw [hv] at k2 k3 k6
      obtain ⟨xs, ids, ks3, fq, tq, fs, m1, m2, m3, m4, m5⟩ := finIo_exec h ps vs (n + 1) _ _ hl' hp' k1
      refine ⟨_, _, ks3, fp ++ fq, tops t v.cells.toList ++ tq, fr ++ fs, m1, ⟨v, vs, fp, fq, _, tq, rfl, rfl, rfl, ?_, ?_⟩, by rw [blk_append]; exact perm_two k4 m3, ?_, ?_⟩
      · rw [head_cons]; exact ⟨k2, Ow.mono (w := w) plusL (fun _ _ => rfl) t _ _ _ (fun _ _ => rfl) k3, rfl⟩
      · rw [tail_cons]; exact m2.mono plusR
      · intro k hk
        rcases List.mem_append.1 hk with hk | hk
        · exact k5 k hk
        · exact m4 k hk
      · intro b hb
        rcases List.mem_append.1 hb with hb | hb
        · obtain ⟨j', hj, z⟩ := k6 b hb; exact ⟨j', List.mem_append_left _ hj, z⟩
        · obtain ⟨j', hj, z⟩ := m5 b hb; exact ⟨j', List.mem_append_right _ hj, z⟩
    | ptr t =>
      have hvv : a.tmps.getD n undef = v := hp 0 v (.ptr t) rfl rfl rfl
      simp only [finIo, RP.exec] at he
      have hv := h.slots n
      split at he <;> try (simp [RP.exec] at he; done)
      rename_i id off hsl
      rw [hsl] at hv
      obtain ⟨hoff, he5⟩ := exec_bif he
      clear he
      have hoff := (nEq_iff _ _).1 hoff
      subst hoff
      simp only [RP.exec] at he5
      split at he5 <;> try (simp [RP.exec] at he5; done)
      rename_i cs ho
      obtain ⟨b, e, k⟩ := hv.2
      have hb := k cs ho
      subst hb
      rw [hvv] at e
      obtain ⟨x, j, rs2, fp, fr, us, el, k1, k2, k3, k4, k5, k6⟩ := take_var h ho t _ _ he5
      obtain ⟨xs, ids, ks3, fq, tq, fs, m1, m2, m3, m4, m5⟩ := finIo_exec h ps vs (n + 1) _ _ hl' hp' k1
      refine ⟨_, _, ks3, (W.η id :: fp) ++ fq, (W.η id :: tops t us) ++ tq, fr ++ fs, m1, ⟨v, vs, _, fq, _, tq, rfl, rfl, rfl, ?_, ?_⟩, ?_, ?_, ?_⟩
      · rw [head_cons]; exact ⟨W.η id, us, el, fp, e, rfl, rfl, k2, Ow.mono (w := w) plusL (fun _ _ => rfl) t _ _ _ (fun _ _ => rfl) k3⟩
      · rw [tail_cons]; exact m2.mono plusR
      · rw [← List.cons_append, blk_append]; exact perm_two k4 m3
      · intro k hk
        rw [← List.cons_append] at hk
        rcases List.mem_append.1 hk with hk | hk
        · exact k5 k hk
        · exact m4 k hk
      · intro b hb
        rw [← List.cons_append]
        rcases List.mem_append.1 hb with hb | hb
        · obtain ⟨j', hj, z⟩ := k6 b hb; exact ⟨j', List.mem_append_left _ hj, z⟩
        · obtain ⟨j', hj, z⟩ := m5 b hb; exact ⟨j', List.mem_append_right _ hj, z⟩

def pinOf : List PK → List Value → Nat → Option Value
  | p :: _, v :: _, 0 => if notVal p then some v else none
  | _ :: ps, _ :: vs, n + 1 => pinOf ps vs n
  | _, _, _ => none

theorem pinOf_some : ∀ (ps : List PK) (vs : List Value) (n : Nat) (v : Value), pinOf ps vs n = some v → vs[n]? = some v
  | p :: _, u :: _, 0, v, h => by
    simp only [pinOf] at h
    split at h
    · simpa using h
    · simp at h
  | _ :: ps, _ :: vs, n + 1, v, h => by simpa using pinOf_some ps vs n v h
  | [], _, _, _, h => by simp [pinOf] at h
  | _ :: _, [], 0, _, h => by simp [pinOf] at h
  | _ :: _, [], _ + 1, _, h => by simp [pinOf] at h

theorem pinOf_get : ∀ (ps : List PK) (vs : List Value) (n : Nat) (v : Value) (p : PK), vs[n]? = some v → ps[n]? = some p → notVal p = true → pinOf ps vs n = some v
  | p :: _, u :: _, 0, v, q, h, h2, h3 => by
    simp only [List.getElem?_cons_zero, Option.some.injEq] at h h2
    subst h; subst h2
    simp [pinOf, h3]
  | _ :: ps, _ :: vs, n + 1, v, q, h, h2, h3 => pinOf_get ps vs n v q (by simpa using h) (by simpa using h2) h3
  | [], _, _, _, _, _, h, _ => by simp at h
  | _ :: _, [], _, _, _, h, _, _ => by simp at h

theorem pinsOk_spec (ws : List Nat) : ∀ (ps : List PK) (n : Nat), pinsOk ws ps n = true → ∀ (vs : List Value) (j : Nat), j + n ∈ ws → pinOf ps vs j = none
  | [], _, _, vs, j, _ => by cases vs <;> cases j <;> rfl
  | p :: ps, n, h, [], j, _ => by cases j <;> rfl
  | p :: ps, n, h, v :: vs, 0, hj => by
    cases p with
    | val t => rfl
    | io t => simp only [pinsOk, Bool.and_eq_true, Bool.not_eq_true'] at h; rw [Nat.zero_add] at hj; rw [(hasN_iff n ws).2 hj] at h; simp at h
    | ptr t => simp only [pinsOk, Bool.and_eq_true, Bool.not_eq_true'] at h; rw [Nat.zero_add] at hj; rw [(hasN_iff n ws).2 hj] at h; simp at h
  | p :: ps, n, h, v :: vs, j + 1, hj => by
    have h2 : pinsOk ws ps (n + 1) = true := by
      cases p with
      | val t => exact h
      | io t => simp only [pinsOk, Bool.and_eq_true] at h; exact h.2
      | ptr t => simp only [pinsOk, Bool.and_eq_true] at h; exact h.2
    exact pinsOk_spec ws ps (n + 1) h2 vs j (by rw [show j + (n + 1) = j + 1 + n by omega]; exact hj)

theorem ltAll_spec (n : Nat) : ∀ l, ltAll n l = true → ∀ d ∈ l, d < n
  | [], _, d, hd => by simp at hd
  | m :: l, h, d, hd => by
    simp only [ltAll, Bool.and_eq_true] at h
    rcases List.mem_cons.1 hd with k | k
    · subst k; exact Nat.le_of_ble_eq_true h.1
    · exact ltAll_spec n l h.2 d k

theorem args_len {S : Nat → Prop} : ∀ (ps : List PK) (vs : List Value) (x : Tys (ps.map PK.ty)) (fp tp : List Nat), ArgsOk w S ps vs x fp tp → vs.length = ps.length
  | [], _, _, _, _, ⟨h, _⟩ => by rw [h]; rfl
  | _ :: ps, _, _, _, _, ⟨v, vs', f1, f2, t1, t2, e, _, _, _, h⟩ => by rw [e, List.length_cons, List.length_cons, args_len ps vs' _ _ _ h]

theorem split_app : ∀ (a b : List Ty) (x : Tys a) (y : Tys b), splitTys a b (appTys a b x y) = (x, y)
  | [], _, _, _ => rfl
  | [_], [], _, _ => rfl
  | [_], _ :: _, _, _ => rfl
  | _ :: u :: r, b, x, y => by
    show (match splitTys (u :: r) b (appTys (u :: r) b x.2 y) with | (p, q) => ((x.1, p), q)) = _
    rw [split_app (u :: r) b]
    rfl

theorem tops_sub {S : Nat → Prop} : ∀ (t : Ty) (x : t.den) cs fp, Ow w S t x cs fp → ∀ b ∈ tops t cs, b ∈ fp
  | .int _, _, _, _, _, b, hb => by simp [tops] at hb
  | .bool, _, _, _, _, b, hb => by simp [tops] at hb
  | .str, _, _, _, _, b, hb => by simp [tops] at hb
  | .sl false _, _, _, _, _, b, hb => by simp [tops] at hb
  | .box _ _, _, _, _, _, b, hb => by simp [tops] at hb
  | .sl true t, _, _, _, h, b, hb => by
    rcases h with ⟨_, e, _⟩ | ⟨g, c, f, e1, e2, _⟩
    · rw [e] at hb; simp [tops] at hb
    · rw [e1] at hb; rw [e2]; simp [tops] at hb; subst hb; simp
  | .pair a c, x, _, _, ⟨c1, c2, f1, f2, e, e', h, h'⟩, b, hb => by
    rw [e, tops_pair (Ow.size a _ _ _ h)] at hb
    rw [e']
    rcases List.mem_append.1 hb with k | k
    · exact List.mem_append_left _ (tops_sub a _ _ _ h b k)
    · exact List.mem_append_right _ (tops_sub c _ _ _ h' b k)

theorem args_tops {S : Nat → Prop} : ∀ (ps : List PK) (vs : List Value) (x : Tys (ps.map PK.ty)) (fp tp : List Nat), ArgsOk w S ps vs x fp tp → ∀ b ∈ tp, b ∈ fp
  | [], _, _, _, _, ⟨_, _, h⟩, b, hb => by rw [h] at hb; simp at hb
  | p :: ps, _, _, _, _, ⟨v, vs', f1, f2, t1, t2, _, e2, e3, h1, h⟩, b, hb => by
    rw [e3] at hb; rw [e2]
    rcases List.mem_append.1 hb with k | k
    · refine List.mem_append_left _ ?_
      cases p with
      | val t => obtain ⟨_, q, e⟩ := h1; rw [e] at k; exact tops_sub t _ _ _ q b k
      | io t => obtain ⟨_, q, e⟩ := h1; rw [e] at k; exact tops_sub t _ _ _ q b k
      | ptr t =>
        obtain ⟨g, cs, e, f, q1, q2, q3, q4, q5⟩ := h1
        rw [q3] at k; rw [q2]
        rcases List.mem_cons.1 k with k | k
        · subst k; simp
        · exact List.mem_cons_of_mem _ (tops_sub t _ _ _ q5 b k)
    · exact List.mem_append_right _ (args_tops ps vs' _ _ _ h b k)

theorem run_results {fn : Func} {us : List Value} (h : All2 (fun v u => (resSem P a v).run P w = .ok u w) fn.results.toList us) : (results fn a.tmps).run P w = .ok (resV us) w := by
  have h1 := mapM_list (P := P) (w := w) (resSem P a) fn.results.toList us h
  have h2 : (fn.results.mapM fun x => resSem P a x).run P w = .ok us.toArray w := by
    rw [Array.mapM_eq_mapM_toList]
    simp [h1]
  unfold results
  rw [Sem.run_bind]
  show ((Sem.run P (Array.mapM (fun x => resSem P a x) fn.results) w).andThen _) = _
  rw [h2, Result.andThen_ok, Sem.run_pure]
  match us with
  | [] => rfl
  | [u] => rfl
  | u :: v :: l => rfl

theorem fn_sound (hT : TabOk P T) (hE : EnvOk P E) (hm : P.follows .mixedOrders = true) {g : Nat} {fn : Func} {body : Code} {ctr : Ctr} (hf : P.funcs[g]? = some fn) (hn : (fn.name == "runtime.NumGoroutine") = false) (hb : fn.body = some body)
    (hev : ∀ x, evF T E A ctr.g fn.ntmps fn.results.toList body x = ctr.fn x) : CtrOk P g ctr := by
  intro w args x S fp tp y hS hargs hnd himm hy o a K Q hK
  have hx := (hev x).trans hy
  have hcall : (callFunc g args.toArray).run P w = .ok (.enter g args.toArray) w := by
    have hne : ¬ fn.name = "runtime.NumGoroutine" := by simpa using hn
    unfold callFunc
    simp [run_program, hf, hne, hb]
  rw [hcall, Oper.upon_enter]
  refine calls_of_wp hf hb ?_
  unfold evF at hx
  cases hck : (pinsOk (writes body) ctr.g.ps 0 && ltAll fn.ntmps (writes body) && Nat.ble ctr.g.ps.length fn.ntmps) with
  | false => rw [hck] at hx; simp at hx
  | true =>
    rw [hck] at hx
    simp only [Bool.not_true, cond_false] at hx
    simp only [Bool.and_eq_true] at hck
    obtain ⟨⟨c1, c2⟩, c3⟩ := hck
    have c3 : ctr.g.ps.length ≤ fn.ntmps := Nat.le_of_ble_eq_true c3
    have hlen := args_len _ _ _ _ _ hargs
    let B : Base := { w0 := w, S0 := S, fpT := fun b => b ∈ tp, fpN := fun b => b ∈ fp, pin := pinOf ctr.g.ps args, nt := fn.ntmps }
    let a0 : Act := { tmps := args.toArray ++ Array.replicate (fn.ntmps - args.toArray.size) undef, defers := [] }
    have hget : ∀ (j : Nat) (v : Value), args[j]? = some v → a0.tmps.getD j undef = v := fun j v hv => by
      have hlt : j < args.length := by
        rcases Nat.lt_or_ge j args.length with h | h
        · exact h
        · rw [List.getElem?_eq_none h] at hv; simp at hv
      have hv2 : args[j] = v := by rw [List.getElem?_eq_getElem hlt] at hv; simpa using hv
      show (args.toArray ++ Array.replicate (fn.ntmps - args.toArray.size) undef).getD j undef = v
      have hl2 : j < (args.toArray ++ Array.replicate (fn.ntmps - args.toArray.size) undef).size := by simp; omega
      simp [Array.getD, hl2, hlt, hv2]
      omega
    have hbase : Rel B (fun i => i < 0) St.empty a0 w ⟨S, fun _ => 0, fun _ => [], fun _ => 0, fun _ => false⟩ :=
      { slots := fun i => ⟨fun k => by simp [St.empty, isUndef] at k, trivial⟩
        mS := fun i id k => k.elim
        mO := fun id l hx => by simp [St.empty] at hx
        al := fun id hx => by simp [St.empty] at hx
        row := fun id t xs hx => by simp [St.empty] at hx
        var := fun id l hx => by simp [St.empty] at hx
        nod := fun i hx => by simp [St.empty] at hx
        dis := fun i j _ hx => by simp [St.empty] at hx
        imm := fun i hx => by simp [St.empty] at hx
        bnd := hS
        def0 := rfl
        size := by show (args.toArray ++ Array.replicate (fn.ntmps - args.toArray.size) undef).size = fn.ntmps; simp; omega
        pins := fun n v hv => hget n v (pinOf_some _ _ _ _ hv)
        os := rfl
        tape := rfl
        output := rfl
        grown := Nat.le_refl _
        old := fun _ _ _ => rfl
        ownT := fun i hx => by simp [St.empty] at hx
        ownN := fun i hx => by simp [St.empty] at hx
        from0 := fun b hb => .inl hb }
    obtain ⟨s1, f1, k1, k2⟩ := init_sound ctr.g.ps args x 0 St.empty 0 _ fp tp hbase hargs (fun j v hv => by rw [Nat.zero_add]; exact hget j v hv) hnd himm (fun b _ j hj => by simp [St.empty] at hj) (fun b hb => .inr (.inl hb)) (fun b hb => .inl hb) hx
    have hcode : CodeOk B body := fun d hd => ⟨ltAll_spec _ _ c2 d hd, pinsOk_spec _ _ 0 c1 args d hd⟩
    refine (code_all hT hE hm body).1 _ s1 f1 _ y a0 w _ hcode k1 k2 fun e s2 f2 a2 w2 hk hs2 => ?_
    have fin : ((finRes T ctr.g.rs fn.results.toList fun a i => finIo ctr.g.ps 0 fun b j => .ret (appTys (ctr.g.rs.map RK.ty) (ioOf ctr.g.ps) a b, i ++ j)).run s2 (fun p _ => bif nodupB p.2 then some p.1 else none) []) = some y →
        a2.defers = [] ∧ ∃ v, (results fn a2.tmps).run P w2 = .ok v w2 ∧ K (a.put o.dst v) w2 := by
      intro hk
      obtain ⟨W, hr⟩ := hs2
      rw [RP.run_eq] at hk
      cases hex : (finRes T ctr.g.rs fn.results.toList fun a i => finIo ctr.g.ps 0 fun b j => .ret (appTys (ctr.g.rs.map RK.ty) (ioOf ctr.g.ps) a b, i ++ j)).exec s2 [] with
      | none => rw [hex] at hk; simp at hk
      | some q =>
        obtain ⟨⟨z, ids⟩, ks⟩ := q
        rw [hex] at hk
        simp only [Option.bind_some] at hk
        cases hnb : nodupB ids with
        | false => rw [hnb] at hk; simp at hk
        | true =>
          rw [hnb] at hk
          have hk : z = y := Option.some.inj hk
          subst hk
          obtain ⟨xa, ia, ks2, us, fa, ta, ra, m1, m2, m3, m4, m5, m6⟩ := finRes_exec hT hr _ _ _ _ hex
          obtain ⟨xb, ib, ks3, fb, tb, rb, n1, n2, n3, n4, n5⟩ := finIo_exec hr ctr.g.ps args 0 _ _ hlen (fun j v p hv hp hq => by rw [Nat.zero_add]; exact hr.pins j v (pinOf_get _ _ _ _ _ hv hp hq)) m1
          simp only [RP.exec, Option.some.injEq, Prod.mk.injEq] at n1
          obtain ⟨⟨rfl, rfl⟩, _⟩ := n1
          have hids : ∀ i ∈ ia ++ ib, (s2.ob i).isSome = true := fun i hi => (List.mem_append.1 hi).elim (m4 i) (n4 i)
          have hall := hr.blkNodup _ (nodupB_iff _ hnb) hids
          have hperm : (blk W (ia ++ ib)).Perm ((fa ++ fb) ++ (ra ++ rb)) := by rw [blk_append]; exact perm_two m3 n3
          have hpn := hperm.nodup_iff.1 hall
          rw [List.nodup_append] at hpn
          have inB : ∀ b, b ∈ fa ++ fb ∨ b ∈ ra ++ rb → ∃ i ∈ ia ++ ib, b ∈ fpOf W i := fun b hb => mem_blk.1 (hperm.mem_iff.2 (List.mem_append.2 hb))
          have org : ∀ b, b ∈ fa ++ fb ∨ b ∈ ra ++ rb → b ∈ tp ∨ b ∈ fp ∨ w.heap.size ≤ b := fun b hb => by
            obtain ⟨i, hi, hbi⟩ := inB b hb
            obtain ⟨hn2, q | q⟩ := fpOf_cases hbi
            · rw [q]; exact (hr.ownT i (hids i hi) hn2).imp id .inr
            · exact hr.ownN i (hids i hi) b q
          refine ⟨hr.def0, resV us, run_results m6, ?_⟩
          have tpfp := args_tops _ _ _ _ _ hargs
          have org2 : ∀ b, b ∈ fa ++ fb ∨ b ∈ ra ++ rb → b ∈ fp ∨ w.heap.size ≤ b := fun b hb => by
            rcases org b hb with k | k | k
            · exact .inl (tpfp b k)
            · exact .inl k
            · exact .inr k
          refine hK us w2 (plus W.I (ra ++ rb)) fa fb ta tb ?_ ?_ ?_
          · rw [split_app]; exact m2.mono plusL
          · rw [split_app]; exact n2.mono plusR
          · exact {
              nd := hpn.1
              imm := fun b hb k => by
                rcases k with k | k
                · obtain ⟨i, hi, hbi⟩ := inB b (.inl hb); exact hr.imm i (hids i hi) b hbi k
                · exact hpn.2.2 b hb b k rfl
              top := fun b hb => by
                have : ∃ i ∈ ia ++ ib, W.nl i = false ∧ b = W.η i := by
                  rcases List.mem_append.1 hb with k | k
                  · obtain ⟨i, hi, q⟩ := m5 b k; exact ⟨i, List.mem_append_left _ hi, q⟩
                  · obtain ⟨i, hi, q⟩ := n5 b k; exact ⟨i, List.mem_append_right _ hi, q⟩
                obtain ⟨i, hi, hn2, e⟩ := this
                rw [e]; exact hr.ownT i (hids i hi) hn2
              all := fun b hb => org2 b (.inl hb)
              sub := fun b hb => by
                rcases hb with k | k
                · rcases hr.from0 b k with q | q | q | q
                  · exact .inl q
                  · exact .inr (.inl (tpfp b q))
                  · exact .inr (.inl q)
                  · exact .inr (.inr q)
                · exact .inr (org2 b (.inr k))
              bnd := fun b hb => by
                rcases hb with k | k
                · exact hr.bnd b k
                · obtain ⟨i, hi, hbi⟩ := inB b (.inr k); exact hr.lt (hids i hi) b hbi
              old := fun b hb hn2 => hr.old b hb hn2
              size := hr.grown
              os := hr.os
              tape := hr.tape
              output := hr.output }
    cases e with
    | exit n => simp at hk
    | normal => exact fin hk
    | ret => exact fin hk
end
end Go.Rf
