/- Code. -/
import Derived.Test.YtaijmhaonokniaaRfZa
namespace Go.Rf
set_option linter.unusedVariables false
set_option linter.unusedSimpArgs false

section
variable {P : Program} {T : Tab} {E : Env} {A : Ann} {B : Base} {s s' : St} {a : Act} {w w' : World} {W W' : Wit} {f : Nat} {ops : Array Oper}
  {u : Upd} {Q : Exit → Act → World → Prop} {rs : List Key}

theorem rest_sound {ρ : Type} {K : St → Nat → Option ρ} {r : ρ} : ∀ (sh : Sh) (x : Tys (shTys sh)) (s : St) (f : Nat) (W : Wit) (fp tp : List Nat), Rel B (fun i => i < f) s a w W → ShOk w W.I a sh x fp tp → fp.Nodup → (∀ b ∈ fp, ¬ W.I b) →
    (∀ b ∈ fp, ∀ j, (s.ob j).isSome = true → b ∉ fpOf W j) → (∀ b ∈ fp, B.fpT b ∨ B.fpN b ∨ B.w0.heap.size ≤ b) → (∀ b ∈ tp, B.fpT b ∨ B.w0.heap.size ≤ b) → rest sh x s f K = some r → ∃ s' f', K s' f' = some r ∧ Sim B f' s' a w
  | [], _, s, f, W, _, _, h, _, _, _, _, _, _, he => ⟨s, f, he, W, h⟩
  | (i, .val t) :: sh, x, s, f, W, fp, tp, h, ⟨f1, f2, t1, t2, e1, e2, ⟨hF, how, ht⟩, hsh⟩, hnd, hI, hD, hB, hTp, he => by
    subst e1; subst e2; subst ht
    obtain ⟨os, p1, p2, p3, p4, p5, p6, p7⟩ := explode_new t _ _ f1 f how
    rw [List.nodup_append] at hnd
    obtain ⟨W', hR, hWI, hfp⟩ := h.adopt p3 p4 hnd.1 (fun b hb => hI b (List.mem_append_left _ hb)) (fun b hb => hD b (List.mem_append_left _ hb)) (fun b hb => hB b (List.mem_append_left _ hb))
      (fun b hb => hTp b (List.mem_append_left _ (by rw [p5]; exact hb))) p7 (form_rvn hF p6)
    have he : rest sh (tailTy t (shTys sh) x) (s.app [(i, mkRes [(isPair t, (explodeO t (headTy t (shTys sh) x) f).1)])] (explodeO t (headTy t (shTys sh) x) f).2.1) (explodeO t (headTy t (shTys sh) x) f).2.2 K = some r := he
    rw [p1, p2] at he
    refine rest_sound sh _ _ _ W' f2 t2 hR (by rw [hWI]; exact hsh) hnd.2.1 (fun b hb => by rw [hWI]; exact hI b (List.mem_append_right _ hb)) (fun b hb j hj hbj => ?_) (fun b hb => hB b (List.mem_append_right _ hb)) (fun b hb => hTp b (List.mem_append_right _ hb)) he
    rcases hfp j hj b hbj with k | ⟨k1, k2⟩
    · exact hnd.2.2 b k b hb rfl
    · exact hD b (List.mem_append_right _ hb) j k1 k2
  | (i, .ptr t) :: sh, x, s, f, W, fp, tp, h, ⟨f1, f2, t1, t2, e1, e2, ⟨g, cs, el, fi, hv, hf1, ht1, hh, how⟩, hsh⟩, hnd, hI, hD, hB, hTp, he => by
    subst e1; subst e2
    obtain ⟨os, p1, p2, p3, p4, p5, p7, p8, _⟩ := var_new (t := t) f (f + 1) hh how
    rw [List.nodup_append] at hnd
    have hpos : 0 < os.length := by obtain ⟨o, ho, _⟩ := p8; exact List.length_pos_of_mem ho
    have hlen : (explodeO t (headTy t (shTys sh) x) (f + 1)).2.2 = f + os.length := by omega
    have hids : os.map (·.id) = List.range' f os.length := by
      rw [p3]
      obtain ⟨n, hn⟩ : ∃ n, os.length = n + 1 := ⟨os.length - 1, by omega⟩
      rw [hn]; rfl
    have hrv : RVN w W.I os (false, [.pv f 0]) (a.tmps.getD i undef) := by
      unfold RVN
      rw [if_neg (by simp)]
      obtain ⟨o, ho, k1, k2, k3⟩ := p8
      exact ⟨_, [], rfl, ⟨o, ho, k1, ⟨_, k2⟩, by rw [hv, k3]⟩, rfl⟩
    obtain ⟨W', hR, hWI, hfp⟩ := h.adopt hids (hf1.trans p4) hnd.1 (fun b hb => hI b (List.mem_append_left _ hb)) (fun b hb => hD b (List.mem_append_left _ hb)) (fun b hb => hB b (List.mem_append_left _ hb))
      (fun b hb => hTp b (List.mem_append_left _ (by rw [ht1, p5]; exact hb))) p7 hrv
    have he : rest sh (tailTy t (shTys sh) x) (s.app [(i, .one (.pv f 0))] ((f, some (.var (explodeO t (headTy t (shTys sh) x) (f + 1)).1)) :: (explodeO t (headTy t (shTys sh) x) (f + 1)).2.1)) (explodeO t (headTy t (shTys sh) x) (f + 1)).2.2 K = some r := he
    rw [p1, hlen] at he
    refine rest_sound sh _ _ _ W' f2 t2 hR (by rw [hWI]; exact hsh) hnd.2.1 (fun b hb => by rw [hWI]; exact hI b (List.mem_append_right _ hb)) (fun b hb j hj hbj => ?_) (fun b hb => hB b (List.mem_append_right _ hb)) (fun b hb => hTp b (List.mem_append_right _ hb)) he
    rcases hfp j hj b hbj with k | ⟨k1, k2⟩
    · exact hnd.2.2 b k b hb rfl
    · exact hD b (List.mem_append_right _ hb) j k1 k2
  | (i, .dup j) :: sh, x, s, f, W, fp, tp, h, ⟨e, hsh⟩, hnd, hI, hD, hB, hTp, he => by
    have h2 := h.slot (i := i) (r := s.sl j) (by rw [e]; exact h.slots j) (h.mS j)
    exact rest_sound sh x _ f W fp tp h2 hsh hnd hI hD hB hTp he

def Good (B : Base) (h : Sh) (t : Tys (shTys h)) (a : Act) (w : World) : Prop :=
  ∀ (ρ : Type) (K : St → Nat → Option ρ) (r : ρ), rest h t St.empty 0 K = some r → ∃ s' f', K s' f' = some r ∧ Sim B f' s' a w

theorem ext_rest {h : Sh} {ρ : Type} {K : Tys (shTys h) → Option ρ} {z : ρ} (he : extS h s K = some z) (hs : Sim B f s a w) : ∃ t, K t = some z ∧ Good B h t a w := by
  obtain ⟨W, hr⟩ := hs
  unfold extS at he
  rw [RP.run_eq] at he
  cases hx : (ext h fun x ids => RP.ret (x, ids)).exec s [] with
  | none => rw [hx] at he; simp at he
  | some q =>
    rw [hx] at he
    obtain ⟨⟨t, ids⟩, rs2⟩ := q
    simp only [Option.bind_some] at he
    cases hnd : nodupB ids with
    | false => rw [hnd] at he; simp at he
    | true =>
      rw [hnd] at he
      simp only [cond_true] at he
      refine ⟨t, he, ?_⟩
      obtain ⟨x, ids2, rs3, fp, tp, fr, m1, m2, m3, m4, m5⟩ := ext_exec hr h _ _ hx
      simp only [RP.exec, Option.some.injEq, Prod.mk.injEq] at m1
      obtain ⟨⟨rfl, rfl⟩, _⟩ := m1
      intro ρ K r hrest
      have hall := hr.blkNodup ids2 (nodupB_iff _ hnd) m4
      have hpn := m3.nodup_iff.1 hall
      rw [List.nodup_append] at hpn
      have inB : ∀ b, b ∈ fp ∨ b ∈ fr → ∃ i ∈ ids2, b ∈ fpOf W i := fun b hb => mem_blk.1 (m3.mem_iff.2 (List.mem_append.2 hb))
      refine rest_sound h x St.empty 0 _ fp tp (hr.bare (fun b hb => inB b (.inr hb)) m4) m2 hpn.1 (fun b hb k => ?_) (fun b _ j hj => by simp [St.empty] at hj) (fun b hb => ?_) (fun b hb => ?_) hrest
      · rcases k with k | k
        · obtain ⟨i, hi, hbi⟩ := inB b (.inl hb); exact hr.imm i (m4 i hi) b hbi k
        · exact hpn.2.2 b hb b k rfl
      · obtain ⟨i, hi, hbi⟩ := inB b (.inl hb)
        obtain ⟨hn, q | q⟩ := fpOf_cases hbi
        · rw [q]; exact (hr.ownT i (m4 i hi) hn).imp id .inr
        · exact hr.ownN i (m4 i hi) b q
      · obtain ⟨i, hi, hn, e⟩ := m5 b hb
        rw [e]; exact hr.ownT i (m4 i hi) hn

theorem exEq_iff {e e' : Ex} (h : exEq e e' = true) : e = e' := by
  cases e <;> cases e' <;> first | rfl | (simp [exEq] at h; done) | skip
  rw [(nEq_iff _ _).1 h]

theorem inj_elim {e : Ex} (hs : Sim B f s a w) : ∀ (l : List (Ex × Sh)) {ρ : Type} (K1 : Outs l → Option ρ) (z : ρ), injO s e l K1 = some z →
    ∃ o, K1 o = some z ∧ ∀ (σ : Type) (K : Ex → St → Nat → Option σ) (r : σ), elimO l o K = some r → ∃ s' f', K e s' f' = some r ∧ Sim B f' s' a w
  | [], ρ, K1, z, h => by simp [injO] at h
  | [(e', h)], ρ, K1, z, he => by
    simp only [injO] at he
    cases hx : exEq e e' with
    | false => rw [hx] at he; simp at he
    | true =>
      rw [hx] at he
      have := exEq_iff hx
      subst this
      obtain ⟨t, k1, k2⟩ := ext_rest (show extS h s K1 = some z from he) hs
      exact ⟨t, k1, fun σ K r hr => k2 σ _ r hr⟩
  | (e', h) :: x :: l, ρ, K1, z, he => by
    simp only [injO] at he
    cases hx : exEq e e' with
    | false =>
      rw [hx] at he
      simp only [cond_false] at he
      obtain ⟨o, k1, k2⟩ := inj_elim hs (x :: l) _ z he
      exact ⟨.inr o, k1, fun σ K r hr => k2 σ K r hr⟩
    | true =>
      rw [hx] at he
      have := exEq_iff hx
      subst this
      obtain ⟨t, k1, k2⟩ := ext_rest (show extS h s (fun t => K1 (.inl t)) = some z from he) hs
      exact ⟨.inl t, k1, fun σ K r hr => k2 σ _ r hr⟩

def exOf : Ex → Exit
  | .normal => .normal
  | .exit n => .exit n
  | .ret => .ret

def CodeOk (B : Base) (c : Code) : Prop := ∀ d ∈ writes c, d < B.nt ∧ B.pin d = none

theorem inBlock_ok {id : Nat} {e : Ex} (h : Q (exOf (unblock id e)) a w) : Exit.inBlock id Q (exOf e) a w := by
  cases e with
  | normal => exact h
  | ret => exact h
  | exit m =>
    show Exit.inBlock id Q (.exit m) a w
    have e1 : unblock id (.exit m) = bif nEq m id then .normal else .exit m := rfl
    rw [e1] at h
    unfold Exit.inBlock
    by_cases hmi : m = id
    · rw [(nEq_iff m id).2 hmi] at h; simp only [if_pos hmi]; exact h
    · have hne : nEq m id = false := by cases hb : nEq m id with | false => rfl | true => exact absurd ((nEq_iff _ _).1 hb) hmi
      rw [hne] at h; simp only [if_neg hmi]; exact h

def IHs (P : Program) (T : Tab) (E : Env) (A : Ann) (B : Base) (c : Code) : Prop :=
  ∀ (ρ : Type) (s : St) (f : Nat) (K : Ex → St → Nat → Option ρ) (r : ρ) (a : Act) (w : World) (Q : Exit → Act → World → Prop), CodeOk B c →
    evC T E A c s f K = some r → Sim B f s a w → (∀ e s' f' a' w', K e s' f' = some r → Sim B f' s' a' w' → Q (exOf e) a' w') → c.wp P Q a w

theorem cond_sound {c : Operand} {x y : Code} (ix : IHs P T E A B x) (iy : IHs P T E A B y) : IHs P T E A B (.cond c x y) := by
  intro ρ s f K r a w Q hc he hs hQ
  simp only [evC] at he
  have hx : CodeOk B x := fun d hd => hc d (List.mem_append_left _ hd)
  have hy : CodeOk B y := fun d hd => hc d (List.mem_append_right _ hd)
  have fin : ∀ b : Bool, a.eval c = .bool b → (bif b then evC T E A x s f K else evC T E A y s f K) = some r → (Code.cond c x y).wp P Q a w := by
    intro b hb h2
    cases b with
    | true => exact wp_cond_true hb (ix ρ s f K r a w Q hx h2 hs hQ)
    | false => exact wp_cond_false hb (iy ρ s f K r a w Q hy h2 hs hQ)
  unfold condOf at he
  split at he
  · rename_i t
    obtain ⟨W, hr⟩ := hs
    have hv := hr.slots t
    split at he <;> try (simp at he; done)
    rename_i b hsl
    rw [hsl] at hv
    exact fin b hv.2 he
  · rename_i b; exact fin b rfl he
  · simp at he

theorem seq_sound {x y : Code} (ix : IHs P T E A B x) (iy : IHs P T E A B y) : IHs P T E A B (.seq x y) := by
  intro ρ s f K r a w Q hc he hs hQ
  have hx : CodeOk B x := fun d hd => hc d (List.mem_append_left _ hd)
  have hy : CodeOk B y := fun d hd => hc d (List.mem_append_right _ hd)
  simp only [evC] at he
  refine wp_seq ?_
  split at he
  · refine ix _ s f _ r a w _ hx he hs fun e s' f' a' w' hk hs' => ?_
    cases e with
    | normal => exact iy _ s' f' K r a' w' Q hy hk hs' hQ
    | exit n => exact hQ (.exit n) s' f' a' w' hk hs'
    | ret => exact hQ .ret s' f' a' w' hk hs'
  · rename_i exs _
    obtain ⟨o, h1, h2⟩ := Option.bind_eq_some_iff.1 he
    have fin : ∀ e s' f' a' w', injO s' e exs some = some o → Sim B f' s' a' w' → Q (exOf e) a' w' := fun e s' f' a' w' hk hs' => by
      obtain ⟨o', k1, k2⟩ := inj_elim hs' exs some o hk
      simp only [Option.some.injEq] at k1
      subst k1
      obtain ⟨s2, f2, q1, q2⟩ := k2 ρ K r h2
      exact hQ e s2 f2 a' w' q1 q2
    refine ix _ s f _ o a w _ hx h1 hs fun e s' f' a' w' hk hs' => ?_
    cases e with
    | normal => exact iy _ s' f' _ o a' w' Q hy hk hs' fun e s2 f2 a2 w2 hk2 hs2 => fin e s2 f2 a2 w2 hk2 hs2
    | exit n => exact fin (.exit n) s' f' a' w' hk hs'
    | ret => exact fin .ret s' f' a' w' hk hs'

theorem loop_sound {id : Nat} {bd : Code} (ib : IHs P T E A B bd) : IHs P T E A B (.block id (.loop bd)) := by
  intro ρ s f K r a w Q hc he hs hQ
  simp only [evC] at he
  split at he <;> try (simp at he; done)
  rename_i h exs _
  obtain ⟨o, h1, h2⟩ := Option.bind_eq_some_iff.1 he
  obtain ⟨t0, k1, k2⟩ := ext_rest h1 hs
  have fin : ∀ e s' f' a' w', injO s' e exs some = some o → Sim B f' s' a' w' → Q (exOf (unblock id e)) a' w' := fun e s' f' a' w' hk hs' => by
    obtain ⟨o', q1, q2⟩ := inj_elim hs' exs some o hk
    simp only [Option.some.injEq] at q1
    subst q1
    obtain ⟨s2, f2, q3, q4⟩ := q2 ρ _ r h2
    exact hQ _ s2 f2 a' w' q3 q4
  refine wp_block (wp_loop_rounds FUEL ?_)
  unfold lp at k1
  have key : ∀ (n : Nat) (t : Tys (shTys h)) (a : Act) (w : World), loopF (fun rec t => rest h t St.empty 0 fun s1 f1 => evC T E A bd s1 f1 (fun e s2 _ => match e with
      | .normal => extS h s2 rec
      | .exit n => injO s2 (.exit n) exs some
      | .ret => injO s2 .ret exs some)) n t = some o → Good B h t a w → Code.rounds P bd (Exit.inBlock id Q) n a w := by
    intro n
    induction n with
    | zero => intro t a w hl _; simp [loopF] at hl
    | succ n ih =>
      intro t a w hl hg
      simp only [loopF] at hl
      obtain ⟨s1, f1, q1, q2⟩ := hg _ _ _ hl
      rw [rounds_succ]
      refine ib _ s1 f1 _ o a w _ hc q1 q2 fun e s' f' a' w' hk hs' => ?_
      cases e with
      | normal =>
        obtain ⟨t', z1, z2⟩ := ext_rest hk hs'
        exact ih t' a' w' z1 z2
      | exit m => exact inBlock_ok (fin (.exit m) s' f' a' w' hk hs')
      | ret => exact inBlock_ok (fin .ret s' f' a' w' hk hs')
  exact key FUEL t0 a w k1 k2

theorem block_sound {id : Nat} {bd : Code} (ib : IHs P T E A B bd) (hev : ∀ (ρ : Type) (s : St) (f : Nat) (K : Ex → St → Nat → Option ρ), evC T E A (.block id bd) s f K = match lkp A.blocks id with
    | none => evC T E A bd s f (fun e s' f' => K (unblock id e) s' f')
    | some exs => (evC T E A bd s f (fun e s' _ => injO s' (unblock id e) exs some)).bind fun o => elimO exs o K) : IHs P T E A B (.block id bd) := by
  intro ρ s f K r a w Q hc he hs hQ
  rw [hev] at he
  refine wp_block ?_
  split at he
  · exact ib ρ s f _ r a w _ hc he hs fun e s' f' a' w' hk hs' => inBlock_ok (hQ _ s' f' a' w' hk hs')
  · rename_i exs _
    obtain ⟨o, h1, h2⟩ := Option.bind_eq_some_iff.1 he
    refine ib _ s f _ o a w _ hc h1 hs fun e s' f' a' w' hk hs' => inBlock_ok ?_
    obtain ⟨o', k1, k2⟩ := inj_elim hs' exs some o hk
    simp only [Option.some.injEq] at k1
    subst k1
    obtain ⟨s2, f2, q1, q2⟩ := k2 ρ K r h2
    exact hQ _ s2 f2 a' w' q1 q2

theorem code_all (hT : TabOk P T) (hE : EnvOk P E) (hm : P.follows .mixedOrders = true) (c : Code) : IHs P T E A B c ∧ ∀ b, c = .loop b → IHs P T E A B b := by
  induction c with
  | skip => exact ⟨fun ρ s f K r a w Q _ he hs hQ => wp_skip (hQ .normal s f a w (by simpa only [evC] using he) hs), by simp⟩
  | exit id => exact ⟨fun ρ s f K r a w Q _ he hs hQ => wp_exit (hQ (.exit id) s f a w (by simpa only [evC] using he) hs), by simp⟩
  | ret => exact ⟨fun ρ s f K r a w Q _ he hs hQ => wp_ret (hQ .ret s f a w (by simpa only [evC] using he) hs), by simp⟩
  | region id ops dr =>
    refine ⟨fun ρ s f K r a w Q hc he hs hQ => ?_, by simp⟩
    simp only [evC] at he
    exact region_sound hT hE hm (fun i o ho d hd => hc d (List.mem_filterMap.2 ⟨o, Array.mem_toList_iff.2 (Array.mem_of_getElem? ho), hd⟩)) he hs fun s' f' a' w' hk hs' => hQ .normal s' f' a' w' hk hs'
  | cond c x y ix iy => exact ⟨cond_sound ix.1 iy.1, by simp⟩
  | seq x y ix iy => exact ⟨seq_sound ix.1 iy.1, by simp⟩
  | loop b ib => exact ⟨fun ρ s f K r a w Q _ he => by simp [evC] at he, fun b' e => by simp only [Code.loop.injEq] at e; subst e; exact ib.1⟩
  | block id bd ib =>
    refine ⟨?_, by simp⟩
    cases bd with
    | loop b => exact loop_sound (ib.2 b rfl)
    | _ => exact block_sound ib.1 fun ρ s f K => by simp only [evC]; cases lkp A.blocks id <;> rfl
  | _ => exact ⟨fun ρ s f K r a w Q _ he => by simp [evC] at he, by simp⟩
end
end Go.Rf
