/- A call. -/
import Derived.Test.YtaijmhaonokniaaRfW
namespace Go.Rf
set_option linter.unusedVariables false
set_option linter.unusedSimpArgs false

section
variable {P : Program} {T : Tab} {E : Env} {B : Base} {Al Al' : Nat → Prop} {s s' : St} {a : Act} {w w' : World} {W W' : Wit} {o : Oper} {f : Nat}
  {ob ob' : Nat → Option Obj} {rs rs' : List Key} {u : Upd} {I I' : Nat → Prop}

theorem Ow.noR : ∀ (t : Ty), needR t = false → ∀ (x : t.den) cs fp, Ow w I t x cs fp → Ow w I' t x cs fp
  | .int _, _, _, _, _, h => h
  | .bool, _, _, _, _, h => h
  | .str, _, _, _, _, h => h
  | .sl false _, hn, _, _, _, _ => by simp [needR] at hn
  | .box _ _, hn, _, _, _, _ => by simp [needR] at hn
  | .sl true t, hn, _, _, _, h => by
    have hn : needR t = false := by simpa [needR] using hn
    rcases h with h | ⟨g, c, f, e1, e2, ces, rest, e, h4, h5, h6, h7⟩
    · exact .inl h
    · exact .inr ⟨g, c, f, e1, e2, ces, rest, e, h4, h5, h6, ChO.mono _ _ _ (fun x cs f' _ k => Ow.noR t hn x cs f' k) h7⟩
  | .pair a b, hn, _, _, _, ⟨c1, c2, f1, f2, e, e', h, h'⟩ => by
    simp only [needR, Bool.or_eq_false_iff] at hn
    exact ⟨c1, c2, f1, f2, e, e', Ow.noR a hn.1 _ _ _ h, Ow.noR b hn.2 _ _ _ h'⟩

theorem ArgOk.noR {p : PK} (hn : needR p.ty = false) {x : p.ty.den} {v : Value} {fp tp : List Nat} (h : ArgOk w I p x v fp tp) : ArgOk w I' p x v fp tp := by
  cases p with
  | val t => obtain ⟨h1, h2, h3⟩ := h; exact ⟨h1, Ow.noR t hn _ _ _ h2, h3⟩
  | io t => obtain ⟨h1, h2, h3⟩ := h; exact ⟨h1, Ow.noR t hn _ _ _ h2, h3⟩
  | ptr t => obtain ⟨g, cs, e, f, h1, h2, h3, h4, h5⟩ := h; exact ⟨g, cs, e, f, h1, h2, h3, h4, Ow.noR t hn _ _ _ h5⟩

theorem ResOk.noR : ∀ {rs : List RK}, anyR (rs.map RK.ty) = false → ∀ {us : List Value} {x : Tys (rs.map RK.ty)} {fp tp : List Nat}, ResOk w I rs us x fp tp → ResOk w I' rs us x fp tp
  | [], _, _, _, _, _, h => h
  | .val t :: rs, hn, _, _, _, _, ⟨v, vs', f1, f2, t1, t2, e1, e2, e3, h1, h2⟩ => by
    simp only [List.map_cons, anyR, Bool.or_eq_false_iff] at hn
    exact ⟨v, vs', f1, f2, t1, t2, e1, e2, e3, ArgOk.noR (p := .val t) hn.1 h1, ResOk.noR hn.2 h2⟩
  | .ptr t :: rs, hn, _, _, _, _, ⟨v, vs', f1, f2, t1, t2, e1, e2, e3, h1, h2⟩ => by
    simp only [List.map_cons, anyR, Bool.or_eq_false_iff] at hn
    exact ⟨v, vs', f1, f2, t1, t2, e1, e2, e3, ArgOk.noR (p := .ptr t) hn.1 h1, ResOk.noR hn.2 h2⟩

theorem BackOk.noR : ∀ {ps : List PK}, anyR (ioOf ps) = false → ∀ {us : List Value} {x : Tys (ioOf ps)} {fp tp : List Nat}, BackOk w I ps us x fp tp → BackOk w I' ps us x fp tp
  | [], _, _, _, _, _, h => h
  | .val t :: ps, hn, _, _, _, _, ⟨v, vs', e1, h⟩ => ⟨v, vs', e1, BackOk.noR (ps := ps) hn h⟩
  | .io t :: ps, hn, _, _, _, _, ⟨v, vs', f1, f2, t1, t2, e1, e2, e3, h1, h2⟩ => by
    have hn : needR t = false ∧ anyR (ioOf ps) = false := by simpa [ioOf, anyR] using hn
    exact ⟨v, vs', f1, f2, t1, t2, e1, e2, e3, ArgOk.noR (p := .io t) hn.1 h1, BackOk.noR hn.2 h2⟩
  | .ptr t :: ps, hn, _, _, _, _, ⟨v, vs', f1, f2, t1, t2, e1, e2, e3, h1, h2⟩ => by
    have hn : needR t = false ∧ anyR (ioOf ps) = false := by simpa [ioOf, anyR] using hn
    exact ⟨v, vs', f1, f2, t1, t2, e1, e2, e3, ArgOk.noR (p := .ptr t) hn.1 h1, BackOk.noR hn.2 h2⟩

theorem ResOk.mono (hS : ∀ b, I b → I' b) : ∀ {rs : List RK} {us : List Value} {x : Tys (rs.map RK.ty)} {fp tp : List Nat}, ResOk w I rs us x fp tp → ResOk w I' rs us x fp tp
  | [], _, _, _, _, h => h
  | .val t :: rs, _, _, _, _, ⟨v, vs', f1, f2, t1, t2, e1, e2, e3, h1, h2⟩ => ⟨v, vs', f1, f2, t1, t2, e1, e2, e3, h1.mono hS, ResOk.mono hS h2⟩
  | .ptr t :: rs, _, _, _, _, ⟨v, vs', f1, f2, t1, t2, e1, e2, e3, h1, h2⟩ => ⟨v, vs', f1, f2, t1, t2, e1, e2, e3, h1.mono hS, ResOk.mono hS h2⟩

theorem BackOk.mono (hS : ∀ b, I b → I' b) : ∀ {ps : List PK} {us : List Value} {x : Tys (ioOf ps)} {fp tp : List Nat}, BackOk w I ps us x fp tp → BackOk w I' ps us x fp tp
  | [], _, _, _, _, h => h
  | .val t :: ps, _, _, _, _, ⟨v, vs', e1, h⟩ => ⟨v, vs', e1, BackOk.mono (ps := ps) hS h⟩
  | .io t :: ps, _, _, _, _, ⟨v, vs', f1, f2, t1, t2, e1, e2, e3, h1, h2⟩ => ⟨v, vs', f1, f2, t1, t2, e1, e2, e3, h1.mono hS, BackOk.mono hS h2⟩
  | .ptr t :: ps, _, _, _, _, ⟨v, vs', f1, f2, t1, t2, e1, e2, e3, h1, h2⟩ => ⟨v, vs', f1, f2, t1, t2, e1, e2, e3, h1.mono hS, BackOk.mono hS h2⟩

theorem anyR_app : ∀ (a b : List Ty), anyR (a ++ b) = false → anyR a = false ∧ anyR b = false
  | [], b, h => ⟨rfl, h⟩
  | t :: a, b, h => by
    simp only [List.cons_append, anyR, Bool.or_eq_false_iff] at h ⊢
    obtain ⟨h1, h2⟩ := anyR_app a b h.2
    exact ⟨⟨h.1, h1⟩, h2⟩

theorem nodeep_ch {α : Type} {R : α → List Value → List Nat → Prop} : ∀ (xs : List α) cs fp, (∀ x cs f, R x cs f → f = []) → ChO R xs cs fp → fp = []
  | [], _, _, _, h => h.2
  | _ :: xs, _, _, hR, ⟨c1, c2, f1, f2, _, e, r, h⟩ => by rw [e, hR _ _ _ r, nodeep_ch xs c2 f2 hR h]; rfl

theorem noowns_fp : ∀ (t : Ty), t.owns = false → ∀ (x : t.den) cs fp, Ow w I t x cs fp → fp = []
  | .int _, _, _, _, _, h => h.2
  | .bool, _, _, _, _, h => h.2
  | .str, _, _, _, _, h => h.2
  | .sl false _, _, _, _, _, h => h.2
  | .box _ _, _, _, _, _, h => h.2
  | .sl true _, hn, _, _, _, _ => by simp [Ty.owns] at hn
  | .pair a b, hn, _, _, _, ⟨c1, c2, f1, f2, e, e', h, h'⟩ => by
    simp only [Ty.owns, Bool.or_eq_false_iff] at hn
    rw [e', noowns_fp a hn.1 _ _ _ h, noowns_fp b hn.2 _ _ _ h']; rfl

theorem nodeep : ∀ (t : Ty), t.deep = false → ∀ (x : t.den) cs fp, Ow w I t x cs fp → ∀ b ∈ fp, b ∈ tops t cs
  | .int _, _, _, _, _, h, b, hb => by rw [h.2] at hb; simp at hb
  | .bool, _, _, _, _, h, b, hb => by rw [h.2] at hb; simp at hb
  | .str, _, _, _, _, h, b, hb => by rw [h.2] at hb; simp at hb
  | .sl false _, _, _, _, _, h, b, hb => by rw [h.2] at hb; simp at hb
  | .box _ _, _, _, _, _, h, b, hb => by rw [h.2] at hb; simp at hb
  | .sl true t, hn, _, _, _, h, b, hb => by
    simp only [Ty.deep, Bool.or_eq_false_iff, Bool.true_and] at hn
    rcases h with ⟨_, _, e⟩ | ⟨g, c, f, e1, e2, ces, rest, e, h4, h5, h6, h7⟩
    · rw [e] at hb; simp at hb
    · have := nodeep_ch _ _ _ (fun x cs f k => noowns_fp t hn.1 x cs f k) h7
      subst this; subst e1; subst e2
      simpa [tops] using hb
  | .pair a c, hn, _, _, _, ⟨c1, c2, f1, f2, e, e', h, h'⟩, b, hb => by
    simp only [Ty.deep, Bool.or_eq_false_iff] at hn
    rw [e, tops_pair (Ow.size a _ _ _ h)]
    rw [e'] at hb
    rcases List.mem_append.1 hb with k | k
    · exact List.mem_append_left _ (nodeep a hn.1 _ _ _ h b k)
    · exact List.mem_append_right _ (nodeep c hn.2 _ _ _ h' b k)

theorem args_nodeep : ∀ (ps : List PK), deepAny (ps.map PK.ty) = false → ∀ (us : List Value) (x : Tys (ps.map PK.ty)) fp tp, ArgsOk w I ps us x fp tp → ∀ b ∈ fp, b ∈ tp
  | [], _, _, _, _, _, ⟨_, h, _⟩, b, hb => by rw [h] at hb; simp at hb
  | p :: ps, hn, _, _, _, _, ⟨v, vs', f1, f2, t1, t2, e1, e2, e3, h1, h2⟩, b, hb => by
    simp only [List.map_cons, deepAny, Bool.or_eq_false_iff] at hn
    rw [e2] at hb
    rw [e3]
    rcases List.mem_append.1 hb with k | k
    · refine List.mem_append_left _ ?_
      cases p with
      | val t => obtain ⟨_, q, e⟩ := h1; rw [e]; exact nodeep t hn.1 _ _ _ q b k
      | io t => obtain ⟨_, q, e⟩ := h1; rw [e]; exact nodeep t hn.1 _ _ _ q b k
      | ptr t =>
        obtain ⟨g, cs, e, f, q1, q2, q3, q4, q5⟩ := h1
        rw [q3]; rw [q2] at k
        rcases List.mem_cons.1 k with k | k
        · subst k; simp
        · exact List.mem_cons_of_mem _ (nodeep t hn.1 _ _ _ q5 b k)
    · exact List.mem_append_right _ (args_nodeep ps hn.2 _ _ _ _ h2 b k)

theorem mkRes_ok {os : List NewOb} {l : List (Bool × List Sc)} {us : List Value} (h : All2 (RVN w I os) l us) (hv : ∀ c v, VN w I os c v → Vs w W' ob' c v ∧ ∀ j, menS c j → Al' j) :
    AVr w W' ob' (mkRes l) (resV us) ∧ ∀ j, menA (mkRes l) j → Al' j := by
  have hall : ∀ {l : List Sc} {vs : List Value}, All2 (VN w I os) l vs → All2 (Vs w W' ob') l vs ∧ ∀ j, menL l j → Al' j := by
    intro l
    induction l with
    | nil => intro vs h; exact ⟨h, fun j ⟨c, hc, _⟩ => by simp at hc⟩
    | cons x l ih =>
      intro vs ⟨v, vs', e, p, q⟩
      obtain ⟨q1, q2⟩ := ih q
      obtain ⟨p1, p2⟩ := hv x v p
      refine ⟨⟨v, vs', e, p1, q1⟩, fun j ⟨c, hc, hj⟩ => ?_⟩
      rcases List.mem_cons.1 hc with k | k
      · subst k; exact p2 j hj
      · exact q2 j ⟨c, k, hj⟩
  have htup : ∀ {l : List (Bool × List Sc)} {us : List Value}, All2 (RVN w I os) l us → AVr w W' ob' (.tup l) (.tuple us.toArray) ∧ ∀ j, menA (.tup l) j → Al' j := by
    intro l us h
    refine ⟨⟨us, rfl, h.imp fun p _ u k => ?_⟩, fun j hj => ?_⟩
    · unfold RVN at k
      split
      · rename_i hb; rw [if_pos hb] at k; obtain ⟨vs, e, k⟩ := k; exact ⟨vs, e, (hall k).1⟩
      · rename_i hb; rw [if_neg hb] at k; exact (hall k).1
    · obtain ⟨p, hp, hj⟩ := hj
      have : ∀ {l : List (Bool × List Sc)} {us : List Value}, All2 (RVN w I os) l us → p ∈ l → ∃ u, RVN w I os p u := by
        intro l
        induction l with
        | nil => intro us _ hp; simp at hp
        | cons x l ih =>
          intro us ⟨v, vs', _, q, q'⟩ hp
          rcases List.mem_cons.1 hp with k | k
          · subst k; exact ⟨v, q⟩
          · exact ih q' k
      obtain ⟨u, k⟩ := this h hp
      unfold RVN at k
      split at k
      · obtain ⟨vs, e, k⟩ := k; exact (hall k).2 j hj
      · exact (hall k).2 j hj
  match l, us, h with
  | [], us, h => have h : us = [] := h; subst h; exact htup (l := []) rfl
  | [(true, cs)], us, ⟨u, us', e, p, p'⟩ =>
    have p' : us' = [] := p'
    subst p'; subst e
    unfold RVN at p
    obtain ⟨vs, e, k⟩ := p
    exact ⟨⟨vs, e, (hall k).1⟩, (hall k).2⟩
  | [(false, [c])], us, ⟨u, us', e, p, p'⟩ =>
    have p' : us' = [] := p'
    subst p'; subst e
    unfold RVN at p
    rw [if_neg (by simp)] at p
    obtain ⟨b, r, e, k, k'⟩ := p
    simp only [List.cons.injEq] at e
    obtain ⟨rfl, -⟩ := e
    exact hv c u k
  | [(false, [])], us, ⟨u, us', e, p, p'⟩ =>
    unfold RVN at p
    rw [if_neg (by simp)] at p
    have : [u] = [] := p
    simp at this
  | [(false, _ :: _ :: _)], us, ⟨u, us', e, p, p'⟩ =>
    unfold RVN at p
    rw [if_neg (by simp)] at p
    obtain ⟨b, r, e, k, b2, r2, e2, _⟩ := p
    rw [e2] at e
    simp at e
  | p :: q :: l, us, h =>
    have h2 := htup h
    obtain ⟨u, us', e, _, u2, us2, e2, _⟩ := h
    have : resV us = .tuple us.toArray := by rw [e, e2]; rfl
    rw [this]
    have hm : mkRes (p :: q :: l) = .tup (p :: q :: l) := by simp [mkRes]
    rw [hm]
    exact h2

theorem range_mem {os : List NewOb} {f n : Nat} (h : os.map (·.id) = List.range' f n) {o : NewOb} (ho : o ∈ os) : f ≤ o.id ∧ o.id < f + n := by
  have : o.id ∈ List.range' f n := by rw [← h]; exact List.mem_map.2 ⟨o, ho, rfl⟩
  rw [List.mem_range'_1] at this
  exact this

theorem Rel.hnil (h : Rel B Al s a w W) : ∀ id t (xs : List (Ty.den t)), s.ob id = some (.row t xs) → W.nl id = true → xs = [] := fun id t xs ho hn => by
  rcases h.row id t xs ho with ⟨_, e, _⟩ | ⟨e, _⟩
  · exact e
  · rw [e] at hn; simp at hn

theorem pick_ok : ∀ {cs : List Ctr} {vs : List AV} {ct : Ctr}, pickC cs vs = some ct → ct ∈ cs ∧ okArgs ct.g.ps vs = true
  | [], _, _, hp => by simp [pickC] at hp
  | x :: cs, vs, ct, hp => by
    unfold pickC at hp
    cases hx : okArgs x.g.ps vs with
    | true => rw [hx] at hp; simp only [cond_true, Option.some.injEq] at hp; subst hp; exact ⟨by simp, hx⟩
    | false => rw [hx] at hp; simp only [cond_false] at hp; obtain ⟨q1, q2⟩ := pick_ok hp; exact ⟨List.mem_cons_of_mem _ q1, q2⟩

theorem call_core {g : Nat} {ct : Ctr} {vs : List AV} {us : List Value} {rs1 : List Key} (hct : CtrOk P g ct) (h : Rel B Al s a w W) (hd : dstOk B o.dst) (hf : fresh Al f) (hok : okArgs ct.g.ps vs = true)
    (k1 : opsRel w W s.ob Al vs us) (hrun : (execOp a.eval o).run P w = (callFunc g us.toArray).run P w) (h1 : (callC ct vs o.dst f).exec s rs1 = some (u, rs')) : Done P B (Nu Al f) (s.up u) o a w := by
  unfold callC at h1
  obtain ⟨x, ids, sn, sf, pl, rs2, fp, tp, fr, m1, m2, m3, m4, m5, m6, m7, m8, m9⟩ := argsIn_exec h _ ct.g.ps vs us _ _ k1 hok h1
  clear h1
  obtain ⟨hck, m1⟩ := exec_bif m1
  simp only [Bool.and_eq_true, Bool.not_eq_true'] at hck
  obtain ⟨⟨c1, c2⟩, c3⟩ := hck
  have hnd := nodupB_iff _ c1
  cases hfn : ct.fn x with
  | none => rw [hfn] at m1; simp [RP.exec] at m1
  | some y =>
    rw [hfn] at m1
    simp only [RP.exec, Option.bind_some] at m1
    generalize hsp : splitTys (ct.g.rs.map RK.ty) (ioOf ct.g.ps) y = yy at m1
    obtain ⟨ya, yb⟩ := yy
    simp only at m1
    generalize hro : resOut ct.g.rs ya f = ro at m1
    obtain ⟨l, osr, f1⟩ := ro
    simp only at m1
    cases hob : outsBack ct.g.ps pl yb f1 with
    | none => rw [hob] at m1; simp [RP.exec] at m1
    | some ob2 =>
      obtain ⟨osb, f2⟩ := ob2
      rw [hob] at m1
      simp only at m1
      obtain ⟨hble, m1⟩ := exec_bif m1
      have hble : f2 ≤ f + idW := Nat.le_of_ble_eq_true hble
      rw [out_exec m1]
      have hall := h.blkNodup ids hnd m4
      have hpn := m3.nodup_iff.1 hall
      rw [List.nodup_append] at hpn
      obtain ⟨n1, n2, n3⟩ := hpn
      have inBlk : ∀ b, b ∈ fp ∨ b ∈ fr → b ∈ blk W ids := fun b hb => m3.mem_iff.2 (List.mem_append.2 hb)
      have bLt : ∀ b, b ∈ blk W ids → b < w.heap.size := fun b hb => by
        obtain ⟨i, hi, k⟩ := mem_blk.1 hb; exact h.lt (m4 i hi) b k
      have SSlt : ∀ b, SS W s.ob fr sn sf b → b < w.heap.size := fun b hb => by
        rcases hb with k | k | ⟨_, k⟩ | ⟨i, hi, hS, k⟩
        · exact bLt b (inBlk b (.inr k))
        · exact h.bnd b k
        · exact h.Jlt k
        · exact h.lt hS b k
      have fpSS : ∀ b ∈ fp, ¬ SS W s.ob fr sn sf b := fun b hb k => by
        obtain ⟨i, hi, hbi⟩ := mem_blk.1 (inBlk b (.inl hb))
        rcases k with k | k | ⟨hsf, k⟩ | ⟨j, hj, hS, k⟩
        · exact n3 b hb b k rfl
        · exact h.imm i (m4 i hi) b hbi k
        · rw [hsf] at c3
          have c3 : deepAny (ct.g.ps.map PK.ty) = false := by simpa using c3
          obtain ⟨q, hq, hn, e⟩ := m6 b (args_nodeep ct.g.ps c3 _ _ _ _ m2 b hb)
          exact h.notJ (m4 q hq) hn k e
        · have hij : i ≠ j := fun e => by
            have : meets ids sn = true := (meets_iff ids sn).2 ⟨j, e ▸ hi, hj⟩
            rw [this] at c2; simp at c2
          exact h.dis i j hij (m4 i hi) hS b hbi k
      intro K Q hK
      unfold Oper.wp
      rw [hrun]
      refine hct w us x _ fp tp y SSlt m2 n1 fpSS hfn o a K Q fun rv w' S' q1 q2 t1 t2 hres hback post => ?_
      rw [hsp] at hres hback
      simp only at hres hback
      -- what cannot turn any more
      let I' : Nat → Prop := fun b => W.I b ∨ ((b ∈ blk W ids ∨ w.heap.size ≤ b) ∧ b < w'.heap.size ∧ b ∉ q1 ++ q2)
      have hlift : ResOk w' I' ct.g.rs rv ya q1 t1 ∧ BackOk w' I' ct.g.ps us yb q2 t2 := by
        cases hh : anyR ct.g.outs with
        | false =>
          obtain ⟨z1, z2⟩ := anyR_app _ _ hh
          exact ⟨hres.noR z1, hback.noR z2⟩
        | true =>
          obtain ⟨e1, e2⟩ := m9 hh
          have hS : ∀ b, S' b → I' b := fun b hb => by
            by_cases hWI : W.I b
            · exact .inl hWI
            · refine .inr ⟨?_, post.bnd b hb, fun k => post.imm b k hb⟩
              rcases post.sub b hb with k | k | k
              · rcases k with k | k | ⟨hsf, _⟩ | ⟨i, hi, _⟩
                · exact .inl (inBlk b (.inr k))
                · exact absurd k hWI
                · rw [e2] at hsf; simp at hsf
                · rw [e1] at hi; simp at hi
              · exact .inl (inBlk b (.inl k))
              · exact .inr k
          exact ⟨hres.mono hS, hback.mono hS⟩
      obtain ⟨os1, a1, a2, a3, a4, a5, a6, a7⟩ := res_new ct.g.rs rv ya q1 t1 f hlift.1
      rw [hro] at a1 a2 a6
      simp only at a1 a2 a6
      obtain ⟨os2, n, b1, b2, b3, b4, b5, b6, b7⟩ := back_new (h.hnil) ct.g.ps us pl yb q2 t2 f1 f2 osb m7 hlift.2 hob
      have s1 : ∀ o ∈ os1, o ∈ os1 ++ os2 := fun o ho => List.mem_append_left _ ho
      have s2 : ∀ o ∈ os2, o ∈ os1 ++ os2 := fun o ho => List.mem_append_right _ ho
      have hfl : (os1 ++ os2).flatMap NewOb.fp = q1 ++ q2 := by rw [List.flatMap_append, ← a4, ← b4]
      have htl : (os1 ++ os2).flatMap NewOb.tp = t1 ++ t2 := by rw [List.flatMap_append, ← a5, ← b5]
      have pidAl : ∀ i ∈ pids pl, Al i := fun i hi => h.al i (m4 i (m8.subset hi))
      have ndP : (pids pl).Nodup := m8.nodup hnd
      have hndO : ((os1 ++ os2).map (·.id)).Nodup := by
        rw [List.map_append, List.nodup_append]
        refine ⟨by rw [a3]; exact List.nodup_range', ?_, fun i hi j hj e => ?_⟩
        · rw [b3.nodup_iff, List.nodup_append]
          refine ⟨ndP, List.nodup_range', fun i hi j hj e => ?_⟩
          subst e
          rw [List.mem_range'_1] at hj
          exact hf i (by omega) (by omega) (pidAl i hi)
        · subst e
          rw [a3, List.mem_range'_1] at hi
          rcases List.mem_append.1 (b3.mem_iff.1 hj) with k | k
          · exact hf i (by omega) (by omega) (pidAl i k)
          · rw [List.mem_range'_1] at k; omega
      have hnew : ∀ o ∈ os1 ++ os2, Nu Al f o.id ∧ (¬ Al o.id ∨ (Again W s.ob o ∧ o.id ∈ ids)) := fun o ho => by
        rcases List.mem_append.1 ho with k | k
        · have := range_mem a3 k
          exact ⟨.inr ⟨this.1, by omega⟩, .inl (hf o.id this.1 (by omega))⟩
        · have hmem : o.id ∈ pids pl ++ List.range' f1 n := b3.mem_iff.1 (List.mem_map.2 ⟨o, k, rfl⟩)
          rcases b7 o k with ⟨k1, k2⟩ | k1
          · exact ⟨.inr ⟨by omega, by omega⟩, .inl (hf o.id (by omega) (by omega))⟩
          · rcases List.mem_append.1 hmem with k2 | k2
            · exact ⟨.inl (pidAl _ k2), .inr ⟨k1, m8.subset k2⟩⟩
            · rw [List.mem_range'_1] at k2
              exact ⟨.inr ⟨by omega, by omega⟩, .inl (hf o.id (by omega) (by omega))⟩
      have inst : Inst B Al (Nu Al f) s W w w' ids (os1 ++ os2) I' (fun _ => False) :=
        { sub := fun i hi => .inl hi
          isS := m4
          ndO := hndO
          new := hnew
          I1 := fun b hb => .inl hb
          I2 := fun b hb => hb.imp id fun k => k.1
          I3 := fun b hb => hb.elim (fun k => Nat.lt_of_lt_of_le (h.bnd b k) post.size) fun k => k.2.1
          I4 := fun b hb k => by
            rw [hfl] at k
            rcases hb with q | q
            · rcases post.all b k with z | z
              · obtain ⟨i, hi, hbi⟩ := mem_blk.1 (inBlk b (.inl z))
                exact h.imm i (m4 i hi) b hbi q
              · have := h.bnd b q; omega
            · exact q.2.2 k
          ndB := by rw [hfl]; exact post.nd
          frD := fun _ h => h.elim
          frB := fun _ h => h.elim
          fpB := fun b hb => by rw [hfl] at hb; exact .inl ((post.all b hb).imp (fun z => inBlk b (.inl z)) id)
          tpB := fun b hb => by rw [htl] at hb; exact .inl ((post.top b hb).imp (fun z => m6 b z) id)
          heap := fun b hb hne => post.old b hb fun k => by obtain ⟨i, hi, hn, e⟩ := m6 b k; exact hne i hi hn e
          J := fun i hi b hb => by
            have hbf := h.nfFp (m4 i hi) hb
            by_cases hq : b ∈ q1 ++ q2
            · right
              rw [← hfl] at hq
              obtain ⟨o', ho', k⟩ := List.mem_flatMap.1 hq
              cases hn : o'.nl with
              | true => simp [NewOb.fp, hn] at k
              | false =>
                simp only [NewOb.fp, hn, cond_false] at k
                rcases List.mem_cons.1 k with k | k
                · have : b ∈ t1 ++ t2 := by rw [← htl]; exact List.mem_flatMap.2 ⟨o', ho', by simp [NewOb.tp, hn, k]⟩
                  rcases post.top b this with z | z
                  · obtain ⟨j, hj, hnj, e⟩ := m6 b z
                    exact absurd e (h.notJ (m4 j hj) hnj (.inr ⟨i, m4 i hi, hb⟩))
                  · have := h.lt (m4 i hi) b hbf; omega
                · exact ⟨o', ho', k⟩
            · exact .inl (.inr ⟨.inl (mem_blk.2 ⟨i, hi, hbf⟩), Nat.lt_of_lt_of_le (h.lt (m4 i hi) b hbf) post.size, hq⟩)
          ok := fun o ho => by
            rcases List.mem_append.1 ho with k | k
            · exact NOk.mono (fun _ h => h) s1 (a7 o k)
            · exact NOk.mono (fun _ h => h) s2 (b6 o k)
          size := post.size
          os' := post.os
          tape := post.tape
          output := post.output }
      obtain ⟨hvn, hR⟩ := h.install inst (ob' := updS s.ob (gone ids ++ osr ++ osb)) (fun j => by
        rw [a1, b1, List.append_assoc, ← List.map_append, updS_app, updS_os _ _ j hndO]
        cases at1 (os1 ++ os2) j with
        | some o => rfl
        | none => exact updS_gone' ids s.ob j)
      obtain ⟨z1, z2⟩ := mkRes_ok (a6.imp fun c _ v k => k.mono (fun _ h => h) s1) hvn
      exact hK _ _ ⟨_, hR o.dst _ _ hd z1 z2⟩

theorem st_call {c : Call} {g : Nat} (hE : EnvOk P E) (h : Rel B Al s a w W) (hd : dstOk B o.dst) (hf : fresh Al f) (hop : o.op = .call c) (hb : c.callee = .value (.func g)) (he : (step T E o f).exec s rs = some (u, rs')) : Done P B (Nu Al f) (s.up u) o a w := by
  simp only [step, hop] at he
  obtain ⟨vs, rs1, h1, k1⟩ := opds_exec h he
  clear he
  rw [hb] at h1
  simp only at h1
  cases hl : lkp E g with
  | none => rw [hl] at h1; simp [RP.exec] at h1
  | some cs =>
    rw [hl] at h1
    simp only at h1
    cases hp : pickC cs vs with
    | none => rw [hp] at h1; simp [RP.exec] at h1
    | some ct =>
      rw [hp] at h1
      simp only at h1
      obtain ⟨p1, p2⟩ := pick_ok hp
      generalize hus : c.args.toList.map a.eval = us at k1
      refine call_core (hE g cs hl ct p1) h hd hf p2 k1 ?_ h1
      have ha := args_of hus
      simp only [execOp, hop, resolve, hb, Act.eval, Deferred.ofValue, Sem.run_bind, Sem.run_pure, Result.andThen_ok, invoke, ha]
      simp

theorem explode_avs {ob : Nat → Option Obj} : ∀ {l : List Sc} {vs : List Value}, All2 (Vs w W ob) l vs → (∀ id, ¬ menL l id) → opsRel w W ob Al (l.map .one) vs
  | [], _, h, _ => h
  | c :: l, _, ⟨v, vs', e, p, q⟩, hm => ⟨v, vs', e, ⟨p, fun id hid => (hm id ⟨c, by simp, hid⟩).elim⟩, explode_avs q fun id ⟨s, h1, h2⟩ => hm id ⟨s, List.mem_cons_of_mem _ h1, h2⟩⟩

theorem opsRel.append {ob : Nat → Option Obj} : ∀ {l m : List AV} {vs us : List Value}, opsRel w W ob Al l vs → opsRel w W ob Al m us → opsRel w W ob Al (l ++ m) (vs ++ us) := fun h k => All2.append h k

theorem st_callv {c : Call} {i : Nat} (hE : EnvOk P E) (h : Rel B Al s a w W) (hd : dstOk B o.dst) (hf : fresh Al f) (hop : o.op = .call c) (hb : c.callee = .value (.tmp i)) (he : (step T E o f).exec s rs = some (u, rs')) : Done P B (Nu Al f) (s.up u) o a w := by
  simp only [step, hop] at he
  obtain ⟨vs, rs1, h1, k1⟩ := opds_exec h he
  clear he
  rw [hb] at h1
  simp only [RP.exec] at h1
  have hv := h.slots i
  split at h1 <;> try (simp [RP.exec] at h1; done)
  rename_i g t x hsl
  rw [hsl] at hv
  have hv2 : Rd w W.I (.box (some g) t) x [a.tmps.getD i undef] := hv.2
  obtain ⟨caps, ec, hr⟩ := hv2
  simp only [List.cons.injEq, and_true] at ec
  cases hl : lkp E g with
  | none => rw [hl] at h1; simp [RP.exec] at h1
  | some cs =>
    rw [hl] at h1
    simp only at h1
    cases hp : pickC cs (vs ++ (explode false false t x).map .one) with
    | none => rw [hp] at h1; simp [RP.exec] at h1
    | some ct =>
      rw [hp] at h1
      simp only at h1
      obtain ⟨p1, p2⟩ := pick_ok hp
      generalize hus : c.args.toList.map a.eval = us at k1
      have k2 : opsRel w W s.ob Al (vs ++ (explode false false t x).map .one) (us ++ caps) := k1.append (explode_avs (explode_rd (ob := s.ob) false t x caps hr) (explode_men _ _ _ _))
      refine call_core (hE g cs hl ct p1) h hd hf p2 k2 ?_ h1
      have ha := args_of hus
      have hcap : (us ++ caps).toArray = us.toArray ++ caps.toArray := by simp
      simp only [execOp, hop, resolve, hb, Act.eval, ec, Deferred.ofValue, Sem.run_bind, Sem.run_pure, Result.andThen_ok, invoke, ha, hcap]
      simp

/-! ### a function made -/

def RdBox (w : World) (I : Nat → Prop) (t : Ty) (x : t.den) (v : Value) : Prop := Rd w I (.box none t) x [v]

theorem frz1_exec (h : Rel B Al s a w W) {α : Type} {r : α × List Key} {v : AV} {u : Value} {K : (t : Ty) → t.den → Nat → RP α} {rs : List Key} (hv : AVr w W s.ob v u) (he : (frz1 v K).exec s rs = some r) :
    ∃ t x id rs2, (K t x id).exec s rs2 = some r ∧ (∃ l, s.ob id = some (.var l)) ∧ ∀ I' : Nat → Prop, I' (W.η id) → RdBox w I' t x u := by
  unfold frz1 at he
  split at he <;> try (simp [RP.exec] at he; done)
  rename_i id off
  obtain ⟨hoff, he5⟩ := exec_bif he
  clear he
  have hoff := (nEq_iff _ _).1 hoff
  subst hoff
  obtain ⟨b, e, k⟩ := hv.2
  simp only [RP.exec] at he5
  have fin : ∀ (t : Ty) (x : t.den) (c : Sc), s.ob id = some (.var [c]) → (∀ y, VsC w W s.ob c y → ∀ I' : Nat → Prop, Rd w I' t x [y]) → ∀ I' : Nat → Prop, I' (W.η id) → RdBox w I' t x u := by
    intro t x c ho hc I' hI
    obtain ⟨_, _, vs0, el, hh, y, ys, e1, p1, p2⟩ := h.var id [c] ho
    have p2 : ys = [] := p2
    subst p2; subst e1
    have hb := k _ ho
    subst hb
    exact ⟨W.η id, 0, by rw [e]; rfl, .inr ⟨⟨W.η id, 0, none⟩, _, el, _, [], [y], [], rfl, rfl, hI, hh, by simp, rfl, [y], [], by simp, hc y p1.2 I', rfl⟩⟩
  split at he5 <;> try (simp [RP.exec] at he5; done)
  · rename_i kk n ho
    exact ⟨_, _, id, _, he5, ⟨_, ho⟩, fin (.int kk) n _ ho fun y hy I' => by rw [show y = _ from hy]; rfl⟩
  · rename_i ss ho
    exact ⟨_, _, id, _, he5, ⟨_, ho⟩, fin .str ss _ ho fun y hy I' => by rw [show y = _ from hy]; rfl⟩
  · rename_i bb ho
    exact ⟨_, _, id, _, he5, ⟨_, ho⟩, fin .bool bb _ ho fun y hy I' => by rw [show y = _ from hy]; rfl⟩

theorem frz_exec (h : Rel B Al s a w W) {α : Type} {r : α × List Key} : ∀ {vs : List AV} {us : List Value} {K : (t : Ty) → t.den → List Nat → RP α} {rs : List Key}, opsRel w W s.ob Al vs us → (frz vs K).exec s rs = some r →
    ∃ t x ids rs2, (K t x ids).exec s rs2 = some r ∧ (∀ i ∈ ids, ∃ l, s.ob i = some (.var l)) ∧ ∀ I' : Nat → Prop, (∀ i ∈ ids, I' (W.η i)) → Rd w I' t x us
  | [], _, _, _, _, he => by simp [frz, RP.exec] at he
  | [v], _, K, rs, ⟨u, us', e, p, q⟩, he => by
    have q : us' = [] := q
    subst q; subst e
    simp only [frz] at he
    obtain ⟨t, x, id, rs2, k1, k2, k3⟩ := frz1_exec h p.1 he
    exact ⟨.box none t, x, [id], rs2, k1, fun i hi => by rw [List.mem_singleton.1 hi]; exact k2, fun I' hI => k3 I' (hI id (by simp))⟩
  | v :: v2 :: vs, _, K, rs, ⟨u, us', e, p, q⟩, he => by
    subst e
    simp only [frz] at he
    obtain ⟨t, x, id, rs2, k1, k2, k3⟩ := frz1_exec h p.1 he
    obtain ⟨t', x', ids, rs3, m1, m2, m3⟩ := frz_exec h (vs := v2 :: vs) q k1
    refine ⟨.pair (.box none t) t', (x, x'), id :: ids, rs3, m1, fun i hi => ?_, fun I' hI => ⟨[u], us', rfl, k3 I' (hI id (by simp)), m3 I' fun i hi => hI i (List.mem_cons_of_mem _ hi)⟩⟩
    rcases List.mem_cons.1 hi with z | z
    · subst z; exact k2
    · exact m2 i z

theorem st_makeFunc {fn : Fn} {first caps : Array Operand} (h : Rel B Al s a w W) (hd : dstOk B o.dst) (hop : o.op = .makeFunc fn first caps) (he : (step T E o f).exec s rs = some (u, rs')) : Done P B Al (s.up u) o a w := by
  simp only [step, hop] at he
  split at he <;> try (simp [RP.exec] at he; done)
  rename_i g
  obtain ⟨hsz, he⟩ := exec_bif' he
  have hsz : first.size = 0 := Nat.eq_of_beq_eq_true (by simpa using hsz)
  have hfirst : first = #[] := Array.eq_empty_of_size_eq_zero hsz
  subst hfirst
  obtain ⟨vs, rs1, h1, k1⟩ := opds_exec h he
  clear he
  generalize hus : caps.toList.map a.eval = us at k1
  obtain ⟨t, x, ids, rs2, m1, m2, m3⟩ := frz_exec h k1 h1
  obtain ⟨_, m1⟩ := exec_chk m1
  rw [out_exec m1]
  let I' : Nat → Prop := fun b => W.I b ∨ b ∈ blk W ids
  have isS : ∀ i ∈ ids, (s.ob i).isSome = true := fun i hi => by obtain ⟨l, e⟩ := m2 i hi; rw [e]; rfl
  have inst : Inst B Al Al s W w w ids [] I' (fun _ => False) :=
    { sub := fun _ h => h
      isS := isS
      ndO := by simp
      new := by simp
      I1 := fun b hb => .inl hb
      I2 := fun b hb => hb.imp id .inl
      I3 := fun b hb => hb.elim (h.bnd b) fun k => by obtain ⟨i, hi, q⟩ := mem_blk.1 k; exact h.lt (isS i hi) b q
      I4 := by simp
      ndB := by simp
      frD := fun _ h => h.elim
      frB := fun _ h => h.elim
      fpB := by simp
      tpB := by simp
      heap := fun _ _ _ => rfl
      J := fun i hi b hb => by obtain ⟨l, e⟩ := m2 i hi; have := (h.var i l e).2.1; rw [this] at hb; simp at hb
      ok := by simp
      size := Nat.le_refl _
      os' := rfl
      tape := rfl
      output := rfl }
  obtain ⟨hvn, hR⟩ := h.install inst (ob' := updS s.ob (gone ids)) (fun j => updS_gone' ids s.ob j)
  have hrd : Rd w I' t x us := m3 I' fun i hi => .inr (mem_blk.2 ⟨i, hi, by
    obtain ⟨l, e⟩ := m2 i hi
    have := (h.var i l e).1
    simp [fpOf, this]⟩)
  have hcaps : (caps.map a.eval) = us.toArray := by
    apply Array.ext'; rw [Array.toList_map, hus]
  obtain ⟨z1, z2⟩ := hvn (.bx false (some g) t x) (.func (.func g) #[] us.toArray) ⟨us, rfl, hrd⟩
  intro K Q hK
  unfold Oper.wp
  have hrun : (execOp a.eval o).run P w = .ok (.value (.func (.func g) #[] us.toArray)) w := by
    simp [execOp, hop, Instr.makeFunc, hcaps]
  rw [hrun]
  exact hK _ _ ⟨_, hR o.dst (.one (.bx false (some g) t x)) _ hd z1 z2⟩
end
end Go.Rf
