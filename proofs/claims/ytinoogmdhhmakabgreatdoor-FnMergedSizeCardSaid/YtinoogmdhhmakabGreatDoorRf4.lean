/- A walk by reflection, part 4. -/
import Derived.LoopN
import Derived.Test.YtinoogmdhhmakabGreatDoorRf3

/- A call. -/
namespace Go.Rf
set_option linter.unusedVariables false
set_option linter.unusedSimpArgs false

section
variable {P : Program} {T : Tab} {E : Env} {B : Base} {Al Al' : Nat → Prop} {s s' : St} {a : Act} {w w' : World} {W W' : Wit} {o : Oper} {f : Nat}
  {ob ob' : Nat → Option Obj} {rs rs' : List Key} {u : Upd} {I I' : Nat → Prop}

theorem Ow.noR : ∀ (t : Ty), needR t = false → ∀ (x : t.den) cs fp, Ow w I t x cs fp → Ow w I' t x cs fp
  | .int _, _, _, _, _, h => h
  | .bool, _, _, _, _, h => h
  | .str, _, _, _, _, h => h
  | .sl false _, hn, _, _, _, _ => by simp [needR] at hn
  | .box _ _, hn, _, _, _, _ => by simp [needR] at hn
  | .sl true t, hn, _, _, _, h => by
    have hn : needR t = false := by simpa [needR] using hn
    rcases h with h | ⟨g, c, f, e1, e2, ces, rest, e, h4, h5, h6, h7⟩
    · exact .inl h
    · exact .inr ⟨g, c, f, e1, e2, ces, rest, e, h4, h5, h6, ChO.mono _ _ _ (fun x cs f' _ k => Ow.noR t hn x cs f' k) h7⟩
  | .pair a b, hn, _, _, _, ⟨c1, c2, f1, f2, e, e', h, h'⟩ => by
    simp only [needR, Bool.or_eq_false_iff] at hn
    exact ⟨c1, c2, f1, f2, e, e', Ow.noR a hn.1 _ _ _ h, Ow.noR b hn.2 _ _ _ h'⟩

theorem ArgOk.noR {p : PK} (hn : needR p.ty = false) {x : p.ty.den} {v : Value} {fp tp : List Nat} (h : ArgOk w I p x v fp tp) : ArgOk w I' p x v fp tp := by
  cases p with
  | val t => obtain ⟨h1, h2, h3⟩ := h; exact ⟨h1, Ow.noR t hn _ _ _ h2, h3⟩
  | io t => obtain ⟨h1, h2, h3⟩ := h; exact ⟨h1, Ow.noR t hn _ _ _ h2, h3⟩
  | ptr t => obtain ⟨g, cs, e, f, h1, h2, h3, h4, h5⟩ := h; exact ⟨g, cs, e, f, h1, h2, h3, h4, Ow.noR t hn _ _ _ h5⟩

theorem ResOk.noR : ∀ {rs : List RK}, anyR (rs.map RK.ty) = false → ∀ {us : List Value} {x : Tys (rs.map RK.ty)} {fp tp : List Nat}, ResOk w I rs us x fp tp → ResOk w I' rs us x fp tp
  | [], _, _, _, _, _, h => h
  | .val t :: rs, hn, _, _, _, _, ⟨v, vs', f1, f2, t1, t2, e1, e2, e3, h1, h2⟩ => by
    simp only [List.map_cons, anyR, Bool.or_eq_false_iff] at hn
    exact ⟨v, vs', f1, f2, t1, t2, e1, e2, e3, ArgOk.noR (p := .val t) hn.1 h1, ResOk.noR hn.2 h2⟩
  | .ptr t :: rs, hn, _, _, _, _, ⟨v, vs', f1, f2, t1, t2, e1, e2, e3, h1, h2⟩ => by
    simp only [List.map_cons, anyR, Bool.or_eq_false_iff] at hn
    exact ⟨v, vs', f1, f2, t1, t2, e1, e2, e3, ArgOk.noR (p := .ptr t) hn.1 h1, ResOk.noR hn.2 h2⟩

theorem BackOk.noR : ∀ {ps : List PK}, anyR (ioOf ps) = false → ∀ {us : List Value} {x : Tys (ioOf ps)} {fp tp : List Nat}, BackOk w I ps us x fp tp → BackOk w I' ps us x fp tp
  | [], _, _, _, _, _, h => h
  | .val t :: ps, hn, _, _, _, _, ⟨v, vs', e1, h⟩ => ⟨v, vs', e1, BackOk.noR (ps := ps) hn h⟩
  | .io t :: ps, hn, _, _, _, _, ⟨v, vs', f1, f2, t1, t2, e1, e2, e3, h1, h2⟩ => by
    have hn : needR t = false ∧ anyR (ioOf ps) = false := by simpa [ioOf, anyR] using hn
    exact ⟨v, vs', f1, f2, t1, t2, e1, e2, e3, ArgOk.noR (p := .io t) hn.1 h1, BackOk.noR hn.2 h2⟩
  | .ptr t :: ps, hn, _, _, _, _, ⟨v, vs', f1, f2, t1, t2, e1, e2, e3, h1, h2⟩ => by
    have hn : needR t = false ∧ anyR (ioOf ps) = false := by simpa [ioOf, anyR] using hn
    exact ⟨v, vs', f1, f2, t1, t2, e1, e2, e3, ArgOk.noR (p := .ptr t) hn.1 h1, BackOk.noR hn.2 h2⟩

theorem ResOk.mono (hS : ∀ b, I b → I' b) : ∀ {rs : List RK} {us : List Value} {x : Tys (rs.map RK.ty)} {fp tp : List Nat}, ResOk w I rs us x fp tp → ResOk w I' rs us x fp tp
  | [], _, _, _, _, h => h
  | .val t :: rs, _, _, _, _, ⟨v, vs', f1, f2, t1, t2, e1, e2, e3, h1, h2⟩ => ⟨v, vs', f1, f2, t1, t2, e1, e2, e3, h1.mono hS, ResOk.mono hS h2⟩
  | .ptr t :: rs, _, _, _, _, ⟨v, vs', f1, f2, t1, t2, e1, e2, e3, h1, h2⟩ => ⟨v, vs', f1, f2, t1, t2, e1, e2, e3, h1.mono hS, ResOk.mono hS h2⟩

theorem BackOk.mono (hS : ∀ b, I b → I' b) : ∀ {ps : List PK} {us : List Value} {x : Tys (ioOf ps)} {fp tp : List Nat}, BackOk w I ps us x fp tp → BackOk w I' ps us x fp tp
  | [], _, _, _, _, h => h
  | .val t :: ps, _, _, _, _, ⟨v, vs', e1, h⟩ => ⟨v, vs', e1, BackOk.mono (ps := ps) hS h⟩
  | .io t :: ps, _, _, _, _, ⟨v, vs', f1, f2, t1, t2, e1, e2, e3, h1, h2⟩ => ⟨v, vs', f1, f2, t1, t2, e1, e2, e3, h1.mono hS, BackOk.mono hS h2⟩
  | .ptr t :: ps, _, _, _, _, ⟨v, vs', f1, f2, t1, t2, e1, e2, e3, h1, h2⟩ => ⟨v, vs', f1, f2, t1, t2, e1, e2, e3, h1.mono hS, BackOk.mono hS h2⟩

theorem anyR_app : ∀ (a b : List Ty), anyR (a ++ b) = false → anyR a = false ∧ anyR b = false
  | [], b, h => ⟨rfl, h⟩
  | t :: a, b, h => by
    simp only [List.cons_append, anyR, Bool.or_eq_false_iff] at h ⊢
    obtain ⟨h1, h2⟩ := anyR_app a b h.2
    exact ⟨⟨h.1, h1⟩, h2⟩

theorem nodeep_ch {α : Type} {R : α → List Value → List Nat → Prop} : ∀ (xs : List α) cs fp, (∀ x cs f, R x cs f → f = []) → ChO R xs cs fp → fp = []
  | [], _, _, _, h => h.2
  | _ :: xs, _, _, hR, ⟨c1, c2, f1, f2, _, e, r, h⟩ => by rw [e, hR _ _ _ r, nodeep_ch xs c2 f2 hR h]; rfl

theorem noowns_fp : ∀ (t : Ty), t.owns = false → ∀ (x : t.den) cs fp, Ow w I t x cs fp → fp = []
  | .int _, _, _, _, _, h => h.2
  | .bool, _, _, _, _, h => h.2
  | .str, _, _, _, _, h => h.2
  | .sl false _, _, _, _, _, h => h.2
  | .box _ _, _, _, _, _, h => h.2
  | .sl true _, hn, _, _, _, _ => by simp [Ty.owns] at hn
  | .pair a b, hn, _, _, _, ⟨c1, c2, f1, f2, e, e', h, h'⟩ => by
    simp only [Ty.owns, Bool.or_eq_false_iff] at hn
    rw [e', noowns_fp a hn.1 _ _ _ h, noowns_fp b hn.2 _ _ _ h']; rfl

theorem nodeep : ∀ (t : Ty), t.deep = false → ∀ (x : t.den) cs fp, Ow w I t x cs fp → ∀ b ∈ fp, b ∈ tops t cs
  | .int _, _, _, _, _, h, b, hb => by rw [h.2] at hb; simp at hb
  | .bool, _, _, _, _, h, b, hb => by rw [h.2] at hb; simp at hb
  | .str, _, _, _, _, h, b, hb => by rw [h.2] at hb; simp at hb
  | .sl false _, _, _, _, _, h, b, hb => by rw [h.2] at hb; simp at hb
  | .box _ _, _, _, _, _, h, b, hb => by rw [h.2] at hb; simp at hb
  | .sl true t, hn, _, _, _, h, b, hb => by
    simp only [Ty.deep, Bool.or_eq_false_iff, Bool.true_and] at hn
    rcases h with ⟨_, _, e⟩ | ⟨g, c, f, e1, e2, ces, rest, e, h4, h5, h6, h7⟩
    · rw [e] at hb; simp at hb
    · have := nodeep_ch _ _ _ (fun x cs f k => noowns_fp t hn.1 x cs f k) h7
      subst this; subst e1; subst e2
      simpa [tops] using hb
  | .pair a c, hn, _, _, _, ⟨c1, c2, f1, f2, e, e', h, h'⟩, b, hb => by
    simp only [Ty.deep, Bool.or_eq_false_iff] at hn
    rw [e, tops_pair (Ow.size a _ _ _ h)]
    rw [e'] at hb
    rcases List.mem_append.1 hb with k | k
    · exact List.mem_append_left _ (nodeep a hn.1 _ _ _ h b k)
    · exact List.mem_append_right _ (nodeep c hn.2 _ _ _ h' b k)

theorem args_nodeep : ∀ (ps : List PK), deepAny (ps.map PK.ty) = false → ∀ (us : List Value) (x : Tys (ps.map PK.ty)) fp tp, ArgsOk w I ps us x fp tp → ∀ b ∈ fp, b ∈ tp
  | [], _, _, _, _, _, ⟨_, h, _⟩, b, hb => by rw [h] at hb; simp at hb
  | p :: ps, hn, _, _, _, _, ⟨v, vs', f1, f2, t1, t2, e1, e2, e3, h1, h2⟩, b, hb => by
    simp only [List.map_cons, deepAny, Bool.or_eq_false_iff] at hn
    rw [e2] at hb
    rw [e3]
    rcases List.mem_append.1 hb with k | k
    · refine List.mem_append_left _ ?_
      cases p with
      | val t => obtain ⟨_, q, e⟩ := h1; rw [e]; exact nodeep t hn.1 _ _ _ q b k
      | io t => obtain ⟨_, q, e⟩ := h1; rw [e]; exact nodeep t hn.1 _ _ _ q b k
      | ptr t =>
        obtain ⟨g, cs, e, f, q1, q2, q3, q4, q5⟩ := h1
        rw [q3]; rw [q2] at k
        rcases List.mem_cons.1 k with k | k
        · subst k; simp
        · exact List.mem_cons_of_mem _ (nodeep t hn.1 _ _ _ q5 b k)
    · exact List.mem_append_right _ (args_nodeep ps hn.2 _ _ _ _ h2 b k)

theorem mkRes_ok {os : List NewOb} {l : List (Bool × List Sc)} {us : List Value} (h : All2 (RVN w I os) l us) (hv : ∀ c v, VN w I os c v → Vs w W' ob' c v ∧ ∀ j, menS c j → Al' j) :
    AVr w W' ob' (mkRes l) (resV us) ∧ ∀ j, menA (mkRes l) j → Al' j := by
  have hall : ∀ {l : List Sc} {vs : List Value}, All2 (VN w I os) l vs → All2 (Vs w W' ob') l vs ∧ ∀ j, menL l j → Al' j := by
    intro l
    induction l with
    | nil => intro vs h; exact ⟨h, fun j ⟨c, hc, _⟩ => by simp at hc⟩
    | cons x l ih =>
      intro vs ⟨v, vs', e, p, q⟩
      obtain ⟨q1, q2⟩ := ih q
      obtain ⟨p1, p2⟩ := hv x v p
      refine ⟨⟨v, vs', e, p1, q1⟩, fun j ⟨c, hc, hj⟩ => ?_⟩
      rcases List.mem_cons.1 hc with k | k
      · subst k; exact p2 j hj
      · exact q2 j ⟨c, k, hj⟩
  have htup : ∀ {l : List (Bool × List Sc)} {us : List Value}, All2 (RVN w I os) l us → AVr w W' ob' (.tup l) (.tuple us.toArray) ∧ ∀ j, menA (.tup l) j → Al' j := by
    intro l us h
    refine ⟨⟨us, rfl, h.imp fun p _ u k => ?_⟩, fun j hj => ?_⟩
    · unfold RVN at k
      split
      · rename_i hb; rw [if_pos hb] at k; obtain ⟨vs, e, k⟩ := k; exact ⟨vs, e, (hall k).1⟩
      · rename_i hb; rw [if_neg hb] at k; exact (hall k).1
    · obtain ⟨p, hp, hj⟩ := hj
      have : ∀ {l : List (Bool × List Sc)} {us : List Value}, All2 (RVN w I os) l us → p ∈ l → ∃ u, RVN w I os p u := by
        intro l
        induction l with
        | nil => intro us _ hp; simp at hp
        | cons x l ih =>
          intro us ⟨v, vs', _, q, q'⟩ hp
          rcases List.mem_cons.1 hp with k | k
          · subst k; exact ⟨v, q⟩
          · exact ih q' k
      obtain ⟨u, k⟩ := this h hp
      unfold RVN at k
      split at k
      · obtain ⟨vs, e, k⟩ := k; exact (hall k).2 j hj
      · exact (hall k).2 j hj
  match l, us, h with
  | [], us, h => have h : us = [] := h; subst h; exact htup (l := []) rfl
  | [(true, cs)], us, ⟨u, us', e, p, p'⟩ =>
    have p' : us' = [] := p'
    subst p'; subst e
    unfold RVN at p
    obtain ⟨vs, e, k⟩ := p
    exact ⟨⟨vs, e, (hall k).1⟩, (hall k).2⟩
  | [(false, [c])], us, ⟨u, us', e, p, p'⟩ =>
    have p' : us' = [] := p'
    subst p'; subst e
    unfold RVN at p
    rw [if_neg (by simp)] at p
    obtain ⟨b, r, e, k, k'⟩ := p
    simp only [List.cons.injEq] at e
    obtain ⟨rfl, -⟩ := e
    exact hv c u k
  | [(false, [])], us, ⟨u, us', e, p, p'⟩ =>
    unfold RVN at p
    rw [if_neg (by simp)] at p
    have : [u] = [] := p
    simp at this
  | [(false, _ :: _ :: _)], us, ⟨u, us', e, p, p'⟩ =>
    unfold RVN at p
    rw [if_neg (by simp)] at p
    obtain ⟨b, r, e, k, b2, r2, e2, _⟩ := p
    rw [e2] at e
    simp at e
  | p :: q :: l, us, h =>
    have h2 := htup h
    obtain ⟨u, us', e, _, u2, us2, e2, _⟩ := h
    have : resV us = .tuple us.toArray := by rw [e, e2]; rfl
    rw [this]
    have hm : mkRes (p :: q :: l) = .tup (p :: q :: l) := by simp [mkRes]
    rw [hm]
    exact h2

theorem range_mem {os : List NewOb} {f n : Nat} (h : os.map (·.id) = List.range' f n) {o : NewOb} (ho : o ∈ os) : f ≤ o.id ∧ o.id < f + n := by
  have : o.id ∈ List.range' f n := by rw [← h]; exact List.mem_map.2 ⟨o, ho, rfl⟩
  rw [List.mem_range'_1] at this
  exact this

theorem Rel.hnil (h : Rel B Al s a w W) : ∀ id t (xs : List (Ty.den t)), s.ob id = some (.row t xs) → W.nl id = true → xs = [] := fun id t xs ho hn => by
  rcases h.row id t xs ho with ⟨_, e, _⟩ | ⟨e, _⟩
  · exact e
  · rw [e] at hn; simp at hn

theorem pick_ok : ∀ {cs : List Ctr} {vs : List AV} {ct : Ctr}, pickC cs vs = some ct → ct ∈ cs ∧ okArgs ct.g.ps vs = true
  | [], _, _, hp => by simp [pickC] at hp
  | x :: cs, vs, ct, hp => by
    unfold pickC at hp
    cases hx : okArgs x.g.ps vs with
    | true => rw [hx] at hp; simp only [cond_true, Option.some.injEq] at hp; subst hp; exact ⟨by simp, hx⟩
    | false => rw [hx] at hp; simp only [cond_false] at hp; obtain ⟨q1, q2⟩ := pick_ok hp; exact ⟨List.mem_cons_of_mem _ q1, q2⟩

theorem call_core [Laid] {g : Nat} {ct : Ctr} {vs : List AV} {us : List Value} {rs1 : List Key} (hct : CtrOk P g ct) (hL : Laid.L B.w0) (hO : ∀ b, B.fpT b ∨ B.fpN b → ¬ Laid.lb b) (h : Rel B Al s a w W) (hd : dstOk B o.dst) (hf : fresh Al f) (hok : okArgs ct.g.ps vs = true)
    (k1 : opsRel w W s.ob Al vs us) (hrun : (execOp a.eval o).run P w = (callFunc g us.toArray).run P w) (h1 : (callC ct vs o.dst f).exec s rs1 = some (u, rs')) : Done P B (Nu Al f) (s.up u) o a w := by
  unfold callC at h1
  obtain ⟨x, ids, sn, sf, pl, rs2, fp, tp, fr, m1, m2, m3, m4, m5, m6, m7, m8, m9⟩ := argsIn_exec h _ ct.g.ps vs us _ _ k1 hok h1
  clear h1
  obtain ⟨hck, m1⟩ := exec_bif m1
  simp only [Bool.and_eq_true, Bool.not_eq_true'] at hck
  obtain ⟨⟨c1, c2⟩, c3⟩ := hck
  have hnd := nodupB_iff _ c1
  cases hfn : ct.fn x with
  | none => rw [hfn] at m1; simp [RP.exec] at m1
  | some y =>
    rw [hfn] at m1
    simp only [RP.exec, Option.bind_some] at m1
    generalize hsp : splitTys (ct.g.rs.map RK.ty) (ioOf ct.g.ps) y = yy at m1
    obtain ⟨ya, yb⟩ := yy
    simp only at m1
    generalize hro : resOut ct.g.rs ya f = ro at m1
    obtain ⟨l, osr, f1⟩ := ro
    simp only at m1
    cases hob : outsBack ct.g.ps pl yb f1 with
    | none => rw [hob] at m1; simp [RP.exec] at m1
    | some ob2 =>
      obtain ⟨osb, f2⟩ := ob2
      rw [hob] at m1
      simp only at m1
      obtain ⟨hble, m1⟩ := exec_bif m1
      have hble : f2 ≤ f + idW := Nat.le_of_ble_eq_true hble
      rw [out_exec m1]
      have hall := h.blkNodup ids hnd m4
      have hpn := m3.nodup_iff.1 hall
      rw [List.nodup_append] at hpn
      obtain ⟨n1, n2, n3⟩ := hpn
      have inBlk : ∀ b, b ∈ fp ∨ b ∈ fr → b ∈ blk W ids := fun b hb => m3.mem_iff.2 (List.mem_append.2 hb)
      have bLt : ∀ b, b ∈ blk W ids → b < w.heap.size := fun b hb => by
        obtain ⟨i, hi, k⟩ := mem_blk.1 hb; exact h.lt (m4 i hi) b k
      have SSlt : ∀ b, SS W s.ob fr sn sf b → b < w.heap.size := fun b hb => by
        rcases hb with k | k | ⟨_, k⟩ | ⟨i, hi, hS, k⟩
        · exact bLt b (inBlk b (.inr k))
        · exact h.bnd b k
        · exact h.Jlt k
        · exact h.lt hS b k
      have fpSS : ∀ b ∈ fp, ¬ SS W s.ob fr sn sf b := fun b hb k => by
        obtain ⟨i, hi, hbi⟩ := mem_blk.1 (inBlk b (.inl hb))
        rcases k with k | k | ⟨hsf, k⟩ | ⟨j, hj, hS, k⟩
        · exact n3 b hb b k rfl
        · exact h.imm i (m4 i hi) b hbi k
        · rw [hsf] at c3
          have c3 : deepAny (ct.g.ps.map PK.ty) = false := by simpa using c3
          obtain ⟨q, hq, hn, e⟩ := m6 b (args_nodeep ct.g.ps c3 _ _ _ _ m2 b hb)
          exact h.notJ (m4 q hq) hn k e
        · have hij : i ≠ j := fun e => by
            have : meets ids sn = true := (meets_iff ids sn).2 ⟨j, e ▸ hi, hj⟩
            rw [this] at c2; simp at c2
          exact h.dis i j hij (m4 i hi) hS b hbi k
      intro K Q hK
      unfold Oper.wp
      rw [hrun]
      have hLw : Laid.L w := Laid.keep B.w0 w (fun b hb => h.old b (Laid.bnd _ _ hL hb) fun k => hO b (.inl k) hb) hL
      have hLf : ∀ b ∈ fp, ¬ Laid.lb b := fun b hb hl => by
        obtain ⟨i, hi, hbi⟩ := mem_blk.1 (inBlk b (.inl hb))
        have hlt := Laid.bnd _ _ hL hl
        unfold fpOf at hbi
        cases hn : W.nl i with
        | true => rw [hn] at hbi; simp at hbi
        | false =>
          rw [hn] at hbi
          rcases List.mem_cons.1 hbi with e | k
          · rcases h.ownT i (m4 i hi) hn with q | q
            · exact hO b (.inl (e ▸ q)) hl
            · rw [← e] at q; omega
          · rcases h.ownN i (m4 i hi) b k with q | q | q
            · exact hO b (.inl q) hl
            · exact hO b (.inr q) hl
            · omega
      refine hct w us x _ fp tp y SSlt m2 n1 fpSS hLw hLf hfn o a K Q fun rv w' S' q1 q2 t1 t2 hres hback post => ?_
      rw [hsp] at hres hback
      simp only at hres hback
      -- what cannot turn any more
      let I' : Nat → Prop := fun b => W.I b ∨ ((b ∈ blk W ids ∨ w.heap.size ≤ b) ∧ b < w'.heap.size ∧ b ∉ q1 ++ q2)
      have hlift : ResOk w' I' ct.g.rs rv ya q1 t1 ∧ BackOk w' I' ct.g.ps us yb q2 t2 := by
        cases hh : anyR ct.g.outs with
        | false =>
          obtain ⟨z1, z2⟩ := anyR_app _ _ hh
          exact ⟨hres.noR z1, hback.noR z2⟩
        | true =>
          obtain ⟨e1, e2⟩ := m9 hh
          have hS : ∀ b, S' b → I' b := fun b hb => by
            by_cases hWI : W.I b
            · exact .inl hWI
            · refine .inr ⟨?_, post.bnd b hb, fun k => post.imm b k hb⟩
              rcases post.sub b hb with k | k | k
              · rcases k with k | k | ⟨hsf, _⟩ | ⟨i, hi, _⟩
                · exact .inl (inBlk b (.inr k))
                · exact absurd k hWI
                · rw [e2] at hsf; simp at hsf
                · rw [e1] at hi; simp at hi
              · exact .inl (inBlk b (.inl k))
              · exact .inr k
          exact ⟨hres.mono hS, hback.mono hS⟩
      obtain ⟨os1, a1, a2, a3, a4, a5, a6, a7⟩ := res_new ct.g.rs rv ya q1 t1 f hlift.1
      rw [hro] at a1 a2 a6
      simp only at a1 a2 a6
      obtain ⟨os2, n, b1, b2, b3, b4, b5, b6, b7⟩ := back_new (h.hnil) ct.g.ps us pl yb q2 t2 f1 f2 osb m7 hlift.2 hob
      have s1 : ∀ o ∈ os1, o ∈ os1 ++ os2 := fun o ho => List.mem_append_left _ ho
      have s2 : ∀ o ∈ os2, o ∈ os1 ++ os2 := fun o ho => List.mem_append_right _ ho
      have hfl : (os1 ++ os2).flatMap NewOb.fp = q1 ++ q2 := by rw [List.flatMap_append, ← a4, ← b4]
      have htl : (os1 ++ os2).flatMap NewOb.tp = t1 ++ t2 := by rw [List.flatMap_append, ← a5, ← b5]
      have pidAl : ∀ i ∈ pids pl, Al i := fun i hi => h.al i (m4 i (m8.subset hi))
      have ndP : (pids pl).Nodup := m8.nodup hnd
      have hndO : ((os1 ++ os2).map (·.id)).Nodup := by
        rw [List.map_append, List.nodup_append]
        refine ⟨by rw [a3]; exact List.nodup_range', ?_, fun i hi j hj e => ?_⟩
        · rw [b3.nodup_iff, List.nodup_append]
          refine ⟨ndP, List.nodup_range', fun i hi j hj e => ?_⟩
          subst e
          rw [List.mem_range'_1] at hj
          exact hf i (by omega) (by omega) (pidAl i hi)
        · subst e
          rw [a3, List.mem_range'_1] at hi
          rcases List.mem_append.1 (b3.mem_iff.1 hj) with k | k
          · exact hf i (by omega) (by omega) (pidAl i k)
          · rw [List.mem_range'_1] at k; omega
      have hnew : ∀ o ∈ os1 ++ os2, Nu Al f o.id ∧ (¬ Al o.id ∨ (Again W s.ob o ∧ o.id ∈ ids)) := fun o ho => by
        rcases List.mem_append.1 ho with k | k
        · have := range_mem a3 k
          exact ⟨.inr ⟨this.1, by omega⟩, .inl (hf o.id this.1 (by omega))⟩
        · have hmem : o.id ∈ pids pl ++ List.range' f1 n := b3.mem_iff.1 (List.mem_map.2 ⟨o, k, rfl⟩)
          rcases b7 o k with ⟨k1, k2⟩ | k1
          · exact ⟨.inr ⟨by omega, by omega⟩, .inl (hf o.id (by omega) (by omega))⟩
          · rcases List.mem_append.1 hmem with k2 | k2
            · exact ⟨.inl (pidAl _ k2), .inr ⟨k1, m8.subset k2⟩⟩
            · rw [List.mem_range'_1] at k2
              exact ⟨.inr ⟨by omega, by omega⟩, .inl (hf o.id (by omega) (by omega))⟩
      have inst : Inst B Al (Nu Al f) s W w w' ids (os1 ++ os2) I' (fun _ => False) :=
        { sub := fun i hi => .inl hi
          isS := m4
          ndO := hndO
          new := hnew
          I1 := fun b hb => .inl hb
          I2 := fun b hb => hb.imp id fun k => k.1
          I3 := fun b hb => hb.elim (fun k => Nat.lt_of_lt_of_le (h.bnd b k) post.size) fun k => k.2.1
          I4 := fun b hb k => by
            rw [hfl] at k
            rcases hb with q | q
            · rcases post.all b k with z | z
              · obtain ⟨i, hi, hbi⟩ := mem_blk.1 (inBlk b (.inl z))
                exact h.imm i (m4 i hi) b hbi q
              · have := h.bnd b q; omega
            · exact q.2.2 k
          ndB := by rw [hfl]; exact post.nd
          frD := fun _ h => h.elim
          frB := fun _ h => h.elim
          fpB := fun b hb => by rw [hfl] at hb; exact .inl ((post.all b hb).imp (fun z => inBlk b (.inl z)) id)
          tpB := fun b hb => by rw [htl] at hb; exact .inl ((post.top b hb).imp (fun z => m6 b z) id)
          heap := fun b hb hne => post.old b hb fun k => by obtain ⟨i, hi, hn, e⟩ := m6 b k; exact hne i hi hn e
          J := fun i hi b hb => by
            have hbf := h.nfFp (m4 i hi) hb
            by_cases hq : b ∈ q1 ++ q2
            · right
              rw [← hfl] at hq
              obtain ⟨o', ho', k⟩ := List.mem_flatMap.1 hq
              cases hn : o'.nl with
              | true => simp [NewOb.fp, hn] at k
              | false =>
                simp only [NewOb.fp, hn, cond_false] at k
                rcases List.mem_cons.1 k with k | k
                · have : b ∈ t1 ++ t2 := by rw [← htl]; exact List.mem_flatMap.2 ⟨o', ho', by simp [NewOb.tp, hn, k]⟩
                  rcases post.top b this with z | z
                  · obtain ⟨j, hj, hnj, e⟩ := m6 b z
                    exact absurd e (h.notJ (m4 j hj) hnj (.inr ⟨i, m4 i hi, hb⟩))
                  · have := h.lt (m4 i hi) b hbf; omega
                · exact ⟨o', ho', k⟩
            · exact .inl (.inr ⟨.inl (mem_blk.2 ⟨i, hi, hbf⟩), Nat.lt_of_lt_of_le (h.lt (m4 i hi) b hbf) post.size, hq⟩)
          ok := fun o ho => by
            rcases List.mem_append.1 ho with k | k
            · exact NOk.mono (fun _ h => h) s1 (a7 o k)
            · exact NOk.mono (fun _ h => h) s2 (b6 o k)
          size := post.size
          os' := post.os
          tape := post.tape
          output := post.output }
      obtain ⟨hvn, hR⟩ := h.install inst (ob' := updS s.ob (gone ids ++ osr ++ osb)) (fun j => by
        rw [a1, b1, List.append_assoc, ← List.map_append, updS_app, updS_os _ _ j hndO]
        cases at1 (os1 ++ os2) j with
        | some o => rfl
        | none => exact updS_gone' ids s.ob j)
      obtain ⟨z1, z2⟩ := mkRes_ok (a6.imp fun c _ v k => k.mono (fun _ h => h) s1) hvn
      exact hK _ _ ⟨_, hR o.dst _ _ hd z1 z2⟩

theorem st_call [Laid] {c : Call} {g : Nat} (hE : EnvB P E B) (h : Rel B Al s a w W) (hd : dstOk B o.dst) (hf : fresh Al f) (hop : o.op = .call c) (hb : c.callee = .value (.func g)) (he : (step T E o f).exec s rs = some (u, rs')) : Done P B (Nu Al f) (s.up u) o a w := by
  simp only [step, hop] at he
  obtain ⟨vs, rs1, h1, k1⟩ := opds_exec h he
  clear he
  rw [hb] at h1
  simp only at h1
  cases hl : lkp E g with
  | none => rw [hl] at h1; simp [RP.exec] at h1
  | some cs =>
    rw [hl] at h1
    simp only at h1
    cases hp : pickC cs vs with
    | none => rw [hp] at h1; simp [RP.exec] at h1
    | some ct =>
      rw [hp] at h1
      simp only at h1
      obtain ⟨p1, p2⟩ := pick_ok hp
      generalize hus : c.args.toList.map a.eval = us at k1
      refine call_core (hE.env g cs hl ct p1) hE.laid hE.off h hd hf p2 k1 ?_ h1
      have ha := args_of hus
      simp only [execOp, hop, resolve, hb, Act.eval, Deferred.ofValue, Sem.run_bind, Sem.run_pure, Result.andThen_ok, invoke, ha]
      simp

theorem explode_avs {ob : Nat → Option Obj} : ∀ {l : List Sc} {vs : List Value}, All2 (Vs w W ob) l vs → (∀ id, ¬ menL l id) → opsRel w W ob Al (l.map .one) vs
  | [], _, h, _ => h
  | c :: l, _, ⟨v, vs', e, p, q⟩, hm => ⟨v, vs', e, ⟨p, fun id hid => (hm id ⟨c, by simp, hid⟩).elim⟩, explode_avs q fun id ⟨s, h1, h2⟩ => hm id ⟨s, List.mem_cons_of_mem _ h1, h2⟩⟩

theorem opsRel.append {ob : Nat → Option Obj} : ∀ {l m : List AV} {vs us : List Value}, opsRel w W ob Al l vs → opsRel w W ob Al m us → opsRel w W ob Al (l ++ m) (vs ++ us) := fun h k => All2.append h k

theorem st_callv [Laid] {c : Call} {i : Nat} (hE : EnvB P E B) (h : Rel B Al s a w W) (hd : dstOk B o.dst) (hf : fresh Al f) (hop : o.op = .call c) (hb : c.callee = .value (.tmp i)) (he : (step T E o f).exec s rs = some (u, rs')) : Done P B (Nu Al f) (s.up u) o a w := by
  simp only [step, hop] at he
  obtain ⟨vs, rs1, h1, k1⟩ := opds_exec h he
  clear he
  rw [hb] at h1
  simp only [RP.exec] at h1
  have hv := h.slots i
  split at h1 <;> try (simp [RP.exec] at h1; done)
  rename_i g t x hsl
  rw [hsl] at hv
  have hv2 : Rd w W.I (.box (some g) t) x [a.tmps.getD i undef] := hv.2
  obtain ⟨caps, ec, hr⟩ := hv2
  simp only [List.cons.injEq, and_true] at ec
  cases hl : lkp E g with
  | none => rw [hl] at h1; simp [RP.exec] at h1
  | some cs =>
    rw [hl] at h1
    simp only at h1
    cases hp : pickC cs (vs ++ (explode false false t x).map .one) with
    | none => rw [hp] at h1; simp [RP.exec] at h1
    | some ct =>
      rw [hp] at h1
      simp only at h1
      obtain ⟨p1, p2⟩ := pick_ok hp
      generalize hus : c.args.toList.map a.eval = us at k1
      have k2 : opsRel w W s.ob Al (vs ++ (explode false false t x).map .one) (us ++ caps) := k1.append (explode_avs (explode_rd (ob := s.ob) false t x caps hr) (explode_men _ _ _ _))
      refine call_core (hE.env g cs hl ct p1) hE.laid hE.off h hd hf p2 k2 ?_ h1
      have ha := args_of hus
      have hcap : (us ++ caps).toArray = us.toArray ++ caps.toArray := by simp
      simp only [execOp, hop, resolve, hb, Act.eval, ec, Deferred.ofValue, Sem.run_bind, Sem.run_pure, Result.andThen_ok, invoke, ha, hcap]
      simp

/-! ### a function made -/

def RdBox (w : World) (I : Nat → Prop) (t : Ty) (x : t.den) (v : Value) : Prop := Rd w I (.box none t) x [v]

theorem frz1_exec (h : Rel B Al s a w W) {α : Type} {r : α × List Key} {v : AV} {u : Value} {K : (t : Ty) → t.den → Nat → RP α} {rs : List Key} (hv : AVr w W s.ob v u) (he : (frz1 v K).exec s rs = some r) :
    ∃ t x id rs2, (K t x id).exec s rs2 = some r ∧ (∃ l, s.ob id = some (.var l)) ∧ ∀ I' : Nat → Prop, I' (W.η id) → RdBox w I' t x u := by
  unfold frz1 at he
  split at he <;> try (simp [RP.exec] at he; done)
  rename_i id off
  obtain ⟨hoff, he5⟩ := exec_bif he
  clear he
  have hoff := (nEq_iff _ _).1 hoff
  subst hoff
  obtain ⟨b, e, k⟩ := hv.2
  simp only [RP.exec] at he5
  have fin : ∀ (t : Ty) (x : t.den) (c : Sc), s.ob id = some (.var [c]) → (∀ y, VsC w W s.ob c y → ∀ I' : Nat → Prop, Rd w I' t x [y]) → ∀ I' : Nat → Prop, I' (W.η id) → RdBox w I' t x u := by
    intro t x c ho hc I' hI
    obtain ⟨_, _, vs0, el, hh, y, ys, e1, p1, p2⟩ := h.var id [c] ho
    have p2 : ys = [] := p2
    subst p2; subst e1
    have hb := k _ ho
    subst hb
    exact ⟨W.η id, 0, by rw [e]; rfl, .inr ⟨⟨W.η id, 0, none⟩, _, el, _, [], [y], [], rfl, rfl, hI, hh, by simp, rfl, [y], [], by simp, hc y p1.2 I', rfl⟩⟩
  split at he5 <;> try (simp [RP.exec] at he5; done)
  · rename_i kk n ho
    exact ⟨_, _, id, _, he5, ⟨_, ho⟩, fin (.int kk) n _ ho fun y hy I' => by rw [show y = _ from hy]; rfl⟩
  · rename_i ss ho
    exact ⟨_, _, id, _, he5, ⟨_, ho⟩, fin .str ss _ ho fun y hy I' => by rw [show y = _ from hy]; rfl⟩
  · rename_i bb ho
    exact ⟨_, _, id, _, he5, ⟨_, ho⟩, fin .bool bb _ ho fun y hy I' => by rw [show y = _ from hy]; rfl⟩

theorem frz_exec (h : Rel B Al s a w W) {α : Type} {r : α × List Key} : ∀ {vs : List AV} {us : List Value} {K : (t : Ty) → t.den → List Nat → RP α} {rs : List Key}, opsRel w W s.ob Al vs us → (frz vs K).exec s rs = some r →
    ∃ t x ids rs2, (K t x ids).exec s rs2 = some r ∧ (∀ i ∈ ids, ∃ l, s.ob i = some (.var l)) ∧ ∀ I' : Nat → Prop, (∀ i ∈ ids, I' (W.η i)) → Rd w I' t x us
  | [], _, _, _, _, he => by simp [frz, RP.exec] at he
  | [v], _, K, rs, ⟨u, us', e, p, q⟩, he => by
    have q : us' = [] := q
    subst q; subst e
    simp only [frz] at he
    obtain ⟨t, x, id, rs2, k1, k2, k3⟩ := frz1_exec h p.1 he
    exact ⟨.box none t, x, [id], rs2, k1, fun i hi => by rw [List.mem_singleton.1 hi]; exact k2, fun I' hI => k3 I' (hI id (by simp))⟩
  | v :: v2 :: vs, _, K, rs, ⟨u, us', e, p, q⟩, he => by
    subst e
    simp only [frz] at he
    obtain ⟨t, x, id, rs2, k1, k2, k3⟩ := frz1_exec h p.1 he
    obtain ⟨t', x', ids, rs3, m1, m2, m3⟩ := frz_exec h (vs := v2 :: vs) q k1
    refine ⟨.pair (.box none t) t', (x, x'), id :: ids, rs3, m1, fun i hi => ?_, fun I' hI => ⟨[u], us', rfl, k3 I' (hI id (by simp)), m3 I' fun i hi => hI i (List.mem_cons_of_mem _ hi)⟩⟩
    rcases List.mem_cons.1 hi with z | z
    · subst z; exact k2
    · exact m2 i z

theorem st_makeFunc {fn : Fn} {first caps : Array Operand} (h : Rel B Al s a w W) (hd : dstOk B o.dst) (hop : o.op = .makeFunc fn first caps) (he : (step T E o f).exec s rs = some (u, rs')) : Done P B Al (s.up u) o a w := by
  simp only [step, hop] at he
  split at he <;> try (simp [RP.exec] at he; done)
  rename_i g
  obtain ⟨hsz, he⟩ := exec_bif' he
  have hsz : first.size = 0 := Nat.eq_of_beq_eq_true (by simpa using hsz)
  have hfirst : first = #[] := Array.eq_empty_of_size_eq_zero hsz
  subst hfirst
  obtain ⟨vs, rs1, h1, k1⟩ := opds_exec h he
  clear he
  generalize hus : caps.toList.map a.eval = us at k1
  obtain ⟨t, x, ids, rs2, m1, m2, m3⟩ := frz_exec h k1 h1
  obtain ⟨_, m1⟩ := exec_chk m1
  rw [out_exec m1]
  let I' : Nat → Prop := fun b => W.I b ∨ b ∈ blk W ids
  have isS : ∀ i ∈ ids, (s.ob i).isSome = true := fun i hi => by obtain ⟨l, e⟩ := m2 i hi; rw [e]; rfl
  have inst : Inst B Al Al s W w w ids [] I' (fun _ => False) :=
    { sub := fun _ h => h
      isS := isS
      ndO := by simp
      new := by simp
      I1 := fun b hb => .inl hb
      I2 := fun b hb => hb.imp id .inl
      I3 := fun b hb => hb.elim (h.bnd b) fun k => by obtain ⟨i, hi, q⟩ := mem_blk.1 k; exact h.lt (isS i hi) b q
      I4 := by simp
      ndB := by simp
      frD := fun _ h => h.elim
      frB := fun _ h => h.elim
      fpB := by simp
      tpB := by simp
      heap := fun _ _ _ => rfl
      J := fun i hi b hb => by obtain ⟨l, e⟩ := m2 i hi; have := (h.var i l e).2.1; rw [this] at hb; simp at hb
      ok := by simp
      size := Nat.le_refl _
      os' := rfl
      tape := rfl
      output := rfl }
  obtain ⟨hvn, hR⟩ := h.install inst (ob' := updS s.ob (gone ids)) (fun j => updS_gone' ids s.ob j)
  have hrd : Rd w I' t x us := m3 I' fun i hi => .inr (mem_blk.2 ⟨i, hi, by
    obtain ⟨l, e⟩ := m2 i hi
    have := (h.var i l e).1
    simp [fpOf, this]⟩)
  have hcaps : (caps.map a.eval) = us.toArray := by
    apply Array.ext'; rw [Array.toList_map, hus]
  obtain ⟨z1, z2⟩ := hvn (.bx false (some g) t x) (.func (.func g) #[] us.toArray) ⟨us, rfl, hrd⟩
  intro K Q hK
  unfold Oper.wp
  have hrun : (execOp a.eval o).run P w = .ok (.value (.func (.func g) #[] us.toArray)) w := by
    simp [execOp, hop, Instr.makeFunc, hcaps]
  rw [hrun]
  exact hK _ _ ⟨_, hR o.dst (.one (.bx false (some g) t x)) _ hd z1 z2⟩
end
end Go.Rf

/- One operation; a region. -/
namespace Go.Rf
set_option linter.unusedVariables false
set_option linter.unusedSimpArgs false

section
variable {P : Program} {T : Tab} {E : Env} {B : Base} {Al Al' : Nat → Prop} {s s' : St} {a : Act} {w w' : World} {W W' : Wit} {o : Oper} {f : Nat}
  {rs rs' : List Key} {u : Upd}

theorem step_sound [Laid] (hT : TabOk P T) (hE : EnvB P E B) (h : Rel B Al s a w W) (hd : dstOk B o.dst) (hf : fresh Al f) (he : (step T E o f).exec s rs = some (u, rs')) : Done P B (Nu Al f) (s.up u) o a w := by
  have up : ∀ {s' : St}, Done P B Al s' o a w → Done P B (Nu Al f) s' o a w := fun h => h.mono fun i hi => .inl hi
  cases hop : o.op with
  | move x => exact up (st_move h hd (.inl hop) he)
  | assign x => exact up (st_move h hd (.inr hop) he)
  | pick c x y => exact up (st_pick h hd hop he)
  | alloc t => exact st_alloc hT h hd hf hop he
  | box t x => exact st_box hT h hd hf hop he
  | build t p => exact up (st_build hT h hd hop he)
  | buildSlice t n p => exact st_buildSlice hT h hd hf hop he
  | load t x => exact up (st_load hT h hd hop he)
  | store t x y => exact up (st_store hT h hd hop he)
  | nilCheck x => exact up (st_nilCheck h hd hop he)
  | makeFunc fn first caps => exact up (st_makeFunc h hd hop he)
  | binOp op t x y t' => exact up (st_binOp hT h hd hop he)
  | unOp op t x => exact up (st_unOp h hd hop he)
  | convert t t' x => exact up (st_convert hT h hd hop he)
  | slice t x lo hi mx =>
    cases mx with
    | none => exact up (st_slice hT h hd hop he)
    | some m => simp [step, hop, RP.exec] at he
  | fieldAddr t x j => exact up (st_fieldAddr hT h hd hop he)
  | field t x j => exact up (st_field hT h hd hop he)
  | indexAddr t x y => exact up (st_indexAddr hT h hd hop he)
  | index t x y => exact up (st_index hT h hd hop he)
  | extract x j => exact up (st_extract h hd hop he)
  | makeSlice t x y => exact st_makeSlice hT h hd hf hop he
  | call c =>
    cases hc : c.callee with
    | builtin b =>
      have he0 := he
      simp only [step, hop] at he
      obtain ⟨vs, rs1, h1, k1⟩ := opds_exec h he
      rw [hc] at h1
      cases b <;> first | (simp [RP.exec] at h1; done) | skip
      · exact st_append hT h hd hf hop hc he0
      · exact up (st_len hT h hd hop hc he0)
      · exact up (st_minmax h hd hop hc (.inr rfl) he0)
      · exact up (st_minmax h hd hop hc (.inl rfl) he0)
    | invoke r n =>
      simp only [step, hop] at he
      obtain ⟨vs, rs1, h1, k1⟩ := opds_exec h he
      rw [hc] at h1
      simp [RP.exec] at h1
    | value x =>
      cases x with
      | func g => exact st_call hE h hd hf hop hc he
      | tmp i => exact st_callv hE h hd hf hop hc he
      | _ =>
        simp only [step, hop] at he
        obtain ⟨vs, rs1, h1, k1⟩ := opds_exec h he
        rw [hc] at h1
        simp [RP.exec] at h1
  | _ => simp [step, hop, RP.exec] at he
end

section
variable {P : Program} {T : Tab} {E : Env} {B : Base} {s s' : St} {a : Act} {w w' : World} {W W' : Wit} {o : Oper} {f0 : Nat} {ops : Array Oper}
  {u : Upd} {Q : Exit → Act → World → Prop}

/-- The numbers that are taken, behind the operations D of a region. -/
def AlD (f0 : Nat) (D : List Nat) (i : Nat) : Prop := i < f0 ∨ ∃ j ∈ D, f0 + j * idW ≤ i ∧ i < f0 + j * idW + idW

def SimR (B : Base) (f0 : Nat) (D : List Nat) (s : St) (a : Act) (w : World) : Prop := ∃ W, Rel B (AlD f0 D) s a w W

theorem AlD.fresh {D : List Nat} {i : Nat} (h : i ∉ D) : fresh (AlD f0 D) (f0 + i * idW) := by
  intro k h1 h2 h3
  rcases h3 with h3 | ⟨j, hj, h4, h5⟩
  · omega
  · have hne : i ≠ j := fun e => h (e ▸ hj)
    simp only [idW] at *
    omega

theorem AlD.next {D : List Nat} {i k : Nat} (h : Nu (AlD f0 D) (f0 + i * idW) k) : AlD f0 (i :: D) k := by
  rcases h with (h | ⟨j, hj, h⟩) | h
  · exact .inl h
  · exact .inr ⟨j, List.mem_cons_of_mem _ hj, h⟩
  · exact .inr ⟨i, List.mem_cons_self .., h⟩

theorem stp_sound [Laid] (hT : TabOk P T) (hE : EnvB P E B) (hds : ∀ (i : Nat) (o : Oper), ops[i]? = some o → dstOk B o.dst) (D : List Nat) (i : Nat) (o : Oper) (s : St) (a : Act) (w : World) (u : Upd) (e : Ent) (K : Act → World → Prop)
    (ho : ops[i]? = some o) (hi : i ∉ D) (hs : SimR B f0 D s a w) (hst : stp T E ops f0 o i s = some (u, e)) (hK : ∀ a' w', SimR B f0 (i :: D) (s.up u) a' w' → K a' w') : wpOp P ops Q i K a w := by
  obtain ⟨W, h⟩ := hs
  have hd := hds i o ho
  have go : ∀ rs, goE T E f0 o i s rs = some (u, e) → o.wp P a w K Q := by
    intro rs hg
    unfold goE at hg
    cases hx : (step T E o (f0 + i * idW)).exec s rs with
    | none => rw [hx] at hg; simp at hg
    | some q =>
      obtain ⟨u2, rs2⟩ := q
      rw [hx] at hg
      simp only [Option.map_some, Option.some.injEq, Prod.mk.injEq] at hg
      obtain ⟨rfl, _⟩ := hg
      exact step_sound hT hE h hd (AlD.fresh hi) hx K Q fun a' w' ⟨W', r⟩ => hK a' w' ⟨W', r.mono fun k hk => AlD.next hk⟩
  have off : ∀ rs, some (offE o i rs) = some (u, e) → K (a.put o.dst undef) w := by
    intro rs hg
    have hr := h.skip hd
    refine hK _ _ ⟨W, ?_⟩
    have hu : u = ⟨dl o.dst (.one .skip), []⟩ := by
      unfold offE at hg
      cases hdst : o.dst <;> rw [hdst] at hg <;> simp only [Option.some.injEq, Prod.mk.injEq] at hg <;> exact hg.1.symm
    rw [hu]
    exact hr.mono fun k hk => hk.imp id fun ⟨j, hj, z⟩ => ⟨j, List.mem_cons_of_mem _ hj, z⟩
  unfold wpOp
  rw [ho]
  simp only
  unfold stp at hst
  cases hg : guardOf ops o with
  | none =>
    rw [hg] at hst
    simp only at hst
    have : o.guard = none := by
      unfold guardOf at hg
      cases hgd : o.guard with
      | none => rfl
      | some p => rw [hgd] at hg; simp at hg
    rw [if_pos (by simp [Region.wanted, this])]
    exact .inl (go _ hst)
  | some p =>
    obtain ⟨gd, want⟩ := p
    obtain ⟨j, hgd, hj⟩ : ∃ j, o.guard = some (j, want) ∧ (ops[j]?).bind (·.dst) = gd := by
      unfold guardOf at hg
      cases hgd : o.guard with
      | none => rw [hgd] at hg; simp at hg
      | some q =>
        rw [hgd] at hg
        simp only [Option.some.injEq, Prod.mk.injEq] at hg
        exact ⟨q.1, by rw [← hg.2], hg.1⟩
    rw [hg] at hst
    cases gd with
    | none => simp at hst
    | some g =>
      simp only at hst
      have hv := h.slots g
      cases hsl : s.sl g with
      | one c =>
        rw [hsl] at hst hv
        cases c with
        | bool b =>
          simp only at hst
          have hv : a.tmps.getD g undef = .bool b := hv.2
          have hget : a.tmps[g]? = some (.bool b) := by
            by_cases hlt : g < a.tmps.size
            · simp [Array.getD, hlt] at hv; simp [hlt, hv]
            · simp [Array.getD, hlt, undef] at hv
          have hy : yielded ops a.tmps j = some b := by
            unfold yielded
            rw [hj]
            simp [hget]
          by_cases hbw : b = want
          · rw [if_pos hbw] at hst
            rw [if_pos (by simp [Region.wanted, hgd, hy, hbw])]
            exact .inl (go _ hst)
          · rw [if_neg hbw] at hst
            rw [if_neg (by simp [Region.wanted, hgd, hy, hbw])]
            exact off _ hst
        | skip =>
          simp only at hst
          have hv : a.tmps.getD g undef = undef := hv.2
          have hy : yielded ops a.tmps j = none := by
            unfold yielded
            rw [hj]
            simp only [Option.bind_some]
            by_cases hlt : g < a.tmps.size
            · have hv : a.tmps[g] = undef := by simpa [Array.getD, hlt] using hv
              simp [hlt, hv, undef]
            · simp [hlt]
          rw [if_neg (by simp [Region.wanted, hgd, hy])]
          exact off _ hst
        | _ => simp at hst
      | agg l => rw [hsl] at hst; simp at hst
      | tup l => rw [hsl] at hst; simp at hst
end
end Go.Rf

/- Regions; states made out of data. -/
namespace Go.Rf
set_option linter.unusedVariables false
set_option linter.unusedSimpArgs false

def Sim (B : Base) (f : Nat) (s : St) (a : Act) (w : World) : Prop := ∃ W, Rel B (fun i => i < f) s a w W

section
variable {P : Program} {T : Tab} {E : Env} {B : Base} {s s' : St} {a : Act} {w w' : World} {W W' : Wit} {f : Nat} {ops : Array Oper}
  {u : Upd} {Q : Exit → Act → World → Prop}

theorem Rel.drew {Al : Nat → Prop} (h : Rel B Al s a w W) (n : Nat) : Rel B Al s a { w with drawn := n } W := by
  have turn : Turn Al W W s.ob s.ob w { w with drawn := n } :=
    { I := fun _ h => h, J := fun _ h => h, hJ := fun _ _ => rfl, rows := fun _ _ t xs' hx => ⟨t, xs', hx, rfl, rfl, rfl, rfl, rfl⟩, vars := fun _ _ l hx => ⟨l, hx, rfl⟩ }
  have := h.turn (C := fun _ => False) (Al' := Al) (d := none) (r := .one .undef) (v := undef)
    { turn := turn, sub := fun _ h => h, kept := fun _ _ => ⟨rfl, rfl, rfl, rfl, rfl⟩, keptH := fun i _ hS b hb => ⟨rfl, h.imm i hS b hb⟩,
      newO := fun _ h => h.elim, newN := fun _ h => h.elim, newI := fun _ h => h.elim, newD := fun _ _ h => h.elim, newD2 := fun _ _ h => h.elim, newT := fun _ h => h.elim, newF := fun _ h => h.elim,
      bnd := h.bnd, os := h.os, tape := h.tape, output := h.output, grown := h.grown, old := h.old, from0 := h.from0 } (fun _ k => by simp at k) ⟨fun k => by simp [isUndef] at k, trivial⟩ (fun _ k => k.elim)
  exact this

theorem num_map : ∀ (l : List Oper) (i : Nat), (num i l).map (·.1) = List.range' i l.length
  | [], _ => rfl
  | o :: l, i => by simp only [num, List.map_cons, num_map l (i + 1), List.length_cons, List.range'_succ]

theorem num_get : ∀ (l : List Oper) (i : Nat) (p : Nat × Oper), p ∈ num i l → ∃ k, p.1 = i + k ∧ l[k]? = some p.2
  | [], _, _, h => by simp [num] at h
  | o :: l, i, p, h => by
    simp only [num] at h
    rcases List.mem_cons.1 h with k | k
    · subst k; exact ⟨0, rfl, rfl⟩
    · obtain ⟨k, h1, h2⟩ := num_get l (i + 1) p k; exact ⟨k + 1, by omega, h2⟩

/-- One after the other. -/
theorem seq_wp [Laid] (hT : TabOk P T) (hE : EnvB P E B) (hds : ∀ (i : Nat) (o : Oper), ops[i]? = some o → dstOk B o.dst) {s1 : St} (hend : ∀ D a w, SimR B f D s1 a w → (∀ j ∈ D, j < ops.size) → Q .normal a w) :
    ∀ (L : List (Nat × Oper)) (es : List Ent) (D : List Nat) (s : St) (a : Act) (w : World), RunE T E ops f L s es s1 → (∀ p ∈ L, ops[p.1]? = some p.2) → (L.map (·.1)).Nodup → (∀ p ∈ L, p.1 ∉ D) → (∀ j ∈ D, j < ops.size) → SimR B f D s a w →
      wpOps P ops Q (L.map (·.1)) a w
  | [], _, D, s, a, w, hr, _, _, _, hD, hs => by cases hr; exact hend D a w hs hD
  | (i, o) :: L, _, D, s, a, w, hr, hL, hn, hnD, hD, hs => by
    cases hr with
    | cons hst hk =>
      rw [List.map_cons, wpOps_cons]
      have ho := hL (i, o) (List.mem_cons_self ..)
      rw [List.map_cons, List.nodup_cons] at hn
      refine stp_sound hT hE hds D i o s a w _ _ _ ho (hnD (i, o) (List.mem_cons_self ..)) hs hst fun a' w' hs' => ?_
      refine seq_wp hT hE hds hend L _ (i :: D) _ a' w' hk (fun p hp => hL p (List.mem_cons_of_mem _ hp)) hn.2 (fun p hp hpD => ?_) (fun j hj => ?_) hs'
      · rcases List.mem_cons.1 hpD with k | k
        · exact hn.1 (k ▸ List.mem_map.2 ⟨p, hp, rfl⟩)
        · exact hnD p (List.mem_cons_of_mem _ hp) k
      · rcases List.mem_cons.1 hj with k | k
        · subst k; exact (Array.getElem?_eq_some_iff.1 ho).1
        · exact hD j k

theorem region_sound [Laid] (hT : TabOk P T) (hE : EnvB P E B) (hm : P.follows .mixedOrders = true) (hds : ∀ (i : Nat) (o : Oper), ops[i]? = some o → dstOk B o.dst) {ρ : Type} {r : ρ} {K : St → Nat → Option ρ} {dr : Bool} {id : Nat}
    (he : evRegion T E ops dr s f K = some r) (hs : Sim B f s a w) (hQ : ∀ s' f' a' w', K s' f' = some r → Sim B f' s' a' w' → Q .normal a' w') : (Code.region id ops dr).wp P Q a w := by
  unfold evRegion at he
  rw [evOps_eq] at he
  cases hseq : seqE T E ops f (num 0 ops.toList) s [] with
  | none => rw [hseq] at he; simp at he
  | some q =>
    obtain ⟨s1, bk⟩ := q
    rw [hseq] at he
    simp only [Option.bind_some] at he
    obtain ⟨es, hrun, hbk⟩ := seqE_run _ _ _ _ _ hseq
    rw [List.append_nil] at hbk
    have hck : (!dr || (edgesAll 0 ops.toList && apartAll (behind ops.toList []) bk)) = true ∧ K s1 (f + ops.size * idW) = some r := by
      cases hb : (!dr || (edgesAll 0 ops.toList && apartAll (behind ops.toList []) bk)) with
      | true => rw [hb] at he; exact ⟨rfl, he⟩
      | false => rw [hb] at he; simp at he
    obtain ⟨hck, hK⟩ := hck
    have hend : ∀ D a w, SimR B f D s1 a w → (∀ j ∈ D, j < ops.size) → Q .normal a w := by
      rintro D a w ⟨W, hr⟩ hD
      refine hQ s1 _ a w hK ⟨W, hr.mono fun i hi => ?_⟩
      rcases hi with hi | ⟨j, hj, h1, h2⟩
      · omega
      · have := hD j hj
        have : (j + 1) * idW ≤ ops.size * idW := Nat.mul_le_mul_right _ this
        rw [Nat.add_mul] at this
        omega
    have hs0 : ∀ w : World, Sim B f s a w → SimR B f [] s a w := fun w ⟨W, hr⟩ => ⟨W, hr.mono fun i hi => .inl hi⟩
    have hL : ∀ p ∈ num 0 ops.toList, ops[p.1]? = some p.2 := fun p hp => by
      obtain ⟨k, h1, h2⟩ := num_get _ _ _ hp
      rw [h1, Nat.zero_add, ← Array.getElem?_toList]; exact h2
    have hmap : (num 0 ops.toList).map (·.1) = List.range ops.size := by rw [num_map, List.range_eq_range', Array.length_toList]
    cases dr with
    | false =>
      refine wp_region ?_
      rw [← hmap]
      exact seq_wp hT hE hds hend _ es [] s a w hrun hL (by rw [hmap]; exact List.nodup_range) (by simp) (by simp) (hs0 w hs)
    | true =>
      simp only [Bool.not_true, Bool.false_or, Bool.and_eq_true] at hck
      refine wp_region_any hm ?_
      obtain ⟨W, hr⟩ := hs
      refine any_order (T := T) (E := E) (f0 := f) (fun D s a w => SimR B f D s a w ∧ ∀ j ∈ D, j < ops.size) s1 hck.1
        (fun D i o s a w u e K ho hi hs hst hK => stp_sound hT hE hds D i o s a w u e K ho hi hs.1 hst fun a' w' h' => hK a' w' ⟨h', fun j hj => ?_⟩)
        (fun D a w h => hend D a w h.1 h.2) ops.size (num 0 ops.toList) es [] _ s a _ (by rw [← List.length_map (f := (·.1)), hmap]; simp) (by simp) hrun (apartAll_pw _ es (by rw [← hbk]; exact hck.2)) ?_ hL ?_ (by simp) ?_ ⟨hs0 _ ⟨W, hr.drew _⟩, by simp⟩
      · rcases List.mem_cons.1 hj with k | k
        · subst k; exact (Array.getElem?_eq_some_iff.1 ho).1
        · exact hs.2 j k
      · rw [hmap]; exact List.pairwise_lt_range
      · intro i hi
        rw [hmap]
        simp [Array.getD, hi]
      · intro i j hi h
        simp [Array.getD, hi] at h
end
end Go.Rf

/- Data read off a state; a state made out of data. -/
namespace Go.Rf
set_option linter.unusedVariables false
set_option linter.unusedSimpArgs false

section
variable {P : Program} {T : Tab} {E : Env} {B : Base} {Al Al' : Nat → Prop} {s s' : St} {a : Act} {w w' : World} {W W' : Wit} {f : Nat} {ops : Array Oper}
  {u : Upd} {Q : Exit → Act → World → Prop} {I : Nat → Prop} {rs : List Key}

def ShOk (w : World) (S : Nat → Prop) (a : Act) : (h : Sh) → Tys (shTys h) → List Nat → List Nat → Prop
  | [], _, fp, tp => fp = [] ∧ tp = []
  | (i, .val t) :: h, x, fp, tp => ∃ f1 f2 t1 t2, fp = f1 ++ f2 ∧ tp = t1 ++ t2 ∧ ArgOk w S (.val t) (headTy t (shTys h) x) (a.tmps.getD i undef) f1 t1 ∧ ShOk w S a h (tailTy t (shTys h) x) f2 t2
  | (i, .ptr t) :: h, x, fp, tp => ∃ f1 f2 t1 t2, fp = f1 ++ f2 ∧ tp = t1 ++ t2 ∧ ArgOk w S (.ptr t) (headTy t (shTys h) x) (a.tmps.getD i undef) f1 t1 ∧ ShOk w S a h (tailTy t (shTys h) x) f2 t2
  | (i, .ptw t) :: h, x, fp, tp => ∃ g cs el f2 t2, fp = g :: f2 ∧ tp = g :: t2 ∧ a.tmps.getD i undef = pt g 0 ∧ w.heap[g]? = some (.cells cs.toArray el (0, 0)) ∧ All2 (VN w S []) (explodeW t (headTy t (shTys h) x)) cs ∧ ShOk w S a h (tailTy t (shTys h) x) f2 t2
  | (i, .dup j) :: h, x, fp, tp => a.tmps.getD i undef = a.tmps.getD j undef ∧ ShOk w S a h x fp tp

theorem ShOk.mono {S S' : Nat → Prop} (hS : ∀ b, S b → S' b) : ∀ {h : Sh} {x : Tys (shTys h)} {fp tp : List Nat}, ShOk w S a h x fp tp → ShOk w S' a h x fp tp
  | [], _, _, _, h => h
  | (_, .val _) :: _, _, _, _, ⟨f1, f2, t1, t2, e1, e2, h1, h2⟩ => ⟨f1, f2, t1, t2, e1, e2, h1.mono hS, h2.mono hS⟩
  | (_, .ptr _) :: _, _, _, _, ⟨f1, f2, t1, t2, e1, e2, h1, h2⟩ => ⟨f1, f2, t1, t2, e1, e2, h1.mono hS, h2.mono hS⟩
  | (_, .ptw _) :: _, _, _, _, ⟨g, cs, el, f2, t2, e1, e2, e3, e4, h1, h2⟩ => ⟨g, cs, el, f2, t2, e1, e2, e3, e4, h1.imp fun c _ v k => VN.mono hS (fun _ h => h) k, h2.mono hS⟩
  | (_, .dup _) :: h, _, _, _, ⟨e, h2⟩ => ⟨e, ShOk.mono (h := h) hS h2⟩

/-- One value taken. -/
theorem take_val (h : Rel B Al s a w W) {α : Type} {r : α × List Key} {v : AV} {u : Value} (hp : AVr w W s.ob v u) (t : Ty) (K2 : t.den → List Nat → RP α) (rs : List Key) (hs : shp t v = true)
    (he : (imp t (cells v) fun x rest i => match rest with | [] => K2 x i | _ => .fail).exec s rs = some r) :
    ∃ x i rs2 fp fr, (K2 x i).exec s rs2 = some r ∧ Form t u ∧ Ow w (plus W.I fr) t x u.cells.toList fp ∧ (blk W i).Perm (fp ++ fr) ∧ (∀ j ∈ i, (s.ob j).isSome = true) ∧ (∀ b ∈ tops t u.cells.toList, ∃ j ∈ i, W.nl j = false ∧ b = W.η j) := by
  obtain ⟨hF, hl⟩ := hp.form hs (imp_def he)
  obtain ⟨x, l2, i, rs2, cs, vs2, fp, fr, q1, q2, q3, q4, q5, _, q7, q8, _⟩ := imp_exec' h t _ _ _ _ hl he
  split at q2 <;> try (simp [RP.exec] at q2; done)
  have q3 : vs2 = [] := q3
  subst q3
  rw [List.append_nil] at q1
  rw [q1]
  exact ⟨x, i, rs2, fp, fr, q2, hF, q4, q5, q7, q8⟩

theorem take_var (h : Rel B Al s a w W) {α : Type} {r : α × List Key} {id : Nat} {cs : List Sc} (ho : s.ob id = some (.var cs)) (t : Ty) (K2 : t.den → List Nat → RP α) (rs : List Key)
    (he : (imp t cs fun x rest i => match rest with | [] => K2 x i | _ => .fail).exec s rs = some r) :
    ∃ x i rs2 fp fr vs el, (K2 x i).exec s rs2 = some r ∧ w.heap[W.η id]? = some (.cells vs.toArray el (0, 0)) ∧ Ow w (plus W.I fr) t x vs fp ∧ (blk W (id :: i)).Perm ((W.η id :: fp) ++ fr) ∧ (∀ j ∈ id :: i, (s.ob j).isSome = true) ∧
      (∀ b ∈ W.η id :: tops t vs, ∃ j ∈ id :: i, W.nl j = false ∧ b = W.η j) := by
  obtain ⟨hnl, hnf, vs, el, hh, hl⟩ := h.var id cs ho
  obtain ⟨x, l2, i, rs2, cs0, vs2, fp, fr, q1, q2, q3, q4, q5, _, q7, q8, _⟩ := imp_exec' h t _ _ _ _ hl he
  split at q2 <;> try (simp [RP.exec] at q2; done)
  have q3 : vs2 = [] := q3
  subst q3
  rw [List.append_nil] at q1
  subst q1
  refine ⟨x, i, rs2, fp, fr, vs, el, q2, hh, q4, ?_, ?_, ?_⟩
  · show (fpOf W id ++ blk W i).Perm _
    simp only [fpOf, hnl, hnf, cond_false]
    exact List.Perm.cons _ q5
  · intro j hj
    rcases List.mem_cons.1 hj with k | k
    · subst k; rw [ho]; rfl
    · exact q7 j k
  · intro b hb
    rcases List.mem_cons.1 hb with k | k
    · exact ⟨id, by simp, hnl, k⟩
    · obtain ⟨j, hj, z⟩ := q8 b k; exact ⟨j, List.mem_cons_of_mem _ hj, z⟩

/-- A variable's content but for its slices. -/
theorem impW_exec {I : Nat → Prop} {α : Type} {r : α × List Key} : ∀ (t : Ty) (l : List Sc) (vs : List Value) (K : t.den → List Sc → RP α) (rs : List Key), All2 (Vs w W s.ob) l vs → (impW t l K).exec s rs = some r →
    ∃ x l2 cs vs2, vs = cs ++ vs2 ∧ (K x l2).exec s rs = some r ∧ All2 (Vs w W s.ob) l2 vs2 ∧ All2 (VN w I []) (explodeW t x) cs
  | .int k, c :: l, vs, K, rs, hl, he => by
    obtain ⟨v, vs2, e, p, hl⟩ := hl
    simp only [impW] at he
    split at he <;> try (simp [RP.exec] at he; done)
    rename_i k' n
    obtain ⟨hk, he5⟩ := exec_bif he
    have hk := kEq_iff hk
    subst hk
    exact ⟨n, l, [v], vs2, e, he5, hl, ⟨v, [], rfl, p.2, rfl⟩⟩
  | .bool, c :: l, vs, K, rs, hl, he => by
    obtain ⟨v, vs2, e, p, hl⟩ := hl
    simp only [impW] at he
    split at he <;> try (simp [RP.exec] at he; done)
    exact ⟨_, l, [v], vs2, e, he, hl, ⟨v, [], rfl, p.2, rfl⟩⟩
  | .str, c :: l, vs, K, rs, hl, he => by
    obtain ⟨v, vs2, e, p, hl⟩ := hl
    simp only [impW] at he
    split at he <;> try (simp [RP.exec] at he; done)
    exact ⟨_, l, [v], vs2, e, he, hl, ⟨v, [], rfl, p.2, rfl⟩⟩
  | .sl m t, c :: l, vs, K, rs, hl, he => by
    obtain ⟨v, vs2, e, p, hl⟩ := hl
    simp only [impW] at he
    exact ⟨[], l, [v], vs2, e, he, hl, ⟨v, [], rfl, trivial, rfl⟩⟩
  | .pair a b, l, vs, K, rs, hl, he => by
    simp only [impW] at he
    obtain ⟨x, l2, cs, vs2, e, he2, hl2, h1⟩ := impW_exec a l vs _ rs hl he
    obtain ⟨y, l3, cs2, vs3, e2, he3, hl3, h2⟩ := impW_exec b l2 vs2 _ rs hl2 he2
    exact ⟨(x, y), l3, cs ++ cs2, vs3, by rw [e, e2, List.append_assoc], he3, hl3, All2.append h1 h2⟩
  | .box _ _, c :: l, vs, K, rs, hl, he => by simp [impW, RP.exec] at he
  | .box _ _, [], vs, K, rs, hl, he => by simp [impW, RP.exec] at he
  | .int _, [], vs, K, rs, hl, he => by simp [impW, RP.exec] at he
  | .bool, [], vs, K, rs, hl, he => by simp [impW, RP.exec] at he
  | .str, [], vs, K, rs, hl, he => by simp [impW, RP.exec] at he
  | .sl _ _, [], vs, K, rs, hl, he => by simp [impW, RP.exec] at he

theorem plusL {fr fs : List Nat} (b : Nat) (h : plus I fr b) : plus I (fr ++ fs) b := h.imp id (List.mem_append_left _)
theorem plusR {fr fs : List Nat} (b : Nat) (h : plus I fs b) : plus I (fr ++ fs) b := h.imp id (List.mem_append_right _)

theorem ext_exec (h : Rel B Al s a w W) {α : Type} {r : α × List Key} : ∀ (sh : Sh) (K : Tys (shTys sh) → List Nat → RP α) (rs : List Key), (ext sh K).exec s rs = some r →
    ∃ x ids rs2 fp tp fr, (K x ids).exec s rs2 = some r ∧ ShOk w (plus W.I fr) a sh x fp tp ∧ (blk W ids).Perm (fp ++ fr) ∧ (∀ i ∈ ids, (s.ob i).isSome = true) ∧ (∀ b ∈ tp, ∃ i ∈ ids, W.nl i = false ∧ b = W.η i)
  | [], K, rs, he => ⟨(), [], rs, [], [], [], he, ⟨rfl, rfl⟩, List.Perm.refl _, by simp, by simp⟩
  | (i, .val t) :: sh, K, rs, he => by
    simp only [ext, RP.exec] at he
    obtain ⟨hs, he⟩ := exec_bif' he
    obtain ⟨x, j, rs2, fp, fr, k1, k2, k3, k4, k5, k6⟩ := take_val h (h.slots i) t _ _ (by simpa using hs) he
    obtain ⟨xs, ids, rs3, fq, tq, fs, m1, m2, m3, m4, m5⟩ := ext_exec h sh _ _ k1
    refine ⟨_, _, rs3, fp ++ fq, tops t (a.tmps.getD i undef).cells.toList ++ tq, fr ++ fs, m1, ⟨fp, fq, _, tq, rfl, rfl, ?_, ?_⟩, by rw [blk_append]; exact perm_two k4 m3, ?_, ?_⟩
    · rw [head_cons]; exact ⟨k2, Ow.mono (w := w) plusL (fun _ _ => rfl) t _ _ _ (fun _ _ => rfl) k3, rfl⟩
    · rw [tail_cons]; exact m2.mono plusR
    · intro k hk
      rcases List.mem_append.1 hk with hk | hk
      · exact k5 k hk
      · exact m4 k hk
    · intro b hb
      rcases List.mem_append.1 hb with hb | hb
      · obtain ⟨j', hj, z⟩ := k6 b hb; exact ⟨j', List.mem_append_left _ hj, z⟩
      · obtain ⟨j', hj, z⟩ := m5 b hb; exact ⟨j', List.mem_append_right _ hj, z⟩
  | (i, .ptr t) :: sh, K, rs, he => by
    simp only [ext, RP.exec] at he
    split at he <;> try (simp [RP.exec] at he; done)
    rename_i id off hsl
    obtain ⟨hoff, he5⟩ := exec_bif he
    clear he
    have hoff := (nEq_iff _ _).1 hoff
    subst hoff
    simp only [RP.exec] at he5
    split at he5 <;> try (simp [RP.exec] at he5; done)
    rename_i cs ho
    have hv := h.slots i
    rw [hsl] at hv
    obtain ⟨b, e, k⟩ := hv.2
    have hb := k cs ho
    subst hb
    obtain ⟨x, j, rs2, fp, fr, vs, el, k1, k2, k3, k4, k5, k6⟩ := take_var h ho t _ _ he5
    obtain ⟨xs, ids, rs3, fq, tq, fs, m1, m2, m3, m4, m5⟩ := ext_exec h sh _ _ k1
    refine ⟨_, _, rs3, (W.η id :: fp) ++ fq, (W.η id :: tops t vs) ++ tq, fr ++ fs, m1, ⟨_, fq, _, tq, rfl, rfl, ?_, ?_⟩, ?_, ?_, ?_⟩
    · rw [head_cons]; exact ⟨W.η id, vs, el, fp, e, rfl, rfl, k2, Ow.mono (w := w) plusL (fun _ _ => rfl) t _ _ _ (fun _ _ => rfl) k3⟩
    · rw [tail_cons]; exact m2.mono plusR
    · rw [← List.cons_append, blk_append]; exact perm_two k4 m3
    · intro k hk
      rw [← List.cons_append] at hk
      rcases List.mem_append.1 hk with hk | hk
      · exact k5 k hk
      · exact m4 k hk
    · intro b hb
      rw [← List.cons_append]
      rcases List.mem_append.1 hb with hb | hb
      · obtain ⟨j', hj, z⟩ := k6 b hb; exact ⟨j', List.mem_append_left _ hj, z⟩
      · obtain ⟨j', hj, z⟩ := m5 b hb; exact ⟨j', List.mem_append_right _ hj, z⟩
  | (i, .ptw t) :: sh, K, rs, he => by
    simp only [ext, RP.exec] at he
    split at he <;> try (simp [RP.exec] at he; done)
    rename_i id off hsl
    obtain ⟨hoff, he5⟩ := exec_bif he
    clear he
    have hoff := (nEq_iff _ _).1 hoff
    subst hoff
    simp only [RP.exec] at he5
    split at he5 <;> try (simp [RP.exec] at he5; done)
    rename_i cs ho
    have hv := h.slots i
    rw [hsl] at hv
    obtain ⟨b, e, k⟩ := hv.2
    have hb := k cs ho
    subst hb
    obtain ⟨hnl, hnf, vs, el, hh, hl⟩ := h.var id cs ho
    obtain ⟨x, l2, cs0, vs2, q1, q2, q3, q4⟩ := impW_exec (I := W.I) t _ _ _ _ hl he5
    split at q2 <;> try (simp [RP.exec] at q2; done)
    have q3 : vs2 = [] := q3
    subst q3
    rw [List.append_nil] at q1
    subst q1
    obtain ⟨xs, ids, rs3, fq, tq, fs, m1, m2, m3, m4, m5⟩ := ext_exec h sh _ _ q2
    refine ⟨_, _, rs3, W.η id :: fq, W.η id :: tq, fs, m1, ⟨W.η id, vs, el, fq, tq, rfl, rfl, e, hh, ?_, ?_⟩, ?_, ?_, ?_⟩
    · rw [head_cons]; exact q4.imp fun c _ v k => VN.mono (fun _ h => .inl h) (fun _ h => h) k
    · rw [tail_cons]; exact m2
    · show (fpOf W id ++ blk W ids).Perm _
      simp only [fpOf, hnl, hnf, cond_false]
      exact List.Perm.cons _ m3
    · intro k hk
      rcases List.mem_cons.1 hk with hk | hk
      · subst hk; rw [ho]; rfl
      · exact m4 k hk
    · intro b hb
      rcases List.mem_cons.1 hb with hb | hb
      · exact ⟨id, by simp, hnl, hb⟩
      · obtain ⟨j', hj, z⟩ := m5 b hb; exact ⟨j', List.mem_cons_of_mem _ hj, z⟩
  | (i, .dup j) :: sh, K, rs, he => by
    simp only [ext, RP.exec] at he
    obtain ⟨hs, he⟩ := exec_bif he
    have key : a.tmps.getD i undef = a.tmps.getD j undef ∧ ∃ rs2, (ext sh K).exec s rs2 = some r := by
      have h1 := h.slots i
      have h2 := h.slots j
      split at he <;> try (simp [RP.exec] at he; done)
      · rename_i id hi
        rw [hi] at hs h1
        simp only [RP.exec] at he
        split at he <;> try (simp [RP.exec] at he; done)
        rename_i t xs ho
        cases hj : s.sl j with
        | one c =>
          rw [hj] at hs h2
          cases c <;> try (simp [sameAV] at hs; done)
          have := (nEq_iff _ _).1 hs
          subst this
          exact ⟨(h1.2 t xs ho).trans (h2.2 t xs ho).symm, _, he⟩
        | agg l => rw [hj] at hs; simp [sameAV] at hs
        | tup l => rw [hj] at hs; simp [sameAV] at hs
      · rename_i id off hi
        rw [hi] at hs h1
        simp only [RP.exec] at he
        split at he <;> try (simp [RP.exec] at he; done)
        rename_i l ho
        cases hj : s.sl j with
        | one c =>
          rw [hj] at hs h2
          cases c <;> try (simp [sameAV] at hs; done)
          simp only [sameAV, Bool.and_eq_true] at hs
          have e1 := (nEq_iff _ _).1 hs.1
          have e2 := (nEq_iff _ _).1 hs.2
          subst e1; subst e2
          obtain ⟨b, q1, q2⟩ := h1.2
          obtain ⟨b', q3, q4⟩ := h2.2
          exact ⟨by rw [q1, q3, q2 l ho, q4 l ho], _, he⟩
        | agg l => rw [hj] at hs; simp [sameAV] at hs
        | tup l => rw [hj] at hs; simp [sameAV] at hs
    obtain ⟨e, rs2, he⟩ := key
    obtain ⟨xs, ids, rs3, fq, tq, fs, m1, m2, m3, m4, m5⟩ := ext_exec h sh _ _ he
    exact ⟨_, _, rs3, fq, tq, fs, m1, ⟨e, m2⟩, m3, m4, m5⟩

/-- All is forgotten but the memory. -/
theorem Rel.bare (h : Rel B Al s a w W) {fr ids : List Nat} (hfr : ∀ b ∈ fr, ∃ i ∈ ids, b ∈ fpOf W i) (hids : ∀ i ∈ ids, (s.ob i).isSome = true) : Rel B (fun i => i < 0) St.empty a w { W with I := plus W.I fr } :=
  { slots := fun i => ⟨fun k => by simp [St.empty, isUndef] at k, trivial⟩
    mS := fun i id k => k.elim
    mO := fun id l hx => by simp [St.empty] at hx
    al := fun id hx => by simp [St.empty] at hx
    row := fun id t xs hx => by simp [St.empty] at hx
    var := fun id l hx => by simp [St.empty] at hx
    nod := fun i hx => by simp [St.empty] at hx
    dis := fun i j _ hx => by simp [St.empty] at hx
    imm := fun i hx => by simp [St.empty] at hx
    bnd := fun b hb => by
      rcases hb with k | k
      · exact h.bnd b k
      · obtain ⟨i, hi, z⟩ := hfr b k; exact h.lt (hids i hi) b z
    def0 := h.def0
    size := h.size
    pins := h.pins
    os := h.os
    tape := h.tape
    output := h.output
    grown := h.grown
    old := h.old
    ownT := fun i hx => by simp [St.empty] at hx
    ownN := fun i hx => by simp [St.empty] at hx
    from0 := fun b hb => by
      rcases hb with k | k
      · exact h.from0 b k
      · obtain ⟨i, hi, z⟩ := hfr b k
        obtain ⟨hn, q | q⟩ := fpOf_cases z
        · rw [q]; exact .inr ((h.ownT i (hids i hi) hn).imp id .inr)
        · exact .inr (h.ownN i (hids i hi) b q) }

theorem Rel.slot (h : Rel B Al s a w W) {i : Nat} {r : AV} (hv : AVr w W s.ob r (a.tmps.getD i undef)) (hm : ∀ j, menA r j → Al j) : Rel B Al ⟨upd s.sl i r, s.ob⟩ a w W :=
  { h with
    slots := fun k => by
      by_cases e : k = i
      · subst e; show AVr w W s.ob (upd s.sl k r k) _; rw [upd_same]; exact hv
      · show AVr w W s.ob (upd s.sl i r k) _; rw [upd_ne _ _ e]; exact h.slots k
    mS := fun k id => by
      show menA (upd s.sl i r k) id → _
      by_cases e : k = i
      · subst e; rw [upd_same]; exact hm id
      · rw [upd_ne _ _ e]; exact h.mS k id }

/-- New objects out of blocks that are nobody's. -/
theorem Rel.adopt (h : Rel B (fun i => i < f) s a w W) {os : List NewOb} (hids : os.map (·.id) = List.range' f os.length) {fp : List Nat} (hfp : fp = os.flatMap NewOb.fp) (hnd : fp.Nodup) (hI : ∀ b ∈ fp, ¬ W.I b)
    (hD : ∀ b ∈ fp, ∀ j, (s.ob j).isSome = true → b ∉ fpOf W j) (hB : ∀ b ∈ fp, B.fpT b ∨ B.fpN b ∨ B.w0.heap.size ≤ b) (htp : ∀ b ∈ os.flatMap NewOb.tp, B.fpT b ∨ B.w0.heap.size ≤ b) (hok : ∀ o ∈ os, NOk w W.I os o)
    {i : Nat} {p : Bool × List Sc} (hp : RVN w W.I os p (a.tmps.getD i undef)) :
    ∃ W', Rel B (fun i => i < f + os.length) (s.app [(i, mkRes [p])] (os.map NewOb.upd)) a w W' ∧ W'.I = W.I ∧ ∀ j, ((s.app [(i, mkRes [p])] (os.map NewOb.upd)).ob j).isSome = true → ∀ b ∈ fpOf W' j, b ∈ fp ∨ ((s.ob j).isSome = true ∧ b ∈ fpOf W j) := by
  have hndO : (os.map (·.id)).Nodup := by rw [hids]; exact List.nodup_range'
  have inst : Inst B (fun i => i < f) (fun i => i < f + os.length) s W w w [] os W.I (fun b => b ∈ fp) :=
    { sub := fun i hi => by omega
      isS := by simp
      ndO := hndO
      new := fun o ho => ⟨(range_mem hids ho).2, .inl (by have := (range_mem hids ho).1; omega)⟩
      I1 := fun _ h => h
      I2 := fun _ h => .inl h
      I3 := h.bnd
      I4 := fun b hb k => hI b (hfp ▸ k) hb
      ndB := hfp ▸ hnd
      frD := hD
      frB := hB
      fpB := fun b hb => .inr (hfp ▸ hb)
      tpB := fun b hb => .inr (htp b hb)
      heap := fun _ _ _ => rfl
      J := by simp
      ok := hok
      size := Nat.le_refl _
      os' := rfl
      tape := rfl
      output := rfl }
  obtain ⟨hvn, hR⟩ := h.install inst (ob' := updS s.ob (os.map NewOb.upd)) (fun j => by rw [updS_os os s.ob j hndO]; cases at1 os j <;> simp)
  have h1 := hR none (.one .undef) undef (fun _ k => by simp at k) ⟨fun k => by simp [isUndef] at k, trivial⟩ (fun _ k => k.elim)
  have hp1 : All2 (RVN w W.I os) [p] [a.tmps.getD i undef] := ⟨_, _, rfl, hp, rfl⟩
  obtain ⟨z1, z2⟩ := mkRes_ok hp1 hvn
  have h2 := Rel.slot (s := ⟨s.sl, updS s.ob (os.map NewOb.upd)⟩) h1 (i := i) z1 z2
  refine ⟨_, h2, rfl, fun j hj b hb => ?_⟩
  have hj : (updS s.ob (os.map NewOb.upd) j).isSome = true := hj
  rw [updS_os os s.ob j hndO] at hj
  unfold fpOf putW at hb
  simp only at hb
  cases hat : at1 os j with
  | some o =>
    rw [hat] at hb
    left
    rw [hfp]
    exact List.mem_flatMap.2 ⟨o, (at1_mem hat).1, hb⟩
  | none =>
    rw [hat] at hb hj
    exact .inr ⟨hj, hb⟩
end
end Go.Rf

/- Code. -/
namespace Go.Rf
set_option linter.unusedVariables false
set_option linter.unusedSimpArgs false

section
variable {P : Program} {T : Tab} {E : Env} {A : Ann} {B : Base} {s s' : St} {a : Act} {w w' : World} {W W' : Wit} {f : Nat} {ops : Array Oper}
  {u : Upd} {Q : Exit → Act → World → Prop} {rs : List Key}

theorem rest_sound {ρ : Type} {K : St → Nat → Option ρ} {r : ρ} : ∀ (sh : Sh) (x : Tys (shTys sh)) (s : St) (f : Nat) (W : Wit) (fp tp : List Nat), Rel B (fun i => i < f) s a w W → ShOk w W.I a sh x fp tp → fp.Nodup → (∀ b ∈ fp, ¬ W.I b) →
    (∀ b ∈ fp, ∀ j, (s.ob j).isSome = true → b ∉ fpOf W j) → (∀ b ∈ fp, B.fpT b ∨ B.fpN b ∨ B.w0.heap.size ≤ b) → (∀ b ∈ tp, B.fpT b ∨ B.w0.heap.size ≤ b) → rest sh x s f K = some r → ∃ s' f', K s' f' = some r ∧ Sim B f' s' a w
  | [], _, s, f, W, _, _, h, _, _, _, _, _, _, he => ⟨s, f, he, W, h⟩
  | (i, .val t) :: sh, x, s, f, W, fp, tp, h, ⟨f1, f2, t1, t2, e1, e2, ⟨hF, how, ht⟩, hsh⟩, hnd, hI, hD, hB, hTp, he => by
    subst e1; subst e2; subst ht
    obtain ⟨os, p1, p2, p3, p4, p5, p6, p7⟩ := explode_new t _ _ f1 f how
    rw [List.nodup_append] at hnd
    obtain ⟨W', hR, hWI, hfp⟩ := h.adopt p3 p4 hnd.1 (fun b hb => hI b (List.mem_append_left _ hb)) (fun b hb => hD b (List.mem_append_left _ hb)) (fun b hb => hB b (List.mem_append_left _ hb))
      (fun b hb => hTp b (List.mem_append_left _ (by rw [p5]; exact hb))) p7 (form_rvn hF p6)
    have he : rest sh (tailTy t (shTys sh) x) (s.app [(i, mkRes [(isPair t, (explodeO t (headTy t (shTys sh) x) f).1)])] (explodeO t (headTy t (shTys sh) x) f).2.1) (explodeO t (headTy t (shTys sh) x) f).2.2 K = some r := he
    rw [p1, p2] at he
    refine rest_sound sh _ _ _ W' f2 t2 hR (by rw [hWI]; exact hsh) hnd.2.1 (fun b hb => by rw [hWI]; exact hI b (List.mem_append_right _ hb)) (fun b hb j hj hbj => ?_) (fun b hb => hB b (List.mem_append_right _ hb)) (fun b hb => hTp b (List.mem_append_right _ hb)) he
    rcases hfp j hj b hbj with k | ⟨k1, k2⟩
    · exact hnd.2.2 b k b hb rfl
    · exact hD b (List.mem_append_right _ hb) j k1 k2
  | (i, .ptr t) :: sh, x, s, f, W, fp, tp, h, ⟨f1, f2, t1, t2, e1, e2, ⟨g, cs, el, fi, hv, hf1, ht1, hh, how⟩, hsh⟩, hnd, hI, hD, hB, hTp, he => by
    subst e1; subst e2
    obtain ⟨os, p1, p2, p3, p4, p5, p7, p8, _⟩ := var_new (t := t) f (f + 1) hh how
    rw [List.nodup_append] at hnd
    have hpos : 0 < os.length := by obtain ⟨o, ho, _⟩ := p8; exact List.length_pos_of_mem ho
    have hlen : (explodeO t (headTy t (shTys sh) x) (f + 1)).2.2 = f + os.length := by omega
    have hids : os.map (·.id) = List.range' f os.length := by
      rw [p3]
      obtain ⟨n, hn⟩ : ∃ n, os.length = n + 1 := ⟨os.length - 1, by omega⟩
      rw [hn]; rfl
    have hrv : RVN w W.I os (false, [.pv f 0]) (a.tmps.getD i undef) := by
      unfold RVN
      rw [if_neg (by simp)]
      obtain ⟨o, ho, k1, k2, k3⟩ := p8
      exact ⟨_, [], rfl, ⟨o, ho, k1, ⟨_, k2⟩, by rw [hv, k3]⟩, rfl⟩
    obtain ⟨W', hR, hWI, hfp⟩ := h.adopt hids (hf1.trans p4) hnd.1 (fun b hb => hI b (List.mem_append_left _ hb)) (fun b hb => hD b (List.mem_append_left _ hb)) (fun b hb => hB b (List.mem_append_left _ hb))
      (fun b hb => hTp b (List.mem_append_left _ (by rw [ht1, p5]; exact hb))) p7 hrv
    have he : rest sh (tailTy t (shTys sh) x) (s.app [(i, .one (.pv f 0))] ((f, some (.var (explodeO t (headTy t (shTys sh) x) (f + 1)).1)) :: (explodeO t (headTy t (shTys sh) x) (f + 1)).2.1)) (explodeO t (headTy t (shTys sh) x) (f + 1)).2.2 K = some r := he
    rw [p1, hlen] at he
    refine rest_sound sh _ _ _ W' f2 t2 hR (by rw [hWI]; exact hsh) hnd.2.1 (fun b hb => by rw [hWI]; exact hI b (List.mem_append_right _ hb)) (fun b hb j hj hbj => ?_) (fun b hb => hB b (List.mem_append_right _ hb)) (fun b hb => hTp b (List.mem_append_right _ hb)) he
    rcases hfp j hj b hbj with k | ⟨k1, k2⟩
    · exact hnd.2.2 b k b hb rfl
    · exact hD b (List.mem_append_right _ hb) j k1 k2
  | (i, .ptw t) :: sh, x, s, f, W, fp, tp, h, ⟨g, cs, el, f2, t2, e1, e2, hv, hh, hvn, hsh⟩, hnd, hI, hD, hB, hTp, he => by
    subst e1; subst e2
    rw [List.nodup_cons] at hnd
    let v0 : NewOb := ⟨f, .var (explodeW t (headTy t (shTys sh) x)), g, 0, [], false⟩
    have hrv : RVN w W.I [v0] (false, [.pv f 0]) (a.tmps.getD i undef) := by
      unfold RVN
      rw [if_neg (by simp)]
      exact ⟨_, [], rfl, ⟨v0, by simp, rfl, ⟨_, rfl⟩, hv⟩, rfl⟩
    obtain ⟨W', hR, hWI, hfp⟩ := h.adopt (os := [v0]) (fp := [g]) rfl rfl (by simp) (fun b hb => hI b (by rw [List.mem_singleton.1 hb]; simp)) (fun b hb => hD b (by rw [List.mem_singleton.1 hb]; simp)) (fun b hb => hB b (by rw [List.mem_singleton.1 hb]; simp))
      (fun b hb => hTp b (by rw [show [v0].flatMap NewOb.tp = [g] from rfl] at hb; rw [List.mem_singleton.1 hb]; simp)) (fun o ho => by
        rw [List.mem_singleton.1 ho]
        exact ⟨rfl, rfl, cs, el, hh, hvn.imp fun c _ v k => VN.mono (fun _ h => h) (fun _ h => by simp at h) k⟩) hrv
    have he : rest sh (tailTy t (shTys sh) x) (s.app [(i, .one (.pv f 0))] [(f, some (.var (explodeW t (headTy t (shTys sh) x))))]) (f + 1) K = some r := he
    refine rest_sound sh _ _ _ W' f2 t2 hR (by rw [hWI]; exact hsh) hnd.2 (fun b hb => by rw [hWI]; exact hI b (List.mem_cons_of_mem _ hb)) (fun b hb j hj hbj => ?_) (fun b hb => hB b (List.mem_cons_of_mem _ hb)) (fun b hb => hTp b (List.mem_cons_of_mem _ hb)) he
    rcases hfp j hj b hbj with k | ⟨k1, k2⟩
    · rw [List.mem_singleton.1 k] at hb; exact hnd.1 hb
    · exact hD b (List.mem_cons_of_mem _ hb) j k1 k2
  | (i, .dup j) :: sh, x, s, f, W, fp, tp, h, ⟨e, hsh⟩, hnd, hI, hD, hB, hTp, he => by
    have h2 := h.slot (i := i) (r := s.sl j) (by rw [e]; exact h.slots j) (h.mS j)
    exact rest_sound sh x _ f W fp tp h2 hsh hnd hI hD hB hTp he

def Good (B : Base) (h : Sh) (t : Tys (shTys h)) (a : Act) (w : World) : Prop :=
  ∀ (ρ : Type) (K : St → Nat → Option ρ) (r : ρ), rest h t St.empty 0 K = some r → ∃ s' f', K s' f' = some r ∧ Sim B f' s' a w

theorem ext_rest {h : Sh} {ρ : Type} {K : Tys (shTys h) → Option ρ} {z : ρ} (he : extS h s K = some z) (hs : Sim B f s a w) : ∃ t, K t = some z ∧ Good B h t a w := by
  obtain ⟨W, hr⟩ := hs
  unfold extS at he
  rw [RP.run_eq] at he
  cases hx : (ext h fun x ids => RP.ret (x, ids)).exec s [] with
  | none => rw [hx] at he; simp at he
  | some q =>
    rw [hx] at he
    obtain ⟨⟨t, ids⟩, rs2⟩ := q
    simp only [Option.bind_some] at he
    cases hnd : nodupB ids with
    | false => rw [hnd] at he; simp at he
    | true =>
      rw [hnd] at he
      simp only [cond_true] at he
      refine ⟨t, he, ?_⟩
      obtain ⟨x, ids2, rs3, fp, tp, fr, m1, m2, m3, m4, m5⟩ := ext_exec hr h _ _ hx
      simp only [RP.exec, Option.some.injEq, Prod.mk.injEq] at m1
      obtain ⟨⟨rfl, rfl⟩, _⟩ := m1
      intro ρ K r hrest
      have hall := hr.blkNodup ids2 (nodupB_iff _ hnd) m4
      have hpn := m3.nodup_iff.1 hall
      rw [List.nodup_append] at hpn
      have inB : ∀ b, b ∈ fp ∨ b ∈ fr → ∃ i ∈ ids2, b ∈ fpOf W i := fun b hb => mem_blk.1 (m3.mem_iff.2 (List.mem_append.2 hb))
      refine rest_sound h x St.empty 0 _ fp tp (hr.bare (fun b hb => inB b (.inr hb)) m4) m2 hpn.1 (fun b hb k => ?_) (fun b _ j hj => by simp [St.empty] at hj) (fun b hb => ?_) (fun b hb => ?_) hrest
      · rcases k with k | k
        · obtain ⟨i, hi, hbi⟩ := inB b (.inl hb); exact hr.imm i (m4 i hi) b hbi k
        · exact hpn.2.2 b hb b k rfl
      · obtain ⟨i, hi, hbi⟩ := inB b (.inl hb)
        obtain ⟨hn, q | q⟩ := fpOf_cases hbi
        · rw [q]; exact (hr.ownT i (m4 i hi) hn).imp id .inr
        · exact hr.ownN i (m4 i hi) b q
      · obtain ⟨i, hi, hn, e⟩ := m5 b hb
        rw [e]; exact hr.ownT i (m4 i hi) hn

theorem exEq_iff {e e' : Ex} (h : exEq e e' = true) : e = e' := by
  cases e <;> cases e' <;> first | rfl | (simp [exEq] at h; done) | skip
  rw [(nEq_iff _ _).1 h]

theorem inj_elim {e : Ex} (hs : Sim B f s a w) : ∀ (l : List (Ex × Sh)) {ρ : Type} (K1 : Outs l → Option ρ) (z : ρ), injO s e l K1 = some z →
    ∃ o, K1 o = some z ∧ ∀ (σ : Type) (K : Ex → St → Nat → Option σ) (r : σ), elimO l o K = some r → ∃ s' f', K e s' f' = some r ∧ Sim B f' s' a w
  | [], ρ, K1, z, h => by simp [injO] at h
  | [(e', h)], ρ, K1, z, he => by
    simp only [injO] at he
    cases hx : exEq e e' with
    | false => rw [hx] at he; simp at he
    | true =>
      rw [hx] at he
      have := exEq_iff hx
      subst this
      obtain ⟨t, k1, k2⟩ := ext_rest (show extS h s K1 = some z from he) hs
      exact ⟨t, k1, fun σ K r hr => k2 σ _ r hr⟩
  | (e', h) :: x :: l, ρ, K1, z, he => by
    simp only [injO] at he
    cases hx : exEq e e' with
    | false =>
      rw [hx] at he
      simp only [cond_false] at he
      obtain ⟨o, k1, k2⟩ := inj_elim hs (x :: l) _ z he
      exact ⟨.inr o, k1, fun σ K r hr => k2 σ K r hr⟩
    | true =>
      rw [hx] at he
      have := exEq_iff hx
      subst this
      obtain ⟨t, k1, k2⟩ := ext_rest (show extS h s (fun t => K1 (.inl t)) = some z from he) hs
      exact ⟨.inl t, k1, fun σ K r hr => k2 σ _ r hr⟩

def exOf : Ex → Exit
  | .normal => .normal
  | .exit n => .exit n
  | .ret => .ret

def CodeOk (B : Base) (c : Code) : Prop := ∀ d ∈ writes c, d < B.nt ∧ B.pin d = none

theorem inBlock_ok {id : Nat} {e : Ex} (h : Q (exOf (unblock id e)) a w) : Exit.inBlock id Q (exOf e) a w := by
  cases e with
  | normal => exact h
  | ret => exact h
  | exit m =>
    show Exit.inBlock id Q (.exit m) a w
    have e1 : unblock id (.exit m) = bif nEq m id then .normal else .exit m := rfl
    rw [e1] at h
    unfold Exit.inBlock
    by_cases hmi : m = id
    · rw [(nEq_iff m id).2 hmi] at h; simp only [if_pos hmi]; exact h
    · have hne : nEq m id = false := by cases hb : nEq m id with | false => rfl | true => exact absurd ((nEq_iff _ _).1 hb) hmi
      rw [hne] at h; simp only [if_neg hmi]; exact h

def IHs (P : Program) (T : Tab) (E : Env) (A : Ann) (B : Base) (c : Code) : Prop :=
  ∀ (ρ : Type) (s : St) (f : Nat) (K : Ex → St → Nat → Option ρ) (r : ρ) (a : Act) (w : World) (Q : Exit → Act → World → Prop), CodeOk B c →
    evC T E A c s f K = some r → Sim B f s a w → (∀ e s' f' a' w', K e s' f' = some r → Sim B f' s' a' w' → Q (exOf e) a' w') → c.wp P Q a w

theorem cond_sound {c : Operand} {x y : Code} (ix : IHs P T E A B x) (iy : IHs P T E A B y) : IHs P T E A B (.cond c x y) := by
  intro ρ s f K r a w Q hc he hs hQ
  simp only [evC] at he
  have hx : CodeOk B x := fun d hd => hc d (List.mem_append_left _ hd)
  have hy : CodeOk B y := fun d hd => hc d (List.mem_append_right _ hd)
  have fin : ∀ b : Bool, a.eval c = .bool b → (bif b then evC T E A x s f K else evC T E A y s f K) = some r → (Code.cond c x y).wp P Q a w := by
    intro b hb h2
    cases b with
    | true => exact wp_cond_true hb (ix ρ s f K r a w Q hx h2 hs hQ)
    | false => exact wp_cond_false hb (iy ρ s f K r a w Q hy h2 hs hQ)
  unfold condOf at he
  split at he
  · rename_i t
    obtain ⟨W, hr⟩ := hs
    have hv := hr.slots t
    split at he <;> try (simp at he; done)
    rename_i b hsl
    rw [hsl] at hv
    exact fin b hv.2 he
  · rename_i b; exact fin b rfl he
  · simp at he

theorem seq_sound {x y : Code} (ix : IHs P T E A B x) (iy : IHs P T E A B y) : IHs P T E A B (.seq x y) := by
  intro ρ s f K r a w Q hc he hs hQ
  have hx : CodeOk B x := fun d hd => hc d (List.mem_append_left _ hd)
  have hy : CodeOk B y := fun d hd => hc d (List.mem_append_right _ hd)
  simp only [evC] at he
  refine wp_seq ?_
  split at he
  · refine ix _ s f _ r a w _ hx he hs fun e s' f' a' w' hk hs' => ?_
    cases e with
    | normal => exact iy _ s' f' K r a' w' Q hy hk hs' hQ
    | exit n => exact hQ (.exit n) s' f' a' w' hk hs'
    | ret => exact hQ .ret s' f' a' w' hk hs'
  · rename_i exs _
    obtain ⟨o, h1, h2⟩ := Option.bind_eq_some_iff.1 he
    have fin : ∀ e s' f' a' w', injO s' e exs some = some o → Sim B f' s' a' w' → Q (exOf e) a' w' := fun e s' f' a' w' hk hs' => by
      obtain ⟨o', k1, k2⟩ := inj_elim hs' exs some o hk
      simp only [Option.some.injEq] at k1
      subst k1
      obtain ⟨s2, f2, q1, q2⟩ := k2 ρ K r h2
      exact hQ e s2 f2 a' w' q1 q2
    refine ix _ s f _ o a w _ hx h1 hs fun e s' f' a' w' hk hs' => ?_
    cases e with
    | normal => exact iy _ s' f' _ o a' w' Q hy hk hs' fun e s2 f2 a2 w2 hk2 hs2 => fin e s2 f2 a2 w2 hk2 hs2
    | exit n => exact fin (.exit n) s' f' a' w' hk hs'
    | ret => exact fin .ret s' f' a' w' hk hs'

theorem loop_sound {id : Nat} {bd : Code} (ib : IHs P T E A B bd) : IHs P T E A B (.block id (.loop bd)) := by
  intro ρ s f K r a w Q hc he hs hQ
  simp only [evC] at he
  split at he <;> try (simp at he; done)
  rename_i h exs _
  obtain ⟨o, h1, h2⟩ := Option.bind_eq_some_iff.1 he
  obtain ⟨t0, k1, k2⟩ := ext_rest h1 hs
  have fin : ∀ e s' f' a' w', injO s' e exs some = some o → Sim B f' s' a' w' → Q (exOf (unblock id e)) a' w' := fun e s' f' a' w' hk hs' => by
    obtain ⟨o', q1, q2⟩ := inj_elim hs' exs some o hk
    simp only [Option.some.injEq] at q1
    subst q1
    obtain ⟨s2, f2, q3, q4⟩ := q2 ρ _ r h2
    exact hQ _ s2 f2 a' w' q3 q4
  refine wp_block (wp_loop_rounds FUEL ?_)
  unfold lp at k1
  have key : ∀ (n : Nat) (t : Tys (shTys h)) (a : Act) (w : World), loopF (fun rec t => rest h t St.empty 0 fun s1 f1 => evC T E A bd s1 f1 (fun e s2 _ => match e with
      | .normal => extS h s2 rec
      | .exit n => injO s2 (.exit n) exs some
      | .ret => injO s2 .ret exs some)) n t = some o → Good B h t a w → Code.rounds P bd (Exit.inBlock id Q) n a w := by
    intro n
    induction n with
    | zero => intro t a w hl _; simp [loopF] at hl
    | succ n ih =>
      intro t a w hl hg
      simp only [loopF] at hl
      obtain ⟨s1, f1, q1, q2⟩ := hg _ _ _ hl
      rw [rounds_succ]
      refine ib _ s1 f1 _ o a w _ hc q1 q2 fun e s' f' a' w' hk hs' => ?_
      cases e with
      | normal =>
        obtain ⟨t', z1, z2⟩ := ext_rest hk hs'
        exact ih t' a' w' z1 z2
      | exit m => exact inBlock_ok (fin (.exit m) s' f' a' w' hk hs')
      | ret => exact inBlock_ok (fin .ret s' f' a' w' hk hs')
  exact key FUEL t0 a w k1 k2

theorem block_sound {id : Nat} {bd : Code} (ib : IHs P T E A B bd) (hev : ∀ (ρ : Type) (s : St) (f : Nat) (K : Ex → St → Nat → Option ρ), evC T E A (.block id bd) s f K = match lkp A.blocks id with
    | none => evC T E A bd s f (fun e s' f' => K (unblock id e) s' f')
    | some exs => (evC T E A bd s f (fun e s' _ => injO s' (unblock id e) exs some)).bind fun o => elimO exs o K) : IHs P T E A B (.block id bd) := by
  intro ρ s f K r a w Q hc he hs hQ
  rw [hev] at he
  refine wp_block ?_
  split at he
  · exact ib ρ s f _ r a w _ hc he hs fun e s' f' a' w' hk hs' => inBlock_ok (hQ _ s' f' a' w' hk hs')
  · rename_i exs _
    obtain ⟨o, h1, h2⟩ := Option.bind_eq_some_iff.1 he
    refine ib _ s f _ o a w _ hc h1 hs fun e s' f' a' w' hk hs' => inBlock_ok ?_
    obtain ⟨o', k1, k2⟩ := inj_elim hs' exs some o hk
    simp only [Option.some.injEq] at k1
    subst k1
    obtain ⟨s2, f2, q1, q2⟩ := k2 ρ K r h2
    exact hQ _ s2 f2 a' w' q1 q2

theorem code_all [Laid] (hT : TabOk P T) (hE : EnvB P E B) (hm : P.follows .mixedOrders = true) (c : Code) : IHs P T E A B c ∧ ∀ b, c = .loop b → IHs P T E A B b := by
  induction c with
  | skip => exact ⟨fun ρ s f K r a w Q _ he hs hQ => wp_skip (hQ .normal s f a w (by simpa only [evC] using he) hs), by simp⟩
  | exit id => exact ⟨fun ρ s f K r a w Q _ he hs hQ => wp_exit (hQ (.exit id) s f a w (by simpa only [evC] using he) hs), by simp⟩
  | ret => exact ⟨fun ρ s f K r a w Q _ he hs hQ => wp_ret (hQ .ret s f a w (by simpa only [evC] using he) hs), by simp⟩
  | region id ops dr =>
    refine ⟨fun ρ s f K r a w Q hc he hs hQ => ?_, by simp⟩
    simp only [evC] at he
    exact region_sound hT hE hm (fun i o ho d hd => hc d (List.mem_filterMap.2 ⟨o, Array.mem_toList_iff.2 (Array.mem_of_getElem? ho), hd⟩)) he hs fun s' f' a' w' hk hs' => hQ .normal s' f' a' w' hk hs'
  | cond c x y ix iy => exact ⟨cond_sound ix.1 iy.1, by simp⟩
  | seq x y ix iy => exact ⟨seq_sound ix.1 iy.1, by simp⟩
  | loop b ib => exact ⟨fun ρ s f K r a w Q _ he => by simp [evC] at he, fun b' e => by simp only [Code.loop.injEq] at e; subst e; exact ib.1⟩
  | block id bd ib =>
    refine ⟨?_, by simp⟩
    cases bd with
    | loop b => exact loop_sound (ib.2 b rfl)
    | _ => exact block_sound ib.1 fun ρ s f K => by simp only [evC]; cases lkp A.blocks id <;> rfl
  | _ => exact ⟨fun ρ s f K r a w Q _ he => by simp [evC] at he, by simp⟩
end
end Go.Rf

/- A function. -/
namespace Go.Rf
set_option linter.unusedVariables false
set_option linter.unusedSimpArgs false

section
variable {P : Program} {T : Tab} {E : Env} {A : Ann} {B : Base} {Al : Nat → Prop} {s s' : St} {a : Act} {w w' : World} {W W' : Wit} {f : Nat}
  {u : Upd} {Q : Exit → Act → World → Prop} {rs : List Key}

theorem init_sound {ρ : Type} {K : St → Nat → Option ρ} {r : ρ} : ∀ (ps : List PK) (vs : List Value) (x : Tys (ps.map PK.ty)) (i : Nat) (s : St) (f : Nat) (W : Wit) (fp tp : List Nat), Rel B (fun i => i < f) s a w W → ArgsOk w W.I ps vs x fp tp →
    (∀ j v, vs[j]? = some v → a.tmps.getD (i + j) undef = v) → fp.Nodup → (∀ b ∈ fp, ¬ W.I b) →
    (∀ b ∈ fp, ∀ j, (s.ob j).isSome = true → b ∉ fpOf W j) → (∀ b ∈ fp, B.fpT b ∨ B.fpN b ∨ B.w0.heap.size ≤ b) → (∀ b ∈ tp, B.fpT b ∨ B.w0.heap.size ≤ b) → initP ps x i s f K = some r → ∃ s' f', K s' f' = some r ∧ Sim B f' s' a w
  | [], _, _, _, s, f, W, _, _, h, _, _, _, _, _, _, _, he => ⟨s, f, he, W, h⟩
  | p :: ps, vs, x, i, s, f, W, fp, tp, h, ⟨v, vs', f1, f2, t1, t2, e0, e1, e2, harg, hrest⟩, hsl, hnd, hI, hD, hB, hTp, he => by
    subst e0; subst e1; subst e2
    rw [List.nodup_append] at hnd
    have hv : a.tmps.getD i undef = v := hsl 0 v rfl
    have hsl' : ∀ j u, vs'[j]? = some u → a.tmps.getD (i + 1 + j) undef = u := fun j u hu => by
      have := hsl (j + 1) u (by simpa using hu)
      rw [show i + 1 + j = i + (j + 1) by omega]; exact this
    -- a value's cells
    have val : ∀ (t : Ty) (y : t.den), Form t v → Ow w W.I t y v.cells.toList f1 → t1 = tops t v.cells.toList → ∃ W', Rel B (fun i => i < (explodeO t y f).2.2) (s.app [(i, mkRes [(isPair t, (explodeO t y f).1)])] (explodeO t y f).2.1) a w W' ∧ W'.I = W.I ∧
        ∀ j, ((s.app [(i, mkRes [(isPair t, (explodeO t y f).1)])] (explodeO t y f).2.1).ob j).isSome = true → ∀ b ∈ fpOf W' j, b ∈ f1 ∨ ((s.ob j).isSome = true ∧ b ∈ fpOf W j) := by
      intro t y hF how ht
      obtain ⟨os, p1, p2, p3, p4, p5, p6, p7⟩ := explode_new t y _ f1 f how
      rw [p1, p2]
      exact h.adopt p3 p4 hnd.1 (fun b hb => hI b (List.mem_append_left _ hb)) (fun b hb => hD b (List.mem_append_left _ hb)) (fun b hb => hB b (List.mem_append_left _ hb))
        (fun b hb => hTp b (List.mem_append_left _ (by rw [ht, p5]; exact hb))) p7 (by rw [hv]; exact form_rvn hF p6)
    have next : ∀ (s2 : St) (fn : Nat) (W' : Wit), Rel B (fun i => i < fn) s2 a w W' → W'.I = W.I → (∀ j, (s2.ob j).isSome = true → ∀ b ∈ fpOf W' j, b ∈ f1 ∨ ((s.ob j).isSome = true ∧ b ∈ fpOf W j)) →
        initP ps (tailTy p.ty (ps.map PK.ty) x) (i + 1) s2 fn K = some r → ∃ s' f', K s' f' = some r ∧ Sim B f' s' a w := by
      intro s2 fn W' hR hWI hfp he
      refine init_sound ps vs' _ (i + 1) s2 fn W' f2 t2 hR (by rw [hWI]; exact hrest) hsl' hnd.2.1 (fun b hb => by rw [hWI]; exact hI b (List.mem_append_right _ hb)) (fun b hb j hj hbj => ?_) (fun b hb => hB b (List.mem_append_right _ hb)) (fun b hb => hTp b (List.mem_append_right _ hb)) he
      rcases hfp j hj b hbj with k | ⟨k1, k2⟩
      · exact hnd.2.2 b k b hb rfl
      · exact hD b (List.mem_append_right _ hb) j k1 k2
    cases p with
    | val t =>
      obtain ⟨hF, how, ht⟩ := harg
      obtain ⟨W', hR, hWI, hfp⟩ := val t _ hF how ht
      exact next _ _ W' hR hWI hfp he
    | io t =>
      obtain ⟨hF, how, ht⟩ := harg
      obtain ⟨W', hR, hWI, hfp⟩ := val t _ hF how ht
      exact next _ _ W' hR hWI hfp he
    | ptr t =>
      obtain ⟨g, cs, el, fi, hpv, hf1, ht1, hh, how⟩ := harg
      obtain ⟨os, p1, p2, p3, p4, p5, p7, p8, _⟩ := var_new (t := t) f (f + 1) hh how
      have hpos : 0 < os.length := by obtain ⟨o, ho, _⟩ := p8; exact List.length_pos_of_mem ho
      have hlen : (explodeO t (headTy t (ps.map PK.ty) x) (f + 1)).2.2 = f + os.length := by have : f + 1 + os.length = (explodeO t (headTy t (ps.map PK.ty) x) (f + 1)).2.2 + 1 := p2; omega
      have hids : os.map (·.id) = List.range' f os.length := by
        rw [p3]
        obtain ⟨n, hn⟩ : ∃ n, os.length = n + 1 := ⟨os.length - 1, by omega⟩
        rw [hn]; rfl
      have hrv : RVN w W.I os (false, [.pv f 0]) (a.tmps.getD i undef) := by
        unfold RVN
        rw [if_neg (by simp)]
        obtain ⟨o, ho, k1, k2, k3⟩ := p8
        exact ⟨_, [], rfl, ⟨o, ho, k1, ⟨_, k2⟩, by rw [hv, hpv, k3]⟩, rfl⟩
      obtain ⟨W', hR, hWI, hfp⟩ := h.adopt hids (hf1.trans p4) hnd.1 (fun b hb => hI b (List.mem_append_left _ hb)) (fun b hb => hD b (List.mem_append_left _ hb)) (fun b hb => hB b (List.mem_append_left _ hb))
        (fun b hb => hTp b (List.mem_append_left _ (by rw [ht1, p5]; exact hb))) p7 hrv
      have he : initP ps (tailTy t (ps.map PK.ty) x) (i + 1) (s.app [(i, .one (.pv f 0))] ((f, some (.var (explodeO t (headTy t (ps.map PK.ty) x) (f + 1)).1)) :: (explodeO t (headTy t (ps.map PK.ty) x) (f + 1)).2.1)) (explodeO t (headTy t (ps.map PK.ty) x) (f + 1)).2.2 K = some r := he
      have p1 : (f, some (Obj.var (explodeO t (headTy t (ps.map PK.ty) x) (f + 1)).1)) :: (explodeO t (headTy t (ps.map PK.ty) x) (f + 1)).2.1 = os.map NewOb.upd := p1
      rw [p1, hlen] at he
      exact next _ _ W' hR hWI hfp he

def resSem (P : Program) (a : Act) (rv : ResultVar) : Sem Value :=
  match rv with
  | .tmp t => pure (a.tmps.getD t undef)
  | .cell c t => do loadVar t (← asAddr (a.tmps.getD c undef))

theorem mapM_list (g : ResultVar → Sem Value) : ∀ (l : List ResultVar) (us : List Value), All2 (fun rv u => (g rv).run P w = .ok u w) l us → (l.mapM g).run P w = .ok us w
  | [], us, h => by rw [show us = [] from h]; simp
  | rv :: l, us, ⟨u, us', e, p, h⟩ => by
    rw [e, List.mapM_cons]
    simp only [Sem.run_bind, p, Result.andThen_ok, mapM_list g l us' h, Sem.run_pure]

theorem finRes_exec (hT : TabOk P T) (h : Rel B Al s a w W) {α : Type} {r : α × List Key} : ∀ (rs : List RK) (rv : List ResultVar) (K : Tys (rs.map RK.ty) → List Nat → RP α) (ks : List Key), (finRes T rs rv K).exec s ks = some r →
    ∃ x ids ks2 us fp tp fr, (K x ids).exec s ks2 = some r ∧ ResOk w (plus W.I fr) rs us x fp tp ∧ (blk W ids).Perm (fp ++ fr) ∧ (∀ i ∈ ids, (s.ob i).isSome = true) ∧ (∀ b ∈ tp, ∃ i ∈ ids, W.nl i = false ∧ b = W.η i) ∧
      All2 (fun v u => (resSem P a v).run P w = .ok u w) rv us
  | [], rv, K, ks, he => by
    cases rv with
    | nil => exact ⟨(), [], ks, [], [], [], [], he, ⟨rfl, rfl, rfl⟩, List.Perm.refl _, by simp, by simp, rfl⟩
    | cons => simp [finRes, RP.exec] at he
  | .val t :: rs, rv, K, ks, he => by
    cases rv with
    | nil => simp [finRes, RP.exec] at he
    | cons v rv =>
      have fin : ∀ (x : t.den) (u : Value) (j : List Nat) (ks2 : List Key) (fp fr : List Nat), (finRes T rs rv fun xs ids => K (consTy t (rs.map RK.ty) x xs) (j ++ ids)).exec s ks2 = some r → Form t u → Ow w (plus W.I fr) t x u.cells.toList fp → (blk W j).Perm (fp ++ fr) → (∀ i ∈ j, (s.ob i).isSome = true) →
          (∀ b ∈ tops t u.cells.toList, ∃ i ∈ j, W.nl i = false ∧ b = W.η i) → (resSem P a v).run P w = .ok u w →
          ∃ x ids ks2 us fp tp fr, (K x ids).exec s ks2 = some r ∧ ResOk w (plus W.I fr) (.val t :: rs) us x fp tp ∧ (blk W ids).Perm (fp ++ fr) ∧ (∀ i ∈ ids, (s.ob i).isSome = true) ∧ (∀ b ∈ tp, ∃ i ∈ ids, W.nl i = false ∧ b = W.η i) ∧
            All2 (fun v u => (resSem P a v).run P w = .ok u w) (v :: rv) us := by
        intro x u j ks2 fp fr k1 k2 k3 k4 k5 k6 k7
        obtain ⟨xs, ids, ks3, us, fq, tq, fs, m1, m2, m3, m4, m5, m6⟩ := finRes_exec hT h rs rv _ _ k1
        refine ⟨_, _, ks3, u :: us, fp ++ fq, tops t u.cells.toList ++ tq, fr ++ fs, m1, ⟨u, us, fp, fq, _, tq, rfl, rfl, rfl, ?_, ?_⟩, by rw [blk_append]; exact perm_two k4 m3, ?_, ?_, ⟨u, us, rfl, k7, m6⟩⟩
        · rw [head_cons]; exact ⟨k2, Ow.mono (w := w) plusL (fun _ _ => rfl) t _ _ _ (fun _ _ => rfl) k3, rfl⟩
        · rw [tail_cons]; exact m2.mono plusR
        · intro k hk
          rcases List.mem_append.1 hk with hk | hk
          · exact k5 k hk
          · exact m4 k hk
        · intro b hb
          rcases List.mem_append.1 hb with hb | hb
          · obtain ⟨j', hj, z⟩ := k6 b hb; exact ⟨j', List.mem_append_left _ hj, z⟩
          · obtain ⟨j', hj, z⟩ := m5 b hb; exact ⟨j', List.mem_append_right _ hj, z⟩
      cases v with
      | tmp c =>
        simp only [finRes, RP.exec] at he
        obtain ⟨hs, he⟩ := exec_bif' he
        obtain ⟨x, j, ks2, fp, fr, k1, k2, k3, k4, k5, k6⟩ := take_val h (h.slots c) t _ _ (by simpa using hs) he
        exact fin x _ j ks2 fp fr k1 k2 k3 k4 k5 k6 (by simp [resSem])
      | cell c ty =>
        simp only [finRes] at he
        cases htd : lkp T ty with
        | none => rw [htd] at he; simp [RP.exec] at he
        | some td =>
          rw [htd] at he
          simp only at he
          obtain ⟨hck, he⟩ := exec_bif' he
          simp only [Bool.not_eq_false', Bool.and_eq_true] at hck
          have hsz := (nEq_iff _ _).1 hck.1
          have hag : td.agg = isPair t := by simpa using hck.2
          have hty := hT ty td htd
          simp only [RP.exec] at he
          have hv := h.slots c
          split at he <;> try (simp [RP.exec] at he; done)
          rename_i id off hsl
          rw [hsl] at hv
          simp only [RP.exec] at he
          split at he <;> try (simp [RP.exec] at he; done)
          rename_i l ho
          obtain ⟨b, e, k⟩ := hv.2
          have hb := k l ho
          subst hb
          obtain ⟨_, _, vs, el, hh, hl⟩ := h.var id l ho
          obtain ⟨x, l2, j, ks2, cs, vs2, fp, fr, q1, q2, q3, q4, q5, _, q7, q8, _⟩ := imp_exec' h t _ _ _ _ ((hl.drop off).take t.size) he
          split at q2 <;> try (simp [RP.exec] at q2; done)
          have q3 : vs2 = [] := q3
          subst q3
          rw [List.append_nil] at q1
          have hcl := Ow.size t _ _ _ q4
          have hat : At w (W.η id) 0 vs := ⟨_, el, _, [], [], hh, by simp, rfl⟩
          have hpos := t.pos
          have hat2 := hat.part off t.size (by rw [← q1] at hcl; simp only [List.length_take, List.length_drop] at hcl; omega)
          rw [Nat.zero_add, q1] at hat2
          have hrun := run_loadVar_at (P := P) w (vs := cs) (n := t.size) (g := td.agg) (by rw [← hsz]; exact hty.tag.1) hty.aggD hcl (fun hg => by rw [← hsz]; exact hty.one hg) hat2
          have h1c : ∀ v ∈ cs, v.oneCell' = true := isOne_of_rd (I := fun _ => True) t x cs (Ow.rd (fun _ _ => trivial) t x cs fp (fun _ _ => trivial) q4)
          have hu : Form t (mkV td.agg cs) ∧ (mkV td.agg cs).cells.toList = cs := by
            unfold Form mkV
            cases hg : td.agg with
            | true => rw [hg] at hag; rw [← hag]; exact ⟨⟨_, rfl⟩, rfl⟩
            | false =>
              rw [hg] at hag
              have h1 := hty.one hg
              rw [hsz] at h1
              obtain ⟨v, rfl⟩ : ∃ v, cs = [v] := by
                match cs, hcl with
                | [v], _ => exact ⟨v, rfl⟩
                | [], hn => simp at hn; omega
                | _ :: _ :: _, hn => simp at hn; omega
              have hv1 := h1c v (by simp)
              rw [← hag]
              refine ⟨by simpa using hv1, ?_⟩
              have : ((fun g (vs : List Value) => if g = true then Value.agg vs.toArray else vs.getD 0 undef) false [v]) = v := rfl
              simp [cells_one hv1]
          refine fin x (mkV td.agg cs) j ks2 fp fr q2 hu.1 (by rw [hu.2]; exact q4) q5 q7 (by rw [hu.2]; exact q8) ?_
          simp only [resSem, e, pt, asAddr, Sem.run_bind, Sem.run_pure, Result.andThen_ok, hrun]
  | .ptr t :: rs, rv, K, ks, he => by
    cases rv with
    | nil => simp [finRes, RP.exec] at he
    | cons v rv =>
      cases v with
      | cell c ty => simp [finRes, RP.exec] at he
      | tmp c =>
        simp only [finRes, RP.exec] at he
        have hv := h.slots c
        split at he <;> try (simp [RP.exec] at he; done)
        rename_i id off hsl
        rw [hsl] at hv
        obtain ⟨hoff, he5⟩ := exec_bif he
        clear he
        have hoff := (nEq_iff _ _).1 hoff
        subst hoff
        simp only [RP.exec] at he5
        split at he5 <;> try (simp [RP.exec] at he5; done)
        rename_i cs ho
        obtain ⟨b, e, k⟩ := hv.2
        have hb := k cs ho
        subst hb
        obtain ⟨x, j, rs2, fp, fr, vs, el, k1, k2, k3, k4, k5, k6⟩ := take_var h ho t _ _ he5
        obtain ⟨xs, ids, ks3, us, fq, tq, fs, m1, m2, m3, m4, m5, m6⟩ := finRes_exec hT h rs rv _ _ k1
        refine ⟨_, _, ks3, a.tmps.getD c undef :: us, (W.η id :: fp) ++ fq, (W.η id :: tops t vs) ++ tq, fr ++ fs, m1, ⟨_, us, _, fq, _, tq, rfl, rfl, rfl, ?_, ?_⟩, ?_, ?_, ?_, ⟨_, us, rfl, by simp only [resSem, Sem.run_pure], m6⟩⟩
        · rw [head_cons]; exact ⟨W.η id, vs, el, fp, e, rfl, rfl, k2, Ow.mono (w := w) plusL (fun _ _ => rfl) t _ _ _ (fun _ _ => rfl) k3⟩
        · rw [tail_cons]; exact m2.mono plusR
        · rw [← List.cons_append, blk_append]; exact perm_two k4 m3
        · intro k hk
          rw [← List.cons_append] at hk
          rcases List.mem_append.1 hk with hk | hk
          · exact k5 k hk
          · exact m4 k hk
        · intro b hb
          rw [← List.cons_append]
          rcases List.mem_append.1 hb with hb | hb
          · obtain ⟨j', hj, z⟩ := k6 b hb; exact ⟨j', List.mem_append_left _ hj, z⟩
          · obtain ⟨j', hj, z⟩ := m5 b hb; exact ⟨j', List.mem_append_right _ hj, z⟩

def notVal : PK → Bool
  | .val _ => false
  | _ => true

theorem finIo_exec (h : Rel B Al s a w W) {α : Type} {r : α × List Key} : ∀ (ps : List PK) (vs : List Value) (n : Nat) (K : Tys (ioOf ps) → List Nat → RP α) (ks : List Key), vs.length = ps.length →
    (∀ (j : Nat) (v : Value) (p : PK), vs[j]? = some v → ps[j]? = some p → notVal p = true → a.tmps.getD (n + j) undef = v) → (finIo ps n K).exec s ks = some r →
    ∃ x ids ks2 fp tp fr, (K x ids).exec s ks2 = some r ∧ BackOk w (plus W.I fr) ps vs x fp tp ∧ (blk W ids).Perm (fp ++ fr) ∧ (∀ i ∈ ids, (s.ob i).isSome = true) ∧ (∀ b ∈ tp, ∃ i ∈ ids, W.nl i = false ∧ b = W.η i)
  | [], vs, n, K, ks, hl, _, he => ⟨(), [], ks, [], [], [], he, ⟨List.eq_nil_of_length_eq_zero hl, rfl, rfl⟩, List.Perm.refl _, by simp, by simp⟩
  | p :: ps, [], n, K, ks, hl, _, he => by simp at hl
  | p :: ps, v :: vs, n, K, ks, hl, hp, he => by
    have hl' : vs.length = ps.length := by simpa using hl
    have hp' : ∀ (j : Nat) (u : Value) (p : PK), vs[j]? = some u → ps[j]? = some p → notVal p = true → a.tmps.getD (n + 1 + j) undef = u := fun j u q hu hq hn => by
      have := hp (j + 1) u q (by simpa using hu) (by simpa using hq) hn
      rw [show n + 1 + j = n + (j + 1) by omega]; exact this
    cases p with
    | val t =>
      obtain ⟨x, ids, ks2, fp, tp, fr, m1, m2, m3, m4, m5⟩ := finIo_exec h ps vs (n + 1) K ks hl' hp' he
      exact ⟨x, ids, ks2, fp, tp, fr, m1, ⟨v, vs, rfl, m2⟩, m3, m4, m5⟩
    | io t =>
      have hv : a.tmps.getD n undef = v := hp 0 v (.io t) rfl rfl rfl
      simp only [finIo, RP.exec] at he
      obtain ⟨hs, he⟩ := exec_bif' he
      obtain ⟨x, j, rs2, fp, fr, k1, k2, k3, k4, k5, k6⟩ := take_val h (h.slots n) t _ _ (by simpa using hs) he
      rw [hv] at k2 k3 k6
      obtain ⟨xs, ids, ks3, fq, tq, fs, m1, m2, m3, m4, m5⟩ := finIo_exec h ps vs (n + 1) _ _ hl' hp' k1
      refine ⟨_, _, ks3, fp ++ fq, tops t v.cells.toList ++ tq, fr ++ fs, m1, ⟨v, vs, fp, fq, _, tq, rfl, rfl, rfl, ?_, ?_⟩, by rw [blk_append]; exact perm_two k4 m3, ?_, ?_⟩
      · rw [head_cons]; exact ⟨k2, Ow.mono (w := w) plusL (fun _ _ => rfl) t _ _ _ (fun _ _ => rfl) k3, rfl⟩
      · rw [tail_cons]; exact m2.mono plusR
      · intro k hk
        rcases List.mem_append.1 hk with hk | hk
        · exact k5 k hk
        · exact m4 k hk
      · intro b hb
        rcases List.mem_append.1 hb with hb | hb
        · obtain ⟨j', hj, z⟩ := k6 b hb; exact ⟨j', List.mem_append_left _ hj, z⟩
        · obtain ⟨j', hj, z⟩ := m5 b hb; exact ⟨j', List.mem_append_right _ hj, z⟩
    | ptr t =>
      have hvv : a.tmps.getD n undef = v := hp 0 v (.ptr t) rfl rfl rfl
      simp only [finIo, RP.exec] at he
      have hv := h.slots n
      split at he <;> try (simp [RP.exec] at he; done)
      rename_i id off hsl
      rw [hsl] at hv
      obtain ⟨hoff, he5⟩ := exec_bif he
      clear he
      have hoff := (nEq_iff _ _).1 hoff
      subst hoff
      simp only [RP.exec] at he5
      split at he5 <;> try (simp [RP.exec] at he5; done)
      rename_i cs ho
      obtain ⟨b, e, k⟩ := hv.2
      have hb := k cs ho
      subst hb
      rw [hvv] at e
      obtain ⟨x, j, rs2, fp, fr, us, el, k1, k2, k3, k4, k5, k6⟩ := take_var h ho t _ _ he5
      obtain ⟨xs, ids, ks3, fq, tq, fs, m1, m2, m3, m4, m5⟩ := finIo_exec h ps vs (n + 1) _ _ hl' hp' k1
      refine ⟨_, _, ks3, (W.η id :: fp) ++ fq, (W.η id :: tops t us) ++ tq, fr ++ fs, m1, ⟨v, vs, _, fq, _, tq, rfl, rfl, rfl, ?_, ?_⟩, ?_, ?_, ?_⟩
      · rw [head_cons]; exact ⟨W.η id, us, el, fp, e, rfl, rfl, k2, Ow.mono (w := w) plusL (fun _ _ => rfl) t _ _ _ (fun _ _ => rfl) k3⟩
      · rw [tail_cons]; exact m2.mono plusR
      · rw [← List.cons_append, blk_append]; exact perm_two k4 m3
      · intro k hk
        rw [← List.cons_append] at hk
        rcases List.mem_append.1 hk with hk | hk
        · exact k5 k hk
        · exact m4 k hk
      · intro b hb
        rw [← List.cons_append]
        rcases List.mem_append.1 hb with hb | hb
        · obtain ⟨j', hj, z⟩ := k6 b hb; exact ⟨j', List.mem_append_left _ hj, z⟩
        · obtain ⟨j', hj, z⟩ := m5 b hb; exact ⟨j', List.mem_append_right _ hj, z⟩

def pinOf : List PK → List Value → Nat → Option Value
  | p :: _, v :: _, 0 => if notVal p then some v else none
  | _ :: ps, _ :: vs, n + 1 => pinOf ps vs n
  | _, _, _ => none

theorem pinOf_some : ∀ (ps : List PK) (vs : List Value) (n : Nat) (v : Value), pinOf ps vs n = some v → vs[n]? = some v
  | p :: _, u :: _, 0, v, h => by
    simp only [pinOf] at h
    split at h
    · simpa using h
    · simp at h
  | _ :: ps, _ :: vs, n + 1, v, h => by simpa using pinOf_some ps vs n v h
  | [], _, _, _, h => by simp [pinOf] at h
  | _ :: _, [], 0, _, h => by simp [pinOf] at h
  | _ :: _, [], _ + 1, _, h => by simp [pinOf] at h

theorem pinOf_get : ∀ (ps : List PK) (vs : List Value) (n : Nat) (v : Value) (p : PK), vs[n]? = some v → ps[n]? = some p → notVal p = true → pinOf ps vs n = some v
  | p :: _, u :: _, 0, v, q, h, h2, h3 => by
    simp only [List.getElem?_cons_zero, Option.some.injEq] at h h2
    subst h; subst h2
    simp [pinOf, h3]
  | _ :: ps, _ :: vs, n + 1, v, q, h, h2, h3 => pinOf_get ps vs n v q (by simpa using h) (by simpa using h2) h3
  | [], _, _, _, _, _, h, _ => by simp at h
  | _ :: _, [], _, _, _, h, _, _ => by simp at h

theorem pinsOk_spec (ws : List Nat) : ∀ (ps : List PK) (n : Nat), pinsOk ws ps n = true → ∀ (vs : List Value) (j : Nat), j + n ∈ ws → pinOf ps vs j = none
  | [], _, _, vs, j, _ => by cases vs <;> cases j <;> rfl
  | p :: ps, n, h, [], j, _ => by cases j <;> rfl
  | p :: ps, n, h, v :: vs, 0, hj => by
    cases p with
    | val t => rfl
    | io t => simp only [pinsOk, Bool.and_eq_true, Bool.not_eq_true'] at h; rw [Nat.zero_add] at hj; rw [(hasN_iff n ws).2 hj] at h; simp at h
    | ptr t => simp only [pinsOk, Bool.and_eq_true, Bool.not_eq_true'] at h; rw [Nat.zero_add] at hj; rw [(hasN_iff n ws).2 hj] at h; simp at h
  | p :: ps, n, h, v :: vs, j + 1, hj => by
    have h2 : pinsOk ws ps (n + 1) = true := by
      cases p with
      | val t => exact h
      | io t => simp only [pinsOk, Bool.and_eq_true] at h; exact h.2
      | ptr t => simp only [pinsOk, Bool.and_eq_true] at h; exact h.2
    exact pinsOk_spec ws ps (n + 1) h2 vs j (by rw [show j + (n + 1) = j + 1 + n by omega]; exact hj)

theorem ltAll_spec (n : Nat) : ∀ l, ltAll n l = true → ∀ d ∈ l, d < n
  | [], _, d, hd => by simp at hd
  | m :: l, h, d, hd => by
    simp only [ltAll, Bool.and_eq_true] at h
    rcases List.mem_cons.1 hd with k | k
    · subst k; exact Nat.le_of_ble_eq_true h.1
    · exact ltAll_spec n l h.2 d k

theorem args_len {S : Nat → Prop} : ∀ (ps : List PK) (vs : List Value) (x : Tys (ps.map PK.ty)) (fp tp : List Nat), ArgsOk w S ps vs x fp tp → vs.length = ps.length
  | [], _, _, _, _, ⟨h, _⟩ => by rw [h]; rfl
  | _ :: ps, _, _, _, _, ⟨v, vs', f1, f2, t1, t2, e, _, _, _, h⟩ => by rw [e, List.length_cons, List.length_cons, args_len ps vs' _ _ _ h]

theorem split_app : ∀ (a b : List Ty) (x : Tys a) (y : Tys b), splitTys a b (appTys a b x y) = (x, y)
  | [], _, _, _ => rfl
  | [_], [], _, _ => rfl
  | [_], _ :: _, _, _ => rfl
  | _ :: u :: r, b, x, y => by
    show (match splitTys (u :: r) b (appTys (u :: r) b x.2 y) with | (p, q) => ((x.1, p), q)) = _
    rw [split_app (u :: r) b]
    rfl

theorem tops_sub {S : Nat → Prop} : ∀ (t : Ty) (x : t.den) cs fp, Ow w S t x cs fp → ∀ b ∈ tops t cs, b ∈ fp
  | .int _, _, _, _, _, b, hb => by simp [tops] at hb
  | .bool, _, _, _, _, b, hb => by simp [tops] at hb
  | .str, _, _, _, _, b, hb => by simp [tops] at hb
  | .sl false _, _, _, _, _, b, hb => by simp [tops] at hb
  | .box _ _, _, _, _, _, b, hb => by simp [tops] at hb
  | .sl true t, _, _, _, h, b, hb => by
    rcases h with ⟨_, e, _⟩ | ⟨g, c, f, e1, e2, _⟩
    · rw [e] at hb; simp [tops] at hb
    · rw [e1] at hb; rw [e2]; simp [tops] at hb; subst hb; simp
  | .pair a c, x, _, _, ⟨c1, c2, f1, f2, e, e', h, h'⟩, b, hb => by
    rw [e, tops_pair (Ow.size a _ _ _ h)] at hb
    rw [e']
    rcases List.mem_append.1 hb with k | k
    · exact List.mem_append_left _ (tops_sub a _ _ _ h b k)
    · exact List.mem_append_right _ (tops_sub c _ _ _ h' b k)

theorem args_tops {S : Nat → Prop} : ∀ (ps : List PK) (vs : List Value) (x : Tys (ps.map PK.ty)) (fp tp : List Nat), ArgsOk w S ps vs x fp tp → ∀ b ∈ tp, b ∈ fp
  | [], _, _, _, _, ⟨_, _, h⟩, b, hb => by rw [h] at hb; simp at hb
  | p :: ps, _, _, _, _, ⟨v, vs', f1, f2, t1, t2, _, e2, e3, h1, h⟩, b, hb => by
    rw [e3] at hb; rw [e2]
    rcases List.mem_append.1 hb with k | k
    · refine List.mem_append_left _ ?_
      cases p with
      | val t => obtain ⟨_, q, e⟩ := h1; rw [e] at k; exact tops_sub t _ _ _ q b k
      | io t => obtain ⟨_, q, e⟩ := h1; rw [e] at k; exact tops_sub t _ _ _ q b k
      | ptr t =>
        obtain ⟨g, cs, e, f, q1, q2, q3, q4, q5⟩ := h1
        rw [q3] at k; rw [q2]
        rcases List.mem_cons.1 k with k | k
        · subst k; simp
        · exact List.mem_cons_of_mem _ (tops_sub t _ _ _ q5 b k)
    · exact List.mem_append_right _ (args_tops ps vs' _ _ _ h b k)

theorem run_results {fn : Func} {us : List Value} (h : All2 (fun v u => (resSem P a v).run P w = .ok u w) fn.results.toList us) : (results fn a.tmps).run P w = .ok (resV us) w := by
  have h1 := mapM_list (P := P) (w := w) (resSem P a) fn.results.toList us h
  have h2 : (fn.results.mapM fun x => resSem P a x).run P w = .ok us.toArray w := by
    rw [Array.mapM_eq_mapM_toList]
    simp [h1]
  unfold results
  rw [Sem.run_bind]
  show ((Sem.run P (Array.mapM (fun x => resSem P a x) fn.results) w).andThen _) = _
  rw [h2, Result.andThen_ok, Sem.run_pure]
  match us with
  | [] => rfl
  | [u] => rfl
  | u :: v :: l => rfl

theorem fn_sound [Laid] (hT : TabOk P T) (hE : EnvOk P E) (hm : P.follows .mixedOrders = true) {g : Nat} {fn : Func} {body : Code} {ctr : Ctr} (hf : P.funcs[g]? = some fn) (hn : (fn.name == "runtime.NumGoroutine") = false) (hb : fn.body = some body)
    (hev : ∀ x, evF T E A ctr.g fn.ntmps fn.results.toList body x = ctr.fn x) : CtrOk P g ctr := by
  intro w args x S fp tp y hS hargs hnd himm hLw hLf hy o a K Q hK
  have hx := (hev x).trans hy
  have hcall : (callFunc g args.toArray).run P w = .ok (.enter g args.toArray) w := by
    have hne : ¬ fn.name = "runtime.NumGoroutine" := by simpa using hn
    unfold callFunc
    simp [run_program, hf, hne, hb]
  rw [hcall, Oper.upon_enter]
  refine calls_of_wp hf hb ?_
  unfold evF at hx
  cases hck : (pinsOk (writes body) ctr.g.ps 0 && ltAll fn.ntmps (writes body) && Nat.ble ctr.g.ps.length fn.ntmps) with
  | false => rw [hck] at hx; simp at hx
  | true =>
    rw [hck] at hx
    simp only [Bool.not_true, cond_false] at hx
    simp only [Bool.and_eq_true] at hck
    obtain ⟨⟨c1, c2⟩, c3⟩ := hck
    have c3 : ctr.g.ps.length ≤ fn.ntmps := Nat.le_of_ble_eq_true c3
    have hlen := args_len _ _ _ _ _ hargs
    let B : Base := { w0 := w, S0 := S, fpT := fun b => b ∈ tp, fpN := fun b => b ∈ fp, pin := pinOf ctr.g.ps args, nt := fn.ntmps }
    let a0 : Act := { tmps := args.toArray ++ Array.replicate (fn.ntmps - args.toArray.size) undef, defers := [] }
    have hget : ∀ (j : Nat) (v : Value), args[j]? = some v → a0.tmps.getD j undef = v := fun j v hv => by
      have hlt : j < args.length := by
        rcases Nat.lt_or_ge j args.length with h | h
        · exact h
        · rw [List.getElem?_eq_none h] at hv; simp at hv
      have hv2 : args[j] = v := by rw [List.getElem?_eq_getElem hlt] at hv; simpa using hv
      show (args.toArray ++ Array.replicate (fn.ntmps - args.toArray.size) undef).getD j undef = v
      have hl2 : j < (args.toArray ++ Array.replicate (fn.ntmps - args.toArray.size) undef).size := by simp; omega
      simp [Array.getD, hl2, hlt, hv2]
      omega
    have hbase : Rel B (fun i => i < 0) St.empty a0 w ⟨S, fun _ => 0, fun _ => [], fun _ => 0, fun _ => false⟩ :=
      { slots := fun i => ⟨fun k => by simp [St.empty, isUndef] at k, trivial⟩
        mS := fun i id k => k.elim
        mO := fun id l hx => by simp [St.empty] at hx
        al := fun id hx => by simp [St.empty] at hx
        row := fun id t xs hx => by simp [St.empty] at hx
        var := fun id l hx => by simp [St.empty] at hx
        nod := fun i hx => by simp [St.empty] at hx
        dis := fun i j _ hx => by simp [St.empty] at hx
        imm := fun i hx => by simp [St.empty] at hx
        bnd := hS
        def0 := rfl
        size := by show (args.toArray ++ Array.replicate (fn.ntmps - args.toArray.size) undef).size = fn.ntmps; simp; omega
        pins := fun n v hv => hget n v (pinOf_some _ _ _ _ hv)
        os := rfl
        tape := rfl
        output := rfl
        grown := Nat.le_refl _
        old := fun _ _ _ => rfl
        ownT := fun i hx => by simp [St.empty] at hx
        ownN := fun i hx => by simp [St.empty] at hx
        from0 := fun b hb => .inl hb }
    obtain ⟨s1, f1, k1, k2⟩ := init_sound ctr.g.ps args x 0 St.empty 0 _ fp tp hbase hargs (fun j v hv => by rw [Nat.zero_add]; exact hget j v hv) hnd himm (fun b _ j hj => by simp [St.empty] at hj) (fun b hb => .inr (.inl hb)) (fun b hb => .inl hb) hx
    have hcode : CodeOk B body := fun d hd => ⟨ltAll_spec _ _ c2 d hd, pinsOk_spec _ _ 0 c1 args d hd⟩
    have hEB : EnvB P E B := ⟨hE, hLw, fun b hb => hb.elim (fun k => hLf b (args_tops _ _ _ _ _ hargs b k)) (fun k => hLf b k)⟩
    refine (code_all hT hEB hm body).1 _ s1 f1 _ y a0 w _ hcode k1 k2 fun e s2 f2 a2 w2 hk hs2 => ?_
    have fin : ((finRes T ctr.g.rs fn.results.toList fun a i => finIo ctr.g.ps 0 fun b j => .ret (appTys (ctr.g.rs.map RK.ty) (ioOf ctr.g.ps) a b, i ++ j)).run s2 (fun p _ => bif nodupB p.2 then some p.1 else none) []) = some y →
        a2.defers = [] ∧ ∃ v, (results fn a2.tmps).run P w2 = .ok v w2 ∧ K (a.put o.dst v) w2 := by
      intro hk
      obtain ⟨W, hr⟩ := hs2
      rw [RP.run_eq] at hk
      cases hex : (finRes T ctr.g.rs fn.results.toList fun a i => finIo ctr.g.ps 0 fun b j => .ret (appTys (ctr.g.rs.map RK.ty) (ioOf ctr.g.ps) a b, i ++ j)).exec s2 [] with
      | none => rw [hex] at hk; simp at hk
      | some q =>
        obtain ⟨⟨z, ids⟩, ks⟩ := q
        rw [hex] at hk
        simp only [Option.bind_some] at hk
        cases hnb : nodupB ids with
        | false => rw [hnb] at hk; simp at hk
        | true =>
          rw [hnb] at hk
          have hk : z = y := Option.some.inj hk
          subst hk
          obtain ⟨xa, ia, ks2, us, fa, ta, ra, m1, m2, m3, m4, m5, m6⟩ := finRes_exec hT hr _ _ _ _ hex
          obtain ⟨xb, ib, ks3, fb, tb, rb, n1, n2, n3, n4, n5⟩ := finIo_exec hr ctr.g.ps args 0 _ _ hlen (fun j v p hv hp hq => by rw [Nat.zero_add]; exact hr.pins j v (pinOf_get _ _ _ _ _ hv hp hq)) m1
          simp only [RP.exec, Option.some.injEq, Prod.mk.injEq] at n1
          obtain ⟨⟨rfl, rfl⟩, _⟩ := n1
          have hids : ∀ i ∈ ia ++ ib, (s2.ob i).isSome = true := fun i hi => (List.mem_append.1 hi).elim (m4 i) (n4 i)
          have hall := hr.blkNodup _ (nodupB_iff _ hnb) hids
          have hperm : (blk W (ia ++ ib)).Perm ((fa ++ fb) ++ (ra ++ rb)) := by rw [blk_append]; exact perm_two m3 n3
          have hpn := hperm.nodup_iff.1 hall
          rw [List.nodup_append] at hpn
          have inB : ∀ b, b ∈ fa ++ fb ∨ b ∈ ra ++ rb → ∃ i ∈ ia ++ ib, b ∈ fpOf W i := fun b hb => mem_blk.1 (hperm.mem_iff.2 (List.mem_append.2 hb))
          have org : ∀ b, b ∈ fa ++ fb ∨ b ∈ ra ++ rb → b ∈ tp ∨ b ∈ fp ∨ w.heap.size ≤ b := fun b hb => by
            obtain ⟨i, hi, hbi⟩ := inB b hb
            obtain ⟨hn2, q | q⟩ := fpOf_cases hbi
            · rw [q]; exact (hr.ownT i (hids i hi) hn2).imp id .inr
            · exact hr.ownN i (hids i hi) b q
          refine ⟨hr.def0, resV us, run_results m6, ?_⟩
          have tpfp := args_tops _ _ _ _ _ hargs
          have org2 : ∀ b, b ∈ fa ++ fb ∨ b ∈ ra ++ rb → b ∈ fp ∨ w.heap.size ≤ b := fun b hb => by
            rcases org b hb with k | k | k
            · exact .inl (tpfp b k)
            · exact .inl k
            · exact .inr k
          refine hK us w2 (plus W.I (ra ++ rb)) fa fb ta tb ?_ ?_ ?_
          · rw [split_app]; exact m2.mono plusL
          · rw [split_app]; exact n2.mono plusR
          · exact {
              nd := hpn.1
              imm := fun b hb k => by
                rcases k with k | k
                · obtain ⟨i, hi, hbi⟩ := inB b (.inl hb); exact hr.imm i (hids i hi) b hbi k
                · exact hpn.2.2 b hb b k rfl
              top := fun b hb => by
                have : ∃ i ∈ ia ++ ib, W.nl i = false ∧ b = W.η i := by
                  rcases List.mem_append.1 hb with k | k
                  · obtain ⟨i, hi, q⟩ := m5 b k; exact ⟨i, List.mem_append_left _ hi, q⟩
                  · obtain ⟨i, hi, q⟩ := n5 b k; exact ⟨i, List.mem_append_right _ hi, q⟩
                obtain ⟨i, hi, hn2, e⟩ := this
                rw [e]; exact hr.ownT i (hids i hi) hn2
              all := fun b hb => org2 b (.inl hb)
              sub := fun b hb => by
                rcases hb with k | k
                · rcases hr.from0 b k with q | q | q | q
                  · exact .inl q
                  · exact .inr (.inl (tpfp b q))
                  · exact .inr (.inl q)
                  · exact .inr (.inr q)
                · exact .inr (org2 b (.inr k))
              bnd := fun b hb => by
                rcases hb with k | k
                · exact hr.bnd b k
                · obtain ⟨i, hi, hbi⟩ := inB b (.inr k); exact hr.lt (hids i hi) b hbi
              old := fun b hb hn2 => hr.old b hb hn2
              size := hr.grown
              os := hr.os
              tape := hr.tape
              output := hr.output }
    cases e with
    | exit n => simp at hk
    | normal => exact fin hk
    | ret => exact fin hk
end
end Go.Rf

/- The table of types, checked. -/
namespace Go.Rf
set_option linter.unusedVariables false
set_option linter.unusedSimpArgs false

def eqV : Value → Value → Bool
  | .int k n, .int k' m => kEq k k' && decide (n = m)
  | .bool a, .bool b => a == b
  | .string a, .string b => decide (a.data.toList = b.data.toList)
  | .slice none n c, .slice none m d => Nat.beq n m && Nat.beq c d
  | _, _ => false

theorem eqV_iff {a b : Value} (h : eqV a b = true) : a = b := by
  unfold eqV at h
  split at h
  · simp only [Bool.and_eq_true, decide_eq_true_eq] at h
    rw [kEq_iff h.1, h.2]
  · simp only [beq_iff_eq] at h; rw [h]
  · simp only [decide_eq_true_eq] at h
    congr 1
    apply ByteArray.ext
    apply Array.ext'
    exact h
  · simp only [Bool.and_eq_true] at h
    rw [Nat.eq_of_beq_eq_true h.1, Nat.eq_of_beq_eq_true h.2]
  · simp at h

def eqVs : List Value → List Value → Bool
  | [], [] => true
  | a :: r, b :: r' => eqV a b && eqVs r r'
  | _, _ => false

theorem eqVs_iff : ∀ {l m : List Value}, eqVs l m = true → l = m
  | [], [], _ => rfl
  | a :: r, b :: r', h => by
    simp only [eqVs, Bool.and_eq_true] at h
    rw [eqV_iff h.1, eqVs_iff h.2]
  | [], _ :: _, h => by simp [eqVs] at h
  | _ :: _, [], h => by simp [eqVs] at h

def tagChk (P : Program) (t n b : Nat) (zs : List Value) : Bool :=
  match P.info? t with
  | some i => Nat.beq i.size n && Nat.beq i.bytes b && match i.zero with
    | some z => eqVs z.cells.toList zs
    | none => false
  | none => false

theorem tagChk_ok {P : Program} {t n b : Nat} {zs : List Value} (h : tagChk P t n b zs = true) : TagOk P t n b zs := by
  unfold tagChk at h
  unfold TagOk
  cases hi : P.info? t with
  | none => rw [hi] at h; simp at h
  | some i =>
    rw [hi] at h
    simp only [Bool.and_eq_true] at h
    cases hz : i.zero with
    | none => rw [hz] at h; simp at h
    | some z =>
      rw [hz] at h
      exact ⟨by simp [Nat.eq_of_beq_eq_true h.1.1], by simp [Nat.eq_of_beq_eq_true h.1.2], z, by simp [hz], eqVs_iff h.2⟩

def fldChk (P : Program) : List Field → List (Nat × Nat × Bool) → Bool
  | [], [] => true
  | fd :: fs, (o, n, g) :: l => Nat.beq fd.offset o && (match P.info? fd.type with | some i => Nat.beq i.size n | none => false) && !Nat.beq n 0 && (match P.underlying fd.type with | some d => aggD d == g | none => false) && fldChk P fs l
  | _, _ => false

theorem fldChk_ok {P : Program} : ∀ {fs : List Field} {l : List (Nat × Nat × Bool)}, fldChk P fs l = true → fs.length = l.length ∧
    ∀ (j o n : Nat) (g : Bool), l[j]? = some (o, n, g) → ∃ fd : Field, fs[j]? = some fd ∧ fd.offset = o ∧ (P.info? fd.type).map (·.size) = some n ∧ n ≠ 0 ∧ (P.underlying fd.type).map aggD = some g
  | [], [], _ => ⟨rfl, by simp⟩
  | fd :: fs, (o, n, g) :: l, h => by
    simp only [fldChk, Bool.and_eq_true] at h
    obtain ⟨⟨⟨⟨h1, h2⟩, h3⟩, h4⟩, h5⟩ := h
    obtain ⟨k1, k2⟩ := fldChk_ok h5
    refine ⟨by simp [k1], fun j o' n' g' hj => ?_⟩
    cases j with
    | zero =>
      simp only [List.getElem?_cons_zero, Option.some.injEq, Prod.mk.injEq] at hj
      obtain ⟨rfl, rfl, rfl⟩ := hj
      refine ⟨fd, rfl, Nat.eq_of_beq_eq_true h1, ?_, ?_, ?_⟩
      · cases hi : P.info? fd.type with
        | none => rw [hi] at h2; simp at h2
        | some i => rw [hi] at h2; simp [Nat.eq_of_beq_eq_true h2]
      · intro e; subst e; simp at h3
      · cases hi : P.underlying fd.type with
        | none => rw [hi] at h4; simp at h4
        | some d => rw [hi] at h4; simpa using h4
    | succ j => exact k2 j o' n' g' (by simpa using hj)
  | [], _ :: _, h => by simp [fldChk] at h
  | _ :: _, [], h => by simp [fldChk] at h

def kindChk (P : Program) (T : Tab) (t : Nat) (td : TD) : Bool :=
  match td.ty, P.underlying t with
  | .int k, some (.int k') => kEq k k'
  | .bool, some .bool => true
  | .str, some .string => true
  | .sl _ e, some (.slice el) => (match td.elem with | some el' => Nat.beq el el' | none => false) && tagChk P el e.size (elemBytes T t) (zeroVals e)
  | .pair _ _, _ => td.agg
  | _, _ => false

theorem kindChk_ok {P : Program} {T : Tab} {t : Nat} {td : TD} (h : kindChk P T t td = true) : match td.ty with
    | .int k => P.underlying t = some (.int k)
    | .bool => P.underlying t = some .bool
    | .str => P.underlying t = some .string
    | .sl _ e => ∃ el, td.elem = some el ∧ P.underlying t = some (.slice el) ∧ TagOk P el e.size (elemBytes T t) (zeroVals e)
    | .pair _ _ => td.agg = true
    | .box _ _ => False := by
  unfold kindChk at h
  split at h
  · rename_i k k' h1 h2; rw [h1]; simp only; rw [h2, kEq_iff h]
  · rename_i h1 h2; rw [h1]; exact h2
  · rename_i h1 h2; rw [h1]; exact h2
  · rename_i m e el h1 h2
    rw [h1]
    simp only [Bool.and_eq_true] at h
    cases he : td.elem with
    | none => rw [he] at h; simp at h
    | some el' =>
      rw [he] at h
      have := Nat.eq_of_beq_eq_true h.1
      subst this
      exact ⟨el, rfl, h2, tagChk_ok h.2⟩
  · rename_i a b h1; rw [h1]; exact h
  · simp at h
end Go.Rf
