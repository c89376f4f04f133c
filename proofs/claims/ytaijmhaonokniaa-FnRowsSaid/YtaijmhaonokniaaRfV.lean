/- A call's results, and what comes back. -/
import Derived.Test.YtaijmhaonokniaaRfU
namespace Go.Rf
set_option linter.unusedVariables false
set_option linter.unusedSimpArgs false

section
variable {P : Program} {T : Tab} {E : Env} {B : Base} {Al Al' : Nat → Prop} {s s' : St} {a : Act} {w w' : World} {W W' : Wit} {o : Oper} {f : Nat}
  {ob ob' : Nat → Option Obj} {rs rs' : List Key} {u : Upd} {I : Nat → Prop}

theorem VN.one {os : List NewOb} {c : Sc} {v : Value} (h : VN w I os c v) : v.oneCell' = true := by
  cases c with
  | int k n => rw [show v = _ from h]; rfl
  | bool b => rw [show v = _ from h]; rfl
  | str s => rw [show v = _ from h]; rfl
  | rd sf t xs => cases sf with
    | false => obtain ⟨A, c, e, _⟩ := Rd.slv (m := false) h; rw [e]; rfl
    | true => exact h.elim
  | bx sf g t x => cases sf with
    | false => exact isOne_of_rd (.box g t) x [v] h v (by simp)
    | true => exact h.elim
  | own id => obtain ⟨o, _, _, t, xs, _, e⟩ := h; rw [e]; cases o.nl <;> rfl
  | pv id off => obtain ⟨o, _, _, _, e⟩ := h; rw [e]; rfl
  | _ => exact h.elim

def RVN (w : World) (I : Nat → Prop) (os : List NewOb) (p : Bool × List Sc) (u : Value) : Prop :=
  if p.1 then ∃ us, u = .agg us.toArray ∧ All2 (VN w I os) p.2 us else All2 (VN w I os) p.2 [u]

theorem RVN.mono {I' : Nat → Prop} {os os' : List NewOb} (hI : ∀ b, I b → I' b) (ho : ∀ o ∈ os, o ∈ os') {p : Bool × List Sc} {v : Value} (h : RVN w I os p v) : RVN w I' os' p v := by
  unfold RVN at h ⊢
  split
  · rename_i hb; rw [if_pos hb] at h
    obtain ⟨us, e, k⟩ := h
    exact ⟨us, e, k.imp fun c _ v k => VN.mono hI ho k⟩
  · rename_i hb; rw [if_neg hb] at h
    exact h.imp fun c _ v k => VN.mono hI ho k

theorem form_rvn {os : List NewOb} {t : Ty} {v : Value} {l : List Sc} (hF : Form t v) (hl : All2 (VN w I os) l v.cells.toList) : RVN w I os (isPair t, l) v := by
  unfold RVN Form at *
  cases hp : isPair t with
  | true =>
    rw [hp] at hF
    simp only [if_true] at hF ⊢
    obtain ⟨us, e⟩ := hF
    subst e
    exact ⟨us.toList, rfl, hl⟩
  | false =>
    rw [hp] at hF
    simp only [Bool.false_eq_true, if_false] at hF ⊢
    rw [cells_one hF] at hl
    exact hl

/-- A variable and what it holds, as new objects. -/
theorem var_new {t : Ty} {x : t.den} {g : Nat} {cs : List Value} {e : TypeId} {fp : List Nat} (id f : Nat) (hh : w.heap[g]? = some (.cells cs.toArray e (0, 0))) (how : Ow w I t x cs fp) :
    ∃ os : List NewOb, (id, some (Obj.var (explodeO t x f).1)) :: (explodeO t x f).2.1 = os.map NewOb.upd ∧ f + os.length = (explodeO t x f).2.2 + 1 ∧ os.map (·.id) = id :: List.range' f (os.length - 1) ∧
      g :: fp = os.flatMap NewOb.fp ∧ g :: tops t cs = os.flatMap NewOb.tp ∧ (∀ o ∈ os, NOk w I os o) ∧ (∃ o ∈ os, o.id = id ∧ o.ob = .var (explodeO t x f).1 ∧ o.g = g) ∧ ∀ o ∈ os, (o.id = id ∧ o.ob = .var (explodeO t x f).1 ∧ o.g = g) ∨ (f ≤ o.id ∧ o.id < (explodeO t x f).2.2) := by
  obtain ⟨os, p1, p2, p3, p4, p5, p6, p7⟩ := explode_new t x cs fp f how
  let v0 : NewOb := ⟨id, .var (explodeO t x f).1, g, 0, [], false⟩
  have s1 : ∀ o ∈ os, o ∈ v0 :: os := fun o ho => List.mem_cons_of_mem _ ho
  refine ⟨v0 :: os, ?_, ?_, ?_, ?_, ?_, ?_, ⟨v0, by simp, rfl, rfl, rfl⟩, ?_⟩
  · rw [p1]; rfl
  · rw [p2, List.length_cons]; omega
  · rw [List.map_cons, p3]; simp [v0]
  · rw [p4]; rfl
  · rw [p5]; rfl
  · intro o ho
    rcases List.mem_cons.1 ho with k | k
    · subst k; exact ⟨rfl, rfl, cs, e, hh, p6.imp fun c _ v k => VN.mono (fun _ h => h) s1 k⟩
    · exact NOk.mono (fun _ h => h) s1 (p7 o k)
  · intro o ho
    rcases List.mem_cons.1 ho with k | k
    · subst k; exact .inl ⟨rfl, rfl, rfl⟩
    · right
      have : o.id ∈ List.range' f os.length := by rw [← p3]; exact List.mem_map.2 ⟨o, k, rfl⟩
      rw [List.mem_range'_1] at this
      omega

theorem res_new : ∀ (rs : List RK) (us : List Value) (y : Tys (rs.map RK.ty)) (fp tp : List Nat) (f : Nat), ResOk w I rs us y fp tp →
    ∃ os : List NewOb, (resOut rs y f).2.1 = os.map NewOb.upd ∧ (resOut rs y f).2.2 = f + os.length ∧ os.map (·.id) = List.range' f os.length ∧ fp = os.flatMap NewOb.fp ∧ tp = os.flatMap NewOb.tp ∧
      All2 (RVN w I os) (resOut rs y f).1 us ∧ ∀ o ∈ os, NOk w I os o
  | [], us, y, fp, tp, f, ⟨h1, h2, h3⟩ => by subst h1; subst h2; subst h3; exact ⟨[], rfl, rfl, rfl, rfl, rfl, rfl, by simp⟩
  | .val t :: rs, us, y, fp, tp, f, ⟨v, vs', f1, f2, t1, t2, e1, e2, e3, ⟨hF, how, htp⟩, hr⟩ => by
    obtain ⟨os1, p1, p2, p3, p4, p5, p6, p7⟩ := explode_new t _ _ f1 f how
    obtain ⟨os2, q1, q2, q3, q4, q5, q6, q7⟩ := res_new rs vs' (tailTy t (rs.map RK.ty) y) f2 t2 (f + os1.length) hr
    have hex : resOut (.val t :: rs) y f = ((isPair t, (explodeO t (headTy t (rs.map RK.ty) y) f).1) :: (resOut rs (tailTy t (rs.map RK.ty) y) (f + os1.length)).1,
        (explodeO t (headTy t (rs.map RK.ty) y) f).2.1 ++ (resOut rs (tailTy t (rs.map RK.ty) y) (f + os1.length)).2.1, (resOut rs (tailTy t (rs.map RK.ty) y) (f + os1.length)).2.2) := by
      rw [← p2]; rfl
    have s1 : ∀ o ∈ os1, o ∈ os1 ++ os2 := fun o ho => List.mem_append_left _ ho
    have s2 : ∀ o ∈ os2, o ∈ os1 ++ os2 := fun o ho => List.mem_append_right _ ho
    refine ⟨os1 ++ os2, ?_, ?_, ?_, ?_, ?_, ?_, ?_⟩
    · rw [hex, List.map_append, ← p1, ← q1]
    · rw [hex]; show (resOut rs _ _).2.2 = _; rw [q2, List.length_append]; omega
    · rw [List.map_append, p3, q3, List.length_append, range_app]
    · rw [e2, p4, q4, List.flatMap_append]
    · rw [e3, htp, p5, q5, List.flatMap_append]
    · rw [hex, e1]
      exact ⟨v, vs', rfl, (form_rvn hF p6).mono (fun _ h => h) s1, q6.imp fun c _ v k => k.mono (fun _ h => h) s2⟩
    · intro o ho
      rcases List.mem_append.1 ho with k | k
      · exact NOk.mono (fun _ h => h) s1 (p7 o k)
      · exact NOk.mono (fun _ h => h) s2 (q7 o k)
  | .ptr t :: rs, us, y, fp, tp, f, ⟨v, vs', f1, f2, t1, t2, e1, e2, e3, ⟨g, cs, e, fi, hv, hf1, ht1, hh, how⟩, hr⟩ => by
    obtain ⟨os1, p1, p2, p3, p4, p5, p7, p8, _⟩ := var_new (t := t) f (f + 1) hh how
    have hlen : (explodeO t (headTy t (rs.map RK.ty) y) (f + 1)).2.2 = f + os1.length := by omega
    obtain ⟨os2, q1, q2, q3, q4, q5, q6, q7⟩ := res_new rs vs' (tailTy t (rs.map RK.ty) y) f2 t2 (f + os1.length) hr
    have hex : resOut (.ptr t :: rs) y f = ((false, [.pv f 0]) :: (resOut rs (tailTy t (rs.map RK.ty) y) (f + os1.length)).1,
        (f, some (Obj.var (explodeO t (headTy t (rs.map RK.ty) y) (f + 1)).1)) :: ((explodeO t (headTy t (rs.map RK.ty) y) (f + 1)).2.1 ++ (resOut rs (tailTy t (rs.map RK.ty) y) (f + os1.length)).2.1), (resOut rs (tailTy t (rs.map RK.ty) y) (f + os1.length)).2.2) := by
      rw [← hlen]; rfl
    have hpos : 0 < os1.length := by obtain ⟨o, ho, _⟩ := p8; exact List.length_pos_of_mem ho
    have s1 : ∀ o ∈ os1, o ∈ os1 ++ os2 := fun o ho => List.mem_append_left _ ho
    have s2 : ∀ o ∈ os2, o ∈ os1 ++ os2 := fun o ho => List.mem_append_right _ ho
    refine ⟨os1 ++ os2, ?_, ?_, ?_, ?_, ?_, ?_, ?_⟩
    · rw [hex, List.map_append, ← p1, ← q1]; rfl
    · rw [hex]; show (resOut rs _ _).2.2 = _; rw [q2, List.length_append]; omega
    · rw [List.map_append, p3, q3, List.length_append]
      have : f :: List.range' (f + 1) (os1.length - 1) = List.range' f os1.length := by
        obtain ⟨n, hn⟩ : ∃ n, os1.length = n + 1 := ⟨os1.length - 1, by omega⟩
        rw [hn]; rfl
      rw [this, range_app]
    · rw [e2, hf1, p4, q4, List.flatMap_append]
    · rw [e3, ht1, p5, q5, List.flatMap_append]
    · rw [hex, e1]
      refine ⟨v, vs', rfl, ?_, q6.imp fun c _ v k => k.mono (fun _ h => h) s2⟩
      show RVN w I (os1 ++ os2) (false, [.pv f 0]) v
      unfold RVN
      rw [if_neg (by simp)]
      obtain ⟨o, ho, k1, k2, k3⟩ := p8
      exact ⟨v, [], rfl, ⟨o, s1 o ho, k1, ⟨_, k2⟩, by rw [hv, k3]⟩, rfl⟩
    · intro o ho
      rcases List.mem_append.1 ho with k | k
      · exact NOk.mono (fun _ h => h) s1 (p7 o k)
      · exact NOk.mono (fun _ h => h) s2 (q7 o k)

/-- An object that is there again. -/
def Again (W : Wit) (ob : Nat → Option Obj) (o : NewOb) : Prop :=
  (∃ t, ∃ xs : List (Ty.den t), o.ob = .row t xs ∧ ∃ t0, ∃ xs0 : List (Ty.den t0), ob o.id = some (.row t0 xs0) ∧ t0.size = t.size ∧ xs.length = xs0.length ∧ o.g = W.η o.id ∧ o.c = W.cp o.id ∧ o.nl = W.nl o.id) ∨
  (∃ l l0, o.ob = .var l ∧ ob o.id = some (.var l0) ∧ o.g = W.η o.id)

theorem back_rows (hnil : ∀ id t (xs : List (Ty.den t)), ob id = some (.row t xs) → W.nl id = true → xs = []) : ∀ (t : Ty) (x : t.den) (cs : List Value) (fp : List Nat) (l l' : List (Option Nat)), LdOk W ob t l cs → Ow w I t x cs fp →
    ∃ os : List NewOb, backRows t x (l ++ l') = (os.map NewOb.upd, l') ∧ fp = os.flatMap NewOb.fp ∧ tops t cs = os.flatMap NewOb.tp ∧ os.map (·.id) = l.filterMap id ∧ (∀ o ∈ os, NOk w I os o) ∧ ∀ o ∈ os, Again W ob o
  | .int _, _, _, _, l, l', hl, h => by have hl : l = [] := hl; subst hl; exact ⟨[], rfl, h.2, rfl, rfl, by simp, by simp⟩
  | .bool, _, _, _, l, l', hl, h => by have hl : l = [] := hl; subst hl; exact ⟨[], rfl, h.2, rfl, rfl, by simp, by simp⟩
  | .str, _, _, _, l, l', hl, h => by have hl : l = [] := hl; subst hl; exact ⟨[], rfl, h.2, rfl, rfl, by simp, by simp⟩
  | .sl false _, _, _, _, l, l', hl, h => by have hl : l = [] := hl; subst hl; exact ⟨[], rfl, h.2, rfl, rfl, by simp, by simp⟩
  | .box _ _, _, _, _, l, l', hl, h => by have hl : l = [] := hl; subst hl; exact ⟨[], rfl, h.2, rfl, rfl, by simp, by simp⟩
  | .sl true t, xs, cs, fp, l, l', hl, h => by
    obtain ⟨v, hcs, hl⟩ := hl
    subst hcs
    rcases hl with ⟨id, t0, xs0, rfl, ho, hsz, hv⟩ | ⟨rfl, hv⟩
    · rcases h with ⟨e1, e2, e3⟩ | ⟨g, c, fq, e1, e2, hr⟩
      · simp only [List.cons.injEq, and_true] at e2
        rcases slv_inv (hv.symm.trans e2) with ⟨_, hn, _⟩ | ⟨hn, _⟩
        · have hx0 := hnil id t0 xs0 ho hn
          subst e1
          refine ⟨[⟨id, .row t [], W.η id, W.cp id, [], true⟩], rfl, by rw [e3]; rfl, by rw [e2]; rfl, rfl, ?_, ?_⟩
          · intro o ho; rw [List.mem_singleton.1 ho]; exact .inl ⟨rfl, rfl, rfl⟩
          · intro o ho'; rw [List.mem_singleton.1 ho']; exact .inl ⟨t, [], rfl, t0, xs0, ho, hsz, by rw [hx0]; rfl, rfl, rfl, hn.symm⟩
        · simp at hn
      · simp only [List.cons.injEq, and_true] at e1
        rcases slv_inv (hv.symm.trans e1) with ⟨hn, _⟩ | ⟨h1, h2, h3, h4⟩
        · simp at hn
        · simp only [Option.some.injEq, Addr.mk.injEq, and_true] at h1
          subst h1; subst h4; subst e2
          refine ⟨[⟨id, .row t xs, W.η id, W.cp id, fq, false⟩], rfl, by simp [NewOb.fp], by rw [e1]; rfl, rfl, ?_, ?_⟩
          · intro o ho; rw [List.mem_singleton.1 ho]; exact .inr ⟨rfl, hr⟩
          · intro o ho'; rw [List.mem_singleton.1 ho']; exact .inl ⟨t, xs, rfl, t0, xs0, ho, hsz, h3, rfl, rfl, h2.symm⟩
    · subst hv
      rcases h with ⟨e1, e2, e3⟩ | ⟨g, c, fq, e1, _, _⟩
      · exact ⟨[], rfl, e3, rfl, rfl, by simp, by simp⟩
      · simp at e1
  | .pair t1 t2, x, cs, fp, l, l', ⟨l1, l2, c1, c2, e1, e2, hc1, k1, k2⟩, ⟨d1, d2, f1, f2, e3, e4, r1, r2⟩ => by
    have hd1 := Ow.size t1 _ _ _ r1
    obtain ⟨rfl, rfl⟩ := List.append_inj (e2.symm.trans e3) (by rw [hc1, hd1])
    obtain ⟨os1, p1, p2, p3, p4, p5, p6⟩ := back_rows hnil t1 x.1 c1 f1 l1 (l2 ++ l') k1 r1
    obtain ⟨os2, q1, q2, q3, q4, q5, q6⟩ := back_rows hnil t2 x.2 c2 f2 l2 l' k2 r2
    have s1 : ∀ o ∈ os1, o ∈ os1 ++ os2 := fun o ho => List.mem_append_left _ ho
    have s2 : ∀ o ∈ os2, o ∈ os1 ++ os2 := fun o ho => List.mem_append_right _ ho
    refine ⟨os1 ++ os2, ?_, by rw [e4, p2, q2, List.flatMap_append], by rw [e2, tops_pair hc1, p3, q3, List.flatMap_append], by rw [e1, List.map_append, p4, q4, List.filterMap_append], ?_, ?_⟩
    · show (match backRows t1 x.1 (l ++ l') with | (o, l') => match backRows t2 x.2 l' with | (o', l'') => (o ++ o', l'')) = _
      rw [e1, List.append_assoc, p1]
      simp only [q1, List.map_append]
    · intro o ho
      rcases List.mem_append.1 ho with k | k
      · exact NOk.mono (fun _ h => h) s1 (p5 o k)
      · exact NOk.mono (fun _ h => h) s2 (q5 o k)
    · intro o ho
      rcases List.mem_append.1 ho with k | k
      · exact p6 o k
      · exact q6 o k

theorem back_new (hnil : ∀ id t (xs : List (Ty.den t)), ob id = some (.row t xs) → W.nl id = true → xs = []) : ∀ (ps : List PK) (us : List Value) (pl : List Plc) (y : Tys (ioOf ps)) (fq tq : List Nat) (f f' : Nat) (l : List (Nat × Option Obj)),
    PlOk W ob ps us pl → BackOk w I ps us y fq tq → outsBack ps pl y f = some (l, f') →
    ∃ (os : List NewOb) (n : Nat), l = os.map NewOb.upd ∧ f' = f + n ∧ (os.map (·.id)).Perm (pids pl ++ List.range' f n) ∧ fq = os.flatMap NewOb.fp ∧ tq = os.flatMap NewOb.tp ∧ (∀ o ∈ os, NOk w I os o) ∧ ∀ o ∈ os, (f ≤ o.id ∧ o.id < f') ∨ Again W ob o
  | [], us, pl, y, fq, tq, f, f', l, hp, hb, he => by
    obtain ⟨_, rfl⟩ := hp
    obtain ⟨_, rfl, rfl⟩ := hb
    simp only [outsBack, Option.some.injEq, Prod.mk.injEq] at he
    obtain ⟨rfl, rfl⟩ := he
    exact ⟨[], 0, rfl, rfl, List.Perm.refl _, rfl, rfl, by simp, by simp⟩
  | .val t :: ps, us, pl, y, fq, tq, f, f', l, ⟨v, us', e1, hp⟩, ⟨v', vs', e2, hb⟩, he => by
    subst e1
    simp only [List.cons.injEq] at e2
    obtain ⟨rfl, rfl⟩ := e2
    exact back_new hnil ps us' pl y fq tq f f' l hp hb he
  | .io t :: ps, us, pl, y, fq, tq, f, f', l, ⟨v, us', ld, pl', e1, e2, hld, hp⟩, ⟨v', vs', f1, f2, t1, t2, e3, e4, e5, ⟨hF, how, ht⟩, hb⟩, he => by
    subst e1; subst e2
    simp only [List.cons.injEq] at e3
    obtain ⟨rfl, rfl⟩ := e3
    simp only [outsBack] at he
    split at he <;> try (simp at he; done)
    rename_i os0 f0 hout
    simp only [Option.some.injEq, Prod.mk.injEq] at he
    obtain ⟨rfl, rfl⟩ := he
    obtain ⟨os1, p1, p2, p3, p4, p5, p6⟩ := back_rows hnil t _ _ f1 ld [] hld how
    obtain ⟨os2, n, q1, q2, q3, q4, q5, q6, q7⟩ := back_new hnil ps us' pl' _ f2 t2 f f0 os0 hp hb hout
    rw [List.append_nil] at p1
    have s1 : ∀ o ∈ os1, o ∈ os1 ++ os2 := fun o ho => List.mem_append_left _ ho
    have s2 : ∀ o ∈ os2, o ∈ os1 ++ os2 := fun o ho => List.mem_append_right _ ho
    refine ⟨os1 ++ os2, n, by rw [p1, q1, List.map_append], q2, ?_, by rw [e4, p2, q4, List.flatMap_append], by rw [e5, ht, p3, q5, List.flatMap_append], ?_, ?_⟩
    · rw [List.map_append, p4]
      show (_ : List Nat).Perm ((ld.filterMap _root_.id ++ pids pl') ++ _)
      rw [List.append_assoc]
      exact List.Perm.append_left _ q3
    · intro o ho
      rcases List.mem_append.1 ho with k | k
      · exact NOk.mono (fun _ h => h) s1 (p5 o k)
      · exact NOk.mono (fun _ h => h) s2 (q6 o k)
    · intro o ho
      rcases List.mem_append.1 ho with k | k
      · exact .inr (p6 o k)
      · exact q7 o k
  | .ptr t :: ps, us, pl, y, fq, tq, f, f', l, ⟨v, us', id, l0, pl', e1, e2, ho, hnl, hv, hp⟩, ⟨v', vs', f1, f2, t1, t2, e3, e4, e5, ⟨g, cs, e, fi, hv2, hf1, ht1, hh, how⟩, hb⟩, he => by
    subst e1; subst e2
    simp only [List.cons.injEq] at e3
    obtain ⟨rfl, rfl⟩ := e3
    have hg : g = W.η id := by
      have := hv2.symm.trans hv
      simpa [pt] using this
    simp only [outsBack] at he
    split at he <;> try (simp at he; done)
    rename_i os0 f0 hout
    simp only [Option.some.injEq, Prod.mk.injEq] at he
    obtain ⟨rfl, rfl⟩ := he
    obtain ⟨os1, p1, p2, p3, p4, p5, p7, p8, p9⟩ := var_new (t := t) id f hh how
    obtain ⟨os2, n, q1, q2, q3, q4, q5, q6, q7⟩ := back_new hnil ps us' pl' _ f2 t2 _ f0 os0 hp hb hout
    have q2 : f0 = (explodeO t (headTy t (ioOf ps) y) f).2.2 + n := q2
    have hpos : 0 < os1.length := by obtain ⟨o, ho, _⟩ := p8; exact List.length_pos_of_mem ho
    have s1 : ∀ o ∈ os1, o ∈ os1 ++ os2 := fun o ho => List.mem_append_left _ ho
    have s2 : ∀ o ∈ os2, o ∈ os1 ++ os2 := fun o ho => List.mem_append_right _ ho
    have hf1' : (explodeO t (headTy t (ioOf ps) y) f).2.2 = f + (os1.length - 1) := by omega
    refine ⟨os1 ++ os2, os1.length - 1 + n, ?_, by omega, ?_, by rw [e4, hf1, p4, q4, List.flatMap_append], by rw [e5, ht1, p5, q5, List.flatMap_append], ?_, ?_⟩
    · rw [List.map_append, ← p1, ← q1]; rfl
    · rw [List.map_append, p3]
      rw [hf1'] at q3
      have : (id :: List.range' f (os1.length - 1) ++ List.map (fun x => x.id) os2).Perm (id :: List.range' f (os1.length - 1) ++ (pids pl' ++ List.range' (f + (os1.length - 1)) n)) := List.Perm.append_left _ q3
      refine this.trans ?_
      rw [← range_app]
      show (id :: (List.range' f (os1.length - 1) ++ (pids pl' ++ List.range' (f + (os1.length - 1)) n))).Perm (id :: (pids pl' ++ (List.range' f (os1.length - 1) ++ List.range' (f + (os1.length - 1)) n)))
      exact List.Perm.cons _ (perm_swap3 _ _ _)
    · intro o ho
      rcases List.mem_append.1 ho with k | k
      · exact NOk.mono (fun _ h => h) s1 (p7 o k)
      · exact NOk.mono (fun _ h => h) s2 (q6 o k)
    · intro o ho'
      rcases List.mem_append.1 ho' with k | k
      · rcases p9 o k with ⟨k1, k2, k3⟩ | ⟨k1, k2⟩
        · exact .inr (.inr ⟨_, l0, k2, by rw [k1]; exact ho, by rw [k3, k1]; exact hg⟩)
        · exact .inl ⟨k1, by have : (explodeO t (headTy t (ioOf ps) y) f).2.2 ≤ f0 := by omega
                             exact Nat.lt_of_lt_of_le k2 this⟩
      · rcases q7 o k with ⟨k1, k2⟩ | k
        · have k1 : (explodeO t (headTy t (ioOf ps) y) f).2.2 ≤ o.id := k1
          exact .inl ⟨by omega, k2⟩
        · exact .inr k
end
end Go.Rf
