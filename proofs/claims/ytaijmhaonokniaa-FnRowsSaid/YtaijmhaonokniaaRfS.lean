/- Contracts: what arguments and results are; values turned into new objects. -/
import Derived.Test.YtaijmhaonokniaaRfR
namespace Go.Rf
set_option linter.unusedVariables false
set_option linter.unusedSimpArgs false

section
variable {P : Program} {T : Tab} {E : Env} {B : Base} {Al Al' : Nat → Prop} {s s' : St} {a : Act} {w w' : World} {W W' : Wit} {o : Oper} {f : Nat}
  {ob ob' : Nat → Option Obj} {rs rs' : List Key} {u : Upd}

/-- A value of a type: its form. -/
def Form (t : Ty) (v : Value) : Prop := if isPair t then ∃ us, v = .agg us else v.oneCell' = true

def ArgOk (w : World) (S : Nat → Prop) : (p : PK) → p.ty.den → Value → List Nat → List Nat → Prop
  | .val t, x, v, fp, tp => Form t v ∧ Ow w S t x v.cells.toList fp ∧ tp = tops t v.cells.toList
  | .io t, x, v, fp, tp => Form t v ∧ Ow w S t x v.cells.toList fp ∧ tp = tops t v.cells.toList
  | .ptr t, x, v, fp, tp => ∃ g cs e f, v = pt g 0 ∧ fp = g :: f ∧ tp = g :: tops t cs ∧ w.heap[g]? = some (.cells cs.toArray e (0, 0)) ∧ Ow w S t x cs f

def ArgsOk (w : World) (S : Nat → Prop) : (ps : List PK) → List Value → Tys (ps.map PK.ty) → List Nat → List Nat → Prop
  | [], vs, _, fp, tp => vs = [] ∧ fp = [] ∧ tp = []
  | p :: ps, vs, x, fp, tp => ∃ v vs' f1 f2 t1 t2, vs = v :: vs' ∧ fp = f1 ++ f2 ∧ tp = t1 ++ t2 ∧ ArgOk w S p (headTy p.ty (ps.map PK.ty) x) v f1 t1 ∧ ArgsOk w S ps vs' (tailTy p.ty (ps.map PK.ty) x) f2 t2

/-- What comes back in the arguments' places. -/
def BackOk (w : World) (S : Nat → Prop) : (ps : List PK) → List Value → Tys (ioOf ps) → List Nat → List Nat → Prop
  | [], vs, _, fp, tp => vs = [] ∧ fp = [] ∧ tp = []
  | .val _ :: ps, vs, x, fp, tp => ∃ v vs', vs = v :: vs' ∧ BackOk w S ps vs' x fp tp
  | .io t :: ps, vs, x, fp, tp => ∃ v vs' f1 f2 t1 t2, vs = v :: vs' ∧ fp = f1 ++ f2 ∧ tp = t1 ++ t2 ∧ ArgOk w S (.io t) (headTy t (ioOf ps) x) v f1 t1 ∧ BackOk w S ps vs' (tailTy t (ioOf ps) x) f2 t2
  | .ptr t :: ps, vs, x, fp, tp => ∃ v vs' f1 f2 t1 t2, vs = v :: vs' ∧ fp = f1 ++ f2 ∧ tp = t1 ++ t2 ∧ ArgOk w S (.ptr t) (headTy t (ioOf ps) x) v f1 t1 ∧ BackOk w S ps vs' (tailTy t (ioOf ps) x) f2 t2

def ResOk (w : World) (S : Nat → Prop) : (rs : List RK) → List Value → Tys (rs.map RK.ty) → List Nat → List Nat → Prop
  | [], vs, _, fp, tp => vs = [] ∧ fp = [] ∧ tp = []
  | .val t :: rs, vs, x, fp, tp => ∃ v vs' f1 f2 t1 t2, vs = v :: vs' ∧ fp = f1 ++ f2 ∧ tp = t1 ++ t2 ∧ ArgOk w S (.val t) (headTy t (rs.map RK.ty) x) v f1 t1 ∧ ResOk w S rs vs' (tailTy t (rs.map RK.ty) x) f2 t2
  | .ptr t :: rs, vs, x, fp, tp => ∃ v vs' f1 f2 t1 t2, vs = v :: vs' ∧ fp = f1 ++ f2 ∧ tp = t1 ++ t2 ∧ ArgOk w S (.ptr t) (headTy t (rs.map RK.ty) x) v f1 t1 ∧ ResOk w S rs vs' (tailTy t (rs.map RK.ty) x) f2 t2

def resV : List Value → Value
  | [v] => v
  | vs => .tuple vs.toArray

/-- After a call. -/
structure Post (w : World) (S : Nat → Prop) (fp tp : List Nat) (w' : World) (S' : Nat → Prop) (fq tq : List Nat) : Prop where
  nd : fq.Nodup
  imm : ∀ b ∈ fq, ¬ S' b
  top : ∀ b ∈ tq, b ∈ tp ∨ w.heap.size ≤ b
  all : ∀ b ∈ fq, b ∈ fp ∨ w.heap.size ≤ b
  sub : ∀ b, S' b → S b ∨ b ∈ fp ∨ w.heap.size ≤ b
  bnd : ∀ b, S' b → b < w'.heap.size
  old : ∀ b, b < w.heap.size → b ∉ tp → w'.heap[b]? = w.heap[b]?
  size : w.heap.size ≤ w'.heap.size
  os : w'.os = w.os
  tape : w'.tape = w.tape
  output : w'.output = w.output

/-- The function f keeps the contract c. -/
def CtrOk (P : Program) (g : FuncId) (c : Ctr) : Prop :=
  ∀ (w : World) (args : List Value) (x : Tys c.g.ins) (S : Nat → Prop) (fp tp : List Nat) (y : Tys c.g.outs),
    (∀ b, S b → b < w.heap.size) → ArgsOk w S c.g.ps args x fp tp → fp.Nodup → (∀ b ∈ fp, ¬ S b) → c.fn x = some y →
    ∀ (o : Oper) (a : Act) (K : Act → World → Prop) (Q : Exit → Act → World → Prop),
      (∀ us w' S' f1 f2 t1 t2, ResOk w' S' c.g.rs us (splitTys (c.g.rs.map RK.ty) (ioOf c.g.ps) y).1 f1 t1 → BackOk w' S' c.g.ps args (splitTys (c.g.rs.map RK.ty) (ioOf c.g.ps) y).2 f2 t2 →
        Post w S fp tp w' S' (f1 ++ f2) (t1 ++ t2) → K (a.put o.dst (resV us)) w') →
      o.upon P a K Q ((callFunc g args.toArray).run P w)

def EnvOk (P : Program) (E : Env) : Prop := ∀ g cs, lkp E g = some cs → ∀ c ∈ cs, CtrOk P g c

/-! ### new objects -/

structure NewOb where
  id : Nat
  ob : Obj
  g : Nat
  c : Nat
  nf : List Nat
  nl : Bool

def NewOb.fp (o : NewOb) : List Nat := bif o.nl then [] else o.g :: o.nf
def NewOb.tp (o : NewOb) : List Nat := bif o.nl then [] else [o.g]
def NewOb.upd (o : NewOb) : Nat × Option Obj := (o.id, some o.ob)

/-- A cell that is told by new objects. -/
def VN (w : World) (I : Nat → Prop) (os : List NewOb) : Sc → Value → Prop
  | .int k n, v => v = .int k n
  | .bool b, v => v = .bool b
  | .str s, v => v = .string ⟨s.toArray⟩
  | .rd false t xs, v => Rd w I (.sl false t) xs [v]
  | .bx false g t x, v => Rd w I (.box g t) x [v]
  | .own id, v => ∃ o ∈ os, o.id = id ∧ ∃ t xs, o.ob = .row t xs ∧ v = bif o.nl then .slice none 0 0 else .slice (some ⟨o.g, 0, none⟩) xs.length o.c
  | .pv id off, v => ∃ o ∈ os, o.id = id ∧ (∃ l, o.ob = .var l) ∧ v = pt o.g off
  | _, _ => False

def NOk (w : World) (I : Nat → Prop) (os : List NewOb) (o : NewOb) : Prop :=
  match o.ob with
  | .row t xs => (o.nl = true ∧ xs = [] ∧ o.nf = []) ∨ (o.nl = false ∧ RowAt w (Ow w I t) t.size xs o.g o.c o.nf)
  | .var l => o.nl = false ∧ o.nf = [] ∧ ∃ vs e, w.heap[o.g]? = some (.cells vs.toArray e (0, 0)) ∧ All2 (VN w I os) l vs

theorem VN.mono {I I' : Nat → Prop} {os os' : List NewOb} (hI : ∀ b, I b → I' b) (ho : ∀ o ∈ os, o ∈ os') {c : Sc} {v : Value} (h : VN w I os c v) : VN w I' os' c v := by
  cases c with
  | rd sf t xs => cases sf with
    | false => exact Rd.mono hI (fun _ _ => rfl) _ _ _ h
    | true => exact h
  | bx sf g t x => cases sf with
    | false => exact Rd.mono hI (fun _ _ => rfl) _ _ _ h
    | true => exact h
  | own id => obtain ⟨o, h1, h2⟩ := h; exact ⟨o, ho o h1, h2⟩
  | pv id off => obtain ⟨o, h1, h2⟩ := h; exact ⟨o, ho o h1, h2⟩
  | _ => exact h

theorem NOk.mono {I I' : Nat → Prop} {os os' : List NewOb} (hI : ∀ b, I b → I' b) (ho : ∀ o ∈ os, o ∈ os') {o : NewOb} (h : NOk w I os o) : NOk w I' os' o := by
  unfold NOk at h ⊢
  split
  · rename_i t xs e
    rw [e] at h
    rcases h with h | ⟨h1, ces, rest, el, q1, q2, q3, q4⟩
    · exact .inl h
    · exact .inr ⟨h1, ces, rest, el, q1, q2, q3, ChO.mono _ _ _ (fun x cs f' _ k => Ow.mono (w := w) hI (fun _ _ => rfl) t x cs f' (fun _ _ => rfl) k) q4⟩
  · rename_i l e
    rw [e] at h
    obtain ⟨h1, h2, vs, el, q1, q2⟩ := h
    exact ⟨h1, h2, vs, el, q1, q2.imp fun c _ v k => VN.mono hI ho k⟩

theorem range_app (f n m : Nat) : List.range' f n ++ List.range' (f + n) m = List.range' f (n + m) := by
  rw [List.range'_append_1]

/-- A value's cells, told by new objects from number f on. -/
theorem explode_new {I : Nat → Prop} : ∀ (t : Ty) (x : t.den) (cs : List Value) (fp : List Nat) (f : Nat), Ow w I t x cs fp →
    ∃ os : List NewOb, (explodeO t x f).2.1 = os.map NewOb.upd ∧ (explodeO t x f).2.2 = f + os.length ∧ os.map (·.id) = List.range' f os.length ∧ fp = os.flatMap NewOb.fp ∧
      tops t cs = os.flatMap NewOb.tp ∧ All2 (VN w I os) (explodeO t x f).1 cs ∧ ∀ o ∈ os, NOk w I os o
  | .int _, _, _, _, f, h => by obtain ⟨h, rfl⟩ := h; rw [h]; exact ⟨[], rfl, rfl, rfl, rfl, rfl, ⟨_, _, rfl, rfl, rfl⟩, by simp⟩
  | .bool, _, _, _, f, h => by obtain ⟨h, rfl⟩ := h; rw [h]; exact ⟨[], rfl, rfl, rfl, rfl, rfl, ⟨_, _, rfl, rfl, rfl⟩, by simp⟩
  | .str, _, _, _, f, h => by obtain ⟨h, rfl⟩ := h; rw [h]; exact ⟨[], rfl, rfl, rfl, rfl, rfl, ⟨_, _, rfl, rfl, rfl⟩, by simp⟩
  | .sl false t, x, cs, _, f, h => by
    obtain ⟨⟨A, c, e, hc, hr⟩, rfl⟩ := h
    subst e
    exact ⟨[], rfl, rfl, rfl, rfl, rfl, ⟨_, _, rfl, ⟨A, c, rfl, hc, hr⟩, rfl⟩, by simp⟩
  | .box none t, x, cs, _, f, h => by
    obtain ⟨⟨b, o, e, hr⟩, rfl⟩ := h
    subst e
    exact ⟨[], rfl, rfl, rfl, rfl, rfl, ⟨_, _, rfl, ⟨b, o, rfl, hr⟩, rfl⟩, by simp⟩
  | .box (some g) t, x, cs, _, f, h => by
    obtain ⟨⟨caps, e, hr⟩, rfl⟩ := h
    subst e
    exact ⟨[], rfl, rfl, rfl, rfl, rfl, ⟨_, _, rfl, ⟨caps, rfl, hr⟩, rfl⟩, by simp⟩
  | .sl true t, xs, cs, fp, f, h => by
    rcases h with ⟨e1, e2, e3⟩ | ⟨g, c, fq, e1, e2, hr⟩
    · subst e2; subst e3
      refine ⟨[⟨f, .row t xs, 0, 0, [], true⟩], rfl, rfl, rfl, rfl, rfl, ⟨_, _, rfl, ⟨_, List.mem_singleton.2 rfl, rfl, t, xs, rfl, rfl⟩, rfl⟩, ?_⟩
      intro o ho
      rw [List.mem_singleton.1 ho]
      exact .inl ⟨rfl, e1, rfl⟩
    · subst e1; subst e2
      refine ⟨[⟨f, .row t xs, g, c, fq, false⟩], rfl, rfl, rfl, by simp [NewOb.fp], by simp [tops, NewOb.tp], ⟨_, _, rfl, ⟨_, List.mem_singleton.2 rfl, rfl, t, xs, rfl, rfl⟩, rfl⟩, ?_⟩
      intro o ho
      rw [List.mem_singleton.1 ho]
      exact .inr ⟨rfl, hr⟩
  | .pair t1 t2, x, cs, fp, f, ⟨c1, c2, f1, f2, e1, e2, r1, r2⟩ => by
    obtain ⟨os1, p1, p2, p3, p4, p5, p6, p7⟩ := explode_new t1 x.1 c1 f1 f r1
    obtain ⟨os2, q1, q2, q3, q4, q5, q6, q7⟩ := explode_new t2 x.2 c2 f2 (f + os1.length) r2
    have hex : explodeO (.pair t1 t2) x f = ((explodeO t1 x.1 f).1 ++ (explodeO t2 x.2 (f + os1.length)).1, (explodeO t1 x.1 f).2.1 ++ (explodeO t2 x.2 (f + os1.length)).2.1, (explodeO t2 x.2 (f + os1.length)).2.2) := by
      show (match explodeO t1 x.1 f with | (l, o, f1) => match explodeO t2 x.2 f1 with | (l', o', f2) => (l ++ l', o ++ o', f2)) = _
      rw [← p2]
    have s1 : ∀ o ∈ os1, o ∈ os1 ++ os2 := fun o ho => List.mem_append_left _ ho
    have s2 : ∀ o ∈ os2, o ∈ os1 ++ os2 := fun o ho => List.mem_append_right _ ho
    refine ⟨os1 ++ os2, ?_, ?_, ?_, ?_, ?_, ?_, ?_⟩
    · rw [hex, List.map_append, ← p1, ← q1]
    · rw [hex, List.length_append]; show (explodeO t2 x.2 (f + os1.length)).2.2 = _; rw [q2]; omega
    · rw [List.map_append, p3, q3, List.length_append, range_app]
    · rw [e2, p4, q4, List.flatMap_append]
    · rw [e1, tops_pair (Ow.size t1 _ _ _ r1), p5, q5, List.flatMap_append]
    · rw [hex, e1]
      exact All2.append (p6.imp fun c _ v k => VN.mono (fun _ h => h) s1 k) (q6.imp fun c _ v k => VN.mono (fun _ h => h) s2 k)
    · intro o ho
      rcases List.mem_append.1 ho with k | k
      · exact NOk.mono (fun _ h => h) s1 (p7 o k)
      · exact NOk.mono (fun _ h => h) s2 (q7 o k)
end
end Go.Rf
