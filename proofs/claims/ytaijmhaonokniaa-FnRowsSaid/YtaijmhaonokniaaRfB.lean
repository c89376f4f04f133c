/- What abstract values and stores say of the machine's memory. -/
import Derived.Test.YtaijmhaonokniaaRfA
import Derived.Below
namespace Go.Rf
set_option linter.unusedVariables false
set_option linter.unusedSimpArgs false

/-! ### data in memory -/

def Ch {α : Type} (R : α → List Value → Prop) : List α → List Value → Prop
  | [], cs => cs = []
  | x :: xs, cs => ∃ c1 c2, cs = c1 ++ c2 ∧ R x c1 ∧ Ch R xs c2

def ChO {α : Type} (R : α → List Value → List Nat → Prop) : List α → List Value → List Nat → Prop
  | [], cs, fp => cs = [] ∧ fp = []
  | x :: xs, cs, fp => ∃ c1 c2 f1 f2, cs = c1 ++ c2 ∧ fp = f1 ++ f2 ∧ R x c1 f1 ∧ ChO R xs c2 f2

/-- A slice that reads as xs, in blocks of I. -/
def RdRow {α : Type} (w : World) (I : Nat → Prop) (R : α → List Value → Prop) (xs : List α) (A : Option Addr) : Prop :=
  xs = [] ∨ ∃ a C e fr pre ces post, A = some a ∧ a.spot = none ∧ I a.block ∧ w.heap[a.block]? = some (.cells C e fr) ∧
    C.toList = pre ++ (ces ++ post) ∧ pre.length = a.off ∧ Ch R xs ces

/-- The value x of type t lies in the cells cs, and all that it leads to in blocks of I. -/
def Rd (w : World) (I : Nat → Prop) : (t : Ty) → t.den → List Value → Prop
  | .int k, n, cs => cs = [.int k n]
  | .bool, b, cs => cs = [.bool b]
  | .str, s, cs => cs = [.string ⟨List.toArray s⟩]
  | .sl _ t, xs, cs => ∃ A c, cs = [.slice A (List.length (α := t.den) xs) c] ∧ List.length (α := t.den) xs ≤ c ∧ RdRow w I (Rd w I t) xs A
  | .pair a b, x, cs => ∃ c1 c2, cs = c1 ++ c2 ∧ Rd w I a x.1 c1 ∧ Rd w I b x.2 c2
  | .box none t, x, cs => ∃ b o, cs = [.pointer (some ⟨b, o, none⟩)] ∧ RdRow w I (Rd w I t) [x] (some ⟨b, o, none⟩)
  | .box (some g) t, x, cs => ∃ caps : List Value, cs = [.func (.func g) #[] caps.toArray] ∧ Rd w I t x caps

/-- A block that holds a row. -/
def RowAt {α : Type} (w : World) (R : α → List Value → List Nat → Prop) (sz : Nat) (xs : List α) (g c : Nat) (fp : List Nat) : Prop :=
  ∃ ces rest e, w.heap[g]? = some (.cells (ces ++ rest).toArray e (0, 0)) ∧ (ces ++ rest).length = c * sz ∧ xs.length ≤ c ∧ ChO R xs ces fp

/-- Likewise, and the blocks fp are its own. -/
def Ow (w : World) (I : Nat → Prop) : (t : Ty) → t.den → List Value → List Nat → Prop
  | .sl true t, xs, cs, fp => (xs = ([] : List t.den) ∧ cs = [.slice none 0 0] ∧ fp = []) ∨
      ∃ g c f, cs = [.slice (some ⟨g, 0, none⟩) (List.length (α := t.den) xs) c] ∧ fp = g :: f ∧ RowAt w (Ow w I t) t.size xs g c f
  | .pair a b, x, cs, fp => ∃ c1 c2 f1 f2, cs = c1 ++ c2 ∧ fp = f1 ++ f2 ∧ Ow w I a x.1 c1 f1 ∧ Ow w I b x.2 c2 f2
  | t, x, cs, fp => Rd w I t x cs ∧ fp = []

theorem Ch.mono {α : Type} {R R' : α → List Value → Prop} (h : ∀ x cs, R x cs → R' x cs) : ∀ xs cs, Ch R xs cs → Ch R' xs cs
  | [], _, k => k
  | _ :: xs, _, ⟨c1, c2, e, r, k⟩ => ⟨c1, c2, e, h _ _ r, Ch.mono h xs c2 k⟩

theorem ChO.mono {α : Type} {R R' : α → List Value → List Nat → Prop} : ∀ xs cs fp, (∀ x cs f, (∀ b ∈ f, b ∈ fp) → R x cs f → R' x cs f) → ChO R xs cs fp → ChO R' xs cs fp
  | [], _, _, _, k => k
  | _ :: xs, _, fp, h, ⟨c1, c2, f1, f2, e, e', r, k⟩ =>
    ⟨c1, c2, f1, f2, e, e', h _ _ _ (fun b hb => by rw [e']; exact List.mem_append_left _ hb) r,
      ChO.mono xs c2 f2 (fun x cs f hf => h x cs f (fun b hb => by rw [e']; exact List.mem_append_right _ (hf b hb))) k⟩

theorem Rd.mono {w w' : World} {I I' : Nat → Prop} (hI : ∀ b, I b → I' b) (hb : ∀ b, I b → w'.heap[b]? = w.heap[b]?) : ∀ (t : Ty) (x : t.den) cs, Rd w I t x cs → Rd w' I' t x cs
  | .int _, _, _, h => h
  | .bool, _, _, h => h
  | .str, _, _, h => h
  | .sl _ t, xs, cs, ⟨A, c, e, hc, h⟩ => by
    refine ⟨A, c, e, hc, ?_⟩
    rcases h with h | ⟨a, C, el, fr, pre, ces, post, h1, h2, h3, h4, h5, h6, h7⟩
    · exact .inl h
    · exact .inr ⟨a, C, el, fr, pre, ces, post, h1, h2, hI _ h3, (hb _ h3).trans h4, h5, h6, Ch.mono (fun x cs => Rd.mono hI hb t x cs) _ _ h7⟩
  | .pair a b, x, cs, ⟨c1, c2, e, h, h'⟩ => ⟨c1, c2, e, Rd.mono hI hb a _ _ h, Rd.mono hI hb b _ _ h'⟩
  | .box none t, x, cs, ⟨b, o, e, h⟩ => by
    refine ⟨b, o, e, ?_⟩
    rcases h with h | ⟨a, C, el, fr, pre, ces, post, h1, h2, h3, h4, h5, h6, h7⟩
    · exact .inl h
    · exact .inr ⟨a, C, el, fr, pre, ces, post, h1, h2, hI _ h3, (hb _ h3).trans h4, h5, h6, Ch.mono (fun x cs => Rd.mono hI hb t x cs) _ _ h7⟩
  | .box (some _) t, x, cs, ⟨caps, e, h⟩ => ⟨caps, e, Rd.mono hI hb t _ _ h⟩

theorem Ow.mono {w w' : World} {I I' : Nat → Prop} (hI : ∀ b, I b → I' b) (hb : ∀ b, I b → w'.heap[b]? = w.heap[b]?) : ∀ (t : Ty) (x : t.den) cs fp,
    (∀ b ∈ fp, w'.heap[b]? = w.heap[b]?) → Ow w I t x cs fp → Ow w' I' t x cs fp
  | .int _, _, _, _, _, h => h
  | .bool, _, _, _, _, h => h
  | .str, _, _, _, _, h => h
  | .sl false t, xs, cs, fp, _, ⟨h, e⟩ => ⟨Rd.mono hI hb (.sl false t) xs cs h, e⟩
  | .box g t, x, cs, fp, _, ⟨h, e⟩ => ⟨Rd.mono hI hb (.box g t) x cs h, e⟩
  | .sl true t, xs, cs, fp, hf, h => by
    rcases h with h | ⟨g, c, f, e1, e2, ces, rest, e, h4, h5, h6, h7⟩
    · exact .inl h
    · subst e2
      exact .inr ⟨g, c, f, e1, rfl, ces, rest, e, (hf g (by simp)).trans h4, h5, h6,
        ChO.mono _ _ _ (fun x cs f' hf' => Ow.mono hI hb t x cs f' (fun b hbb => hf b (List.mem_cons_of_mem _ (hf' b hbb)))) h7⟩
  | .pair a b, x, cs, fp, hf, ⟨c1, c2, f1, f2, e, e', h, h'⟩ => by
    subst e'
    exact ⟨c1, c2, f1, f2, e, rfl, Ow.mono hI hb a _ _ _ (fun b hb' => hf b (List.mem_append_left _ hb')) h, Ow.mono hI hb b _ _ _ (fun b hb' => hf b (List.mem_append_right _ hb')) h'⟩

theorem Ch.of_O {α : Type} {R : α → List Value → List Nat → Prop} {R' : α → List Value → Prop} : ∀ xs cs fp, (∀ x cs f, (∀ b ∈ f, b ∈ fp) → R x cs f → R' x cs) → ChO R xs cs fp → Ch R' xs cs
  | [], _, _, _, k => k.1
  | _ :: xs, _, fp, h, ⟨c1, c2, f1, f2, e, e', r, k⟩ =>
    ⟨c1, c2, e, h _ _ _ (fun b hb => by rw [e']; exact List.mem_append_left _ hb) r,
      Ch.of_O xs c2 f2 (fun x cs f hf => h x cs f (fun b hb => by rw [e']; exact List.mem_append_right _ (hf b hb))) k⟩

/-- What is owned can be read. -/
theorem Ow.rd {w : World} {I I' : Nat → Prop} (hI : ∀ b, I b → I' b) : ∀ (t : Ty) (x : t.den) cs fp, (∀ b ∈ fp, I' b) → Ow w I t x cs fp → Rd w I' t x cs
  | .int _, _, _, _, _, h => h.1
  | .bool, _, _, _, _, h => h.1
  | .str, _, _, _, _, h => h.1
  | .sl false t, xs, cs, fp, _, h => Rd.mono hI (fun _ _ => rfl) (.sl false t) xs cs h.1
  | .box g t, x, cs, fp, _, h => Rd.mono hI (fun _ _ => rfl) (.box g t) x cs h.1
  | .sl true t, xs, cs, fp, hf, h => by
    rcases h with ⟨e1, e2, e3⟩ | ⟨g, c, f, e1, e2, ces, rest, e, h4, h5, h6, h7⟩
    · exact ⟨none, 0, by rw [e1, e2]; rfl, by rw [e1]; exact Nat.le_refl _, .inl e1⟩
    · subst e2
      exact ⟨_, c, e1, h6, .inr ⟨⟨g, 0, none⟩, _, e, _, [], ces, rest, rfl, rfl, hf g (by simp), h4, by simp, rfl,
        Ch.of_O _ _ _ (fun x cs f' hf' => Ow.rd hI t x cs f' (fun b hb => hf b (List.mem_cons_of_mem _ (hf' b hb)))) h7⟩⟩
  | .pair a b, x, cs, fp, hf, ⟨c1, c2, f1, f2, e, e', h, h'⟩ => by
    subst e'
    exact ⟨c1, c2, e, Ow.rd hI a _ _ _ (fun b hb' => hf b (List.mem_append_left _ hb')) h, Ow.rd hI b _ _ _ (fun b hb' => hf b (List.mem_append_right _ hb')) h'⟩

theorem Rd.size {w : World} {I : Nat → Prop} : ∀ (t : Ty) (x : t.den) cs, Rd w I t x cs → cs.length = t.size
  | .int _, _, _, h => by rw [h]; rfl
  | .bool, _, _, h => by rw [h]; rfl
  | .str, _, _, h => by rw [h]; rfl
  | .sl _ _, _, _, ⟨_, _, h, _⟩ => by rw [h]; rfl
  | .box none _, _, _, ⟨_, _, h, _⟩ => by rw [h]; rfl
  | .box (some _) _, _, _, ⟨_, h, _⟩ => by rw [h]; rfl
  | .pair a b, x, cs, ⟨c1, c2, e, h, h'⟩ => by rw [e, List.length_append, Rd.size a _ _ h, Rd.size b _ _ h']; rfl

theorem Ow.size {w : World} {I : Nat → Prop} (t : Ty) (x : t.den) (cs : List Value) (fp : List Nat) (h : Ow w I t x cs fp) : cs.length = t.size :=
  Rd.size (I := fun _ => True) t x cs (Ow.rd (fun _ _ => trivial) t x cs fp (fun _ _ => trivial) h)

theorem Ch.len {α : Type} {R : α → List Value → Prop} {n : Nat} (h : ∀ x cs, R x cs → cs.length = n) : ∀ xs cs, Ch R xs cs → cs.length = xs.length * n
  | [], _, k => by rw [k]; simp
  | _ :: xs, _, ⟨c1, c2, e, r, k⟩ => by
    rw [e, List.length_append, h _ _ r, Ch.len h xs c2 k, List.length_cons, Nat.add_mul, Nat.one_mul, Nat.add_comm]

theorem ChO.len {α : Type} {R : α → List Value → List Nat → Prop} {n : Nat} (h : ∀ x cs f, R x cs f → cs.length = n) : ∀ xs cs fp, ChO R xs cs fp → cs.length = xs.length * n
  | [], _, _, k => by rw [k.1]; simp
  | _ :: xs, _, _, ⟨c1, c2, f1, f2, e, _, r, k⟩ => by
    rw [e, List.length_append, h _ _ _ r, ChO.len h xs c2 f2 k, List.length_cons, Nat.add_mul, Nat.one_mul, Nat.add_comm]

theorem ChO.append {α : Type} {R : α → List Value → List Nat → Prop} : ∀ xs cs fp ys ds fq, ChO R xs cs fp → ChO R ys ds fq → ChO R (xs ++ ys) (cs ++ ds) (fp ++ fq)
  | [], _, _, _, _, _, h, k => by obtain ⟨rfl, rfl⟩ := h; simpa using k
  | _ :: xs, _, _, ys, ds, fq, ⟨c1, c2, f1, f2, e, e', r, h⟩, k =>
    ⟨c1, c2 ++ ds, f1, f2 ++ fq, by rw [e, List.append_assoc], by rw [e', List.append_assoc], r, ChO.append xs c2 f2 ys ds fq h k⟩

/-- One element of a row, and the rest. -/
theorem ChO.at {α : Type} {R : α → List Value → List Nat → Prop} : ∀ (xs : List α) cs fp i (hi : i < xs.length), ChO R xs cs fp →
    ∃ c1 c2 c3 f1 f2 f3, cs = c1 ++ (c2 ++ c3) ∧ fp = f1 ++ (f2 ++ f3) ∧ R xs[i] c2 f2 ∧ ChO R (xs.take i) c1 f1 ∧ ChO R (xs.drop (i + 1)) c3 f3
  | x :: xs, cs, fp, 0, _, ⟨c1, c2, f1, f2, e, e', r, h⟩ => ⟨[], c1, c2, [], f1, f2, by simpa using e, by simpa using e', r, ⟨rfl, rfl⟩, h⟩
  | x :: xs, cs, fp, i + 1, hi, ⟨c1, c2, f1, f2, e, e', r, h⟩ => by
    obtain ⟨d1, d2, d3, g1, g2, g3, k1, k2, k3, k4, k5⟩ := ChO.at xs c2 f2 i (by simpa using hi) h
    exact ⟨c1 ++ d1, d2, d3, f1 ++ g1, g2, g3, by rw [e, k1, List.append_assoc], by rw [e', k2, List.append_assoc], by simpa using k3,
      ⟨c1, d1, f1, g1, rfl, rfl, r, k4⟩, by simpa using k5⟩

theorem Ch.at {α : Type} {R : α → List Value → Prop} : ∀ (xs : List α) cs i (hi : i < xs.length), Ch R xs cs →
    ∃ c1 c2 c3, cs = c1 ++ (c2 ++ c3) ∧ R xs[i] c2 ∧ Ch R (xs.take i) c1 ∧ Ch R (xs.drop (i + 1)) c3
  | x :: xs, cs, 0, _, ⟨c1, c2, e, r, h⟩ => ⟨[], c1, c2, by simpa using e, r, rfl, h⟩
  | x :: xs, cs, i + 1, hi, ⟨c1, c2, e, r, h⟩ => by
    obtain ⟨d1, d2, d3, k1, k3, k4, k5⟩ := Ch.at xs c2 i (by simpa using hi) h
    exact ⟨c1 ++ d1, d2, d3, by rw [e, k1, List.append_assoc], by simpa using k3, ⟨c1, d1, rfl, r, k4⟩, by simpa using k5⟩

/-! ### abstract values in memory -/

structure Wit where
  I : Nat → Prop
  η : Nat → Nat
  nf : Nat → List Nat
  cp : Nat → Nat
  nl : Nat → Bool

/-- What a soft view may lead to: what never turns, and the rows that lie inside of owned ones. -/
def Wit.J (W : Wit) (ob : Nat → Option Obj) (b : Nat) : Prop := W.I b ∨ ∃ i, (ob i).isSome = true ∧ b ∈ W.nf i

def pt (b o : Nat) : Value := .pointer (some ⟨b, o, none⟩)

/-- The blocks of an object: none, where it is a slice that leads to none. -/
def fpOf (W : Wit) (i : Nat) : List Nat := bif W.nl i then [] else W.η i :: W.nf i

def slv (W : Wit) (i n : Nat) : Value := bif W.nl i then .slice none 0 0 else .slice (some ⟨W.η i, 0, none⟩) n (W.cp i)

def VsC (w : World) (W : Wit) (ob : Nat → Option Obj) : Sc → Value → Prop
  | .undef, _ => True
  | .skip, v => v = undef
  | .int k n, v => v = .int k n
  | .bool b, v => v = .bool b
  | .str s, v => v = .string ⟨s.toArray⟩
  | .nilsl, v => v = .slice none 0 0
  | .nilif, v => v = .nilIface
  | .err b, v => if b then ∃ t x, v = .iface t x else v = .nilIface
  | .rd soft t xs, v => Rd w (if soft then W.J ob else W.I) (.sl false t) xs [v]
  | .bx soft g t x, v => Rd w (if soft then W.J ob else W.I) (.box g t) x [v]
  | .own id, v => ∀ t xs, ob id = some (.row t xs) → v = slv W id xs.length
  | .vw id lo hi, v => ∀ t xs, ob id = some (.row t xs) → ∃ A c, v = .slice A (cut lo hi xs).length c ∧ (cut lo hi xs).length ≤ c ∧
      ((cut lo hi xs).length = 0 ∨ A = some ⟨W.η id, (lo.getD 0) * t.size, none⟩)
  | .pv id off, v => ∃ b, v = pt b off ∧ ∀ l, ob id = some (.var l) → b = W.η id
  | .pe id i off, v => ∃ b o, v = pt b o ∧ ∀ t xs, ob id = some (.row t xs) → inB i xs.length = true ∧ b = W.η id ∧ o = i.toNat * t.size + off
  | .pr soft t xs i off, v => inB i xs.length = true ∧ ∃ (a : Addr) (C : Array Value) (e : TypeId) (fr : Nat × Nat) (pre ces post : List Value), v = pt a.block (a.off + (i.toNat * t.size + off)) ∧
      (if soft then W.J ob else W.I) a.block ∧ w.heap[a.block]? = some (.cells C e fr) ∧ C.toList = pre ++ (ces ++ post) ∧ pre.length = a.off ∧
      Ch (Rd w (if soft then W.J ob else W.I) t) xs ces

def isUndef : Sc → Bool
  | .undef | .skip => true
  | _ => false

def Vs (w : World) (W : Wit) (ob : Nat → Option Obj) (s : Sc) (v : Value) : Prop :=
  (isUndef s = false → v.oneCell' = true) ∧ VsC w W ob s v

def All2 {α β : Type} (R : α → β → Prop) : List α → List β → Prop
  | [], l => l = []
  | a :: r, l => ∃ b r', l = b :: r' ∧ R a b ∧ All2 R r r'

def AVr (w : World) (W : Wit) (ob : Nat → Option Obj) : AV → Value → Prop
  | .one s, v => Vs w W ob s v
  | .agg l, v => ∃ vs, v = .agg vs.toArray ∧ All2 (Vs w W ob) l vs
  | .tup l, v => ∃ vs, v = .tuple vs.toArray ∧ All2 (fun (p : Bool × List Sc) u => if p.1 then ∃ us, u = .agg us.toArray ∧ All2 (Vs w W ob) p.2 us else All2 (Vs w W ob) p.2 [u]) l vs

/-! ### which numbers a value names -/

def menS : Sc → Nat → Prop
  | .own i, j | .vw i _ _, j | .pv i _, j | .pe i _ _, j => i = j
  | _, _ => False

def menL (l : List Sc) (j : Nat) : Prop := ∃ s ∈ l, menS s j

def menA : AV → Nat → Prop
  | .one s, j => menS s j
  | .agg l, j => menL l j
  | .tup l, j => ∃ p ∈ l, menL p.2 j

/-! ### the relation -/

structure Base where
  w0 : World
  S0 : Nat → Prop
  fpT : Nat → Prop
  fpN : Nat → Prop
  pin : Nat → Option Value
  nt : Nat

def RowOk (w : World) (W : Wit) (i : Nat) (t : Ty) (xs : List t.den) : Prop :=
  (W.nl i = true ∧ xs = [] ∧ W.nf i = []) ∨ (W.nl i = false ∧ RowAt w (Ow w W.I t) t.size xs (W.η i) (W.cp i) (W.nf i))

structure Rel (B : Base) (Al : Nat → Prop) (s : St) (a : Act) (w : World) (W : Wit) : Prop where
  slots : ∀ i, AVr w W s.ob (s.sl i) (a.tmps.getD i undef)
  mS : ∀ i id, menA (s.sl i) id → Al id
  mO : ∀ id l, s.ob id = some (.var l) → ∀ j, menL l j → Al j
  al : ∀ id, (s.ob id).isSome = true → Al id
  row : ∀ id t xs, s.ob id = some (.row t xs) → RowOk w W id t xs
  var : ∀ id l, s.ob id = some (.var l) → W.nl id = false ∧ W.nf id = [] ∧ ∃ vs e, w.heap[W.η id]? = some (.cells vs.toArray e (0, 0)) ∧ All2 (Vs w W s.ob) l vs
  nod : ∀ i, (s.ob i).isSome = true → (fpOf W i).Nodup
  dis : ∀ i j, i ≠ j → (s.ob i).isSome = true → (s.ob j).isSome = true → ∀ b, b ∈ fpOf W i → b ∉ fpOf W j
  imm : ∀ i, (s.ob i).isSome = true → ∀ b, b ∈ fpOf W i → ¬ W.I b
  bnd : ∀ b, W.I b → b < w.heap.size
  def0 : a.defers = []
  size : a.tmps.size = B.nt
  pins : ∀ n v, B.pin n = some v → a.tmps.getD n undef = v
  os : w.os = B.w0.os
  tape : w.tape = B.w0.tape
  output : w.output = B.w0.output
  grown : B.w0.heap.size ≤ w.heap.size
  old : ∀ b, b < B.w0.heap.size → ¬ B.fpT b → w.heap[b]? = B.w0.heap[b]?
  ownT : ∀ i, (s.ob i).isSome = true → W.nl i = false → B.fpT (W.η i) ∨ B.w0.heap.size ≤ W.η i
  ownN : ∀ i, (s.ob i).isSome = true → ∀ b, b ∈ W.nf i → B.fpT b ∨ B.fpN b ∨ B.w0.heap.size ≤ b
  from0 : ∀ b, W.I b → B.S0 b ∨ B.fpT b ∨ B.fpN b ∨ B.w0.heap.size ≤ b

end Go.Rf
