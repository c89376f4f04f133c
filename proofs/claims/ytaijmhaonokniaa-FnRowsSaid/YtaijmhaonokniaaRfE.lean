/- What the table says of the program's types; the machine's own small steps; how a value enters a slot. -/
import Derived.Test.YtaijmhaonokniaaRfD
import Derived.Laws.Cells
import Derived.Laws.CopyRow
import Derived.Laws.Tables
import Derived.Laws.StructEq
namespace Go.Rf
set_option linter.unusedVariables false
set_option linter.unusedSimpArgs false

def zeroVals : Ty → List Value
  | .int k => [.int k 0]
  | .bool => [.bool false]
  | .str => [.string ⟨#[]⟩]
  | .sl _ _ => [.slice none 0 0]
  | .pair a b => zeroVals a ++ zeroVals b
  | .box _ _ => [undef]

def aggD : TypeDesc → Bool
  | .struct _ | .array _ _ => true
  | _ => false

def TagOk (P : Program) (t n b : Nat) (zs : List Value) : Prop :=
  (P.info? t).map (·.size) = some n ∧ (P.info? t).map (·.bytes) = some b ∧ ∃ z, (P.info? t).bind (·.zero) = some z ∧ z.cells.toList = zs

def flatS : Sc → Value → Prop
  | .int k n, v => v = .int k n
  | .bool b, v => v = .bool b
  | .str s, v => v = .string ⟨s.toArray⟩
  | _, _ => False

structure TypeOk (P : Program) (T : Tab) (t : Nat) (td : TD) : Prop where
  tag : TagOk P t td.ty.size td.bytes (zeroVals td.ty)
  agg : td.agg = true → ∃ fs : Array Field, P.underlying t = some (.struct fs) ∧ fs.size = td.flds.length ∧
    ∀ (j o n : Nat) (g : Bool), td.flds[j]? = some (o, n, g) → ∃ fd : Field, fs[j]? = some fd ∧ fd.offset = o ∧ (P.info? fd.type).map (·.size) = some n ∧ n ≠ 0 ∧ (P.underlying fd.type).map aggD = some g
  plain : td.ty.plain = true
  nagg : td.agg = false → (P.underlying t).map aggD = some false ∧ td.flds = []
  kind : match td.ty with
    | .int k => P.underlying t = some (.int k)
    | .bool => P.underlying t = some .bool
    | .str => P.underlying t = some .string
    | .sl _ e => ∃ el, td.elem = some el ∧ P.underlying t = some (.slice el) ∧ TagOk P el e.size (elemBytes T t) (zeroVals e)
    | .pair _ _ => td.agg = true
    | .box _ _ => False
  eq : td.eq = true → P.eqGuardType P.depth t = false ∧ ∀ (w : World) (xs ys : Array Value) (l m : List Sc) (b : Bool), sameNs (kindsOf l) (flatK td.ty) = true → eqCells l m = some b →
    All2 flatS l xs.toList → All2 flatS m ys.toList → (Op.equalIn 10000 t (.agg xs) (.agg ys)).run P w = .ok b w

def TabOk (P : Program) (T : Tab) : Prop := ∀ t td, lkp T t = some td → TypeOk P T t td

section
variable {P : Program} (w : World)

theorem run_size {t n : Nat} (h : (P.info? t).map (·.size) = some n) : (sizeOf t).run P w = .ok n w := by
  cases hi : P.info? t with
  | none => simp [hi] at h
  | some i => simp only [hi, Option.map_some, Option.some.injEq] at h; simp [sizeOf, typeInfo, hi, h]

theorem run_bytes {t n : Nat} (h : (P.info? t).map (·.bytes) = some n) : ∃ i, (typeInfo t).run P w = .ok i w ∧ i.bytes = n := by
  cases hi : P.info? t with
  | none => simp [hi] at h
  | some i => simp only [hi, Option.map_some, Option.some.injEq] at h; exact ⟨i, by simp [typeInfo, hi], h⟩

theorem run_zero {t : Nat} {z : Value} (h : (P.info? t).bind (·.zero) = some z) : (zeroValue t).run P w = .ok z w := by
  cases hi : P.info? t with
  | none => simp [hi] at h
  | some i => simp only [hi, Option.bind_some] at h; simp [zeroValue, typeInfo, hi, h]

theorem run_agg {t : Nat} {g : Bool} (h : (P.underlying t).map aggD = some g) : (isAgg t).run P w = .ok g w := by
  cases hu : P.underlying t with
  | none => simp [hu] at h
  | some d =>
    simp only [hu, Option.map_some, Option.some.injEq] at h
    unfold isAgg
    rw [Sem.run_bind, run_underlying hu w]
    subst h
    cases d <;> rfl

/-- The cells vs lie in block b from o on. -/
def At (w : World) (b o : Nat) (vs : List Value) : Prop :=
  ∃ C e fr pre post, w.heap[b]? = some (.cells C e fr) ∧ C.toList = pre ++ (vs ++ post) ∧ pre.length = o

theorem At.cell {w : World} {b o : Nat} {vs : List Value} (h : At w b o vs) (j : Nat) (v : Value) (hj : vs[j]? = some v) : w.cell? ⟨b, o + j, none⟩ = some v := by
  obtain ⟨C, e, fr, pre, post, h1, h2, h3⟩ := h
  have : C[o + j]? = some v := by
    rw [← Array.getElem?_toList, h2, ← h3, List.getElem?_append_right (by omega), Nat.add_sub_cancel_left]
    have hlt : j < vs.length := by
      rcases Nat.lt_or_ge j vs.length with h | h
      · exact h
      · rw [List.getElem?_eq_none h] at hj; simp at hj
    rw [List.getElem?_append_left hlt]; exact hj
  simp [World.cell?, h1, this]

theorem At.sub {w : World} {b o : Nat} {vs u1 u2 u3 : List Value} (h : At w b o vs) (e : vs = u1 ++ (u2 ++ u3)) : At w b (o + u1.length) u2 := by
  obtain ⟨C, el, fr, pre, post, h1, h2, h3⟩ := h
  exact ⟨C, el, fr, pre ++ u1, u3 ++ post, h1, by rw [h2, e]; simp [List.append_assoc], by simp [h3]⟩

theorem add_at (b o j : Nat) : (⟨b, o, none⟩ : Addr).add j = ⟨b, o + j, none⟩ := by unfold Addr.add; split <;> simp_all

/-- A value out of its cells. -/
def mkV (g : Bool) (vs : List Value) : Value := if g then .agg vs.toArray else vs.getD 0 undef

theorem run_loadVar_at {t n b o : Nat} {g : Bool} {vs : List Value} (hs : (P.info? t).map (·.size) = some n) (hg : (P.underlying t).map aggD = some g) (hn : vs.length = n) (h1 : g = false → n = 1)
    (h : At w b o vs) : (loadVar t ⟨b, o, none⟩).run P w = .ok (mkV g vs) w := by
  unfold loadVar
  rw [Sem.run_bind, run_agg w hg, Result.andThen_ok]
  cases g with
  | true =>
    simp only [if_true]
    have hl := run_loadCells_list (P := P) w ⟨b, o, none⟩ vs (fun j v hv => by rw [add_at]; exact h.cell j v hv)
    rw [Sem.run_bind, run_size w hs, Result.andThen_ok, Sem.run_bind, ← hn, hl]
    rfl
  | false =>
    have h1 := h1 rfl
    obtain ⟨v, rfl⟩ : ∃ v, vs = [v] := by
      match vs, hn with
      | [v], _ => exact ⟨v, rfl⟩
      | [], hn => simp at hn; omega
      | _ :: _ :: _, hn => simp at hn; omega
    have hc := h.cell 0 v rfl
    simp only [Bool.false_eq_true, if_false]
    rw [run_load, show (⟨b, o, none⟩ : Addr) = ⟨b, o + 0, none⟩ from rfl, hc]
    rfl

theorem run_storeVar_at {t n g o : Nat} {e : TypeId} {cur : Array Value} {v : Value} (hs : (P.info? t).map (·.size) = some n) (hn : v.cells.size = n) (hh : w.heap[g]? = some (.cells cur e (0, 0)))
    (hl : o + n ≤ cur.size) (h1 : ∀ x ∈ v.cells.toList, x.oneCell' = true) :
    (storeVar t ⟨g, o, none⟩ v).run P w = .ok () (w.setRow g (cur.toList.take o ++ v.cells.toList ++ cur.toList.drop (o + n)).toArray) := by
  unfold storeVar
  have := run_storeCells_at (P := P) g o e v.cells.toList 0 cur w hh (by simp; omega) h1
  simp only [Nat.add_zero, Array.length_toList, hn] at this
  simp [run_size w hs, hn, this]
end

/-! ### slots -/

theorem getD_put (ts : Array Value) (d i : Nat) (v : Value) (h : d < ts.size) : (ts.setIfInBounds d v).getD i undef = if i = d then v else ts.getD i undef := by
  by_cases hi : i = d
  · subst hi; simp [Array.getD, h]
  · rw [if_neg hi]
    by_cases hs : i < ts.size
    · simp [Array.getD, hs, Ne.symm hi]
    · simp [Array.getD, hs]

section
variable {B : Base} {Al Al' : Nat → Prop} {s : St} {a : Act} {w : World} {W : Wit}

theorem Rel.mono (h : Rel B Al s a w W) (hA : ∀ i, Al i → Al' i) : Rel B Al' s a w W :=
  { h with mS := fun i id k => hA _ (h.mS i id k), mO := fun id l k j m => hA _ (h.mO id l k j m), al := fun id k => hA _ (h.al id k) }

def dstOk (B : Base) (d : Option Nat) : Prop := ∀ i, d = some i → i < B.nt ∧ B.pin i = none

def dl (d : Option Nat) (r : AV) : List (Nat × AV) := match d with | some i => [(i, r)] | none => []

theorem out_exec {d : Option Nat} {r : AV} {os : List (Nat × Option Obj)} {rs rs' : List Key} {u : Upd} (h : (outO d r os).exec s rs = some (u, rs')) : u = ⟨dl d r, os⟩ := by
  cases d <;> simp only [outO, RP.exec, Option.some.injEq, Prod.mk.injEq] at h <;> exact h.1.symm

theorem out_exec0 {d : Option Nat} {r : AV} {rs rs' : List Key} {u : Upd} (h : (out d r).exec s rs = some (u, rs')) : u = ⟨dl d r, []⟩ := by
  cases d <;> simp only [out, RP.exec, Option.some.injEq, Prod.mk.injEq] at h <;> exact h.1.symm

/-- The heap as it was: a value enters a slot. -/
theorem Rel.put (h : Rel B Al s a w W) {d : Option Nat} (hd : dstOk B d) {r : AV} {v : Value} (hv : AVr w W s.ob r v) (hm : ∀ id, menA r id → Al id) :
    Rel B Al (s.up ⟨dl d r, []⟩) (a.put d v) w W := by
  cases d with
  | none => exact h
  | some d =>
    obtain ⟨hd1, hd2⟩ := hd d rfl
    have hsz : d < a.tmps.size := by rw [h.size]; exact hd1
    refine { h with slots := ?_, mS := ?_, size := ?_, pins := ?_ }
    · intro i
      show AVr w W s.ob (upd s.sl d r i) ((a.tmps.setIfInBounds d v).getD i undef)
      rw [getD_put _ _ _ _ hsz]
      by_cases hi : i = d
      · subst hi; rw [upd_same, if_pos rfl]; exact hv
      · rw [upd_ne _ _ hi, if_neg hi]; exact h.slots i
    · intro i id
      show menA (upd s.sl d r i) id → _
      by_cases hi : i = d
      · subst hi; rw [upd_same]; exact hm id
      · rw [upd_ne _ _ hi]; exact h.mS i id
    · show (a.tmps.setIfInBounds d v).size = _
      simp [h.size]
    · intro n u hn
      show (a.tmps.setIfInBounds d v).getD n undef = u
      rw [getD_put _ _ _ _ hsz]
      by_cases hi : n = d
      · subst hi; rw [hd2] at hn; simp at hn
      · rw [if_neg hi]; exact h.pins n u hn

theorem Rel.skip (h : Rel B Al s a w W) {d : Option Nat} (hd : dstOk B d) : Rel B Al (s.up ⟨dl d (.one .skip), []⟩) (a.put d undef) w W :=
  h.put hd ⟨by simp [isUndef], rfl⟩ (fun _ k => k.elim)

/-- An operand: its value, in the relation. -/
theorem opd_exec {α : Type} (h : Rel B Al s a w W) {x : Operand} {k : AV → RP α} {rs : List Key} {r : α × List Key} (he : (opd x k).exec s rs = some r) :
    ∃ v rs2, (k v).exec s rs2 = some r ∧ AVr w W s.ob v (a.eval x) ∧ ∀ id, menA v id → Al id := by
  cases x with
  | tmp t => exact ⟨s.sl t, _, he, h.slots t, h.mS t⟩
  | const v =>
    simp only [opd] at he
    cases hc : ofConst v with
    | some c =>
      rw [hc] at he
      refine ⟨.one c, rs, he, ?_, ?_⟩
      · show Vs w W s.ob c v
        unfold ofConst at hc
        split at hc <;> simp only [Option.some.injEq, reduceCtorEq] at hc <;> subst hc <;> exact ⟨fun _ => rfl, rfl⟩
      · intro id hid
        unfold ofConst at hc
        split at hc <;> simp only [Option.some.injEq, reduceCtorEq] at hc <;> subst hc <;> exact hid.elim
    | none =>
      rw [hc] at he
      simp only at he
      split at he
      · exact ⟨.one .undef, rs, he, ⟨fun h => by simp [isUndef] at h, trivial⟩, fun _ k => k.elim⟩
      · simp [RP.exec] at he
  | global g => simp [opd, RP.exec] at he
  | func f => simp [opd, RP.exec] at he

def opsRel (w : World) (W : Wit) (ob : Nat → Option Obj) (Al : Nat → Prop) : List AV → List Value → Prop := All2 fun v u => AVr w W ob v u ∧ ∀ id, menA v id → Al id

theorem opds_exec {α : Type} (h : Rel B Al s a w W) : ∀ {xs : List Operand} {k : List AV → RP α} {rs : List Key} {r : α × List Key}, (opds xs k).exec s rs = some r →
    ∃ vs rs2, (k vs).exec s rs2 = some r ∧ opsRel w W s.ob Al vs (xs.map a.eval)
  | [], k, rs, r, he => ⟨[], rs, he, rfl⟩
  | x :: xs, k, rs, r, he => by
    obtain ⟨v, rs2, h1, h2, h3⟩ := opd_exec h he
    obtain ⟨vs, rs3, h4, h5⟩ := opds_exec h h1
    exact ⟨v :: vs, rs3, h4, _, _, rfl, ⟨h2, h3⟩, h5⟩
end

end Go.Rf
