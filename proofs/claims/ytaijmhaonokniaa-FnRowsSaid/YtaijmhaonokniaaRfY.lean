/- One operation; a region. -/
import Derived.Test.YtaijmhaonokniaaRfX
namespace Go.Rf
set_option linter.unusedVariables false
set_option linter.unusedSimpArgs false

section
variable {P : Program} {T : Tab} {E : Env} {B : Base} {Al Al' : Nat → Prop} {s s' : St} {a : Act} {w w' : World} {W W' : Wit} {o : Oper} {f : Nat}
  {rs rs' : List Key} {u : Upd}

theorem step_sound (hT : TabOk P T) (hE : EnvOk P E) (h : Rel B Al s a w W) (hd : dstOk B o.dst) (hf : fresh Al f) (he : (step T E o f).exec s rs = some (u, rs')) : Done P B (Nu Al f) (s.up u) o a w := by
  have up : ∀ {s' : St}, Done P B Al s' o a w → Done P B (Nu Al f) s' o a w := fun h => h.mono fun i hi => .inl hi
  cases hop : o.op with
  | move x => exact up (st_move h hd (.inl hop) he)
  | assign x => exact up (st_move h hd (.inr hop) he)
  | pick c x y => exact up (st_pick h hd hop he)
  | alloc t => exact st_alloc hT h hd hf hop he
  | box t x => exact st_box hT h hd hf hop he
  | build t p => exact up (st_build hT h hd hop he)
  | buildSlice t n p => exact st_buildSlice hT h hd hf hop he
  | load t x => exact up (st_load hT h hd hop he)
  | store t x y => exact up (st_store hT h hd hop he)
  | nilCheck x => exact up (st_nilCheck h hd hop he)
  | makeFunc fn first caps => exact up (st_makeFunc h hd hop he)
  | binOp op t x y t' => exact up (st_binOp hT h hd hop he)
  | unOp op t x => exact up (st_unOp h hd hop he)
  | convert t t' x => exact up (st_convert hT h hd hop he)
  | slice t x lo hi mx =>
    cases mx with
    | none => exact up (st_slice hT h hd hop he)
    | some m => simp [step, hop, RP.exec] at he
  | fieldAddr t x j => exact up (st_fieldAddr hT h hd hop he)
  | field t x j => exact up (st_field hT h hd hop he)
  | indexAddr t x y => exact up (st_indexAddr hT h hd hop he)
  | index t x y => exact up (st_index hT h hd hop he)
  | extract x j => exact up (st_extract h hd hop he)
  | makeSlice t x y => exact st_makeSlice hT h hd hf hop he
  | call c =>
    cases hc : c.callee with
    | builtin b =>
      have he0 := he
      simp only [step, hop] at he
      obtain ⟨vs, rs1, h1, k1⟩ := opds_exec h he
      rw [hc] at h1
      cases b <;> first | (simp [RP.exec] at h1; done) | skip
      · exact st_append hT h hd hf hop hc he0
      · exact up (st_len hT h hd hop hc he0)
      · exact up (st_minmax h hd hop hc (.inr rfl) he0)
      · exact up (st_minmax h hd hop hc (.inl rfl) he0)
    | invoke r n =>
      simp only [step, hop] at he
      obtain ⟨vs, rs1, h1, k1⟩ := opds_exec h he
      rw [hc] at h1
      simp [RP.exec] at h1
    | value x =>
      cases x with
      | func g => exact st_call hE h hd hf hop hc he
      | tmp i => exact st_callv hE h hd hf hop hc he
      | _ =>
        simp only [step, hop] at he
        obtain ⟨vs, rs1, h1, k1⟩ := opds_exec h he
        rw [hc] at h1
        simp [RP.exec] at h1
  | _ => simp [step, hop, RP.exec] at he
end

section
variable {P : Program} {T : Tab} {E : Env} {B : Base} {s s' : St} {a : Act} {w w' : World} {W W' : Wit} {o : Oper} {f0 : Nat} {ops : Array Oper}
  {u : Upd} {Q : Exit → Act → World → Prop}

/-- The numbers that are taken, behind the operations D of a region. -/
def AlD (f0 : Nat) (D : List Nat) (i : Nat) : Prop := i < f0 ∨ ∃ j ∈ D, f0 + j * idW ≤ i ∧ i < f0 + j * idW + idW

def SimR (B : Base) (f0 : Nat) (D : List Nat) (s : St) (a : Act) (w : World) : Prop := ∃ W, Rel B (AlD f0 D) s a w W

theorem AlD.fresh {D : List Nat} {i : Nat} (h : i ∉ D) : fresh (AlD f0 D) (f0 + i * idW) := by
  intro k h1 h2 h3
  rcases h3 with h3 | ⟨j, hj, h4, h5⟩
  · omega
  · have hne : i ≠ j := fun e => h (e ▸ hj)
    simp only [idW] at *
    omega

theorem AlD.next {D : List Nat} {i k : Nat} (h : Nu (AlD f0 D) (f0 + i * idW) k) : AlD f0 (i :: D) k := by
  rcases h with (h | ⟨j, hj, h⟩) | h
  · exact .inl h
  · exact .inr ⟨j, List.mem_cons_of_mem _ hj, h⟩
  · exact .inr ⟨i, List.mem_cons_self .., h⟩

theorem stp_sound (hT : TabOk P T) (hE : EnvOk P E) (hds : ∀ (i : Nat) (o : Oper), ops[i]? = some o → dstOk B o.dst) (D : List Nat) (i : Nat) (o : Oper) (s : St) (a : Act) (w : World) (u : Upd) (e : Ent) (K : Act → World → Prop)
    (ho : ops[i]? = some o) (hi : i ∉ D) (hs : SimR B f0 D s a w) (hst : stp T E ops f0 o i s = some (u, e)) (hK : ∀ a' w', SimR B f0 (i :: D) (s.up u) a' w' → K a' w') : wpOp P ops Q i K a w := by
  obtain ⟨W, h⟩ := hs
  have hd := hds i o ho
  have go : ∀ rs, goE T E f0 o i s rs = some (u, e) → o.wp P a w K Q := by
    intro rs hg
    unfold goE at hg
    cases hx : (step T E o (f0 + i * idW)).exec s rs with
    | none => rw [hx] at hg; simp at hg
    | some q =>
      obtain ⟨u2, rs2⟩ := q
      rw [hx] at hg
      simp only [Option.map_some, Option.some.injEq, Prod.mk.injEq] at hg
      obtain ⟨rfl, _⟩ := hg
      exact step_sound hT hE h hd (AlD.fresh hi) hx K Q fun a' w' ⟨W', r⟩ => hK a' w' ⟨W', r.mono fun k hk => AlD.next hk⟩
  have off : ∀ rs, some (offE o i rs) = some (u, e) → K (a.put o.dst undef) w := by
    intro rs hg
    have hr := h.skip hd
    refine hK _ _ ⟨W, ?_⟩
    have hu : u = ⟨dl o.dst (.one .skip), []⟩ := by
      unfold offE at hg
      cases hdst : o.dst <;> rw [hdst] at hg <;> simp only [Option.some.injEq, Prod.mk.injEq] at hg <;> exact hg.1.symm
    rw [hu]
    exact hr.mono fun k hk => hk.imp id fun ⟨j, hj, z⟩ => ⟨j, List.mem_cons_of_mem _ hj, z⟩
  unfold wpOp
  rw [ho]
  simp only
  unfold stp at hst
  cases hg : guardOf ops o with
  | none =>
    rw [hg] at hst
    simp only at hst
    have : o.guard = none := by
      unfold guardOf at hg
      cases hgd : o.guard with
      | none => rfl
      | some p => rw [hgd] at hg; simp at hg
    rw [if_pos (by simp [Region.wanted, this])]
    exact .inl (go _ hst)
  | some p =>
    obtain ⟨gd, want⟩ := p
    obtain ⟨j, hgd, hj⟩ : ∃ j, o.guard = some (j, want) ∧ (ops[j]?).bind (·.dst) = gd := by
      unfold guardOf at hg
      cases hgd : o.guard with
      | none => rw [hgd] at hg; simp at hg
      | some q =>
        rw [hgd] at hg
        simp only [Option.some.injEq, Prod.mk.injEq] at hg
        exact ⟨q.1, by rw [← hg.2], hg.1⟩
    rw [hg] at hst
    cases gd with
    | none => simp at hst
    | some g =>
      simp only at hst
      have hv := h.slots g
      cases hsl : s.sl g with
      | one c =>
        rw [hsl] at hst hv
        cases c with
        | bool b =>
          simp only at hst
          have hv : a.tmps.getD g undef = .bool b := hv.2
          have hget : a.tmps[g]? = some (.bool b) := by
            by_cases hlt : g < a.tmps.size
            · simp [Array.getD, hlt] at hv; simp [hlt, hv]
            · simp [Array.getD, hlt, undef] at hv
          have hy : yielded ops a.tmps j = some b := by
            unfold yielded
            rw [hj]
            simp [hget]
          by_cases hbw : b = want
          · rw [if_pos hbw] at hst
            rw [if_pos (by simp [Region.wanted, hgd, hy, hbw])]
            exact .inl (go _ hst)
          · rw [if_neg hbw] at hst
            rw [if_neg (by simp [Region.wanted, hgd, hy, hbw])]
            exact off _ hst
        | skip =>
          simp only at hst
          have hv : a.tmps.getD g undef = undef := hv.2
          have hy : yielded ops a.tmps j = none := by
            unfold yielded
            rw [hj]
            simp only [Option.bind_some]
            by_cases hlt : g < a.tmps.size
            · have hv : a.tmps[g] = undef := by simpa [Array.getD, hlt] using hv
              simp [hlt, hv, undef]
            · simp [hlt]
          rw [if_neg (by simp [Region.wanted, hgd, hy])]
          exact off _ hst
        | _ => simp at hst
      | agg l => rw [hsl] at hst; simp at hst
      | tup l => rw [hsl] at hst; simp at hst
end
end Go.Rf
