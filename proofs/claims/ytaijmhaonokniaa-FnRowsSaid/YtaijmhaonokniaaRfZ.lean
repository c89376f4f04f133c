/- Regions; states made out of data. -/
import Derived.Test.YtaijmhaonokniaaRfY
import Derived.LoopN
namespace Go.Rf
set_option linter.unusedVariables false
set_option linter.unusedSimpArgs false

def Sim (B : Base) (f : Nat) (s : St) (a : Act) (w : World) : Prop := ∃ W, Rel B (fun i => i < f) s a w W

section
variable {P : Program} {T : Tab} {E : Env} {B : Base} {s s' : St} {a : Act} {w w' : World} {W W' : Wit} {f : Nat} {ops : Array Oper}
  {u : Upd} {Q : Exit → Act → World → Prop}

theorem Rel.drew {Al : Nat → Prop} (h : Rel B Al s a w W) (n : Nat) : Rel B Al s a { w with drawn := n } W := by
  have turn : Turn Al W W s.ob s.ob w { w with drawn := n } :=
    { I := fun _ h => h, J := fun _ h => h, hJ := fun _ _ => rfl, rows := fun _ _ t xs' hx => ⟨t, xs', hx, rfl, rfl, rfl, rfl, rfl⟩, vars := fun _ _ l hx => ⟨l, hx, rfl⟩ }
  have := h.turn (C := fun _ => False) (Al' := Al) (d := none) (r := .one .undef) (v := undef)
    { turn := turn, sub := fun _ h => h, kept := fun _ _ => ⟨rfl, rfl, rfl, rfl, rfl⟩, keptH := fun i _ hS b hb => ⟨rfl, h.imm i hS b hb⟩,
      newO := fun _ h => h.elim, newN := fun _ h => h.elim, newI := fun _ h => h.elim, newD := fun _ _ h => h.elim, newD2 := fun _ _ h => h.elim, newT := fun _ h => h.elim, newF := fun _ h => h.elim,
      bnd := h.bnd, os := h.os, tape := h.tape, output := h.output, grown := h.grown, old := h.old, from0 := h.from0 } (fun _ k => by simp at k) ⟨fun k => by simp [isUndef] at k, trivial⟩ (fun _ k => k.elim)
  exact this

theorem num_map : ∀ (l : List Oper) (i : Nat), (num i l).map (·.1) = List.range' i l.length
  | [], _ => rfl
  | o :: l, i => by simp only [num, List.map_cons, num_map l (i + 1), List.length_cons, List.range'_succ]

theorem num_get : ∀ (l : List Oper) (i : Nat) (p : Nat × Oper), p ∈ num i l → ∃ k, p.1 = i + k ∧ l[k]? = some p.2
  | [], _, _, h => by simp [num] at h
  | o :: l, i, p, h => by
    simp only [num] at h
    rcases List.mem_cons.1 h with k | k
    · subst k; exact ⟨0, rfl, rfl⟩
    · obtain ⟨k, h1, h2⟩ := num_get l (i + 1) p k; exact ⟨k + 1, by omega, h2⟩

/-- One after the other. -/
theorem seq_wp (hT : TabOk P T) (hE : EnvOk P E) (hds : ∀ (i : Nat) (o : Oper), ops[i]? = some o → dstOk B o.dst) {s1 : St} (hend : ∀ D a w, SimR B f D s1 a w → (∀ j ∈ D, j < ops.size) → Q .normal a w) :
    ∀ (L : List (Nat × Oper)) (es : List Ent) (D : List Nat) (s : St) (a : Act) (w : World), RunE T E ops f L s es s1 → (∀ p ∈ L, ops[p.1]? = some p.2) → (L.map (·.1)).Nodup → (∀ p ∈ L, p.1 ∉ D) → (∀ j ∈ D, j < ops.size) → SimR B f D s a w →
      wpOps P ops Q (L.map (·.1)) a w
  | [], _, D, s, a, w, hr, _, _, _, hD, hs => by cases hr; exact hend D a w hs hD
  | (i, o) :: L, _, D, s, a, w, hr, hL, hn, hnD, hD, hs => by
    cases hr with
    | cons hst hk =>
      rw [List.map_cons, wpOps_cons]
      have ho := hL (i, o) (List.mem_cons_self ..)
      rw [List.map_cons, List.nodup_cons] at hn
      refine stp_sound hT hE hds D i o s a w _ _ _ ho (hnD (i, o) (List.mem_cons_self ..)) hs hst fun a' w' hs' => ?_
      refine seq_wp hT hE hds hend L _ (i :: D) _ a' w' hk (fun p hp => hL p (List.mem_cons_of_mem _ hp)) hn.2 (fun p hp hpD => ?_) (fun j hj => ?_) hs'
      · rcases List.mem_cons.1 hpD with k | k
        · exact hn.1 (k ▸ List.mem_map.2 ⟨p, hp, rfl⟩)
        · exact hnD p (List.mem_cons_of_mem _ hp) k
      · rcases List.mem_cons.1 hj with k | k
        · subst k; exact (Array.getElem?_eq_some_iff.1 ho).1
        · exact hD j k

theorem region_sound (hT : TabOk P T) (hE : EnvOk P E) (hm : P.follows .mixedOrders = true) (hds : ∀ (i : Nat) (o : Oper), ops[i]? = some o → dstOk B o.dst) {ρ : Type} {r : ρ} {K : St → Nat → Option ρ} {dr : Bool} {id : Nat}
    (he : evRegion T E ops dr s f K = some r) (hs : Sim B f s a w) (hQ : ∀ s' f' a' w', K s' f' = some r → Sim B f' s' a' w' → Q .normal a' w') : (Code.region id ops dr).wp P Q a w := by
  unfold evRegion at he
  rw [evOps_eq] at he
  cases hseq : seqE T E ops f (num 0 ops.toList) s [] with
  | none => rw [hseq] at he; simp at he
  | some q =>
    obtain ⟨s1, bk⟩ := q
    rw [hseq] at he
    simp only [Option.bind_some] at he
    obtain ⟨es, hrun, hbk⟩ := seqE_run _ _ _ _ _ hseq
    rw [List.append_nil] at hbk
    have hck : (!dr || (edgesAll 0 ops.toList && apartAll (behind ops.toList []) bk)) = true ∧ K s1 (f + ops.size * idW) = some r := by
      cases hb : (!dr || (edgesAll 0 ops.toList && apartAll (behind ops.toList []) bk)) with
      | true => rw [hb] at he; exact ⟨rfl, he⟩
      | false => rw [hb] at he; simp at he
    obtain ⟨hck, hK⟩ := hck
    have hend : ∀ D a w, SimR B f D s1 a w → (∀ j ∈ D, j < ops.size) → Q .normal a w := by
      rintro D a w ⟨W, hr⟩ hD
      refine hQ s1 _ a w hK ⟨W, hr.mono fun i hi => ?_⟩
      rcases hi with hi | ⟨j, hj, h1, h2⟩
      · omega
      · have := hD j hj
        have : (j + 1) * idW ≤ ops.size * idW := Nat.mul_le_mul_right _ this
        rw [Nat.add_mul] at this
        omega
    have hs0 : ∀ w : World, Sim B f s a w → SimR B f [] s a w := fun w ⟨W, hr⟩ => ⟨W, hr.mono fun i hi => .inl hi⟩
    have hL : ∀ p ∈ num 0 ops.toList, ops[p.1]? = some p.2 := fun p hp => by
      obtain ⟨k, h1, h2⟩ := num_get _ _ _ hp
      rw [h1, Nat.zero_add, ← Array.getElem?_toList]; exact h2
    have hmap : (num 0 ops.toList).map (·.1) = List.range ops.size := by rw [num_map, List.range_eq_range', Array.length_toList]
    cases dr with
    | false =>
      refine wp_region ?_
      rw [← hmap]
      exact seq_wp hT hE hds hend _ es [] s a w hrun hL (by rw [hmap]; exact List.nodup_range) (by simp) (by simp) (hs0 w hs)
    | true =>
      simp only [Bool.not_true, Bool.false_or, Bool.and_eq_true] at hck
      refine wp_region_any hm ?_
      obtain ⟨W, hr⟩ := hs
      refine any_order (T := T) (E := E) (f0 := f) (fun D s a w => SimR B f D s a w ∧ ∀ j ∈ D, j < ops.size) s1 hck.1
        (fun D i o s a w u e K ho hi hs hst hK => stp_sound hT hE hds D i o s a w u e K ho hi hs.1 hst fun a' w' h' => hK a' w' ⟨h', fun j hj => ?_⟩)
        (fun D a w h => hend D a w h.1 h.2) ops.size (num 0 ops.toList) es [] _ s a _ (by rw [← List.length_map (f := (·.1)), hmap]; simp) (by simp) hrun (apartAll_pw _ es (by rw [← hbk]; exact hck.2)) ?_ hL ?_ (by simp) ?_ ⟨hs0 _ ⟨W, hr.drew _⟩, by simp⟩
      · rcases List.mem_cons.1 hj with k | k
        · subst k; exact (Array.getElem?_eq_some_iff.1 ho).1
        · exact hs.2 j k
      · rw [hmap]; exact List.pairwise_lt_range
      · intro i hi
        rw [hmap]
        simp [Array.getD, hi]
      · intro i j hi h
        simp [Array.getD, hi] at h
end
end Go.Rf
