/- slice, indexAddr, len, min, max, build. -/
import Derived.Test.YtaijmhaonokniaaRfI
namespace Go.Rf
set_option linter.unusedVariables false
set_option linter.unusedSimpArgs false

section
variable {P : Program} {T : Tab} {E : Env} {B : Base} {Al : Nat → Prop} {s : St} {a : Act} {w : World} {W : Wit} {o : Oper} {f : Nat}
  {rs rs' : List Key} {u : Upd}

theorem Rd.slv {I : Nat → Prop} {m : Bool} {t : Ty} {xs : List t.den} {v : Value} (h : Rd w I (.sl m t) xs [v]) : ∃ A c, v = .slice A xs.length c ∧ xs.length ≤ c ∧ RdRow w I (Rd w I t) xs A := by
  obtain ⟨A, c, e, hc, hr⟩ := h
  simp only [List.cons.injEq, and_true] at e
  exact ⟨A, c, e, hc, hr⟩

theorem st_slice {t : Nat} {x : Operand} {lo hi : Option Operand} (hT : TabOk P T) (h : Rel B Al s a w W) (hd : dstOk B o.dst) (hop : o.op = .slice t x lo hi none) (he : (step T E o f).exec s rs = some (u, rs')) : Done P B Al (s.up u) o a w := by
  simp only [step, hop] at he
  obtain ⟨v, rs1, h1, k1, hm⟩ := opd_exec h he
  split at h1 <;> try (simp [RP.exec] at h1; done)
  rename_i c
  obtain ⟨l, rs2, h2, kl⟩ := optInt_exec h h1
  obtain ⟨hh, rs3, h3, kh⟩ := optInt_exec h h2
  clear he h1 h2
  -- a slice's value
  have cutv : ∀ (e : Ty) (A : Option Addr) (n cp : Nat), elemTy T t = some e → a.eval x = .slice A n cp → n ≤ cp →
      hiOk n hh → loOk (hh.getD n) l →
      (execOp a.eval o).run P w = .ok (.value (.slice (if cp = (l.map Int.toNat).getD 0 then A else A.map (·.add ((l.map Int.toNat).getD 0 * e.size))) ((hh.map Int.toNat).getD n - (l.map Int.toNat).getD 0) (cp - (l.map Int.toNat).getD 0))) w := by
    intro e A n cp hel ev hn b1 b2
    obtain ⟨el, hu, ht, _⟩ := elem_kind hT hel
    have hb := run_bounds (P := P) (w := w) (isS := true) hn kl kh b1 b2
    simp only [execOp, hop, ev, Option.map_none, Instr.sliceAt, Sem.run_bind, run_underlying hu, Result.andThen_ok, Instr.slice, hb, run_size w ht, Sem.run_pure]
  cases c <;> try (simp [cutSc, RP.exec] at h3; done)
  case str b =>
    obtain ⟨hs, h3⟩ := exec_bif h3
    have hu := str_kind hT hs
    obtain ⟨h3, b1, b2⟩ := bounds_exec h3
    rw [out_exec0 h3]
    have ev : a.eval x = .string ⟨b.toArray⟩ := k1.2
    refine done_flat h hd rfl ?_
    have hb := run_bounds (P := P) (w := w) (isS := false) (Nat.le_refl b.length) kl kh b1 b2
    have hsz : (⟨b.toArray⟩ : ByteArray).size = b.length := List.size_toArray
    have hex : (⟨b.toArray⟩ : ByteArray).extract ((l.map Int.toNat).getD 0) ((hh.map Int.toNat).getD b.length) = ⟨(cut (l.map Int.toNat) (hh.map Int.toNat) b).toArray⟩ := by
      apply ByteArray.ext
      rw [ByteArray.data_extract, cut_eq]
      simp [List.drop_take]
    simp only [execOp, hop, ev, Option.map_none, Instr.sliceAt, Sem.run_bind, run_underlying hu, Result.andThen_ok, Instr.slice, hb, hsz, hex, Sem.run_pure, Option.isSome_none, Bool.false_eq_true, if_false]
  case rd sf t' xs =>
    simp only [cutSc] at h3
    cases hel : elemTy T t with
    | none => rw [hel] at h3; simp [RP.exec] at h3
    | some e =>
      rw [hel] at h3
      simp only at h3
      obtain ⟨hq, h3⟩ := exec_bif h3
      have hq := (nEq_iff _ _).1 hq
      obtain ⟨h3, b1, b2⟩ := bounds_exec h3
      rw [out_exec0 h3]
      obtain ⟨A, cp, ev, hc, hr⟩ := Rd.slv (show Rd w (if sf then W.J s.ob else W.I) (.sl false t') xs [a.eval x] from k1.2)
      refine done_val h hd (cutv e A _ cp hel ev hc b1 b2) ⟨fun _ => rfl, ?_⟩ (fun _ k => k.elim)
      have hlen := cut_len l hh xs b1 b2
      refine ⟨_, _, by rw [hlen], ?_, ?_⟩
      · rw [hlen]
        have : (hh.map Int.toNat).getD xs.length ≤ xs.length := by cases hh <;> simp [hiOk] at b1 ⊢; omega
        omega
      · by_cases hne : cut (l.map Int.toNat) (hh.map Int.toNat) xs = []
        · exact .inl hne
        · have hxs : xs ≠ [] := fun e => hne (by rw [e, cut_eq]; simp)
          rcases hr with hr | ⟨a', C, el, fr, pre, ces, post, q1, q2, q3, q4, q5, q6, q7⟩
          · exact absurd hr hxs
          · subst q1
            obtain ⟨c1, c2, c3, r1, r2, r3⟩ := cut_ch (fun x cs => Rd.size t' x cs) (l.map Int.toNat) (hh.map Int.toNat) xs ces q7 hne
            have hpos : 0 < (cut (l.map Int.toNat) (hh.map Int.toNat) xs).length := List.length_pos_iff.2 hne
            have hcp : ¬ cp = (l.map Int.toNat).getD 0 := by
              rw [hlen] at hpos
              have : (hh.map Int.toNat).getD xs.length ≤ xs.length := by cases hh <;> simp [hiOk] at b1 ⊢; omega
              omega
            rw [if_neg hcp]
            have had : a' = ⟨a'.block, a'.off, none⟩ := by cases a'; simp at q2; subst q2; rfl
            refine .inr ⟨⟨a'.block, a'.off + (l.map Int.toNat).getD 0 * e.size, none⟩, C, el, fr, pre ++ c1, c2, c3 ++ post, ?_, rfl, q3, q4, by rw [q5, r1]; simp, ?_, r2⟩
            · rw [had]; simp [add_at]
            · simp [r3, q6, hq]
  case own id =>
    simp only [cutSc, RP.exec] at h3
    split at h3 <;> try (simp [RP.exec] at h3; done)
    rename_i t' xs ho
    cases hel : elemTy T t with
    | none => rw [hel] at h3; simp [RP.exec] at h3
    | some e =>
      rw [hel] at h3
      simp only at h3
      obtain ⟨hq, h3⟩ := exec_bif h3
      have hq := (nEq_iff _ _).1 hq
      obtain ⟨h3, b1, b2⟩ := bounds_exec h3
      rw [out_exec0 h3]
      have ev0 : a.eval x = _ := k1.2 t' xs ho
      obtain ⟨A, cp, ev, hc, _⟩ := Rd.slv (h.rowRd ho true)
      rw [← ev0] at ev
      refine done_val h hd (cutv e _ _ _ hel ev hc b1 b2) ⟨fun _ => rfl, ?_⟩ hm
      intro t2 xs2 ho2
      rw [ho] at ho2
      simp only [Option.some.injEq, Obj.row.injEq] at ho2
      obtain ⟨rfl, ho2⟩ := ho2
      have ho2 := eq_of_heq ho2
      subst ho2
      have hlen := cut_len l hh xs b1 b2
      have hle : (hh.map Int.toNat).getD xs.length ≤ xs.length := by cases hh <;> simp [hiOk] at b1 ⊢; omega
      refine ⟨_, _, by rw [hlen], by rw [hlen]; omega, ?_⟩
      by_cases h0 : (cut (l.map Int.toNat) (hh.map Int.toNat) xs).length = 0
      · exact .inl h0
      · rw [hlen] at h0
        rw [if_neg (by omega)]
        rcases slv_inv (ev0.symm.trans ev) with ⟨e1, _, e3⟩ | ⟨e1, _⟩
        · omega
        · exact .inr (by rw [e1]; simp [add_at, hq])

theorem st_indexAddr {t : Nat} {x y : Operand} (hT : TabOk P T) (h : Rel B Al s a w W) (hd : dstOk B o.dst) (hop : o.op = .indexAddr t x y) (he : (step T E o f).exec s rs = some (u, rs')) : Done P B Al (s.up u) o a w := by
  simp only [step, hop] at he
  cases hel : elemTy T t with
  | none => rw [hel] at he; simp [RP.exec] at he
  | some e =>
    rw [hel] at he
    simp only at he
    obtain ⟨el, hu, ht, _⟩ := elem_kind hT hel
    obtain ⟨v1, rs1, h1, k1, hm⟩ := opd_exec h he
    obtain ⟨v2, rs2, h2, k2, -⟩ := opd_exec h h1
    clear he h1
    split at h2 <;> try (simp [RP.exec] at h2; done)
    rename_i kd i
    have e2 : a.eval y = .int kd i := k2.2
    have run : ∀ (b o' n cp : Nat), a.eval x = .slice (some ⟨b, o', none⟩) n cp → inB i n = true → (execOp a.eval o).run P w = .ok (.value (pt b (o' + i.toNat * e.size))) w := by
      intro b o' n cp ev hi
      simp only [inB, Bool.and_eq_true, decide_eq_true_eq] at hi
      have hi : 0 ≤ i ∧ i < (n : Int) := hi
      have : (Instr.indexAt t (.slice (some ⟨b, o', none⟩) n cp) (.int kd i)).run P w = .ok (pt b (o' + i.toNat * e.size)) w := by
        simp [Instr.indexAt, asIntOf, run_underlying hu, hi, run_size w ht, add_at, pt]
      simp only [execOp, hop, ev, e2, Sem.run_bind, this, Result.andThen_ok, Sem.run_pure]
    split at h2 <;> try (simp [RP.exec] at h2; done)
    · rename_i id
      simp only [RP.exec] at h2
      split at h2 <;> try (simp [RP.exec] at h2; done)
      rename_i t' xs ho
      obtain ⟨hq, h2⟩ := exec_bif h2
      have hq := (nEq_iff _ _).1 hq
      obtain ⟨c, h2⟩ := exec_chk h2
      rw [out_exec0 h2]
      have hne := (inB_lt c).2
      have ev : a.eval x = .slice (some ⟨W.η id, 0, none⟩) xs.length (W.cp id) := by
        rw [show a.eval x = _ from k1.2 t' xs ho]
        rcases h.row id t' xs ho with ⟨_, e, _⟩ | ⟨e, _⟩
        · rw [e] at hne; exact absurd hne (Nat.not_lt_zero _)
        · simp [slv, e]
      refine done_val h hd (run _ _ _ _ ev c) ⟨fun _ => rfl, _, _, rfl, ?_⟩ hm
      intro t2 xs2 ho2
      rw [ho] at ho2
      simp only [Option.some.injEq, Obj.row.injEq] at ho2
      obtain ⟨rfl, ho2⟩ := ho2
      have ho2 := eq_of_heq ho2
      subst ho2
      exact ⟨c, rfl, by simp [hq]⟩
    · rename_i sf t' xs
      obtain ⟨hq, h2⟩ := exec_bif h2
      have hq := (nEq_iff _ _).1 hq
      obtain ⟨c, h2⟩ := exec_chk h2
      rw [out_exec0 h2]
      obtain ⟨A, cp, ev, hc, hr⟩ := Rd.slv (show Rd w (if sf then W.J s.ob else W.I) (.sl false t') xs [a.eval x] from k1.2)
      rcases hr with hr | ⟨a', C, el', fr, pre, ces, post, q1, q2, q3, q4, q5, q6, q7⟩
      · have := (inB_lt c).2
        rw [hr] at this
        exact absurd this (Nat.not_lt_zero _)
      · subst q1
        have had : a' = ⟨a'.block, a'.off, none⟩ := by cases a'; simp at q2; subst q2; rfl
        refine done_val h hd (run a'.block a'.off _ cp (by rw [ev, ← had]) c) ⟨fun _ => rfl, c, a', C, el', fr, pre, ces, post, by simp [hq], q3, q4, q5, q6, q7⟩ (fun _ k => k.elim)

theorem run_call {c : Call} {b : Builtin} {v : Value} (hop : o.op = .call c) (hb : c.callee = .builtin b)
    (h : ∀ cs, (builtin b c.argTypes o.type cs (c.args.map a.eval)).run P w = .ok (.value v) w) : (execOp a.eval o).run P w = .ok (.value v) w := by
  simp only [execOp, hop, resolve, hb, Sem.run_bind, Sem.run_pure, Result.andThen_ok, invoke, h]

theorem args_of {c : Call} {vs : List Value} (h : c.args.toList.map a.eval = vs) : c.args.map a.eval = vs.toArray := by
  apply Array.ext'
  simp [h]

theorem st_len {c : Call} (hT : TabOk P T) (h : Rel B Al s a w W) (hd : dstOk B o.dst) (hop : o.op = .call c) (hb : c.callee = .builtin .len) (he : (step T E o f).exec s rs = some (u, rs')) : Done P B Al (s.up u) o a w := by
  simp only [step, hop] at he
  obtain ⟨vs, rs1, h1, k1⟩ := opds_exec h he
  clear he
  rw [hb] at h1
  simp only at h1
  split at h1 <;> try (simp [RP.exec] at h1; done)
  rename_i t hat
  have run : ∀ (v : Value) (n : Nat), c.args.toList.map a.eval = [v] → (∃ A cp, v = .slice A n cp) → (∃ el, P.underlying t = some (.slice el)) → (execOp a.eval o).run P w = .ok (.value (.int .i64 n)) w := by
    intro v n ha ⟨A, cp, e⟩ ⟨el, hu⟩
    subst e
    refine run_call hop hb fun cs => ?_
    rw [args_of ha]
    simp [builtin, Builtin.len_, hat, run_underlying hu, goInt]
  split at h1
  · rename_i b
    obtain ⟨hs, h1⟩ := exec_bif h1
    have hu := str_kind hT hs
    obtain ⟨v, r', e, p, p'⟩ := k1
    have p' : r' = [] := p'
    subst p'
    have ev : v = .string ⟨b.toArray⟩ := p.1.2
    subst ev
    rw [out_exec0 h1]
    refine done_flat h hd rfl (run_call hop hb fun cs => ?_)
    rw [args_of e]
    have hsz : (⟨b.toArray⟩ : ByteArray).size = b.length := List.size_toArray
    simp [builtin, Builtin.len_, hat, run_underlying hu, goInt, hsz]
  · rename_i cc hns
    obtain ⟨v, r', e, p, p'⟩ := k1
    have p' : r' = [] := p'
    subst p'
    split at h1 <;> try (simp [RP.exec] at h1; done)
    rename_i el hel
    obtain ⟨elt, hu, _⟩ := elem_kind hT hel
    split at h1 <;> try (simp [RP.exec] at h1; done)
    · rename_i sf t' xs
      rw [out_exec0 h1]
      obtain ⟨A, cp, ev, _⟩ := Rd.slv (show Rd w (if sf then W.J s.ob else W.I) (.sl false t') xs [v] from p.1.2)
      exact done_flat h hd rfl (run v _ e ⟨A, cp, ev⟩ ⟨_, hu⟩)
    · rw [out_exec0 h1]
      exact done_flat h hd rfl (run v 0 e ⟨none, 0, p.1.2⟩ ⟨_, hu⟩)
    · simp only [RP.exec] at h1
      split at h1 <;> try (simp [RP.exec] at h1; done)
      rename_i t' xs ho
      rw [out_exec0 h1]
      obtain ⟨A, cp, ev, hc, _⟩ := Rd.slv (h.rowRd ho true)
      exact done_flat h hd rfl (run v _ e ⟨A, cp, (show v = _ from p.1.2 t' xs ho).trans ev⟩ ⟨_, hu⟩)
    · simp only [RP.exec] at h1
      split at h1 <;> try (simp [RP.exec] at h1; done)
      rename_i t' xs ho
      rw [out_exec0 h1]
      obtain ⟨A, cp, ev, _⟩ := p.1.2 t' xs ho
      exact done_flat h hd rfl (run v _ e ⟨_, _, ev⟩ ⟨_, hu⟩)
  · simp [RP.exec] at h1

theorem st_minmax {c : Call} {b : Builtin} (h : Rel B Al s a w W) (hd : dstOk B o.dst) (hop : o.op = .call c) (hb : c.callee = .builtin b) (hm : b = .min ∨ b = .max) (he : (step T E o f).exec s rs = some (u, rs')) : Done P B Al (s.up u) o a w := by
  simp only [step, hop] at he
  obtain ⟨vs, rs1, h1, k1⟩ := opds_exec h he
  clear he
  rw [hb] at h1
  rcases hm with rfl | rfl
  all_goals
    simp only at h1
    split at h1 <;> try (simp [RP.exec] at h1; done)
    rename_i k n k' m
    obtain ⟨hk, h5⟩ := exec_bif h1
    clear h1
    have hk := kEq_iff hk
    subst hk
    obtain ⟨v, r', e, p, v2, r2, e2, p2, p'⟩ := k1
    have p' : r2 = [] := p'
    subst p'
    subst e2
    have ev : v = .int k n := p.1.2
    have ev2 : v2 = .int k m := p2.1.2
    subst ev; subst ev2
    rw [out_exec0 h5]
    refine done_flat h hd rfl (run_call hop hb fun cs => ?_)
    rw [args_of e]
    first
      | (simp [builtin, Builtin.min_, Builtin.min2]; done)
      | (simp [builtin, Builtin.max_, Builtin.max2]; done)
end
end Go.Rf
