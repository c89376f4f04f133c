/- alloc, box, makeSlice, buildSlice, build. -/
import Derived.Test.YtaijmhaonokniaaRfM
import Derived.Great.BuildSlice
namespace Go.Rf
set_option linter.unusedVariables false
set_option linter.unusedSimpArgs false

section
variable {P : Program} {T : Tab} {E : Env} {B : Base} {Al Al' : Nat → Prop} {s s' : St} {a : Act} {w w' : World} {W W' : Wit} {o : Oper} {f : Nat}
  {ob ob' : Nat → Option Obj} {rs rs' : List Key} {u : Upd}

def fresh (Al : Nat → Prop) (f : Nat) : Prop := ∀ i, f ≤ i → i < f + idW → ¬ Al i

theorem fresh.one (h : fresh Al f) : ¬ Al f := h f (Nat.le_refl _) (by simp [idW])
theorem Nu.new : Nu Al f f := .inr ⟨Nat.le_refl _, by simp [idW]⟩

theorem nth_zero {t : Nat} {n b : Nat} {zs : List Value} (h : TagOk P t n b zs) : ∃ i z, P.info? t = some i ∧ i.size = n ∧ i.bytes = b ∧ i.zero = some z ∧ z.cells.toList = zs := by
  obtain ⟨h1, h2, z, h3, h4⟩ := h
  cases hi : P.info? t with
  | none => rw [hi] at h1; simp at h1
  | some i =>
    rw [hi] at h1 h2 h3
    simp only [Option.map_some, Option.some.injEq, Option.bind_some] at h1 h2 h3
    exact ⟨i, z, rfl, h1, h2, h3, h4⟩

theorem zero_vs {ob : Nat → Option Obj} : ∀ t : Ty, All2 (Vs w W ob) (zeroCells t) (zeroVals t)
  | .int _ => ⟨_, _, rfl, ⟨fun _ => rfl, rfl⟩, rfl⟩
  | .bool => ⟨_, _, rfl, ⟨fun _ => rfl, rfl⟩, rfl⟩
  | .str => ⟨_, _, rfl, ⟨fun _ => rfl, rfl⟩, rfl⟩
  | .sl _ _ => ⟨_, _, rfl, ⟨fun _ => rfl, rfl⟩, rfl⟩
  | .box _ _ => ⟨_, _, rfl, ⟨fun h => by simp [isUndef] at h, trivial⟩, rfl⟩
  | .pair a b => All2.append (zero_vs a) (zero_vs b)

theorem zero_men : ∀ (t : Ty) id, ¬ menL (zeroCells t) id
  | .int _, _, ⟨s, h, k⟩ => by simp [zeroCells] at h; subst h; exact k
  | .bool, _, ⟨s, h, k⟩ => by simp [zeroCells] at h; subst h; exact k
  | .str, _, ⟨s, h, k⟩ => by simp [zeroCells] at h; subst h; exact k
  | .sl _ _, _, ⟨s, h, k⟩ => by simp [zeroCells] at h; subst h; exact k
  | .box _ _, _, ⟨s, h, k⟩ => by simp [zeroCells] at h; subst h; exact k
  | .pair a b, id, ⟨s, h, k⟩ => by
    rcases List.mem_append.1 h with h | h
    · exact zero_men a id ⟨s, h, k⟩
    · exact zero_men b id ⟨s, h, k⟩

theorem zero_ow {I : Nat → Prop} : ∀ t : Ty, t.plain = true → Ow w I t t.zero (zeroVals t) []
  | .int _, _ => ⟨rfl, rfl⟩
  | .bool, _ => ⟨rfl, rfl⟩
  | .str, _ => ⟨rfl, rfl⟩
  | .sl false _, _ => ⟨⟨none, 0, rfl, Nat.le_refl _, .inl rfl⟩, rfl⟩
  | .sl true _, _ => .inl ⟨rfl, rfl, rfl⟩
  | .pair a b, h => by
    simp only [Ty.plain, Bool.and_eq_true] at h
    exact ⟨_, _, [], [], rfl, rfl, zero_ow a h.1, zero_ow b h.2⟩
  | .box _ _, h => by simp [Ty.plain] at h

theorem zeroVals_len : ∀ t : Ty, (zeroVals t).length = t.size
  | .int _ | .bool | .str | .sl _ _ | .box _ _ => rfl
  | .pair a b => by show (zeroVals a ++ zeroVals b).length = _; rw [List.length_append, zeroVals_len a, zeroVals_len b]; rfl

theorem st_alloc {t : Nat} (hT : TabOk P T) (h : Rel B Al s a w W) (hd : dstOk B o.dst) (hf : fresh Al f) (hop : o.op = .alloc t) (he : (step T E o f).exec s rs = some (u, rs')) : Done P B (Nu Al f) (s.up u) o a w := by
  simp only [step, hop] at he
  cases ht : lkp T t with
  | none => rw [ht] at he; simp [RP.exec] at he
  | some td =>
    rw [ht] at he
    simp only at he
    rw [out_exec he]
    obtain ⟨i, z, q1, q2, q3, q4, q5⟩ := nth_zero (hT t td ht).tag
    obtain ⟨W', hR⟩ := h.newVar (Al' := Nu Al f) hf.one (fun i hi => .inl hi) Nu.new hd (e := t) (zero_vs td.ty) (fun id hid => (zero_men _ _ hid).elim)
    intro K Q hK
    have hz : z.cells = (zeroVals td.ty).toArray := by apply Array.ext'; rw [q5]
    have : (Instr.alloc t true (.tuple #[])).run P w = .ok (pt w.heap.size 0) (w.alloc (.cells (zeroVals td.ty).toArray t)) := by
      unfold Instr.alloc
      rw [Sem.run_bind, run_zero w (z := z) (by rw [q1]; simpa using q4), Result.andThen_ok]
      simp [Go.newVar, Go.newRow, hz, pt]
    unfold Oper.wp
    simp only [execOp, hop, Sem.run_bind, this, Result.andThen_ok, Sem.run_pure]
    exact hK _ _ ⟨W', hR⟩

/-- A whole value's cells. -/
theorem AVr.cells {v : AV} {x : Value} (h : AVr w W s.ob v x) (hdf : defined (cells v) = true) (hne : 0 < (cells v).length) : All2 (Vs w W s.ob) (cells v) x.cells.toList := by
  cases v with
  | one c =>
    have h1 : x.oneCell' = true := h.1 (by cases c <;> first | rfl | (simp [Go.Rf.cells, defined] at hdf))
    have : x.cells = #[x] := by cases x <;> first | rfl | (simp [Value.oneCell'] at h1)
    rw [this]
    exact ⟨x, [], rfl, h, rfl⟩
  | agg l =>
    obtain ⟨vs, e, p⟩ := h
    subst e
    exact p
  | tup l => simp [Go.Rf.cells] at hne

theorem cells_men {v : AV} {id : Nat} (h : menL (cells v) id) : menA v id := by
  cases v with
  | one c => obtain ⟨s, h1, h2⟩ := h; simp [Go.Rf.cells] at h1; subst h1; exact h2
  | agg l => exact h
  | tup l => obtain ⟨s, h1, h2⟩ := h; simp [Go.Rf.cells] at h1

theorem st_box {t : Nat} {x : Operand} (hT : TabOk P T) (h : Rel B Al s a w W) (hd : dstOk B o.dst) (hf : fresh Al f) (hop : o.op = .box t x) (he : (step T E o f).exec s rs = some (u, rs')) : Done P B (Nu Al f) (s.up u) o a w := by
  simp only [step, hop] at he
  cases ht : lkp T t with
  | none => rw [ht] at he; simp [RP.exec] at he
  | some td =>
    rw [ht] at he
    simp only at he
    obtain ⟨v, rs2, h1, k1, km⟩ := opd_exec h he
    obtain ⟨hc, h1⟩ := exec_bif h1
    rw [out_exec h1]
    simp only [Bool.and_eq_true] at hc
    have hn := (nEq_iff _ _).1 hc.1
    have hl := k1.cells hc.2 (by rw [hn]; exact td.ty.pos)
    obtain ⟨W', hR⟩ := h.newVar (Al' := Nu Al f) hf.one (fun i hi => .inl hi) Nu.new hd (e := t) hl (fun id hid => km _ (cells_men hid))
    intro K Q hK
    unfold Oper.wp
    simp only [execOp, hop, Sem.run_bind, Instr.box, Go.newVar, Go.newRow, run_newObj_alloc, Sem.run_pure, Result.andThen_ok]
    exact hK _ _ ⟨W', by simpa [pt] using hR⟩

theorem range_mod (zs : List Value) (hz : 0 < zs.length) : ∀ n : Nat, ((List.range (n * zs.length)).map fun i => zs.toArray[i % zs.toArray.size]!) = (List.replicate n zs).flatten := by
  intro n
  induction n with
  | zero => simp
  | succ n ih =>
    rw [Nat.succ_mul, List.range_add, List.map_append, ih, List.replicate_succ', List.flatten_append]
    congr 1
    simp only [List.flatten_cons, List.flatten_nil, List.append_nil, List.map_map]
    apply List.ext_getElem?
    intro j
    by_cases hj : j < zs.length
    · have : (n * zs.length + j) % zs.length = j := by rw [Nat.mul_add_mod_self_right]; exact Nat.mod_eq_of_lt hj
      simp [hj, this]
    · simp [hj]

theorem ChO_replicate {I : Nat → Prop} (t : Ty) (hp : t.plain = true) : ∀ n : Nat, ChO (Ow w I t) (List.replicate n t.zero) (List.replicate n (zeroVals t)).flatten []
  | 0 => ⟨rfl, rfl⟩
  | n + 1 => by
    rw [List.replicate_succ, List.replicate_succ]
    exact ⟨zeroVals t, _, [], [], rfl, rfl, zero_ow t hp, ChO_replicate t hp n⟩

theorem st_makeSlice {t : Nat} {x y : Operand} (hT : TabOk P T) (h : Rel B Al s a w W) (hd : dstOk B o.dst) (hf : fresh Al f) (hop : o.op = .makeSlice t x y) (he : (step T E o f).exec s rs = some (u, rs')) : Done P B (Nu Al f) (s.up u) o a w := by
  simp only [step, hop] at he
  cases hel : elemTy T t with
  | none => rw [hel] at he; simp [RP.exec] at he
  | some e =>
    rw [hel] at he
    simp only at he
    obtain ⟨hby, he⟩ := exec_bif' he
    obtain ⟨v1, rs1, h1, k1, -⟩ := opd_exec h he
    obtain ⟨v2, rs2, h2, k2, -⟩ := opd_exec h h1
    clear he h1
    split at h2 <;> try (simp [RP.exec] at h2; done)
    rename_i ka n kb m
    obtain ⟨c1, h2⟩ := exec_chk h2
    obtain ⟨c2, h2⟩ := exec_chk h2
    rw [out_exec h2]
    have e1 : a.eval x = .int ka n := k1.2
    have e2 : a.eval y = .int kb m := k2.2
    have c1 : n = m := by simpa using c1
    subst c1
    simp only [Bool.and_eq_true, decide_eq_true_eq] at c2
    obtain ⟨el, hu, ht⟩ := elem_kind hT hel
    have hpl := elem_plain hT hel
    obtain ⟨i, z, q1, q2, q3, q4, q5⟩ := nth_zero ht
    have hz : z.cells = (zeroVals e).toArray := by apply Array.ext'; rw [q5]
    have hpos : 0 < elemBytes T t := Nat.pos_of_ne_zero fun h0 => by simp [h0] at hby
    have hb : (elemBytes T t : Int) * n ≤ 140737488355328 := c2.2
    have hn : n ≤ 140737488355328 := by
      have : (1 : Int) * n ≤ (elemBytes T t : Int) * n := Int.mul_le_mul_of_nonneg_right (by omega) c2.1
      omega
    have hrun := run_make (P := P) w t el i z hu q1 q4 ka kb n n c2.1 (Int.le_refl _) (by rw [q3]; omega) (by omega)
    have hcells : madeCells z.cells (n.toNat * i.size) = (List.replicate n.toNat (zeroVals e)).flatten.toArray := by
      apply Array.ext'
      have := range_mod (zeroVals e) (by rw [zeroVals_len]; exact e.pos) n.toNat
      rw [zeroVals_len] at this
      rw [q2, ← this, hz]
      simp [madeCells]
    rw [hcells] at hrun
    obtain ⟨W', hR⟩ := h.newRow (Al' := Nu Al f) (ids := []) (g := w.heap.size) (c := n.toNat) (fp := []) (fr := []) (t := e) (xs := List.replicate n.toNat e.zero)
      (w' := w.alloc (.cells (List.replicate n.toNat (zeroVals e)).flatten.toArray el)) hf.one (fun i hi => .inl hi) Nu.new hd (by simp) (by simp) (by simp) (by simp) (by simp) (.inl rfl)
      (fun b hb _ => heap_alloc_old w _ b hb) (by simp) ⟨(List.replicate n.toNat (zeroVals e)).flatten, [], el, by rw [List.append_nil]; exact heap_alloc_new w _, by simp [zeroVals_len], by simp, ChO_replicate e hpl _⟩ rfl rfl rfl
    intro K Q hK
    unfold Oper.wp
    simp only [execOp, hop, e1, e2, Sem.run_bind, hrun, Result.andThen_ok, Sem.run_pure]
    exact hK _ _ ⟨W', by simpa [gone] using hR⟩

theorem imp_nil {α : Type} {r : α × List Key} : ∀ (t : Ty) (K : t.den → List Sc → List Nat → RP α) (rs : List Key), (imp t [] K).exec s rs = some r → False
  | .pair a _, _, _, h => imp_nil a _ _ h
  | .int _, _, _, h => by simp [imp, RP.exec] at h
  | .bool, _, _, h => by simp [imp, RP.exec] at h
  | .str, _, _, h => by simp [imp, RP.exec] at h
  | .sl _ _, _, _, h => by simp [imp, RP.exec] at h
  | .box _ _, _, _, h => by simp [imp, RP.exec] at h

theorem imp_undef {α : Type} {r : α × List Key} {c : Sc} (hc : isUndef c = true) : ∀ (t : Ty) (l : List Sc) (K : t.den → List Sc → List Nat → RP α) (rs : List Key), (imp t (c :: l) K).exec s rs = some r → False
  | .pair a _, l, _, _, h => imp_undef hc a l _ _ h
  | .int _, _, _, _, h => by cases c <;> first | (simp [isUndef] at hc; done) | simp [imp, RP.exec] at h
  | .bool, _, _, _, h => by cases c <;> first | (simp [isUndef] at hc; done) | simp [imp, RP.exec] at h
  | .str, _, _, _, h => by cases c <;> first | (simp [isUndef] at hc; done) | simp [imp, RP.exec] at h
  | .sl _ _, _, _, _, h => by cases c <;> first | (simp [isUndef] at hc; done) | simp [imp, RP.exec] at h
  | .box _ _, _, _, _, h => by cases c <;> first | (simp [isUndef] at hc; done) | simp [imp, RP.exec] at h

theorem AVr.impCells {v : AV} {x : Value} (h : AVr w W s.ob v x) {α : Type} {r : α × List Key} {t : Ty} {K : t.den → List Sc → List Nat → RP α} {rs : List Key} (he : (imp t (Go.Rf.cells v) K).exec s rs = some r) :
    All2 (Vs w W s.ob) (Go.Rf.cells v) x.cells.toList := by
  cases v with
  | one c =>
    have hc : isUndef c = false := by
      cases hc : isUndef c with
      | false => rfl
      | true => exact (imp_undef hc t [] K rs he).elim
    have h1 : x.oneCell' = true := h.1 hc
    have : x.cells = #[x] := by cases x <;> first | rfl | (simp [Value.oneCell'] at h1)
    rw [this]
    exact ⟨x, [], rfl, h, rfl⟩
  | agg l =>
    obtain ⟨vs, e, p⟩ := h
    subst e
    exact p
  | tup l => exact (imp_nil t K rs he).elim

/-- Elements out of operands. -/
theorem elems_exec (h : Rel B Al s a w W) {α : Type} {r : α × List Key} (t : Ty) : ∀ (vs : List AV) (us : List Value) (K : List t.den → List Nat → RP α) (rs : List Key), opsRel w W s.ob Al vs us →
    (elems t vs K).exec s rs = some r →
    ∃ xs ids rs2 fp fr, (K xs ids).exec s rs2 = some r ∧ ChO (Ow w (plus W.I fr) t) xs (us.flatMap fun u => u.cells.toList) fp ∧ (blk W ids).Perm (fp ++ fr) ∧ (∀ i ∈ ids, (s.ob i).isSome = true) ∧ xs.length = us.length ∧ ∀ u ∈ us, u.cells.size = t.size
  | [], us, K, rs, hv, he => by
    have hv : us = [] := hv
    subst hv
    exact ⟨[], [], rs, [], [], he, ⟨rfl, rfl⟩, List.Perm.refl _, by simp, rfl, by simp⟩
  | v :: vs, us, K, rs, ⟨u, us', e, p, hv⟩, he => by
    subst e
    simp only [elems] at he
    have hl := AVr.impCells p.1 he
    obtain ⟨x, l2, i, rs2, cs, vs2, fp, fr, q1, q2, q3, q4, q5, _, q7⟩ := imp_exec h t _ _ _ _ hl he
    split at q2 <;> try (simp [RP.exec] at q2; done)
    have q3 : vs2 = [] := q3
    subst q3
    rw [List.append_nil] at q1
    obtain ⟨xs, j, rs3, fq, fs, r1, r2, r3, r4, r5, r6⟩ := elems_exec h t vs us' _ rs2 hv q2
    refine ⟨x :: xs, i ++ j, rs3, fp ++ fq, fr ++ fs, r1, ⟨u.cells.toList, _, fp, fq, rfl, rfl, ?_, ?_⟩, by rw [blk_append]; exact perm_two q5 r3, ?_, by simp [r5], ?_⟩
    · rw [q1]; exact Ow.mono (w := w) (fun b hb => hb.imp id fun h => List.mem_append_left _ h) (fun _ _ => rfl) t _ _ _ (fun _ _ => rfl) q4
    · exact ChO.mono _ _ _ (fun y ds f' _ k => Ow.mono (w := w) (fun b hb => hb.imp id fun h => List.mem_append_right _ h) (fun _ _ => rfl) t _ _ _ (fun _ _ => rfl) k) r2
    · intro k hk
      rcases List.mem_append.1 hk with hk | hk
      · exact q7 k hk
      · exact r4 k hk
    · intro u' hu'
      rcases List.mem_cons.1 hu' with k | k
      · subst k
        have := Ow.size t _ _ _ q4
        rw [← q1] at this
        simpa using this
      · exact r6 u' k

theorem consec : ∀ (l : List (Nat × Operand)) (i : Nat), isConsec i l = true → (l.map fun p => (p.1, a.eval p.2)) = ((l.map fun p => a.eval p.2).zipIdx i).map fun x => (x.2, x.1)
  | [], _, _ => rfl
  | (j, x) :: l, i, h => by
    simp only [isConsec, Bool.and_eq_true] at h
    have hj := (nEq_iff _ _).1 h.1
    subst hj
    simp only [List.map_cons, List.zipIdx_cons]
    rw [consec l (i + 1) h.2]

theorem flat_get (n : Nat) (hn : 0 < n) : ∀ (us : List Value) (k : Nat), (∀ u ∈ us, u.cells.size = n) → (us.flatMap fun u => u.cells.toList)[k]? = (us[k / n]?).bind fun u => u.cells[k % n]?
  | [], k, _ => by simp
  | u :: us, k, h => by
    have hu : u.cells.toList.length = n := by rw [Array.length_toList]; exact h u (List.mem_cons_self ..)
    simp only [List.flatMap_cons]
    rcases Nat.lt_or_ge k n with hk | hk
    · rw [List.getElem?_append_left (by rw [hu]; exact hk), Nat.div_eq_of_lt hk, Nat.mod_eq_of_lt hk]
      simp
    · rw [List.getElem?_append_right (by rw [hu]; exact hk), hu, flat_get n hn us (k - n) (fun u hu => h u (List.mem_cons_of_mem _ hu))]
      have e1 : k / n = (k - n) / n + 1 := by rw [← Nat.sub_add_cancel hk, Nat.add_div_right _ hn, Nat.sub_add_cancel hk]
      have e2 : k % n = (k - n) % n := Nat.mod_eq_sub_mod hk
      rw [e1, e2, List.getElem?_cons_succ]

theorem nodupB_iff : ∀ l, nodupB l = true → l.Nodup
  | [], _ => List.nodup_nil
  | m :: r, h => by
    simp only [nodupB, Bool.and_eq_true, Bool.not_eq_true'] at h
    refine List.nodup_cons.2 ⟨fun k => ?_, nodupB_iff r h.2⟩
    rw [(hasN_iff m r).2 k] at h
    simp at h

theorem Rel.blkNodup (h : Rel B Al s a w W) : ∀ ids : List Nat, ids.Nodup → (∀ i ∈ ids, (s.ob i).isSome = true) → (blk W ids).Nodup
  | [], _, _ => List.nodup_nil
  | i :: ids, hn, hi => by
    rw [List.nodup_cons] at hn
    show (fpOf W i ++ blk W ids).Nodup
    rw [List.nodup_append]
    refine ⟨h.nod i (hi i (List.mem_cons_self ..)), Rel.blkNodup h ids hn.2 (fun j hj => hi j (List.mem_cons_of_mem _ hj)), fun b hb c hc e => ?_⟩
    subst e
    obtain ⟨j, hj, hbj⟩ := mem_blk.1 hc
    exact h.dis i j (fun e => hn.1 (e ▸ hj)) (hi i (List.mem_cons_self ..)) (hi j (List.mem_cons_of_mem _ hj)) b hb hbj

/-- A new row in a new block. -/
theorem Rel.freshRow (h : Rel B Al s a w W) (hf : ¬ Al f) (hA : ∀ i, Al i → Al' i) (hf' : Al' f) {d : Option Nat} (hd : dstOk B d) {ids : List Nat} (hids : ∀ i ∈ ids, (s.ob i).isSome = true) (hnd : ids.Nodup)
    {t : Ty} {xs : List t.den} {c : Nat} {fp fr : List Nat} (hp : (blk W ids).Perm (fp ++ fr)) {ces rest : List Value} {e : TypeId} {w1 : World} (hw1 : w1.heap = w.heap) (ho : w1.os = w.os) (htp : w1.tape = w.tape) (hou : w1.output = w.output)
    (hc : (ces ++ rest).length = c * t.size) (hx : xs.length ≤ c) (hr : ChO (Ow w (plus W.I fr) t) xs ces fp) :
    ∃ W', Rel B Al' (s.up ⟨dl d (.one (.own f)), gone ids ++ [(f, some (.row t xs))]⟩) (a.put d (.slice (some ⟨w.heap.size, 0, none⟩) xs.length c)) (w1.alloc (.cells (ces ++ rest).toArray e)) W' := by
  have hall := h.blkNodup ids hnd hids
  have hpn : (fp ++ fr).Nodup := hp.nodup_iff.1 hall
  rw [List.nodup_append] at hpn
  have hlt : ∀ b, b ∈ fp ∨ b ∈ fr → b < w.heap.size := fun b hb => by
    obtain ⟨i, hi, hbi⟩ := mem_blk.1 (hp.mem_iff.2 (List.mem_append.2 hb))
    exact h.lt (hids i hi) b hbi
  have hsz : w1.heap.size = w.heap.size := by rw [hw1]
  have hold : ∀ b, b < w.heap.size → (w1.alloc (.cells (ces ++ rest).toArray e)).heap[b]? = w.heap[b]? := fun b hb => by rw [heap_alloc_old w1 _ b (by rw [hsz]; exact hb), hw1]
  refine h.newRow hf hA hf' hd hids (fr := fr) (fun b hb => mem_blk.1 (hp.mem_iff.2 (List.mem_append.2 hb))) (fun i hi b hb => List.mem_append.1 (hp.mem_iff.1 (mem_blk.2 ⟨i, hi, h.nfFp (hids i hi) hb⟩))) ?_ ?_ (.inl rfl)
    (fun b hb _ => hold b hb) (by simp [hsz]) ⟨ces, rest, e, ?_, hc, hx, ?_⟩ ho htp hou
  · refine List.nodup_cons.2 ⟨fun k => Nat.lt_irrefl _ (hlt _ (.inl k)), hpn.1⟩
  · intro b hb k
    rcases List.mem_cons.1 k with k | k
    · subst k; exact Nat.lt_irrefl _ (hlt _ (.inr hb))
    · exact hpn.2.2 b k b hb rfl
  · rw [← hsz]; exact heap_alloc_new w1 _
  · exact ChO.mono _ _ _ (fun x cs f' hf' k => Ow.mono (fun _ hb => hb) (fun b hb => hold b (hb.elim (h.bnd b) fun k => hlt b (.inr k))) t x cs f' (fun b hb => hold b (hlt b (.inl (hf' b hb)))) k) hr

theorem st_buildSlice {t n : Nat} {parts : Array (Nat × Operand)} (hT : TabOk P T) (h : Rel B Al s a w W) (hd : dstOk B o.dst) (hf : fresh Al f) (hop : o.op = .buildSlice t n parts) (he : (step T E o f).exec s rs = some (u, rs')) : Done P B (Nu Al f) (s.up u) o a w := by
  simp only [step, hop] at he
  cases hel : elemTy T t with
  | none => rw [hel] at he; simp [RP.exec] at he
  | some e =>
    rw [hel] at he
    simp only at he
    obtain ⟨hc, he⟩ := exec_bif he
    simp only [Bool.and_eq_true] at hc
    obtain ⟨⟨hc1, hc2⟩, hc3⟩ := hc
    have hc2 := (nEq_iff _ _).1 hc2
    have hc3 : n * e.size ≤ 16777216 := Nat.le_of_ble_eq_true hc3
    obtain ⟨vs, rs1, h1, k1⟩ := opds_exec h he
    obtain ⟨xs, ids, rs2, fp, fr, h2, q1, q2, q3, q4, q5⟩ := elems_exec h e vs _ _ _ k1 h1
    obtain ⟨hnd, h2⟩ := exec_chk h2
    rw [out_exec h2]
    obtain ⟨el, hu, ht⟩ := elem_kind hT hel
    obtain ⟨i, z, p1, p2, p3, p4, p5⟩ := nth_zero ht
    have hus : ((parts.toList.map (·.2)).map a.eval).length = n := by simp [hc2]
    generalize hU : (parts.toList.map (·.2)).map a.eval = us at *
    have hlen : (us.flatMap fun (u : Value) => u.cells.toList).length = n * e.size := by
      rw [ChO.len (fun x cs f k => Ow.size e x cs f k) _ _ _ q1, q4, hus]
    have hev : (parts.map fun (i, x) => (i, a.eval x)).toList = (us.zipIdx 0).map fun x => (x.2, x.1) := by
      rw [Array.toList_map]
      have := consec (a := a) parts.toList 0 hc1
      rw [← hU, List.map_map]
      exact this
    have hrun : (Instr.buildSlice t n (parts.map fun (i, x) => (i, a.eval x))).run P w = .ok (.slice (some ⟨w.heap.size, 0, none⟩) n n) (w.alloc (.cells ((us.flatMap fun (u : Value) => u.cells.toList) ++ []).toArray el)) := by
      rcases Nat.eq_zero_or_pos n with h0 | h0
      · have hun : us = [] := List.eq_nil_of_length_eq_zero (hus.trans h0)
        have hpn : (parts.map fun (i, x) => (i, a.eval x)) = #[] := by
          apply Array.ext'
          rw [hev, hun]
          rfl
        rw [hpn, hun, h0]
        simp [Instr.buildSlice, run_underlying hu, sizeOf, typeInfo, p1, Instr.fill, Go.newRow]
        congr 2
        apply Array.ext'
        simp
      · have hpos : ¬ n * i.size = 0 := by rw [p2]; have := e.pos; exact Nat.ne_of_gt (Nat.mul_pos h0 this)
        obtain ⟨r, g1, g2, g3⟩ := Great.fill_dense (s := e.size) e.pos us 0 ((Array.range (n * i.size)).map (z.cells[· % z.cells.size]!)) q5 (by simp [hus, p2])
        have hr : r = ((us.flatMap fun (u : Value) => u.cells.toList) ++ []).toArray := by
          apply Array.ext'
          apply List.ext_getElem?
          intro k
          rw [Array.getElem?_toList, g3 k, List.append_nil]
          simp only [Nat.zero_mul, Nat.zero_le, true_and, Nat.zero_add, Nat.sub_zero]
          have hfg := flat_get e.size e.pos us k q5
          split
          · rw [hfg]
          · rename_i hk
            rw [List.getElem?_eq_none (by rw [hlen, ← hus]; omega)]
            simp only [Array.getElem?_map]
            rw [Array.getElem?_eq_none (by simp [p2]; rw [← hus]; omega)]
            rfl
        rw [← hr]
        refine run_buildSlice w t el n _ r i z hu p1 p4 (by rw [p2]; omega) hpos ?_
        rw [hev, ← g1, p2]
    obtain ⟨W', hR⟩ := h.freshRow (Al' := Nu Al f) (c := n) (rest := []) (e := el) (w1 := w) hf.one (fun i hi => .inl hi) Nu.new hd q3 (nodupB_iff _ hnd) q2 rfl rfl rfl rfl (by rw [List.append_nil]; exact hlen) (by rw [q4, hus]; exact Nat.le_refl _) q1
    intro K Q hK
    unfold Oper.wp
    simp only [execOp, hop, Sem.run_bind, hrun, Result.andThen_ok, Sem.run_pure]
    refine hK _ _ ⟨W', ?_⟩
    rw [q4, hus] at hR
    exact hR
end
end Go.Rf
