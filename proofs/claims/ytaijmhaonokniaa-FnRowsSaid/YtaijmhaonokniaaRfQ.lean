/- store; append. -/
import Derived.Test.YtaijmhaonokniaaRfP
namespace Go.Rf
set_option linter.unusedVariables false
set_option linter.unusedSimpArgs false

section
variable {P : Program} {T : Tab} {E : Env} {B : Base} {Al Al' : Nat → Prop} {s s' : St} {a : Act} {w w' : World} {W W' : Wit} {o : Oper} {f : Nat}
  {ob ob' : Nat → Option Obj} {rs rs' : List Key} {u : Upd}

theorem defined_one : ∀ {l : List Sc} {vs : List Value}, defined l = true → All2 (Vs w W ob) l vs → ∀ v ∈ vs, v.oneCell' = true
  | [], _, _, h, v, hv => by rw [show _ = [] from h] at hv; simp at hv
  | c :: l, _, hd, ⟨u, r, e, p, h⟩, v, hv => by
    have hc : isUndef c = false ∧ defined l = true := by cases c <;> first | (simp [defined] at hd; done) | exact ⟨rfl, by simpa [defined] using hd⟩
    subst e
    rcases List.mem_cons.1 hv with k | k
    · subst k; exact p.1 hc.1
    · exact defined_one hc.2 h v k

theorem setRange_at {vs us : List Value} {C : List Value} {off n : Nat} (h : us.length = n) : C.take off ++ us ++ C.drop (off + n) = C.take off ++ us ++ C.drop (off + us.length) := by rw [h]

theorem ChO_set {I : Nat → Prop} {t : Ty} {xs : List t.den} {c1 c2 c3 : List Value} {f1 f2 f3 : List Nat} {i : Nat} (hi : i < xs.length) {y : t.den}
    (h1 : ChO (Ow w I t) (xs.take i) c1 f1) (h2 : Ow w I t y c2 f2) (h3 : ChO (Ow w I t) (xs.drop (i + 1)) c3 f3) : ChO (Ow w I t) (xs.set i y) (c1 ++ (c2 ++ c3)) (f1 ++ (f2 ++ f3)) := by
  have : xs.set i y = xs.take i ++ (y :: xs.drop (i + 1)) := by rw [List.set_eq_take_append_cons_drop, if_pos hi]
  rw [this]
  exact ChO.append _ _ _ _ _ _ h1 ⟨c2, c3, f2, f3, rfl, rfl, h2, h3⟩

theorem st_store {t : Nat} {x y : Operand} (hT : TabOk P T) (h : Rel B Al s a w W) (hd : dstOk B o.dst) (hop : o.op = .store t x y) (he : (step T E o f).exec s rs = some (u, rs')) : Done P B Al (s.up u) o a w := by
  simp only [step, hop] at he
  cases ht : lkp T t with
  | none => rw [ht] at he; simp [RP.exec] at he
  | some td =>
    rw [ht] at he
    simp only at he
    have hty := hT t td ht
    obtain ⟨v1, rs1, h1, k1, m1⟩ := opd_exec h he
    obtain ⟨v2, rs2, h2, k2, m2⟩ := opd_exec h h1
    clear he h1
    obtain ⟨hc, h5⟩ := exec_bif h2
    clear h2
    simp only [Bool.and_eq_true] at hc
    have hn := (nEq_iff _ _).1 hc.1
    have hl := k2.cells hc.2 (by rw [hn]; exact td.ty.pos)
    have h1c := defined_one hc.2 hl
    have hsz : (a.eval y).cells.size = td.ty.size := by have := hl.length; rw [hn] at this; simpa using this
    have run : ∀ (b off : Nat) (cur : Array Value) (e : TypeId), a.eval x = pt b off → w.heap[b]? = some (.cells cur e (0, 0)) → off + td.ty.size ≤ cur.size →
        (execOp a.eval o).run P w = .ok .skip (w.setRow b (cur.toList.take off ++ (a.eval y).cells.toList ++ cur.toList.drop (off + td.ty.size)).toArray) := by
      intro b off cur e ex hh hle
      have := run_storeVar_at (P := P) w (v := a.eval y) hty.tag.1 hsz hh hle h1c
      simp only [execOp, hop, ex, Instr.storeAt, pt, Instr.sureAddr, Sem.run_bind, Sem.run_pure, Result.andThen_ok, this]
    split at h5 <;> try (simp [RP.exec] at h5; done)
    · rename_i id off
      simp only [RP.exec] at h5
      split at h5 <;> try (simp [RP.exec] at h5; done)
      rename_i l ho
      obtain ⟨hle, h6⟩ := exec_bif h5
      have hle : off + td.ty.size ≤ l.length := Nat.le_of_ble_eq_true hle
      rw [out_exec h6]
      obtain ⟨b, e, k⟩ := k1.2
      have hb := k l ho
      subst hb
      obtain ⟨_, _, vs, el, hh, hvs⟩ := h.var id l ho
      have hr := run _ off _ el e hh (by have := hvs.length; simp; omega)
      have hset := setRange_vs (off := off) hvs hl
      rw [Array.length_toList, hsz] at hset
      have hR := h.setVar ho hset (fun j hj => (setRange_men hj).elim (h.mO id l ho j) fun k => m2 j (cells_men k)) hd undef
      intro K Q hK
      unfold Oper.wp
      rw [hr]
      exact hK _ _ ⟨W, hR⟩
    · rename_i id i off
      simp only [RP.exec] at h5
      split at h5 <;> try (simp [RP.exec] at h5; done)
      rename_i t' xs ho
      obtain ⟨b, o', e, k⟩ := k1.2
      obtain ⟨hi, rfl, rfl⟩ := k t' xs ho
      obtain ⟨_, hi⟩ := inB_lt hi
      have hS : (s.ob id).isSome = true := by rw [ho]; rfl
      rcases h.row id t' xs ho with ⟨_, e0, _⟩ | ⟨hnl, ces, rest, el, q1, q2, q3, q4⟩
      · rw [e0] at hi; exact absurd hi (Nat.not_lt_zero _)
      obtain ⟨c1, c2, c3, f1, f2, f3, p1, p2, p3, p4, p5⟩ := ChO.at xs ces (W.nf id) i.toNat hi q4
      rw [getD_at _ _ _ hi] at h5
      obtain ⟨y', ids, rs3, fp', fr, r1, r2, r3, r4, r5⟩ := wr_exec h t' _ off _ _ _ _ c2 f2 hl p3 h5
      obtain ⟨hnd, r1⟩ := exec_chk r1
      have hnd := nodupB_iff _ hnd
      rw [List.nodup_cons] at hnd
      rw [out_exec r1]
      have hc1 : c1.length = i.toNat * t'.size := by
        rw [ChO.len (fun x cs f => Ow.size t' x cs f) _ _ _ p4, List.length_take, Nat.min_eq_left (Nat.le_of_lt hi)]
      have hc2 := Ow.size t' _ _ _ p3
      rw [Array.length_toList, hsz] at r5
      have hr := run (W.η id) (i.toNat * t'.size + off) _ el e q1 (by rw [p1]; simp [hc1]; omega)
      have hcells : (ces ++ rest).toArray.toList.take (i.toNat * t'.size + off) ++ (a.eval y).cells.toList ++ (ces ++ rest).toArray.toList.drop (i.toNat * t'.size + off + td.ty.size) =
          (c1 ++ ((c2.take off ++ (a.eval y).cells.toList ++ c2.drop (off + (a.eval y).cells.toList.length)) ++ c3)) ++ rest := by
        rw [p1, Array.length_toList, hsz, ← hc1]
        have e1 : (c1 ++ (c2 ++ c3) ++ rest).take (c1.length + off) = c1 ++ c2.take off := by
          rw [List.append_assoc, List.take_append, List.take_of_length_le (by omega)]
          congr 1
          rw [Nat.add_sub_cancel_left, List.append_assoc, List.take_append_of_le_length (by omega)]
        have e2 : (c1 ++ (c2 ++ c3) ++ rest).drop (c1.length + off + td.ty.size) = c2.drop (off + td.ty.size) ++ (c3 ++ rest) := by
          rw [List.append_assoc, List.drop_append, List.drop_eq_nil_of_le (by omega), List.nil_append, List.append_assoc, Nat.add_assoc, Nat.add_sub_cancel_left, List.drop_append_of_le_length (by omega)]
        show (c1 ++ (c2 ++ c3) ++ rest).take _ ++ _ ++ (c1 ++ (c2 ++ c3) ++ rest).drop _ = _
        rw [e1, e2]
        simp [List.append_assoc]
      rw [hcells] at hr
      have hperm : (W.nf id ++ blk W ids).Perm ((f1 ++ (fp' ++ f3)) ++ fr) := by
        rw [p2]
        -- f1 ++ (f2 ++ f3) ++ blk ~ f1 ++ f3 ++ (f2 ++ blk)
        refine (?_ : (f1 ++ (f2 ++ f3) ++ blk W ids).Perm ((f1 ++ f3) ++ (f2 ++ blk W ids))).trans ((List.Perm.append_left _ r3).trans ?_)
        · simp only [List.append_assoc]
          exact List.Perm.append_left f1 (perm_swap3 f2 f3 _)
        · simp only [List.append_assoc]
          exact List.Perm.append_left f1 (perm_swap3 f3 fp' fr)
      have hids : ∀ j ∈ id :: ids, (s.ob j).isSome = true := by
        intro j hj
        rcases List.mem_cons.1 hj with k | k
        · subst k; exact hS
        · exact r4 j k
      have hall := h.blkNodup (id :: ids) (List.nodup_cons.2 hnd) hids
      have hblk : blk W (id :: ids) = W.η id :: (W.nf id ++ blk W ids) := by
        show fpOf W id ++ blk W ids = _
        simp [fpOf, hnl]
      rw [hblk] at hall
      have hperm2 := List.Perm.cons (W.η id) hperm
      have hnd3 := hperm2.nodup_iff.1 hall
      rw [List.nodup_cons, List.nodup_append] at hnd3
      obtain ⟨n1, n2, n3, n4⟩ := hnd3
      have hI : ∀ b, plus W.I fr b → b ≠ W.η id := by
        rintro b (k | k) rfl
        · exact h.imm id hS _ (η_fp hnl) k
        · exact n1 (List.mem_append_right _ k)
      have hkeep : ∀ b, b ≠ W.η id → (w.setRow (W.η id) ((c1 ++ ((c2.take off ++ (a.eval y).cells.toList ++ c2.drop (off + (a.eval y).cells.toList.length)) ++ c3)) ++ rest).toArray).heap[b]? = w.heap[b]? := fun b hb => setRow_other w _ b _ hb
      obtain ⟨W', hR⟩ := h.putRow (f := id) (ids := id :: ids) (n0 := false) (g := W.η id) (c := W.cp id) (fp := f1 ++ (fp' ++ f3)) (fr := fr) (t := t') (xs := xs.set i.toNat y') (Al' := Al)
        (w' := w.setRow (W.η id) ((c1 ++ ((c2.take off ++ (a.eval y).cells.toList ++ c2.drop (off + (a.eval y).cells.toList.length)) ++ c3)) ++ rest).toArray)
        (fun _ hi => hi) (h.al id hS) hids (.inr ⟨by simp, xs, ho, by simp, rfl, rfl, hnl.symm⟩)
        (fun b hb => by
          have hb2 : b ∈ W.nf id ++ blk W ids := hperm.mem_iff.2 (List.mem_append.2 hb)
          rcases List.mem_append.1 hb2 with k | k
          · exact ⟨id, by simp, h.nfFp hS k⟩
          · obtain ⟨j, hj, k⟩ := mem_blk.1 k; exact ⟨j, List.mem_cons_of_mem _ hj, k⟩)
        (fun j hj b hb => by
          have hb2 : b ∈ W.nf id ++ blk W ids := by
            rcases List.mem_cons.1 hj with k | k
            · subst k; exact List.mem_append_left _ hb
            · exact List.mem_append_right _ (mem_blk.2 ⟨j, k, h.nfFp (r4 j k) hb⟩)
          exact List.mem_append.1 (hperm.mem_iff.1 hb2))
        (List.nodup_cons.2 ⟨fun k => n1 (List.mem_append_left _ k), n2⟩)
        (fun b hb k => by
          rcases List.mem_cons.1 k with k | k
          · subst k; exact n1 (List.mem_append_right _ hb)
          · exact n4 b k b hb rfl)
        (fun _ => .inr ⟨id, by simp, hnl, rfl⟩) (fun b _ hb => hkeep b (hb.resolve_left (by simp))) (by simp)
        (.inr ⟨rfl, _, rest, el, setRow_heap w _ _ _ el _ q1, by
            rw [← q2, p1]
            simp [hsz]
            omega, by simpa using q3, by
            refine ChO.mono (R := Ow w (plus W.I fr) t') _ _ _ (fun x cs f' hf' k => Ow.mono (fun _ hb => hb) (fun b hb => hkeep b (hI b hb)) t' x cs f' (fun b hb => hkeep b fun e => n1 (e ▸ List.mem_append_left _ (hf' b hb))) k) ?_
            refine ChO_set hi ?_ r2 ?_
            · exact ChO.mono _ _ _ (fun x cs f' _ k => Ow.mono (w := w) (fun b hb => .inl hb) (fun _ _ => rfl) t' x cs f' (fun _ _ => rfl) k) p4
            · exact ChO.mono _ _ _ (fun x cs f' _ k => Ow.mono (w := w) (fun b hb => .inl hb) (fun _ _ => rfl) t' x cs f' (fun _ _ => rfl) k) p5⟩)
        rfl rfl rfl (ob' := updS s.ob (gone ids ++ [(id, some (.row t' (xs.set i.toNat y')))])) (fun j => by
          rw [updS_gone]
          by_cases hj : j = id
          · rw [if_pos hj, if_pos hj]
          · rw [if_neg hj, if_neg hj]; simp [hj])
      intro K Q hK
      unfold Oper.wp
      rw [hr]
      exact hK _ _ ⟨W', hR o.dst (.one .undef) undef hd (.inr rfl)⟩
end
end Go.Rf
