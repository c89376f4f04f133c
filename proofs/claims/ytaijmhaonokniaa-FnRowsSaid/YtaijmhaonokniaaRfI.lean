/- The rest of the operations that leave the heap as it was. -/
import Derived.Test.YtaijmhaonokniaaRfH
namespace Go.Rf
set_option linter.unusedVariables false
set_option linter.unusedSimpArgs false

section
variable {P : Program} {T : Tab} {E : Env} {B : Base} {Al : Nat → Prop} {s : St} {a : Act} {w : World} {W : Wit} {o : Oper} {f : Nat}
  {rs rs' : List Key} {u : Upd}

theorem st_unOp {op : UnOp} {t : Nat} {x : Operand} (h : Rel B Al s a w W) (hd : dstOk B o.dst) (hop : o.op = .unOp op t x) (he : (step T E o f).exec s rs = some (u, rs')) : Done P B Al (s.up u) o a w := by
  simp only [step, hop] at he
  obtain ⟨v1, rs1, h1, k1, -⟩ := opd_exec h he
  split at h1
  · rename_i b
    have e1 : a.eval x = .bool b := k1.2
    cases op <;> try (simp [RP.exec] at h1; done)
    rw [out_exec0 h1]
    exact done_flat h hd rfl (by simp [execOp, hop, e1, Op.unary])
  · rename_i k n
    have e1 : a.eval x = .int k n := k1.2
    cases op <;> try (simp [RP.exec] at h1; done)
    all_goals
      rw [out_exec0 h1]
      exact done_flat h hd rfl (by simp [execOp, hop, e1, Op.unary, Op.intArith, Op.intBits, bits])
  · simp [RP.exec] at h1

theorem TypeOk.und {t : Nat} {td : TD} (h : TypeOk P T t td) : ∃ d, P.underlying t = some d := by
  have := h.aggD
  cases e : P.underlying t with
  | none => rw [e] at this; simp at this
  | some d => exact ⟨d, rfl⟩

theorem foldl_push : ∀ (xs : List Int) (b : ByteArray), xs.foldl (fun r n => r.push (UInt8.ofNat n.toNat)) b = ⟨(b.data.toList ++ strOf xs).toArray⟩
  | [], b => by simp [strOf]
  | x :: xs, b => by
    rw [List.foldl_cons, foldl_push xs]
    simp [strOf, ByteArray.push]

theorem ch_bytes : ∀ (xs : List Int) (cs : List Value), Ch (α := Int) (Rd w (fun _ => True) (.int .u8)) xs cs → cs = xs.map (Value.int .u8)
  | [], _, h => h
  | _ :: xs, _, ⟨c1, c2, e, r, h⟩ => by rw [e, show c1 = _ from r, ch_bytes xs c2 h]; rfl

theorem st_convert {t1 t2 : Nat} {x : Operand} (hT : TabOk P T) (h : Rel B Al s a w W) (hd : dstOk B o.dst) (hop : o.op = .convert t1 t2 x) (he : (step T E o f).exec s rs = some (u, rs')) : Done P B Al (s.up u) o a w := by
  simp only [step, hop] at he
  cases ht1 : lkp T t1 with
  | none => rw [ht1] at he; simp [RP.exec] at he
  | some td1 =>
    cases ht2 : lkp T t2 with
    | none => rw [ht1, ht2] at he; simp [RP.exec] at he
    | some td2 =>
      rw [ht1, ht2] at he
      simp only at he
      have y1 := hT _ _ ht1
      have y2 := hT _ _ ht2
      have kk2 := y2.kind
      obtain ⟨d1, hu1⟩ := y1.und
      obtain ⟨v1, rs1, h1, k1, -⟩ := opd_exec h he
      clear he
      split at h1
      · rename_i k n k2 hty
        have e1 : a.eval x = .int k n := k1.2
        rw [hty] at kk2
        have kk2 : P.underlying t2 = some (.int k2) := kk2
        rw [out_exec0 h1]
        exact done_flat h hd rfl (by simp [execOp, hop, e1, convert, run_underlying hu1, run_underlying kk2, Conv.intToInt])
      · rename_i b hty
        have e1 : a.eval x = .string ⟨b.toArray⟩ := k1.2
        rw [hty] at kk2
        have kk2 : P.underlying t2 = some .string := kk2
        rw [out_exec0 h1]
        exact done_flat h hd rfl (by simp [execOp, hop, e1, convert, run_underlying hu1, run_underlying kk2])
      · rename_i c hns hty
        rw [hty] at kk2
        have kk2 : P.underlying t2 = some .string := kk2
        have kk1 := y1.kind
        split at h1
        · rename_i m hty1
          rw [hty1] at kk1
          obtain ⟨el, hel, kk1, _⟩ := kk1
          obtain ⟨hu8, h1⟩ := exec_bif' h1
          have hu8 : isU8 T td1.elem = true := by simpa using hu8
          have hel8 : P.underlying el = some (.int .u8) := by
            rw [hel] at hu8
            simp only [isU8] at hu8
            split at hu8
            · rename_i td3 h3
              split at hu8
              · rename_i h4
                have := (hT _ _ h3).kind
                rw [h4] at this
                exact this
              · simp at hu8
            · simp at hu8
          obtain ⟨xs, l2, ids, sf, rs2, cs, vs2, e, h2, hl2, hrd, _, _⟩ := see_exec h (.sl false (.int .u8)) [c] [a.eval x] _ _ ⟨_, _, rfl, k1, rfl⟩ h1
          split at h2 <;> try (simp [RP.exec] at h2; done)
          rw [out_exec0 h2]
          have hl2 : vs2 = [] := hl2
          subst hl2
          obtain ⟨A, cp, e', hc, hr⟩ := hrd
          rw [List.append_nil, e', List.cons.injEq] at e
          have e1 := e.1
          refine done_flat h hd rfl ?_
          have conv : (Conv.bytesToString (.slice A (List.length (α := Int) xs) cp)).run P w = .ok (.string ⟨(strOf xs).toArray⟩) w := by
            rcases hr with hr | ⟨ad, C, el', fr, pre, ces, post, q1, q2, q3, q4, q5, q6, q7⟩
            · have hr : (show List Int from xs) = [] := hr
              have : xs = ([] : List Int) := hr
              subst this
              cases A with
              | none => simp [Conv.bytesToString, strOf]; rfl
              | some ad =>
                have := run_bytesToString (P := P) w ad 0 cp [] (by simpa using run_loadCells_list (P := P) w ad [] (by simp))
                exact this
            · subst q1
              have hces := ch_bytes xs ces (Ch.mono (fun x cs h => Rd.mono (fun _ _ => trivial) (fun _ _ => rfl) (.int .u8) x cs h) _ _ q7)
              have hat : At w ad.block ad.off ces := ⟨C, el', fr, pre, post, q4, q5, q6⟩
              have had : ad = ⟨ad.block, ad.off, none⟩ := by cases ad; simp at q2; subst q2; rfl
              have hl := run_loadCells_list (P := P) w ad ces (fun j v hv => by rw [had, add_at]; exact hat.cell j v hv)
              have hlen : ces.length = List.length (α := Int) xs := by rw [hces]; exact List.length_map _
              rw [hlen, hces] at hl
              have := run_bytesToString (P := P) w ad (List.length (α := Int) xs) cp xs hl
              exact this.trans (congrArg (fun b => Result.ok (Value.string b) w) (foldl_push xs ByteArray.empty))
          simp [execOp, hop, e1, convert, run_underlying kk1, run_underlying kk2, run_underlying hel8]
          exact congrArg (fun r : Result Value => r.andThen fun a w' => Result.ok (Next.value a) w') conv
        · simp [RP.exec] at h1
      · simp [RP.exec] at h1

theorem elem_plain {t : Nat} {e : Ty} (hT : TabOk P T) (h : elemTy T t = some e) : e.plain = true := by
  unfold elemTy at h
  split at h
  · rename_i td ht
    split at h
    · rename_i m e' hty
      simp only [Option.some.injEq] at h
      subst h
      have := (hT _ _ ht).plain
      rw [hty] at this
      exact this
    · simp at h
  · simp at h

theorem elem_kind {t : Nat} {e : Ty} (hT : TabOk P T) (h : elemTy T t = some e) : ∃ el, P.underlying t = some (.slice el) ∧ TagOk P el e.size (elemBytes T t) (zeroVals e) := by
  unfold elemTy at h
  split at h
  · rename_i td ht
    split at h
    · rename_i m e' hty
      simp only [Option.some.injEq] at h
      subst h
      have := (hT _ _ ht).kind
      rw [hty] at this
      obtain ⟨el, _, k1, k2⟩ := this
      exact ⟨el, k1, k2⟩
    · simp at h
  · simp at h

theorem str_kind {t : Nat} (hT : TabOk P T) (h : isStr T t = true) : P.underlying t = some .string := by
  unfold isStr at h
  split at h
  · rename_i td ht
    split at h
    · rename_i hty
      have := (hT _ _ ht).kind
      rw [hty] at this
      exact this
    · simp at h
  · simp at h

def optV : Option Int → Option Value → Prop
  | none, none => True
  | some n, some v => ∃ kd, v = .int kd n
  | _, _ => False

def hiOk (n : Nat) : Option Int → Prop
  | none => True
  | some h => 0 ≤ h ∧ h ≤ n

def loOk (m : Int) : Option Int → Prop
  | none => True
  | some l => 0 ≤ l ∧ l ≤ m

theorem optInt_exec (h : Rel B Al s a w W) {α : Type} {x : Option Operand} {k : Option Int → RP α} {r : α × List Key} (he : (optInt x k).exec s rs = some r) :
    ∃ n rs2, (k n).exec s rs2 = some r ∧ optV n (x.map a.eval) := by
  unfold optInt at he
  cases x with
  | none => exact ⟨none, rs, he, trivial⟩
  | some x =>
    obtain ⟨v1, rs1, h1, k1, -⟩ := opd_exec h he
    split at h1
    · rename_i kd n
      exact ⟨some n, rs1, h1, kd, k1.2⟩
    · simp [RP.exec] at h1

theorem bounds_exec {α : Type} {n : Nat} {l h : Option Int} {k : RP α} {r : α × List Key} (he : (sliceBounds n l h k).exec s rs = some r) :
    k.exec s rs = some r ∧ hiOk n h ∧ loOk (h.getD n) l := by
  unfold sliceBounds at he
  cases l <;> cases h <;> simp only at he
  · exact ⟨he, trivial, trivial⟩
  · obtain ⟨c, he⟩ := exec_chk he; simp only [Bool.and_eq_true, decide_eq_true_eq] at c; exact ⟨he, c, trivial⟩
  · obtain ⟨c, he⟩ := exec_chk he; simp only [Bool.and_eq_true, decide_eq_true_eq] at c; exact ⟨he, trivial, c⟩
  · obtain ⟨c, he⟩ := exec_chk he; obtain ⟨c', he⟩ := exec_chk he; simp only [Bool.and_eq_true, decide_eq_true_eq] at c c'; exact ⟨he, c, c'⟩

theorem run_bounds {isS : Bool} {n c : Nat} {l h : Option Int} {lo hi : Option Value} (hnc : n ≤ c)
    (hl : optV l lo) (hh : optV h hi) (b1 : hiOk n h) (b2 : loOk (h.getD n) l) :
    (Instr.sliceBounds isS n c lo hi none).run P w = .ok ((l.map Int.toNat).getD 0, (h.map Int.toNat).getD n, c) w := by
  cases l <;> cases lo <;> try (exact hl.elim)
  all_goals
    cases h <;> cases hi <;> try (exact hh.elim)
  · simp [Instr.sliceBounds]
  · obtain ⟨kd, rfl⟩ := hh
    rename_i z
    simp only [hiOk] at b1
    have : (0 : Int) ≤ z ∧ z ≤ (c : Int) := ⟨b1.1, Int.le_trans b1.2 (Int.ofNat_le.2 hnc)⟩
    simp [Instr.sliceBounds, Instr.sliceBound, asIntOf, this]
  · obtain ⟨kd, rfl⟩ := hl
    simp only [Option.getD_none, loOk] at b2
    simp [Instr.sliceBounds, Instr.sliceBound, asIntOf, b2]
  · obtain ⟨kd, rfl⟩ := hl
    obtain ⟨kd', rfl⟩ := hh
    simp only [Option.getD_some, loOk, hiOk] at b1 b2
    rename_i z
    have h1 : (0 : Int) ≤ z ∧ z ≤ (c : Int) := ⟨b1.1, Int.le_trans b1.2 (Int.ofNat_le.2 hnc)⟩
    have hm : max z 0 = z := by omega
    have h2 := b2
    simp [Instr.sliceBounds, Instr.sliceBound, asIntOf, h1, hm, h2]

theorem cut_len {α : Type} (l h : Option Int) (xs : List α) (b1 : hiOk xs.length h) (b2 : loOk (h.getD xs.length) l) :
    (cut (l.map Int.toNat) (h.map Int.toNat) xs).length = (h.map Int.toNat).getD xs.length - (l.map Int.toNat).getD 0 := by
  rw [cut_eq]
  cases l <;> cases h <;> simp [hiOk, loOk] at * <;> omega

theorem st_field {t j : Nat} {x : Operand} (hT : TabOk P T) (h : Rel B Al s a w W) (hd : dstOk B o.dst) (hop : o.op = .field t x j) (he : (step T E o f).exec s rs = some (u, rs')) : Done P B Al (s.up u) o a w := by
  simp only [step, hop] at he
  cases ht : lkp T t with
  | none => rw [ht] at he; simp [RP.exec] at he
  | some td =>
    rw [ht] at he
    simp only at he
    cases hj : td.flds[j]? with
    | none => rw [hj] at he; simp [RP.exec] at he
    | some p =>
      obtain ⟨off, n, g⟩ := p
      rw [hj] at he
      simp only at he
      obtain ⟨v, rs2, h1, h2, h3⟩ := opd_exec h he
      have hag : td.agg = true := by
        cases e : td.agg with
        | true => rfl
        | false => have := ((hT t td ht).nagg e).2; rw [this] at hj; simp at hj
      obtain ⟨fs, hf1, hf2, hf3⟩ := (hT t td ht).agg hag
      obtain ⟨fd, k1, k2, k3, k4, k5⟩ := hf3 j off n g hj
      split at h1
      · rename_i l
        obtain ⟨vs, e, hl⟩ := h2
        obtain ⟨r, q1, q2, q3, q4, q5⟩ := mkAV_exec ((hl.drop off).take n) (fun j hj => h3 j (menL_drop (menL_take hj))) h1
        rw [out_exec0 q1]
        refine done_val h hd ?_ q2 q3
        have hp : (part fd.type vs.toArray off).run P w = .ok (mkV g ((vs.drop off).take n)) w := by
          unfold part
          rw [Sem.run_bind, run_agg w k5, Result.andThen_ok]
          cases g with
          | true =>
            simp only [if_true, Sem.run_bind, run_size w k3, Result.andThen_ok, Sem.run_pure, mkV]
            congr 2
            apply Array.ext'
            simp [List.take_drop, Nat.add_comm]
          | false =>
            have hn1 := q5 rfl
            subst hn1
            simp only [Bool.false_eq_true, if_false, List.getElem?_toArray, mkV]
            have : vs[off]? = some (((vs.drop off).take 1).getD 0 undef) := by
              have hlen : off < vs.length := by simp at q4; omega
              simp [List.getD, hlen]
            rw [this]
            simp
        have : (Instr.field t (.agg vs.toArray) j).run P w = .ok (mkV g ((vs.drop off).take n)) w := by
          unfold Instr.field
          rw [Sem.run_bind, run_underlying hf1, Result.andThen_ok]
          simp [k1, k2, asAgg, hp]
        simp only [execOp, hop, e, Sem.run_bind, this, Result.andThen_ok, Sem.run_pure]
      · simp [RP.exec] at h1

theorem st_index {t : Nat} {x y : Operand} (hT : TabOk P T) (h : Rel B Al s a w W) (hd : dstOk B o.dst) (hop : o.op = .index t x y) (he : (step T E o f).exec s rs = some (u, rs')) : Done P B Al (s.up u) o a w := by
  simp only [step, hop] at he
  obtain ⟨hs, he⟩ := exec_bif' he
  have hu := str_kind hT (show isStr T t = true by simpa using hs)
  obtain ⟨v1, rs1, h1, k1, -⟩ := opd_exec h he
  obtain ⟨v2, rs2, h2, k2, -⟩ := opd_exec h h1
  split at h2 <;> try (simp [RP.exec] at h2; done)
  rename_i kd i
  split at h2 <;> try (simp [RP.exec] at h2; done)
  rename_i b
  obtain ⟨c, h2⟩ := exec_chk h2
  rw [out_exec0 h2]
  have e1 : a.eval x = .string ⟨b.toArray⟩ := k1.2
  have e2 : a.eval y = .int kd i := k2.2
  obtain ⟨c0, c1⟩ := inB_lt c
  refine done_flat h hd rfl ?_
  have hg : (⟨b.toArray⟩ : ByteArray)[i.toNat]? = some (b.getD i.toNat 0) := by
    show (if _ : i.toNat < (⟨b.toArray⟩ : ByteArray).size then _ else _) = _
    rw [dif_pos (by simpa [ByteArray.size] using c1)]
    simp [List.getD, c1]
    rfl
  have : (Instr.index t (.string ⟨b.toArray⟩) (.int kd i)).run P w = .ok (.int .u8 (b.getD i.toNat 0).toNat) w := by
    simp [Instr.index, asIntOf, run_underlying hu, c0, hg]
  simp only [execOp, hop, e1, e2, Sem.run_bind, this, Result.andThen_ok, Sem.run_pure]

theorem st_extract {j : Nat} {x : Operand} (h : Rel B Al s a w W) (hd : dstOk B o.dst) (hop : o.op = .extract x j) (he : (step T E o f).exec s rs = some (u, rs')) : Done P B Al (s.up u) o a w := by
  simp only [step, hop] at he
  obtain ⟨v, rs1, h1, k1, hm⟩ := opd_exec h he
  split at h1
  · rename_i l
    obtain ⟨vs, e, hl⟩ := k1
    split at h1
    · rename_i cs hj
      rw [out_exec0 h1]
      obtain ⟨y, hy, us, e', p⟩ := hl.get j _ hj
      refine done_val h hd ?_ ⟨us, e', p⟩ (fun id hid => hm id ⟨_, List.mem_of_getElem? hj, hid⟩)
      simp [execOp, hop, e, Instr.extract, hy]
    · rename_i c hj
      rw [out_exec0 h1]
      obtain ⟨y, hy, p⟩ := hl.get j _ hj
      obtain ⟨b, r', e', p, p'⟩ := p
      simp only [List.cons.injEq] at e'
      obtain ⟨rfl, -⟩ := e'
      refine done_val h hd ?_ p (fun id hid => hm id ⟨_, List.mem_of_getElem? hj, c, by simp, hid⟩)
      simp [execOp, hop, e, Instr.extract, hy]
    · simp [RP.exec] at h1
  · simp [RP.exec] at h1
end
end Go.Rf
