/- More operations that leave the heap as it was. -/
import Derived.Test.YtaijmhaonokniaaRfF
namespace Go.Rf
set_option linter.unusedVariables false
set_option linter.unusedSimpArgs false

section
variable {P : Program} {T : Tab} {E : Env} {B : Base} {Al : Nat → Prop} {s : St} {a : Act} {w : World} {W : Wit} {o : Oper} {f : Nat}
  {rs rs' : List Key} {u : Upd}

theorem Ty.pos : ∀ t : Ty, 0 < t.size
  | .pair a b => Nat.add_pos_left (Ty.pos a) _
  | .int _ | .bool | .str | .sl _ _ | .box _ _ => Nat.one_pos

theorem TypeOk.one {t : Nat} {td : TD} (h : TypeOk P T t td) (hg : td.agg = false) : td.ty.size = 1 := by
  have hk := h.kind
  cases e : td.ty with
  | pair a b => rw [e] at hk; simp only at hk; rw [hk] at hg; simp at hg
  | _ => rfl

theorem TypeOk.aggD {t : Nat} {td : TD} (h : TypeOk P T t td) : (P.underlying t).map aggD = some td.agg := by
  cases e : td.agg with
  | false => exact (h.nagg e).1
  | true => obtain ⟨fs, h1, _⟩ := h.agg e; rw [h1]; rfl

theorem st_load {t : Nat} {x : Operand} (hT : TabOk P T) (h : Rel B Al s a w W) (hd : dstOk B o.dst) (hop : o.op = .load t x) (he : (step T E o f).exec s rs = some (u, rs')) : Done P B Al (s.up u) o a w := by
  simp only [step, hop] at he
  cases ht : lkp T t with
  | none => rw [ht] at he; simp [RP.exec] at he
  | some td =>
    rw [ht] at he
    simp only at he
    have hty := hT t td ht
    obtain ⟨v, rs2, h1, h2, h3⟩ := opd_exec h he
    have fin : ∀ (b o' : Nat) (l : List Sc) (vs : List Value) (rs3 : List Key), a.eval x = pt b o' → At w b o' vs → All2 (Vs w W s.ob) l vs → (∀ id, menL l id → Al id) →
        (mkAV td.agg td.ty.size l fun v => out o.dst v).exec s rs3 = some (u, rs') → Done P B Al (s.up u) o a w := by
      intro b o' l vs rs3 e hat hl hm hx
      obtain ⟨r, k1, k2, k3, k4, k5⟩ := mkAV_exec hl hm hx
      rw [out_exec0 k1]
      refine done_val h hd ?_ k2 k3
      have := run_loadVar_at (P := P) w hty.tag.1 hty.aggD k4 k5 hat
      simp only [execOp, hop, e, Instr.loadAt, pt, Instr.sureAddr, Sem.run_bind, Sem.run_pure, Result.andThen_ok, this]
    split at h1 <;> try (simp [RP.exec] at h1; done)
    · rename_i id off
      obtain ⟨b, e, k⟩ := h2.2
      simp only [RP.exec] at h1
      cases ho : s.ob id with
      | none => rw [ho] at h1; simp [RP.exec] at h1
      | some ob =>
        rw [ho] at h1
        cases ob with
        | row => simp [RP.exec] at h1
        | var l =>
          obtain ⟨_, _, vs, el, hh, hl⟩ := h.var id l ho
          rw [k l ho] at e
          simp only at h1
          have hn : ((l.drop off).take td.ty.size).length = td.ty.size := (nEq_iff _ _).1 (exec_bif h1).1
          have hpos := td.ty.pos
          refine fin _ _ _ ((vs.drop off).take td.ty.size) _ e ?_ ((hl.drop off).take _) (fun j hj => h.mO id l ho j (menL_drop (menL_take hj))) h1
          have hat : At w (W.η id) 0 vs := ⟨_, el, _, [], [], hh, by simp, rfl⟩
          have := hat.part off td.ty.size (by rw [hl.length]; simp only [List.length_take, List.length_drop] at hn; omega)
          rwa [Nat.zero_add] at this
    · rename_i id i off
      obtain ⟨b, o', e, k⟩ := h2.2
      simp only [RP.exec] at h1
      cases ho : s.ob id with
      | none => rw [ho] at h1; simp [RP.exec] at h1
      | some ob =>
        rw [ho] at h1
        cases ob with
        | var => simp [RP.exec] at h1
        | row t' xs =>
          obtain ⟨k1, rfl, rfl⟩ := k t' xs ho
          simp only at h1
          obtain ⟨cs, fp, hat, how, hfp, hcs⟩ := h.elem ho k1
          have hl := explode_ow (ob := s.ob) t' _ cs fp (fun b hb => .inr ⟨id, by rw [ho]; rfl, hfp b hb⟩) how
          have hn : (((explode true false t' (xs.getD i.toNat t'.zero)).drop off).take td.ty.size).length = td.ty.size := (nEq_iff _ _).1 (exec_bif h1).1
          have hpos := td.ty.pos
          exact fin _ _ _ _ _ e (hat.part off td.ty.size (by rw [hl.length]; simp only [List.length_take, List.length_drop] at hn; omega)) ((hl.drop off).take _)
            (fun j hj => (explode_men _ _ _ _ _ (menL_drop (menL_take hj))).elim) h1
    · rename_i sf t' xs i off
      obtain ⟨k1, A, C, el, fr, pre, ces, post, e, hJ, hh, hC, hpre, hch⟩ := h2.2
      obtain ⟨_, hi⟩ := inB_lt k1
      obtain ⟨c1, c2, c3, q1, q3, q4, q5⟩ := Ch.at xs ces i.toNat hi hch
      have hlen : c1.length = i.toNat * t'.size := by
        rw [Ch.len (fun x cs => Rd.size t' x cs) _ _ q4, List.length_take, Nat.min_eq_left (Nat.le_of_lt hi)]
      have hl := explode_rd (ob := s.ob) sf t' _ c2 q3
      rw [← getD_at xs t'.zero i.toNat hi] at hl
      have hat : At w A.block (A.off + i.toNat * t'.size) c2 := ⟨C, el, fr, pre ++ c1, c3 ++ post, hh, by rw [hC, q1]; simp, by simp [hlen, hpre]⟩
      have hn : (((explode false sf t' (xs.getD i.toNat t'.zero)).drop off).take td.ty.size).length = td.ty.size := (nEq_iff _ _).1 (exec_bif h1).1
      have hpos := td.ty.pos
      exact fin _ _ _ _ _ (by rw [e, Nat.add_assoc]) (hat.part off td.ty.size (by rw [hl.length]; simp only [List.length_take, List.length_drop] at hn; omega)) ((hl.drop off).take _)
            (fun j hj => (explode_men _ _ _ _ _ (menL_drop (menL_take hj))).elim) h1
    · rename_i sf t' x'
      have h2' : Rd w (if sf then W.J s.ob else W.I) (.box none t') x' [a.eval x] := h2.2
      obtain ⟨b, o', e, hr⟩ := h2'
      simp only [List.cons.injEq, and_true] at e
      rcases hr with hr | ⟨A, C, el, fr, pre, ces, post, h1', h2', h3', h4', h5', h6', h7'⟩
      · simp at hr
      · simp only [Option.some.injEq] at h1'
        subst h1'
        obtain ⟨c1, c2, q1, q2, q3⟩ := h7'
        have q3 : c2 = [] := q3
        subst q3
        rw [List.append_nil] at q1
        subst q1
        have hl := explode_rd (ob := s.ob) sf t' x' ces q2
        have hat : At w b o' ces := ⟨C, el, fr, pre, post, h4', h5', h6'⟩
        have hn : ((explode false sf t' x').take td.ty.size).length = td.ty.size := (nEq_iff _ _).1 (exec_bif h1).1
        have hpos := td.ty.pos
        have := hat.part 0 td.ty.size (by rw [hl.length]; simp only [List.length_take] at hn; omega)
        rw [Nat.add_zero, List.drop_zero] at this
        exact fin _ _ _ _ _ e this (hl.take _) (fun j hj => (explode_men _ _ _ _ _ (menL_take hj)).elim) h1

theorem kEq_iff {k k' : IntKind} (h : kEq k k' = true) : k = k' := by cases k <;> cases k' <;> first | rfl | (exact absurd h (by decide))

theorem Vs.mk {c : Sc} {v : Value} (h1 : v.oneCell' = true) (h2 : VsC w W s.ob c v) : AVr w W s.ob (.one c) v := ⟨fun _ => h1, h2⟩

/-- A result without a slice or an address. -/
def flatC : Sc → Option Value
  | .int k n => some (.int k n)
  | .bool b => some (.bool b)
  | .str s => some (.string ⟨s.toArray⟩)
  | _ => none

theorem done_flat (h : Rel B Al s a w W) (hd : dstOk B o.dst) {c : Sc} {v : Value} (hc : flatC c = some v) (hr : (execOp a.eval o).run P w = .ok (.value v) w) :
    Done P B Al (s.up ⟨dl o.dst (.one c), []⟩) o a w := by
  refine done_val h hd hr ?_ ?_
  · cases c <;> simp only [flatC, Option.some.injEq, reduceCtorEq] at hc <;> subst hc <;> exact ⟨fun _ => rfl, rfl⟩
  · intro id hid; cases c <;> simp only [flatC, reduceCtorEq] at hc <;> exact hid.elim

theorem toList_of (x : List UInt8) : (⟨x.toArray⟩ : ByteArray).toList = x := by rw [ByteArray.toList_eq]

theorem append_of (x y : List UInt8) : (⟨x.toArray⟩ ++ ⟨y.toArray⟩ : ByteArray) = ⟨(x ++ y).toArray⟩ := by
  apply ByteArray.ext
  rw [ByteArray.data_append]
  simp

theorem eqCells_sound : ∀ (l m : List Sc) (b : Bool) (vs us : List Value), eqCells l m = some b → All2 (Vs w W s.ob) l vs → All2 (Vs w W s.ob) m us → All2 flatS l vs ∧ All2 flatS m us := by
  have one : ∀ (a c : Sc) (b : Bool) (v u : Value), eqCells.eqSc a c = some b → Vs w W s.ob a v → Vs w W s.ob c u → flatS a v ∧ flatS c u := by
    intro a c b v u h h1 h2
    cases a <;> cases c <;> first | (simp [eqCells.eqSc] at h; done) | exact ⟨h1.2, h2.2⟩
  intro l
  induction l with
  | nil =>
    intro m b vs us h h1 h2
    cases m with
    | nil => exact ⟨h1, h2⟩
    | cons => simp [eqCells] at h
  | cons a r ih =>
    intro m b vs us h ⟨v, vs', e1, p1, h1⟩ h2
    cases m with
    | nil => cases r <;> simp [eqCells] at h
    | cons c r' =>
      obtain ⟨u, us', e2, p2, h2⟩ := h2
      have key : ∃ b1, eqCells.eqSc a c = some b1 ∧ ∃ b2, eqCells r r' = some b2 := by
        cases r with
        | nil =>
          cases r' with
          | nil => exact ⟨b, by simpa [eqCells] using h, true, rfl⟩
          | cons => simp only [eqCells] at h; split at h <;> simp_all
        | cons x y =>
          simp only [eqCells] at h
          split at h
          · rename_i h1 h2; exact ⟨_, h1, _, h2⟩
          · simp at h
      obtain ⟨b1, hb1, b2, hb2⟩ := key
      obtain ⟨k1, k2⟩ := one a c b1 v u hb1 p1 p2
      obtain ⟨k3, k4⟩ := ih r' b2 vs' us' hb2 h1 h2
      exact ⟨⟨v, vs', e1, k1, k3⟩, ⟨u, us', e2, k2, k4⟩⟩

theorem st_binOp {op : BinOp} {t t' : Nat} {x y : Operand} (hT : TabOk P T) (h : Rel B Al s a w W) (hd : dstOk B o.dst) (hop : o.op = .binOp op t x y t') (he : (step T E o f).exec s rs = some (u, rs')) : Done P B Al (s.up u) o a w := by
  simp only [step, hop] at he
  obtain ⟨v1, rs1, h1, k1, -⟩ := opd_exec h he
  obtain ⟨v2, rs2, h2, k2, -⟩ := opd_exec h h1
  have run : ∀ (c : Sc) (v : Value), flatC c = some v → (eqGuard op t x y (a.eval x) (a.eval y)).run P w = .ok () w → (binOp op t (a.eval x) (a.eval y)).run P w = .ok v w →
      Done P B Al (s.up ⟨dl o.dst (.one c), []⟩) o a w := fun c v hc hg hb =>
    done_flat h hd hc (by simp only [execOp, hop, Sem.run_bind, hg, hb, Result.andThen_ok, Sem.run_pure])
  unfold binop at h2
  split at h2
  · rename_i k n k' m
    have e1 : a.eval x = .int k n := k1.2
    have e2 : a.eval y = .int k' m := k2.2
    replace h2 := exec_bif h2
    obtain ⟨hk, h5⟩ := h2
    clear h1 he
    have hg : (eqGuard op t x y (a.eval x) (a.eval y)).run P w = .ok () w := by rw [e1, e2]; cases op <;> simp [eqGuard]
    cases op
    case shl =>
      obtain ⟨c, h5⟩ := exec_chk h5
      rw [out_exec0 h5]
      have c := of_decide_eq_true c
      refine run _ _ rfl hg ?_
      rw [e1, e2]
      simp [binOp, Op.shift, show ¬ m < 0 by omega]
    case shr =>
      obtain ⟨c, h5⟩ := exec_chk h5
      rw [out_exec0 h5]
      have c := of_decide_eq_true c
      refine run _ _ rfl hg ?_
      rw [e1, e2]
      simp [binOp, Op.shift, show ¬ m < 0 by omega]
    all_goals
      simp only [isShift, Bool.false_or] at hk
      have hk := kEq_iff hk
      subst hk
    case quo =>
      obtain ⟨c, h5⟩ := exec_chk h5
      rw [out_exec0 h5]
      refine run _ _ rfl hg ?_
      rw [e1, e2]
      simp [binOp, Op.intDiv, show ¬ m = 0 by simpa using c]
    case rem =>
      obtain ⟨c, h5⟩ := exec_chk h5
      rw [out_exec0 h5]
      refine run _ _ rfl hg ?_
      rw [e1, e2]
      simp [binOp, Op.intDiv, show ¬ m = 0 by simpa using c]
    all_goals
      rw [out_exec0 h5]
      refine run _ _ rfl hg ?_
      rw [e1, e2]
      simp [binOp, Op.intArith, Op.intCmp, Op.intBits, bits]
  · rename_i n m
    have e1 : a.eval x = .string ⟨n.toArray⟩ := k1.2
    have e2 : a.eval y = .string ⟨m.toArray⟩ := k2.2
    have hg : (eqGuard op t x y (a.eval x) (a.eval y)).run P w = .ok () w := by rw [e1, e2]; cases op <;> simp [eqGuard]
    cases op <;> try (simp [strOp, RP.exec] at h2; done)
    case add =>
      obtain ⟨c, h2⟩ := exec_chk h2
      rw [out_exec0 h2]
      have c := of_decide_eq_true c
      refine run _ _ rfl hg ?_
      rw [e1, e2]
      have : ¬ (((⟨n.toArray⟩ : ByteArray).size + (⟨m.toArray⟩ : ByteArray).size : Nat) : Int) > IntKind.i64.max := by
        simp only [ByteArray.size, List.size_toArray]
        have : IntKind.i64.max = 9223372036854775807 := by decide
        omega
      simp only [binOp, Op.stringOp, if_neg this, Sem.run_pure, append_of]
    all_goals
      rw [out_exec0 h2]
      refine run _ _ rfl hg ?_
      rw [e1, e2]
      simp only [binOp, Op.stringOp, Sem.run_pure, toList_of]
  · rename_i n m
    have e1 : a.eval x = .bool n := k1.2
    have e2 : a.eval y = .bool m := k2.2
    have hg : (eqGuard op t x y (a.eval x) (a.eval y)).run P w = .ok () w := by rw [e1, e2]; cases op <;> simp [eqGuard]
    cases ht : lkp T t with
    | none => rw [ht] at h2; simp [RP.exec] at h2
    | some td =>
      rw [ht] at h2
      simp only at h2
      have hk := (hT t td ht).kind
      cases hty : td.ty <;> rw [hty] at h2 hk <;> try (simp [RP.exec] at h2; done)
      have hk : P.underlying t = some .bool := hk
      cases op <;> try (simp [RP.exec] at h2; done)
      all_goals
        rw [out_exec0 h2]
        refine run _ _ rfl hg ?_
        rw [e1, e2]
        simp [binOp, Op.equal, Op.maxDepth, run_equalIn_bool' w 9999 t n m hk]
  · rename_i l m
    obtain ⟨vs, e1, p1⟩ := k1
    obtain ⟨us, e2, p2⟩ := k2
    cases ht : lkp T t with
    | none => rw [ht] at h2; simp [RP.exec] at h2
    | some td =>
      rw [ht] at h2
      simp only at h2
      obtain ⟨heq, h2⟩ := exec_bif h2
      simp only [Bool.and_eq_true] at heq
      cases hc : eqCells l m with
      | none => rw [hc] at h2; simp [RP.exec] at h2
      | some b =>
        rw [hc] at h2
        simp only at h2
        obtain ⟨q1, q2⟩ := (hT t td ht).eq heq.1
        obtain ⟨f1, f2⟩ := eqCells_sound l m b vs us hc p1 p2
        have hq := q2 w vs.toArray us.toArray l m b heq.2 hc f1 f2
        have hg : (eqGuard op t x y (a.eval x) (a.eval y)).run P w = .ok () w := by rw [e1, e2]; exact run_eqGuard_agg w op t x y _ _ q1
        cases op <;> try (simp [RP.exec] at h2; done)
        · rw [out_exec0 h2]
          refine run _ _ rfl hg ?_
          rw [e1, e2, run_eql_struct, hq]
          rfl
        · rw [out_exec0 h2]
          refine run _ _ rfl hg ?_
          rw [e1, e2, run_neq_struct, hq]
          rfl
  · simp [RP.exec] at h2
end
end Go.Rf
