/- The operations that leave the heap as it was. -/
import Derived.Test.YtaijmhaonokniaaRfE
import Derived.Laws.Slices
import Derived.Laws.BytesString
import Derived.OrdersHeld
namespace Go.Rf
set_option linter.unusedVariables false
set_option linter.unusedSimpArgs false

def Nu (Al : Nat → Prop) (f : Nat) (i : Nat) : Prop := Al i ∨ (f ≤ i ∧ i < f + idW)

/-- The operation comes to a related state. -/
def Done (P : Program) (B : Base) (Al' : Nat → Prop) (s' : St) (o : Oper) (a : Act) (w : World) : Prop :=
  ∀ K Q, (∀ a' w', (∃ W', Rel B Al' s' a' w' W') → K a' w') → o.wp P a w K Q

section
variable {P : Program} {T : Tab} {E : Env} {B : Base} {Al : Nat → Prop} {s : St} {a : Act} {w : World} {W : Wit} {o : Oper} {f : Nat}
  {rs rs' : List Key} {u : Upd}

theorem Done.mono {Al' : Nat → Prop} (hA : ∀ i, Al i → Al' i) (h : Done P B Al s o a w) : Done P B Al' s o a w :=
  fun K Q hK => h K Q fun a' w' ⟨W', r⟩ => hK a' w' ⟨W', r.mono hA⟩

theorem done_val (h : Rel B Al s a w W) (hd : dstOk B o.dst) {v : Value} {r : AV} (hr : (execOp a.eval o).run P w = .ok (.value v) w)
    (hv : AVr w W s.ob r v) (hm : ∀ id, menA r id → Al id) : Done P B Al (s.up ⟨dl o.dst r, []⟩) o a w := by
  intro K Q hK
  unfold Oper.wp
  rw [hr]
  exact hK _ _ ⟨W, h.put hd hv hm⟩

/-! ### lists of two kinds -/

theorem All2.length {α β : Type} {R : α → β → Prop} : ∀ {l : List α} {m : List β}, All2 R l m → m.length = l.length
  | [], _, h => by rw [show _ = [] from h]; rfl
  | _ :: l, _, ⟨_, _, e, _, h⟩ => by rw [e, List.length_cons, List.length_cons, All2.length h]

theorem All2.append {α β : Type} {R : α → β → Prop} : ∀ {l l' : List α} {m m' : List β}, All2 R l m → All2 R l' m' → All2 R (l ++ l') (m ++ m')
  | [], _, _, _, h, h' => by rw [h]; exact h'
  | _ :: l, _, _, m', ⟨b, r, e, p, h⟩, h' => ⟨b, r ++ m', by rw [e]; rfl, p, All2.append h h'⟩

theorem All2.drop {α β : Type} {R : α → β → Prop} : ∀ {l : List α} {m : List β} (n : Nat), All2 R l m → All2 R (l.drop n) (m.drop n)
  | _, _, 0, h => h
  | [], _, n + 1, h => by rw [h]; exact rfl
  | _ :: l, _, n + 1, ⟨_, _, e, _, h⟩ => by rw [e]; exact All2.drop n h

theorem All2.take {α β : Type} {R : α → β → Prop} : ∀ {l : List α} {m : List β} (n : Nat), All2 R l m → All2 R (l.take n) (m.take n)
  | _, _, 0, _ => by simp only [List.take_zero]; exact rfl
  | [], _, n + 1, h => by rw [h]; exact rfl
  | _ :: l, _, n + 1, ⟨b, r, e, p, h⟩ => by rw [e]; exact ⟨b, r.take n, rfl, p, All2.take n h⟩

theorem All2.imp {α β : Type} {R R' : α → β → Prop} : ∀ {l : List α} {m : List β}, (∀ x ∈ l, ∀ y, R x y → R' x y) → All2 R l m → All2 R' l m
  | [], _, _, h => h
  | x :: l, _, hR, ⟨b, r, e, p, h⟩ => ⟨b, r, e, hR x (List.mem_cons_self ..) b p, All2.imp (fun y hy => hR y (List.mem_cons_of_mem _ hy)) h⟩

theorem All2.get {α β : Type} {R : α → β → Prop} : ∀ {l : List α} {m : List β} (i : Nat) (x : α), All2 R l m → l[i]? = some x → ∃ y, m[i]? = some y ∧ R x y
  | [], _, _, _, _, h => by simp at h
  | x :: l, _, 0, y, ⟨b, r, e, p, _⟩, h => by simp only [List.getElem?_cons_zero, Option.some.injEq] at h; subst h; exact ⟨b, by rw [e]; rfl, p⟩
  | x :: l, _, i + 1, y, ⟨b, r, e, p, h'⟩, h => by rw [e]; simp only [List.getElem?_cons_succ] at h ⊢; exact All2.get i y h' h

theorem menL_take {l : List Sc} {n id : Nat} (h : menL (l.take n) id) : menL l id := let ⟨s, h1, h2⟩ := h; ⟨s, List.mem_of_mem_take h1, h2⟩
theorem menL_drop {l : List Sc} {n id : Nat} (h : menL (l.drop n) id) : menL l id := let ⟨s, h1, h2⟩ := h; ⟨s, List.mem_of_mem_drop h1, h2⟩

theorem exec_chk {α : Type} {b : Bool} {k : RP α} {r : α × List Key} (h : (RP.chk b k).exec s rs = some r) : b = true ∧ k.exec s rs = some r := by
  cases b
  · simp [RP.exec] at h
  · exact ⟨rfl, h⟩

theorem exec_bif {α : Type} {b : Bool} {k : RP α} {r : α × List Key} (h : (bif b then k else .fail).exec s rs = some r) : b = true ∧ k.exec s rs = some r := by
  cases b
  · simp [RP.exec] at h
  · exact ⟨rfl, h⟩

theorem exec_bif' {α : Type} {b : Bool} {k : RP α} {r : α × List Key} (h : (bif b then .fail else k).exec s rs = some r) : b = false ∧ k.exec s rs = some r := by
  cases b
  · exact ⟨rfl, h⟩
  · simp [RP.exec] at h

/-- A value out of its cells, both sides. -/
theorem mkAV_exec {α : Type} {g : Bool} {n : Nat} {l : List Sc} {vs : List Value} {k : AV → RP α} {r : α × List Key} (hl : All2 (Vs w W s.ob) l vs) (hm : ∀ id, menL l id → Al id)
    (h : (mkAV g n l k).exec s rs = some r) :
    ∃ v, (k v).exec s rs = some r ∧ AVr w W s.ob v (mkV g vs) ∧ (∀ id, menA v id → Al id) ∧ vs.length = n ∧ (g = false → n = 1) := by
  unfold mkAV at h
  obtain ⟨hn, h⟩ := exec_bif h
  have hn := (nEq_iff _ _).1 hn
  cases g with
  | true => exact ⟨.agg l, h, ⟨vs, rfl, hl⟩, hm, hl.length.trans hn, fun h => by simp at h⟩
  | false =>
    simp only [cond_false] at h
    match l, hl, hn, h with
    | [c], ⟨v, _, e, p, e'⟩, hn, h =>
      simp only [All2] at e'
      subst e'; subst e
      exact ⟨.one c, h, p, fun id hid => hm id ⟨c, by simp, hid⟩, hn, fun _ => hn.symm⟩
    | [], _, _, h => simp [RP.exec] at h
    | _ :: _ :: _, _, _, h => simp [RP.exec] at h

/-! ### what lies in rows, as cells -/

theorem isOne_of_rd {I : Nat → Prop} : ∀ (t : Ty) (x : t.den) cs, Rd w I t x cs → ∀ v ∈ cs, v.oneCell' = true
  | .int _, _, _, h, v, hv => by rw [h] at hv; simp at hv; subst hv; rfl
  | .bool, _, _, h, v, hv => by rw [h] at hv; simp at hv; subst hv; rfl
  | .str, _, _, h, v, hv => by rw [h] at hv; simp at hv; subst hv; rfl
  | .sl _ _, _, _, ⟨_, _, h, _⟩, v, hv => by rw [h] at hv; simp at hv; subst hv; rfl
  | .box none _, _, _, ⟨_, _, h, _⟩, v, hv => by rw [h] at hv; simp at hv; subst hv; rfl
  | .box (some _) _, _, _, ⟨_, h, _⟩, v, hv => by rw [h] at hv; simp at hv; subst hv; rfl
  | .pair a b, x, _, ⟨c1, c2, e, h, h'⟩, v, hv => by
    rw [e] at hv
    rcases List.mem_append.1 hv with k | k
    · exact isOne_of_rd a _ _ h v k
    · exact isOne_of_rd b _ _ h' v k

theorem explode_rd {ob : Nat → Option Obj} (sf : Bool) : ∀ (t : Ty) (x : t.den) cs, Rd w (if sf then W.J ob else W.I) t x cs → All2 (Vs w W ob) (explode false sf t x) cs
  | .int _, _, _, h => by rw [h]; exact ⟨_, _, rfl, ⟨fun _ => rfl, rfl⟩, rfl⟩
  | .bool, _, _, h => by rw [h]; exact ⟨_, _, rfl, ⟨fun _ => rfl, rfl⟩, rfl⟩
  | .str, _, _, h => by rw [h]; exact ⟨_, _, rfl, ⟨fun _ => rfl, rfl⟩, rfl⟩
  | .sl m t, x, cs, h => by
    obtain ⟨A, c, e, hc, hr⟩ := h
    subst e
    refine ⟨_, _, rfl, ⟨fun _ => rfl, ?_⟩, rfl⟩
    show Rd w (if (sf || (false && m)) then W.J ob else W.I) (.sl false t) x _
    rw [Bool.false_and, Bool.or_false]
    exact ⟨A, c, rfl, hc, hr⟩
  | .pair a b, x, cs, ⟨c1, c2, e, h, h'⟩ => by rw [e]; exact All2.append (explode_rd sf a _ _ h) (explode_rd sf b _ _ h')
  | .box none t, x, cs, h => by
    obtain ⟨b, o, e, hr⟩ := h
    subst e
    exact ⟨_, _, rfl, ⟨fun _ => rfl, b, o, rfl, hr⟩, rfl⟩
  | .box (some g) t, x, cs, h => by
    obtain ⟨caps, e, hr⟩ := h
    subst e
    exact ⟨_, _, rfl, ⟨fun _ => rfl, caps, rfl, hr⟩, rfl⟩

theorem explode_ow {ob : Nat → Option Obj} : ∀ (t : Ty) (x : t.den) cs fp, (∀ b ∈ fp, W.J ob b) → Ow w W.I t x cs fp → All2 (Vs w W ob) (explode true false t x) cs
  | .int _, _, _, _, _, h => by rw [h.1]; exact ⟨_, _, rfl, ⟨fun _ => rfl, rfl⟩, rfl⟩
  | .bool, _, _, _, _, h => by rw [h.1]; exact ⟨_, _, rfl, ⟨fun _ => rfl, rfl⟩, rfl⟩
  | .str, _, _, _, _, h => by rw [h.1]; exact ⟨_, _, rfl, ⟨fun _ => rfl, rfl⟩, rfl⟩
  | .sl false t, x, cs, fp, _, h => by
    obtain ⟨A, c, e, hc, hr⟩ := h.1
    subst e
    exact ⟨_, _, rfl, ⟨fun _ => rfl, A, c, rfl, hc, hr⟩, rfl⟩
  | .box none t, x, cs, fp, _, h => by
    obtain ⟨b, o, e, hr⟩ := h.1
    subst e
    exact ⟨_, _, rfl, ⟨fun _ => rfl, b, o, rfl, hr⟩, rfl⟩
  | .box (some g) t, x, cs, fp, _, h => by
    obtain ⟨caps, e, hr⟩ := h.1
    subst e
    exact ⟨_, _, rfl, ⟨fun _ => rfl, caps, rfl, hr⟩, rfl⟩
  | .sl true t, x, cs, fp, hf, h => by
    obtain ⟨A, c, e, hc, hr⟩ := Ow.rd (I' := W.J ob) (fun b hb => .inl hb) (.sl true t) x cs fp hf h
    subst e
    exact ⟨_, _, rfl, ⟨fun _ => rfl, A, c, rfl, hc, hr⟩, rfl⟩
  | .pair a b, x, cs, fp, hf, ⟨c1, c2, f1, f2, e, e', h, h'⟩ => by
    subst e'
    rw [e]
    exact All2.append (explode_ow a _ _ _ (fun b hb => hf b (List.mem_append_left _ hb)) h) (explode_ow b _ _ _ (fun b hb => hf b (List.mem_append_right _ hb)) h')

theorem explode_men (c sf : Bool) : ∀ (t : Ty) (x : t.den) id, ¬ menL (explode c sf t x) id
  | .int _, _, _, ⟨s, h, k⟩ => by simp [explode] at h; subst h; exact k
  | .bool, _, _, ⟨s, h, k⟩ => by simp [explode] at h; subst h; exact k
  | .str, _, _, ⟨s, h, k⟩ => by simp [explode] at h; subst h; exact k
  | .sl m t, _, _, ⟨s, h, k⟩ => by simp [explode] at h; subst h; exact k
  | .box _ _, _, _, ⟨s, h, k⟩ => by simp [explode] at h; subst h; exact k
  | .pair a b, x, id, ⟨s, h, k⟩ => by
    rcases List.mem_append.1 h with h | h
    · exact explode_men c sf a x.1 id ⟨s, h, k⟩
    · exact explode_men c sf b x.2 id ⟨s, h, k⟩

theorem inB_lt {i : Int} {n : Nat} (h : inB i n = true) : 0 ≤ i ∧ i.toNat < n := by
  simp only [inB, Bool.and_eq_true, decide_eq_true_eq] at h
  omega

theorem getD_at {α : Type} (xs : List α) (z : α) (i : Nat) (h : i < xs.length) : xs.getD i z = xs[i] := by simp [List.getD, h]

/-- An element of an owned row. -/
theorem Rel.elem (h : Rel B Al s a w W) {id : Nat} {t : Ty} {xs : List t.den} (ho : s.ob id = some (.row t xs)) {i : Int} (hi : inB i xs.length = true) :
    ∃ cs fp, At w (W.η id) (i.toNat * t.size) cs ∧ Ow w W.I t (xs.getD i.toNat t.zero) cs fp ∧ (∀ b ∈ fp, b ∈ W.nf id) ∧ cs.length = t.size := by
  obtain ⟨_, hi⟩ := inB_lt hi
  rcases h.row id t xs ho with ⟨_, e, _⟩ | ⟨_, ces, rest, e, h1, h2, h3, h4⟩
  · rw [e] at hi; exact absurd hi (Nat.not_lt_zero _)
  obtain ⟨c1, c2, c3, f1, f2, f3, k1, k2, k3, k4, k5⟩ := ChO.at xs ces (W.nf id) i.toNat hi h4
  have hlen : c1.length = i.toNat * t.size := by
    rw [ChO.len (fun x cs f => Ow.size t x cs f) _ _ _ k4, List.length_take, Nat.min_eq_left (Nat.le_of_lt hi)]
  refine ⟨c2, f2, ⟨_, e, _, c1, c3 ++ rest, h1, ?_, hlen⟩, ?_, fun b hb => by rw [k2]; simp [hb], Ow.size t _ _ _ k3⟩
  · rw [k1]; simp
  · rw [getD_at _ _ _ hi]; exact k3

theorem take_split {α : Type} (l : List α) (o n : Nat) : l = l.take o ++ ((l.drop o).take n ++ (l.drop o).drop n) := by
  rw [List.take_append_drop, List.take_append_drop]

theorem At.part {b o : Nat} {vs : List Value} (h : At w b o vs) (off n : Nat) (ho : off ≤ vs.length) : At w b (o + off) ((vs.drop off).take n) := by
  have := h.sub (take_split vs off n)
  rwa [List.length_take, Nat.min_eq_left ho] at this

/-! ### one by one -/

theorem st_move {x : Operand} (h : Rel B Al s a w W) (hd : dstOk B o.dst) (hop : o.op = .move x ∨ o.op = .assign x) (he : (step T E o f).exec s rs = some (u, rs')) : Done P B Al (s.up u) o a w := by
  have he : (opd x fun v => out o.dst v).exec s rs = some (u, rs') := by rcases hop with hop | hop <;> simpa only [step, hop] using he
  obtain ⟨v, rs2, h1, h2, h3⟩ := opd_exec h he
  rw [out_exec0 h1]
  exact done_val h hd (by rcases hop with hop | hop <;> simp [execOp, hop]) h2 h3

theorem st_pick {c x y : Operand} (h : Rel B Al s a w W) (hd : dstOk B o.dst) (hop : o.op = .pick c x y) (he : (step T E o f).exec s rs = some (u, rs')) : Done P B Al (s.up u) o a w := by
  simp only [step, hop] at he
  obtain ⟨v, rs2, h1, h2, h3⟩ := opd_exec h he
  split at h1 <;> try (simp [RP.exec] at h1; done)
  rename_i b
  have hc : a.eval c = .bool b := h2.2
  cases b with
  | true =>
    obtain ⟨v, rs2, h1, h2, h3⟩ := opd_exec h (show (opd x fun v => out o.dst v).exec s rs2 = _ from h1)
    rw [out_exec0 h1]
    exact done_val h hd (by simp [execOp, hop, hc, asBool]) h2 h3
  | false =>
    obtain ⟨v, rs2, h1, h2, h3⟩ := opd_exec h (show (opd y fun v => out o.dst v).exec s rs2 = _ from h1)
    rw [out_exec0 h1]
    exact done_val h hd (by simp [execOp, hop, hc, asBool]) h2 h3

theorem st_nilCheck {x : Operand} (h : Rel B Al s a w W) (hd : dstOk B o.dst) (hop : o.op = .nilCheck x) (he : (step T E o f).exec s rs = some (u, rs')) : Done P B Al (s.up u) o a w := by
  simp only [step, hop] at he
  obtain ⟨v, rs2, h1, h2, h3⟩ := opd_exec h he
  have fin : ∀ b o', a.eval x = pt b o' → Done P B Al (s.up ⟨dl o.dst v, []⟩) o a w := fun b o' e =>
    done_val h hd (by simp [execOp, hop, e, pt]) (e ▸ h2) h3
  split at h1 <;> try (simp [RP.exec] at h1; done)
  · rw [out_exec0 h1]; obtain ⟨b, e, _⟩ := h2.2; exact fin _ _ e
  · rw [out_exec0 h1]; obtain ⟨b, o', e, _⟩ := h2.2; exact fin _ _ e
  · rw [out_exec0 h1]; obtain ⟨_, A, C, e, fr, pre, ces, post, e', _⟩ := h2.2; exact fin _ _ e'
  · rw [out_exec0 h1]
    obtain ⟨b, o', e, _⟩ := h2.2
    simp only [List.cons.injEq, and_true] at e
    exact fin _ _ e

theorem st_fieldAddr {t j : Nat} {x : Operand} (hT : TabOk P T) (h : Rel B Al s a w W) (hd : dstOk B o.dst) (hop : o.op = .fieldAddr t x j) (he : (step T E o f).exec s rs = some (u, rs')) : Done P B Al (s.up u) o a w := by
  simp only [step, hop] at he
  cases ht : lkp T t with
  | none => rw [ht] at he; simp [RP.exec] at he
  | some td =>
    rw [ht] at he
    simp only at he
    cases hj : td.flds[j]? with
    | none => rw [hj] at he; simp [RP.exec] at he
    | some p =>
      obtain ⟨off, n, g⟩ := p
      rw [hj] at he
      simp only at he
      obtain ⟨v, rs2, h1, h2, h3⟩ := opd_exec h he
      have hag : td.agg = true := by
        cases e : td.agg with
        | true => rfl
        | false => have := ((hT t td ht).nagg e).2; rw [this] at hj; simp at hj
      obtain ⟨fs, hf1, hf2, hf3⟩ := (hT t td ht).agg hag
      obtain ⟨fd, k1, k2, k3, k4, k5⟩ := hf3 j off n g hj
      have fin : ∀ b o' r, a.eval x = pt b o' → AVr w W s.ob r (pt b (o' + off)) → (∀ id, menA r id → Al id) → Done P B Al (s.up ⟨dl o.dst r, []⟩) o a w := fun b o' r e hr hm =>
        done_val h hd (by
          have hp : (Instr.fieldAt t (pt b o') j).run P w = .ok (pt b (o' + off)) w := by
            unfold Instr.fieldAt
            rw [Sem.run_bind, run_underlying hf1, Result.andThen_ok]
            simp only [k1]
            simp [pt, Instr.sureAddr, fieldPlace, run_size w k3, k4, k2, Addr.add]
          simp only [execOp, hop, e, Sem.run_bind, hp, Result.andThen_ok, Sem.run_pure]) hr hm
      split at h1 <;> try (simp [RP.exec] at h1; done)
      · rw [out_exec0 h1]; obtain ⟨b, e, k⟩ := h2.2; exact fin _ _ _ e ⟨fun _ => rfl, b, rfl, k⟩ h3
      · rw [out_exec0 h1]; obtain ⟨b, o', e, k⟩ := h2.2
        exact fin _ _ _ e ⟨fun _ => rfl, b, _, rfl, fun t xs ho => ⟨(k t xs ho).1, (k t xs ho).2.1, by rw [(k t xs ho).2.2, Nat.add_assoc]⟩⟩ h3
      · rw [out_exec0 h1]; obtain ⟨hi, A, C, e, fr, pre, ces, post, e', k⟩ := h2.2
        exact fin _ _ _ e' ⟨fun _ => rfl, hi, A, C, e, fr, pre, ces, post, by simp [Nat.add_assoc], k⟩ h3
end
end Go.Rf
