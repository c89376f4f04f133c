import Derived.Test.YtidjicepgdaeoaaGreatDoorLLiveBytesLem2
namespace Go.Rf.G
open Go Go.Rf
set_option linter.unusedVariables false
set_option linter.unusedSimpArgs false
set_option synthInstance.maxSize 4000
theorem impl_ReadLive_tot (s : List UInt8) (hl : s.length < 1000000000) : ∃ res : LiveT × Bool, impl_ReadLive.f s = some res ∧ (res = (zeroLive, false) ∨ ∃ v, res = (v, true) ∧ isLive s v) := by
 have hul := unframe_len s
 unfold impl_ReadLive.f
 rw [impl_Unframe_eq s (by omega), Option.bind_some]
 -- the two numbers ahead
 have first : ∃ (n1 n2 : Int) (st : ScanT) (pre : List UInt8), ((impl_scanner_num.f ((unframe s).1, false)).bind fun (t2_0, t2_1) => (impl_scanner_num.f t2_1).bind fun (t3_0, t3_1) => some (t2_0, t3_0, t3_1)) = some (n1, n2, st) ∧ st.1.length ≤ (unframe s).1.length ∧
   (st.2 = false → numIn n1 ∧ numIn n2 ∧ pre = varT n1 ++ varT n2 ∧ (unframe s).1 = pre ++ st.1) := by
  rcases num_cases (unframe s).1 (by omega) with ⟨x, r, m, et, hx⟩ | m
  ·have hle : (unframe s).1.length = (varT x).length + r.length := by
    have := congrArg List.length et
    rw [List.length_append] at this; exact this
   rcases num_cases r (by omega) with ⟨y, q, m2, et2, hy⟩ | m2
   ·have hle2 : r.length = (varT y).length + q.length := by
     have := congrArg List.length et2
     rw [List.length_append] at this; exact this
    exact ⟨x, y, (q, false), varT x ++ varT y, by simp only [m, m2, Option.bind_some], by show q.length ≤ _; omega, fun _ => ⟨hx, hy, rfl, by rw [et, et2, List.append_assoc]⟩⟩
   ·exact ⟨x, 0, (r, true), [], by simp only [m, m2, Option.bind_some], by show r.length ≤ _; omega, fun e => by simp at e⟩
  ·exact ⟨0, 0, ((unframe s).1, true), [], by simp only [m, num_bad _ (show (unframe s).1.length < 2 ^ 62 by omega), Option.bind_some], Nat.le_refl _, fun e => by simp at e⟩
 obtain ⟨n1, n2, st, pre, e1, e2, e3⟩ := first
 obtain ⟨st', ids, eL, h1, h2⟩ := ReadLive_loop s (unframe s).2 (unframe s).1 (by omega) n1 st pre n2 e2 (fun e => ⟨(e3 e).2.1.1, (e3 e).2.2.2⟩)
 have hrest : ((impl_scanner_num.f ((unframe s).1, false)).bind fun (t2_0, t2_1) => (impl_scanner_num.f t2_1).bind fun (t3_0, t3_1) =>
   (lp impl_ReadLive.l0 (s, ((0, []) : LiveT), (unframe s).2, t3_1, (t2_0, []), t3_0, 0)).bind (fun (x0, x2, x5, x6, x7) =>
   bif x5 == 0 then some ((0, []), false) else
   bif x5 != (x0.length : Int) then some ((0, []), false) else
   bif x6.2 then some ((0, []), false) else
   bif !(x6.1 == []) then some ((0, []), false) else
   (impl_LiveOk.f x7).bind fun t6 => bif !t6 then some ((0, []), false) else some (x7, true))) =
   (bif (unframe s).2 == 0 then some (((0, []) : LiveT), false) else
   bif (unframe s).2 != (s.length : Int) then some ((0, []), false) else
   bif st'.2 then some ((0, []), false) else
   bif !(st'.1 == []) then some ((0, []), false) else
   (impl_LiveOk.f (n1, ids)).bind fun t6 => bif !t6 then some ((0, []), false) else some ((n1, ids), true)) := by
  cases ha : impl_scanner_num.f ((unframe s).1, false) with
  | none => rw [ha] at e1; simp at e1
  | some p =>
   obtain ⟨a1, a2⟩ := p
   rw [ha] at e1
   simp only [Option.bind_some] at e1 ⊢
   cases hb : impl_scanner_num.f a2 with
   | none => rw [hb] at e1; simp at e1
   | some q =>
    obtain ⟨b1, b2⟩ := q
    rw [hb] at e1
    simp only [Option.bind_some, Option.some.injEq, Prod.mk.injEq] at e1 ⊢
    obtain ⟨rfl, rfl, rfl⟩ := e1
    rw [eL]; rfl
 suffices hs : ∃ res : LiveT × Bool, (bif (unframe s).2 == 0 then some (((0, []) : LiveT), false) else
   bif (unframe s).2 != (s.length : Int) then some ((0, []), false) else
   bif st'.2 then some ((0, []), false) else
   bif !(st'.1 == []) then some ((0, []), false) else
   (impl_LiveOk.f (n1, ids)).bind fun t6 => bif !t6 then some ((0, []), false) else some ((n1, ids), true)) = some res ∧ (res = (zeroLive, false) ∨ ∃ v, res = (v, true) ∧ isLive s v) by
  obtain ⟨res, e, p⟩ := hs
  exact ⟨res, hrest.trans e, p⟩
 by_cases c1 : (unframe s).2 = 0
 ·have d1 : ((unframe s).2 == 0) = true := by simpa using c1
  exact ⟨(zeroLive, false), by rw [d1]; rfl, .inl rfl⟩
 have d1 : ((unframe s).2 == 0) = false := by simpa using c1
 rw [d1, cond_false]
 by_cases c2 : (unframe s).2 = (s.length : Int)
 rotate_left
 ·have d2 : ((unframe s).2 != (s.length : Int)) = true := by simpa using c2
  exact ⟨(zeroLive, false), by rw [d2]; rfl, .inl rfl⟩
 have d2 : ((unframe s).2 != (s.length : Int)) = false := by simpa using c2
 rw [d2, cond_false]
 cases c3 : st'.2 with
 | true => exact ⟨(zeroLive, false), rfl, .inl rfl⟩
 | false =>
  rw [cond_false]
  obtain ⟨g1, g2, g3, g4⟩ := h2 c3
  by_cases c4 : st'.1 = []
  rotate_left
  ·have d4 : (st'.1 == []) = false := by simpa using c4
   exact ⟨(zeroLive, false), by rw [d4]; rfl, .inl rfl⟩
  have d4 : (st'.1 == []) = true := by simpa using c4
  rw [d4, Bool.not_true, cond_false, impl_LiveOk_eq (n1, ids) (by show ids.length < 2 ^ 62; omega), Option.bind_some]
  cases c5 : liveOk (n1, ids) with
  | false => exact ⟨(zeroLive, false), rfl, .inl rfl⟩
  | true =>
   refine ⟨((n1, ids), true), rfl, .inr ⟨(n1, ids), rfl, c5, ?_⟩⟩
   obtain ⟨t, r, f1, f2, f3⟩ := unframe_some c1
   obtain ⟨k1, k2, k3, k4⟩ := e3 g1
   have ht : (unframe s).1 = t := by rw [f3]
   have hlen : ((frame t).length : Int) = (s.length : Int) := by rw [← c2, f3]
   have hr : r = [] := by
    have := congrArg List.length f1
    rw [List.length_append] at this
    exact List.length_eq_zero_iff.1 (by omega)
   unfold showLive
   rw [if_neg (by rw [c5]; simp)]
   rw [f1, hr, List.append_nil, ← ht, g4, k3, c4, ← g2]
   simp only [List.append_nil]
theorem spec_ReadLive_back {s : List UInt8} {v : LiveT} (h : isLive s v) : spec_ReadLive.f s = some (v, true) := by
 obtain ⟨e1, e2, e3⟩ := isLive_frame h
 obtain ⟨n1, n2, n3, n4, n5⟩ := live_in h.1
 have hbl := liveBody_len h.1
 have hsl : s.length ≤ 211 := by rw [e1]; exact frame_len _
 have hsh := h.2
 obtain ⟨nx, ids⟩ := v
 have n4 : ids.length ≤ 60 := n4
 have hcnt : numIn (ids.length : Int) := ⟨by omega, by omega⟩
 have hbd : liveBody (nx, ids) = varT nx ++ (varT (ids.length : Int) ++ (ids.map varT).flatten) := by unfold liveBody; rw [List.append_assoc]
 have hbl2 := hbl
 rw [hbd] at hbl2
 simp only [List.length_append] at hbl2
 have r1 := readVar_back n1 (varT (ids.length : Int) ++ (ids.map varT).flatten)
 have r2 := readVar_back hcnt (ids.map varT).flatten
 generalize hT : varT nx ++ (varT (ids.length : Int) ++ (ids.map varT).flatten) = T at *
 have hTl : T.length = (varT nx).length + ((varT (ids.length : Int)).length + ((ids.map varT).flatten).length) := by rw [← hT]; simp only [List.length_append]
 have hat : ∀ n, n ≤ ids.length → T.drop ((varT nx).length + (varT (ids.length : Int)).length + ((ids.take n).map varT).flatten.length) = ((ids.drop n).map varT).flatten := fun n hn => by
  have e : T = (varT nx ++ varT (ids.length : Int) ++ ((ids.take n).map varT).flatten) ++ ((ids.drop n).map varT).flatten := by
   rw [← hT]
   simp only [List.append_assoc]
   congr 2
   rw [← List.flatten_append, ← List.map_append, List.take_append_drop]
  rw [e, show (varT nx).length + (varT (ids.length : Int)).length + ((ids.take n).map varT).flatten.length = (varT nx ++ varT (ids.length : Int) ++ ((ids.take n).map varT).flatten).length by simp only [List.length_append], List.drop_left]
 have hfle : ∀ n, ((ids.take n).map varT).flatten.length ≤ 200 := fun n => by
  have : ((ids.take n).map varT).flatten.length ≤ 3 * (ids.take n).length := flat_len (fun x hx => ⟨(n2 x (List.mem_of_mem_take hx)).1.1, (n2 x (List.mem_of_mem_take hx)).2⟩)
  rw [List.length_take] at this; omega
 have key := lp_up (step := spec_ReadLive.l0) (fun n (_ : Unit) => (s, ((0, []) : LiveT), T, (ids.length : Int), ((nx, ids.take n) : LiveT), (((varT nx).length + (varT (ids.length : Int)).length + ((ids.take n).map varT).flatten.length : Nat) : Int), (n : Int))) ids.length (fun _ _ => (s, (0, []), (nx, ids))) (fun _ _ => True)
  (fun rec n _ hn _ ih => by
   rcases Nat.lt_or_ge n ids.length with h1 | h1
   ·have hw := w64_succ (show n + 1 < 9223372036854775808 by omega)
    have hin := (n2 _ (List.getElem_mem h1)).1
    have hc60 : (n : Int) < 60 := by omega
    have hd : ((ids.drop n).map varT).flatten = varT ids[n] ++ ((ids.drop (n + 1)).map varT).flatten := by
     rw [List.drop_eq_getElem_cons h1]; rfl
    have hta : ((ids.take (n + 1)).map varT).flatten.length = ((ids.take n).map varT).flatten.length + (varT ids[n]).length := by
     rw [List.take_succ_eq_append_getElem h1, List.map_append, List.flatten_append, List.length_append]
     show _ + (varT ids[n] ++ []).length = _
     rw [List.append_nil]
    have hdl := congrArg List.length (hat n hn)
    rw [List.length_drop] at hdl
    have r3 := readVar_back hin ((ids.drop (n + 1)).map varT).flatten
    have h200 := hfle n
    have hvl := varT_len ids[n]
    have hvl1 := varT_len nx
    have hvl2 := varT_len (ids.length : Int)
    have hdl2 := congrArg List.length hd
    rw [List.length_append] at hdl2
    have hin2 : (decide (0 ≤ (((varT nx).length + (varT (ids.length : Int)).length + ((ids.take n).map varT).flatten.length : Nat) : Int)) && decide ((((varT nx).length + (varT (ids.length : Int)).length + ((ids.take n).map varT).flatten.length : Nat) : Int) ≤ (T.length : Int))) = true := by
     simp only [Bool.and_eq_true, decide_eq_true_eq]; omega
    have hb : ((ids.take n).length + ([ids[n]] : List Int).length) * 8 ≤ 140737488355328 := lim8 (by rw [List.length_take]; omega)
    have hi : ids.take n ++ [ids[n]] = ids.take (n + 1) := (List.take_succ_eq_append_getElem h1).symm
    have hwo : w64 ((((varT nx).length + (varT (ids.length : Int)).length + ((ids.take n).map varT).flatten.length : Nat) : Int) + ((varT ids[n]).length : Int)) = (((varT nx).length + (varT (ids.length : Int)).length + ((ids.take (n + 1)).map varT).flatten.length : Nat) : Int) := by
     rw [w64_id (by omega) (by omega), hta]; omega
    simp only [spec_ReadLive.l0, Int.ofNat_lt, h1, hc60, decide_true, cond_true, hin2, Int.toNat_natCast, hat n hn]
    rw [spec_ReadVar_eq _ (by omega), hd, r3.1, Option.bind_some]
    simp only [hb, decide_true, cond_true, hi, hwo, hw, ih () h1 trivial]
   ·have : n = ids.length := by omega
    subst this
    simp [spec_ReadLive.l0])
  (by omega) 0 () (Nat.zero_le _) trivial
 have key : lp spec_ReadLive.l0 (s, (0, []), T, (ids.length : Int), (nx, []), (((varT nx).length + (varT (ids.length : Int)).length + ((ids.take 0).map varT).flatten.length : Nat) : Int), ((0 : Nat) : Int)) = _ := key
 have hv1 := varT_len nx
 have hv2 := varT_len (ids.length : Int)
 have c1 : ((s.length : Int) == 0) = false := by
  have : ¬ (s.length : Int) = 0 := by omega
  simpa using this
 have c2 : (((varT nx).length : Int) == 0) = false := by
  have : 1 ≤ (varT nx).length := r1.2
  have : ¬ ((varT nx).length : Int) = 0 := by omega
  simpa using this
 have c3 : (decide (0 ≤ ((varT nx).length : Int)) && decide (((varT nx).length : Int) ≤ (T.length : Int))) = true := by simp only [Bool.and_eq_true, decide_eq_true_eq]; omega
 have hd1 : T.drop (varT nx).length = varT (ids.length : Int) ++ (ids.map varT).flatten := by rw [← hT, List.drop_left]
 have hw1 : w64 (((varT nx).length : Int) + ((varT (ids.length : Int)).length : Int)) = (((varT nx).length + (varT (ids.length : Int)).length + ((ids.take 0).map varT).flatten.length : Nat) : Int) := by
  rw [w64_id (by omega) (by omega)]; simp
 unfold spec_ReadLive.f
 rw [spec_Unframe_eq s (by omega), e2, hbd, Option.bind_some]
 simp only
 rw [spec_ReadVar_eq T (by omega), r1.1, Option.bind_some]
 simp only [bne_self_eq_false, cond_false, c1, c2, c3, cond_true, Int.toNat_natCast, hd1]
 rw [spec_ReadVar_eq _ (by rw [← hd1, List.length_drop]; omega), r2.1, Option.bind_some]
 simp only [hw1]
 have key : lp spec_ReadLive.l0 (s, (0, []), T, (ids.length : Int), (nx, []), (((varT nx).length + (varT (ids.length : Int)).length + ((ids.take 0).map varT).flatten.length : Nat) : Int), 0) = _ := key
 rw [key, Option.bind_some]
 simp only [spec_ShowLive_eq (nx, ids) (by show ids.length < 2 ^ 62; omega), Option.bind_some, hsh, beq_self_eq_true, Bool.not_true, cond_false]
theorem spec_ReadLive_tot (s : List UInt8) (hl : s.length < 1000000000) : ∃ res : LiveT × Bool, spec_ReadLive.f s = some res ∧ (res = (zeroLive, false) ∨ ∃ v, res = (v, true) ∧ isLive s v) := by
 have hul := unframe_len s
 unfold spec_ReadLive.f
 rw [spec_Unframe_eq s (by omega), Option.bind_some]
 simp only
 rw [spec_ReadVar_eq _ (by omega), Option.bind_some]
 by_cases c2 : (unframe s).2 = (s.length : Int)
 rotate_left
 ·have d2 : ((unframe s).2 != (s.length : Int)) = true := by simpa using c2
  exact ⟨(zeroLive, false), by simp only [d2, cond_true]; rfl, .inl rfl⟩
 have d2 : ((unframe s).2 != (s.length : Int)) = false := by simpa using c2
 simp only [d2, cond_false]
 by_cases c1 : (unframe s).2 = 0
 ·have d1 : ((unframe s).2 == 0) = true := by simpa using c1
  exact ⟨(zeroLive, false), by simp only [d1, cond_true]; rfl, .inl rfl⟩
 have d1 : ((unframe s).2 == 0) = false := by simpa using c1
 simp only [d1, cond_false]
 generalize hT : (unframe s).1 = T at *
 have v1 := readVar_len T
 by_cases c3 : (readVar T).2 = 0
 ·have d3 : ((readVar T).2 == 0) = true := by simpa using c3
  exact ⟨(zeroLive, false), by simp only [d3, cond_true]; rfl, .inl rfl⟩
 have d3 : ((readVar T).2 == 0) = false := by simpa using c3
 have d4 : (decide (0 ≤ (readVar T).2) && decide ((readVar T).2 ≤ (T.length : Int))) = true := by simp only [Bool.and_eq_true, decide_eq_true_eq]; omega
 simp only [d3, d4, cond_false, cond_true]
 rw [spec_ReadVar_eq _ (by rw [List.length_drop]; omega), Option.bind_some]
 generalize hR : T.drop (readVar T).2.toNat = R
 have v2 := readVar_len R
 have hRl : R.length + (readVar T).2.toNat = T.length := by rw [← hR, List.length_drop]; omega
 generalize (readVar T).1 = n1
 generalize (readVar R).1 = cnt
 have hw1 : w64 ((readVar T).2 + (readVar R).2) = (readVar T).2 + (readVar R).2 := w64_id (by omega) (by omega)
 simp only [hw1]
 have hp0 : 0 ≤ (readVar T).2 + (readVar R).2 ∧ (readVar T).2 + (readVar R).2 ≤ T.length := by omega
 generalize (readVar T).2 + (readVar R).2 = pos at hp0
 have key := lp_ok (step := spec_ReadLive.l0) (a := (s, ((0, []) : LiveT), T, cnt, ((n1, []) : LiveT), pos, 0))
  (fun a => ∃ (ids : List Int) (p : Int), a = (s, (0, []), T, cnt, (n1, ids), p, (ids.length : Int)) ∧ 0 ≤ p ∧ p ≤ (T.length : Int) ∧ ids.length ≤ 60)
  (fun a => 61 - a.2.2.2.2.1.2.length)
  (fun b => ∃ ids : List Int, b = (s, (0, []), (n1, ids)) ∧ ids.length ≤ 60)
  (fun rec a ha => by
   obtain ⟨ids, p, rfl, h1, h2, h3⟩ := ha
   by_cases c : (ids.length : Int) < cnt
   rotate_left
   ·left; exact ⟨_, by simp only [spec_ReadLive.l0, c, decide_false, cond_false, cond_true], ids, rfl, h3⟩
   by_cases cc : (ids.length : Int) < 60
   rotate_left
   ·left; exact ⟨_, by simp only [spec_ReadLive.l0, c, cc, decide_true, decide_false, cond_true, cond_false, cond_true], ids, rfl, h3⟩
   right
   have hin : (decide (0 ≤ p) && decide (p ≤ (T.length : Int))) = true := by simp only [Bool.and_eq_true, decide_eq_true_eq]; omega
   have v3 := readVar_len (T.drop p.toNat)
   rw [List.length_drop] at v3
   have hw := w64_succ (show ids.length + 1 < 9223372036854775808 by omega)
   have hwp : w64 (p + (readVar (T.drop p.toNat)).2) = p + (readVar (T.drop p.toNat)).2 := w64_id (by omega) (by omega)
   have hb : (ids.length + ([(readVar (T.drop p.toNat)).1] : List Int).length) * 8 ≤ 140737488355328 := lim8 (by omega)
   refine ⟨(s, (0, []), T, cnt, (n1, ids ++ [(readVar (T.drop p.toNat)).1]), p + (readVar (T.drop p.toNat)).2, ((ids.length + 1 : Nat) : Int)), ⟨ids ++ [(readVar (T.drop p.toNat)).1], p + (readVar (T.drop p.toNat)).2, by simp only [List.length_append, List.length_singleton], by omega, by omega, by simp only [List.length_append, List.length_singleton]; omega⟩, by simp only [List.length_append, List.length_singleton]; omega, ?_⟩
   simp only [spec_ReadLive.l0, c, cc, decide_true, cond_true, hin]
   rw [spec_ReadVar_eq _ (by rw [List.length_drop]; omega), Option.bind_some]
   simp only [hb, decide_true, cond_true, hwp, hw])
  ⟨[], pos, rfl, hp0.1, by omega, by simp⟩ (by simp)
 obtain ⟨b, eb, ids, rfl, h60⟩ := key
 rw [eb, Option.bind_some]
 simp only [spec_ShowLive_eq (n1, ids) (by show ids.length < 2 ^ 62; omega), Option.bind_some]
 by_cases c5 : showLive (n1, ids) = s
 rotate_left
 ·have d5 : (showLive (n1, ids) == s) = false := by simpa using c5
  exact ⟨(zeroLive, false), by simp only [d5, Bool.not_false, cond_true]; rfl, .inl rfl⟩
 have d5 : (showLive (n1, ids) == s) = true := by simpa using c5
 refine ⟨((n1, ids), true), by simp only [d5, Bool.not_true, cond_false], .inr ⟨(n1, ids), rfl, ?_, c5⟩⟩
 cases hk : liveOk (n1, ids) with
 | true => rfl
 | false =>
  exfalso
  have : showLive (n1, ids) = [] := by unfold showLive; rw [if_pos hk]
  rw [this] at c5
  apply c1
  rw [c2, ← c5]; rfl
noncomputable def readLive (s : List UInt8) : LiveT × Bool := @dite (LiveT × Bool) (∃ v, isLive s v) (Classical.propDecidable _) (fun h => (h.choose, true)) (fun _ => (zeroLive, false))
theorem readLive_of {s : List UInt8} {o : Option (LiveT × Bool)} (h1 : ∀ v, isLive s v → o = some (v, true)) (h2 : ∃ res : LiveT × Bool, o = some res ∧ (res = (zeroLive, false) ∨ ∃ v, res = (v, true) ∧ isLive s v)) : o = some (readLive s) := by
 unfold readLive
 by_cases h : ∃ v, isLive s v
 ·rw [dif_pos h]; exact h1 _ h.choose_spec
 ·rw [dif_neg h]
  obtain ⟨res, e, k | ⟨v, _, hv⟩⟩ := h2
  ·rw [e, k]
  ·exact absurd ⟨v, hv⟩ h
theorem impl_ReadLive_eq (s : List UInt8) (hl : s.length < 1000000000) : impl_ReadLive.f s = some (readLive s) := readLive_of (fun _ h => impl_ReadLive_back h) (impl_ReadLive_tot s hl)
theorem spec_ReadLive_eq (s : List UInt8) (hl : s.length < 1000000000) : spec_ReadLive.f s = some (readLive s) := readLive_of (fun _ h => spec_ReadLive_back h) (spec_ReadLive_tot s hl)
theorem readLive_cases (s : List UInt8) : readLive s = (zeroLive, false) ∧ (¬ ∃ v, isLive s v) ∨ ∃ v, readLive s = (v, true) ∧ isLive s v := by
 unfold readLive
 by_cases h : ∃ v, isLive s v
 ·rw [dif_pos h]; exact .inr ⟨_, rfl, h.choose_spec⟩
 ·rw [dif_neg h]; exact .inl ⟨rfl, h⟩
def isHint (s : List UInt8) (h : HintT) : Prop := hintOk h = true ∧ showHint h = s
def zeroHint : HintT := (0, 0, [])
theorem num_tot (st : ScanT) (hl : st.1.length < 2 ^ 62) : ∃ n st', impl_scanner_num.f st = some (n, st') ∧ st'.1.length ≤ st.1.length ∧ (st'.2 = false → st.2 = false ∧ st'.1.length + 1 ≤ st.1.length) := by
 obtain ⟨s, b⟩ := st
 cases b with
 | true => exact ⟨0, (s, true), num_bad s hl, Nat.le_refl _, fun e => by simp at e⟩
 | false =>
  rcases num_cases s hl with ⟨n, r, m, e, hn⟩ | m
  ·have h1 := (readVar_back hn []).2
   have hle : s.length = (varT n).length + r.length := by rw [e, List.length_append]
   exact ⟨n, (r, false), m, by show r.length ≤ s.length; omega, fun _ => ⟨rfl, by show r.length + 1 ≤ s.length; omega⟩⟩
  ·exact ⟨0, (s, true), m, Nat.le_refl _, fun e => by simp at e⟩
theorem text_tot (st : ScanT) (hl : st.1.length < 2 ^ 62) : ∃ t st', impl_scanner_text.f st = some (t, st') ∧ st'.1.length ≤ st.1.length ∧ (st'.2 = false → st.2 = false ∧ st'.1.length + 1 ≤ st.1.length) := by
 obtain ⟨s, b⟩ := st
 cases b with
 | true => exact ⟨[], (s, true), text_bad s hl, Nat.le_refl _, fun e => by simp at e⟩
 | false =>
  rcases text_cases s hl with ⟨t, r, m, e, hn⟩ | ⟨r, m, hr⟩
  ·have h1 := (readVar_back hn []).2
   have hle : s.length = (varT (t.length : Int)).length + (t.length + r.length) := by
    have := congrArg List.length e
    simp only [List.length_append] at this; exact this
   exact ⟨t, (r, false), m, by show r.length ≤ s.length; omega, fun _ => ⟨rfl, by show r.length + 1 ≤ s.length; omega⟩⟩
  ·exact ⟨[], (r, true), m, hr, fun e => by simp at e⟩
theorem bytes_tot (s : List UInt8) : ∃ t st', impl_scanner_bytes.f (s, false) 4 = some (t, st') ∧ st'.1.length ≤ s.length := by
 rcases bytes_cases s 4 (by decide) with ⟨t, r, e, es, _⟩ | e
 ·exact ⟨t, (r, false), e, by rw [es, List.length_append]; show r.length ≤ _; omega⟩
 ·exact ⟨[], (s, true), e, Nat.le_refl _⟩
theorem lim48'' {a : Nat} (h : a < 1000000000001) : (a + 1) * 48 ≤ 140737488355328 := by omega
theorem impl_ReadHint_tot (s : List UInt8) (hl : s.length < 900000000) : ∃ res : HintT × Bool, impl_ReadHint.f s = some res ∧ (res = (zeroHint, false) ∨ ∃ h, res = (h, true) ∧ isHint s h) := by
 obtain ⟨t, st1, e1, l1⟩ := bytes_tot s
 obtain ⟨n2, st2, e2, l2, _⟩ := num_tot st1 (by omega)
 obtain ⟨n3, st3, e3, l3, _⟩ := num_tot st2 (by omega)
 obtain ⟨n4, st4, e4, l4, _⟩ := num_tot st3 (by omega)
 have key := lp_ok (step := impl_ReadHint.l0) (a := (s, ((0, 0, []) : HintT), st4, ((n2, n3, []) : HintT), n4, 0))
  (fun a => ∃ (st : ScanT) (es : List EntryT), a = (s, (0, 0, []), st, (n2, n3, es), n4, (es.length : Int)) ∧ st.1.length ≤ s.length ∧ (st.2 = false → es.length + st.1.length ≤ s.length) ∧ es.length ≤ s.length + 1)
  (fun a => if a.2.2.1.2 = true then 0 else a.2.2.1.1.length + 1)
  (fun b => ∃ (st : ScanT) (es : List EntryT), b = (s, (0, 0, []), st, (n2, n3, es)) ∧ es.length ≤ s.length + 1)
  (fun rec a ha => by
   obtain ⟨st, es, rfl, h1, h2, h4⟩ := ha
   by_cases c : (es.length : Int) < n4
   rotate_left
   ·left; exact ⟨_, by simp only [impl_ReadHint.l0, c, decide_false, cond_false], st, es, rfl, h4⟩
   obtain ⟨u, bad⟩ := st
   simp only at h1 h2
   cases bad with
   | true =>
    left
    exact ⟨_, by simp only [impl_ReadHint.l0, c, decide_true, cond_true, Bool.not_true, cond_false], (u, true), es, rfl, h4⟩
   | false =>
    right
    have h2 := h2 rfl
    obtain ⟨x5, s5, m5, q5, r5⟩ := text_tot (u, false) (show u.length < 2 ^ 62 by omega)
    have q5 : s5.1.length ≤ u.length := q5
    obtain ⟨x6, s6, m6, q6, r6⟩ := num_tot s5 (by omega)
    obtain ⟨x7, s7, m7, q7, r7⟩ := num_tot s6 (by omega)
    obtain ⟨x8, s8, m8, q8, r8⟩ := num_tot s7 (by omega)
    obtain ⟨x9, s9, m9, q9, r9⟩ := num_tot s8 (by omega)
    have hw := w64_succ (show es.length + 1 < 9223372036854775808 by omega)
    have hb : (es.length + ([(x5, x6, x7, x8, x9)] : List EntryT).length) * 48 ≤ 140737488355328 := lim48'' (by omega)
    have hdec : s9.2 = false → s9.1.length + 1 ≤ u.length := fun e => by
     have a9 := r9 e
     have a8 := r8 a9.1
     have a7 := r7 a8.1
     have a6 := r6 a7.1
     have a5 := (r5 a6.1).2
     have a5 : s5.1.length + 1 ≤ u.length := a5
     omega
    refine ⟨(s, (0, 0, []), s9, (n2, n3, es ++ [(x5, x6, x7, x8, x9)]), n4, ((es.length + 1 : Nat) : Int)), ⟨s9, es ++ [(x5, x6, x7, x8, x9)], by simp only [List.length_append, List.length_singleton], by omega, fun e => by simp only [List.length_append, List.length_singleton]; have := hdec e; omega, by simp only [List.length_append, List.length_singleton]; omega⟩, ?_, ?_⟩
    ·simp only [Bool.false_eq_true, if_false]
     split
     ·omega
     ·rename_i z
      have := hdec (by simpa using z)
      omega
    ·simp only [impl_ReadHint.l0, c, decide_true, cond_true, Bool.not_false, m5, m6, m7, m8, m9, Option.bind_some, hb, hw])
  ⟨st4, [], rfl, by omega, fun _ => by simp; omega, by simp⟩ (by simp only; split <;> omega)
 obtain ⟨b, eb, st, es, rfl, hes⟩ := key
 unfold impl_ReadHint.f
 simp only [e1, e2, e3, e4, Option.bind_some, eb]
 cases c1 : st.2 with
 | true => exact ⟨(zeroHint, false), rfl, .inl rfl⟩
 | false =>
  simp only [cond_false, impl_hintOk_eq (n2, n3, es) (show es.length < 1000000000 by omega), Option.bind_some]
  cases c2 : hintOk (n2, n3, es) with
  | false => exact ⟨(zeroHint, false), rfl, .inl rfl⟩
  | true =>
   simp only [Bool.not_true, cond_false, impl_ShowHint_eq (n2, n3, es) (show es.length < 1000000000 by omega), Option.bind_some]
   by_cases c3 : showHint (n2, n3, es) = s
   ·have d3 : (showHint (n2, n3, es) == s) = true := by simpa using c3
    exact ⟨((n2, n3, es), true), by simp only [d3, Bool.not_true, cond_false], .inr ⟨_, rfl, c2, c3⟩⟩
   ·have d3 : (showHint (n2, n3, es) == s) = false := by simpa using c3
    exact ⟨(zeroHint, false), by simp only [d3, Bool.not_false, cond_true]; rfl, .inl rfl⟩
theorem hint_in {h : HintT} (k : hintOk h = true) : numIn h.1 ∧ numIn h.2.1 ∧ h.2.2.length ≤ 20 ∧ ∀ e ∈ h.2.2, e.1.length ≤ 8 ∧ numIn e.2.1 ∧ numIn e.2.2.1 ∧ numIn e.2.2.2.1 ∧ numIn e.2.2.2.2 := by
 unfold hintOk at k
 simp only [Bool.and_eq_true, decide_eq_true_eq, List.all_eq_true] at k
 obtain ⟨k1, k2, k3, k4⟩ := k
 have hd := dirOk_mem k4
 refine ⟨⟨k2.1, by omega⟩, ⟨k3.1, by omega⟩, hd.1, fun e he => ?_⟩
 have ho := hd.2 e he
 have hs := k1 e he
 have hk := entry_key ho
 unfold entryOk at ho
 unfold sameSeg at hs
 simp only [Bool.and_eq_true, decide_eq_true_eq, Bool.not_eq_true', decide_eq_false_iff_not] at ho hs
 unfold numIn
 omega
theorem isHint_text {s : List UInt8} {h : HintT} (k : isHint s h) : s = fix4 (crcT (hintBd h)) ++ hintBd h ∧ (fix4 (crcT (hintBd h))).length = 4 := by
 refine ⟨?_, fix4_len4 (crcT_range _)⟩
 rw [← k.2]; unfold showHint; rw [if_neg (by rw [k.1]; simp)]
theorem entT_eq (e : EntryT) (r : List UInt8) : entT e ++ r = varT (e.1.length : Int) ++ (e.1 ++ (varT e.2.1 ++ (varT e.2.2.1 ++ (varT e.2.2.2.1 ++ (varT e.2.2.2.2 ++ r))))) := by
 unfold entT; simp only [List.append_assoc]
theorem impl_ReadHint_back {s : List UInt8} {h : HintT} (k : isHint s h) : impl_ReadHint.f s = some (h, true) := by
 obtain ⟨es, h4⟩ := isHint_text k
 obtain ⟨n1, n2, n3, n4⟩ := hint_in k.1
 have hbl := hintB_len k.1
 have hsh := k.2
 have hok := k.1
 obtain ⟨z, m, l⟩ := h
 simp only at n1 n2 n3 n4
 have hcnt : numIn (l.length : Int) := ⟨by omega, by omega⟩
 have hbd : hintBd (z, m, l) = varT z ++ (varT m ++ (varT (l.length : Int) ++ (l.map entT).flatten)) := by unfold hintBd; simp only [List.append_assoc]
 have hbl2 := hbl
 rw [hbd] at hbl2
 simp only [List.length_append] at hbl2
 have b0 := bytes_back (fix4 (crcT (hintBd (z, m, l)))) (hintBd (z, m, l))
 rw [← es, h4, hbd] at b0
 have b0 : impl_scanner_bytes.f (s, false) 4 = _ := b0
 have m1 := num_back n1 (varT m ++ (varT (l.length : Int) ++ (l.map entT).flatten)) (by simp only [List.length_append]; omega)
 have m2 := num_back n2 (varT (l.length : Int) ++ (l.map entT).flatten) (by simp only [List.length_append]; omega)
 have m3 := num_back hcnt (l.map entT).flatten (by simp only [List.length_append]; omega)
 have hfl : ∀ n, ((l.drop n).map entT).flatten.length ≤ 43 * (l.drop n).length := fun n => entsT_len (fun x hx => (n4 x (List.mem_of_mem_drop hx)).1)
 have key := lp_up (step := impl_ReadHint.l0) (fun n (_ : Unit) => (s, ((0, 0, []) : HintT), (((l.drop n).map entT).flatten, false), ((z, m, l.take n) : HintT), (l.length : Int), (n : Int))) l.length (fun _ _ => (s, (0, 0, []), ([], false), (z, m, l))) (fun _ _ => True)
  (fun rec n _ hn _ ih => by
   rcases Nat.lt_or_ge n l.length with h1 | h1
   ·have hw := w64_succ (show n + 1 < 9223372036854775808 by omega)
    obtain ⟨k0, k1, k2, k3, k5⟩ := n4 _ (List.getElem_mem h1)
    have hk0 : numIn (l[n].1.length : Int) := ⟨by omega, by omega⟩
    have hd : ((l.drop n).map entT).flatten = entT l[n] ++ ((l.drop (n + 1)).map entT).flatten := by
     rw [List.drop_eq_getElem_cons h1]; rfl
    have hlen := hfl n
    rw [hd, entT_eq] at hlen
    rw [List.length_drop] at hlen
    simp only [List.length_append] at hlen
    have t0 := text_back l[n].1 (varT l[n].2.1 ++ (varT l[n].2.2.1 ++ (varT l[n].2.2.2.1 ++ (varT l[n].2.2.2.2 ++ ((l.drop (n + 1)).map entT).flatten)))) hk0 (by simp only [List.length_append]; omega)
    have t1 := num_back k1 (varT l[n].2.2.1 ++ (varT l[n].2.2.2.1 ++ (varT l[n].2.2.2.2 ++ ((l.drop (n + 1)).map entT).flatten))) (by simp only [List.length_append]; omega)
    have t2 := num_back k2 (varT l[n].2.2.2.1 ++ (varT l[n].2.2.2.2 ++ ((l.drop (n + 1)).map entT).flatten)) (by simp only [List.length_append]; omega)
    have t3 := num_back k3 (varT l[n].2.2.2.2 ++ ((l.drop (n + 1)).map entT).flatten) (by simp only [List.length_append]; omega)
    have t4 := num_back k5 ((l.drop (n + 1)).map entT).flatten (by simp only [List.length_append]; omega)
    have hb : ((l.take n).length + ([l[n]] : List EntryT).length) * 48 ≤ 140737488355328 := lim48'' (by rw [List.length_take]; omega)
    have hi : l.take n ++ [l[n]] = l.take (n + 1) := (List.take_succ_eq_append_getElem h1).symm
    have hp : ((l[n].1, l[n].2.1, l[n].2.2.1, l[n].2.2.2.1, l[n].2.2.2.2) : EntryT) = l[n] := rfl
    simp only [impl_ReadHint.l0, Int.ofNat_lt, h1, decide_true, cond_true, hd, entT_eq, Bool.not_false, t0, t1, t2, t3, t4, Option.bind_some, hp, hb, hw, hi, ih () h1 trivial]
   ·have : n = l.length := by omega
    subst this
    simp [impl_ReadHint.l0])
  (by omega) 0 () (Nat.zero_le _) trivial
 have key : lp impl_ReadHint.l0 (s, (0, 0, []), ((l.map entT).flatten, false), (z, m, []), (l.length : Int), 0) = _ := key
 unfold impl_ReadHint.f
 simp only [b0, m1, m2, m3, Option.bind_some, key, cond_false, impl_hintOk_eq (z, m, l) (show l.length < 1000000000 by omega), hok, Bool.not_true, impl_ShowHint_eq (z, m, l) (show l.length < 1000000000 by omega), hsh, beq_self_eq_true]
theorem l10Vars_back (pre : List UInt8) (ns : List Int) (r : List UInt8) (hn : ∀ x ∈ ns, numIn x) (hl : (pre ++ ((ns.map varT).flatten ++ r)).length < 1000000000) :
  spec_l10Vars.f (pre ++ ((ns.map varT).flatten ++ r)) (pre.length : Int) (ns.length : Int) = some (ns, (((pre ++ (ns.map varT).flatten).length : Nat) : Int)) := by
 have hat : ∀ n, (pre ++ ((ns.map varT).flatten ++ r)).drop (pre ++ ((ns.take n).map varT).flatten).length = ((ns.drop n).map varT).flatten ++ r := fun n => by
  have e : pre ++ ((ns.map varT).flatten ++ r) = (pre ++ ((ns.take n).map varT).flatten) ++ (((ns.drop n).map varT).flatten ++ r) := by
   simp only [List.append_assoc]
   congr 1
   rw [← List.append_assoc, ← List.flatten_append, ← List.map_append, List.take_append_drop]
  rw [e, List.drop_left]
 have hnl : ns.length ≤ ((ns.map varT).flatten).length := by
  clear hl hat
  induction ns with
  | nil => simp
  | cons x l ih =>
   have := (readVar_back (hn x List.mem_cons_self) []).2
   have := ih (fun y hy => hn y (List.mem_cons_of_mem _ hy))
   simp only [List.map_cons, List.flatten_cons, List.length_append, List.length_cons]; omega
 generalize hT : pre ++ ((ns.map varT).flatten ++ r) = T at *
 have hTl : T.length = pre.length + (((ns.map varT).flatten).length + r.length) := by rw [← hT]; simp only [List.length_append]
 have key := lp_up (step := spec_l10Vars.l0) (fun n (_ : Unit) => (T, (((pre ++ ((ns.take n).map varT).flatten).length : Nat) : Int), (ns.length : Int), ns.take n, (n : Int))) ns.length (fun _ _ => .inl ((((pre ++ (ns.map varT).flatten).length : Nat) : Int), ns)) (fun _ _ => True)
  (fun rec n _ hn' _ ih => by
   rcases Nat.lt_or_ge n ns.length with h1 | h1
   ·have hw := w64_succ (show n + 1 < 9223372036854775808 by omega)
    have hin := hn _ (List.getElem_mem h1)
    have hd : ((ns.drop n).map varT).flatten = varT ns[n] ++ ((ns.drop (n + 1)).map varT).flatten := by
     rw [List.drop_eq_getElem_cons h1]; rfl
    have hta : (pre ++ ((ns.take (n + 1)).map varT).flatten).length = (pre ++ ((ns.take n).map varT).flatten).length + (varT ns[n]).length := by
     rw [List.take_succ_eq_append_getElem h1, List.map_append, List.flatten_append, List.length_append, List.length_append, List.length_append]
     show _ + (_ + (varT ns[n] ++ []).length) = _
     rw [List.append_nil, Nat.add_assoc]
    have r3 := readVar_back hin (((ns.drop (n + 1)).map varT).flatten ++ r)
    have hv := varT_len ns[n]
    have hdl : T.length - (pre ++ ((ns.take n).map varT).flatten).length = (varT ns[n]).length + (((ns.drop (n + 1)).map varT).flatten ++ r).length := by
     have := congrArg List.length (hat n)
     rw [List.length_drop, hd, List.append_assoc] at this
     rw [this, List.length_append]
    have hin2 : (decide (0 ≤ (((pre ++ ((ns.take n).map varT).flatten).length : Nat) : Int)) && decide ((((pre ++ ((ns.take n).map varT).flatten).length : Nat) : Int) ≤ (T.length : Int))) = true := by
     simp only [Bool.and_eq_true, decide_eq_true_eq]; omega
    have hb : ((ns.take n).length + ([ns[n]] : List Int).length) * 8 ≤ 140737488355328 := lim8 (by rw [List.length_take]; omega)
    have hi : ns.take n ++ [ns[n]] = ns.take (n + 1) := (List.take_succ_eq_append_getElem h1).symm
    have hwo : w64 ((((pre ++ ((ns.take n).map varT).flatten).length : Nat) : Int) + ((varT ns[n]).length : Int)) = (((pre ++ ((ns.take (n + 1)).map varT).flatten).length : Nat) : Int) := by
     rw [w64_id (by omega) (by omega), hta]; omega
    have hz : (((varT ns[n]).length : Int) == 0) = false := by
     have := r3.2
     have : ¬ ((varT ns[n]).length : Int) = 0 := by omega
     simpa using this
    simp only [spec_l10Vars.l0, Int.ofNat_lt, h1, decide_true, cond_true, hin2, Int.toNat_natCast, hat n, hd, List.append_assoc]
    rw [spec_ReadVar_eq _ (by rw [List.length_append]; omega), r3.1, Option.bind_some]
    simp only [hz, cond_false, hb, decide_true, cond_true, hi, hwo, hw, ih () h1 trivial]
   ·have : n = ns.length := by omega
    subst this
    simp [spec_l10Vars.l0])
  (by omega) 0 () (Nat.zero_le _) trivial
 have key : lp spec_l10Vars.l0 (T, (((pre ++ ((ns.take 0).map varT).flatten).length : Nat) : Int), (ns.length : Int), ns.take 0, 0) = _ := key
 have h0 : (pre ++ ((ns.take 0).map varT).flatten).length = pre.length := by simp
 rw [h0] at key
 have key : lp spec_l10Vars.l0 (T, (pre.length : Int), (ns.length : Int), [], 0) = _ := key
 unfold spec_l10Vars.f
 rw [key, Option.bind_some]
 simp only [caseS_l]
theorem l10Vars_tot (s : List UInt8) (a : Int) (n : Nat) (ha : 0 ≤ a ∧ a ≤ (s.length : Int)) (hn : n ≤ 10) (hl : s.length < 1000000000) :
  ∃ l b, spec_l10Vars.f s a (n : Int) = some (l, b) ∧ l.length = n ∧ (b = -1 ∨ (0 ≤ b ∧ b ≤ (s.length : Int))) := by
 have key := lp_ok (step := spec_l10Vars.l0) (a := (s, a, (n : Int), [], 0))
  (fun x => ∃ (l : List Int) (p : Int), x = (s, p, (n : Int), l, (l.length : Int)) ∧ 0 ≤ p ∧ p ≤ (s.length : Int) ∧ l.length ≤ n)
  (fun x => 11 - x.2.2.2.1.length)
  (fun b => (∃ (l : List Int) (p : Int), b = .inl (p, l) ∧ 0 ≤ p ∧ p ≤ (s.length : Int) ∧ l.length = n) ∨ b = .inr (List.replicate n 0, -1))
  (fun rec x hx => by
   obtain ⟨l, p, rfl, h1, h2, h3⟩ := hx
   by_cases c : l.length < n
   rotate_left
   ·left
    exact ⟨.inl (p, l), by simp [spec_l10Vars.l0, c], .inl ⟨l, p, rfl, h1, h2, by omega⟩⟩
   have hin : (decide (0 ≤ p) && decide (p ≤ (s.length : Int))) = true := by simp only [Bool.and_eq_true, decide_eq_true_eq]; omega
   have v3 := readVar_len (s.drop p.toNat)
   rw [List.length_drop] at v3
   have hw := w64_succ (show l.length + 1 < 9223372036854775808 by omega)
   have hwp : w64 (p + (readVar (s.drop p.toNat)).2) = p + (readVar (s.drop p.toNat)).2 := w64_id (by omega) (by omega)
   have hb : (l.length + ([(readVar (s.drop p.toNat)).1] : List Int).length) * 8 ≤ 140737488355328 := lim8 (by omega)
   have hrv := spec_ReadVar_eq (s.drop p.toNat) (by rw [List.length_drop]; omega)
   by_cases c2 : (readVar (s.drop p.toNat)).2 = 0
   ·left
    have d2 : ((readVar (s.drop p.toNat)).2 == 0) = true := by simpa using c2
    have d3 : (decide (0 ≤ (n : Int)) && decide (8 * (n : Int) ≤ 140737488355328)) = true := by simp only [Bool.and_eq_true, decide_eq_true_eq]; omega
    refine ⟨.inr (List.replicate n 0, -1), ?_, .inr rfl⟩
    simp only [spec_l10Vars.l0, Int.ofNat_lt, c, decide_true, cond_true, hin, hrv, Option.bind_some, d2, beq_self_eq_true, d3, Int.toNat_natCast]
   ·right
    have d2 : ((readVar (s.drop p.toNat)).2 == 0) = false := by simpa using c2
    refine ⟨(s, p + (readVar (s.drop p.toNat)).2, (n : Int), l ++ [(readVar (s.drop p.toNat)).1], ((l.length + 1 : Nat) : Int)), ⟨l ++ [(readVar (s.drop p.toNat)).1], p + (readVar (s.drop p.toNat)).2, by simp only [List.length_append, List.length_singleton], by omega, by omega, by simp only [List.length_append, List.length_singleton]; omega⟩, by simp only [List.length_append, List.length_singleton]; omega, ?_⟩
    simp only [spec_l10Vars.l0, Int.ofNat_lt, c, decide_true, cond_true, hin, hrv, Option.bind_some, d2, cond_false, hb, hwp, hw])
  ⟨[], a, rfl, ha.1, ha.2, by simp⟩ (by simp)
 obtain ⟨b, eb, hb⟩ := key
 unfold spec_l10Vars.f
 rw [eb, Option.bind_some]
 rcases hb with ⟨l, p, rfl, h1, h2, h3⟩ | rfl
 ·simp only [caseS_l]; exact ⟨l, p, rfl, h3, .inr ⟨h1, h2⟩⟩
 ·simp only [caseS_r]; exact ⟨_, _, rfl, by simp, .inl rfl⟩
theorem spec_ReadHint_back {s : List UInt8} {h : HintT} (k : isHint s h) : spec_ReadHint.f s = some (h, true) := by
 obtain ⟨es, h4⟩ := isHint_text k
 obtain ⟨n1, n2, n3, n4⟩ := hint_in k.1
 have hbl := hintB_len k.1
 have hsh := k.2
 obtain ⟨z, m, l⟩ := h
 simp only at n1 n2 n3 n4
 have hcnt : numIn (l.length : Int) := ⟨by omega, by omega⟩
 generalize hF : fix4 (crcT (hintBd (z, m, l))) = F at *
 have hbd : hintBd (z, m, l) = (([z, m, (l.length : Int)] : List Int).map varT).flatten ++ (l.map entT).flatten := by
  unfold hintBd; simp
 rw [hbd] at es hbl
 have hsl : s.length ≤ 1004 := by rw [es, List.length_append, h4]; omega
 have v0 := l10Vars_back F [z, m, (l.length : Int)] (l.map entT).flatten (by
  intro x hx
  simp only [List.mem_cons, List.not_mem_nil, or_false] at hx
  rcases hx with rfl | rfl | rfl
  ·exact n1
  ·exact n2
  ·exact hcnt) (by rw [← es]; omega)
 rw [← es, h4] at v0
 have v0 : spec_l10Vars.f s 4 3 = _ := v0
 have hfl : ∀ n, ((l.drop n).map entT).flatten.length ≤ s.length := fun n => by
  have e : l.map entT = (l.take n).map entT ++ (l.drop n).map entT := by rw [← List.map_append, List.take_append_drop]
  rw [es, e, List.flatten_append]
  simp only [List.length_append]; omega
 have hat : ∀ n, s.drop (s.length - ((l.drop n).map entT).flatten.length) = ((l.drop n).map entT).flatten := fun n => by
  have e : l.map entT = (l.take n).map entT ++ (l.drop n).map entT := by rw [← List.map_append, List.take_append_drop]
  have es2 : s = (F ++ ((([z, m, (l.length : Int)] : List Int).map varT).flatten ++ ((l.take n).map entT).flatten)) ++ ((l.drop n).map entT).flatten := by
   rw [es, e, List.flatten_append]; simp only [List.append_assoc]
  have hl : s.length - ((l.drop n).map entT).flatten.length = (F ++ ((([z, m, (l.length : Int)] : List Int).map varT).flatten ++ ((l.take n).map entT).flatten)).length := by
   have := congrArg List.length es2
   rw [List.length_append] at this; omega
  rw [hl]
  conv => lhs; rw [es2]
  exact List.drop_left
 have key := lp_up (step := spec_ReadHint.l0) (fun n (_ : Unit) => (s, ((0, 0, []) : HintT), ([z, m, (l.length : Int)] : List Int), (((s.length - ((l.drop n).map entT).flatten.length : Nat)) : Int), ((z, m, l.take n) : HintT), (n : Int))) l.length (fun _ _ => .inl (s, (0, 0, []), (z, m, l))) (fun _ _ => True)
  (fun rec n _ hn _ ih => by
   have hrd : rdA 0 ([z, m, (l.length : Int)] : List Int) 2 = (l.length : Int) := rfl
   rcases Nat.lt_or_ge n l.length with h1 | h1
   ·have hw := w64_succ (show n + 1 < 9223372036854775808 by omega)
    obtain ⟨k0, k1, k2, k3, k5⟩ := n4 _ (List.getElem_mem h1)
    have hk0 : numIn (l[n].1.length : Int) := ⟨by omega, by omega⟩
    have hd : ((l.drop n).map entT).flatten = entT l[n] ++ ((l.drop (n + 1)).map entT).flatten := by
     rw [List.drop_eq_getElem_cons h1]; rfl
    have hf0 := hfl n
    have hf1 := hfl (n + 1)
    generalize hR : ((l.drop (n + 1)).map entT).flatten = R at *
    generalize hD : ((l.drop n).map entT).flatten = D at *
    have hat0 := hat n
    rw [hD] at hat0
    rw [entT_eq] at hd
    have hlen := congrArg List.length hd
    simp only [List.length_append] at hlen
    have t0 := l5Text_back l[n].1 (varT l[n].2.1 ++ (varT l[n].2.2.1 ++ (varT l[n].2.2.2.1 ++ (varT l[n].2.2.2.2 ++ R)))) hk0 (by simp only [List.length_append]; omega)
    rw [← hd] at t0
    have t1 := l10Vars_back [] [l[n].2.1, l[n].2.2.1, l[n].2.2.2.1, l[n].2.2.2.2] R (by
     intro x hx
     simp only [List.mem_cons, List.not_mem_nil, or_false] at hx
     rcases hx with rfl | rfl | rfl | rfl
     ·exact k1
     ·exact k2
     ·exact k3
     ·exact k5) (by simp only [List.nil_append, List.map_cons, List.map_nil, List.flatten_cons, List.flatten_nil, List.append_nil, List.length_append]; omega)
    have e4 : ([] : List UInt8) ++ ((([l[n].2.1, l[n].2.2.1, l[n].2.2.2.1, l[n].2.2.2.2] : List Int).map varT).flatten ++ R) = varT l[n].2.1 ++ (varT l[n].2.2.1 ++ (varT l[n].2.2.2.1 ++ (varT l[n].2.2.2.2 ++ R))) := by simp
    rw [e4] at t1
    have t1 : spec_l10Vars.f (varT l[n].2.1 ++ (varT l[n].2.2.1 ++ (varT l[n].2.2.2.1 ++ (varT l[n].2.2.2.2 ++ R)))) 0 4 = _ := t1
    have hE : ((([] : List UInt8) ++ (([l[n].2.1, l[n].2.2.1, l[n].2.2.2.1, l[n].2.2.2.2] : List Int).map varT).flatten).length : Nat) = (varT l[n].2.1).length + ((varT l[n].2.2.1).length + ((varT l[n].2.2.2.1).length + (varT l[n].2.2.2.2).length)) := by
     simp
    rw [hE] at t1
    have hT : (varT l[n].2.1 ++ (varT l[n].2.2.1 ++ (varT l[n].2.2.2.1 ++ (varT l[n].2.2.2.2 ++ R)))).length = (varT l[n].2.1).length + ((varT l[n].2.2.1).length + ((varT l[n].2.2.2.1).length + ((varT l[n].2.2.2.2).length + R.length))) := by simp only [List.length_append]
    have hin : (decide (0 ≤ (((s.length - D.length : Nat)) : Int)) && decide ((((s.length - D.length : Nat)) : Int) ≤ (s.length : Int))) = true := by simp only [Bool.and_eq_true, decide_eq_true_eq]; omega
    have hpos : decide ((((varT l[n].2.1).length + ((varT l[n].2.2.1).length + ((varT l[n].2.2.2.1).length + (varT l[n].2.2.2.2).length)) : Nat) : Int) < 0) = false := by simp; omega
    have hb : ((l.take n).length + ([l[n]] : List EntryT).length) * 48 ≤ 140737488355328 := lim48'' (by rw [List.length_take]; omega)
    have hi : l.take n ++ [l[n]] = l.take (n + 1) := (List.take_succ_eq_append_getElem h1).symm
    have hp : ((l[n].1, l[n].2.1, l[n].2.2.1, l[n].2.2.2.1, l[n].2.2.2.2) : EntryT) = l[n] := rfl
    have hy : w64 (w64 ((s.length : Int) - ((varT l[n].2.1 ++ (varT l[n].2.2.1 ++ (varT l[n].2.2.2.1 ++ (varT l[n].2.2.2.2 ++ R)))).length : Int)) + (((varT l[n].2.1).length + ((varT l[n].2.2.1).length + ((varT l[n].2.2.2.1).length + (varT l[n].2.2.2.2).length)) : Nat) : Int)) = (((s.length - R.length : Nat)) : Int) := by
     have w1 := w64_id (n := (s.length : Int) - (((varT l[n].2.1).length + ((varT l[n].2.2.1).length + ((varT l[n].2.2.2.1).length + ((varT l[n].2.2.2.2).length + R.length))) : Nat) : Int)) (by omega) (by omega)
     rw [hT, w1, w64_id (by omega) (by omega)]; omega
    have i2 : inB 2 ([z, m, (l.length : Int)] : List Int).length = true := rfl
    have j0 : inB 0 ([l[n].2.1, l[n].2.2.1, l[n].2.2.2.1, l[n].2.2.2.2] : List Int).length = true := rfl
    have j1 : inB 1 ([l[n].2.1, l[n].2.2.1, l[n].2.2.2.1, l[n].2.2.2.2] : List Int).length = true := rfl
    have j2 : inB 2 ([l[n].2.1, l[n].2.2.1, l[n].2.2.2.1, l[n].2.2.2.2] : List Int).length = true := rfl
    have j3 : inB 3 ([l[n].2.1, l[n].2.2.1, l[n].2.2.2.1, l[n].2.2.2.2] : List Int).length = true := rfl
    have r0 : rdA 0 ([l[n].2.1, l[n].2.2.1, l[n].2.2.2.1, l[n].2.2.2.2] : List Int) 0 = l[n].2.1 := rfl
    have r1 : rdA 0 ([l[n].2.1, l[n].2.2.1, l[n].2.2.2.1, l[n].2.2.2.2] : List Int) 1 = l[n].2.2.1 := rfl
    have r2 : rdA 0 ([l[n].2.1, l[n].2.2.1, l[n].2.2.2.1, l[n].2.2.2.2] : List Int) 2 = l[n].2.2.2.1 := rfl
    have r3 : rdA 0 ([l[n].2.1, l[n].2.2.1, l[n].2.2.2.1, l[n].2.2.2.2] : List Int) 3 = l[n].2.2.2.2 := rfl
    have ih := ih () h1 trivial
    have ht : (s.drop ((((s.length - D.length : Nat)) : Int)).toNat) = D := by rw [Int.toNat_natCast]; exact hat0
    simp only [spec_ReadHint.l0, i2, cond_true, hrd, Int.ofNat_lt, h1, decide_true, hin, ht, t0, Option.bind_some, t1, Bool.not_true, cond_false, hpos, j0, j1, j2, j3, r0, r1, r2, r3, hp, hb, hi, hy, hw, ih]
   ·have : n = l.length := by omega
    subst this
    have i2 : inB 2 ([z, m, (l.length : Int)] : List Int).length = true := rfl
    simp only [spec_ReadHint.l0, i2, cond_true, hrd, Int.lt_irrefl, decide_false, cond_false, List.take_length])
  (by omega) 0 () (Nat.zero_le _) trivial
 have hp0 : (F ++ (([z, m, (l.length : Int)] : List Int).map varT).flatten).length = s.length - ((l.drop 0).map entT).flatten.length := by
  rw [List.drop_zero, es]; simp only [List.length_append]; omega
 have key : lp spec_ReadHint.l0 (s, (0, 0, []), [z, m, (l.length : Int)], (((s.length - ((l.drop 0).map entT).flatten.length : Nat)) : Int), (z, m, []), 0) = _ := key
 rw [← hp0] at key
 have c0 : decide ((s.length : Int) < 4) = false := by rw [es]; simp; omega
 have c1 : decide ((((F ++ (([z, m, (l.length : Int)] : List Int).map varT).flatten).length : Nat) : Int) < 0) = false := by simp; omega
 have i2 : inB 2 ([z, m, (l.length : Int)] : List Int).length = true := rfl
 have i1 : inB 1 ([z, m, (l.length : Int)] : List Int).length = true := rfl
 have i0 : inB 0 ([z, m, (l.length : Int)] : List Int).length = true := rfl
 have q2 : rdA 0 ([z, m, (l.length : Int)] : List Int) 2 = (l.length : Int) := rfl
 have q1 : rdA 0 ([z, m, (l.length : Int)] : List Int) 1 = m := rfl
 have q0 : rdA 0 ([z, m, (l.length : Int)] : List Int) 0 = z := rfl
 have c2 : decide ((l.length : Int) > 20) = false := by simp; omega
 have c3 : (showHint (z, m, l) == s) = true := by simpa using hsh
 unfold spec_ReadHint.f
 simp only [c0, cond_false, v0, Option.bind_some, c1, i0, i1, i2, q0, q1, q2, c2, cond_true, key, caseS_l, spec_ShowHint_eq (z, m, l) (show l.length < 1000000000 by omega), c3, Bool.not_true]
theorem spec_ReadHint_tot (s : List UInt8) (hl : s.length < 900000000) : ∃ res : HintT × Bool, spec_ReadHint.f s = some res ∧ (res = (zeroHint, false) ∨ ∃ h, res = (h, true) ∧ isHint s h) := by
 unfold spec_ReadHint.f
 by_cases c0 : (s.length : Int) < 4
 ·exact ⟨(zeroHint, false), by rw [decide_eq_true c0]; rfl, .inl rfl⟩
 rw [decide_eq_false c0, cond_false]
 obtain ⟨a, b, e1, la, hb⟩ := l10Vars_tot s 4 3 (by omega) (by omega) (by omega)
 have e1 : spec_l10Vars.f s 4 3 = _ := e1
 rw [e1, Option.bind_some]
 simp only
 rcases hb with rfl | hb
 ·exact ⟨(zeroHint, false), rfl, .inl rfl⟩
 have c1 : decide (b < 0) = false := by simp; omega
 obtain ⟨a0, a1, a2, rfl⟩ : ∃ a0 a1 a2 : Int, a = [a0, a1, a2] := by
  match a, la with
  | [a0, a1, a2], _ => exact ⟨a0, a1, a2, rfl⟩
 have i2 : inB 2 ([a0, a1, a2] : List Int).length = true := rfl
 have i1 : inB 1 ([a0, a1, a2] : List Int).length = true := rfl
 have i0 : inB 0 ([a0, a1, a2] : List Int).length = true := rfl
 have q2 : rdA 0 ([a0, a1, a2] : List Int) 2 = a2 := rfl
 have q1 : rdA 0 ([a0, a1, a2] : List Int) 1 = a1 := rfl
 have q0 : rdA 0 ([a0, a1, a2] : List Int) 0 = a0 := rfl
 rw [c1, i0, i1, i2, q0, q1, q2]
 simp only [cond_false, cond_true]
 by_cases c2 : a2 > 20
 ·exact ⟨(zeroHint, false), by rw [decide_eq_true c2]; rfl, .inl rfl⟩
 rw [decide_eq_false c2, cond_false]
 have key := lp_ok (step := spec_ReadHint.l0) (a := (s, ((0, 0, []) : HintT), ([a0, a1, a2] : List Int), b, ((a0, a1, []) : HintT), 0))
  (fun x => ∃ (es : List EntryT) (p : Int), x = (s, (0, 0, []), [a0, a1, a2], p, (a0, a1, es), (es.length : Int)) ∧ 0 ≤ p ∧ p ≤ (s.length : Int) ∧ es.length ≤ 20)
  (fun x => 21 - x.2.2.2.2.1.2.2.length)
  (fun y => (∃ es : List EntryT, y = .inl (s, (0, 0, []), (a0, a1, es)) ∧ es.length ≤ 20) ∨ y = .inr ((0, 0, []), false))
  (fun rec x hx => by
   obtain ⟨es, p, rfl, h1, h2, h3⟩ := hx
   by_cases c : (es.length : Int) < a2
   rotate_left
   ·left; exact ⟨_, by simp only [spec_ReadHint.l0, i2, cond_true, q2, c, decide_false, cond_false], .inl ⟨es, rfl, h3⟩⟩
   have hin : (decide (0 ≤ p) && decide (p ≤ (s.length : Int))) = true := by simp only [Bool.and_eq_true, decide_eq_true_eq]; omega
   obtain ⟨t, r, tb, t0, tl, rl⟩ := l5Text_tot (s.drop p.toNat) (by rw [List.length_drop]; omega)
   rw [List.length_drop] at tl rl
   obtain ⟨bl, e, t1, lb, he⟩ := l10Vars_tot r 0 4 (by omega) (by omega) (by omega)
   have t1 : spec_l10Vars.f r 0 4 = _ := t1
   obtain ⟨b0, b1, b2, b3, rfl⟩ : ∃ b0 b1 b2 b3 : Int, bl = [b0, b1, b2, b3] := by
    match bl, lb with
    | [b0, b1, b2, b3], _ => exact ⟨b0, b1, b2, b3, rfl⟩
   cases tb with
   | false => left; exact ⟨_, by simp only [spec_ReadHint.l0, i2, cond_true, q2, c, decide_true, hin, t0, Option.bind_some, t1, Bool.not_false], .inr rfl⟩
   | true =>
    rcases he with rfl | he
    ·left; exact ⟨_, by simp only [spec_ReadHint.l0, i2, cond_true, q2, c, decide_true, hin, t0, Option.bind_some, t1, Bool.not_true, cond_false, show decide ((-1 : Int) < 0) = true from rfl], .inr rfl⟩
    right
    have ce : decide (e < 0) = false := by simp; omega
    have hw := w64_succ (show es.length + 1 < 9223372036854775808 by omega)
    have hb : (es.length + ([(t, b0, b1, b2, b3)] : List EntryT).length) * 48 ≤ 140737488355328 := lim48'' (by omega)
    have hy : w64 (w64 ((s.length : Int) - (r.length : Int)) + e) = (s.length : Int) - (r.length : Int) + e := by
     rw [w64_id (n := (s.length : Int) - (r.length : Int)) (by omega) (by omega), w64_id (by omega) (by omega)]
    have j0 : inB 0 ([b0, b1, b2, b3] : List Int).length = true := rfl
    have j1 : inB 1 ([b0, b1, b2, b3] : List Int).length = true := rfl
    have j2 : inB 2 ([b0, b1, b2, b3] : List Int).length = true := rfl
    have j3 : inB 3 ([b0, b1, b2, b3] : List Int).length = true := rfl
    have r0 : rdA 0 ([b0, b1, b2, b3] : List Int) 0 = b0 := rfl
    have r1 : rdA 0 ([b0, b1, b2, b3] : List Int) 1 = b1 := rfl
    have r2 : rdA 0 ([b0, b1, b2, b3] : List Int) 2 = b2 := rfl
    have r3 : rdA 0 ([b0, b1, b2, b3] : List Int) 3 = b3 := rfl
    refine ⟨(s, (0, 0, []), [a0, a1, a2], (s.length : Int) - (r.length : Int) + e, (a0, a1, es ++ [(t, b0, b1, b2, b3)]), ((es.length + 1 : Nat) : Int)), ⟨es ++ [(t, b0, b1, b2, b3)], (s.length : Int) - (r.length : Int) + e, by simp only [List.length_append, List.length_singleton], by omega, by omega, by simp only [List.length_append, List.length_singleton]; omega⟩, by simp only [List.length_append, List.length_singleton]; omega, ?_⟩
    simp only [spec_ReadHint.l0, i2, cond_true, q2, c, decide_true, hin, t0, Option.bind_some, t1, Bool.not_true, cond_false, ce, j0, j1, j2, j3, r0, r1, r2, r3, hb, hy, hw])
  ⟨[], b, rfl, hb.1, hb.2, by simp⟩ (by simp)
 obtain ⟨y, ey, hy⟩ := key
 rw [ey, Option.bind_some]
 rcases hy with ⟨es, rfl, h20⟩ | rfl
 rotate_left
 ·exact ⟨(zeroHint, false), by simp only [caseS_r]; rfl, .inl rfl⟩
 simp only [caseS_l, spec_ShowHint_eq (a0, a1, es) (show es.length < 1000000000 by omega), Option.bind_some]
 by_cases c5 : showHint (a0, a1, es) = s
 rotate_left
 ·have d5 : (showHint (a0, a1, es) == s) = false := by simpa using c5
  exact ⟨(zeroHint, false), by simp only [d5, Bool.not_false, cond_true]; rfl, .inl rfl⟩
 have d5 : (showHint (a0, a1, es) == s) = true := by simpa using c5
 refine ⟨((a0, a1, es), true), by simp only [d5, Bool.not_true, cond_false], .inr ⟨_, rfl, ?_, c5⟩⟩
 cases hk : hintOk (a0, a1, es) with
 | true => rfl
 | false =>
  exfalso
  have : showHint (a0, a1, es) = [] := by unfold showHint; rw [if_pos hk]
  rw [this] at c5
  rw [← c5] at c0
  simp at c0
noncomputable def readHint (s : List UInt8) : HintT × Bool := @dite (HintT × Bool) (∃ v, isHint s v) (Classical.propDecidable _) (fun h => (h.choose, true)) (fun _ => (zeroHint, false))
theorem readHint_of {s : List UInt8} {o : Option (HintT × Bool)} (h1 : ∀ v, isHint s v → o = some (v, true)) (h2 : ∃ res : HintT × Bool, o = some res ∧ (res = (zeroHint, false) ∨ ∃ v, res = (v, true) ∧ isHint s v)) : o = some (readHint s) := by
 unfold readHint
 by_cases h : ∃ v, isHint s v
 ·rw [dif_pos h]; exact h1 _ h.choose_spec
 ·rw [dif_neg h]
  obtain ⟨res, e, k | ⟨v, _, hv⟩⟩ := h2
  ·rw [e, k]
  ·exact absurd ⟨v, hv⟩ h
theorem impl_ReadHint_eq (s : List UInt8) (hl : s.length < 900000000) : impl_ReadHint.f s = some (readHint s) := readHint_of (fun _ h => impl_ReadHint_back h) (impl_ReadHint_tot s hl)
theorem spec_ReadHint_eq (s : List UInt8) (hl : s.length < 900000000) : spec_ReadHint.f s = some (readHint s) := readHint_of (fun _ h => spec_ReadHint_back h) (spec_ReadHint_tot s hl)
theorem readHint_cases (s : List UInt8) : readHint s = (zeroHint, false) ∧ (¬ ∃ v, isHint s v) ∨ ∃ v, readHint s = (v, true) ∧ isHint s v := by
 unfold readHint
 by_cases h : ∃ v, isHint s v
 ·rw [dif_pos h]; exact .inr ⟨_, rfl, h.choose_spec⟩
 ·rw [dif_neg h]; exact .inl ⟨rfl, h⟩
theorem entry_and (x y : EntryT) : (x.1 == y.1 && (x.2.1 == y.2.1 && (x.2.2.1 == y.2.2.1 && (x.2.2.2.1 == y.2.2.2.1 && x.2.2.2.2 == y.2.2.2.2)))) = decide (x = y) := by
 obtain ⟨a, b, c, d, e⟩ := x
 obtain ⟨a', b', c', d', e'⟩ := y
 apply Bool.eq_iff_iff.2
 simp
theorem impl_SameDir_eq (a b : List EntryT) (ha : a.length < 2 ^ 62) : impl_SameDir.f a b = some (decide (a = b)) := by
 unfold impl_SameDir.f
 by_cases hl : a.length = b.length
 rotate_left
 ·rw [len_ne hl]
  have : ¬ a = b := fun e => hl (by rw [e])
  rw [decide_eq_false this]; rfl
 rw [len_eq hl, cond_false]
 have key := all_loop (step := impl_SameDir.l0) (List.range a.length) (fun i => decide (a.getD i ([], 0, 0, 0, 0) = b.getD i ([], 0, 0, 0, 0))) (fun n => (a, b, (a.length : Int), (n : Int))) () (by simpa using ha)
  (fun rec n h => by
   have h1 : n < a.length := by simpa using h
   have h2 : n < b.length := by omega
   have hw := w64_succ (show n + 1 < 9223372036854775808 by omega)
   have hr : (List.range a.length)[n] = n := by simp
   simp only [impl_SameDir.l0, Int.ofNat_lt, h1, decide_true, cond_true, inB_nat, h2, rdA_nat, entry_and, hw, hr]
   cases decide (a.getD n ([], 0, 0, 0, 0) = b.getD n ([], 0, 0, 0, 0)) <;> simp)
  (fun rec => by simp [impl_SameDir.l0])
 have key : lp impl_SameDir.l0 (a, b, (a.length : Int), 0) = _ := key
 rw [key, Option.bind_some]
 have hall : (List.range a.length).all (fun i => decide (a.getD i ([], 0, 0, 0, 0) = b.getD i ([], 0, 0, 0, 0))) = decide (a = b) := by
  apply Bool.eq_iff_iff.2
  rw [List.all_eq_true, decide_eq_true_eq]
  constructor
  ·intro h
   apply List.ext_getElem hl
   intro i h1 h2
   have := h i (by simpa using h1)
   simp only [decide_eq_true_eq] at this
   rwa [getD_lt h1, getD_lt h2] at this
  ·rintro rfl i _; simp
 rw [hall]
 by_cases e : a = b
 ·rw [decide_eq_true e]; simp [caseS_l]
 ·rw [decide_eq_false e]; simp [caseS_r]
theorem spec_SameDir_eq (a b : List EntryT) (ha : a.length < 2 ^ 62) : spec_SameDir.f a b = some (decide (a = b)) := by
 unfold spec_SameDir.f
 by_cases hl : a.length = b.length
 rotate_left
 ·rw [len_ne hl]
  have : ¬ a = b := fun e => hl (by rw [e])
  rw [decide_eq_false this]; rfl
 rw [len_eq hl, cond_false]
 have key := all_loop (step := spec_SameDir.l0) (List.range a.length) (fun i => decide (a.getD i ([], 0, 0, 0, 0) = b.getD i ([], 0, 0, 0, 0))) (fun n => (a, b, (n : Int))) () (by simpa using ha)
  (fun rec n h => by
   have h1 : n < a.length := by simpa using h
   have h2 : n < b.length := by omega
   have hw := w64_succ (show n + 1 < 9223372036854775808 by omega)
   have hr : (List.range a.length)[n] = n := by simp
   simp only [spec_SameDir.l0, Int.ofNat_lt, h1, decide_true, cond_true, inB_nat, h2, rdA_nat, entry_and, hw, hr]
   cases decide (a.getD n ([], 0, 0, 0, 0) = b.getD n ([], 0, 0, 0, 0)) <;> simp)
  (fun rec => by simp [spec_SameDir.l0])
 have key : lp spec_SameDir.l0 (a, b, 0) = _ := key
 rw [key, Option.bind_some]
 have hall : (List.range a.length).all (fun i => decide (a.getD i ([], 0, 0, 0, 0) = b.getD i ([], 0, 0, 0, 0))) = decide (a = b) := by
  apply Bool.eq_iff_iff.2
  rw [List.all_eq_true, decide_eq_true_eq]
  constructor
  ·intro h
   apply List.ext_getElem hl
   intro i h1 h2
   have := h i (by simpa using h1)
   simp only [decide_eq_true_eq] at this
   rwa [getD_lt h1, getD_lt h2] at this
  ·rintro rfl i _; simp
 rw [hall]
 by_cases e : a = b
 ·rw [decide_eq_true e]; simp [caseS_l]
 ·rw [decide_eq_false e]; simp [caseS_r]
noncomputable def hintFits (id : Int) (t : List UInt8) (h : HintT) : Bool := decide (hintOf id t = (h, true))
theorem hint_split (x : HintT × Bool) (h : HintT) : (bif x.2 then bif x.1.1 == h.1 then bif x.1.2.1 == h.2.1 then decide (x.1.2.2 = h.2.2) else false else false else false) = decide (x = (h, true)) := by
 obtain ⟨⟨a, b, c⟩, d⟩ := x
 obtain ⟨a', b', c'⟩ := h
 apply Bool.eq_iff_iff.2
 cases d
 ·simp
 ·simp only [cond_true, decide_eq_true_eq, Prod.mk.injEq, and_true]
  by_cases e1 : a = a'
  ·by_cases e2 : b = b'
   ·simp [e1, e2]
   ·have : (b == b') = false := by simpa using e2
    simp [e1, e2, this]
  ·have : (a == a') = false := by simpa using e1
   simp [e1, this]
theorem impl_HintFits_eq (id : Int) (t : List UInt8) (h : HintT) (ht : t.length < 100000000) : impl_HintFits.f id t h = some (hintFits id t h) := by
 unfold impl_HintFits.f hintFits
 rw [impl_HintOf_eq id t ht, Option.bind_some, ← hint_split]
 have hl := hintOf_len id t
 generalize hintOf id t = x at hl ⊢
 obtain ⟨⟨a, b, c⟩, d⟩ := x
 simp only [impl_SameDir_eq c h.2.2 (show c.length < 2 ^ 62 by have : c.length ≤ t.length := hl; omega), Option.bind_some]
 cases d <;> simp only [cond_true, cond_false]
 cases (a == h.1) <;> cases (b == h.2.1) <;> rfl
theorem spec_HintFits_eq (id : Int) (t : List UInt8) (h : HintT) (ht : t.length < 100000000) : spec_HintFits.f id t h = some (hintFits id t h) := by
 unfold spec_HintFits.f hintFits
 rw [spec_HintOf_eq id t ht, Option.bind_some, ← hint_split]
 have hl := hintOf_len id t
 generalize hintOf id t = x at hl ⊢
 obtain ⟨⟨a, b, c⟩, d⟩ := x
 simp only [spec_SameDir_eq c h.2.2 (show c.length < 2 ^ 62 by have : c.length ≤ t.length := hl; omega), Option.bind_some]
 cases d <;> simp only [cond_true, cond_false]
 cases (a == h.1) <;> cases (b == h.2.1) <;> rfl
abbrev GroupT := List EntryT × Int × Int
abbrev zPlace : PlaceT := (0, 0, 0, 0, 0, [], [], 0, 0)
def ownStep (k b : Int) (acc : List PlaceT) (p : PlaceT) : List PlaceT :=
 if k = 3 ∧ p.2.2.2.2.1 ≠ b then acc
 else if p.2.2.2.1 = k then []
 else if (k = 3 ∧ (p.2.2.2.1 = 1 ∨ p.2.2.2.1 = 2)) ∨ (k = 5 ∧ p.2.2.2.1 = 4) then acc ++ [p] else acc
def ownL (k b : Int) (l : List PlaceT) : List PlaceT := l.foldl (ownStep k b) []
theorem ownStep_len (k b : Int) (acc : List PlaceT) (p : PlaceT) : (ownStep k b acc p).length ≤ acc.length + 1 := by
 unfold ownStep
 split
 ·omega
 ·split
  ·simp
  ·split
   ·simp
   ·omega
theorem ownL_len (k b : Int) (l : List PlaceT) : (ownL k b l).length ≤ l.length := by
 have : ∀ (l acc : List PlaceT), (l.foldl (ownStep k b) acc).length ≤ acc.length + l.length := by
  intro l
  induction l with
  | nil => intro acc; simp
  | cons x l ih => intro acc; have := ih (ownStep k b acc x); have := ownStep_len k b acc x; simp only [List.foldl_cons, List.length_cons]; omega
 have := this l []
 unfold ownL
 simpa using this
theorem lim88 {a : Nat} (h : a < 1000000000001) : (a + 1) * 88 ≤ 140737488355328 := by omega
theorem impl_ownOf_eq (l : List PlaceT) (r : RecT) (hl : l.length < 1000000000) : impl_ownOf.f l r = some (ownL r.1 r.2.1 l) := by
 have hk := fold_loop (step := impl_ownOf.l0) l (ownStep r.1 r.2.1) (fun n (s : List PlaceT) => (r, s, l, (l.length : Int), (n : Int))) (fun s => s) (fun n s => s.length ≤ n) (by omega)
  (fun rec n s h hi => by
   have hw := w64_succ (show n + 1 < 9223372036854775808 by omega)
   have hb : (s.length + ([l[n]] : List PlaceT).length) * 88 ≤ 140737488355328 := lim88 (by omega)
   have hb2 : decide ((s.length + 1) * 88 ≤ 140737488355328) = true := by simp only [decide_eq_true_eq]; omega
   unfold ownStep
   simp only [impl_ownOf.l0, Int.ofNat_lt, h, decide_true, cond_true, inB_nat, rdA_nat, getD_lt h]
   generalize l[n] = p at *
   obtain ⟨sg, at_, ln, k, b, key, v, c, z⟩ := p
   obtain ⟨rk, rb, rr⟩ := r
   simp only at hb ⊢
   by_cases c1 : rk = 3
   ·subst c1
    simp only [beq_self_eq_true, cond_true, true_and, show ¬ ((3 : Int) = 5) by decide, false_and, or_false]
    by_cases c2 : b = rb
    ·subst c2
     simp only [bne_self_eq_false, cond_false, ne_eq, not_true, if_false]
     by_cases c3 : k = 3
     ·subst c3; simp [hw]
     ·have d3 : (k == 3) = false := by simpa using c3
      simp only [d3, cond_false, c3, if_false]
      by_cases c4 : k = 1
      ·subst c4; simp [hw, hb2]
      ·have d4 : (k == 1) = false := by simpa using c4
       simp only [d4, cond_false, c4, false_or]
       by_cases c5 : k = 2
       ·subst c5; simp [hw, hb2]
       ·have d5 : (k == 2) = false := by simpa using c5
        have d6 : ((3 : Int) == 5) = false := rfl
        simp [d5, c5, d6, hw]
    ·have d2 : (b != rb) = true := by simpa using c2
     simp [d2, c2, hw]
   ·have d1 : (rk == 3) = false := by simpa using c1
    simp only [d1, cond_false, c1, false_and, if_false, false_or]
    by_cases c3 : k = rk
    ·have d3 : (k == rk) = true := by simpa using c3
     simp [d3, c3, hw]
    ·have d3 : (k == rk) = false := by simpa using c3
     simp only [d3, cond_false, c3, if_false]
     by_cases c4 : rk = 5
     ·subst c4
      simp only [beq_self_eq_true, cond_true, true_and]
      by_cases c5 : k = 4
      ·subst c5; simp [hw, hb2]
      ·have d5 : (k == 4) = false := by simpa using c5
       simp [d5, c5, hw]
     ·have d4 : (rk == 5) = false := by simpa using c4
      simp [d4, c4, hw])
  (fun n s h hi => by have := ownStep_len r.1 r.2.1 s l[n]; omega)
  (fun rec s hi => by simp [impl_ownOf.l0]) [] (Nat.le_refl _)
 have hk : lp impl_ownOf.l0 (r, [], l, (l.length : Int), 0) = _ := hk
 unfold impl_ownOf.f
 rw [hk]; rfl
theorem spec_l9Of_eq (l : List PlaceT) (n : Nat) (hn : n ≤ l.length) (b : Int) (hl : l.length < 1000000000) : spec_l9Of.f l (n : Int) b = some (ownL 3 b (l.take n)) := by
 have htl : (l.take n).length = n := by rw [List.length_take]; omega
 have hk := fold_loop (step := spec_l9Of.l0) (l.take n) (ownStep 3 b) (fun i (s : List PlaceT) => (l, (n : Int), b, s, (i : Int))) (fun s => s) (fun i s => s.length ≤ i) (by omega)
  (fun rec i s h hi => by
   have h1 : i < n := by omega
   have h2 : i < l.length := by omega
   have hw := w64_succ (show i + 1 < 9223372036854775808 by omega)
   have hb : (s.length + ([l[i]] : List PlaceT).length) * 88 ≤ 140737488355328 := lim88 (by omega)
   have hb2 : decide ((s.length + 1) * 88 ≤ 140737488355328) = true := by simp only [decide_eq_true_eq]; omega
   unfold ownStep
   simp only [spec_l9Of.l0, Int.ofNat_lt, h1, decide_true, cond_true, List.getElem_take]
   obtain ⟨⟨sg, at_, ln, k, bb, key, v, c, z⟩, hp⟩ : ∃ p, l[i] = p := ⟨_, rfl⟩
   have hr : rdA zPlace l (i : Int) = (sg, at_, ln, k, bb, key, v, c, z) := by rw [rdA_nat, getD_lt h2, hp]
   have hx : inB (i : Int) l.length = true := by rw [inB_nat, decide_eq_true h2]
   simp only [hp, hr, hx, cond_true]
   simp only [true_and, show ¬ ((3 : Int) = 5) by decide, false_and, or_false]
   by_cases c2 : bb = b
   ·subst c2
    simp only [beq_self_eq_true, cond_true, ne_eq, not_true, if_false]
    by_cases c3 : k = 3
    ·subst c3; simp [hw, hr, hx]
    ·have d3 : (k == 3) = false := by simpa using c3
     simp only [d3, cond_false, c3, if_false, Option.bind_some, beq_self_eq_true, cond_true]
     by_cases c4 : k = 1
     ·subst c4; simp [hw, hb2, hr, hx]
     ·have d4 : (k == 1) = false := by simpa using c4
      simp only [d4, cond_false, c4, false_or]
      by_cases c5 : k = 2
      ·subst c5; simp [hw, hb2, hr, hx]
      ·have d5 : (k == 2) = false := by simpa using c5
       simp [d5, c5, hw, hr, hx]
   ·have d2 : (bb == b) = false := by simpa using c2
    simp [d2, c2, hw, hr, hx])
  (fun i s h hi => by have := ownStep_len 3 b s (l.take n)[i]; omega)
  (fun rec s hi => by rw [htl]; simp [spec_l9Of.l0]) [] (Nat.le_refl _)
 have hk : lp spec_l9Of.l0 (l, (n : Int), b, [], 0) = _ := hk
 unfold spec_l9Of.f
 rw [hk]; rfl
theorem spec_l9Kept_eq (l : List PlaceT) (n : Nat) (hn : n ≤ l.length) (b : Int) (hl : l.length < 1000000000) : spec_l9Kept.f l (n : Int) = some (ownL 5 b (l.take n)) := by
 have htl : (l.take n).length = n := by rw [List.length_take]; omega
 have hk := fold_loop (step := spec_l9Kept.l0) (l.take n) (ownStep 5 b) (fun i (s : List PlaceT) => (l, (n : Int), s, (i : Int))) (fun s => s) (fun i s => s.length ≤ i) (by omega)
  (fun rec i s h hi => by
   have h1 : i < n := by omega
   have h2 : i < l.length := by omega
   have hw := w64_succ (show i + 1 < 9223372036854775808 by omega)
   have hb : (s.length + ([l[i]] : List PlaceT).length) * 88 ≤ 140737488355328 := lim88 (by omega)
   have hb2 : decide ((s.length + 1) * 88 ≤ 140737488355328) = true := by simp only [decide_eq_true_eq]; omega
   unfold ownStep
   simp only [spec_l9Kept.l0, Int.ofNat_lt, h1, decide_true, cond_true, List.getElem_take]
   obtain ⟨⟨sg, at_, ln, k, bb, key, v, c, z⟩, hp⟩ : ∃ p, l[i] = p := ⟨_, rfl⟩
   have hr : rdA zPlace l (i : Int) = (sg, at_, ln, k, bb, key, v, c, z) := by rw [rdA_nat, getD_lt h2, hp]
   have hx : inB (i : Int) l.length = true := by rw [inB_nat, decide_eq_true h2]
   simp only [hp, hr, hx, cond_true]
   simp only [show ¬ ((5 : Int) = 3) by decide, false_and, if_false, false_or, true_and]
   by_cases c3 : k = 5
   ·subst c3; simp [hw, hr, hx]
   ·have d3 : (k == 5) = false := by simpa using c3
    simp only [d3, cond_false, c3, if_false, Option.bind_some]
    by_cases c4 : k = 4
    ·subst c4; simp [hw, hb2, hr, hx]
    ·have d4 : (k == 4) = false := by simpa using c4
     simp [d4, c4, hw, hr, hx])
  (fun i s h hi => by have := ownStep_len 5 b s (l.take n)[i]; omega)
  (fun rec s hi => by rw [htl]; simp [spec_l9Kept.l0]) [] (Nat.le_refl _)
 have hk : lp spec_l9Kept.l0 (l, (n : Int), [], 0) = _ := hk
 unfold spec_l9Kept.f
 rw [hk]; rfl
theorem spec_l9Recs_eq (l : List PlaceT) (hl : l.length < 1000000000) : spec_l9Recs.f l = some (l.map (·.2.2.2)) := by
 have hk := fold_loop (step := spec_l9Recs.l0) l (fun (s : List RecT) (p : PlaceT) => s ++ [p.2.2.2]) (fun n (s : List RecT) => (l, s, (n : Int))) (fun s => s) (fun n s => s.length ≤ n) (by omega)
  (fun rec n s h hi => by
   have hw := w64_succ (show n + 1 < 9223372036854775808 by omega)
   have hb : (s.length + ([l[n].2.2.2] : List RecT).length) * 64 ≤ 140737488355328 := lim64R (by omega)
   simp only [spec_l9Recs.l0, Int.ofNat_lt, h, decide_true, cond_true, inB_nat, rdA_nat, getD_lt h, hb, hw])
  (fun n s h hi => by simp; omega)
  (fun rec s hi => by simp [spec_l9Recs.l0]) [] (Nat.le_refl _)
 have hk : lp spec_l9Recs.l0 (l, [], 0) = _ := hk
 unfold spec_l9Recs.f
 rw [hk, Option.bind_some]
 have : ∀ (l : List PlaceT) (s : List RecT), l.foldl (fun (s : List RecT) (p : PlaceT) => s ++ [p.2.2.2]) s = s ++ l.map (·.2.2.2) := by
  intro l
  induction l with
  | nil => intro s; simp
  | cons x l ih => intro s; rw [List.foldl_cons, ih]; simp
 rw [this]; rfl
theorem spec_l9Fits_eq (r : RecT) (l : List PlaceT) (hl : l.length < 1000000000) : spec_l9Fits.f r l = some (fitsR r (l.map (·.2.2.2))) := by
 unfold spec_l9Fits.f fitsR
 rw [spec_l9Recs_eq l hl, List.length_map]
 cases (r.2.2.2.2.1 == (l.length : Int)) with
 | false => rfl
 | true =>
  simp only [cond_true, Option.bind_some, spec_SumOf_eq (l.map (·.2.2.2)) (by rw [List.length_map]; omega), Bool.true_and]
def putD (dir : List EntryT) (p : PlaceT) : List EntryT :=
 if p.2.2.2.1 = 2 then dropK dir p.2.2.2.2.2.1 else insB (dropK dir p.2.2.2.2.2.1) (p.2.2.2.2.2.1, p.1, p.2.1, p.2.2.1, p.2.2.2.2.1)
def applyD (dir : List EntryT) (own : List PlaceT) : List EntryT := own.foldl putD dir
theorem putD_len (dir : List EntryT) (p : PlaceT) : (putD dir p).length ≤ dir.length + 1 := by
 unfold putD
 have := dropK_len dir p.2.2.2.2.2.1
 split
 ·omega
 ·rw [insB_len]; omega
theorem applyD_len (own : List PlaceT) : ∀ dir, (applyD dir own).length ≤ dir.length + own.length := by
 unfold applyD
 induction own with
 | nil => intro dir; simp
 | cons x l ih => intro dir; have := ih (putD dir x); have := putD_len dir x; simp only [List.foldl_cons, List.length_cons]; omega
def codeD (dir : List EntryT) (c : Int) : Int := if 20 < dir.length then 2 else c
theorem impl_apply_eq (g : GroupT) (own : List PlaceT) (hg : g.1.length < 100000000) (ho : own.length < 100000000) : impl_Group_apply.f g own = some (applyD g.1 own, g.2.1, codeD (applyD g.1 own) g.2.2) := by
 have hk := fold_loop (step := impl_Group_apply.l0) own putD (fun n (s : List EntryT) => ((s, g.2), own, (own.length : Int), (n : Int))) (fun s => (s, g.2)) (fun n s => s.length ≤ g.1.length + n) (by omega)
  (fun rec n s h hi => by
   have hw := w64_succ (show n + 1 < 9223372036854775808 by omega)
   unfold putD
   simp only [impl_Group_apply.l0, Int.ofNat_lt, h, decide_true, cond_true, inB_nat, rdA_nat, getD_lt h]
   by_cases c : own[n].2.2.2.1 = 2
   ·have d : (own[n].2.2.2.1 == 2) = true := by simpa using c
    rw [if_pos c]
    simp only [d, cond_true, impl_DirDrop_eq s own[n].2.2.2.2.2.1 (by omega), Option.bind_some, hw]
   ·have d : (own[n].2.2.2.1 == 2) = false := by simpa using c
    rw [if_neg c]
    simp only [d, cond_false, impl_DirPut_eq s (own[n].2.2.2.2.2.1, own[n].1, own[n].2.1, own[n].2.2.1, own[n].2.2.2.2.1) (by omega), Option.bind_some, hw])
  (fun n s h hi => by have := putD_len s own[n]; omega)
  (fun rec s hi => by simp [impl_Group_apply.l0]) g.1 (Nat.le_refl _)
 have hk : lp impl_Group_apply.l0 (g, own, (own.length : Int), 0) = some (applyD g.1 own, g.2) := hk
 unfold impl_Group_apply.f codeD
 rw [hk, Option.bind_some]
 simp only
 by_cases c : 20 < (applyD g.1 own).length
 ·have d : decide (((applyD g.1 own).length : Int) > 20) = true := by simp; omega
  rw [d, if_pos c]; rfl
 ·have d : decide (((applyD g.1 own).length : Int) > 20) = false := by simp; omega
  rw [d, if_neg c]; rfl
theorem spec_Regroup_l3 (x1 : List PlaceT) (x4 : GroupT) (d0 : List EntryT) (z : Int × Int) (x6 : Int) (own : List PlaceT) (hg : d0.length < 40000000) (ho : own.length < 40000000) :
  lp spec_Regroup.l3 (x1, x4, (d0, z), x6, own, 0) = some (x1, x4, (applyD d0 own, z), x6) := by
 have hk := fold_loop (step := spec_Regroup.l3) own putD (fun n (s : List EntryT) => (x1, x4, (s, z), x6, own, (n : Int))) (fun s => (x1, x4, (s, z), x6)) (fun n s => s.length ≤ d0.length + n) (by omega)
  (fun rec n s h hi => by
   have hw := w64_succ (show n + 1 < 9223372036854775808 by omega)
   have e : spec_l9Put.f s (own[n].1, own[n].2.1, own[n].2.2.1, own[n].2.2.2.1, own[n].2.2.2.2.1, own[n].2.2.2.2.2.1, own[n].2.2.2.2.2.2.1, own[n].2.2.2.2.2.2.2) = some (putD s own[n]) := spec_l9Put_eq s own[n] (by omega)
   simp only [spec_Regroup.l3, Int.ofNat_lt, h, decide_true, cond_true, inB_nat, rdA_nat, getD_lt h, e, Option.bind_some, hw])
  (fun n s h hi => by have := putD_len s own[n]; omega)
  (fun rec s hi => by simp [spec_Regroup.l3]) d0 (Nat.le_refl _)
 exact hk
def regStep (pre : List PlaceT) (p : PlaceT) (g : GroupT) : GroupT :=
 let last := if p.2.2.2.2.1 > g.2.1 then p.2.2.2.2.1 else g.2.1
 if p.2.2.2.1 = 3 ∨ p.2.2.2.1 = 5 then
  let own := ownL p.2.2.2.1 p.2.2.2.2.1 pre
  if fitsR p.2.2.2 (own.map (·.2.2.2)) = true then (applyD g.1 own, last, codeD (applyD g.1 own) g.2.2)
  else if p.2.2.2.1 = 5 then (g.1, last, 1) else (g.1, last, g.2.2)
 else (g.1, last, g.2.2)
def regGo : List PlaceT → List PlaceT → GroupT → GroupT
 | _, [], g => g
 | pre, p :: r, g => if g.2.2 ≠ 0 then g else regGo (pre ++ [p]) r (regStep pre p g)
def regEnd (l : List PlaceT) (g : GroupT) : GroupT := if g.2.2 = 0 ∧ 0 < (ownL 5 0 l).length then (g.1, g.2.1, 1) else g
def regroup (g : GroupT) (l : List PlaceT) : GroupT := regEnd l (regGo [] l g)
theorem regStep_len (pre : List PlaceT) (p : PlaceT) (g : GroupT) : (regStep pre p g).1.length ≤ g.1.length + pre.length := by
 unfold regStep
 have h1 := applyD_len (ownL p.2.2.2.1 p.2.2.2.2.1 pre) g.1
 have h2 := ownL_len p.2.2.2.1 p.2.2.2.2.1 pre
 simp only
 split
 ·split
  ·show (applyD g.1 (ownL p.2.2.2.1 p.2.2.2.2.1 pre)).length ≤ _; omega
  ·split <;> exact Nat.le_add_right _ _
 ·exact Nat.le_add_right _ _
theorem regStep_code (pre : List PlaceT) (p : PlaceT) (g : GroupT) (h : g.2.2 = 0) (hc : (regStep pre p g).2.2 = 0) : (regStep pre p g).1.length ≤ max g.1.length 20 := by
 unfold regStep at hc ⊢
 simp only at hc ⊢
 split
 ·rename_i c
  rw [if_pos c] at hc
  split
  ·rename_i c2
   rw [if_pos c2] at hc
   have hc : codeD (applyD g.1 (ownL p.2.2.2.1 p.2.2.2.2.1 pre)) g.2.2 = 0 := hc
   show (applyD g.1 (ownL p.2.2.2.1 p.2.2.2.2.1 pre)).length ≤ _
   unfold codeD at hc
   split at hc
   ·simp at hc
   ·omega
  ·split <;> exact Nat.le_max_left _ _
 ·exact Nat.le_max_left _ _
def regF (l : List PlaceT) : List PlaceT → List PlaceT → GroupT → (List PlaceT × GroupT × GroupT) ⊕ GroupT
 | _, [], g => .inl (l, ([], 0, 0), g)
 | pre, p :: r, g => if g.2.2 ≠ 0 then .inr g else regF l (pre ++ [p]) r (regStep pre p g)
theorem regF_go (l : List PlaceT) : ∀ (r pre : List PlaceT) (g : GroupT), regF l pre r g = .inl (l, ([], 0, 0), regGo pre r g) ∨ (regF l pre r g = .inr (regGo pre r g) ∧ (regGo pre r g).2.2 ≠ 0)
 | [], pre, g => .inl rfl
 | p :: r, pre, g => by
  unfold regF regGo
  by_cases c : g.2.2 ≠ 0
  ·rw [if_pos c, if_pos c]; exact .inr ⟨rfl, c⟩
  ·rw [if_neg c, if_neg c]; exact regF_go l r _ _
def regInv (g : GroupT) : Prop := g.1.length ≤ (if g.2.2 = 0 then 1000020 else 11000020)
theorem regInv_step {pre : List PlaceT} {p : PlaceT} {g : GroupT} (h : regInv g) (hc : g.2.2 = 0) (hp : pre.length < 10000000) : regInv (regStep pre p g) := by
 unfold regInv at h ⊢
 rw [if_pos hc] at h
 split
 ·rename_i c
  have := regStep_code pre p g hc c
  omega
 ·have := regStep_len pre p g
  omega
theorem impl_Regroup_l0 (l : List PlaceT) (hl : l.length < 10000000) (g0 : GroupT) (hg : regInv g0) :
  lp impl_Regroup.l0 (l, ([], 0, 0), g0, l, (l.length : Int), 0) = some (regF l [] l g0) := by
 have key := lp_up (step := impl_Regroup.l0) (fun n (g : GroupT) => (l, (([], 0, 0) : GroupT), g, l, (l.length : Int), (n : Int))) l.length (fun n g => regF l (l.take n) (l.drop n) g) (fun _ g => regInv g)
  (fun rec n g hn hi ih => by
   rcases Nat.lt_or_ge n l.length with h | h
   ·have hw := w64_succ (show n + 1 < 9223372036854775808 by omega)
    have htl : (l.take n).length = n := by rw [List.length_take]; omega
    rw [List.drop_eq_getElem_cons h]
    unfold regF
    obtain ⟨⟨sg, at_, ln, k, b, key, v, c, z⟩, hp⟩ : ∃ p, l[n] = p := ⟨_, rfl⟩
    have hr : rdA zPlace l (n : Int) = (sg, at_, ln, k, b, key, v, c, z) := by rw [rdA_nat, getD_lt h, hp]
    have hx : inB (n : Int) l.length = true := by rw [inB_nat, decide_eq_true h]
    have ht : l.take n ++ [(sg, at_, ln, k, b, key, v, c, z)] = l.take (n + 1) := by rw [← hp]; exact (List.take_succ_eq_append_getElem h).symm
    by_cases c0 : g.2.2 = 0
    rotate_left
    ·rw [if_pos c0]
     have d0 : (g.2.2 != 0) = true := by simpa using c0
     simp only [impl_Regroup.l0, Int.ofNat_lt, h, decide_true, cond_true, hx, d0, Option.bind_some, caseS_r]
    rw [if_neg (fun z => z c0), hp]
    have d0 : (g.2.2 != 0) = false := by simpa using c0
    have hs := ih (regStep (l.take n) (sg, at_, ln, k, b, key, v, c, z) g) h (regInv_step hi c0 (by omega))
    rw [ht]
    rw [← hs]
    have hg1 : g.1.length < 100000000 := by unfold regInv at hi; rw [if_pos c0] at hi; omega
    have hin : (decide (0 ≤ (n : Int)) && decide ((n : Int) ≤ (l.length : Int))) = true := by simp only [Bool.and_eq_true, decide_eq_true_eq]; omega
    have how := impl_ownOf_eq (l.take n) (k, b, key, v, c, z) (by omega)
    have hol := ownL_len k b (l.take n)
    have hft := impl_fits_eq (k, b, key, v, c, z) (ownL k b (l.take n)) (by omega)
    have hap := fun last => impl_apply_eq (g.1, last, g.2.2) (ownL k b (l.take n)) hg1 (by omega)
    simp only [impl_Regroup.l0, Int.ofNat_lt, h, decide_true, cond_true, hx, hr, d0, cond_false]
    unfold regStep
    simp only
    by_cases c3 : k = 3
    ·subst c3
     simp only [bne_self_eq_false, cond_false, Option.bind_some, caseS_l, hin, cond_true, Int.toNat_natCast, how, hft, true_or, if_true, show ¬ ((3 : Int) = 5) by decide, if_false, show ((3 : Int) == 5) = false from rfl]
     cases fitsR (3, b, key, v, c, z) ((ownL 3 b (l.take n)).map (·.2.2.2))
     ·simp only [cond_false, Option.bind_some, caseS_l, hw, Bool.false_eq_true, if_false]
     ·simp only [cond_true, hap, Option.bind_some, caseS_l, hw, if_true]
    ·have d3 : (k != 3) = true := by simpa using c3
     simp only [d3, cond_true, c3, false_or]
     by_cases c5 : k = 5
     ·subst c5
      simp only [bne_self_eq_false, cond_false, Option.bind_some, caseS_l, hin, cond_true, Int.toNat_natCast, how, hft, if_true, beq_self_eq_true]
      cases fitsR (5, b, key, v, c, z) ((ownL 5 b (l.take n)).map (·.2.2.2))
      ·simp only [cond_false, Option.bind_some, caseS_l, hw, Bool.false_eq_true, if_false]
      ·simp only [cond_true, hap, Option.bind_some, caseS_l, hw, if_true]
     ·have d5 : (k != 5) = true := by simpa using c5
      simp only [d5, cond_true, c5, if_false, Option.bind_some, caseS_r, caseS_l, hw]
   ·have : n = l.length := by omega
    subst this
    simp only [impl_Regroup.l0, Int.lt_irrefl, decide_false, cond_false, List.take_length, List.drop_length, regF])
  (by omega) 0 g0 (Nat.zero_le _) hg
 exact key
theorem impl_Regroup_eq (g : GroupT) (l : List PlaceT) (hl : l.length < 10000000) (hg : regInv g) : impl_Regroup.f g l = some (regroup g l) := by
 have hg1 : g.1.length < 1000000000 := by unfold regInv at hg; split at hg <;> omega
 unfold impl_Regroup.f
 rw [impl_copyDir_eq g.1 hg1, Option.bind_some, impl_Regroup_l0 l hl (g.1, g.2) hg, Option.bind_some]
 unfold regroup regEnd
 rcases regF_go l l [] g with e | ⟨e, hc⟩
 ·rw [show ((g.1, g.2) : GroupT) = g from rfl, e]
  simp only [caseS_l]
  by_cases c : (regGo [] l g).2.2 = 0
  ·have d : ((regGo [] l g).2.2 == 0) = true := by simpa using c
   have ho := impl_ownOf_eq l (5, 0, [], [], 0, 0) (by omega)
   simp only [d, cond_true, ho, Option.bind_some]
   by_cases c2 : 0 < (ownL 5 0 l).length
   ·have d2 : decide (((ownL 5 0 l).length : Int) > 0) = true := by simp; omega
    rw [d2, if_pos ⟨c, c2⟩]; rfl
   ·have d2 : decide (((ownL 5 0 l).length : Int) > 0) = false := by simp only [decide_eq_false_iff_not]; omega
    rw [d2, if_neg (fun z => c2 z.2)]; rfl
  ·have d : ((regGo [] l g).2.2 == 0) = false := by simpa using c
   simp only [d, cond_false]
   rw [if_neg (fun z => c z.1)]
 ·rw [show ((g.1, g.2) : GroupT) = g from rfl, e]
  simp only [caseS_r]
  rw [if_neg (fun z => hc z.1)]
theorem spec_Regroup_l0 (l : List PlaceT) (hl : l.length < 10000000) (g0 : GroupT) (hg : regInv g0) :
  lp spec_Regroup.l0 (l, ([], 0, 0), g0, 0) = some (l, ([], 0, 0), regGo [] l g0) := by
 have key := lp_up (step := spec_Regroup.l0) (fun n (g : GroupT) => (l, (([], 0, 0) : GroupT), g, (n : Int))) l.length (fun n g => (l, (([], 0, 0) : GroupT), regGo (l.take n) (l.drop n) g)) (fun _ g => regInv g)
  (fun rec n g hn hi ih => by
   rcases Nat.lt_or_ge n l.length with h | h
   ·have hw := w64_succ (show n + 1 < 9223372036854775808 by omega)
    have htl : (l.take n).length = n := by rw [List.length_take]; omega
    rw [List.drop_eq_getElem_cons h]
    unfold regGo
    obtain ⟨⟨sg, at_, ln, k, b, key, v, c, z⟩, hp⟩ : ∃ p, l[n] = p := ⟨_, rfl⟩
    have hr : rdA zPlace l (n : Int) = (sg, at_, ln, k, b, key, v, c, z) := by rw [rdA_nat, getD_lt h, hp]
    have hx : inB (n : Int) l.length = true := by rw [inB_nat, decide_eq_true h]
    have ht : l.take n ++ [(sg, at_, ln, k, b, key, v, c, z)] = l.take (n + 1) := by rw [← hp]; exact (List.take_succ_eq_append_getElem h).symm
    by_cases c0 : g.2.2 = 0
    rotate_left
    ·rw [if_pos c0]
     have d0 : (g.2.2 == 0) = false := by simpa using c0
     simp only [spec_Regroup.l0, Int.ofNat_lt, h, decide_true, cond_true, d0, cond_false]
    rw [if_neg (fun z => z c0), hp]
    have d0 : (g.2.2 == 0) = true := by simpa using c0
    have hs := ih (regStep (l.take n) (sg, at_, ln, k, b, key, v, c, z) g) h (regInv_step hi c0 (by omega))
    rw [ht]
    rw [← hs]
    have hg1 : g.1.length < 40000000 := by unfold regInv at hi; rw [if_pos c0] at hi; omega
    have ho3 := spec_l9Of_eq l n (by omega) b (by omega)
    have ho5 := spec_l9Kept_eq l n (by omega) b (by omega)
    have hol3 := ownL_len 3 b (l.take n)
    have hol5 := ownL_len 5 b (l.take n)
    have hft := fun o ho => spec_l9Fits_eq (k, b, key, v, c, z) o ho
    have hap := fun (zz : Int × Int) (o : List PlaceT) ho => spec_Regroup_l3 l ([], 0, 0) g.1 zz (n : Int) o hg1 ho
    simp only [spec_Regroup.l0, Int.ofNat_lt, h, decide_true, cond_true, hx, hr, d0]
    unfold regStep
    simp only
    by_cases c3 : k = 3
    ·subst c3
     have hft := hft (ownL 3 b (l.take n)) (by omega)
     have hap := fun zz => hap zz (ownL 3 b (l.take n)) (by omega)
     simp only [beq_self_eq_true, cond_true, ho3, Option.bind_some, hft, true_or, if_true, show ¬ ((3 : Int) = 5) by decide, if_false]
     cases fitsR (3, b, key, v, c, z) ((ownL 3 b (l.take n)).map (·.2.2.2))
     ·simp only [Bool.not_false, cond_true, Option.bind_some, caseS_r, hw, Bool.false_eq_true, if_false]
     ·simp only [Bool.not_true, cond_false, Option.bind_some, caseS_l, hap, hw, if_true]
      unfold codeD
      by_cases c9 : 20 < (applyD g.1 (ownL 3 b (l.take n))).length
      ·have d9 : decide (((applyD g.1 (ownL 3 b (l.take n))).length : Int) > 20) = true := by simp; omega
       simp only [d9, cond_true, Option.bind_some, if_pos c9, hw]
      ·have d9 : decide (((applyD g.1 (ownL 3 b (l.take n))).length : Int) > 20) = false := by simp; omega
       simp only [d9, cond_false, Option.bind_some, if_neg c9, hw]
    ·have d3 : (k == 3) = false := by simpa using c3
     simp only [d3, cond_false, c3, false_or]
     by_cases c5 : k = 5
     ·subst c5
      have hft := hft (ownL 5 b (l.take n)) (by omega)
      have hap := fun zz => hap zz (ownL 5 b (l.take n)) (by omega)
      simp only [beq_self_eq_true, cond_true, ho5, Option.bind_some, hft, if_true]
      cases fitsR (5, b, key, v, c, z) ((ownL 5 b (l.take n)).map (·.2.2.2))
      ·simp only [Bool.not_false, cond_true, Option.bind_some, caseS_r, hw, Bool.false_eq_true, if_false]
      ·simp only [Bool.not_true, cond_false, Option.bind_some, caseS_l, hap, hw, if_true]
       unfold codeD
       by_cases c9 : 20 < (applyD g.1 (ownL 5 b (l.take n))).length
       ·have d9 : decide (((applyD g.1 (ownL 5 b (l.take n))).length : Int) > 20) = true := by simp; omega
        simp only [d9, cond_true, Option.bind_some, if_pos c9, hw]
       ·have d9 : decide (((applyD g.1 (ownL 5 b (l.take n))).length : Int) > 20) = false := by simp; omega
        simp only [d9, cond_false, Option.bind_some, if_neg c9, hw]
     ·have d5 : (k == 5) = false := by simpa using c5
      simp only [d5, cond_false, c5, if_false, Option.bind_some, caseS_r, hw]
   ·have : n = l.length := by omega
    subst this
    simp only [spec_Regroup.l0, Int.lt_irrefl, decide_false, cond_false, List.take_length, List.drop_length, regGo])
  (by omega) 0 g0 (Nat.zero_le _) hg
 exact key
theorem spec_Regroup_eq (g : GroupT) (l : List PlaceT) (hl : l.length < 10000000) (hg : regInv g) : spec_Regroup.f g l = some (regroup g l) := by
 have hg1 : g.1.length < 1000000000 := by unfold regInv at hg; split at hg <;> omega
 unfold spec_Regroup.f
 have hb : decide ((([] : List EntryT).length + g.1.length) * 48 ≤ 140737488355328) = true := by simp only [decide_eq_true_eq]; exact lim48' (by omega)
 simp only [hb, cond_true, List.nil_append]
 rw [spec_Regroup_l0 l hl (g.1, g.2) hg, Option.bind_some]
 unfold regroup regEnd
 rw [show ((g.1, g.2) : GroupT) = g from rfl]
 simp only
 by_cases c : (regGo [] l g).2.2 = 0
 ·have d : ((regGo [] l g).2.2 == 0) = true := by simpa using c
  have ho := spec_l9Kept_eq l l.length (Nat.le_refl _) 0 (by omega)
  rw [List.take_length] at ho
  simp only [d, cond_true, ho, Option.bind_some]
  by_cases c2 : 0 < (ownL 5 0 l).length
  ·have d2 : decide (((ownL 5 0 l).length : Int) > 0) = true := by simp; omega
   rw [d2, if_pos ⟨c, c2⟩]; rfl
  ·have d2 : decide (((ownL 5 0 l).length : Int) > 0) = false := by simp only [decide_eq_false_iff_not]; omega
   rw [d2, if_neg (fun z => c2 z.2)]; rfl
 ·have d : ((regGo [] l g).2.2 == 0) = false := by simpa using c
  simp only [d, cond_false]
  rw [if_neg (fun z => c z.1)]
def spots : Nat → List RecT → List SpotT
 | _, [] => []
 | a, r :: rs => ((a : Int), ((fr r).length : Int), r) :: spots (a + (fr r).length) rs
theorem scanAt_spots : ∀ (rs : List RecT) (p : List UInt8), (∀ r ∈ rs, recOk r = true) → scanAt (p ++ txt rs) p.length = (spots p.length rs, p.length + (txt rs).length)
 | [], p, _ => by
  have : p ++ txt [] = p := by simp [txt]
  rw [this, scanAt_end]; simp [txt, spots]
 | r :: rs, p, h => by
  have hs := showRec_len r
  have hb := unframe_back (t := showRec r) (by omega) (txt rs)
  have hd : (p ++ txt (r :: rs)).drop p.length = frame (showRec r) ++ txt rs := by rw [List.drop_left]; rfl
  have hl := fr_len r
  have hrr := readRec_back (h r List.mem_cons_self)
  rw [scanAt_step (n := (fr r).length) (by rw [hd, hb]; rfl) hl.1 (by rw [txt_cons]; simp only [List.length_append]; omega) (by rw [hd, hb]; simp only; rw [hrr])]
  have ih := scanAt_spots rs (p ++ fr r) (fun x hx => h x (List.mem_cons_of_mem _ hx))
  rw [List.append_assoc, List.length_append] at ih
  rw [hd, hb]
  simp only [hrr]
  have e : p ++ txt (r :: rs) = p ++ (fr r ++ txt rs) := rfl
  rw [e, ih]
  simp only [spots, txt_cons, List.length_append, Nat.add_assoc]
theorem scan_spots {rs : List RecT} (h : ∀ r ∈ rs, recOk r = true) : scan (txt rs) = (spots 0 rs, (txt rs).length) := by
 have := scanAt_spots rs [] h
 simp only [List.nil_append, List.length_nil, Nat.zero_add] at this
 exact this
theorem scanAt_recs : ∀ (k : Nat) (s : List UInt8) (a : Nat), a ≤ s.length → s.length - a = k → ∃ (rs : List RecT) (q : List UInt8), (∀ r ∈ rs, recOk r = true) ∧ s.drop a = txt rs ++ q ∧ scanAt s a = (spots a rs, a + (txt rs).length) := by
 intro k
 induction k using Nat.strongRecOn with
 | ind k ih =>
  intro s a ha hk
  by_cases c : (unframe (s.drop a)).2 = 0 ∨ (readRec (unframe (s.drop a)).1).2 = false
  ·exact ⟨[], s.drop a, by simp, rfl, scanAt_stop ha c⟩
  ·have c1 : (unframe (s.drop a)).2 ≠ 0 := fun e => c (.inl e)
   have hr : (readRec (unframe (s.drop a)).1).2 = true := by
    cases e : (readRec (unframe (s.drop a)).1).2 with
    | true => rfl
    | false => exact absurd (.inr e) c
   obtain ⟨t, r, e1, e2, e3⟩ := unframe_some c1
   have h5 := frame_pos e2
   have hlen : a + (frame t).length ≤ s.length := by
    have : (s.drop a).length = (frame t ++ r).length := by rw [← e1]
    rw [List.length_drop, List.length_append] at this; omega
   have hst := scanAt_step (n := (frame t).length) (by rw [e3]) h5 hlen hr
   obtain ⟨rs, q, g1, g2, g3⟩ := ih (s.length - (a + (frame t).length)) (by omega) s (a + (frame t).length) hlen rfl
   have hd : s.drop (a + (frame t).length) = r := by rw [← List.drop_drop, e1, List.drop_left]
   rw [e3] at hr
   rcases readRec_cases t with ⟨z, _⟩ | ⟨x, z, hx⟩
   ·rw [z] at hr; simp at hr
   ·refine ⟨x :: rs, q, ?_, ?_, ?_⟩
    ·intro y hy
     rcases List.mem_cons.1 hy with rfl | hy
     ·exact hx.1
     ·exact g1 y hy
    ·rw [e1, txt_cons, ← hd, g2]
     show frame t ++ (txt rs ++ q) = frame (showRec x) ++ txt rs ++ q
     rw [hx.2, List.append_assoc]
    ·rw [hst, g3, e3]
     have hf : (fr x).length = (frame t).length := by show (frame (showRec x)).length = _; rw [hx.2]
     simp only [z, spots, txt_cons, List.length_append, hf, Nat.add_assoc]
theorem scan_recs (s : List UInt8) : ∃ (rs : List RecT) (q : List UInt8), (∀ r ∈ rs, recOk r = true) ∧ s = txt rs ++ q ∧ scan s = (spots 0 rs, (txt rs).length) := by
 obtain ⟨rs, q, h1, h2, h3⟩ := scanAt_recs s.length s 0 (Nat.zero_le _) (by omega)
 rw [List.drop_zero] at h2
 rw [Nat.zero_add] at h3
 exact ⟨rs, q, h1, h2, h3⟩
theorem scan_cut (s : List UInt8) : scan (s.take (scan s).2) = scan s := by
 obtain ⟨rs, q, h1, h2, h3⟩ := scan_recs s
 rw [h3]
 have : s.take (txt rs).length = txt rs := by rw [h2, List.take_left]
 rw [this, scan_spots h1]
theorem orphP_len {d : DiskT} (h : diskOk d = true) (v : LiveT) : (orphP d v).length ≤ 130 := by
 unfold orphP
 rw [if_neg (by rw [h]; simp), List.length_map]
 exact Nat.le_trans (List.length_filter_le _ _) (diskOk_fuel h).2.2
theorem orphP_has {d : DiskT} (h : diskOk d = true) (v : LiveT) : ∀ n ∈ orphP d v, (fileText d n).2 = true := by
 intro n hn
 unfold orphP at hn
 rw [if_neg (by rw [h]; simp)] at hn
 obtain ⟨f, hf, rfl⟩ := List.mem_map.1 hn
 rw [fileText_mem h ((List.mem_filter.1 hf).1)]
theorem orphP_nodup {d : DiskT} (h : diskOk d = true) (v : LiveT) : (orphP d v).Nodup := by
 unfold orphP
 rw [if_neg (by rw [h]; simp)]
 have hs : srt d.1 := diskOk_pw h
 exact (List.filter_sublist.map _).nodup (srt_nodup hs)
noncomputable def sweepW (v : LiveT) (d : DiskT) : WorkT := sDrop (orphP d v) (d, 0)
theorem dk_sweep {d : DiskT} (h : diskOk d = true) (v : LiveT) : diskOk (sweepW v d).1 = true := dk_sDrop _ h
theorem impl_orphans_eq (w : WorkT) (v : LiveT) (h : diskOk w.1 = true) (hv : v.2.length < 1000000000) : impl_worker_orphans.f w v = some (wDrop (orphP w.1 v) w) := by
 unfold impl_worker_orphans.f
 rw [impl_Orphans_eq w.1 v (dl_lim (dl_dk h) (by omega)) hv, Option.bind_some]
 have hl := orphP_len h v
 generalize orphP w.1 v = names at hl ⊢
 have key := fold_loop (step := impl_worker_orphans.l0) names (fun (w : WorkT) n => wstep (dGone n) w) (fun n (a : WorkT) => (a, names, (names.length : Int), (n : Int))) (fun a => a) (fun _ a => diskOk a.1 = true) (by omega)
  (fun rec n a h1 ha => by
   have hw := w64_succ (show n + 1 < 9223372036854775808 by omega)
   simp only [impl_worker_orphans.l0, Int.ofNat_lt, h1, decide_true, cond_true, inB_nat, rdA_nat, getD_lt h1, w_gone_eq a names[n] (dl_dk ha) (by omega), Option.bind_some, hw])
  (fun n a h1 ha => dk_wstep (op := dGone names[n]) ha fun k => dk_Gone k _)
  (fun rec a ha => by simp [impl_worker_orphans.l0])
  w h
 have key : lp impl_worker_orphans.l0 (w, names, (names.length : Int), 0) = some (wDrop names w) := key
 rw [key]; rfl
theorem gone_is_remove {d : DiskT} {n : List UInt8} (h : (fileText d n).2 = true) : dGone n d = dRemove n d := by
 obtain ⟨i, hi, _, _, e⟩ := has_ix h
 unfold dGone
 rw [if_pos (by omega)]
theorem ft_still {d : DiskT} (h : diskOk d = true) {m n : List UInt8} (hne : n ≠ m) (hn : (fileText d n).2 = true) : (fileText (dRemove m d).1 n).2 = true := by
 rw [ft_Remove h hne]; exact hn
theorem spec_Sweep_eq (d : DiskT) (v : LiveT) (h : diskOk d = true) (hv : v.2.length < 1000000000) : spec_l11Sweep.f d v = some (toldW (sweepW v d)) := by
 unfold spec_l11Sweep.f sweepW
 rw [spec_Orphans_eq d v (dl_lim (dl_dk h) (by omega)) hv, Option.bind_some]
 have hl := orphP_len h v
 have hh := orphP_has h v
 have hn := orphP_nodup h v
 generalize orphP d v = names at hl hh hn ⊢
 have key := lp_up (step := spec_l11Sweep.l0) (fun n (x : DiskT) => (x, (([], 0, 0, false) : DiskT), names, (n : Int))) names.length
  (fun n x => if (sDrop (names.drop n) (x, 0)).2 = 0 then .inl ((sDrop (names.drop n) (x, 0)).1, ([], 0, 0, false)) else .inr (toldW (sDrop (names.drop n) (x, 0))))
  (fun n x => diskOk x = true ∧ ∀ m ∈ names.drop n, (fileText x m).2 = true)
  (fun rec n x hnn hx ih => by
   rcases Nat.lt_or_ge n names.length with h1 | h1
   ·have hw := w64_succ (show n + 1 < 9223372036854775808 by omega)
    have hd : names.drop n = names[n] :: names.drop (n + 1) := List.drop_eq_getElem_cons h1
    have hnd : (names.drop n).Nodup := (List.drop_sublist n names).nodup hn
    rw [hd, List.nodup_cons] at hnd
    have hin : (fileText x names[n]).2 = true := hx.2 _ (by rw [hd]; exact List.mem_cons_self)
    have hg := gone_is_remove hin
    have hs : sDrop (names.drop n) (x, 0) = sDrop (names.drop (n + 1)) (dRemove names[n] x) := by
     rw [hd]
     show sDrop (names.drop (n + 1)) (sstep (dGone names[n]) (x, 0)) = _
     rw [sstep_z, hg]
    rw [hs]
    have hr := spec_Remove_eq x names[n] (dl_lim (dl_dk hx.1) (by omega))
    have hr : spec_Remove.f x names[n] = some (dRemove names[n] x) := hr
    simp only [spec_l11Sweep.l0, Int.ofNat_lt, h1, decide_true, cond_true, inB_nat, rdA_nat, getD_lt h1, hr, Option.bind_some]
    have ih := ih (dRemove names[n] x).1 h1 ⟨dk_Remove hx.1 _, fun m hm => ft_still hx.1 (fun e => hnd.1 (e ▸ hm)) (hx.2 m (by rw [hd]; exact List.mem_cons_of_mem _ hm))⟩
    generalize dRemove names[n] x = p at ih ⊢
    obtain ⟨y, c⟩ := p
    by_cases c0 : c = 0
    ·subst c0
     simp only [bne_self_eq_false, cond_false, hw, ih]
    ·have d0 : (c != 0) = true := by simpa using c0
     rw [sDrop_ne _ c0]
     simp only [d0, cond_true, spec_l11Code_eq, Option.bind_some]
     rw [if_neg c0]; rfl
   ·have : n = names.length := by omega
    subst this
    rw [List.drop_length]
    simp [spec_l11Sweep.l0, sDrop])
  (by omega) 0 d (Nat.zero_le _) ⟨h, by rw [List.drop_zero]; exact hh⟩
 have key : lp spec_l11Sweep.l0 (d, ([], 0, 0, false), names, 0) = _ := key
 rw [key, Option.bind_some, List.drop_zero]
 by_cases c : (sDrop names (d, 0)).2 = 0
 ·rw [if_pos c]
  simp only [caseS_l]
  unfold toldW
  rw [c]; rfl
 ·rw [if_neg c]
  simp only [caseS_r]
noncomputable def segPl (d : DiskT) (id : Int) : List PlaceT := (scan (fileText d (segName id)).1).1.map fun x => ((id, x) : PlaceT)
theorem txt_le {d : DiskT} (h : diskOk d = true) (n : List UInt8) : (fileText d n).1.length ≤ 100000 := by
 have h1 := fileText_len d n (dl_lim (dl_dk h) (by omega))
 have h2 := diskOk_cap h
 omega
theorem segPl_len {d : DiskT} (h : diskOk d = true) (id : Int) : (segPl d id).length ≤ 100000 := by
 unfold segPl
 rw [List.length_map]
 exact Nat.le_trans (scan_len _).2 (txt_le h _)
theorem segsPl_len {d : DiskT} (h : diskOk d = true) : ∀ ids : List Int, (ids.flatMap (segPl d)).length ≤ 100000 * ids.length
 | [] => by simp
 | id :: r => by
  have := segPl_len h id
  have := segsPl_len h r
  simp only [List.flatMap_cons, List.length_append, List.length_cons]; omega
theorem spec_l11Places_eq (id : Int) (t : List UInt8) (ht : t.length < 1000000000) : spec_l11Places.f id t = some ((scan t).1.map fun x => ((id, x) : PlaceT)) := by
 unfold spec_l11Places.f
 rw [spec_ScanRecs_eq t ht, Option.bind_some]
 have hl := (scan_len t).2
 generalize (scan t).1 = l at hl ⊢
 have hk := fold_loop (step := spec_l11Places.l0) l (fun (s : List PlaceT) (p : SpotT) => s ++ [((id, p) : PlaceT)]) (fun n (s : List PlaceT) => (id, s, l, (n : Int))) (fun s => s) (fun n s => s.length ≤ n) (by omega)
  (fun rec n s h hi => by
   have hw := w64_succ (show n + 1 < 9223372036854775808 by omega)
   have hb : (s.length + ([((id, l[n]) : PlaceT)] : List PlaceT).length) * 88 ≤ 140737488355328 := lim88 (by omega)
   simp only [spec_l11Places.l0, Int.ofNat_lt, h, decide_true, cond_true, inB_nat, rdA_nat, getD_lt h, hb, hw])
  (fun n s h hi => by simp; omega)
  (fun rec s hi => by simp [spec_l11Places.l0]) [] (Nat.le_refl _)
 have hk : lp spec_l11Places.l0 (id, [], l, 0) = _ := hk
 have : ∀ (l : List SpotT) (s : List PlaceT), l.foldl (fun (s : List PlaceT) (p : SpotT) => s ++ [((id, p) : PlaceT)]) s = s ++ l.map (fun x => ((id, x) : PlaceT)) := by
  intro l
  induction l with
  | nil => intro s; simp
  | cons x l ih => intro s; rw [List.foldl_cons, ih]; simp
 simp only
 rw [hk, Option.bind_some, this]; rfl
abbrev zStore : StoreT := ((0, []), [], 0, 0, 0)
abbrev zDisk : DiskT := ([], 0, 0, false)
theorem sPut_ne (v : LiveT) {d : DiskT} {c : Int} (h : c ≠ 0) : sPut v (d, c) = (d, c) := by
 unfold sPut sFile
 simp only [sstep_ne h]
noncomputable def openFirst (d : DiskT) : StoreT × DiskT × Int :=
 let w := sPut (2, [1]) (sstep (dCreate (segName 1)) (sweepW zeroLive d))
 if w.2 ≠ 0 then (zStore, w.1, told w.2) else (((2, [1]), [], 1, 0, 0), w.1, 0)
theorem live_one : liveOk (2, [1]) = true := by decide
theorem impl_first_eq (d : DiskT) (h : diskOk d = true) : ∃ w : WorkT, impl_worker_first.f (d, 0) = some (((2, [1]), [], 1, 0, 0), w) ∧ w = toldW (sPut (2, [1]) (sstep (dCreate (segName 1)) (sweepW zeroLive d))) := by
 refine ⟨_, ?_, rfl⟩
 unfold impl_worker_first.f
 have h1 := impl_orphans_eq (d, 0) zeroLive h (by show 0 < _; omega)
 have e1 : wDrop (orphP d zeroLive) (d, 0) = toldW (sweepW zeroLive d) := wDrop_told _ (d, 0)
 have hd1 := dk_sweep h zeroLive
 have h2 := w_create_eq (toldW (sweepW zeroLive d)) (segName 1) (k := 100001) (dl_dk hd1) (by omega) (by have := segName_len 1; omega)
 have e2 : wstep (dCreate (segName 1)) (toldW (sweepW zeroLive d)) = toldW (sstep (dCreate (segName 1)) (sweepW zeroLive d)) := wstep_told _ _
 have hd2 : diskOk (sstep (dCreate (segName 1)) (sweepW zeroLive d)).1 = true := dk_sstep hd1 fun k => dk_Create k _
 have h3 := w_putLive_eq (toldW (sstep (dCreate (segName 1)) (sweepW zeroLive d))) (2, [1]) (k := 100001) (dl_dk hd2) (by omega) (by show 1 < _; decide)
 have e3 := wPut_told (2, [1]) (sstep (dCreate (segName 1)) (sweepW zeroLive d))
 have h1 : impl_worker_orphans.f (d, 0) (0, []) = some (toldW (sweepW zeroLive d)) := h1.trans (by rw [e1])
 rw [e2] at h2
 rw [e3] at h3
 simp only [h1, Option.bind_some, impl_SegName_eq, h2, h3]
theorem spec_first_eq (d : DiskT) (h : diskOk d = true) : spec_l11First.f d = some (openFirst d) := by
 unfold spec_l11First.f openFirst
 have hd1 := dk_sweep h zeroLive
 have h1 := spec_Sweep_eq d zeroLive h (by show 0 < _; omega)
 have h1 : spec_l11Sweep.f d (0, []) = some (toldW (sweepW zeroLive d)) := h1
 rw [h1, Option.bind_some]
 generalize sweepW zeroLive d = w1 at hd1 ⊢
 obtain ⟨d1, c1⟩ := w1
 by_cases z1 : c1 = 0
 rotate_left
 ·have t1 : (told c1 != 0) = true := by rw [told_ne]; simpa using z1
  rw [sstep_ne z1, sPut_ne _ z1]
  simp only [toldW, t1, cond_true]
  rw [if_pos z1]
 subst z1
 have hd1 : diskOk d1 = true := hd1
 have t1 : (told 0 != 0) = false := rfl
 have h2 := spec_Create_eq d1 (segName 1) (dl_lim (dl_dk hd1) (by omega)) (by have := segName_len 1; omega)
 have h2 : spec_Create.f d1 (segName 1) = some (dCreate (segName 1) d1) := h2
 have hd2 := dk_Create hd1 (segName 1)
 simp only [toldW, t1, cond_false, spec_SegName_eq, Option.bind_some, h2, sstep_z]
 generalize dCreate (segName 1) d1 = w2 at hd2 ⊢
 obtain ⟨d2, c2⟩ := w2
 by_cases z2 : c2 = 0
 rotate_left
 ·have t2 : (c2 != 0) = true := by simpa using z2
  rw [sPut_ne _ z2]
  simp only [t2, cond_true, spec_l11Code_eq, Option.bind_some]
  rw [if_pos z2]
 subst z2
 have hd2 : diskOk d2 = true := hd2
 have h3 := spec_PutLive_eq d2 (2, [1]) (k := 100001) (dl_dk hd2) (by omega) (by show 1 < _; decide)
 have h3 : spec_PutLive.f d2 (2, [1]) = some (toldW (sPut (2, [1]) (d2, 0))) := by
  rw [h3]; unfold putLive
  rw [if_neg (by rw [hd2, live_one]; simp)]
 simp only [bne_self_eq_false, cond_false, h3, Option.bind_some]
 generalize sPut (2, [1]) (d2, 0) = w3
 obtain ⟨d3, c3⟩ := w3
 by_cases z3 : c3 = 0
 ·subst z3; simp [toldW, told]
 ·have t3 : (told c3 != 0) = true := by rw [told_ne]; simpa using z3
  simp only [toldW, t3, cond_true]
  rw [if_pos z3]
noncomputable def segsHave (d : DiskT) : List Int → Bool
 | [] => true
 | id :: r => (fileText d (segName id)).2 && ((r.isEmpty || decide ((scan (fileText d (segName id)).1).2 = (fileText d (segName id)).1.length)) && segsHave d r)
noncomputable def lastEnd (d : DiskT) : List Int → Int → Int
 | [], z => z
 | id :: r, _ => lastEnd d r ((scan (fileText d (segName id)).1).2 : Int)
theorem lastEnd_last (d : DiskT) : ∀ (l : List Int) (z : Int), l ≠ [] → lastEnd d l z = ((scan (fileText d (segName (lastI l))).1).2 : Int)
 | [], _, h => absurd rfl h
 | [x], z, _ => by rw [lastEnd, lastEnd, lastI_one]
 | x :: y :: l, z, _ => by rw [lastEnd, lastI_cons]; exact lastEnd_last d (y :: l) _ (by simp)
theorem isEmpty_drop {α : Type} (l : List α) (n : Nat) (h : n < l.length) : (l.drop (n + 1)).isEmpty = decide (¬ n < l.length - 1) := by
 apply Bool.eq_iff_iff.2
 rw [List.isEmpty_iff, List.drop_eq_nil_iff, decide_eq_true_eq]; omega
theorem impl_scanAll_eq (w : WorkT) (v : LiveT) (h : diskOk w.1 = true) (hv : v.2.length < 1000000) :
  impl_worker_scanAll.f w v = some (if segsHave w.1 v.2 = true then (v.2.map (segPl w.1), lastEnd w.1 v.2 0, true, w) else ([], 0, false, w)) := by
 have key := lp_up (step := impl_worker_scanAll.l0) (fun n (s : List (List PlaceT) × Int) => (w, v, s.1, s.2, v.2, (v.2.length : Int), (n : Int))) v.2.length
  (fun n s => if segsHave w.1 (v.2.drop n) = true then .inl (w, s.1 ++ (v.2.drop n).map (segPl w.1), lastEnd w.1 (v.2.drop n) s.2) else .inr (w, [], 0, false)) (fun n s => s.1.length ≤ n)
  (fun rec n s hn hs ih => by
   rcases Nat.lt_or_ge n v.2.length with h1 | h1
   ·have hw := w64_succ (show n + 1 < 9223372036854775808 by omega)
    have hwl : w64 ((v.2.length : Int) - 1) = ((v.2.length - 1 : Nat) : Int) := by rw [w64_id (by omega) (by omega)]; omega
    have hd : v.2.drop n = v.2[n] :: v.2.drop (n + 1) := List.drop_eq_getElem_cons h1
    have htx := txt_le h (segName v.2[n])
    have hsc := scan_len (fileText w.1 (segName v.2[n])).1
    have hpl := impl_placed_eq v.2[n] (scan (fileText w.1 (segName v.2[n])).1).1 (by omega)
    have hb : decide ((s.1.length + ([segPl w.1 v.2[n]] : List (List PlaceT)).length) * 24 ≤ 140737488355328) = true := by simp only [decide_eq_true_eq]; exact lim24 (by omega)
    have ih := ih (s.1 ++ [segPl w.1 v.2[n]], ((scan (fileText w.1 (segName v.2[n])).1).2 : Int)) h1 (by simp only [List.length_append, List.length_singleton]; omega)
    have hft := impl_FileText_eq w.1 (segName v.2[n]) (dl_lim (dl_dk h) (by omega))
    have hsr := impl_ScanRecs_eq (fileText w.1 (segName v.2[n])).1 (by omega)
    rw [hd]
    simp only [segsHave, lastEnd, List.map_cons, isEmpty_drop v.2 n h1]
    simp only [impl_worker_scanAll.l0, Int.ofNat_lt, h1, decide_true, cond_true, inB_nat, rdA_nat, getD_lt h1, impl_SegName_eq, Option.bind_some, hft, hsr, hwl]
    have hpl2 : impl_placed.f v.2[n] (scan (fileText w.1 (segName v.2[n])).1).1 = some (segPl w.1 v.2[n]) := hpl
    have hgo : ((impl_placed.f v.2[n] (scan (fileText w.1 (segName v.2[n])).1).1).bind fun t5 => bif decide ((s.1.length + [t5].length) * 24 ≤ 140737488355328) then rec (w, v, s.1 ++ [t5], ((scan (fileText w.1 (segName v.2[n])).1).2 : Int), v.2, (v.2.length : Int), w64 ((n : Int) + 1)) else none) =
      some (if segsHave w.1 (v.2.drop (n + 1)) = true then .inl (w, s.1 ++ (segPl w.1 v.2[n] :: (v.2.drop (n + 1)).map (segPl w.1)), lastEnd w.1 (v.2.drop (n + 1)) ((scan (fileText w.1 (segName v.2[n])).1).2 : Int)) else .inr (w, [], 0, false)) := by
     rw [hpl2, Option.bind_some, hb, cond_true, hw]
     have : s.1 ++ (segPl w.1 v.2[n] :: (v.2.drop (n + 1)).map (segPl w.1)) = s.1 ++ [segPl w.1 v.2[n]] ++ (v.2.drop (n + 1)).map (segPl w.1) := by simp
     rw [this]; exact ih
    cases hk : (fileText w.1 (segName v.2[n])).2 with
    | false => simp only [Bool.not_false, cond_true, Option.bind_some, caseS_r, Bool.false_and, Bool.false_eq_true, if_false]
    | true =>
     simp only [Bool.not_true, cond_false, Bool.true_and]
     by_cases c1 : n < v.2.length - 1
     ·simp only [c1, decide_true, cond_true, not_true, decide_false, Bool.false_or]
      by_cases c2 : (scan (fileText w.1 (segName v.2[n])).1).2 = (fileText w.1 (segName v.2[n])).1.length
      ·rw [len_eq c2, cond_false]
       simp only [Option.bind_some, caseS_l, decide_eq_true c2, Bool.true_and]
       exact hgo
      ·rw [len_ne c2, cond_true]
       simp only [Option.bind_some, caseS_r, decide_eq_false c2, Bool.false_and, Bool.false_eq_true, if_false]
     ·simp only [c1, decide_false, cond_false, not_false_iff, decide_true, Bool.true_or, Bool.true_and, Option.bind_some, caseS_l]
      exact hgo
   ·have : n = v.2.length := by omega
    subst this
    rw [List.drop_length]
    simp [impl_worker_scanAll.l0, segsHave, lastEnd])
  (by omega) 0 ([], 0) (Nat.zero_le _) (Nat.le_refl _)
 have key : lp impl_worker_scanAll.l0 (w, v, [], 0, v.2, (v.2.length : Int), 0) = _ := key
 unfold impl_worker_scanAll.f
 rw [key, Option.bind_some, List.drop_zero]
 by_cases c : segsHave w.1 v.2 = true
 ·rw [if_pos c, if_pos c]; simp only [caseS_l, List.nil_append]
 ·rw [if_neg c, if_neg c]; simp only [caseS_r]
theorem idsOk_pw {hi : Int} : ∀ (l : List Int) (p : Option Int), idsOk hi p l = true → l.Pairwise (· < ·) ∧ ∀ q, p = some q → ∀ x ∈ l, q < x
 | [], p, _ => ⟨List.Pairwise.nil, by simp⟩
 | x :: r, p, h => by
  simp only [idsOk, Bool.and_eq_true, decide_eq_true_eq] at h
  obtain ⟨h1, h2, h3⟩ := h
  obtain ⟨k1, k2⟩ := idsOk_pw r (some x) h3
  have k2 := k2 x rfl
  refine ⟨List.Pairwise.cons k2 k1, ?_⟩
  rintro q rfl y hy
  have h2 : q < x := by simpa using h2
  rcases List.mem_cons.1 hy with rfl | hy
  ·exact h2
  ·exact Int.lt_trans h2 (k2 y hy)
theorem live_pw {v : LiveT} (h : liveOk v = true) : v.2.Pairwise (· < ·) := (idsOk_pw v.2 none ((liveOk_iff v).1 h).1).1
theorem last_ix {l : List Int} (h : l.Pairwise (· < ·)) {n : Nat} (hn : n < l.length) : (l[n] != lastI l) = decide (n < l.length - 1) := by
 have hl : l.length - 1 < l.length := by omega
 have hg : lastI l = l[l.length - 1] := by unfold lastI; rw [getD_lt hl]
 by_cases c : n < l.length - 1
 ·have := (List.pairwise_iff_getElem.1 h) n (l.length - 1) hn hl c
  rw [decide_eq_true c, hg]
  simpa using (show ¬ l[n] = l[l.length - 1] by omega)
 ·have e : n = l.length - 1 := by omega
  rw [decide_eq_false c, hg]
  subst e; simp
theorem spec_Open_l0 (d : DiskT) (v : LiveT) (h : diskOk d = true) (hv : liveOk v = true) :
  lp spec_Open.l0 (d, zStore, zDisk, zStore, v, lastI v.2, 0) = some (if segsHave d v.2 = true then .inl (d, zStore, zDisk, zStore, v, lastI v.2) else .inr (zStore, d, 3)) := by
 have hlen := liveOk_len hv
 have hpw := live_pw hv
 have key := lp_up (step := spec_Open.l0) (fun n (_ : Unit) => (d, zStore, zDisk, zStore, v, lastI v.2, (n : Int))) v.2.length
  (fun n _ => if segsHave d (v.2.drop n) = true then .inl (d, zStore, zDisk, zStore, v, lastI v.2) else .inr (zStore, d, 3)) (fun _ _ => True)
  (fun rec n s hn hs ih => by
   rcases Nat.lt_or_ge n v.2.length with h1 | h1
   ·have hw := w64_succ (show n + 1 < 9223372036854775808 by omega)
    have hd : v.2.drop n = v.2[n] :: v.2.drop (n + 1) := List.drop_eq_getElem_cons h1
    have htx := txt_le h (segName v.2[n])
    have hsc := scan_len (fileText d (segName v.2[n])).1
    have ih := ih () h1 trivial
    have hft := spec_FileText_eq d (segName v.2[n]) (dl_lim (dl_dk h) (by omega))
    have hsr := spec_ScanRecs_eq (fileText d (segName v.2[n])).1 (by omega)
    have hcp := spec_l3Copy_eq d (by have := (diskOk_fuel h).2.2; omega)
    rw [hd]
    simp only [segsHave, isEmpty_drop v.2 n h1]
    simp only [spec_Open.l0, Int.ofNat_lt, h1, decide_true, cond_true, inB_nat, rdA_nat, getD_lt h1, spec_SegName_eq, Option.bind_some, hft, hsr, last_ix hpw h1]
    cases hk : (fileText d (segName v.2[n])).2 with
    | false => simp only [Bool.not_false, cond_true, hcp, Option.bind_some, caseS_r, Bool.false_and, Bool.false_eq_true, if_false]
    | true =>
     simp only [Bool.not_true, cond_false, Bool.true_and]
     by_cases c1 : n < v.2.length - 1
     ·simp only [c1, decide_true, cond_true, not_true, decide_false, Bool.false_or]
      by_cases c2 : (scan (fileText d (segName v.2[n])).1).2 = (fileText d (segName v.2[n])).1.length
      ·have c3 : decide ((scan (fileText d (segName v.2[n])).1).2 < (fileText d (segName v.2[n])).1.length) = false := decide_eq_false (by omega)
       simp only [c3, cond_false, Option.bind_some, caseS_l, decide_eq_true c2, Bool.true_and, hw, ih]
      ·have c3 : decide ((scan (fileText d (segName v.2[n])).1).2 < (fileText d (segName v.2[n])).1.length) = true := decide_eq_true (by omega)
       simp only [c3, cond_true, hcp, Option.bind_some, caseS_r, decide_eq_false c2, Bool.false_and, Bool.false_eq_true, if_false]
     ·simp only [c1, decide_false, cond_false, not_false_iff, decide_true, Bool.true_or, Bool.true_and, Option.bind_some, caseS_l, hw, ih]
   ·have : n = v.2.length := by omega
    subst this
    rw [List.drop_length]
    simp [spec_Open.l0, segsHave])
  (by omega) 0 () (Nat.zero_le _) trivial
 exact key
noncomputable def hintG (d : DiskT) (id : Int) : Option GroupT :=
 if (fileText d (hintName id)).2 = true ∧ (readHint (fileText d (hintName id)).1).2 = true ∧ hintFits id (fileText d (segName id)).1 (readHint (fileText d (hintName id)).1).1 = true then
  some ((readHint (fileText d (hintName id)).1).1.2.2, (readHint (fileText d (hintName id)).1).1.2.1, 0) else none
theorem impl_hinted_eq (w : WorkT) (id : Int) (h : diskOk w.1 = true) : impl_worker_hinted.f w id = some (match hintG w.1 id with | some g => (g, true, w) | none => (([], 0, 0), false, w)) := by
 have hlm := dl_lim (dl_dk h) (show 100001 ≤ 1000000000 by omega)
 have ht := txt_le h (hintName id)
 have ht2 := txt_le h (segName id)
 unfold impl_worker_hinted.f hintG
 simp only [impl_HintName_eq, Option.bind_some, impl_FileText_eq w.1 (hintName id) hlm, impl_ReadHint_eq _ (show (fileText w.1 (hintName id)).1.length < 900000000 by omega), impl_SegName_eq, impl_FileText_eq w.1 (segName id) hlm,
  impl_HintFits_eq id (fileText w.1 (segName id)).1 (readHint (fileText w.1 (hintName id)).1).1 (by omega)]
 cases (fileText w.1 (hintName id)).2 <;> cases (readHint (fileText w.1 (hintName id)).1).2 <;> cases hintFits id (fileText w.1 (segName id)).1 (readHint (fileText w.1 (hintName id)).1).1 <;> simp
noncomputable def placesOf (x : DiskT) (ids : List Int) : List PlaceT := ids.flatMap (segPl x)
theorem spec_Open_l2 (x : DiskT) (v : LiveT) (e : Int) (h : diskOk x = true) (hv : liveOk v = true) :
  lp spec_Open.l2 (zStore, zDisk, zStore, v, x, (v, [], 0, e, 0), ([], 0, 0), [], 0) =
   some (match hintG x (v.2.getD 0 0) with
    | some g => (zStore, zDisk, zStore, v, x, (v, [], 0, e, v.2.getD 0 0), g, placesOf x (v.2.drop 1))
    | none => (zStore, zDisk, zStore, v, x, (v, [], 0, e, 0), ([], 0, 0), placesOf x v.2)) := by
 have hlm := dl_lim (dl_dk h) (show 100001 ≤ 1000000000 by omega)
 have hlen := liveOk_len hv
 have key := lp_up (step := spec_Open.l2) (fun n (s : StoreT × GroupT × List PlaceT) => (zStore, zDisk, zStore, v, x, s.1, s.2.1, s.2.2, (n : Int))) v.2.length
  (fun n s => if n = 0 then (match hintG x (v.2.getD 0 0) with
    | some g => (zStore, zDisk, zStore, v, x, (s.1.1, s.1.2.1, s.1.2.2.1, s.1.2.2.2.1, v.2.getD 0 0), g, s.2.2 ++ placesOf x (v.2.drop 1))
    | none => (zStore, zDisk, zStore, v, x, s.1, s.2.1, s.2.2 ++ placesOf x v.2)) else (zStore, zDisk, zStore, v, x, s.1, s.2.1, s.2.2 ++ placesOf x (v.2.drop n)))
  (fun n s => s.2.2.length ≤ 100000 * n ∧ (n = 0 → s.2.1.2.2 = 0 ∧ 0 < v.2.length))
  (fun rec n s hn hs ih => by
   rcases Nat.lt_or_ge n v.2.length with h1 | h1
   ·have hw := w64_succ (show n + 1 < 9223372036854775808 by omega)
    have hd : v.2.drop n = v.2[n] :: v.2.drop (n + 1) := List.drop_eq_getElem_cons h1
    have ht := txt_le h (hintName v.2[n])
    have ht2 := txt_le h (segName v.2[n])
    have hpl := segPl_len h v.2[n]
    have hb : decide ((s.2.2.length + (segPl x v.2[n]).length) * 88 ≤ 140737488355328) = true := by
     have := hs.1
     simp only [decide_eq_true_eq]; omega
    have hi : (spec_l11Places.f v.2[n] (fileText x (segName v.2[n])).1) = some (segPl x v.2[n]) := spec_l11Places_eq _ _ (by omega)
    have hpd : placesOf x (v.2.drop n) = segPl x v.2[n] ++ placesOf x (v.2.drop (n + 1)) := by rw [hd]; rfl
    have hx : inB (n : Int) v.2.length = true := by rw [inB_nat, decide_eq_true h1]
    have hr : rdA 0 v.2 (n : Int) = v.2[n] := by rw [rdA_nat, getD_lt h1]
    have hrh := spec_ReadHint_eq (fileText x (hintName v.2[n])).1 (show (fileText x (hintName v.2[n])).1.length < 900000000 by omega)
    have hhf := spec_HintFits_eq v.2[n] (fileText x (segName v.2[n])).1 (readHint (fileText x (hintName v.2[n])).1).1 (by omega)
    simp only [spec_Open.l2, Int.ofNat_lt, h1, decide_true, cond_true, hx, hr, spec_SegName_eq, Option.bind_some, spec_FileText_eq x _ hlm, spec_HintName_eq, hrh]
    have ih1 := ih (s.1, s.2.1, s.2.2 ++ segPl x v.2[n]) h1 ⟨by simp only [List.length_append]; have := hs.1; omega, by omega⟩
    rw [if_neg (by omega)] at ih1
    simp only [List.append_assoc, ← hpd] at ih1
    by_cases c : n = 0
    ·subst c
     rw [if_pos rfl]
     have hx0 : inB 0 v.2.length = true := hx
     have hr0 : rdA 0 v.2 0 = v.2[0] := hr
     have hg0 : v.2.getD 0 0 = v.2[0] := getD_lt h1
     have hn0 : (((0 : Nat) : Int) == 0) = true := rfl
     have hcode := (hs.2 rfl).1
     have ih2 := ih ((s.1.1, s.1.2.1, s.1.2.2.1, s.1.2.2.2.1, v.2[0]), ((readHint (fileText x (hintName v.2[0])).1).1.2.2, (readHint (fileText x (hintName v.2[0])).1).1.2.1, 0), s.2.2) h1 ⟨by have := hs.1; show s.2.2.length ≤ _; omega, by omega⟩
     rw [if_neg (by omega)] at ih2
     rw [List.drop_zero] at ih1
     simp only [hn0, cond_true, hx0, hr0, hhf, hg0, hcode, Option.bind_some]
     unfold hintG
     cases c1 : (fileText x (hintName v.2[0])).2 with
     | false => simp only [cond_false, Option.bind_some, caseS_l, hx, hr, hi, hb, cond_true, hw, ih1, Bool.false_eq_true, false_and, if_false]
     | true =>
      cases c2 : (readHint (fileText x (hintName v.2[0])).1).2 with
      | false => simp only [cond_true, cond_false, Option.bind_some, caseS_l, hx, hr, hi, hb, hw, ih1, Bool.false_eq_true, false_and, and_false, if_false]
      | true =>
       cases c3 : hintFits v.2[0] (fileText x (segName v.2[0])).1 (readHint (fileText x (hintName v.2[0])).1).1 with
       | false => simp only [cond_true, cond_false, Option.bind_some, caseS_l, hx, hr, hi, hb, hw, ih1, Bool.false_eq_true, false_and, and_false, if_false]
       | true => simp only [cond_true, Option.bind_some, caseS_r, hw, ih2, and_true, if_true]
    ·rw [if_neg c]
     have hn0 : ((n : Int) == 0) = false := by simpa using (show ¬ (n : Int) = 0 by omega)
     simp only [hn0, cond_false, Option.bind_some, caseS_l, hx, hr, hi, hb, cond_true, hw, ih1]
   ·have : n = v.2.length := by omega
    subst this
    have : ¬ v.2.length = 0 := fun e => by have := (hs.2 e).2; omega
    rw [if_neg this, List.drop_length]
    simp [spec_Open.l2, placesOf])
  (by omega) 0 ((v, [], 0, e, 0), ([], 0, 0), []) (Nat.zero_le _) ⟨Nat.le_refl _, fun _ => ⟨rfl, by have := ((liveOk_iff v).1 hv).2.2.1; omega⟩⟩
 have key : lp spec_Open.l2 (zStore, zDisk, zStore, v, x, (v, [], 0, e, 0), ([], 0, 0), [], 0) = _ := key
 rw [key, if_pos rfl]
 cases hintG x (v.2.getD 0 0) <;> simp
theorem impl_found_l0 (w : WorkT) (v : LiveT) (S : StoreT) (g : GroupT) (L : List (List PlaceT)) (z : LiveT) (hL : ∀ l ∈ L, l.length ≤ 100000) (hl : L.length ≤ 1000) :
  lp impl_worker_found.l0 (w, zStore, (v.1, []), S, g, [], L, (L.length : Int), 0) = some (w, zStore, (v.1, []), S, g, L.flatten) := by
 have hk := fold_loop (step := impl_worker_found.l0) L (fun (s : List PlaceT) l => s ++ l) (fun n s => (w, zStore, (v.1, []), S, g, s, L, (L.length : Int), (n : Int))) (fun s => (w, zStore, (v.1, []), S, g, s)) (fun n s => s.length ≤ 100000 * n) (by omega)
  (fun rec n s h hi => by
   have hw := w64_succ (show n + 1 < 9223372036854775808 by omega)
   have h1 := hL _ (List.getElem_mem h)
   have hb : decide ((s.length + L[n].length) * 88 ≤ 140737488355328) = true := by simp only [decide_eq_true_eq]; omega
   simp only [impl_worker_found.l0, Int.ofNat_lt, h, decide_true, cond_true, inB_nat, rdA_nat, getD_lt h, hb, hw])
  (fun n s h hi => by have h1 := hL _ (List.getElem_mem h); simp only [List.length_append]; omega)
  (fun rec s hi => by simp [impl_worker_found.l0]) [] (Nat.le_refl _)
 have hk : lp impl_worker_found.l0 (w, zStore, (v.1, []), S, g, [], L, (L.length : Int), 0) = _ := hk
 rw [hk]
 have : ∀ (L : List (List PlaceT)) (s : List PlaceT), L.foldl (fun (s : List PlaceT) l => s ++ l) s = s ++ L.flatten := by
  intro L
  induction L with
  | nil => intro s; simp
  | cons x L ih => intro s; rw [List.foldl_cons, ih]; simp
 rw [this]; rfl
theorem ft_Trunc {d : DiskT} (h : diskOk d = true) {m n : List UInt8} (z : Int) (hne : n ≠ m) : fileText (dTrunc m z d).1 n = fileText d n := by
 refine ft_files h (dk_Trunc h m z) n fun t => ?_
 unfold actTrunc
 rcases fileIx_cases d.1 m with ⟨e, _⟩ | ⟨i, hi, e, hn⟩
 ·rw [ix_none e]
 ·rw [ix_some e]
  simp only
  split
  ·rw [getD_lt hi]
   constructor
   ·rintro ⟨s, hs⟩; exact ⟨s, (mem_set_ne (f := (d.1[i].1, d.1[i].2.1.take z.toNat, if z < d.1[i].2.2 then z else d.1[i].2.2)) hi rfl (by rw [hn]; exact hne)).2 hs⟩
   ·rintro ⟨s, hs⟩; exact ⟨s, (mem_set_ne (f := (d.1[i].1, d.1[i].2.1.take z.toNat, if z < d.1[i].2.2 then z else d.1[i].2.2)) hi rfl (by rw [hn]; exact hne)).1 hs⟩
  ·exact Iff.rfl
theorem truncTxt {d : DiskT} {n : List UInt8} {z : Int} (h : (dTrunc n z d).2 = 0) : fileText (dTrunc n z d).1 n = ((fileText d n).1.take z.toNat, true) := by
 obtain ⟨k, ha, hx⟩ := dstep_zero h
 have hk : diskOk (dTrunc n z d).1 = true := dk_Trunc k n z
 have hx : (dTrunc n z d).1 = _ := hx
 unfold actTrunc at ha hx
 rcases fileIx_cases d.1 n with ⟨e, _⟩ | ⟨i, hi, e, hn⟩
 ·rw [ix_none e] at ha; simp at ha
 rw [ix_some e] at ha hx
 simp only at ha hx
 split at ha
 ·rename_i c
  rw [if_pos c, getD_lt hi] at hx
  have e1 := fileText_mem k (List.getElem_mem hi)
  rw [hn] at e1
  have hm : ((n, d.1[i].2.1.take z.toNat, if z < d.1[i].2.2 then z else d.1[i].2.2) : FileT) ∈ (dTrunc n z d).1.1 := by
   rw [hx, ← hn]
   exact List.mem_iff_getElem.2 ⟨i, by simpa using hi, by simp⟩
  have e2 := fileText_mem hk hm
  rw [e1]
  exact e2
 ·simp at ha
noncomputable def cutN (v : LiveT) (d : DiskT) : Nat := (scan (fileText d (segName (lastI v.2))).1).2
noncomputable def cutW (v : LiveT) (d : DiskT) : WorkT :=
 sstep (dSync (segName (lastI v.2))) (if (fileText d (segName (lastI v.2))).1.length = cutN v d then (d, 0) else dTrunc (segName (lastI v.2)) (cutN v d : Int) d)
theorem dk_cutW {v : LiveT} {d : DiskT} (h : diskOk d = true) : diskOk (cutW v d).1 = true := by
 unfold cutW
 refine dk_sstep ?_ fun k => dk_Sync k _
 split
 ·exact h
 ·exact dk_Trunc h _ _
theorem cutW_ft {v : LiveT} {d : DiskT} (h : diskOk d = true) (n : List UInt8) (hne : n ≠ segName (lastI v.2)) : fileText (cutW v d).1 n = fileText d n := by
 unfold cutW
 split
 ·rw [ft_sstep (ft_Sync h _ _)]
 ·have hk : diskOk (dTrunc (segName (lastI v.2)) (cutN v d : Int) d).1 = true := dk_Trunc h _ _
  rw [ft_sstep (ft_Sync hk _ _)]
  exact ft_Trunc h _ hne
theorem cutW_last {v : LiveT} {d : DiskT} (h : diskOk d = true) (hl : (fileText d (segName (lastI v.2))).2 = true) (hc : (cutW v d).2 = 0) :
  fileText (cutW v d).1 (segName (lastI v.2)) = ((fileText d (segName (lastI v.2))).1.take (cutN v d), true) := by
 unfold cutW at hc ⊢
 have h0 := (sstep_inv hc).1
 split
 ·rename_i c
  rw [ft_sstep (ft_Sync h _ _), ← c, List.take_length]
  exact Prod.ext rfl hl
 ·rename_i c
  rw [if_neg c] at h0
  have hk : diskOk (dTrunc (segName (lastI v.2)) (cutN v d : Int) d).1 = true := dk_Trunc h _ _
  rw [ft_sstep (ft_Sync hk _ _), truncTxt h0, Int.toNat_natCast]
theorem cutW_pl {v : LiveT} {d : DiskT} (h : diskOk d = true) (hl : (fileText d (segName (lastI v.2))).2 = true) (hc : (cutW v d).2 = 0) (id : Int) : segPl (cutW v d).1 id = segPl d id := by
 unfold segPl
 by_cases c : segName id = segName (lastI v.2)
 ·rw [c, cutW_last h hl hc]
  show List.map _ (scan ((fileText d (segName (lastI v.2))).1.take (cutN v d))).1 = _
  unfold cutN
  rw [scan_cut]
 ·rw [cutW_ft h _ c]
theorem segsHave_last {d : DiskT} : ∀ (l : List Int), l ≠ [] → segsHave d l = true → (fileText d (segName (lastI l))).2 = true
 | [], h, _ => absurd rfl h
 | [x], _, h => by
  simp only [segsHave, Bool.and_eq_true] at h
  rw [lastI_one]; exact h.1
 | x :: y :: l, _, h => by
  rw [lastI_cons]
  have h : segsHave d (x :: (y :: l)) = true := h
  rw [segsHave, Bool.and_eq_true, Bool.and_eq_true] at h
  exact segsHave_last (y :: l) (by simp) h.2.2
noncomputable def openF (v : LiveT) (d : DiskT) : StoreT × DiskT × Int :=
 if (cutW v d).2 ≠ 0 then (zStore, (cutW v d).1, told (cutW v d).2) else
 let x := (cutW v d).1
 let g := match hintG x (v.2.getD 0 0) with
  | some g => regroup g (placesOf x (v.2.drop 1))
  | none => regroup ([], 0, 0) (placesOf x v.2)
 let hinted := match hintG x (v.2.getD 0 0) with
  | some _ => v.2.getD 0 0
  | none => 0
 if g.2.2 ≠ 0 then (zStore, x, 3) else
 if (sweepW v x).2 ≠ 0 then (zStore, (sweepW v x).1, told (sweepW v x).2) else
 ((v, g.1, w64 (g.2.1 + 1), (cutN v d : Int), hinted), (sweepW v x).1, 0)
noncomputable def openP (d : DiskT) : StoreT × DiskT × Int :=
 if diskOk d = false then (zStore, d, 4) else if d.2.2.2 = true then (zStore, d, 1) else
 if (fileText d liveN).2 = false then openFirst d else
 if (readLive (fileText d liveN).1).2 = false then (zStore, d, 3) else
 if segsHave d (readLive (fileText d liveN).1).1.2 = false then (zStore, d, 3) else openF (readLive (fileText d liveN).1).1 d
theorem hintG_len {x : DiskT} {id : Int} {g : GroupT} (h : hintG x id = some g) : g.1.length ≤ 20 ∧ g.2.2 = 0 := by
 unfold hintG at h
 split at h
 ·rename_i c
  simp only [Option.some.injEq] at h
  subst h
  refine ⟨?_, rfl⟩
  rcases readHint_cases (fileText x (hintName id)).1 with ⟨e, _⟩ | ⟨u, e, hu⟩
  ·rw [e] at c; simp at c
  ·rw [e]; exact (hint_in hu.1).2.2.1
 ·simp at h
theorem regInv_hint {x : DiskT} {id : Int} {g : GroupT} (h : hintG x id = some g) : regInv g := by
 obtain ⟨h1, h2⟩ := hintG_len h
 unfold regInv
 rw [if_pos h2]; omega
theorem regInv_zero : regInv ([], 0, 0) := by unfold regInv; simp
theorem placesOf_len {x : DiskT} (h : diskOk x = true) {ids : List Int} (hl : ids.length ≤ 60) : (placesOf x ids).length < 10000000 := by
 have := segsPl_len h ids
 unfold placesOf; omega
theorem impl_found_eq (d : DiskT) (t : List UInt8) (h : diskOk d = true) (ht : t.length < 1000000000) :
  ∃ S w, impl_worker_found.f (d, 0) t = some (S, w) ∧
   (if w.2 ≠ 0 then (zStore, w.1, w.2) else (S, w.1, (0 : Int))) =
   (if (readLive t).2 = false then (zStore, d, 3) else if segsHave d (readLive t).1.2 = false then (zStore, d, 3) else openF (readLive t).1 d) := by
 unfold impl_worker_found.f
 rw [impl_ReadLive_eq t ht, Option.bind_some]
 rcases readLive_cases t with ⟨e, _⟩ | ⟨v, e, hv⟩
 ·rw [e]
  have hs := impl_scanAll_eq (d, 0) zeroLive h (by show 0 < _; omega)
  rw [if_pos (show segsHave d zeroLive.2 = true from rfl)] at hs
  simp only [hs, Option.bind_some, Bool.not_false, cond_true, if_true]
  exact ⟨_, _, rfl, by simp⟩
 rw [e]
 have hlen := liveOk_len hv.1
 have hpos := ((liveOk_iff v).1 hv.1).2.2.1
 have hs := impl_scanAll_eq (d, 0) v h (by omega)
 simp only [hs, Option.bind_some]
 cases hc : segsHave d v.2 with
 | false =>
  simp only [Bool.false_eq_true, if_false, Bool.not_true, cond_false, Bool.not_false, cond_true]
  exact ⟨_, _, rfl, by simp⟩
 | true =>
  have hlast := segsHave_last v.2 (fun z => by rw [z] at hpos; simp at hpos) hc
  obtain ⟨l1, l2, l3⟩ := last_rd hpos (by omega)
  have hle := lastEnd_last d v.2 0 (fun z => by rw [z] at hpos; simp at hpos)
  have hlm := dl_lim (dl_dk h) (show 100001 ≤ 1000000000 by omega)
  have hT := impl_Truncate_eq d (segName (lastI v.2)) (cutN v d : Int) hlm
  have hT : impl_Truncate.f d (segName (lastI v.2)) (cutN v d : Int) = some (dTrunc (segName (lastI v.2)) (cutN v d : Int) d) := hT
  have hcw : lastEnd d v.2 0 = (cutN v d : Int) := hle
  simp only [if_true, Bool.not_true, cond_false, Bool.true_eq_false, if_false, l1, l2, cond_true, l3, impl_SegName_eq, Option.bind_some, impl_FileText_eq d _ hlm, hcw]
  -- cut and kept
  have hmid : ∃ w0 : WorkT, w0 = toldW (if (fileText d (segName (lastI v.2))).1.length = cutN v d then (d, 0) else dTrunc (segName (lastI v.2)) (cutN v d : Int) d) ∧
    ((bif ((fileText d (segName (lastI v.2))).1.length : Int) != (cutN v d : Int) then
     (impl_Truncate.f d (segName (lastI v.2)) (cutN v d : Int)).bind fun (t5_0, t5_1) => (impl_worker_took_o.f (d, 0) t5_0 t5_1).bind fun t6 => some (t6, zStore, v, v.2.map (segPl d), (cutN v d : Int), segName (lastI v.2))
     else some ((d, 0), zStore, v, v.2.map (segPl d), (cutN v d : Int), segName (lastI v.2)) : Option (WorkT × StoreT × LiveT × List (List PlaceT) × Int × List UInt8))) = some (w0, zStore, v, v.2.map (segPl d), (cutN v d : Int), segName (lastI v.2)) := by
   refine ⟨_, rfl, ?_⟩
   by_cases c : (fileText d (segName (lastI v.2))).1.length = cutN v d
   ·rw [len_eq c, if_pos c]; rfl
   ·rw [len_ne c, if_neg c, cond_true, hT, Option.bind_some]
    generalize dTrunc (segName (lastI v.2)) (cutN v d : Int) d = p
    obtain ⟨p1, p2⟩ := p
    simp only [took_eq, Option.bind_some]; rfl
  obtain ⟨w0, ew0, hmid⟩ := hmid
  have hmid := hmid
  have hsync : impl_worker_sync.f w0 (segName (lastI v.2)) = some (toldW (cutW v d)) := by
   have hd0 : diskOk w0.1 = true := by
    rw [ew0]
    show diskOk (if (fileText d (segName (lastI v.2))).1.length = cutN v d then (d, (0 : Int)) else dTrunc (segName (lastI v.2)) (cutN v d : Int) d).1 = true
    split
    ·exact h
    ·exact dk_Trunc h _ _
   rw [w_sync_eq w0 (segName (lastI v.2)) (dl_dk hd0) (by omega), ew0, wstep_told]; rfl
  refine (show ∃ S w, _ ∧ _ from ?_)
  have hx0 : inB 0 v.2.length = true := by rw [show (0 : Int) = ((0 : Nat) : Int) from rfl, inB_nat]; simp; omega
  have hr0 : rdA 0 v.2 0 = v.2.getD 0 0 := by rw [show (0 : Int) = ((0 : Nat) : Int) from rfl, rdA_nat]
  have hsl : (decide (0 ≤ (1 : Int)) && decide (1 ≤ ((v.2.map (segPl d)).length : Int))) = true := by rw [List.length_map]; simp; omega
  have hd1 := dk_cutW (v := v) h
  have hpl := fun hc2 => cutW_pl (v := v) h hlast hc2
  unfold openF
  have hfl : ∀ ids : List Int, (cutW v d).2 = 0 → (ids.map (segPl d)).flatten = placesOf (cutW v d).1 ids := fun ids hc2 => by
   unfold placesOf
   rw [List.flatMap_def]
   congr 1
   exact List.map_congr_left fun id _ => (hpl hc2 id).symm
  have hmap : ∀ (ids : List Int), ∀ l ∈ ids.map (segPl d), l.length ≤ 100000 := fun ids l hl => by
   obtain ⟨id, _, rfl⟩ := List.mem_map.1 hl; exact segPl_len h id
  rw [show (((d, (0 : Int)) : WorkT).1) = d from rfl] at *
  rw [hmid, Option.bind_some]
  simp only [hsync, Option.bind_some]
  generalize hW : cutW v d = W at *
  obtain ⟨x, c⟩ := W
  by_cases c0 : c = 0
  rotate_left
  ·have t1 : (told c != 0) = true := by rw [told_ne]; simpa using c0
   have t2 : told c ≠ 0 := fun z => c0 ((told_zero c).1 z)
   rw [if_pos c0]
   simp only [toldW, t1, cond_true]
   exact ⟨_, _, rfl, by rw [if_pos t2]⟩
  subst c0
  have hd1 : diskOk x = true := hd1
  rw [if_neg (by simp)]
  have t1 : (told 0 != 0) = false := rfl
  have t0 : told 0 = 0 := rfl
  have hh := impl_hinted_eq (x, 0) (v.2.getD 0 0) hd1
  simp only [toldW, t1, t0, cond_false, hx0, cond_true, hr0, hh, Option.bind_some]
  -- the end, alike for both ways
  have fin : ∀ (g0 : GroupT) (ids : List Int) (hin : Int), regInv g0 → ids.length ≤ 60 →
    ∃ S w, ((lp impl_worker_found.l0 ((x, 0), zStore, (v.1, []), (v, [], 0, (cutN v d : Int), hin), g0, [], ids.map (segPl d), ((ids.map (segPl d)).length : Int), 0)).bind (fun (x0, x4, x5, x13, x14, x16) =>
     (impl_Regroup.f x14 x16).bind fun t10 =>
     bif t10.2.2 != 0 then some (zStore, (x0.1, 3)) else
     (impl_worker_orphans.f x0 (x5.1, x13.1.2)).bind fun t11 => some ((x13.1, t10.1, w64 (t10.2.1 + 1), x13.2.2.2), t11)) : Option (StoreT × WorkT)) = some (S, w) ∧
    (if w.2 ≠ 0 then (zStore, w.1, w.2) else (S, w.1, (0 : Int))) =
     (if (regroup g0 (placesOf x ids)).2.2 ≠ 0 then (zStore, x, 3) else if (sweepW v x).2 ≠ 0 then (zStore, (sweepW v x).1, told (sweepW v x).2) else
      ((v, (regroup g0 (placesOf x ids)).1, w64 ((regroup g0 (placesOf x ids)).2.1 + 1), (cutN v d : Int), hin), (sweepW v x).1, 0)) := by
   intro g0 ids hin hg hi
   rw [impl_found_l0 (x, 0) v (v, [], 0, (cutN v d : Int), hin) g0 (ids.map (segPl d)) v (hmap ids) (by rw [List.length_map]; omega), Option.bind_some]
   have hfl2 := hfl ids rfl
   have hrg := impl_Regroup_eq g0 (placesOf x ids) (placesOf_len hd1 hi) hg
   have hor := impl_orphans_eq (x, 0) (v.1, v.2) hd1 (by show v.2.length < _; omega)
   have ewd : wDrop (orphP x v) (x, 0) = toldW (sweepW v x) := wDrop_told _ (x, 0)
   have hor : impl_worker_orphans.f (x, 0) (v.1, v.2) = some (toldW (sweepW v x)) := hor.trans (by rw [← ewd])
   simp only [hfl2, hrg, Option.bind_some]
   by_cases c1 : (regroup g0 (placesOf x ids)).2.2 = 0
   rotate_left
   ·have d1 : ((regroup g0 (placesOf x ids)).2.2 != 0) = true := by simpa using c1
    rw [d1, cond_true, if_pos c1]
    exact ⟨_, _, rfl, by simp⟩
   have d1 : ((regroup g0 (placesOf x ids)).2.2 != 0) = false := by simpa using c1
   rw [d1, cond_false, if_neg (fun z => z c1), hor, Option.bind_some]
   refine ⟨_, _, rfl, ?_⟩
   generalize sweepW v x = S2
   obtain ⟨y, c2⟩ := S2
   by_cases c3 : c2 = 0
   ·subst c3; simp [toldW, told]
   ·have t2 : told c2 ≠ 0 := fun z => c3 ((told_zero c2).1 z)
    simp [toldW, t2, c3]
  cases hg : hintG x (v.2.getD 0 0) with
  | some g =>
   simp only [cond_true, hx0, hsl, hr0, Option.bind_some]
   have e1 : (v.2.map (segPl d)).drop 1 = (v.2.drop 1).map (segPl d) := by rw [List.map_drop]
   rw [e1]
   exact fin g (v.2.drop 1) (v.2.getD 0 0) (regInv_hint hg) (by rw [List.length_drop]; omega)
  | none =>
   simp only [cond_false, Option.bind_some]
   exact fin ([], 0, 0) v.2 0 regInv_zero hlen
theorem impl_Open_eq (d : DiskT) (hd : dl 1048577 d) : impl_Open.f d = some (openP d) := by
 have hlm := dl_lim hd (by omega)
 unfold impl_Open.f openP
 rw [impl_copyDisk_eq d (by have := hd.1; omega), Option.bind_some, impl_DiskOk_eq d hlm, Option.bind_some]
 cases h : diskOk d with
 | false => rfl
 | true =>
  simp only [Bool.not_true, cond_false, Bool.true_eq_false, if_false]
  obtain ⟨fs, cap, fuel, down⟩ := d
  cases hdn : down with
  | true => rfl
  | false =>
   subst hdn
   simp only [cond_false, Bool.false_eq_true, if_false]
   have hft := impl_FileText_eq (fs, cap, fuel, false) liveN hlm
   have hft : impl_FileText.f (fs, cap, fuel, false) [108, 105, 118, 101] = _ := hft
   rw [hft, Option.bind_some]
   have htl := txt_le h liveN
   generalize ((fs, cap, fuel, false) : DiskT) = d at *
   generalize fileText d liveN = q at htl ⊢
   obtain ⟨t, b⟩ := q
   cases b with
   | false =>
    simp only [cond_false, if_true]
    obtain ⟨w, e1, e2⟩ := impl_first_eq d h
    simp only [e1, Option.bind_some]
    unfold openFirst
    rw [e2]
    generalize sPut (2, [1]) (sstep (dCreate (segName 1)) (sweepW zeroLive d)) = p
    obtain ⟨y, c⟩ := p
    by_cases c0 : c = 0
    ·subst c0; simp [toldW, told]
    ·have t1 : (told c != 0) = true := by rw [told_ne]; simpa using c0
     simp only [toldW, t1, cond_true]
     rw [if_pos c0]
   | true =>
    simp only [cond_true, Bool.true_eq_false, if_false]
    obtain ⟨S, w, e1, e2⟩ := impl_found_eq d t h (by have : t.length ≤ 100000 := htl; omega)
    rw [← e2]
    simp only [e1, Option.bind_some]
    obtain ⟨y, c⟩ := w
    by_cases c0 : c = 0
    ·subst c0; simp
    ·have t1 : (c != 0) = true := by simpa using c0
     simp only [t1, cond_true]
     rw [if_pos c0]
theorem spec_Open_eq (d : DiskT) (hd : dl 1048577 d) : spec_Open.f d = some (openP d) := by
 have hlm := dl_lim hd (by omega)
 unfold spec_Open.f openP
 have hcp := spec_l3Copy_eq d (by have := hd.1; omega)
 rw [spec_DiskOk_eq d hlm, Option.bind_some]
 cases h : diskOk d with
 | false => simp only [Bool.not_false, cond_true, hcp, Option.bind_some, if_true]
 | true =>
  simp only [Bool.not_true, cond_false, Bool.true_eq_false, if_false]
  cases hdn : d.2.2.2 with
  | true => simp only [cond_true, hcp, Option.bind_some, if_true]
  | false =>
   simp only [cond_false, Bool.false_eq_true, if_false]
   have hft := spec_FileText_eq d liveN hlm
   have hft : spec_FileText.f d [108, 105, 118, 101] = _ := hft
   rw [hft, Option.bind_some]
   have htl := txt_le h liveN
   generalize fileText d liveN = q at htl ⊢
   obtain ⟨t, b⟩ := q
   cases b with
   | false => simp only [Bool.not_false, cond_true, spec_first_eq d h, Option.bind_some, if_true]
   | true =>
    have htl : t.length ≤ 100000 := htl
    simp only [Bool.not_true, cond_false, Bool.true_eq_false, if_false, spec_ReadLive_eq t (by omega), Option.bind_some]
    rcases readLive_cases t with ⟨e, _⟩ | ⟨v, e, hv⟩
    ·rw [e]
     simp only [Bool.not_false, cond_true, hcp, Option.bind_some, if_true]
    rw [e]
    have hlen := liveOk_len hv.1
    have hpos := ((liveOk_iff v).1 hv.1).2.2.1
    obtain ⟨l1, l2, l3⟩ := last_rd hpos (by omega)
    have h0 := spec_Open_l0 d v h hv.1
    simp only [Bool.not_true, cond_false, Bool.true_eq_false, if_false, l1, l2, cond_true, l3, h0, Option.bind_some]
    cases hc : segsHave d v.2 with
    | false => simp only [Bool.false_eq_true, if_false, caseS_r, if_true]
    | true =>
     have hsc := scan_len (fileText d (segName (lastI v.2))).1
     have htx := txt_le h (segName (lastI v.2))
     have hT := spec_Truncate_eq d (segName (lastI v.2)) (cutN v d : Int) hlm
     have hT : spec_Truncate.f d (segName (lastI v.2)) (cutN v d : Int) = some (dTrunc (segName (lastI v.2)) (cutN v d : Int) d) := hT
     have hsr := spec_ScanRecs_eq (fileText d (segName (lastI v.2))).1 (by omega)
     have hcn : ((scan (fileText d (segName (lastI v.2))).1).2 : Int) = (cutN v d : Int) := rfl
     rw [hcn] at hsr
     simp only [if_true, caseS_l, Bool.true_eq_false, if_false, spec_SegName_eq, Option.bind_some, spec_FileText_eq d _ hlm, hsr, hcp]
     have hle : cutN v d ≤ (fileText d (segName (lastI v.2))).1.length := hsc.1
     unfold openF
     -- the end, alike for both ways
     have fin : ∀ (w : WorkT), diskOk w.1 = true → w.2 = 0 → cutW v d = sstep (dSync (segName (lastI v.2))) w →
       ((spec_Sync.f w.1 (segName (lastI v.2))).bind fun (t25_0, t25_1) =>
        bif t25_1 != 0 then (spec_l11Code.f t25_1).bind fun t26 => some (zStore, t25_0, t26) else
        (lp spec_Open.l2 (zStore, zDisk, zStore, v, t25_0, (v, [], 0, (cutN v d : Int), 0), ([], 0, 0), ([] : List PlaceT), 0)).bind (fun (x2, x3, x5, x8, x19, x23, x24, x25) =>
        (spec_Regroup.f x24 x25).bind fun t35 =>
        bif t35.2.2 != 0 then some (x5, x19, 3) else
        (spec_l11Sweep.f x19 x8).bind fun (t36_0, t36_1) =>
        bif t36_1 != 0 then some (x5, t36_0, t36_1) else some ((x23.1, t35.1, w64 (t35.2.1 + 1), x23.2.2.2), t36_0, 0))) =
       some (if (cutW v d).2 ≠ 0 then (zStore, (cutW v d).1, told (cutW v d).2) else
        let x := (cutW v d).1
        let g := match hintG x (v.2.getD 0 0) with
         | some g => regroup g (placesOf x (v.2.drop 1))
         | none => regroup ([], 0, 0) (placesOf x v.2)
        let hinted := match hintG x (v.2.getD 0 0) with
         | some _ => v.2.getD 0 0
         | none => 0
        if g.2.2 ≠ 0 then (zStore, x, 3) else
        if (sweepW v x).2 ≠ 0 then (zStore, (sweepW v x).1, told (sweepW v x).2) else
        ((v, g.1, w64 (g.2.1 + 1), (cutN v d : Int), hinted), (sweepW v x).1, 0)) := by
      intro w hw h0 ecut
      obtain ⟨w1, w2⟩ := w
      have h0 : w2 = 0 := h0
      subst h0
      have hw : diskOk w1 = true := hw
      have hsy := spec_Sync_eq w1 (segName (lastI v.2)) (dl_lim (dl_dk hw) (by omega))
      have hsy : spec_Sync.f w1 (segName (lastI v.2)) = some (dSync (segName (lastI v.2)) w1) := hsy
      rw [sstep_z] at ecut
      have hdx := dk_Sync hw (segName (lastI v.2))
      rw [← ecut] at hsy hdx
      simp only [hsy, Option.bind_some]
      generalize cutW v d = W at hdx ⊢
      obtain ⟨x, c⟩ := W
      have hdx : diskOk x = true := hdx
      by_cases c0 : c = 0
      rotate_left
      ·have d0 : (c != 0) = true := by simpa using c0
       rw [if_pos c0]
       simp only [d0, cond_true, spec_l11Code_eq, Option.bind_some]
      subst c0
      rw [if_neg (by simp)]
      have d0 : ((0 : Int) != 0) = false := rfl
      have h2 := spec_Open_l2 x v (cutN v d : Int) hdx hv.1
      simp only [d0, cond_false, h2, Option.bind_some]
      have fin2 : ∀ (g0 : GroupT) (ids : List Int) (hin : Int), regInv g0 → ids.length ≤ 60 →
        ((spec_Regroup.f g0 (placesOf x ids)).bind fun t35 => bif t35.2.2 != 0 then some (zStore, x, 3) else (spec_l11Sweep.f x v).bind fun (t36_0, t36_1) =>
         bif t36_1 != 0 then some (zStore, t36_0, t36_1) else some ((v, t35.1, w64 (t35.2.1 + 1), (cutN v d : Int), hin), t36_0, 0)) =
        some (if (regroup g0 (placesOf x ids)).2.2 ≠ 0 then (zStore, x, 3) else if (sweepW v x).2 ≠ 0 then (zStore, (sweepW v x).1, told (sweepW v x).2) else
         ((v, (regroup g0 (placesOf x ids)).1, w64 ((regroup g0 (placesOf x ids)).2.1 + 1), (cutN v d : Int), hin), (sweepW v x).1, 0)) := by
       intro g0 ids hin hg hi
       have hrg := spec_Regroup_eq g0 (placesOf x ids) (placesOf_len hdx hi) hg
       rw [hrg, Option.bind_some]
       by_cases c1 : (regroup g0 (placesOf x ids)).2.2 = 0
       rotate_left
       ·have d1 : ((regroup g0 (placesOf x ids)).2.2 != 0) = true := by simpa using c1
        rw [d1, cond_true, if_pos c1]
       have d1 : ((regroup g0 (placesOf x ids)).2.2 != 0) = false := by simpa using c1
       rw [d1, cond_false, if_neg (fun z => z c1), spec_Sweep_eq x v hdx (by omega), Option.bind_some]
       generalize sweepW v x = S2
       obtain ⟨y, c2⟩ := S2
       by_cases c3 : c2 = 0
       ·subst c3; simp [toldW, told]
       ·have t2 : (told c2 != 0) = true := by rw [told_ne]; simpa using c3
        simp only [toldW, t2, cond_true]
        rw [if_pos c3]
      cases hg : hintG x (v.2.getD 0 0) with
      | some g => exact fin2 g (v.2.drop 1) (v.2.getD 0 0) (regInv_hint hg) (by rw [List.length_drop]; omega)
      | none => exact fin2 ([], 0, 0) v.2 0 regInv_zero hlen
     by_cases c : (fileText d (segName (lastI v.2))).1.length = cutN v d
     ·have d1 : decide ((cutN v d : Int) < ((fileText d (segName (lastI v.2))).1.length : Int)) = false := decide_eq_false (by omega)
      rw [d1, cond_false, Option.bind_some]
      simp only [caseS_l, spec_SegName_eq, Option.bind_some]
      exact fin (d, 0) h rfl (by unfold cutW; rw [if_pos c])
     ·have d1 : decide ((cutN v d : Int) < ((fileText d (segName (lastI v.2))).1.length : Int)) = true := decide_eq_true (by omega)
      rw [d1, cond_true, hT, Option.bind_some]
      have ecut : cutW v d = sstep (dSync (segName (lastI v.2))) (dTrunc (segName (lastI v.2)) (cutN v d : Int) d) := by unfold cutW; rw [if_neg c]
      have hdt : diskOk (dTrunc (segName (lastI v.2)) (cutN v d : Int) d).1 = true := dk_Trunc h _ _
      generalize dTrunc (segName (lastI v.2)) (cutN v d : Int) d = p at ecut hdt ⊢
      obtain ⟨y, c2⟩ := p
      by_cases c3 : c2 = 0
      ·subst c3
       simp only [show ((0 : Int) != 0) = false from rfl, cond_false, Option.bind_some, caseS_l, spec_SegName_eq]
       exact fin (y, 0) hdt rfl ecut
      ·have d3 : (c2 != 0) = true := by simpa using c3
       rw [sstep_ne c3] at ecut
       simp only [d3, cond_true, spec_l11Code_eq, Option.bind_some, caseS_r]
       rw [ecut, if_pos c3]
theorem regGo_inv : ∀ (r pre : List PlaceT) (g : GroupT), regInv g → pre.length + r.length < 10000000 → regInv (regGo pre r g)
 | [], _, g, h, _ => h
 | p :: r, pre, g, h, hl => by
  unfold regGo
  simp only [List.length_cons] at hl
  split
  ·exact h
  ·rename_i c
   exact regGo_inv r (pre ++ [p]) _ (regInv_step h (by simpa using c) (by omega)) (by simp only [List.length_append, List.length_singleton]; omega)
theorem regroup_len {g : GroupT} {l : List PlaceT} (h : regInv g) (hl : l.length < 10000000) : (regroup g l).1.length ≤ 11000020 := by
 have := regGo_inv l [] g h (by simpa using hl)
 unfold regInv at this
 unfold regroup regEnd
 split
 ·show (regGo [] l g).1.length ≤ _
  split at this <;> omega
 ·split at this <;> omega
noncomputable def openE (v : LiveT) (x : DiskT) (e : Int) (g : GroupT) (hin : Int) : StoreT × DiskT × Int :=
 if g.2.2 ≠ 0 then (zStore, x, 3) else
 if (sweepW v x).2 ≠ 0 then (zStore, (sweepW v x).1, told (sweepW v x).2) else
 ((v, g.1, w64 (g.2.1 + 1), e, hin), (sweepW v x).1, 0)
theorem openF_eq (v : LiveT) (d : DiskT) : openF v d = if (cutW v d).2 ≠ 0 then (zStore, (cutW v d).1, told (cutW v d).2) else
  match hintG (cutW v d).1 (v.2.getD 0 0) with
  | some g => openE v (cutW v d).1 (cutN v d : Int) (regroup g (placesOf (cutW v d).1 (v.2.drop 1))) (v.2.getD 0 0)
  | none => openE v (cutW v d).1 (cutN v d : Int) (regroup ([], 0, 0) (placesOf (cutW v d).1 v.2)) 0 := by
 unfold openF
 by_cases c : (cutW v d).2 ≠ 0
 ·rw [if_pos c, if_pos c]
 ·rw [if_neg c, if_neg c]
  simp only
  cases hintG (cutW v d).1 (v.2.getD 0 0) <;> rfl
theorem openE_ok {v : LiveT} {x : DiskT} (e : Int) (g : GroupT) (hin : Int) (h : diskOk x = true) (hl : v.2.length ≤ 60) (hg : g.1.length ≤ 11000020) :
  diskOk (openE v x e g hin).2.1 = true ∧ (openE v x e g hin).1.1.2.length ≤ 60 ∧ (openE v x e g hin).1.2.1.length ≤ 11000020 := by
 unfold openE
 have hs := dk_sweep h v
 split
 ·exact ⟨h, by simp, by simp⟩
 split
 ·exact ⟨hs, by simp, by simp⟩
 exact ⟨hs, hl, hg⟩
theorem openP_ok {d : DiskT} (h : diskOk d = true) : diskOk (openP d).2.1 = true ∧ (openP d).1.1.2.length ≤ 60 ∧ (openP d).1.2.1.length ≤ 11000020 := by
 unfold openP
 rw [if_neg (by rw [h]; simp)]
 split
 ·exact ⟨h, by simp, by simp⟩
 split
 ·unfold openFirst
  have h1 : diskOk (sPut (2, [1]) (sstep (dCreate (segName 1)) (sweepW zeroLive d))).1 = true := dk_sPut (dk_sstep (dk_sweep h zeroLive) fun k => dk_Create k _) _
  simp only
  split
  ·exact ⟨h1, by simp, by simp⟩
  ·exact ⟨h1, by simp, by simp⟩
 split
 ·exact ⟨h, by simp, by simp⟩
 rename_i hv
 split
 ·exact ⟨h, by simp, by simp⟩
 rcases readLive_cases (fileText d liveN).1 with ⟨e, _⟩ | ⟨v, e, hlv⟩
 ·rw [e] at hv; simp at hv
 rw [e]
 show diskOk (openF v d).2.1 = true ∧ (openF v d).1.1.2.length ≤ 60 ∧ (openF v d).1.2.1.length ≤ 11000020
 have hlen := liveOk_len hlv.1
 have hd1 := dk_cutW (v := v) h
 rw [openF_eq]
 split
 ·exact ⟨hd1, by simp, by simp⟩
 cases hg : hintG (cutW v d).1 (v.2.getD 0 0) with
 | some g => exact openE_ok _ _ _ hd1 hlen (regroup_len (regInv_hint hg) (placesOf_len hd1 (by rw [List.length_drop]; omega)))
 | none => exact openE_ok _ _ _ hd1 hlen (regroup_len regInv_zero (placesOf_len hd1 hlen))
theorem hintName_live (i : Int) : hintName i ≠ liveN := by
 unfold hintName nameN
 split
 ·intro e
  have := congrArg (fun l => l.getD 0 0) e
  simp [liveN] at this
 ·simp [liveN]
theorem hintName_temp (i : Int) : hintName i ≠ tempN := by
 unfold hintName nameN
 split
 ·intro e
  have := congrArg (fun l => l.getD 0 0) e
  simp [tempN] at this
 ·simp [tempN]
theorem sub_Gone (n : List UInt8) (d : DiskT) : (dGone n d).1.1.Sublist d.1 := by
 unfold dGone
 split
 ·show (dstep d (actRemove n)).1.1.Sublist d.1
  unfold dstep
  split
  ·exact List.Sublist.refl _
  split
  ·exact List.Sublist.refl _
  ·show (actRemove n d.1).2.Sublist d.1
   unfold actRemove
   split
   ·exact remIx_sub _ _
   ·exact List.Sublist.refl _
 ·exact List.Sublist.refl _
theorem sub_sDrop : ∀ (names : List (List UInt8)) (w : WorkT), (sDrop names w).1.1.Sublist w.1.1
 | [], w => List.Sublist.refl _
 | n :: r, w => by
  show (sDrop r (sstep (dGone n) w)).1.1.Sublist _
  refine (sub_sDrop r _).trans ?_
  unfold sstep
  split
  ·exact sub_Gone n w.1
  ·exact List.Sublist.refl _
theorem file_has {d : DiskT} (h : diskOk d = true) {f : FileT} (hf : f ∈ d.1) : fileText d f.1 = (f.2.1, true) := fileText_mem h hf
theorem has_file {d : DiskT} (h : diskOk d = true) {n : List UInt8} (hn : (fileText d n).2 = true) : ∃ s, ((n, (fileText d n).1, s) : FileT) ∈ d.1 := by
 obtain ⟨i, hi, _, hx, _⟩ := has_ix hn
 have := fileText_mem h (List.getElem_mem hi)
 rw [hx] at this
 refine ⟨d.1[i].2.2, ?_⟩
 rw [this]
 have e : ((n, d.1[i].2.1, d.1[i].2.2) : FileT) = d.1[i] := by rw [← hx]
 rw [show ((n, (d.1[i].2.1, true).1, d.1[i].2.2) : FileT) = d.1[i] from e]
 exact List.getElem_mem hi
theorem sweep_left {v : LiveT} {x : DiskT} (h : diskOk x = true) (hc : (sweepW v x).2 = 0) : ∀ f ∈ (sweepW v x).1.1, f ∈ x.1 ∧ orphB v f = false := by
 intro f hf
 have hs : f ∈ x.1 := (sub_sDrop (orphP x v) (x, 0)).subset hf
 refine ⟨hs, ?_⟩
 cases ho : orphB v f with
 | false => rfl
 | true =>
  exfalso
  have hg := (sDropGone (orphP x v) (w := (x, 0)) h hc).2.2 f.1 (by
   unfold orphP
   rw [if_neg (by rw [h]; simp)]
   exact List.mem_map.2 ⟨f, List.mem_filter.2 ⟨hs, ho⟩, rfl⟩)
  have := file_has (dk_sweep h v) hf
  have hg : (fileText (sweepW v x).1 f.1).2 = false := hg
  rw [this] at hg; simp at hg
theorem orphP_mem {v : LiveT} {x : DiskT} (h : diskOk x = true) {n : List UInt8} (hn : n ∈ orphP x v) : (∃ id, named n id ∧ id ∉ v.2) ∨ n = tempN := by
 unfold orphP at hn
 rw [if_neg (by rw [h]; simp)] at hn
 obtain ⟨f, hf, rfl⟩ := List.mem_map.1 hn
 have ho := (List.mem_filter.1 hf).2
 unfold orphB at ho
 rw [Bool.or_eq_true, Bool.and_eq_true] at ho
 rcases ho with ⟨h1, h2⟩ | h1
 ·left
  refine ⟨(idOf f.1).1, idOf_named (by rw [← h1]), fun hi => ?_⟩
  have : (v.2.any fun i => i == (idOf f.1).1) = true := List.any_eq_true.2 ⟨_, hi, by simp⟩
  rw [this] at h2; simp at h2
 ·right; simpa using h1
theorem sweep_ft {v : LiveT} {x : DiskT} (h : diskOk x = true) {n : List UInt8} (hn : ∀ id, named n id → id ∈ v.2) (ht : n ≠ tempN) : fileText (sweepW v x).1 n = fileText x n := by
 refine ft_sDrop (orphP x v) (w := (x, 0)) h fun m hm e => ?_
 subst e
 rcases orphP_mem h hm with ⟨id, hid, hno⟩ | e
 ·exact hno (hn id hid)
 ·exact ht e
theorem named_seg {id : Int} (h : 1 ≤ id ∧ id ≤ 100000) : named (segName id) id := ⟨h, .inl rfl⟩
theorem live_range {v : LiveT} (h : liveOk v = true) {id : Int} (hi : id ∈ v.2) : 1 ≤ id ∧ id ≤ 100000 ∧ id < v.1 := by
 obtain ⟨k1, k2, k3, k4⟩ := (liveOk_iff v).1 h
 rw [w64_id (by omega) (by omega)] at k1
 have := idsOk_mem _ _ k1 id hi
 omega
structure Opened (s : StoreT) (y : DiskT) : Prop where
 dk : diskOk y = true
 lv : liveOk s.1 = true
 seg : ∀ id ∈ s.1.2, (fileText y (segName id)).2 = true
 cnt : ∀ f ∈ y.1, ∀ id, named f.1 id → id ∈ s.1.2
 tmp : ∀ f ∈ y.1, f.1 ≠ tempN
theorem orphB_false {v : LiveT} {f : FileT} (h : orphB v f = false) : (∀ id, named f.1 id → id ∈ v.2) ∧ f.1 ≠ tempN := by
 unfold orphB at h
 rw [Bool.or_eq_false_iff] at h
 refine ⟨fun id hid => ?_, fun e => ?_⟩
 ·rw [idOf_yes hid] at h
  have := h.1
  simp only [Bool.true_and, Bool.not_eq_false'] at this
  obtain ⟨x, hx, e⟩ := List.any_eq_true.1 this
  have : x = id := by simpa using e
  subst this; exact hx
 ·rw [e] at h; simp at h
theorem sPut_inv {v : LiveT} {w : WorkT} (h : (sPut v w).2 = 0) : w.2 = 0 := by
 unfold sPut sFile at h
 exact (sstep_inv (sstep_inv (sstep_inv (sstep_inv (sstep_inv h).1).1).1).1).1
theorem first_opened {d : DiskT} (h : diskOk d = true) (hc : (sPut (2, [1]) (sstep (dCreate (segName 1)) (sweepW zeroLive d))).2 = 0) :
  Opened ((2, [1]), [], 1, 0, 0) (sPut (2, [1]) (sstep (dCreate (segName 1)) (sweepW zeroLive d))).1 := by
 have h1 := dk_sweep h zeroLive
 have c2 := sPut_inv hc
 obtain ⟨c1, c2', e2⟩ := sstep_inv c2
 have h2 : diskOk (sstep (dCreate (segName 1)) (sweepW zeroLive d)).1 = true := dk_sstep h1 fun k => dk_Create k _
 have h3 := dk_sPut (v := (2, [1])) h2
 have t2 : fileText (sstep (dCreate (segName 1)) (sweepW zeroLive d)).1 (segName 1) = ([], true) := by rw [e2]; exact createTxt c2'
 have hft : ∀ n, n ≠ tempN → n ≠ liveN → n ≠ segName 1 → fileText (sPut (2, [1]) (sstep (dCreate (segName 1)) (sweepW zeroLive d))).1 n = fileText (sweepW zeroLive d).1 n := fun n k1 k2 k3 => by
  rw [ft_sPut h2 _ k1 k2, e2]
  exact ft_Create h1 k3
 refine ⟨h3, live_one, ?_, ?_, ?_⟩
 ·intro id hid
  have hid : id = 1 := by simpa using hid
  subst hid
  rw [ft_sPut h2 _ (segName_temp 1) (segName_live 1), t2]
 ·intro f hf id hid
  have n1 : f.1 ≠ tempN := by
   rcases hid.2 with e | e
   ·rw [e]; exact segName_temp id
   ·rw [e]; exact hintName_temp id
  have n2 : f.1 ≠ liveN := by
   rcases hid.2 with e | e
   ·rw [e]; exact segName_live id
   ·rw [e]; exact hintName_live id
  by_cases n3 : f.1 = segName 1
  ·have : named f.1 1 := ⟨by decide, .inl n3⟩
   have := named_inj hid this
   subst this; simp
  ·exfalso
   have e := hft f.1 n1 n2 n3
   rw [file_has h3 hf] at e
   obtain ⟨s, hs⟩ := has_file h1 (n := f.1) (by rw [← e])
   have := (orphB_false (sweep_left h c1 _ hs).2).1 id hid
   simp [zeroLive] at this
 ·-- temp was given the name live
  intro f hf e
  have hl : (fileText (sPut (2, [1]) (sstep (dCreate (segName 1)) (sweepW zeroLive d))).1 tempN).2 = false := sPut_temp h2 hc
  have := file_has h3 hf
  rw [e] at this
  rw [this] at hl; simp at hl
where
 sPut_temp {v : LiveT} {w : WorkT} (h : diskOk w.1 = true) (hc : (sPut v w).2 = 0) : (fileText (sPut v w).1 tempN).2 = false := by
  unfold sPut at hc ⊢
  obtain ⟨c1, c2, e⟩ := sstep_inv hc
  rw [e]
  exact rename_from c2
 rename_from {d : DiskT} (h : (dRename [116, 101, 109, 112] [108, 105, 118, 101] d).2 = 0) : (fileText (dRename [116, 101, 109, 112] [108, 105, 118, 101] d).1 tempN).2 = false := by
  obtain ⟨k, ha, hx⟩ := dstep_zero h
  have hx : (dRename [116, 101, 109, 112] [108, 105, 118, 101] d).1 = _ := hx
  unfold actRename at ha hx
  rw [if_neg (by decide)] at ha hx
  rcases fileIx_cases d.1 tempN with ⟨e, _⟩ | ⟨i, hi, e, hn⟩
  ·rw [ix_none e] at ha; simp at ha
  ·rw [ix_some e] at hx
   simp only at hx
   rw [if_neg (show ¬ ([116,101,109,112] : List UInt8) = [108,105,118,101] by decide)] at hx
   have hp := diskOk_pw k
   rw [hx]
   rw [show fileText _ tempN = ([], false) from fileText_eq_none fun f hf e2 => ?_]
   have hf : f ∈ insB (dropF (remIx d.1 i) [108, 105, 118, 101]) ([108, 105, 118, 101], (d.1.getD i ([], [], 0)).2) := hf
   rw [mem_insB] at hf
   rcases hf with hf | hf
   ·rw [hf] at e2; exact absurd (show ([108, 105, 118, 101] : List UInt8) = tempN from e2) (by decide)
   ·have : f ∈ remIx d.1 i := (dropF_sub _ _).subset hf
    exact remIx_ne hi hp f this (e2.trans hn.symm)
theorem openP_opened {d y : DiskT} {s : StoreT} (h : openP d = (s, y, 0)) : Opened s y ∧ diskOk d = true := by
 unfold openP at h
 split at h
 ·simp at h
 rename_i hk
 have hk : diskOk d = true := by simpa using hk
 refine ⟨?_, hk⟩
 split at h
 ·simp at h
 split at h
 ·unfold openFirst at h
  simp only at h
  split at h
  ·rename_i c
   simp only [Prod.mk.injEq] at h
   exact absurd ((told_zero _).1 h.2.2) c
  ·rename_i c
   simp only [Prod.mk.injEq, and_true] at h
   rw [← h.1, ← h.2]
   exact first_opened hk (by simpa using c)
 split at h
 ·simp at h
 rename_i hv
 split at h
 ·simp at h
 rename_i hsg
 rcases readLive_cases (fileText d liveN).1 with ⟨e, _⟩ | ⟨v, e, hlv⟩
 ·rw [e] at hv; simp at hv
 rw [e] at h hsg
 have hsg : segsHave d v.2 = true := by simpa using hsg
 have h : openF v d = (s, y, 0) := h
 rw [openF_eq] at h
 split at h
 ·rename_i c
  simp only [Prod.mk.injEq] at h
  exact absurd ((told_zero _).1 h.2.2) c
 rename_i c
 have hd1 := dk_cutW (v := v) hk
 have hpos := ((liveOk_iff v).1 hlv.1).2.2.1
 have key : ∀ e g hin, openE v (cutW v d).1 e g hin = (s, y, 0) → Opened s y := by
  intro e g hin he
  unfold openE at he
  split at he
  ·simp at he
  split at he
  ·rename_i c2
   simp only [Prod.mk.injEq] at he
   exact absurd ((told_zero _).1 he.2.2) c2
  rename_i c2
  have c2 : (sweepW v (cutW v d).1).2 = 0 := by simpa using c2
  simp only [Prod.mk.injEq, and_true] at he
  obtain ⟨rfl, rfl⟩ := he
  refine ⟨dk_sweep hd1 v, hlv.1, ?_, ?_, ?_⟩
  ·intro id hid
   have hr := live_range hlv.1 hid
   rw [sweep_ft hd1 (fun j hj => by rw [named_inj hj (named_seg ⟨hr.1, hr.2.1⟩)]; exact hid) (segName_temp id)]
   have hone : ∀ l : List Int, segsHave d l = true → ∀ j ∈ l, (fileText d (segName j)).2 = true := by
    intro l
    induction l with
    | nil => intro _ j hj; simp at hj
    | cons z l ih =>
     intro hl j hj
     rw [segsHave, Bool.and_eq_true, Bool.and_eq_true] at hl
     rcases List.mem_cons.1 hj with rfl | hj
     ·exact hl.1
     ·exact ih hl.2.2 j hj
   have h1 := hone v.2 hsg id hid
   by_cases cl : segName id = segName (lastI v.2)
   ·rw [cl] at h1 ⊢
    rw [cutW_last hk h1 (by simpa using c)]
   ·rw [cutW_ft hk _ cl]; exact h1
  ·intro f hf id hid
   exact (orphB_false (sweep_left hd1 c2 f hf).2).1 id hid
  ·intro f hf
   exact (orphB_false (sweep_left hd1 c2 f hf).2).2
 cases hg : hintG (cutW v d).1 (v.2.getD 0 0) with
 | some g => rw [hg] at h; exact key _ _ _ h
 | none => rw [hg] at h; exact key _ _ _ h
theorem up_ok {A B σ : Type} {step : (A → Option B) → A → Option B} (st : Nat → σ → A) (N : Nat) (Inv : Nat → σ → Prop) (Post : B → Prop)
  (hz : ∀ rec s, Inv N s → ∃ b, step rec (st N s) = some b ∧ Post b)
  (hs : ∀ rec n s, n < N → Inv n s → ∃ s', Inv (n + 1) s' ∧ step rec (st n s) = rec (st (n + 1) s')) (s : σ) (hi : Inv 0 s) (hn : N < 2 ^ 62) : ∃ b, lp step (st 0 s) = some b ∧ Post b := by
 have key := down_ok (step := step) (fun k (s : σ) => st (N - k) s) (fun k s => Inv (N - k) s ∧ k ≤ N) Post
  (fun rec s hi => hz rec s hi.1)
  (fun rec k s hi => by
   obtain ⟨h1, h2⟩ := hi
   have e : N - (k + 1) + 1 = N - k := by omega
   obtain ⟨s', h3, h4⟩ := hs rec (N - (k + 1)) s (by omega) h1
   rw [e] at h3 h4
   exact ⟨s', ⟨h3, by omega⟩, h4⟩)
  N s ⟨by rw [Nat.sub_self]; exact hi, Nat.le_refl _⟩ hn
 simpa using key
theorem strOf_one (b : Int) : (strOf [b]).length = 1 := by simp [strOf]
theorem l1Spoil_ok {c : CurT} (h : Cur c) (t : List UInt8) (ht : t.length < 1000000000) : ∃ x c', spec_l1Spoil.f c t = some (x, c') ∧ x.length ≤ t.length + 3 ∧ Cur c' := by
 unfold spec_l1Spoil.f
 by_cases c0 : t.length = 0
 ·have e0 : ((t.length : Int) == 0) = true := by rw [c0]; rfl
  obtain ⟨x, c', e, hx, h'⟩ := l1Text_ok h 3 (by omega) (by omega)
  simp only [e0, cond_true, e, Option.bind_some]
  exact ⟨x, c', rfl, by omega, h'⟩
 have e0 : ((t.length : Int) == 0) = false := by simp; intro h; rw [h] at c0; exact c0 rfl
 obtain ⟨i, c1, e1, a1, b1, _, h1⟩ := l1Below_ok h (t.length : Int)
 have b1 := b1 (by omega)
 obtain ⟨n, rfl⟩ : ∃ n : Nat, i = (n : Int) := ⟨i.toNat, by omega⟩
 have hn : n < t.length := by omega
 obtain ⟨k, c2, e2, _, _, _, h2⟩ := l1Below_ok h1 4
 have hw : w64 ((n : Int) + 1) = ((n + 1 : Nat) : Int) := w64_succ (by omega)
 have q1 : decide ((0 : Int) ≤ (n : Int)) = true := by simp
 have q2 : decide ((n : Int) ≤ (t.length : Int)) = true := by simp; omega
 have q3 : decide ((0 : Int) ≤ ((n + 1 : Nat) : Int)) = true := by simp; omega
 have q4 : decide (((n + 1 : Nat) : Int) ≤ (t.length : Int)) = true := by simp; omega
 simp only [e0, cond_false, e1, e2, Option.bind_some, hw, q1, q2, q3, q4, Bool.and_self, cond_true, Int.toNat_natCast, inB_nat, hn, decide_true]
 have lt := List.length_take (l := t) (i := n)
 have ld := List.length_drop (l := t) (i := n)
 have ld1 := List.length_drop (l := t) (i := n + 1)
 cases d0 : (k == 0)
 rotate_left
 ·have q5 : decide ((t.take n).length + (t.drop (n + 1)).length ≤ 9223372036854775807) = true := by simp; omega
  simp only [cond_true, q5]
  exact ⟨_, _, rfl, by rw [List.length_append]; omega, h2⟩
 cases d1 : (k == 1)
 rotate_left
 ·obtain ⟨b, c3, e3, _, _, h3⟩ := l1Byte_ok h2
  have q5 : decide ((t.take n).length + (strOf [IntKind.wrap .u8 b]).length ≤ 9223372036854775807) = true := by rw [strOf_one]; simp; omega
  have q6 : decide (((t.take n) ++ (strOf [IntKind.wrap .u8 b])).length + (t.drop n).length ≤ 9223372036854775807) = true := by rw [List.length_append, strOf_one]; simp; omega
  simp only [cond_true, cond_false, e3, Option.bind_some, q5, q6]
  exact ⟨_, _, rfl, by rw [List.length_append, List.length_append, strOf_one]; omega, h3⟩
 cases d2 : (k == 2)
 rotate_left
 ·simp only [cond_true, cond_false]
  exact ⟨_, _, rfl, by omega, h2⟩
 ·obtain ⟨b, c3, e3, _, _, _, h3⟩ := l1Below_ok h2 255
  simp only [cond_false, e3, Option.bind_some]
  generalize IntKind.wrap .u8 (bits (fun _ a b => a ^^^ b) .i64 (w64 (bAt t (n : Int))) (w64 (1 + b))) = B
  have q5 : decide ((t.take n).length + (strOf [B]).length ≤ 9223372036854775807) = true := by rw [strOf_one]; simp; omega
  have q6 : decide (((t.take n) ++ (strOf [B])).length + (t.drop (n + 1)).length ≤ 9223372036854775807) = true := by rw [List.length_append, strOf_one]; simp; omega
  simp only [q5, q6, cond_true]
  exact ⟨_, _, rfl, by rw [List.length_append, List.length_append, strOf_one]; omega, h3⟩
theorem l7Live_ok {c : CurT} (h : Cur c) : ∃ v c', spec_l7Live.f c = some (v, c') ∧ (1 ≤ v.2.length ∧ v.2.length ≤ 4) ∧ Cur c' := by
 obtain ⟨n, c1, e1, a1, b1, _, h1⟩ := l1Below_ok h 4
 have b1 := b1 (by omega)
 obtain ⟨m, rfl⟩ : ∃ m : Nat, n = (m : Int) := ⟨n.toNat, by omega⟩
 have hw1 : w64 (1 + (m : Int)) = ((m + 1 : Nat) : Int) := by rw [w64_id (by omega) (by omega)]; omega
 have key := down_ok (step := spec_l7Live.l0) (fun k (s : CurT × LiveT × Int) => (s.1, (0, []), s.2.1, s.2.2, (k : Int))) (fun k s => Cur s.1 ∧ s.2.1.2.length + k = m + 1) (fun b => Cur b.1 ∧ b.2.2.1.2.length = m + 1)
  (fun rec s hi => ⟨_, by simp [spec_l7Live.l0]; rfl, hi.1, hi.2⟩)
  (fun rec k s hi => by
   obtain ⟨s, v, i⟩ := s
   obtain ⟨hi1, hi2⟩ := hi
   simp only at hi1 hi2
   obtain ⟨x, c', e, _, _, _, h'⟩ := l1Below_ok hi1 3
   have e0 : ((k + 1 : Nat) : Int) > 0 := by omega
   have hw := down1 (show k < 2 ^ 60 by omega)
   have q : decide ((v.2.length + [w64 (w64 (i + 1) + x)].length) * 8 ≤ 140737488355328) = true := by simp; omega
   simp only [spec_l7Live.l0, e0, decide_true, cond_true, e, Option.bind_some, q, hw]
   exact ⟨(c', (v.1, v.2 ++ [w64 (w64 (i + 1) + x)]), w64 (w64 (i + 1) + x)), ⟨h', by simp; omega⟩, rfl⟩)
  (m + 1) (c1, (0, []), 0) ⟨h1, by show 0 + (m + 1) = m + 1; omega⟩ (by omega)
 obtain ⟨⟨c2, z, v, i⟩, e2, h2, hv⟩ := key
 simp only at h2 hv
 obtain ⟨x, c3, e3, _, _, _, h3⟩ := l1Below_ok h2 3
 unfold spec_l7Live.f
 have e2 : lp spec_l7Live.l0 (c1, (0, []), (0, []), 0, ((m + 1 : Nat) : Int)) = some (c2, z, v, i) := e2
 simp only [e1, Option.bind_some, hw1, e2, e3]
 exact ⟨_, _, rfl, ⟨by show 1 ≤ v.2.length; omega, by show v.2.length ≤ 4; omega⟩, h3⟩
theorem l9Seal_ok (l : List RecT) (b k : Int) (hl : l.length < 1000) : ∃ r, spec_l9Seal.f l b k = some r := by
 unfold spec_l9Seal.f
 rw [spec_SumOf_eq l (by omega)]
 exact ⟨_, rfl⟩
theorem l9P0 {c : CurT} (h : Cur c) (m : Nat) (hm : m ≤ 2) (x4 x5 : Int) : ∃ b, lp spec_l9Places.l0 (c, ([] : List PlaceT), x4, x5, ([] : List RecT), (m : Int)) = some b ∧ (Cur b.1 ∧ b.2.1 = [] ∧ b.2.2.2.2.length ≤ 2) :=
 down_ok (step := spec_l9Places.l0) (fun k (s : CurT × Int × Int × List RecT) => (s.1, ([] : List PlaceT), s.2.1, s.2.2.1, s.2.2.2, (k : Int))) (fun k s => Cur s.1 ∧ s.2.2.2.length + k ≤ 2) (fun b => Cur b.1 ∧ b.2.1 = [] ∧ b.2.2.2.2.length ≤ 2)
  (fun rec s hi => ⟨_, by simp [spec_l9Places.l0]; rfl, hi.1, rfl, hi.2⟩)
  (fun rec k s hi => by
   obtain ⟨s, a, b, l⟩ := s
   obtain ⟨hi1, hi2⟩ := hi
   simp only at hi1 hi2
   obtain ⟨x, c1, e1, _, h1⟩ := l5Key_ok hi1
   obtain ⟨y, c2, e2, _, h2⟩ := l1Text_ok h1 4 (by omega) (by omega)
   have e0 : ((k + 1 : Nat) : Int) > 0 := by omega
   have hw := down1 (show k < 2 ^ 60 by omega)
   have q : decide ((l.length + (0 + 1)) * 64 ≤ 140737488355328) = true := by simp; omega
   simp only [spec_l9Places.l0, e0, decide_true, cond_true, e1, e2, Option.bind_some, List.length_cons, List.length_nil, q, hw]
   exact ⟨(c2, a, w64 (b + 1), l ++ [(4, w64 (b + 1), x, y, 0, 0)]), ⟨h2, by simp; omega⟩, rfl⟩)
  m (c, x4, x5, []) ⟨h, by simpa using hm⟩ (by omega)
theorem l9P2 {c : CurT} (h : Cur c) (l : List RecT) (hl : l.length ≤ 4) (x3 : List PlaceT) (h3 : x3.length ≤ 100) (x4 x5 : Int) : ∃ b, lp spec_l9Places.l2 (c, x3, x4, x5, l, 0) = some b ∧ (Cur b.1 ∧ b.2.1.length = x3.length + l.length ∧ b.2.2.2.2 = l) :=
 up_ok (step := spec_l9Places.l2) (fun n (s : CurT × List PlaceT × Int × Int) => (s.1, s.2.1, s.2.2.1, s.2.2.2, l, (n : Int))) l.length (fun n s => Cur s.1 ∧ s.2.1.length = x3.length + n) (fun b => Cur b.1 ∧ b.2.1.length = x3.length + l.length ∧ b.2.2.2.2 = l)
  (fun rec s hi => ⟨_, by simp [spec_l9Places.l2]; rfl, hi.1, hi.2, rfl⟩)
  (fun rec n s hn hi => by
   obtain ⟨s, p, a, b⟩ := s
   obtain ⟨hi1, hi2⟩ := hi
   simp only at hi1 hi2
   have e0 : (n : Int) < (l.length : Int) := by omega
   have hw := w64_succ (show n + 1 < 9223372036854775808 by omega)
   have q : ∀ z : PlaceT, decide ((p.length + [z].length) * 88 ≤ 140737488355328) = true := fun z => by simp; omega
   simp only [spec_l9Places.l2, e0, decide_true, cond_true, inB_nat, hn, q, hw]
   exact ⟨(s, p ++ [_], a, b), ⟨hi1, by simp; omega⟩, rfl⟩)
  (c, x3, x4, x5) ⟨h, rfl⟩ (by omega)
theorem l9P6 {c : CurT} (h : Cur c) (m : Nat) (hm : m ≤ 3) (x3 : List PlaceT) (x4 x5 x9 : Int) : ∃ b, lp spec_l9Places.l6 (c, x3, x4, x5, x9, ([] : List RecT), (m : Int)) = some b ∧ (Cur b.1 ∧ b.2.1 = x3 ∧ b.2.2.2.2.1 = x9 ∧ b.2.2.2.2.2.length ≤ 3) :=
 down_ok (step := spec_l9Places.l6) (fun k (s : CurT × Int × Int × List RecT) => (s.1, x3, s.2.1, s.2.2.1, x9, s.2.2.2, (k : Int))) (fun k s => Cur s.1 ∧ s.2.2.2.length + k ≤ 3) (fun b => Cur b.1 ∧ b.2.1 = x3 ∧ b.2.2.2.2.1 = x9 ∧ b.2.2.2.2.2.length ≤ 3)
  (fun rec s hi => ⟨_, by simp [spec_l9Places.l6]; rfl, hi.1, rfl, rfl, hi.2⟩)
  (fun rec k s hi => by
   obtain ⟨s, a, b, l⟩ := s
   obtain ⟨hi1, hi2⟩ := hi
   simp only at hi1 hi2
   obtain ⟨x, c1, e1, _, h1⟩ := l5Key_ok hi1
   obtain ⟨y, c2, e2, _, h2⟩ := l1Text_ok h1 4 (by omega) (by omega)
   obtain ⟨o, c3, e3, h3⟩ := l1Once_ok h2 3
   have e0 : ((k + 1 : Nat) : Int) > 0 := by omega
   have hw := down1 (show k < 2 ^ 60 by omega)
   have q : ∀ z : RecT, decide ((l.length + [z].length) * 64 ≤ 140737488355328) = true := fun z => by simp; omega
   simp only [spec_l9Places.l6, e0, decide_true, cond_true, e1, e2, e3, Option.bind_some]
   cases o
   ·simp only [cond_false, Option.bind_some, q, cond_true, hw]
    exact ⟨(c3, a, b, l ++ [_]), ⟨h3, by simp; omega⟩, rfl⟩
   ·obtain ⟨z, c4, e4, _, h4⟩ := l5Key_ok h3
    simp only [cond_true, e4, Option.bind_some, q, hw]
    exact ⟨(c4, a, b, l ++ [_]), ⟨h4, by simp; omega⟩, rfl⟩)
  m (c, x4, x5, []) ⟨h, by simpa using hm⟩ (by omega)
theorem l9P8 {c : CurT} (h : Cur c) (l : List RecT) (hl : l.length ≤ 4) (x3 : List PlaceT) (h3 : x3.length ≤ 100) (x4 x5 x9 : Int) : ∃ b, lp spec_l9Places.l8 (c, x3, x4, x5, x9, l, 0) = some b ∧ (Cur b.1 ∧ b.2.1.length = x3.length + l.length ∧ b.2.2.2.2.1 = x9 ∧ b.2.2.2.2.2 = l) :=
 up_ok (step := spec_l9Places.l8) (fun n (s : CurT × List PlaceT × Int × Int) => (s.1, s.2.1, s.2.2.1, s.2.2.2, x9, l, (n : Int))) l.length (fun n s => Cur s.1 ∧ s.2.1.length = x3.length + n) (fun b => Cur b.1 ∧ b.2.1.length = x3.length + l.length ∧ b.2.2.2.2.1 = x9 ∧ b.2.2.2.2.2 = l)
  (fun rec s hi => ⟨_, by simp [spec_l9Places.l8]; rfl, hi.1, hi.2, rfl, rfl⟩)
  (fun rec n s hn hi => by
   obtain ⟨s, p, a, b⟩ := s
   obtain ⟨hi1, hi2⟩ := hi
   simp only at hi1 hi2
   have e0 : (n : Int) < (l.length : Int) := by omega
   have hw := w64_succ (show n + 1 < 9223372036854775808 by omega)
   have q : ∀ z : PlaceT, decide ((p.length + [z].length) * 88 ≤ 140737488355328) = true := fun z => by simp; omega
   simp only [spec_l9Places.l8, e0, decide_true, cond_true, inB_nat, hn, q, hw]
   exact ⟨(s, p ++ [_], a, b), ⟨hi1, by simp; omega⟩, rfl⟩)
  (c, x3, x4, x5) ⟨h, rfl⟩ (by omega)
theorem l9P4 {c : CurT} (h : Cur c) (m : Nat) (hm : m ≤ 4) (x3 : List PlaceT) (h3 : x3.length ≤ 3) (x4 x5 : Int) : ∃ b, lp spec_l9Places.l4 (c, x3, x4, x5, (m : Int)) = some b ∧ (Cur b.1 ∧ b.2.length ≤ 19) :=
 down_ok (step := spec_l9Places.l4) (fun k (s : CurT × List PlaceT × Int × Int) => (s.1, s.2.1, s.2.2.1, s.2.2.2, (k : Int))) (fun k s => Cur s.1 ∧ s.2.1.length + 4 * k ≤ 19) (fun b => Cur b.1 ∧ b.2.length ≤ 19)
  (fun rec s hi => ⟨_, by simp [spec_l9Places.l4]; rfl, hi.1, hi.2⟩)
  (fun rec k s hi => by
   obtain ⟨s, p, a, b⟩ := s
   obtain ⟨hi1, hi2⟩ := hi
   simp only at hi1 hi2
   have e0 : ((k + 1 : Nat) : Int) > 0 := by omega
   have hw := down1 (show k < 2 ^ 60 by omega)
   obtain ⟨x, c1, e1, _, _, _, h1⟩ := l1Below_ok hi1 2
   obtain ⟨y, c2, e2, a2, b2, _, h2⟩ := l1Below_ok h1 4
   have b2 := b2 (by omega)
   obtain ⟨n, rfl⟩ : ∃ n : Nat, y = (n : Int) := ⟨y.toNat, by omega⟩
   obtain ⟨⟨c3, p3, a3, b3, k3, l3⟩, e3, h3', hp3, hk3, hl3⟩ := l9P6 h2 n (by omega) p a (w64 (w64 (b + 1) + x)) ((k + 1 : Nat) : Int)
   simp only at h3' hp3 hk3 hl3
   subst hp3; subst hk3
   obtain ⟨⟨c4, p4, a4, b4, k4, l4⟩, e4, h4, hp4, hk4, hl4⟩ := l9P8 h3' l3 (by omega) p3 (by omega) a3 b3 ((k + 1 : Nat) : Int)
   simp only at h4 hp4 hk4 hl4
   subst hl4; subst hk4
   obtain ⟨r, e5⟩ := l9Seal_ok l4 b4 3 (by omega)
   obtain ⟨z, c6, e6, _, _, _, h6⟩ := l1Below_ok h4 8
   have q : decide ((p4.length + (0 + 1)) * 88 ≤ 140737488355328) = true := by simp; omega
   simp only [spec_l9Places.l4, e0, decide_true, cond_true, e1, e2, e3, e4, e5, e6, Option.bind_some, hw]
   cases d0 : (z == 0)
   rotate_left
   ·simp only [cond_true, Option.bind_some, hw]
    exact ⟨(c6, p4, a4, b4), ⟨h6, by simp only; omega⟩, rfl⟩
   obtain ⟨o, c7, e7, h7⟩ := l1Once_ok h6 4
   cases d1 : (z == 1)
   ·simp only [cond_false, Option.bind_some, List.length_cons, List.length_nil, q, cond_true, e7, hw]
    cases o
    ·simp only [cond_false, Option.bind_some, hw]
     exact ⟨(c7, p4 ++ [_], a4, b4), ⟨h7, by simp; omega⟩, rfl⟩
    ·simp only [cond_true, Option.bind_some, hw]
     exact ⟨(c7, p4 ++ [_], w64 (a4 + 1), b4), ⟨h7, by simp; omega⟩, rfl⟩
   ·simp only [cond_false, Option.bind_some, List.length_cons, List.length_nil, q, cond_true, e7, hw]
    cases o
    ·simp only [cond_false, Option.bind_some, hw]
     exact ⟨(c7, p4 ++ [_], a4, b4), ⟨h7, by simp; omega⟩, rfl⟩
    ·simp only [cond_true, Option.bind_some, hw]
     exact ⟨(c7, p4 ++ [_], w64 (a4 + 1), b4), ⟨h7, by simp; omega⟩, rfl⟩)
  m (c, x3, x4, x5) ⟨h, by simp only; omega⟩ (by omega)
theorem l9Places_ok {c : CurT} (h : Cur c) : ∃ l c', spec_l9Places.f c = some (l, c') ∧ l.length ≤ 19 ∧ Cur c' := by
 obtain ⟨o, c1, e1, h1⟩ := l1Once_ok h 3
 unfold spec_l9Places.f
 have fin : ∀ (c2 : CurT) (x3 : List PlaceT) (x4 x5 : Int), Cur c2 → x3.length ≤ 3 → ∃ l c', ((spec_l1Below.f c2 5).bind fun (t10_0, t10_1) => (lp spec_l9Places.l4 (t10_1, x3, x4, x5, t10_0)).bind (fun (x0, x3) => some (x3, x0))) = some (l, c') ∧ l.length ≤ 19 ∧ Cur c' := by
  intro c2 x3 x4 x5 h2 hx
  obtain ⟨n, c3, e3, a3, b3, _, h3⟩ := l1Below_ok h2 5
  have b3 := b3 (by omega)
  obtain ⟨m, rfl⟩ : ∃ m : Nat, n = (m : Int) := ⟨n.toNat, by omega⟩
  obtain ⟨⟨c4, l⟩, e4, h4, hl⟩ := l9P4 h3 m (by omega) x3 hx x4 x5
  simp only [e3, e4, Option.bind_some]
  exact ⟨_, _, rfl, hl, h4⟩
 simp only [e1, Option.bind_some]
 cases o
 ·simp only [cond_false, Option.bind_some]
  exact fin c1 [] 1 0 h1 (by simp)
 ·obtain ⟨n, c2, e2, a2, b2, _, h2⟩ := l1Below_ok h1 3
  have b2 := b2 (by omega)
  obtain ⟨m, rfl⟩ : ∃ m : Nat, n = (m : Int) := ⟨n.toNat, by omega⟩
  obtain ⟨⟨c3, p3, a3, b3, l3⟩, e3, h3, hp3, hl3⟩ := l9P0 h2 m (by omega) 1 0
  simp only at h3 hp3 hl3
  subst hp3
  obtain ⟨⟨c4, p4, a4, b4, l4⟩, e4, h4, hp4, hl4⟩ := l9P2 h3 l3 (by omega) [] (by simp) a3 b3
  simp only at h4 hp4 hl4
  subst hl4
  obtain ⟨w, c5, e5, h5⟩ := l1Once_ok h4 8
  obtain ⟨r, e6⟩ := l9Seal_ok l4 b4 5 (by omega)
  have hp4' : p4.length ≤ 2 := by rw [hp4]; simp; omega
  have q : decide ((p4.length + (0 + 1)) * 88 ≤ 140737488355328) = true := by simp; omega
  simp only [cond_true, e2, e3, e4, e5, Option.bind_some]
  cases w
  ·simp only [Bool.not_false, cond_true, e6, Option.bind_some, List.length_cons, List.length_nil, q]
   exact fin c5 _ _ _ h5 (by simp; omega)
  ·simp only [Bool.not_true, cond_false, Option.bind_some]
   exact fin c5 _ _ _ h5 (by omega)
theorem l10Merged_ok {c : CurT} (h : Cur c) : ∃ x c', spec_l10Merged.f c = some (x, c') ∧ x.length ≤ 1100 ∧ Cur c' := by
 have hlen : ([[97], [98], [99], [107, 101, 121]] : List (List UInt8)).length = 4 := rfl
 have key := up_ok (step := spec_l10Merged.l0) (fun n (s : CurT × List UInt8 × List RecT) => (s.1, s.2.1, s.2.2, ([[97], [98], [99], [107, 101, 121]] : List (List UInt8)), (n : Int))) 4 (fun n s => Cur s.1 ∧ s.2.1.length ≤ 211 * n ∧ s.2.2.length ≤ n) (fun b => Cur b.1 ∧ b.2.1.length ≤ 844 ∧ b.2.2.length ≤ 4)
  (fun rec s hi => ⟨_, by simp [spec_l10Merged.l0], hi.1, hi.2.1, hi.2.2⟩)
  (fun rec n s hn hi => by
   obtain ⟨s, x, l⟩ := s
   obtain ⟨hi1, hi2, hi3⟩ := hi
   simp only at hi1 hi2 hi3
   have e0 : (n : Int) < (([[97], [98], [99], [107, 101, 121]] : List (List UInt8)).length : Int) := by rw [hlen]; omega
   have e1 : n < ([[97], [98], [99], [107, 101, 121]] : List (List UInt8)).length := by rw [hlen]; omega
   have hw := w64_succ (show n + 1 < 9223372036854775808 by omega)
   obtain ⟨o, c1, f1, h1⟩ := l1Once_ok hi1 2
   simp only [spec_l10Merged.l0, e0, decide_true, cond_true, f1, Option.bind_some]
   cases o
   ·simp only [cond_false, Option.bind_some, hw]
    exact ⟨(c1, x, l), ⟨h1, show x.length ≤ _ by omega, show l.length ≤ _ by omega⟩, rfl⟩
   ·obtain ⟨y, c2, f2, _, _, _, h2⟩ := l1Below_ok h1 9
    obtain ⟨z, c3, f3, hz, h3⟩ := l1Text_ok h2 6 (by omega) (by omega)
    simp only [cond_true, f2, Option.bind_some, inB_nat, e1, decide_true, f3, rdA_nat, spec_ShowRec_eq]
    generalize ((4, w64 (1 + y), _, z, 0, 0) : RecT) = R
    have fl := frame_len (showRec R)
    have sl := showRec_len R
    have q : decide ((l.length + (0 + 1)) * 64 ≤ 140737488355328) = true := by simp; omega
    have q2 : decide (x.length + (frame (showRec R)).length ≤ 9223372036854775807) = true := by simp; omega
    simp only [List.length_cons, List.length_nil, q, cond_true, Option.bind_some, spec_Frame_eq (showRec R) (by omega), q2, hw]
    exact ⟨(c3, x ++ frame (showRec R), l ++ [R]), ⟨h3, by simp; omega, by simp; omega⟩, rfl⟩)
  (c, [], []) ⟨h, by simp, by simp⟩ (by omega)
 obtain ⟨⟨c1, x, l⟩, e1, h1, hx, hl⟩ := key
 simp only at h1 hx hl
 obtain ⟨y, c2, e2, _, _, _, h2⟩ := l1Below_ok h1 3
 obtain ⟨r, e3⟩ := l9Seal_ok l (w64 (9 + y)) 5 (by omega)
 obtain ⟨o, c3, e4, h3⟩ := l1Once_ok h2 10
 unfold spec_l10Merged.f
 have e1 : lp spec_l10Merged.l0 (c, [], ([] : List RecT), [[97], [98], [99], [107, 101, 121]], 0) = some (c1, x, l) := e1
 simp only [e1, e2, e3, e4, Option.bind_some]
 have fin : ∀ R : RecT, ∃ x' c', ((spec_ShowRec.f R).bind fun t11 => (spec_Frame.f t11).bind fun t12 => bif decide (x.length + t12.length ≤ 9223372036854775807) then (spec_l1Once.f c3 8).bind fun (t13_0, t13_1) => bif t13_0 then (spec_l1Spoil.f t13_1 (x ++ t12)).bind fun (t14_0, t14_1) => some (t14_0, t14_1) else some (x ++ t12, t13_1) else none) = some (x', c') ∧ x'.length ≤ 1100 ∧ Cur c' := by
  intro R
  have fl := frame_len (showRec R)
  have sl := showRec_len R
  have q2 : decide (x.length + (frame (showRec R)).length ≤ 9223372036854775807) = true := by simp; omega
  obtain ⟨o, c4, e5, h4⟩ := l1Once_ok h3 8
  simp only [spec_ShowRec_eq, Option.bind_some, spec_Frame_eq (showRec R) (by omega), q2, cond_true, e5]
  cases o
  ·simp only [cond_false]
   exact ⟨_, _, rfl, by rw [List.length_append]; omega, h4⟩
  ·obtain ⟨z, c5, e6, hz, h5⟩ := l1Spoil_ok h4 (x ++ frame (showRec R)) (by rw [List.length_append]; omega)
   simp only [cond_true, e6, Option.bind_some]
   rw [List.length_append] at hz
   exact ⟨_, _, rfl, by omega, h5⟩
 cases o
 ·simp only [cond_false, Option.bind_some]
  exact fin _
 ·simp only [cond_true, Option.bind_some]
  exact fin _
theorem l11P2 {c : CurT} (h : Cur c) (t0 : List UInt8) (ht0 : t0.length ≤ 1100) (l : List PlaceT) (hl : l.length ≤ 20) (x2 x3 : DiskT) (x4 : LiveT) (x5 : Int) : ∃ b, lp spec_l11Disk.l2 (c, x2, x3, x4, x5, t0, l, 0) = some b ∧ (b.1 = c ∧ b.2.1 = x2 ∧ b.2.2.1 = x3 ∧ b.2.2.2.1 = x4 ∧ b.2.2.2.2.1 = x5 ∧ b.2.2.2.2.2.length ≤ t0.length + 211 * l.length) :=
 up_ok (step := spec_l11Disk.l2) (fun n (t : List UInt8) => (c, x2, x3, x4, x5, t, l, (n : Int))) l.length (fun n t => t.length ≤ t0.length + 211 * n) (fun b => b.1 = c ∧ b.2.1 = x2 ∧ b.2.2.1 = x3 ∧ b.2.2.2.1 = x4 ∧ b.2.2.2.2.1 = x5 ∧ b.2.2.2.2.2.length ≤ t0.length + 211 * l.length)
  (fun rec s hi => ⟨_, by simp [spec_l11Disk.l2]; rfl, rfl, rfl, rfl, rfl, rfl, hi⟩)
  (fun rec n t hn hi => by
   have hi : t.length ≤ t0.length + 211 * n := hi
   have e0 : (n : Int) < (l.length : Int) := by omega
   have hw := w64_succ (show n + 1 < 9223372036854775808 by omega)
   have key : ∀ r : RecT, spec_Frame.f (showRec r) = some (frame (showRec r)) := fun r => spec_Frame_eq _ (by have := showRec_len r; omega)
   have q2 : ∀ r : RecT, decide (t.length + (frame (showRec r)).length ≤ 9223372036854775807) = true := fun r => by have := frame_len (showRec r); simp; omega
   simp only [spec_l11Disk.l2, e0, decide_true, cond_true, inB_nat, hn, spec_ShowRec_eq, Option.bind_some, key, q2, hw]
   exact ⟨t ++ frame (showRec _), by show (t ++ _).length ≤ _; rw [List.length_append]; have := fun r => frame_len (showRec r); refine Nat.le_trans (Nat.add_le_add hi (this _)) ?_; omega, rfl⟩)
  t0 (by simp) (by omega)
def dTiny (n : Nat) (l : List FileT) : Prop := l.length ≤ 2 * n ∧ usedN l ≤ 6000 * n ∧ ∀ f ∈ l, f.1.length ≤ 50
theorem dTiny_ins {n : Nat} {l : List FileT} (h : l.length ≤ 2 * n + 1 ∧ usedN l ≤ 6000 * n + 4500 ∧ ∀ f ∈ l, f.1.length ≤ 50) (f : FileT) (hf : f.1.length ≤ 50) (ht : f.2.1.length ≤ 1500) : dTiny (n + 1) (insB l f) := by
 obtain ⟨h1, h2, h3⟩ := h
 refine ⟨by rw [insB_len]; omega, by rw [usedN_insB]; omega, fun g hg => ?_⟩
 rcases (mem_insB _ _ _).1 hg with rfl | hg
 ·exact hf
 ·exact h3 g hg
theorem dTiny_one {n : Nat} {l : List FileT} (h : dTiny n l) (f : FileT) (hf : f.1.length ≤ 50) (ht : f.2.1.length ≤ 4500) : (insB l f).length ≤ 2 * n + 1 ∧ usedN (insB l f) ≤ 6000 * n + 4500 ∧ ∀ g ∈ insB l f, g.1.length ≤ 50 := by
 obtain ⟨h1, h2, h3⟩ := h
 refine ⟨by rw [insB_len]; omega, by rw [usedN_insB]; omega, fun g hg => ?_⟩
 rcases (mem_insB _ _ _).1 hg with rfl | hg
 ·exact hf
 ·exact h3 g hg
theorem dTiny_le {n : Nat} {l : List FileT} (h : l.length ≤ 2 * n + 1 ∧ usedN l ≤ 6000 * n + 4500 ∧ ∀ f ∈ l, f.1.length ≤ 50) : dTiny (n + 1) l := ⟨by omega, by omega, h.2.2⟩
theorem l11P0 {c : CurT} (h : Cur c) (x2 : DiskT) (q : Int × Int × Bool) (v : LiveT) (hv : v.2.length ≤ 4) : ∃ b, lp spec_l11Disk.l0 (c, x2, ([], q), v, 0) = some b ∧ (Cur b.1 ∧ b.2.1 = x2 ∧ b.2.2.2 = v ∧ dTiny 4 b.2.2.1.1 ∧ v.2.length ≤ b.2.2.1.1.length) :=
 up_ok (step := spec_l11Disk.l0) (fun n (s : CurT × List FileT) => (s.1, x2, (s.2, q), v, (n : Int))) v.2.length (fun n s => Cur s.1 ∧ dTiny n s.2 ∧ n ≤ s.2.length) (fun b => Cur b.1 ∧ b.2.1 = x2 ∧ b.2.2.2 = v ∧ dTiny 4 b.2.2.1.1 ∧ v.2.length ≤ b.2.2.1.1.length)
  (fun rec s hi => ⟨_, by simp [spec_l11Disk.l0]; rfl, hi.1, rfl, rfl, ⟨by have := hi.2.1.1; show s.2.length ≤ _; omega, by have := hi.2.1.2.1; show usedN s.2 ≤ _; omega, hi.2.1.2.2⟩, hi.2.2⟩)
  (fun rec n s hn hi => by
   obtain ⟨s, fs⟩ := s
   obtain ⟨hi1, hi2, hi3⟩ := hi
   simp only at hi1 hi2 hi3
   have e0 : (n : Int) < (v.2.length : Int) := by omega
   have hw := w64_succ (show n + 1 < 9223372036854775808 by omega)
   obtain ⟨l, c1, f1, hl, h1⟩ := l9Places_ok hi1
   simp only [spec_l11Disk.l0, e0, decide_true, cond_true, f1, Option.bind_some, hw]
   -- the text to begin with
   have A : ∃ c2 t0 l0, (bif ((n : Int) == 0) then (spec_l1Once.f c1 3).bind fun x => bif x.1 then (spec_l10Merged.f x.2).bind fun x => some (x.2, x2, (fs, q), v, (n : Int), x.1, []) else some (x.2, x2, (fs, q), v, (n : Int), [], l) else some (c1, x2, (fs, q), v, (n : Int), [], l) : Option (CurT × DiskT × DiskT × LiveT × Int × List UInt8 × List PlaceT)) = some (c2, x2, (fs, q), v, (n : Int), t0, l0) ∧ Cur c2 ∧ ((t0 = [] ∧ l0.length ≤ 20) ∨ (t0.length ≤ 1100 ∧ l0 = [])) := by
    cases z : ((n : Int) == 0)
    ·exact ⟨c1, [], l, rfl, h1, .inl ⟨rfl, by omega⟩⟩
    ·obtain ⟨o, c2, f2, h2⟩ := l1Once_ok h1 3
     simp only [cond_true, f2, Option.bind_some]
     cases o
     ·exact ⟨c2, [], l, rfl, h2, .inl ⟨rfl, by omega⟩⟩
     ·obtain ⟨x, c3, f3, hx, h3⟩ := l10Merged_ok h2
      simp only [cond_true, f3, Option.bind_some]
      exact ⟨c3, x, [], rfl, h3, .inr ⟨hx, rfl⟩⟩
   obtain ⟨c2, t0, l0, fA, h2, hA⟩ := A
   have B : ∃ t1, lp spec_l11Disk.l2 (c2, x2, (fs, q), v, (n : Int), t0, l0, 0) = some (c2, x2, (fs, q), v, (n : Int), t1) ∧ t1.length ≤ 4300 := by
    have hb : t0.length ≤ 1100 ∧ l0.length ≤ 20 ∧ t0.length + 211 * l0.length ≤ 4300 := by
     rcases hA with ⟨rfl, hl0⟩ | ⟨ht, rfl⟩
     ·simp; omega
     ·simp; omega
    obtain ⟨⟨b1, b2, b3, b4, b5, b6⟩, e, k1, k2, k3, k4, k5, k6⟩ := l11P2 h2 t0 hb.1 l0 hb.2.1 x2 (fs, q) v (n : Int)
    simp only at k1 k2 k3 k4 k5 k6
    subst k1; subst k2; subst k3; subst k4; subst k5
    exact ⟨b6, e, by omega⟩
   obtain ⟨t1, fB, ht1⟩ := B
   obtain ⟨o, c3, f3, h3⟩ := l1Once_ok h2 8
   have C : ∃ c4 t2, (bif o then (spec_l1Spoil.f c3 t1).bind fun x => some (x.2, x2, (fs, q), v, (n : Int), x.1) else some (c3, x2, (fs, q), v, (n : Int), t1) : Option (CurT × DiskT × DiskT × LiveT × Int × List UInt8)) = some (c4, x2, (fs, q), v, (n : Int), t2) ∧ Cur c4 ∧ t2.length ≤ 4400 := by
    cases o
    ·exact ⟨c3, t1, rfl, h3, by omega⟩
    ·obtain ⟨x, c4, f4, hx, h4⟩ := l1Spoil_ok h3 t1 (by omega)
     simp only [cond_true, f4, Option.bind_some]
     exact ⟨c4, x, rfl, h4, by omega⟩
   obtain ⟨c4, t2, fC, h4, ht2⟩ := C
   have hfl : fs.length < 1000000 := by have := hi2.1; omega
   have d1 := dTiny_one hi2 (segName v.2[n], t2, (t2.length : Int)) (by have := segName_len v.2[n]; show (segName _).length ≤ 50; omega) (by show t2.length ≤ _; omega)
   have d2 := fun id h' => dTiny_ins d1 (hintName id, showHint h', ((showHint h').length : Int)) (by have := hintName_len id; show (hintName id).length ≤ 50; omega) (by have := showHint_len h'; show (showHint h').length ≤ _; omega)
   have hh := hintOf_len v.2[n] t2
   rw [fA]
   simp only [Option.bind_some, fB, f3]
   rw [fC]
   simp only [Option.bind_some, inB_nat, hn, decide_true, cond_true, rdA_nat, getD_lt hn, spec_SegName_eq, spec_l3Insert_eq _ _ (show fs.length < 1000000000 by omega), spec_HintOf_eq v.2[n] t2 (by omega)]
   cases hf : (hintOf v.2[n] t2).2
   ·simp only [cond_false, Option.bind_some, hw]
    exact ⟨(c4, _), ⟨h4, dTiny_le d1, show n + 1 ≤ (insB fs (segName v.2[n], t2, (t2.length : Int))).length by rw [insB_len]; omega⟩, rfl⟩
   ·obtain ⟨o, c5, f5, h5⟩ := l1Once_ok h4 3
    simp only [cond_true, f5, Option.bind_some]
    cases o
    ·simp only [Bool.not_false, cond_true, spec_ShowHint_eq (hintOf v.2[n] t2).1 (by omega), Option.bind_some, spec_HintName_eq, spec_l3Insert_eq _ _ (show (insB fs (segName v.2[n], t2, (t2.length : Int))).length < 1000000000 by rw [insB_len]; omega), hw]
     exact ⟨(c5, _), ⟨h5, d2 v.2[n] (hintOf v.2[n] t2).1, show n + 1 ≤ (insB (insB fs (segName v.2[n], t2, (t2.length : Int))) (hintName v.2[n], showHint (hintOf v.2[n] t2).1, ((showHint (hintOf v.2[n] t2).1).length : Int))).length by rw [insB_len, insB_len]; omega⟩, rfl⟩
    ·simp only [Bool.not_true, cond_false, Option.bind_some, hw]
     exact ⟨(c5, _), ⟨h5, dTiny_le d1, show n + 1 ≤ (insB fs (segName v.2[n], t2, (t2.length : Int))).length by rw [insB_len]; omega⟩, rfl⟩)
  (c, []) ⟨h, by simp [dTiny, usedN, sumN], by simp⟩ (by omega)
theorem dTiny_dl {l : List FileT} (h : dTiny 5 l) (q : Int × Int × Bool) : dl 200000 (l, q) := ⟨by have := h.1; show l.length < _; omega, by have := h.2.1; show usedN l < _; omega, fun f hf => by have := h.2.2 f hf; omega⟩
theorem l11Disk_ok {c : CurT} (h : Cur c) : ∃ d c', spec_l11Disk.f c = some (d, c') ∧ dl 300000 d := by
 have e0 : spec_DiskNew.f 100000 = some (([], 100000, -1, false) : DiskT) := by
  unfold spec_DiskNew.f
  rw [spec_l1In_eq]; rfl
 obtain ⟨v, c1, e1, hv, h1⟩ := l7Live_ok h
 obtain ⟨⟨c2, z, D, w⟩, e2, h2, hz, hw, hD, hlow⟩ := l11P0 h1 ([], 0, 0, false) (100000, -1, false) v hv.2
 simp only at h2 hz hw hD hlow
 subst hz; subst hw
 obtain ⟨fs, q⟩ := D
 have hD : dTiny 4 fs := hD
 have hlow : w.2.length ≤ fs.length := hlow
 obtain ⟨k, c3, e3, _, _, _, h3⟩ := l1Below_ok h2 12
 have ls := showLive_len w
 have hle : dTiny 5 fs := ⟨by have := hD.1; show fs.length ≤ _; omega, by have := hD.2.1; show usedN fs ≤ _; omega, hD.2.2⟩
 have hfs : fs.length ≤ 8 := by have := hD.1; simpa using this
 have hu : usedN fs ≤ 24000 := by have := hD.2.1; simpa using this
 have hd0 : dl 200000 (fs, q) := dTiny_dl hle q
 have fin : ∀ (d : DiskT) (t : List UInt8) (c' : CurT), dl 200000 (d.1, q) → t.length ≤ 1000 → ∃ d' c'', ((spec_l3Insert.f d.1 ([108, 105, 118, 101], t, (t.length : Int))).bind fun t27 => some (((t27, d.2) : DiskT), c')) = some (d', c'') ∧ dl 300000 d' := by
  intro d t c' hd ht
  rw [spec_l3Insert_eq _ _ (show d.1.length < 1000000000 by have := hd.1; have : d.1.length < 200000 := this; omega)]
  refine ⟨_, _, rfl, ?_⟩
  have hd' : dl 200000 d := hd
  exact dl_ins hd' ([108, 105, 118, 101], t, (t.length : Int)) (by omega) (by show 200000 + t.length ≤ _; omega) (by show 4 < _; omega)
 unfold spec_l11Disk.f
 simp only [e0, e1, e2, e3, Option.bind_some, spec_ShowLive_eq w (by omega)]
 cases d0 : (k == 0)
 rotate_left
 ·obtain ⟨x, c4, e4, hx, h4⟩ := l1Spoil_ok h3 (showLive w) (by omega)
  simp only [cond_true, e4, Option.bind_some, caseS]
  exact fin (fs, q) x c4 hd0 (by omega)
 simp only [cond_false]
 cases d1 : (k == 1)
 rotate_left
 ·obtain ⟨x, c4, e4, a4, b4, _, h4⟩ := l1Below_ok h3 (fs.length : Int)
  have b4 := b4 (by omega)
  obtain ⟨n, rfl⟩ : ∃ n : Nat, x = (n : Int) := ⟨x.toNat, by omega⟩
  simp only [cond_true, e4, Option.bind_some, spec_l3Without_eq fs n (by omega) (by omega), caseS]
  exact fin (remIx fs n, q) (showLive w) c4 (dl_sub hd0 (remIx_sub fs n)) (by omega)
 simp only [cond_false]
 cases d2 : (k == 2)
 rotate_left
 ·have ec := spec_Create_eq (fs, q) [115, 101, 103, 57, 57] (dl_lim hd0 (by omega)) (by simp)
  simp only [cond_true, ec, Option.bind_some, caseS]
  have hd2 : dl 200000 (dstep (fs, q) (actCreate [115, 101, 103, 57, 57])).1 := dl_mono (dl_Create (show dl 100000 (fs, q) from ⟨by show fs.length < _; omega, by show usedN fs < _; omega, fun f hf => by have := hD.2.2 f hf; omega⟩) [115, 101, 103, 57, 57] (m := 100001) (by omega) (by show 5 < _; omega)) (by omega)
  exact fin (dstep (fs, q) (actCreate [115, 101, 103, 57, 57])).1 (showLive w) c3 hd2 (by omega)
 simp only [cond_false]
 cases d3 : (k == 3)
 rotate_left
 ·simp only [cond_true, Option.bind_some, caseS]
  exact ⟨_, _, rfl, dl_mono hd0 (by omega)⟩
 simp only [cond_false]
 cases d4 : (k == 4)
 rotate_left
 ·obtain ⟨x, c4, e4, _, _, _, h4⟩ := l1Below_ok h3 6
  simp only [cond_true, e4, Option.bind_some, caseS]
  exact fin (fs, _) (showLive w) c4 hd0 (by omega)
 ·simp only [cond_false, Option.bind_some, caseS]
  exact fin (fs, q) (showLive w) c3 hd0 (by omega)
theorem drawOpen_ok (l : List Int) (hl : l.length < 2 ^ 60) : ∃ d, spec_DrawOpen.f l = some d ∧ dl 300000 d := by
 obtain ⟨c, e1, h1⟩ := l1New_ok l hl
 obtain ⟨k, c2, e2, _, _, _, h2⟩ := l1Below_ok h1 5
 unfold spec_DrawOpen.f
 simp only [e1, e2, Option.bind_some]
 cases d0 : (k == 0)
 rotate_left
 ·obtain ⟨d, c3, e3, hd, h3⟩ := l3Any_ok h2
  simp only [cond_true, e3, Option.bind_some]
  exact ⟨d, rfl, dl_mono hd (by omega)⟩
 simp only [cond_false]
 cases d1 : (k == 1)
 rotate_left
 ·obtain ⟨x, c3, e3, _, h3⟩ := l1PickInt_ok h2 [0, 5, 9, 50] (by decide)
  obtain ⟨y, c4, e4, _, h4⟩ := l1PickInt_ok h3 [(-1), (-1), 0, 1, 2, 3, 4, 5, 6] (by decide)
  simp only [cond_true, e3, e4, Option.bind_some]
  exact ⟨_, rfl, by show 0 < _; omega, by show (0 : Nat) < _; omega, fun f hf => by simp at hf⟩
 ·obtain ⟨d, c3, e3, hd⟩ := l11Disk_ok h2
  simp only [cond_false, e3, Option.bind_some]
  exact ⟨d, rfl, hd⟩
theorem sumN_two {α : Type} {f a b : α → Nat} : ∀ (l : List α), (∀ x ∈ l, f x = a x + b x) → sumN f l = sumN a l + sumN b l
 | [], _ => rfl
 | x :: l, h => by
  have h1 := h x (by simp)
  have h2 := sumN_two l fun y hy => h y (by simp [hy])
  simp only [sumN]; omega
theorem sumN_nil {α : Type} {f : α → Nat} : ∀ (l : List α), (∀ x ∈ l, f x = 0) → sumN f l = 0
 | [], _ => rfl
 | x :: l, h => by
  have h1 := h x (by simp)
  have h2 := sumN_nil l fun y hy => h y (by simp [hy])
  simp only [sumN]; omega
theorem sumN_one {l : List FileT} (hp : l.Pairwise fun a b => Op.bytesLess a.1 b.1 = true) {f : FileT} (hf : f ∈ l) : sumN (fun g : FileT => if g.1 = f.1 then g.2.1.length else 0) l = f.2.1.length := by
 induction l with
 | nil => simp at hf
 | cons x l ih =>
  obtain ⟨h1, h2⟩ := List.pairwise_cons.1 hp
  rcases List.mem_cons.1 hf with rfl | hf
  ·have : sumN (fun g : FileT => if g.1 = f.1 then g.2.1.length else 0) l = 0 := sumN_nil l fun y hy => by
    rw [if_neg]
    intro e
    have := h1 y hy
    rw [e, less_irrefl] at this
    simp at this
   simp only [sumN, this, if_true, Nat.add_zero]
  ·have hne : x.1 ≠ f.1 := fun e => by
    have := h1 f hf
    rw [e, less_irrefl] at this
    simp at this
   simp only [sumN, ih h2 hf, if_neg hne, Nat.zero_add]
theorem sumN_name {d : DiskT} (h : diskOk d = true) (n : List UInt8) : sumN (fun g : FileT => if g.1 = n then g.2.1.length else 0) d.1 = (fileText d n).1.length := by
 cases hn : (fileText d n).2 with
 | true =>
  obtain ⟨s, hs⟩ := has_file h hn
  have := sumN_one (diskOk_pw h) hs
  exact this
 | false =>
  have hno : ∀ f ∈ d.1, f.1 ≠ n := fun f hf e => by
   have := fileText_mem h hf
   rw [e] at this
   rw [this] at hn; simp at hn
  rw [fileText_eq_none hno]
  exact sumN_nil _ fun f hf => by rw [if_neg (hno f hf)]
noncomputable def segIn (l : List Int) (f : FileT) : Nat := if ∃ id ∈ l, f.1 = segName id then f.2.1.length else 0
theorem segN_files {d : DiskT} (h : diskOk d = true) : ∀ (l : List Int), (∀ id ∈ l, 1 ≤ id ∧ id ≤ 100000) → l.Pairwise (· < ·) → segN d l = sumN (segIn l) d.1
 | [], _, _ => (sumN_nil _ fun f _ => by simp [segIn]).symm
 | x :: l, hr, hp => by
  obtain ⟨h1, h2⟩ := List.pairwise_cons.1 hp
  have ih := segN_files h l (fun id hid => hr id (by simp [hid])) h2
  have e : sumN (segIn (x :: l)) d.1 = sumN (fun g : FileT => if g.1 = segName x then g.2.1.length else 0) d.1 + sumN (segIn l) d.1 := sumN_two _ fun f hf => by
   unfold segIn
   by_cases c : f.1 = segName x
   ·have hno : ¬ ∃ id ∈ l, f.1 = segName id := fun ⟨id, hid, e⟩ => by
     have := segName_inj (hr x (by simp)) (hr id (by simp [hid])) (c.symm.trans e)
     have := h1 id hid
     omega
    rw [if_pos ⟨x, by simp, c⟩, if_pos c, if_neg hno]
    rfl
   ·rw [if_neg c, Nat.zero_add]
    by_cases k : ∃ id ∈ l, f.1 = segName id
    ·obtain ⟨id, hid, e⟩ := k
     rw [if_pos ⟨id, by simp [hid], e⟩, if_pos ⟨id, hid, e⟩]
    ·rw [if_neg k, if_neg]
     rintro ⟨id, hid, e⟩
     rcases List.mem_cons.1 hid with rfl | hid
     ·exact c e
     ·exact k ⟨id, hid, e⟩
  rw [e, sumN_name h, ← ih]
  rfl
noncomputable def otherN (f : FileT) : Nat := if (idOf f.1).2 = false then f.2.1.length else if f.1 = hintName (idOf f.1).1 then f.2.1.length else 0
theorem used_split {s : StoreT} {y : DiskT} (h : Opened s y) : usedN y.1 = segN y s.1.2 + sumN otherN y.1 := by
 have hr : ∀ id ∈ s.1.2, 1 ≤ id ∧ id ≤ 100000 := fun id hid => by have := live_range h.lv hid; omega
 rw [segN_files h.dk s.1.2 hr (live_pw h.lv)]
 refine sumN_two _ fun f hf => ?_
 unfold segIn otherN
 by_cases k : ∃ id ∈ s.1.2, f.1 = segName id
 ·obtain ⟨id, hid, e⟩ := k
  have hi : idOf f.1 = (id, true) := idOf_yes ⟨hr id hid, .inl e⟩
  rw [if_pos ⟨id, hid, e⟩, hi, if_neg (by simp), if_neg]
  ·rfl
  ·rw [e]; exact segName_hint id id (hr id hid)
 ·rw [if_neg k, Nat.zero_add]
  cases hi : (idOf f.1).2 with
  | false => rfl
  | true =>
   have hn : named f.1 (idOf f.1).1 := idOf_named (by rw [← hi])
   rw [if_neg (by simp)]
   rcases hn.2 with e | e
   ·exact absurd ⟨_, h.cnt f hf _ hn, e⟩ k
   ·rw [if_pos e]
theorem otherN_le (f : FileT) : otherN f ≤ f.2.1.length := by
 unfold otherN
 split
 ·exact Nat.le_refl _
 ·split
  ·exact Nat.le_refl _
  ·exact Nat.zero_le _
theorem other_loop (s : StoreT) (d : DiskT) (h : dlim d) (n : Int) : lp laws_FnLiveBytes.l0 (s, d, n, 0, 0) = some (s, d, n, (sumN otherN d.1 : Int)) := by
 have hu : ∀ k, sumN otherN (d.1.take k) ≤ usedN d.1 := fun k => Nat.le_trans (sumN_sub _ (List.take_sublist k d.1)) (sumN_le otherN_le _)
 have h1 := h.1
 have h2 := h.2.1
 have key := up_ok (step := laws_FnLiveBytes.l0) (fun k (a : Int) => (s, d, n, a, (k : Int))) d.1.length (fun k a => a = ((sumN otherN (d.1.take k) : Nat) : Int)) (fun b => b = (s, d, n, ((sumN otherN d.1 : Nat) : Int)))
  (fun rec a hi => ⟨_, by simp [laws_FnLiveBytes.l0]; rfl, by rw [hi, List.take_length]⟩)
  (fun rec k a hk hi => by
   have e0 : (k : Int) < (d.1.length : Int) := by omega
   have hw := w64_succ (show k + 1 < 9223372036854775808 by omega)
   have hnl : (d.1[k]).1.length < 1000000000000 := by have := h.2.2 _ (List.getElem_mem hk); omega
   have hs : sumN otherN (d.1.take (k + 1)) = sumN otherN (d.1.take k) + otherN d.1[k] := by
    rw [List.take_succ_eq_append_getElem hk, sumN_snoc]
   have hb := hu (k + 1)
   refine ⟨((sumN otherN (d.1.take (k + 1)) : Nat) : Int), rfl, ?_⟩
   subst hi
   simp only [laws_FnLiveBytes.l0, e0, decide_true, cond_true, inB_nat, hk, rdA_nat, getD_lt hk, spec_IdOf_eq _ hnl, Option.bind_some, spec_HintName_eq]
   have hlen : otherN d.1[k] = d.1[k].2.1.length → w64 (((sumN otherN (d.1.take k) : Nat) : Int) + ((d.1[k].2.1.length : Nat) : Int)) = ((sumN otherN (d.1.take (k + 1)) : Nat) : Int) := fun e => by
    rw [hs, e, w64_id (by omega) (by omega)]; omega
   cases hi : (idOf d.1[k].1).2 with
   | false =>
    have e : otherN d.1[k] = d.1[k].2.1.length := by unfold otherN; rw [if_pos hi]
    simp only [Bool.not_false, cond_true, Option.bind_some, hlen e, hw]
   | true =>
    by_cases c : d.1[k].1 = hintName (idOf d.1[k].1).1
    ·have e : otherN d.1[k] = d.1[k].2.1.length := by unfold otherN; rw [if_neg (by simp [hi]), if_pos c]
     have e2 : (d.1[k].1 == hintName (idOf d.1[k].1).1) = true := by simpa using c
     simp only [Bool.not_true, cond_false, e2, cond_true, Option.bind_some, hlen e, hw]
    ·have e : otherN d.1[k] = 0 := by unfold otherN; rw [if_neg (by simp [hi]), if_neg c]
     have e2 : (d.1[k].1 == hintName (idOf d.1[k].1).1) = false := by simpa using c
     rw [e] at hs
     simp only [Bool.not_true, cond_false, e2, Option.bind_some, hw, hs, Nat.add_zero])
  0 (by simp [sumN]) (by omega)
 obtain ⟨b, e, hb⟩ := key
 subst hb
 exact e
theorem FnLiveBytes_true (x0 : List Int) (w0 : wfD (.sl false (.int .u8)) x0) : laws_FnLiveBytes.f x0 = some true := by
 unfold laws_FnLiveBytes.f
 rw [big_eq, Option.bind_some]
 by_cases c1 : (x0.length : Int) > 1048576
 ·simp only [c1, decide_true, cond_true]
 simp only [c1, decide_false, cond_false]
 obtain ⟨d, e1, hd⟩ := drawOpen_ok x0 (by omega)
 have hd' : dl 1048577 d := dl_mono hd (by omega)
 obtain ⟨s, y, c, hy⟩ : ∃ s y c, openP d = (s, y, c) := ⟨_, _, _, rfl⟩
 have hyl : y.1.length < 1000000000 := by
  cases h : diskOk d with
  | true =>
   have := (openP_ok h).1
   rw [hy] at this
   have : y.1.length < 100001 := (dl_dk this).1
   omega
  | false =>
   have : openP d = (zStore, d, 4) := by unfold openP; rw [if_pos h]
   rw [this] at hy
   simp only [Prod.mk.injEq] at hy
   rw [← hy.2.1]
   have := hd.1
   omega
 rw [e1, Option.bind_some, impl_Open_eq d hd', spec_Open_eq d hd', hy]
 simp only [Option.bind_some, bne_self_eq_false, cond_false, spec_SameDisk_self y hyl, Bool.not_true]
 by_cases hc : c = 0
 rotate_left
 ·have : (c != 0) = true := by simpa using hc
  simp only [this, cond_true]
 subst hc
 obtain ⟨ho, hk⟩ := openP_opened hy
 have hl : s.1.2.length ≤ 60 := by have := (openP_ok hk).2.1; rw [hy] at this; exact this
 have hdl := dl_dk ho.dk
 have hlim := dl_lim hdl (by omega)
 have ht : s.1.2.take 60 = s.1.2 := List.take_of_length_le hl
 have hu := used_split ho
 have hub := hdl.2.1
 simp only [bne_self_eq_false, cond_false, impl_SegBytes_eq s y hlim (by omega), spec_SegBytes_eq s y hlim (by omega), ht, Option.bind_some, other_loop s y hlim]
 have hU : impl_Used.f y = some (usedN y.1 : Int) := by
  unfold impl_Used.f
  rw [impl_DiskOk_eq _ hlim, ho.dk, Option.bind_some]
  simp only [Bool.not_true, cond_false]
  rw [impl_used_eq _ (by have := hlim.1; omega) (by omega)]
  rfl
 rw [hU, Option.bind_some, w64_id (by omega) (by omega)]
 have e : (((segN y s.1.2 : Nat) : Int) + ((sumN otherN y.1 : Nat) : Int) == (usedN y.1 : Int)) = true := by simp; omega
 rw [e, cond_true, beq_self_eq_true]
end Go.Rf.G
