/- Plain: the disk's steps, further. -/
import Derived.Test.YtaijmhaonokniaaLf
namespace Go.Rf.G
open Go Go.Rf
set_option linter.unusedVariables false
set_option linter.unusedSimpArgs false
set_option synthInstance.maxSize 4000

theorem lim40' {a : Nat} (h : a < 1000000000001) : a * 40 ≤ 140737488355328 := by omega

def remIx (l : List FileT) (i : Nat) : List FileT := l.take i ++ l.drop (i + 1)

theorem remIx_len {l : List FileT} {i : Nat} (h : i < l.length) : (remIx l i).length = l.length - 1 := by
  unfold remIx
  rw [List.length_append, List.length_take, List.length_drop]; omega

def dropF (l : List FileT) (name : List UInt8) : List FileT :=
  match l.findIdx? (fun f => f.1 == name) with
  | some i => remIx l i
  | none => l

theorem dropF_len (l : List FileT) (name : List UInt8) : (dropF l name).length ≤ l.length := by
  unfold dropF
  cases e : l.findIdx? (fun f => f.1 == name) with
  | none => exact Nat.le_refl _
  | some i =>
    obtain ⟨h, _⟩ := List.findIdx?_eq_some_iff_getElem.1 e
    have := remIx_len h
    simp only; omega

/-- 'append(append(..[:i]), ..[i+1:]...)' -/
theorem cut_eq2 (l : List FileT) (i : Nat) (h : i < l.length) (hl : l.length < 1000000000000) {β : Type} (K : List FileT → Option β) :
    (bif (decide (0 ≤ (i : Int)) && decide ((i : Int) ≤ (l.length : Int))) then
      bif decide ((([] : List FileT).length + (l.take (i : Int).toNat).length) * 40 ≤ 140737488355328) then
      bif (decide (0 ≤ w64 ((i : Int) + 1)) && decide (w64 ((i : Int) + 1) ≤ (l.length : Int))) then
      bif decide (((([] : List FileT) ++ (l.take (i : Int).toNat)).length + (l.drop ((w64 ((i : Int) + 1)).toNat)).length) * 40 ≤ 140737488355328) then
      K ((([] : List FileT) ++ (l.take (i : Int).toNat)) ++ (l.drop ((w64 ((i : Int) + 1)).toNat))) else none else none else none else none) = K (remIx l i) := by
  have hw : w64 ((i : Int) + 1) = ((i + 1 : Nat) : Int) := w64_succ (by omega)
  rw [hw]
  have c1 : (decide (0 ≤ (i : Int)) && decide ((i : Int) ≤ (l.length : Int))) = true := by simp; omega
  have c2 : (decide (0 ≤ ((i + 1 : Nat) : Int)) && decide (((i + 1 : Nat) : Int) ≤ (l.length : Int))) = true := by simp; omega
  have c3 : (l.take i).length * 40 ≤ 140737488355328 := by rw [List.length_take]; omega
  have c4 : ((l.take i).length + (l.drop (i + 1)).length) * 40 ≤ 140737488355328 := by rw [List.length_take, List.length_drop]; omega
  simp only [Int.toNat_natCast, List.nil_append, List.length_nil, Nat.zero_add, c1, c2]
  simp only [c3, c4, decide_true, cond_true]; rfl

theorem impl_Disk_drop_eq (d : DiskT) (name : List UInt8) (h : d.1.length < 1000000000) : impl_Disk_drop.f d name = some (dropF d.1 name, d.2) := by
  unfold impl_Disk_drop.f dropF
  rw [impl_fileAt_eq d name (by omega), Option.bind_some]
  rcases fileIx_cases d.1 name with ⟨e, _⟩ | ⟨i, hi, e, _⟩
  · rw [e, ix_none e]; rfl
  · rw [e, ix_some e]
    have c : (i : Int) ≥ 0 := by omega
    simp only [c, decide_true, cond_true]
    exact cut_eq2 d.1 i hi (by omega) fun l => some (l, d.2)

theorem spec_l3Without_eq (l : List FileT) (i : Nat) (hi : i < l.length) (h : l.length < 1000000000) : spec_l3Without.f l (i : Int) = some (remIx l i) := by
  unfold spec_l3Without.f
  exact cut_eq2 l i hi (by omega) fun l => some l

/-! ### Remove -/

def actRemove (name : List UInt8) (l : List FileT) : Int × List FileT :=
  match l.findIdx? (fun f => f.1 == name) with
  | some i => (0, remIx l i)
  | none => (3, l)

theorem impl_Remove_1_eq (d : DiskT) (name : List UInt8) (h : d.1.length < 1000000000) : impl_Remove_1.f d name = some ((actRemove name d.1).1, (actRemove name d.1).2, d.2) := by
  unfold impl_Remove_1.f actRemove
  rw [impl_fileAt_eq d name (by omega), Option.bind_some, impl_Disk_drop_eq d name h]
  unfold dropF
  rcases fileIx_cases d.1 name with ⟨e, _⟩ | ⟨i, hi, e, _⟩
  · rw [e, ix_none e]; rfl
  · rw [e, ix_some e]
    simp only [dnn (show (0 : Int) ≤ (i : Int) by omega), cond_false, Option.bind_some]

theorem impl_Remove_eq (d : DiskT) (name : List UInt8) (h : dlim d) : impl_Remove.f d name = some (dstep d (actRemove name)) := by
  have hs : impl_step_Remove_1.f d name = some (dstep d (actRemove name)) := step_eq d h name (fun n x => impl_Remove_1.f x n) (actRemove name) fun _ => by
    show impl_Remove_1.f (tick d) name = _
    rw [impl_Remove_1_eq (tick d) name (by rw [tick_fst]; exact h.1), tick_fst]
  unfold impl_Remove.f
  rw [hs]; rfl

theorem spec_Remove_eq (d : DiskT) (name : List UInt8) (h : dlim d) : spec_Remove.f d name = some (dstep d (actRemove name)) := by
  have hl := h.1
  unfold spec_Remove.f
  rcases begin_ways d h with ⟨x, c, e1, e2, e3⟩ | ⟨k, e1, e3⟩
  · rw [e1, e3, Option.bind_some]; simp only [e2, cond_true]
  rw [e1, e3, Option.bind_some]
  simp only [bne_self_eq_false, cond_false, spec_l3Find_eq d name (show d.1.length < 2 ^ 62 by omega), Option.bind_some]
  unfold actRemove
  rcases fileIx_cases d.1 name with ⟨e, _⟩ | ⟨i, hi, e, _⟩
  · rw [e, ix_none e]
    show some (tick d, 3) = some ((d.1, (tick d).2), 3)
    rw [← tick_fst d]
  · rw [e, ix_some e]
    simp only [dnn (show (0 : Int) ≤ (i : Int) by omega), cond_false, tick_fst, spec_l3Without_eq d.1 i hi hl, Option.bind_some]

/-! ### Truncate -/

def actTrunc (name : List UInt8) (n : Int) (l : List FileT) : Int × List FileT :=
  match l.findIdx? (fun f => f.1 == name) with
  | some i => if 0 ≤ n ∧ n ≤ ((l.getD i ([], [], 0)).2.1.length : Int) then
      (0, l.set i ((l.getD i ([], [], 0)).1, (l.getD i ([], [], 0)).2.1.take n.toNat, if n < (l.getD i ([], [], 0)).2.2 then n else (l.getD i ([], [], 0)).2.2))
    else (5, l)
  | none => (3, l)

theorem impl_Truncate_1_eq (d : DiskT) (name : List UInt8) (n : Int) (h : d.1.length < 1000000000) : impl_Truncate_1.f d name n = some ((actTrunc name n d.1).1, (actTrunc name n d.1).2, d.2) := by
  unfold impl_Truncate_1.f actTrunc
  rw [impl_fileAt_eq d name (by omega), Option.bind_some]
  rcases fileIx_cases d.1 name with ⟨e, _⟩ | ⟨i, hi, e, _⟩
  · rw [e, ix_none e]; rfl
  · rw [e, ix_some e]
    simp only [dnn (show (0 : Int) ≤ (i : Int) by omega), cond_false, inB_ix hi, cond_true, rdA_ix hi, impl_in_eq, Option.bind_some, getD_lt hi]
    by_cases c : 0 ≤ n ∧ n ≤ (d.1[i].2.1.length : Int)
    · have c2 : (decide (0 ≤ n) && decide (n ≤ (d.1[i].2.1.length : Int))) = true := by simp [c.1, c.2]
      simp only [c, c2, decide_true, Bool.not_true, cond_false, cond_true, Int.toNat_natCast, rdA_set hi, List.set_set, if_true, and_self, Bool.and_self]
    · simp [c]

theorem impl_Truncate_eq (d : DiskT) (name : List UInt8) (n : Int) (h : dlim d) : impl_Truncate.f d name n = some (dstep d (actTrunc name n)) := by
  have hs : impl_step_Truncate_1.f d (name, n) = some (dstep d (actTrunc name n)) := step_eq d h (name, n) (fun c x => impl_Truncate_1.f x c.1 c.2) (actTrunc name n) fun _ => by
    show impl_Truncate_1.f (tick d) name n = _
    rw [impl_Truncate_1_eq (tick d) name n (by rw [tick_fst]; exact h.1), tick_fst]
  unfold impl_Truncate.f
  rw [hs]; rfl

theorem spec_Truncate_eq (d : DiskT) (name : List UInt8) (n : Int) (h : dlim d) : spec_Truncate.f d name n = some (dstep d (actTrunc name n)) := by
  have hl := h.1
  unfold spec_Truncate.f
  rcases begin_ways d h with ⟨x, c, e1, e2, e3⟩ | ⟨k, e1, e3⟩
  · rw [e1, e3, Option.bind_some]; simp only [e2, cond_true]
  rw [e1, e3, Option.bind_some]
  simp only [bne_self_eq_false, cond_false, spec_l3Find_eq d name (show d.1.length < 2 ^ 62 by omega), Option.bind_some]
  unfold actTrunc
  rcases fileIx_cases d.1 name with ⟨e, _⟩ | ⟨i, hi, e, _⟩
  · rw [e, ix_none e]
    show some (tick d, 3) = some ((d.1, (tick d).2), 3)
    rw [← tick_fst d]
  · rw [e, ix_some e]
    have ht : i < (tick d).1.length := by rw [tick_fst]; exact hi
    simp only [dnn (show (0 : Int) ≤ (i : Int) by omega), cond_false, inB_ix hi, inB_ix ht, cond_true, rdA_ix hi, rdA_ix ht, spec_l1In_eq, Option.bind_some, getD_lt hi]
    simp only [tick_fst]
    by_cases c : 0 ≤ n ∧ n ≤ (d.1[i].2.1.length : Int)
    · have c2 : (decide (0 ≤ n) && decide (n ≤ (d.1[i].2.1.length : Int))) = true := by simp [c.1, c.2]
      have hs : ∀ v : FileT, inB (i : Int) (d.1.set i v).length = true := fun v => by rw [List.length_set]; exact inB_ix hi
      simp only [c, c2, decide_true, Bool.not_true, cond_false, cond_true, Int.toNat_natCast, hs, rdA_set hi, List.set_set, if_true, and_self, Bool.and_self]
    · have e5 : (5 : Int) = 5 := rfl
      simp only [c, decide_false, Bool.not_false, cond_true, if_false]
      rw [← tick_fst d]

/-! ### Append -/

def actAppend (cap : Int) (name text : List UInt8) (l : List FileT) : Int × List FileT :=
  match l.findIdx? (fun f => f.1 == name) with
  | some i => if (text.length : Int) > cap - (usedN l : Int) then (2, l) else
      (0, l.set i ((l.getD i ([], [], 0)).1, (l.getD i ([], [], 0)).2.1 ++ text, (l.getD i ([], [], 0)).2.2))
  | none => (3, l)

theorem used_mem {l : List FileT} {f : FileT} (h : f ∈ l) : f.2.1.length ≤ usedN l := sumN_mem (fun f => f.2.1.length) h

theorem diskOk_cap {d : DiskT} (h : diskOk d = true) : 0 ≤ d.2.1 ∧ d.2.1 ≤ 100000 ∧ (usedN d.1 : Int) ≤ d.2.1 := by
  unfold diskOk at h
  simp only [Bool.and_eq_true, decide_eq_true_eq] at h
  omega

theorem tick_cap (d : DiskT) : (tick d).2.1 = d.2.1 := by unfold tick; split <;> rfl

theorem impl_Append_1_eq (d : DiskT) (name text : List UInt8) (h : dlim d) (hc : 0 ≤ d.2.1 ∧ d.2.1 ≤ 100000) (ht : text.length < 1000000000000) : impl_Append_1.f d name text = some ((actAppend d.2.1 name text d.1).1, (actAppend d.2.1 name text d.1).2, d.2) := by
  obtain ⟨h1, h2, h3⟩ := h
  unfold impl_Append_1.f actAppend
  rw [impl_fileAt_eq d name (by omega), Option.bind_some, impl_used_eq d (by omega) (by omega)]
  rcases fileIx_cases d.1 name with ⟨e, _⟩ | ⟨i, hi, e, _⟩
  · rw [e, ix_none e]; rfl
  · rw [e, ix_some e]
    have hm := used_mem (List.getElem_mem hi)
    have c1 : d.1[i].2.1.length + text.length ≤ 9223372036854775807 := by omega
    simp only [dnn (show (0 : Int) ≤ (i : Int) by omega), cond_false, Option.bind_some, inB_ix hi, cond_true, rdA_ix hi, getD_lt hi, c1, decide_true, Int.toNat_natCast]
    rw [w64_id (by omega) (by omega)]
    by_cases c : (text.length : Int) > d.2.1 - (usedN d.1 : Int)
    · simp [c]
    · simp [c]

theorem impl_Append_eq (d : DiskT) (name text : List UInt8) (h : dlim d) (ht : text.length < 1000000000000) : impl_Append.f d name text = some (dstep d (actAppend d.2.1 name text)) := by
  have hs : impl_step_Append_1.f d (name, text) = some (dstep d (actAppend d.2.1 name text)) := step_eq d h (name, text) (fun c x => impl_Append_1.f x c.1 c.2) (actAppend d.2.1 name text) fun k => by
    have hc := diskOk_cap k
    show impl_Append_1.f (tick d) name text = _
    rw [impl_Append_1_eq (tick d) name text (dlim_tick h) (by rw [tick_cap]; omega) ht, tick_fst, tick_cap]
  unfold impl_Append.f
  rw [hs]; rfl

theorem spec_Append_eq (d : DiskT) (name text : List UInt8) (h : dlim d) (htx : text.length < 1000000000000) : spec_Append.f d name text = some (dstep d (actAppend d.2.1 name text)) := by
  have h1 := h.1
  have h2 := h.2.1
  unfold spec_Append.f
  rcases begin_ways d h with ⟨x, c, e1, e2, e3⟩ | ⟨k, e1, e3⟩
  · rw [e1, e3, Option.bind_some]; simp only [e2, cond_true]
  rw [e1, e3, Option.bind_some]
  have hc := diskOk_cap k
  simp only [bne_self_eq_false, cond_false, spec_l3Find_eq d name (show d.1.length < 2 ^ 62 by omega), Option.bind_some, spec_l3Used_eq d (show d.1.length < 2 ^ 62 by omega) (show usedN d.1 < 2 ^ 62 by omega)]
  unfold actAppend
  rcases fileIx_cases d.1 name with ⟨e, _⟩ | ⟨i, hi, e, _⟩
  · rw [e, ix_none e]
    show some (tick d, 3) = some ((d.1, (tick d).2), 3)
    rw [← tick_fst d]
  · rw [e, ix_some e]
    have ht : i < (tick d).1.length := by rw [tick_fst]; exact hi
    have hm := used_mem (List.getElem_mem hi)
    have c1 : d.1[i].2.1.length + text.length ≤ 9223372036854775807 := by omega
    simp only [dnn (show (0 : Int) ≤ (i : Int) by omega), cond_false, inB_ix hi, inB_ix ht, cond_true, rdA_ix hi, rdA_ix ht, getD_lt hi, c1, decide_true, Int.toNat_natCast]
    rw [w64_id (by omega) (by omega)]
    simp only [tick_fst]
    by_cases c : (text.length : Int) > d.2.1 - (usedN d.1 : Int)
    · simp only [c, decide_true, cond_true, if_true]
      rw [← tick_fst d]
    · simp only [c, decide_false, cond_false, if_false]

/-! ### putting a file in its place -/

def putF (l : List FileT) (f : FileT) : List FileT :=
  let k := (l.takeWhile fun x => Op.bytesLess x.1 f.1).length
  l.take k ++ [f] ++ l.drop k

theorem impl_Disk_put_eq (d : DiskT) (f : FileT) (h : d.1.length < 1000000000) : impl_Disk_put.f d f = some (putF d.1 f, d.2) := by
  have key := lp_up (step := impl_Disk_put.l0) (fun n (_ : Unit) => (d, f, (n : Int))) d.1.length (fun n _ => (d, f, ((n + ((d.1.drop n).takeWhile fun x => Op.bytesLess x.1 f.1).length : Nat) : Int))) (fun _ _ => True)
    (fun rec n s hn _ ih => by
      rcases Nat.lt_or_ge n d.1.length with h2 | h2
      · rw [takeWhile_drop _ _ _ h2]
        simp only [impl_Disk_put.l0, Int.ofNat_lt, h2, decide_true, cond_true, inB_nat, rdA_nat, getD_lt h2, w64_succ (show n + 1 < 9223372036854775808 by omega)]
        cases Op.bytesLess d.1[n].1 f.1
        · simp
        · simp only [cond_true, if_true]
          rw [ih () h2 trivial]
          congr 3; congr 1; omega
      · have : n = d.1.length := by omega
        subst this
        simp [impl_Disk_put.l0])
    (by omega) 0 () (Nat.zero_le _) trivial
  have key : lp impl_Disk_put.l0 (d, f, 0) = _ := key
  unfold impl_Disk_put.f putF
  rw [key, Option.bind_some]
  simp only [List.drop_zero, Nat.zero_add]
  have htw : (d.1.takeWhile fun x => Op.bytesLess x.1 f.1).length ≤ d.1.length := (List.takeWhile_sublist _).length_le
  generalize (d.1.takeWhile fun x => Op.bytesLess x.1 f.1).length = k at *
  have c1 : (decide (0 ≤ (k : Int)) && decide ((k : Int) ≤ (d.1.length : Int))) = true := by simp; omega
  have c2 : (d.1.take k).length * 40 ≤ 140737488355328 := by rw [List.length_take]; omega
  have c3 : ((d.1.take k).length + [f].length) * 40 ≤ 140737488355328 := by rw [List.length_take]; exact lim40 (by omega)
  have c4 : ((d.1.take k ++ [f]).length + (d.1.drop k).length) * 40 ≤ 140737488355328 := by
    rw [List.length_append, List.length_take, List.length_drop]
    show (min k d.1.length + 1 + (d.1.length - k)) * 40 ≤ _
    omega
  simp only [Int.toNat_natCast, List.nil_append, List.length_nil, Nat.zero_add, c1]
  simp only [c2, c3, c4, decide_true, cond_true]

def insStep (f : FileT) (s : List FileT × Bool) (x : FileT) : List FileT × Bool :=
  if s.2 = false ∧ leK x.1 f.1 = false then (s.1 ++ [f] ++ [x], true) else (s.1 ++ [x], s.2)

theorem insStep_len (f : FileT) (s : List FileT × Bool) (x : FileT) : (insStep f s x).1.length ≤ s.1.length + 2 := by
  unfold insStep; split <;> simp <;> omega

theorem ins_true (f : FileT) : ∀ (l out : List FileT), l.foldl (insStep f) (out, true) = (out ++ l, true)
  | [], out => by simp
  | x :: l, out => by
    have e1 : insStep f (out, true) x = (out ++ [x], true) := by unfold insStep; rw [if_neg (by simp)]
    rw [List.foldl_cons, e1, ins_true f l]; simp

theorem ins_false (f : FileT) : ∀ (l out : List FileT), (let s := l.foldl (insStep f) (out, false); if s.2 = true then s.1 else s.1 ++ [f]) = out ++ insB l f
  | [], out => by simp [insB]
  | x :: l, out => by
    rw [List.foldl_cons]
    cases hk : leK x.1 f.1
    · have e1 : insStep f (out, false) x = (out ++ [f] ++ [x], true) := by unfold insStep; rw [if_pos ⟨rfl, hk⟩]
      rw [e1, ins_true]
      simp [insB, hk]
    · have e1 : insStep f (out, false) x = (out ++ [x], false) := by unfold insStep; rw [if_neg (by simp [hk])]
      rw [e1, ins_false f l (out ++ [x])]
      simp [insB, hk]

theorem spec_l3Insert_eq (l : List FileT) (f : FileT) (hl : l.length < 1000000000) : spec_l3Insert.f l f = some (insB l f) := by
  have hk := fold_loop (step := spec_l3Insert.l0) l (insStep f) (fun n (s : List FileT × Bool) => (l, f, s.1, s.2, (n : Int))) (fun s => (f, s.1, s.2)) (fun n s => s.1.length ≤ 2 * n) (by omega)
    (fun rec n s h hi => by
      have hi : s.1.length ≤ 2 * n := hi
      have hq : s.1.length < 1000000000000 := by omega
      have hb1 : (s.1.length + [f].length) * 40 ≤ 140737488355328 := lim40 (Nat.lt_succ_of_lt hq)
      have hb2 : (s.1.length + ([l[n]] : List FileT).length) * 40 ≤ 140737488355328 := lim40 (Nat.lt_succ_of_lt hq)
      have hb3 : ((s.1 ++ [f]).length + ([l[n]] : List FileT).length) * 40 ≤ 140737488355328 := by rw [List.length_append]; exact lim40 (Nat.succ_lt_succ hq)
      have hw : w64 ((n : Int) + 1) = (n : Int) + 1 := w64_id (by omega) (by omega)
      have hle : (Op.bytesLess l[n].1 f.1 || l[n].1 == f.1) = leK l[n].1 f.1 := rfl
      simp only [spec_l3Insert.l0, Int.ofNat_lt, h, decide_true, cond_true, inB_nat, rdA_nat, getD_lt h, pair_eta, hle]
      unfold insStep
      rcases Bool.eq_false_or_eq_true s.2 with h2 | h2
      · simp only [h2, cond_false, Bool.not_true, Option.bind_some, inB_nat, rdA_nat, getD_lt h, pair_eta, h, decide_true, cond_true, hb2]
        simp [hw]
      · rcases Bool.eq_false_or_eq_true (leK l[n].1 f.1) with h3 | h3
        · simp only [h2, h3, cond_false, Bool.not_true, Bool.not_false, Option.bind_some, inB_nat, rdA_nat, getD_lt h, pair_eta, h, decide_true, cond_true, hb2]
          simp [hw]
        · simp only [h2, h3, cond_false, Bool.not_true, Bool.not_false, Option.bind_some, inB_nat, rdA_nat, getD_lt h, pair_eta, h, decide_true, cond_true, hb1, hb3]
          simp [hw])
    (fun n s h hi => by have := insStep_len f s l[n]; have hi : s.1.length ≤ 2 * n := hi; show _ ≤ 2 * (n + 1); omega)
    (fun rec s hi => by simp [spec_l3Insert.l0]) ([], false) (by simp)
  have hk : lp spec_l3Insert.l0 (l, f, [], false, 0) = _ := hk
  have hlen : ∀ (m : List FileT) (s : List FileT × Bool), (m.foldl (insStep f) s).1.length ≤ s.1.length + 2 * m.length := by
    intro m
    induction m with
    | nil => intro s; simp
    | cons x m ih => intro s; rw [List.foldl_cons]; have := ih (insStep f s x); have := insStep_len f s x; simp only [List.length_cons]; omega
  unfold spec_l3Insert.f
  rw [hk, Option.bind_some]
  have hf := ins_false f l []
  have hb := hlen l ([], false)
  generalize l.foldl (insStep f) ([], false) = s at *
  obtain ⟨s1, s2⟩ := s
  simp only [List.length_nil, Nat.zero_add] at hb
  have hb1 : (s1.length + [f].length) * 40 ≤ 140737488355328 := lim40 (by omega)
  cases s2
  · simp only [Bool.false_eq_true, if_false, List.nil_append] at hf
    simp only [Bool.not_false, cond_true, hb1, decide_true, hf]
  · simp only [if_true, List.nil_append] at hf
    simp [hf]

theorem takeWhile_congr {α : Type} {f g : α → Bool} : ∀ {l : List α}, (∀ x ∈ l, f x = g x) → l.takeWhile f = l.takeWhile g
  | [], _ => rfl
  | x :: l, h => by
    rw [List.takeWhile_cons, List.takeWhile_cons, h x (by simp), takeWhile_congr fun y hy => h y (List.mem_cons_of_mem _ hy)]

/-- Where no file has the name both places are one. -/
theorem putF_ins {l : List FileT} {f : FileT} (h : ∀ x ∈ l, x.1 ≠ f.1) : putF l f = insB l f := by
  unfold putF insB
  have : (l.takeWhile fun x => Op.bytesLess x.1 f.1) = l.takeWhile fun x => leK x.1 f.1 := takeWhile_congr fun x hx => by
    unfold leK
    have : (x.1 == f.1) = false := by simpa using h x hx
    rw [this, Bool.or_false]
  rw [this]

/-! ### Create -/

def actCreate (name : List UInt8) (l : List FileT) : Int × List FileT :=
  if nameOk name = false then (5, l) else if fileIx l name ≥ 0 then (4, l) else if 130 ≤ l.length then (2, l) else (0, insB l (name, [], 0))

theorem impl_Create_1_eq (d : DiskT) (name : List UInt8) (h : d.1.length < 1000000000) (hn : name.length < 2 ^ 62) : impl_Create_1.f d name = some ((actCreate name d.1).1, (actCreate name d.1).2, d.2) := by
  unfold impl_Create_1.f actCreate
  rw [impl_NameOk_eq name hn, Option.bind_some, impl_fileAt_eq d name (by omega)]
  rcases Bool.eq_false_or_eq_true (nameOk name) with k | k
  rotate_left
  · simp [k]
  simp only [k, Bool.not_true, cond_false, Option.bind_some, Bool.true_eq_false, if_false]
  rcases fileIx_cases d.1 name with ⟨e, hno⟩ | ⟨i, hi, e, _⟩
  · have c : ¬ fileIx d.1 name ≥ 0 := by omega
    simp only [c, decide_false, cond_false, if_false]
    by_cases c2 : 130 ≤ d.1.length
    · have c3 : (d.1.length : Int) ≥ 130 := by omega
      simp [c2, c3]
    · have c3 : ¬ (d.1.length : Int) ≥ 130 := by omega
      simp only [c2, c3, decide_false, cond_false, if_false, impl_Disk_put_eq d _ h, Option.bind_some, putF_ins (l := d.1) (f := (name, [], 0)) hno]
  · have c : fileIx d.1 name ≥ 0 := by omega
    simp [c]

theorem impl_Create_eq (d : DiskT) (name : List UInt8) (h : dlim d) (hn : name.length < 2 ^ 62) : impl_Create.f d name = some (dstep d (actCreate name)) := by
  have hs : impl_step_Create_1.f d name = some (dstep d (actCreate name)) := step_eq d h name (fun n x => impl_Create_1.f x n) (actCreate name) fun _ => by
    show impl_Create_1.f (tick d) name = _
    rw [impl_Create_1_eq (tick d) name (by rw [tick_fst]; exact h.1) hn, tick_fst]
  unfold impl_Create.f
  rw [hs]; rfl

theorem spec_Create_eq (d : DiskT) (name : List UInt8) (h : dlim d) (hn : name.length < 2 ^ 62) : spec_Create.f d name = some (dstep d (actCreate name)) := by
  have hl := h.1
  unfold spec_Create.f
  rcases begin_ways d h with ⟨x, c, e1, e2, e3⟩ | ⟨k, e1, e3⟩
  · rw [e1, e3, Option.bind_some]; simp only [e2, cond_true]
  rw [e1, e3, Option.bind_some]
  simp only [bne_self_eq_false, cond_false, spec_NameOk_eq name hn, spec_l3Find_eq d name (show d.1.length < 2 ^ 62 by omega), Option.bind_some]
  unfold actCreate
  have ht : (d.1, (tick d).2) = tick d := by rw [← tick_fst d]
  rcases Bool.eq_false_or_eq_true (nameOk name) with k | k
  rotate_left
  · simp [k, ht]
  simp only [k, Bool.not_true, cond_false, Bool.true_eq_false, if_false]
  by_cases c : fileIx d.1 name ≥ 0
  · simp [c, ht]
  simp only [c, decide_false, cond_false, if_false]
  by_cases c2 : 130 ≤ d.1.length
  · have c3 : (d.1.length : Int) ≥ 130 := by omega
    simp [c2, c3, ht]
  · have c3 : ¬ (d.1.length : Int) ≥ 130 := by omega
    simp only [c2, c3, decide_false, cond_false, if_false, tick_fst, spec_l3Insert_eq d.1 _ hl, Option.bind_some]
end Go.Rf.G
