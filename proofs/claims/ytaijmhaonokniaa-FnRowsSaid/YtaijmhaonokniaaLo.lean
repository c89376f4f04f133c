/- Plain: what a session notes of what it reads; drawn sessions. -/
import Derived.Test.YtaijmhaonokniaaLn
namespace Go.Rf.G
open Go Go.Rf
set_option linter.unusedVariables false
set_option linter.unusedSimpArgs false
set_option synthInstance.maxSize 4000

abbrev ReadT := List UInt8 × Int

def readS (t : TxnT) (key : List UInt8) (b : Int) : TxnT × Int :=
  if t.1 = false ∨ keyOk key = false then (t, 4) else
  match t.2.1.find? (fun r => r.1 == key) with
  | some r => if r.2 = b then (t, 0) else (t, 7)
  | none => if 20 ≤ t.2.1.length then (t, 5) else ((t.1, t.2.1 ++ [(key, b)], t.2.2), 0)

def readI (t : TxnT) (key : List UInt8) (b : Int) : TxnT × Int :=
  if t.1 = false ∨ keyOk key = false then (t, 4) else
  if t.2.1.any (fun r => r.1 == key && !(r.2 == b)) = true then (t, 7) else
  if t.2.1.any (fun r => r.1 == key) = true then (t, 0) else
  if 20 ≤ t.2.1.length then (t, 5) else ((t.1, t.2.1 ++ [(key, b)], t.2.2), 0)

theorem lim24 {a : Nat} (h : a < 1000000000001) : (a + 1) * 24 ≤ 140737488355328 := by omega

theorem spec_TxnRead_eq (t : TxnT) (key : List UInt8) (b : Int) (h1 : t.2.1.length < 1000000000) (h2 : t.2.2.length < 1000000000) : spec_TxnRead.f t key b = some (readS t key b) := by
  unfold spec_TxnRead.f readS
  rw [spec_l15Copy_eq t (by omega) (by omega), Option.bind_some]
  rcases Bool.eq_false_or_eq_true t.1 with k | k
  rotate_left
  · simp [k]
  simp only [k, Bool.not_true, cond_false, spec_KeyOk_eq, Option.bind_some]
  rcases Bool.eq_false_or_eq_true (keyOk key) with k2 | k2
  rotate_left
  · simp [k2]
  have key' := find_loop (step := spec_TxnRead.l0) t.2.1 (fun r => r.1 == key) (fun r => (t, if r.2 = b then (0 : Int) else 7)) (fun n => (key, b, t, ((false, [], []) : TxnT), t, (n : Int))) (key, b, t, (false, [], []), t) (by omega)
    (fun rec n h => by
      simp only [spec_TxnRead.l0, Int.ofNat_lt, h, decide_true, cond_true, inB_nat, rdA_nat, getD_lt h, w64_succ (show n + 1 < 9223372036854775808 by omega)]
      rcases Bool.eq_false_or_eq_true (t.2.1[n].1 == key) with c | c
      · by_cases c2 : t.2.1[n].2 = b
        · have c3 : (t.2.1[n].2 != b) = false := by simpa using c2
          simp only [c, c3, cond_true, cond_false, if_true]
          rw [if_pos c2]
        · have c3 : (t.2.1[n].2 != b) = true := by simpa using c2
          simp only [c, c2, c3, cond_true, if_true, if_false]
      · simp only [c, cond_false, Bool.false_eq_true, if_false])
    (fun rec => by simp [spec_TxnRead.l0])
  have key' : lp spec_TxnRead.l0 (key, b, t, (false, [], []), t, 0) = _ := key'
  simp only [k2, Bool.not_true, cond_false, key', Option.bind_some, Bool.true_eq_false, or_self, if_false]
  cases t.2.1.find? (fun r => r.1 == key) with
  | some r =>
    simp only [caseS_r]
    split <;> rfl
  | none =>
    simp only [caseS_l]
    by_cases c : 20 ≤ t.2.1.length
    · have c2 : (t.2.1.length : Int) ≥ 20 := by omega
      simp only [c, c2, decide_true, cond_true, if_true]
    · have c2 : ¬ (t.2.1.length : Int) ≥ 20 := by omega
      have hb : (t.2.1.length + ([(key, b)] : List ReadT).length) * 24 ≤ 140737488355328 := lim24 (by omega)
      have hb : decide ((t.2.1.length + ([(key, b)] : List ReadT).length) * 24 ≤ 140737488355328) = true := decide_eq_true hb
      simp only [c, c2, decide_false, cond_false, if_false, hb, cond_true, k]

theorem impl_TxnRead_eq (t : TxnT) (key : List UInt8) (b : Int) (h1 : t.2.1.length < 1000000000) (h2 : t.2.2.length < 1000000000) : impl_TxnRead.f t key b = some (readI t key b) := by
  unfold impl_TxnRead.f readI
  rw [impl_copyTxn_eq t (by omega) (by omega), Option.bind_some]
  rcases Bool.eq_false_or_eq_true t.1 with k | k
  rotate_left
  · simp [k]
  simp only [k, Bool.not_true, cond_false, impl_KeyOk_eq, Option.bind_some]
  rcases Bool.eq_false_or_eq_true (keyOk key) with k2 | k2
  rotate_left
  · simp [k2]
  have key' := lp_up (step := impl_TxnRead.l0) (fun n (f : Bool) => (key, b, t, ((false, [], []) : TxnT), t, f, t.2.1, (t.2.1.length : Int), (n : Int))) t.2.1.length
    (fun n f => if (t.2.1.drop n).any (fun r => r.1 == key && !(r.2 == b)) = true then .inr (t, 7) else .inl (key, b, t, (false, [], []), t, f || (t.2.1.drop n).any (fun r => r.1 == key))) (fun _ _ => True)
    (fun rec n f hn _ ih => by
      rcases Nat.lt_or_ge n t.2.1.length with h | h
      · have hw := w64_succ (show n + 1 < 9223372036854775808 by omega)
        rw [List.drop_eq_getElem_cons h, List.any_cons, List.any_cons]
        simp only [impl_TxnRead.l0, Int.ofNat_lt, h, decide_true, cond_true, inB_nat, rdA_nat, getD_lt h, w64_succ (show n + 1 < 9223372036854775808 by omega)]
        rcases Bool.eq_false_or_eq_true (t.2.1[n].1 == key) with c | c
        · by_cases c2 : t.2.1[n].2 = b
          · have c3 : (t.2.1[n].2 != b) = false := by simpa using c2
            have c4 : (t.2.1[n].2 == b) = true := by simpa using c2
            simp only [c, c3, c4, Bool.not_true, cond_true, cond_false, Option.bind_some, caseS_l, hw, ih true h trivial, Bool.and_false, Bool.false_or, Bool.true_or, Bool.or_true]
          · have c3 : (t.2.1[n].2 != b) = true := by simpa using c2
            have c4 : (t.2.1[n].2 == b) = false := by simpa using c2
            simp only [c, c3, c4, Bool.not_true, Bool.not_false, cond_true, cond_false, Option.bind_some, caseS_r, Bool.and_true, Bool.true_or, if_true]
        · simp only [c, Bool.not_false, cond_true, Option.bind_some, caseS_l, hw, ih f h trivial, Bool.false_and, Bool.false_or]
      · have : n = t.2.1.length := by omega
        subst this
        simp [impl_TxnRead.l0])
    (by omega) 0 false (Nat.zero_le _) trivial
  have key' : lp impl_TxnRead.l0 (key, b, t, (false, [], []), t, false, t.2.1, (t.2.1.length : Int), 0) = _ := key'
  simp only [k2, Bool.not_true, cond_false, key', Option.bind_some, Bool.true_eq_false, or_self, if_false, List.drop_zero, Bool.false_or]
  cases t.2.1.any (fun r => r.1 == key && !(r.2 == b))
  rotate_left
  · simp only [if_true, caseS_r]
  simp only [Bool.false_eq_true, if_false, caseS_l]
  cases t.2.1.any (fun r => r.1 == key)
  rotate_left
  · simp only [if_true, cond_true]
  simp only [Bool.false_eq_true, if_false, cond_false]
  by_cases c : 20 ≤ t.2.1.length
  · have c2 : (t.2.1.length : Int) ≥ 20 := by omega
    simp only [c, c2, decide_true, cond_true, if_true]
  · have c2 : ¬ (t.2.1.length : Int) ≥ 20 := by omega
    have hb : (t.2.1.length + ([(key, b)] : List ReadT).length) * 24 ≤ 140737488355328 := lim24 (by omega)
    have hb : decide ((t.2.1.length + ([(key, b)] : List ReadT).length) * 24 ≤ 140737488355328) = true := decide_eq_true hb
    simp only [c, c2, decide_false, cond_false, if_false, hb, cond_true, k]

/-! ### sessions that are drawn -/

/-- What a session of the program's own is: no key is noted twice; what it wrote is little. -/
structure TxnOk (t : TxnT) : Prop where
  keys : t.2.1.Pairwise (fun a b => a.1 ≠ b.1)
  reads : t.2.1.length ≤ 20
  writes : t.2.2.length ≤ 50
  net : (netW t.2.2).length ≤ 8

theorem readS_ok {t : TxnT} (h : TxnOk t) (key : List UInt8) (b : Int) : TxnOk (readS t key b).1 := by
  unfold readS
  split
  · exact h
  split
  · split <;> exact h
  · rename_i hf
    split
    · exact h
    · refine ⟨?_, ?_, h.writes, h.net⟩
      · show (t.2.1 ++ [(key, b)]).Pairwise _
        rw [List.pairwise_append]
        refine ⟨h.keys, by simp, fun x hx y hy => ?_⟩
        rw [List.mem_singleton.1 hy]
        have := List.find?_eq_none.1 hf x hx
        simpa using this
      · show (t.2.1 ++ [(key, b)]).length ≤ 20
        rw [List.length_append]; show _ + 1 ≤ 20; omega

theorem txnWrite_ok {t : TxnT} (h : TxnOk t) (p : PutT) : TxnOk (txnWrite t p).1 := by
  unfold txnWrite
  split
  · rename_i c
    refine ⟨h.keys, h.reads, ?_, c.2.2.1⟩
    show (t.2.2 ++ [p]).length ≤ 50
    rw [List.length_append]; show _ + 1 ≤ 50; omega
  · exact h

theorem same_reads {t : TxnT} (h : TxnOk t) (key : List UInt8) (b : Int) : readI t key b = readS t key b := by
  unfold readI readS
  split
  · rfl
  have hk := h.keys
  generalize t.2.1 = l at *
  cases hf : l.find? (fun r => r.1 == key) with
  | none =>
    have hn := List.find?_eq_none.1 hf
    have a1 : l.any (fun r => r.1 == key && !(r.2 == b)) = false := by
      rw [List.any_eq_false]; intro x hx; simp [hn x hx]
    have a2 : l.any (fun r => r.1 == key) = false := by
      rw [List.any_eq_false]; exact hn
    simp only [a1, a2, Bool.false_eq_true, if_false]
  | some r =>
    have hr := List.mem_of_find?_eq_some hf
    have hr2 : r.1 = key := by simpa using List.find?_some hf
    have a2 : l.any (fun r => r.1 == key) = true := by
      rw [List.any_eq_true]; exact ⟨r, hr, by simpa using hr2⟩
    have only : ∀ x ∈ l, x.1 = key → x = r := by
      intro x hx e
      rcases List.pairwise_iff_getElem.1 hk with hp
      obtain ⟨i, hi, ei⟩ := List.getElem_of_mem hx
      obtain ⟨j, hj, ej⟩ := List.getElem_of_mem hr
      rcases Nat.lt_trichotomy i j with c | c | c
      · exact absurd (by rw [ei, ej, e, hr2]) (hp i j hi hj c)
      · subst c; rw [← ei, ej]
      · exact absurd (by rw [ei, ej, e, hr2]) (hp j i hj hi c)
    by_cases c : r.2 = b
    · have a1 : l.any (fun r => r.1 == key && !(r.2 == b)) = false := by
        rw [List.any_eq_false]
        intro x hx
        by_cases e : x.1 = key
        · rw [only x hx e]; simp [c]
        · simp [e]
      simp only [a1, a2, c, Bool.false_eq_true, if_false, if_true]
    · have a1 : l.any (fun r => r.1 == key && !(r.2 == b)) = true := by
        rw [List.any_eq_true]; exact ⟨r, hr, by simp [hr2, c]⟩
      simp only [a1, c, if_true, if_false]
def PutsD (l : List PutT) : Prop := l.length ≤ 12

theorem down1 {k : Nat} (hk : k < 2 ^ 60) : w64 (((k + 1 : Nat) : Int) - 1) = (k : Int) := by rw [w64_id (by omega) (by omega)]; omega

theorem l12Puts_ok {c : CurT} (h : Cur c) : ∃ l c', spec_l12Puts.f c = some (l, c') ∧ l.length ≤ 3 ∧ (∀ p ∈ l, putOk p = true) ∧ Cur c' := by
  obtain ⟨n, c1, e1, a1, b1, _, h1⟩ := l1Below_ok h 4
  have b1 := b1 (by omega)
  obtain ⟨m, rfl⟩ : ∃ m : Nat, n = (m : Int) := ⟨n.toNat, by omega⟩
  have key := down_ok (step := spec_l12Puts.l0) (fun k (s : CurT × List PutT) => (s.1, s.2, (k : Int))) (fun k s => Cur s.1 ∧ s.2.length + k = m ∧ ∀ p ∈ s.2, putOk p = true) (fun b => Cur b.1 ∧ b.2.length = m ∧ ∀ p ∈ b.2, putOk p = true)
    (fun rec s hi => ⟨_, by simp [spec_l12Puts.l0], hi.1, by simpa using hi.2.1, hi.2.2⟩)
    (fun rec k s hi => by
      obtain ⟨hi1, hi2, hi3⟩ := hi
      obtain ⟨ky, c2, f1, g1, h2⟩ := l5Key_ok hi1
      obtain ⟨v, c3, f2, g2, h3⟩ := l1Text_ok h2 16 (by omega) (by omega)
      obtain ⟨o, c4, f3, h4⟩ := l1Once_ok h3 4
      have e0 : ((k + 1 : Nat) : Int) > 0 := by omega
      have hw := down1 (show k < 2 ^ 60 by omega)
      have hb : ∀ v : PutT, (s.2.length + [v].length) * 40 ≤ 140737488355328 := fun v => lim40 (by omega)
      cases o <;> simp only [spec_l12Puts.l0, e0, decide_true, cond_true, cond_false, f1, f2, f3, Option.bind_some, hb, hw]
      · exact ⟨(c4, s.2 ++ [(ky, false, v)]), ⟨h4, by simp only [List.length_append, List.length_singleton]; omega, fun p hp => by
          rcases List.mem_append.1 hp with hp | hp
          · exact hi3 p hp
          · rw [List.mem_singleton.1 hp]; unfold putOk; simp [g1]; omega⟩, rfl⟩
      · exact ⟨(c4, s.2 ++ [(ky, true, [])]), ⟨h4, by simp only [List.length_append, List.length_singleton]; omega, fun p hp => by
          rcases List.mem_append.1 hp with hp | hp
          · exact hi3 p hp
          · rw [List.mem_singleton.1 hp]; unfold putOk; simp [g1]⟩, rfl⟩)
    m (c1, []) ⟨h1, by simp, by simp⟩ (by omega)
  obtain ⟨⟨c5, l⟩, e5, h5, hl, hp⟩ := key
  have e5 : lp spec_l12Puts.l0 (c1, [], (m : Int)) = some (c5, l) := e5
  unfold spec_l12Puts.f
  simp only [e1, Option.bind_some, e5]
  refine ⟨_, _, rfl, ?_, hp, h5⟩
  simp only at hl; omega

theorem spec_Dec_ok (n : Nat) (hn : n < 1000000000) : ∃ s, spec_Dec.f (n : Int) = some s ∧ s.length ≤ n + 1 := by
  unfold spec_Dec.f
  by_cases c : n = 0
  · subst c
    exact ⟨[48], rfl, by simp⟩
  have c1 : ((n : Int) == 0) = false := by simpa using c
  have c2 : decide ((n : Int) < 0) = false := dnn (by omega)
  have key := lp_ok (step := spec_Dec.l0) (a := ((n : Int), ([] : List UInt8), false)) (fun a => ∃ m : Nat, a.1 = (m : Int) ∧ a.2.2 = false ∧ a.2.1.length + m ≤ n) (fun a => a.1.toNat) (fun b => b.2 = false ∧ b.1.length ≤ n)
    (fun rec a ha => by
      obtain ⟨x, s, f⟩ := a
      obtain ⟨m, rfl, hf, hl⟩ := ha
      simp only at hf hl
      subst hf
      by_cases d : m = 0
      · left
        subst d
        exact ⟨(s, false), by simp [spec_Dec.l0], rfl, by simpa using hl⟩
      · right
        have d1 : ((m : Int) != 0) = true := by simpa using d
        have e1 : Int.tmod (m : Int) 10 = ((m % 10 : Nat) : Int) := rfl
        have e2 : w64 (Int.tdiv (m : Int) 10) = ((m / 10 : Nat) : Int) := by
          rw [show Int.tdiv (m : Int) 10 = ((m / 10 : Nat) : Int) from rfl]; exact w64_nat (by omega)
        have e3 : decide (((m % 10 : Nat) : Int) < 0) = false := dnn (by omega)
        refine ⟨(((m / 10 : Nat) : Int), strOf [IntKind.wrap .u8 (w64 (48 + ((m % 10 : Nat) : Int)))] ++ s, false), ⟨m / 10, rfl, rfl, ?_⟩, ?_, ?_⟩
        · simp only [List.length_append, strOf, List.length_map, List.length_singleton]; omega
        · simp only [Int.toNat_natCast]; omega
        · have hb : (strOf [IntKind.wrap .u8 (w64 (48 + ((m % 10 : Nat) : Int)))]).length + s.length ≤ 9223372036854775807 := by
            simp only [strOf, List.length_map, List.length_singleton]; omega
          simp only [spec_Dec.l0, d1, cond_true, e1, e2, e3, cond_false, Option.bind_some, hb, decide_true])
    ⟨n, rfl, rfl, by simp⟩ (by simp only [Int.toNat_natCast]; omega)
  obtain ⟨⟨s, f⟩, e, hf, hl⟩ := key
  simp only at hf hl
  subst hf
  simp only [c1, c2, cond_false, e, Option.bind_some]
  exact ⟨_, rfl, by omega⟩

theorem l12AnyPuts_ok {c : CurT} (h : Cur c) : ∃ l c', spec_l12AnyPuts.f c = some (l, c') ∧ l.length ≤ 12 ∧ Cur c' := by
  obtain ⟨l, c1, e1, hl, _, h1⟩ := l12Puts_ok h
  obtain ⟨x, c2, e2, _, _, _, h2⟩ := l1Below_ok h1 14
  unfold spec_l12AnyPuts.f
  simp only [e1, e2, Option.bind_some]
  have hb : ∀ {α : Type} (v : α), (l.length + [v].length) * 40 ≤ 140737488355328 := fun v => lim40 (by omega)
  cases d0 : (x == 0)
  rotate_left
  · obtain ⟨p, c3, e3, _, h3⟩ := l1Pick_ok h2 ([[], [110, 105, 110, 101, 98, 121, 116, 101, 115]] : List (List UInt8)) (by decide)
    simp only [cond_true, e3, Option.bind_some, hb, decide_true]
    exact ⟨_, _, rfl, by simp only [List.length_append, List.length_singleton]; omega, h3⟩
  cases d1 : (x == 1)
  rotate_left
  · simp only [cond_true, cond_false]
    have key := lp_ok (step := spec_l12AnyPuts.l1) (a := (c2, l)) (fun a => Cur a.1 ∧ a.2.length ≤ 9) (fun a => 9 - a.2.length) (fun b => Cur b.1 ∧ b.2.length ≤ 9)
      (fun rec a ha => by
        obtain ⟨c3, l3⟩ := a
        obtain ⟨h3, hl3⟩ := ha
        simp only at h3 hl3
        obtain ⟨y, c4, e4, a4, b4, _, h4⟩ := l1Below_ok h3 2
        have b4 := b4 (by omega)
        obtain ⟨s, e5, hs⟩ := spec_Dec_ok l3.length (by omega)
        have hw : w64 (8 + y) = 8 + y := w64_id (by omega) (by omega)
        by_cases d : (l3.length : Int) < 8 + y
        · right
          have hb1 : ([107] : List UInt8).length + s.length ≤ 9223372036854775807 := by show 1 + s.length ≤ _; omega
          have hb2 : (l3.length + ([([107] ++ s, false, [])] : List PutT).length) * 40 ≤ 140737488355328 := lim40 (by omega)
          refine ⟨(c4, l3 ++ [([107] ++ s, false, [])]), ⟨h4, by simp only [List.length_append, List.length_singleton]; omega⟩, by simp only [List.length_append, List.length_singleton]; omega, ?_⟩
          simp only [spec_l12AnyPuts.l1, e4, Option.bind_some, hw, d, decide_true, cond_true, e5, hb1, hb2]
        · left
          refine ⟨(c4, l3), ?_, h4, hl3⟩
          simp only [spec_l12AnyPuts.l1, e4, Option.bind_some, hw, d, decide_false, cond_false])
      ⟨h2, by simp only; omega⟩ (by simp only; omega)
    obtain ⟨⟨c3, l3⟩, e3, h3, hl3⟩ := key
    simp only [e3, Option.bind_some]
    exact ⟨_, _, rfl, by simp only at hl3; omega, h3⟩
  cases d2 : (x == 2)
  · simp only [cond_false]
    exact ⟨_, _, rfl, by omega, h2⟩
  · simp only [cond_false, cond_true, hb, decide_true]
    exact ⟨_, _, rfl, by simp only [List.length_append, List.length_singleton]; omega, h2⟩

theorem l15Txn_ok {c : CurT} (h : Cur c) : ∃ t c', spec_l15Txn.f c = some (t, c') ∧ TxnOk t ∧ Cur c' := by
  obtain ⟨o, c1, e1, h1⟩ := l1Once_ok h 12
  obtain ⟨n, c2, e2, a2, b2, _, h2⟩ := l1Below_ok h1 8
  have b2 := b2 (by omega)
  obtain ⟨m, rfl⟩ : ∃ m : Nat, n = (m : Int) := ⟨n.toNat, by omega⟩
  have key := down_ok (step := spec_l15Txn.l0) (fun k (s : CurT × TxnT) => (s.1, ((false, [], []) : TxnT), s.2, (k : Int))) (fun k s => Cur s.1 ∧ TxnOk s.2 ∧ k ≤ 8) (fun b => Cur b.1 ∧ TxnOk b.2.2)
    (fun rec s hi => ⟨(s.1, (false, [], []), s.2), by simp [spec_l15Txn.l0], hi.1, hi.2.1⟩)
    (fun rec k s hi => by
      obtain ⟨hi1, hi2, hi3⟩ := hi
      have e0 : ((k + 1 : Nat) : Int) > 0 := by omega
      have hw := down1 (show k < 2 ^ 60 by omega)
      obtain ⟨o, c3, f3, h3⟩ := l1Once_ok hi1 2
      have hr := hi2.reads
      have hwr := hi2.writes
      cases o
      · obtain ⟨l, c4, f4, hl, h4⟩ := l12AnyPuts_ok h3
        have hb : ∀ {α : Type} (v : α), (l.length + [v].length) * 40 ≤ 140737488355328 := fun v => lim40 (by omega)
        have hi0 : inB 0 (l ++ ([([97], false, [118])] : List PutT)).length = true := by simp [inB]
        simp only [spec_l15Txn.l0, e0, decide_true, cond_true, cond_false, f3, f4, Option.bind_some, hb, hi0, pair_eta, spec_TxnWrite_eq s.2 _ (show s.2.2.1.length < 1000000000 by omega) (show s.2.2.2.length < 1000000000 by omega), hw]
        exact ⟨(c4, (txnWrite s.2 _).1), ⟨h4, txnWrite_ok hi2 _, by omega⟩, rfl⟩
      · obtain ⟨ky, c4, f4, _, h4⟩ := l5Key_ok h3
        obtain ⟨y, c5, f5, _, _, _, h5⟩ := l1Below_ok h4 6
        simp only [spec_l15Txn.l0, e0, decide_true, cond_true, f3, f4, f5, Option.bind_some, spec_TxnRead_eq s.2 ky y (show s.2.2.1.length < 1000000000 by omega) (show s.2.2.2.length < 1000000000 by omega), hw]
        exact ⟨(c5, (readS s.2 ky y).1), ⟨h5, readS_ok hi2 _ _, by omega⟩, rfl⟩)
    m (c2, (!o, [], [])) ⟨h2, ⟨List.Pairwise.nil, by simp, by simp, by simp [netW, firsts]⟩, by omega⟩ (by omega)
  obtain ⟨⟨c5, d5, t⟩, e5, h5, ht⟩ := key
  have e5 : lp spec_l15Txn.l0 (c2, (false, [], []), (!o, [], []), (m : Int)) = some (c5, d5, t) := e5
  unfold spec_l15Txn.f
  simp only [e1, e2, Option.bind_some, e5]
  exact ⟨_, _, rfl, ht, h5⟩

theorem DrawNetWrites_ok (l : List Int) (hl : l.length < 2 ^ 60) : ∃ t, spec_DrawNetWrites.f l = some t ∧ TxnOk t := by
  obtain ⟨c, e1, h1⟩ := l1New_ok l hl
  obtain ⟨t, c2, e2, ht, _⟩ := l15Txn_ok h1
  unfold spec_DrawNetWrites.f
  simp only [e1, e2, Option.bind_some]
  exact ⟨_, rfl, ht⟩

theorem DrawTxnRead_ok (l : List Int) (hl : l.length < 2 ^ 60) : ∃ t key b, spec_DrawTxnRead.f l = some (t, key, b) ∧ TxnOk t ∧ 0 ≤ b ∧ b < 6 := by
  obtain ⟨c, e1, h1⟩ := l1New_ok l hl
  obtain ⟨t, c2, e2, ht, h2⟩ := l15Txn_ok h1
  obtain ⟨ky, c3, e3, _, h3⟩ := l5Key_ok h2
  obtain ⟨o, c4, e4, h4⟩ := l1Once_ok h3 12
  obtain ⟨x, c5, e5, a5, b5, _, _⟩ := l1Below_ok h4 6
  have b5 := b5 (by omega)
  unfold spec_DrawTxnRead.f
  cases o
  · simp only [e1, e2, e3, e4, Option.bind_some, cond_false, e5]
    exact ⟨_, _, _, rfl, ht, a5, b5⟩
  · simp only [e1, e2, e3, e4, Option.bind_some, cond_true, e5]
    exact ⟨_, _, _, rfl, ht, a5, b5⟩

theorem big_eq (l : List Int) : laws_big.f l = some (decide ((l.length : Int) > 1048576)) := rfl

theorem FnRows_true (x0 : List Int) (w0 : wfD (.sl false (.int .u8)) x0) : laws_FnRows.f x0 = some true := by
  unfold laws_FnRows.f
  rw [big_eq, Option.bind_some]
  by_cases cb : (x0.length : Int) > 1048576
  · simp [cb]
  simp only [cb, decide_false, cond_false]
  obtain ⟨t, key, b, e, ht, hb0, hb1⟩ := DrawTxnRead_ok x0 (by omega)
  have hr := ht.reads
  have hw := ht.writes
  have h2 := readS_ok ht key b
  simp only [e, Option.bind_some, impl_TxnRead_eq t key b (by omega) (by omega), spec_TxnRead_eq t key b (by omega) (by omega), same_reads ht key b, bne_self_eq_false, cond_false]
  have hw1 : w64 (b + 1) = b + 1 := w64_id (by omega) (by omega)
  have hr2 := h2.reads
  have hw2 := h2.writes
  simp only [hw1, impl_TxnRead_eq (readS t key b).1 key b (by omega) (by omega), impl_TxnRead_eq (readS t key b).1 key (b + 1) (by omega) (by omega), same_reads h2 key b, same_reads h2 key (b + 1), Option.bind_some]
  by_cases c : t.1 = false ∨ keyOk key = false
  · have e1 : readS t key b = (t, 4) := by unfold readS; rw [if_pos c]
    simp [e1]
  cases hf : t.2.1.find? (fun r => r.1 == key) with
  | some r =>
    by_cases c2 : r.2 = b
    · have e1 : readS t key b = (t, 0) := by unfold readS; simp only [c, if_false, hf, c2, if_true]
      have e2 : readS t key (b + 1) = (t, 7) := by
        have : ¬ r.2 = b + 1 := by omega
        unfold readS; simp only [c, if_false, hf, this]
      simp [e1, e2]
    · have e1 : readS t key b = (t, 7) := by unfold readS; simp only [c, if_false, hf, c2]
      simp [e1]
  | none =>
    by_cases c2 : 20 ≤ t.2.1.length
    · have e1 : readS t key b = (t, 5) := by unfold readS; simp only [c, if_false, hf, c2, if_true]
      simp [e1]
    · have e1 : readS t key b = ((t.1, t.2.1 ++ [(key, b)], t.2.2), 0) := by unfold readS; simp only [c, if_false, hf, c2]
      have hf2 : (t.2.1 ++ [(key, b)]).find? (fun r => r.1 == key) = some (key, b) := by
        rw [List.find?_append, hf]; simp
      have e2 : readS (t.1, t.2.1 ++ [(key, b)], t.2.2) key b = ((t.1, t.2.1 ++ [(key, b)], t.2.2), 0) := by
        unfold readS; simp only [c, if_false, hf2, if_true]
      have e3 : readS (t.1, t.2.1 ++ [(key, b)], t.2.2) key (b + 1) = ((t.1, t.2.1 ++ [(key, b)], t.2.2), 7) := by
        have : ¬ b = b + 1 := by omega
        unfold readS; simp only [c, if_false, hf2, this]
      simp [e1, e2, e3]
end Go.Rf.G
