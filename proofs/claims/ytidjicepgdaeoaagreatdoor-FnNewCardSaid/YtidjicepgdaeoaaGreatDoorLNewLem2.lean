/- Plain laws: what the plain functions answer. -/
import Derived.Test.YtidjicepgdaeoaaGreatDoorLNewLem1
namespace Go.Rf.G
open Go Go.Rf
set_option linter.unusedVariables false
set_option linter.unusedSimpArgs false
set_option synthInstance.maxSize 4000

/-- The record at a place. -/
noncomputable def recAt (s : List UInt8) (a n : Int) : RecT × Bool :=
  if 0 ≤ a ∧ a ≤ (s.length : Int) ∧ 1 ≤ n ∧ n ≤ (s.length : Int) - a then
    (if (unframe ((s.take (a + n).toNat).drop a.toNat)).2 = n then readRec (unframe ((s.take (a + n).toNat).drop a.toNat)).1 else (zeroRec, false))
  else (zeroRec, false)

theorem spec_RecAt_eq (s : List UInt8) (a n : Int) (hl : s.length < 1000000000) : spec_RecAt.f s a n = some (recAt s a n) := by
  unfold spec_RecAt.f recAt
  rw [spec_l1In_eq, Option.bind_some]
  by_cases c1 : 0 ≤ a ∧ a ≤ (s.length : Int)
  rotate_left
  · simp only [c1, decide_false, Bool.not_false, cond_true]
    rw [if_neg (fun k => c1 ⟨k.1, k.2.1⟩)]; rfl
  have ew : w64 ((s.length : Int) - a) = (s.length : Int) - a := w64_id (by omega) (by omega)
  have c1b : decide (0 ≤ a ∧ a ≤ (s.length : Int)) = true := decide_eq_true c1
  simp only [c1b, Bool.not_true, cond_false, spec_l1In_eq, Option.bind_some, ew]
  by_cases c2 : 1 ≤ n ∧ n ≤ (s.length : Int) - a
  rotate_left
  · rw [if_neg (fun k => c2 ⟨k.2.2.1, k.2.2.2⟩)]
    simp only [c2, decide_false, Bool.not_false, cond_true]; rfl
  have e2 : w64 (a + n) = a + n := w64_id (by omega) (by omega)
  have c3 : (decide (0 ≤ a + n) && decide (a + n ≤ (s.length : Int))) = true := by simp; omega
  have c4 : (decide (0 ≤ a) && decide (a ≤ a + n)) = true := by simp; omega
  have hlx : ((s.take (a + n).toNat).drop a.toNat).length < 1000000000 := by rw [List.length_drop, List.length_take]; omega
  have c2b : decide (1 ≤ n ∧ n ≤ (s.length : Int) - a) = true := decide_eq_true c2
  have hlen := unframe_len ((s.take (a + n).toNat).drop a.toNat)
  have hun := spec_Unframe_eq _ (show ((s.take (a + n).toNat).drop a.toNat).length < 1000000000000 by omega)
  rw [if_pos ⟨c1.1, c1.2, c2.1, c2.2⟩]
  simp only [c2b, Bool.not_true, cond_false, e2, c3, c4, cond_true, hun, Option.bind_some]
  generalize unframe ((s.take (a + n).toNat).drop a.toNat) = u at *
  obtain ⟨t, k⟩ := u
  simp only at hlen ⊢
  rw [spec_ReadRec_eq t (by omega), Option.bind_some]
  by_cases c6 : k = n
  · have d2 : (k != n) = false := by simpa using c6
    rw [if_pos c6]
    simp only [d2, cond_false]
    rcases readRec_cases t with ⟨e, _⟩ | ⟨r, e, _⟩ <;> rw [e] <;> rfl
  · have d2 : (k != n) = true := by simpa using c6
    rw [if_neg c6]
    simp only [d2, cond_true]; rfl

/-- What a key has. -/
noncomputable def getP (s : StoreT) (d : DiskT) (key : List UInt8) : PairT × Int :=
  if (dirGet s.2.1 key).2 = false then (([], [], 0), 8) else
  let e := (dirGet s.2.1 key).1
  let r := recAt (fileText d (segName e.2.1)).1 e.2.2.1 e.2.2.2.1
  if r.2 = true ∧ (r.1.1 = 1 ∨ r.1.1 = 4) ∧ r.1.2.2.1 = key then ((key, r.1.2.2.2.1, r.1.2.1), 0) else (([], [], 0), 3)

abbrev SpotT := Int × Int × RecT

theorem unframe_pos (s : List UInt8) : (unframe s).2 = 0 ∨ ∃ n : Nat, (unframe s).2 = (n : Int) ∧ 5 ≤ n ∧ n ≤ s.length := by
  unfold unframe
  split
  · exact .inl rfl
  split
  · exact .inl rfl
  · rename_i n k hr
    obtain ⟨q1, q2, q3, q4, q5⟩ := rvT_some 7 true (s.drop 4) n k hr
    split
    · exact .inl rfl
    rename_i c
    split
    · exact .inr ⟨4 + k + n, rfl, by omega, by omega⟩
    · exact .inl rfl

/-- The records from a place on, and where they end. -/
noncomputable def scanG : Nat → List UInt8 → Nat → List SpotT × Nat
  | 0, _, a => ([], a)
  | f + 1, s, a =>
    if (unframe (s.drop a)).2 = 0 ∨ (readRec (unframe (s.drop a)).1).2 = false then ([], a) else
    (((a : Int), (unframe (s.drop a)).2, (readRec (unframe (s.drop a)).1).1) :: (scanG f s (a + (unframe (s.drop a)).2.toNat)).1, (scanG f s (a + (unframe (s.drop a)).2.toNat)).2)

theorem scanG_fuel : ∀ (f g : Nat) (s : List UInt8) (a : Nat), a ≤ s.length → s.length < a + f → s.length < a + g → scanG f s a = scanG g s a
  | 0, _, s, a, ha, hf, _ => by omega
  | f + 1, 0, s, a, ha, _, hg => by omega
  | f + 1, g + 1, s, a, ha, hf, hg => by
    unfold scanG
    by_cases c : (unframe (s.drop a)).2 = 0 ∨ (readRec (unframe (s.drop a)).1).2 = false
    · rw [if_pos c, if_pos c]
    · rw [if_neg c, if_neg c]
      rcases unframe_pos (s.drop a) with h | ⟨n, h, h5, hn⟩
      · exact absurd (.inl h) c
      · rw [List.length_drop] at hn
        rw [h, Int.toNat_natCast, scanG_fuel f g s (a + n) (by omega) (by omega) (by omega)]

noncomputable def scanAt (s : List UInt8) (a : Nat) : List SpotT × Nat := scanG (s.length + 1 - a) s a

noncomputable def scan (s : List UInt8) : List SpotT × Nat := scanAt s 0

theorem scanAt_stop {s : List UInt8} {a : Nat} (ha : a ≤ s.length) (h : (unframe (s.drop a)).2 = 0 ∨ (readRec (unframe (s.drop a)).1).2 = false) : scanAt s a = ([], a) := by
  unfold scanAt
  rw [show s.length + 1 - a = (s.length - a) + 1 by omega, scanG, if_pos h]

theorem scanAt_step {s : List UInt8} {a n : Nat} (hn : (unframe (s.drop a)).2 = (n : Int)) (h0 : 5 ≤ n) (hl : a + n ≤ s.length) (hr : (readRec (unframe (s.drop a)).1).2 = true) :
    scanAt s a = (((a : Int), (n : Int), (readRec (unframe (s.drop a)).1).1) :: (scanAt s (a + n)).1, (scanAt s (a + n)).2) := by
  unfold scanAt
  rw [show s.length + 1 - a = (s.length - a) + 1 by omega, scanG, if_neg (by rw [hn, hr]; simp; omega), hn, Int.toNat_natCast, scanG_fuel (s.length - a) (s.length + 1 - (a + n)) s (a + n) (by omega) (by omega) (by omega)]

theorem scanAt_end {s : List UInt8} : scanAt s s.length = ([], s.length) :=
  scanAt_stop (Nat.le_refl _) (.inl (by rw [List.drop_length]; rfl))

theorem scanAt_len : ∀ (k : Nat) (s : List UInt8) (a : Nat), a ≤ s.length → s.length - a = k → (scanAt s a).2 ≤ s.length ∧ a ≤ (scanAt s a).2 ∧ (scanAt s a).1.length ≤ s.length - a := by
  intro k
  induction k using Nat.strongRecOn with
  | ind k ih =>
    intro s a ha hk
    by_cases c : (unframe (s.drop a)).2 = 0 ∨ (readRec (unframe (s.drop a)).1).2 = false
    · rw [scanAt_stop ha c]; exact ⟨ha, Nat.le_refl _, by simp⟩
    · rcases unframe_pos (s.drop a) with h | ⟨n, h, h5, hn⟩
      · exact absurd (.inl h) c
      · rw [List.length_drop] at hn
        have hr : (readRec (unframe (s.drop a)).1).2 = true := by
          cases e : (readRec (unframe (s.drop a)).1).2 with
          | true => rfl
          | false => exact absurd (.inr e) c
        rw [scanAt_step h h5 (by omega) hr]
        have := ih (s.length - (a + n)) (by omega) s (a + n) (by omega) rfl
        simp only [List.length_cons]
        omega

theorem scan_len (s : List UInt8) : (scan s).2 ≤ s.length ∧ (scan s).1.length ≤ s.length := by
  have := scanAt_len s.length s 0 (Nat.zero_le _) (by omega)
  unfold scan
  omega

def entryOk (e : EntryT) : Bool := keyOk e.1 && (decide (1 ≤ e.2.1 ∧ e.2.1 ≤ 100000) && (decide (0 ≤ e.2.2.1) && (decide (1 ≤ e.2.2.2.1 ∧ e.2.2.2.1 ≤ 210) && decide (1 ≤ e.2.2.2.2 ∧ e.2.2.2.2 ≤ 1000000))))

def riseE : Option (List UInt8) → List EntryT → Bool
  | _, [] => true
  | p, e :: r => entryOk e && ((match p with | none => true | some q => Op.bytesLess q e.1) && riseE (some e.1) r)

def beforeE (l : List EntryT) : Nat → Option (List UInt8)
  | 0 => none
  | n + 1 => some (l.getD n ([], 0, 0, 0, 0)).1

theorem beforeE_succ (l : List EntryT) (n : Nat) (h : n < l.length) : beforeE l (n + 1) = some l[n].1 := by
  show some (l.getD n ([], 0, 0, 0, 0)).1 = _
  rw [getD_lt h]

def dirOk (l : List EntryT) : Bool := riseE none l && decide (l.length ≤ 20)

theorem lim80 {a : Nat} (h : a < 1000000000001) : (a + 1) * 80 ≤ 140737488355328 := by omega

theorem impl_ScanRecs_eq (s : List UInt8) (hl : s.length < 1000000000) : impl_ScanRecs.f s = some ((scan s).1, ((scan s).2 : Int)) := by
  have key := lp_eq (step := impl_ScanRecs.l0) (a := (s, ([] : List SpotT), ((0 : Nat) : Int))) (fun a => (a.2.1 ++ (scanAt s a.2.2.toNat).1, ((scanAt s a.2.2.toNat).2 : Int))) (fun a => a.1 = s ∧ ∃ n : Nat, a.2.2 = (n : Int) ∧ n ≤ s.length ∧ a.2.1.length ≤ n) (fun a => s.length - a.2.2.toNat)
    (fun rec a ha ih => by
      obtain ⟨x, out, k⟩ := a
      obtain ⟨hx, n, hn, hle, hol⟩ := ha
      simp only at hx hn hol ih ⊢
      subst hx hn
      have c1 : (decide (0 ≤ (n : Int)) && decide ((n : Int) ≤ (x.length : Int))) = true := by simp; omega
      have hd : (x.drop n).length < 1000000000000 := by rw [List.length_drop]; omega
      have hu := unframe_len (x.drop n)
      simp only [impl_ScanRecs.l0, c1, cond_true, Int.toNat_natCast, impl_Unframe_eq (x.drop n) hd, impl_ReadRec_eq (unframe (x.drop n)).1 (show (unframe (x.drop n)).1.length < 1000000000000 by omega), Option.bind_some]
      rcases unframe_pos (x.drop n) with h | ⟨m, h, h5, hm⟩
      · have d : ((unframe (x.drop n)).2 == 0) = true := by simpa using h
        rw [scanAt_stop hle (.inl h)]
        simp only [d, cond_true, List.append_nil]
      have d : (((m : Nat) : Int) == 0) = false := by simp; omega
      rw [List.length_drop] at hm
      cases hr : (readRec (unframe (x.drop n)).1).2
      · rw [scanAt_stop hle (.inr hr)]
        simp only [h, d, cond_false, Bool.not_false, cond_true, List.append_nil]
      · have hb : ∀ {α : Type} (v : α), (out.length + [v].length) * 80 ≤ 140737488355328 := fun v => lim80 (by omega)
        have ew : w64 ((n : Int) + (m : Int)) = ((n + m : Nat) : Int) := by rw [w64_id (by omega) (by omega)]; omega
        have ih := ih (x, out ++ [((n : Int), (m : Int), (readRec (unframe (x.drop n)).1).1)], ((n + m : Nat) : Int)) ⟨rfl, n + m, rfl, by omega, by simp only [List.length_append, List.length_singleton]; omega⟩ (by simp only [Int.toNat_natCast]; omega)
        simp only [Int.toNat_natCast] at ih
        rw [scanAt_step h h5 (by omega) hr]
        simp only [h, d, cond_false, Bool.not_true, hb, decide_true, cond_true, ew, ih]
        simp [List.append_assoc])
    ⟨rfl, 0, rfl, Nat.zero_le _, by simp⟩ (by simp only; omega)
  have key : lp impl_ScanRecs.l0 (s, [], 0) = _ := key
  unfold impl_ScanRecs.f
  rw [key, Option.bind_some]
  rfl

theorem spec_ScanRecs_eq (s : List UInt8) (hl : s.length < 1000000000) : spec_ScanRecs.f s = some ((scan s).1, ((scan s).2 : Int)) := by
  have key := lp_ok (step := spec_ScanRecs.l0) (a := (s, ([] : List SpotT), ((0 : Nat) : Int))) (fun a => a.1 = s ∧ ∃ n : Nat, a.2.2 = (n : Int) ∧ n ≤ s.length ∧ a.2.1.length ≤ n ∧ scan s = (a.2.1 ++ (scanAt s n).1, (scanAt s n).2)) (fun a => s.length - a.2.2.toNat)
    (fun b => b = .inl ((scan s).1, ((scan s).2 : Int)) ∨ b = .inr ((scan s).1, ((scan s).2 : Int)))
    (fun rec a ha => by
      obtain ⟨x, out, k⟩ := a
      obtain ⟨hx, n, hn, hle, hol, hs⟩ := ha
      simp only at hx hn hol hs
      subst hx hn
      rcases Nat.lt_or_ge n x.length with hlt | hge
      rotate_left
      · left
        have : n = x.length := by omega
        subst this
        rw [scanAt_end] at hs
        refine ⟨_, ?_, .inl rfl⟩
        rw [hs]
        simp [spec_ScanRecs.l0]
      have c0 : (n : Int) < (x.length : Int) := by omega
      have c1 : (decide (0 ≤ (n : Int)) && decide ((n : Int) ≤ (x.length : Int))) = true := by simp; omega
      have hd : (x.drop n).length < 1000000000000 := by rw [List.length_drop]; omega
      have hu := unframe_len (x.drop n)
      simp only [spec_ScanRecs.l0, c0, decide_true, c1, cond_true, Int.toNat_natCast, spec_Unframe_eq (x.drop n) hd, spec_ReadRec_eq (unframe (x.drop n)).1 (show (unframe (x.drop n)).1.length < 1000000000000 by omega), Option.bind_some]
      rcases unframe_pos (x.drop n) with h | ⟨m, h, h5, hm⟩
      · left
        have d : ((unframe (x.drop n)).2 == 0) = true := by simpa using h
        rw [scanAt_stop hle (.inl h)] at hs
        simp only [List.append_nil] at hs
        exact ⟨.inr (out, (n : Int)), by simp only [d, cond_true], .inr (by rw [hs])⟩
      have d : (((m : Nat) : Int) == 0) = false := by simp; omega
      rw [List.length_drop] at hm
      cases hr : (readRec (unframe (x.drop n)).1).2
      · left
        rw [scanAt_stop hle (.inr hr)] at hs
        simp only [List.append_nil] at hs
        exact ⟨.inr (out, (n : Int)), by simp only [h, d, cond_false, Bool.not_false, cond_true], .inr (by rw [hs])⟩
      · right
        have hb : ∀ {α : Type} (v : α), (out.length + [v].length) * 80 ≤ 140737488355328 := fun v => lim80 (by omega)
        have ew : w64 ((n : Int) + (m : Int)) = ((n + m : Nat) : Int) := by rw [w64_id (by omega) (by omega)]; omega
        rw [scanAt_step h h5 (by omega) hr] at hs
        refine ⟨(x, out ++ [((n : Int), (m : Int), (readRec (unframe (x.drop n)).1).1)], ((n + m : Nat) : Int)), ⟨rfl, n + m, rfl, by omega, by simp only [List.length_append, List.length_singleton]; omega, by simpa [List.append_assoc] using hs⟩, by simp only [Int.toNat_natCast]; omega, ?_⟩
        simp only [h, d, cond_false, Bool.not_true, hb, decide_true, cond_true, ew])
    ⟨rfl, 0, rfl, Nat.zero_le _, by simp, by unfold scan; simp⟩ (by simp only; omega)
  obtain ⟨b, e, hb⟩ := key
  have e : lp spec_ScanRecs.l0 (s, [], 0) = some b := e
  unfold spec_ScanRecs.f
  rw [e, Option.bind_some]
  rcases hb with rfl | rfl <;> rfl

theorem impl_DirOk_l0 (l : List EntryT) (hl : l.length < 2 ^ 62) : lp impl_DirOk.l0 (l, l, (l.length : Int), 0) = some (if riseE none l = true then .inl l else .inr false) := by
  have key := lp_up (step := impl_DirOk.l0) (fun n (_ : Unit) => (l, l, (l.length : Int), (n : Int))) l.length (fun n _ => if riseE (beforeE l n) (l.drop n) = true then .inl l else .inr false) (fun _ _ => True)
    (fun rec n s hn' _ ih => by
      rcases Nat.lt_or_ge n l.length with h | h
      · have hw : w64 ((n : Int) + 1) = ((n + 1 : Nat) : Int) := w64_succ (by omega)
        have ih2 := ih () h trivial
        rw [beforeE_succ l n h] at ih2
        rw [List.drop_eq_getElem_cons h]
        simp only [riseE, impl_DirOk.l0, Int.ofNat_lt, h, decide_true, cond_true, inB_nat, rdA_nat, getD_lt h, Option.bind_some, impl_in_eq, impl_KeyOk_eq]
        unfold entryOk
        have hneg : decide (l[n].2.2.1 < 0) = !decide (0 ≤ l[n].2.2.1) := by
          by_cases c : 0 ≤ l[n].2.2.1
          · have : ¬ l[n].2.2.1 < 0 := by omega
            simp [c, this]
          · have : l[n].2.2.1 < 0 := by omega
            simp [c, this]
        rw [hneg]
        rcases Bool.eq_false_or_eq_true (keyOk l[n].1) with k1 | k1
        rotate_left
        · simp [k1]
        rcases Bool.eq_false_or_eq_true (decide (1 ≤ l[n].2.1 ∧ l[n].2.1 ≤ 100000)) with k2 | k2
        rotate_left
        · simp only [k1, k2, Bool.not_true, Bool.not_false, cond_false, cond_true, Option.bind_some, caseS_r]; simp
        rcases Bool.eq_false_or_eq_true (decide (0 ≤ l[n].2.2.1)) with k3 | k3
        rotate_left
        · simp only [k1, k2, k3, Bool.not_true, Bool.not_false, cond_false, cond_true, Option.bind_some, caseS_r]; simp
        rcases Bool.eq_false_or_eq_true (decide (1 ≤ l[n].2.2.2.1 ∧ l[n].2.2.2.1 ≤ 210)) with k4 | k4
        rotate_left
        · simp only [k1, k2, k3, k4, Bool.not_true, Bool.not_false, cond_false, cond_true, Option.bind_some, caseS_r]; simp
        rcases Bool.eq_false_or_eq_true (decide (1 ≤ l[n].2.2.2.2 ∧ l[n].2.2.2.2 ≤ 1000000)) with k5 | k5
        rotate_left
        · simp only [k1, k2, k3, k4, k5, Bool.not_true, Bool.not_false, cond_false, cond_true, Option.bind_some, caseS_r]; simp
        simp only [k1, k2, k3, k4, k5, Bool.not_true, cond_false, Bool.true_and]
        cases n with
        | zero =>
          have z : ¬ ((0 : Nat) : Int) > 0 := by omega
          simp only [z, decide_false, cond_false, Option.bind_some, caseS_l, hw, ih2, beforeE, Bool.true_and]
        | succ m =>
          have z : ((m + 1 : Nat) : Int) > 0 := by omega
          have hm : m < l.length := by omega
          have z2 : w64 (((m + 1 : Nat) : Int) - 1) = (m : Int) := by rw [w64_id (by omega) (by omega)]; omega
          rw [beforeE_succ l m hm]
          simp only [z, decide_true, cond_true, z2, inB_nat, hm, rdA_nat, getD_lt hm]
          rcases Bool.eq_false_or_eq_true (Op.bytesLess l[m].1 l[m + 1].1) with k6 | k6
          · simp only [k6, Bool.not_true, cond_false, Option.bind_some, caseS_l, hw, ih2, Bool.true_and]
          · simp [k6]
      · have : n = l.length := by omega
        subst this
        simp [impl_DirOk.l0, riseE])
    hl 0 () (Nat.zero_le _) trivial
  have key : lp impl_DirOk.l0 (l, l, (l.length : Int), 0) = _ := key
  rw [key, List.drop_zero]; rfl

theorem neg_dec (a : Int) : decide (a < 0) = !decide (0 ≤ a) := by
  by_cases c : 0 ≤ a
  · have : ¬ a < 0 := by omega
    simp [c, this]
  · have : a < 0 := by omega
    simp [c, this]

theorem spec_DirOk_l0 (l : List EntryT) (hl : l.length < 2 ^ 62) : lp spec_DirOk.l0 (l, 0) = some (if riseE none l = true then .inl () else .inr false) := by
  have key := lp_up (step := spec_DirOk.l0) (fun n (_ : Unit) => (l, (n : Int))) l.length (fun n _ => if riseE (beforeE l n) (l.drop n) = true then .inl () else .inr false) (fun _ _ => True)
    (fun rec n s hn' _ ih => by
      rcases Nat.lt_or_ge n l.length with h | h
      · have hw : w64 ((n : Int) + 1) = ((n + 1 : Nat) : Int) := w64_succ (by omega)
        have ih2 := ih () h trivial
        rw [beforeE_succ l n h] at ih2
        rw [List.drop_eq_getElem_cons h]
        simp only [riseE, spec_DirOk.l0, Int.ofNat_lt, h, decide_true, cond_true, inB_nat, rdA_nat, getD_lt h, Option.bind_some, spec_l1In_eq, spec_KeyOk_eq]
        unfold entryOk
        rw [neg_dec]
        rcases Bool.eq_false_or_eq_true (keyOk l[n].1) with k1 | k1
        rotate_left
        · simp [k1]
        rcases Bool.eq_false_or_eq_true (decide (1 ≤ l[n].2.1 ∧ l[n].2.1 ≤ 100000)) with k2 | k2
        rotate_left
        · simp only [k1, k2, Bool.not_true, Bool.not_false, cond_false, cond_true, Option.bind_some, caseS_r]; simp
        rcases Bool.eq_false_or_eq_true (decide (0 ≤ l[n].2.2.1)) with k3 | k3
        rotate_left
        · simp only [k1, k2, k3, Bool.not_true, Bool.not_false, cond_false, cond_true, Option.bind_some, caseS_r]; simp
        rcases Bool.eq_false_or_eq_true (decide (1 ≤ l[n].2.2.2.1 ∧ l[n].2.2.2.1 ≤ 210)) with k4 | k4
        rotate_left
        · simp only [k1, k2, k3, k4, Bool.not_true, Bool.not_false, cond_false, cond_true, Option.bind_some, caseS_r]; simp
        rcases Bool.eq_false_or_eq_true (decide (1 ≤ l[n].2.2.2.2 ∧ l[n].2.2.2.2 ≤ 1000000)) with k5 | k5
        rotate_left
        · simp only [k1, k2, k3, k4, k5, Bool.not_true, Bool.not_false, cond_false, cond_true, Option.bind_some, caseS_r]; simp
        simp only [k1, k2, k3, k4, k5, Bool.not_true, cond_false, Bool.true_and]
        cases n with
        | zero =>
          have z : ¬ ((0 : Nat) : Int) > 0 := by omega
          simp only [z, decide_false, cond_false, Option.bind_some, caseS_l, hw, ih2, beforeE, Bool.true_and]
        | succ m =>
          have z : ((m + 1 : Nat) : Int) > 0 := by omega
          have hm : m < l.length := by omega
          have z2 : w64 (((m + 1 : Nat) : Int) - 1) = (m : Int) := by rw [w64_id (by omega) (by omega)]; omega
          have z3 : (Op.bytesLess l[m + 1].1 l[m].1 || l[m + 1].1 == l[m].1) = !Op.bytesLess l[m].1 l[m + 1].1 := leK_not _ _
          rw [beforeE_succ l m hm]
          simp only [z, decide_true, cond_true, z2, inB_nat, hm, rdA_nat, getD_lt hm, z3]
          rcases Bool.eq_false_or_eq_true (Op.bytesLess l[m].1 l[m + 1].1) with k6 | k6
          · simp only [k6, Bool.not_true, cond_false, Option.bind_some, caseS_l, hw, ih2, Bool.true_and]
          · simp [k6]
      · have : n = l.length := by omega
        subst this
        simp [spec_DirOk.l0, riseE])
    hl 0 () (Nat.zero_le _) trivial
  have key : lp spec_DirOk.l0 (l, 0) = _ := key
  rw [key, List.drop_zero]; rfl

theorem impl_DirOk_eq (l : List EntryT) (hl : l.length < 2 ^ 62) : impl_DirOk.f l = some (dirOk l) := by
  unfold impl_DirOk.f dirOk
  rw [impl_DirOk_l0 l hl, Option.bind_some]
  have e : decide ((l.length : Int) ≤ 20) = decide (l.length ≤ 20) := decide_eq_decide.2 (by omega)
  cases riseE none l <;> simp [e]

theorem spec_DirOk_eq (l : List EntryT) (hl : l.length < 2 ^ 62) : spec_DirOk.f l = some (dirOk l) := by
  unfold spec_DirOk.f dirOk
  rw [spec_DirOk_l0 l hl]
  by_cases c : l.length ≤ 20
  · have c1 : ¬ (l.length : Int) > 20 := by omega
    simp only [c, c1, decide_true, decide_false, cond_false, Bool.and_true, Option.bind_some]
    cases riseE none l <;> rfl
  · have c1 : (l.length : Int) > 20 := by omega
    simp [c, c1]

/-- Is a segment as it should be? -/
noncomputable def segOk (d : DiskT) (size : Int) (last : Bool) (id : Int) : Bool :=
  (fileText d (segName id)).2 && (decide ((scan (fileText d (segName id)).1).2 = (fileText d (segName id)).1.length) && (!last || decide (size = ((fileText d (segName id)).1.length : Int))))

noncomputable def segsOk (d : DiskT) (size : Int) : List Int → Bool
  | [] => true
  | id :: r => segOk d size r.isEmpty id && segsOk d size r

/-- Is an entry as it should be? -/
noncomputable def entOk (d : DiskT) (batch : Int) (e : EntryT) : Bool :=
  let r := recAt (fileText d (segName e.2.1)).1 e.2.2.1 e.2.2.2.1
  r.2 && ((r.1.1 == 1 || r.1.1 == 4) && (r.1.2.2.1 == e.1 && (r.1.2.1 == e.2.2.2.2 && !decide (e.2.2.2.2 ≥ batch))))

noncomputable def storeOk (s : StoreT) (d : DiskT) : Bool :=
  diskOk d && (liveOk s.1 && (dirOk s.2.1 && (decide (1 ≤ s.2.2.1 ∧ s.2.2.1 ≤ 1000001) && (segsOk d s.2.2.2.1 s.1.2 && s.2.1.all (entOk d s.2.2.1)))))

theorem spec_StoreOk_l2 (s : StoreT) (d : DiskT) (h : dlim d) (hu : usedN d.1 < 1000000000) (hl : s.2.1.length < 1000000000) : lp spec_StoreOk.l2 (s, d, 0) = some (if s.2.1.all (entOk d s.2.2.1) = true then .inl () else .inr false) := by
  refine all_loop (step := spec_StoreOk.l2) s.2.1 (entOk d s.2.2.1) (fun n => (s, d, (n : Int))) () (by omega) ?_ ?_
  · intro rec n hn
    have hw := w64_succ (show n + 1 < 9223372036854775808 by omega)
    have hft := fileText_len d (segName s.2.1[n].2.1) h
    simp only [spec_StoreOk.l2, Int.ofNat_lt, hn, decide_true, cond_true, inB_nat, rdA_nat, getD_lt hn, spec_SegName_eq, spec_FileText_eq d _ h, spec_RecAt_eq (fileText d (segName s.2.1[n].2.1)).1 _ _ (show (fileText d (segName s.2.1[n].2.1)).1.length < 1000000000 by omega), Option.bind_some, hw, entOk]
    obtain ⟨r, hr⟩ : ∃ r, recAt (fileText d (segName s.2.1[n].2.1)).1 s.2.1[n].2.2.1 s.2.1[n].2.2.2.1 = r := ⟨_, rfl⟩
    simp only [hr]
    rcases Bool.eq_false_or_eq_true r.2 with h1 | h1 <;> rcases Bool.eq_false_or_eq_true (r.1.1 == 1) with h2 | h2 <;> rcases Bool.eq_false_or_eq_true (r.1.1 == 4) with h3 | h3 <;> rcases Bool.eq_false_or_eq_true (r.1.2.2.1 == s.2.1[n].1) with h4 | h4 <;> rcases Bool.eq_false_or_eq_true (r.1.2.1 == s.2.1[n].2.2.2.2) with h5 | h5 <;> rcases Bool.eq_false_or_eq_true (decide (s.2.1[n].2.2.2.2 ≥ s.2.2.1)) with h6 | h6 <;> simp only [bne, h1, h2, h3, h4, h5, h6, caseS_l, caseS_r, Bool.not_true, Bool.not_false, cond_true, cond_false, Option.bind_some, Bool.true_and, Bool.false_and, Bool.and_true, Bool.and_false, Bool.or_true, Bool.or_false, Bool.true_or, Bool.false_or, if_true, if_false, Bool.false_eq_true, hw]
  · intro rec
    simp [spec_StoreOk.l2]

theorem spec_StoreOk_l0 (s : StoreT) (d : DiskT) (h : dlim d) (hu : usedN d.1 < 1000000000) (hl : s.1.2.length < 1000000000) : lp spec_StoreOk.l0 (s, d, 0) = some (if segsOk d s.2.2.2.1 s.1.2 = true then .inl (s, d) else .inr false) := by
  have key := lp_up (step := spec_StoreOk.l0) (fun n (_ : Unit) => (s, d, (n : Int))) s.1.2.length (fun n _ => if segsOk d s.2.2.2.1 (s.1.2.drop n) = true then .inl (s, d) else .inr false) (fun _ _ => True)
    (fun rec n a hn _ ih => by
      rcases Nat.lt_or_ge n s.1.2.length with h1 | h1
      · have hw := w64_succ (show n + 1 < 9223372036854775808 by omega)
        have hft := fileText_len d (segName s.1.2[n]) h
        have hsl := (scan_len (fileText d (segName s.1.2[n])).1).1
        have ih := ih () h1 trivial
        rw [List.drop_eq_getElem_cons h1]
        have hlast : (s.1.2.drop (n + 1)).isEmpty = (((n + 1 : Nat) : Int) == (s.1.2.length : Int)) := by
          by_cases c : n + 1 = s.1.2.length
          · have c1 : (((n + 1 : Nat) : Int) == (s.1.2.length : Int)) = true := by simp; omega
            rw [c1, c, List.drop_length]; rfl
          · have c1 : (((n + 1 : Nat) : Int) == (s.1.2.length : Int)) = false := by simp; omega
            rw [c1]
            cases e : s.1.2.drop (n + 1) with
            | nil => rw [List.drop_eq_nil_iff] at e; omega
            | cons x r => rfl
        simp only [segsOk, hlast, spec_StoreOk.l0, Int.ofNat_lt, h1, decide_true, cond_true, inB_nat, rdA_nat, getD_lt h1, spec_SegName_eq, spec_FileText_eq d _ h, spec_ScanRecs_eq (fileText d (segName s.1.2[n])).1 (show (fileText d (segName s.1.2[n])).1.length < 1000000000 by omega), Option.bind_some, hw]
        unfold segOk
        cases hb : (fileText d (segName s.1.2[n])).2
        · simp
        simp only [Bool.not_true, cond_false, Bool.true_and]
        by_cases c1 : (scan (fileText d (segName s.1.2[n])).1).2 = (fileText d (segName s.1.2[n])).1.length
        rotate_left
        · have d1 : (scan (fileText d (segName s.1.2[n])).1).2 < (fileText d (segName s.1.2[n])).1.length := by omega
          simp only [d1, decide_true, cond_true, Option.bind_some, caseS_r, c1, decide_false]; simp
        simp only [c1, Nat.lt_irrefl, decide_false, cond_false, decide_true, Bool.true_and]
        cases hz : (((n + 1 : Nat) : Int) == (s.1.2.length : Int))
        · simp only [cond_false, Option.bind_some, caseS_l, hw, ih, Bool.not_false, Bool.true_or, Bool.true_and]
        · by_cases c2 : s.2.2.2.1 = ((fileText d (segName s.1.2[n])).1.length : Int)
          · have d2 : (s.2.2.2.1 != ((fileText d (segName s.1.2[n])).1.length : Int)) = false := by simpa using c2
            simp only [cond_true, d2, cond_false, Option.bind_some, caseS_l, hw, ih, Bool.not_true, Bool.false_or, decide_eq_true c2, Bool.true_and]
          · have d2 : (s.2.2.2.1 != ((fileText d (segName s.1.2[n])).1.length : Int)) = true := by simpa using c2
            simp only [cond_true, d2, Option.bind_some, caseS_r, Bool.not_true, Bool.false_or, decide_eq_false c2, Bool.false_and, Bool.false_eq_true, if_false]
      · have : n = s.1.2.length := by omega
        subst this
        simp [spec_StoreOk.l0, segsOk])
    (by omega) 0 () (Nat.zero_le _) trivial
  have key : lp spec_StoreOk.l0 (s, d, 0) = _ := key
  rw [key, List.drop_zero]

theorem spec_StoreOk_eq (s : StoreT) (d : DiskT) (h : dlim d) (hu : usedN d.1 < 1000000000) (h1 : s.1.2.length < 1000000000) (h2 : s.2.1.length < 1000000000) : spec_StoreOk.f s d = some (storeOk s d) := by
  unfold spec_StoreOk.f storeOk
  rw [spec_DiskOk_eq d h, spec_LiveOk_eq s.1 (by omega), spec_DirOk_eq s.2.1 (by omega), spec_l1In_eq, spec_StoreOk_l0 s d h hu h1]
  simp only [Option.bind_some]
  cases diskOk d <;> simp only [Bool.not_true, Bool.not_false, cond_true, cond_false, Bool.true_and, Bool.false_and]
  cases liveOk s.1 <;> simp only [Bool.not_true, Bool.not_false, cond_true, cond_false, Bool.true_and, Bool.false_and]
  cases dirOk s.2.1 <;> simp only [Bool.not_true, Bool.not_false, cond_true, cond_false, Bool.true_and, Bool.false_and]
  cases decide (1 ≤ s.2.2.1 ∧ s.2.2.1 ≤ 1000001) <;> simp only [Bool.not_true, Bool.not_false, cond_true, cond_false, Bool.true_and, Bool.false_and]
  cases segsOk d s.2.2.2.1 s.1.2 <;> simp only [if_true, if_false, Bool.false_eq_true, caseS_l, caseS_r, Bool.true_and, Bool.false_and]
  rw [spec_StoreOk_l2 s d h hu h2, Option.bind_some]
  cases s.2.1.all (entOk d s.2.2.1) <;> simp only [if_true, if_false, Bool.false_eq_true, caseS_l, caseS_r]

theorem pw_rise : ∀ (l : List FileT) (p : List UInt8), (∀ x ∈ l, Op.bytesLess p x.1 = true) → srt l → riseF (some p) l = true
  | [], _, _, _ => rfl
  | f :: l, p, h, hs => by
    simp only [riseF, h f List.mem_cons_self, Bool.true_and]
    have hs2 := List.pairwise_cons.1 hs
    exact pw_rise l f.1 hs2.1 hs2.2

theorem pw_rise0 (l : List FileT) (hs : srt l) : riseF none l = true := by
  cases l with
  | nil => rfl
  | cons f l =>
    have hs2 := List.pairwise_cons.1 hs
    exact pw_rise l f.1 hs2.1 hs2.2

/-- Files that a disk of so much room may have. -/
def okF (cap : Int) (l : List FileT) : Prop := l.length ≤ 130 ∧ (usedN l : Int) ≤ cap ∧ (∀ f ∈ l, fileOk f = true) ∧ srt l

theorem diskOk_iff (d : DiskT) : diskOk d = true ↔ (0 ≤ d.2.1 ∧ d.2.1 ≤ 100000) ∧ (-1 ≤ d.2.2.1 ∧ d.2.2.1 ≤ 100000) ∧ okF d.2.1 d.1 := by
  unfold diskOk okF filesOk
  simp only [Bool.and_eq_true, decide_eq_true_eq, List.all_eq_true]
  constructor
  · rintro ⟨h1, h2, h3, h4, h5, h6⟩
    exact ⟨h2, h3, h1, h4, h5, rise_pw0 _ h6⟩
  · rintro ⟨h2, h3, h1, h4, h5, h6⟩
    exact ⟨h1, h2, h3, h4, h5, pw_rise0 _ h6⟩

theorem dk_tick {d : DiskT} (h : diskOk d = true) : diskOk (tick d) = true := by
  rw [diskOk_iff] at h ⊢
  obtain ⟨h1, h2, h3⟩ := h
  rw [tick_cap, tick_fst]
  refine ⟨h1, ?_, h3⟩
  unfold tick; split
  · exact ⟨by show -1 ≤ d.2.2.1 - 1; omega, by show d.2.2.1 - 1 ≤ 100000; omega⟩
  · exact h2

theorem dk_dstep {d : DiskT} {act : List FileT → Int × List FileT} (h : diskOk d = true) (ha : okF d.2.1 d.1 → okF d.2.1 (act d.1).2) : diskOk (dstep d act).1 = true := by
  have ht := dk_tick h
  rw [diskOk_iff] at h ht
  unfold dstep
  split
  · rename_i k; rw [(diskOk_iff d).2 h] at k; exact absurd k (by simp)
  · split
    · exact (diskOk_iff _).2 h
    · refine (diskOk_iff _).2 ⟨?_, ht.2.1, ?_⟩
      · show 0 ≤ (tick d).2.1 ∧ (tick d).2.1 ≤ 100000
        exact ht.1
      · show okF (tick d).2.1 (act d.1).2
        rw [tick_cap]; exact ha h.2.2

theorem okF_sub {cap : Int} {l m : List FileT} (h : okF cap l) (hs : m.Sublist l) : okF cap m := by
  have := sumN_sub (fun f : FileT => f.2.1.length) hs
  have := hs.length_le
  have h2 := h.2.1
  refine ⟨by have := h.1; omega, ?_, fun f hf => h.2.2.1 f (hs.subset hf), h.2.2.2.sublist hs⟩
  unfold usedN at *; omega

theorem usedN_insB (l : List FileT) (f : FileT) : usedN (insB l f) = usedN l + f.2.1.length := by
  unfold usedN
  induction l with
  | nil => simp [insB, sumN]
  | cons x l ih =>
    rw [insB_cons]
    split
    · simp only [sumN, ih]; omega
    · simp only [sumN]; omega

theorem usedN_remIx (l : List FileT) (i : Nat) (h : i < l.length) : usedN (remIx l i) + l[i].2.1.length = usedN l := by
  unfold usedN remIx
  induction l generalizing i with
  | nil => simp at h
  | cons x l ih =>
    cases i with
    | zero => simp only [List.take_zero, List.drop_succ_cons, List.drop_zero, List.nil_append, List.getElem_cons_zero, sumN]; omega
    | succ i =>
      have := ih i (by simpa using h)
      simp only [List.take_succ_cons, List.drop_succ_cons, List.cons_append, sumN, List.getElem_cons_succ] at *
      omega

theorem usedN_set2 (l : List FileT) (i : Nat) (f : FileT) (h : i < l.length) : usedN (l.set i f) + l[i].2.1.length = usedN l + f.2.1.length := by
  unfold usedN
  induction l generalizing i with
  | nil => simp at h
  | cons x l ih =>
    cases i with
    | zero => simp only [List.set_cons_zero, List.getElem_cons_zero, sumN]; omega
    | succ i =>
      have := ih i (by simpa using h)
      simp only [List.set_cons_succ, sumN, List.getElem_cons_succ] at *
      omega

theorem srtF_set {α : Type} {l : List (List UInt8 × α)} (h : srt l) (i : Nat) (hi : i < l.length) (f : List UInt8 × α) (hf : f.1 = l[i].1) : srt (l.set i f) := by
  unfold srt at *
  have e : (l.set i f).map (·.1) = l.map (·.1) := by
    apply List.ext_getElem
    · simp
    · intro n h1 h2
      simp only [List.getElem_map, List.getElem_set]
      split
      · rename_i c; subst c; exact hf
      · rfl
  have h2 : (l.map (·.1)).Pairwise (fun a b => Op.bytesLess a b = true) := List.pairwise_map.2 h
  rw [← e] at h2
  exact List.pairwise_map.1 h2

theorem okF_set {cap : Int} {l : List FileT} (h : okF cap l) (i : Nat) (hi : i < l.length) (f : FileT) (hn : f.1 = l[i].1) (hf : fileOk f = true) (hu : (usedN l : Int) + f.2.1.length - l[i].2.1.length ≤ cap) : okF cap (l.set i f) := by
  have := usedN_set2 l i f hi
  refine ⟨by rw [List.length_set]; exact h.1, by omega, fun g hg => ?_, srtF_set h.2.2.2 i hi f hn⟩
  rcases List.mem_or_eq_of_mem_set hg with hg | e
  · exact h.2.2.1 g hg
  · rw [e]; exact hf

theorem okF_ins {cap : Int} {l : List FileT} (h : okF cap l) (f : FileT) (h1 : l.length < 130) (hne : ∀ x ∈ l, x.1 ≠ f.1) (hf : fileOk f = true) (hu : (usedN l : Int) + f.2.1.length ≤ cap) : okF cap (insB l f) := by
  refine ⟨by rw [insB_len]; omega, by rw [usedN_insB]; omega, fun g hg => ?_, srt_insB f l h.2.2.2 hne⟩
  rcases (mem_insB g f l).1 hg with e | hg
  · rw [e]; exact hf
  · exact h.2.2.1 g hg

theorem dk_Remove {d : DiskT} (h : diskOk d = true) (n : List UInt8) : diskOk (dRemove n d).1 = true :=
  dk_dstep h fun k => by
    unfold actRemove; split
    · exact okF_sub k (remIx_sub _ _)
    · exact k

theorem dk_Gone {d : DiskT} (h : diskOk d = true) (n : List UInt8) : diskOk (dGone n d).1 = true := by
  unfold dGone; split
  · exact dk_Remove h n
  · exact h

theorem dk_Create {d : DiskT} (h : diskOk d = true) (n : List UInt8) : diskOk (dCreate n d).1 = true :=
  dk_dstep h fun k => by
    unfold actCreate; split
    · exact k
    · rename_i k1
      split
      · exact k
      · rename_i k2
        split
        · exact k
        · rename_i k3
          rcases fileIx_cases d.1 n with ⟨e, hno⟩ | ⟨i, hi, e, _⟩
          · refine okF_ins k _ (by omega) hno ?_ (by have := k.2.1; simp; exact this)
            unfold fileOk; simp at k1 ⊢; exact k1
          · omega

theorem dk_Append {d : DiskT} (h : diskOk d = true) (n t : List UInt8) : diskOk (dAppend n t d).1 = true :=
  dk_dstep h fun k => by
    unfold actAppend
    rcases fileIx_cases d.1 n with ⟨e, _⟩ | ⟨i, hi, e, _⟩
    · rw [ix_none e]; exact k
    · rw [ix_some e]
      simp only
      split
      · exact k
      · rename_i k1
        rw [getD_lt hi]
        refine okF_set k i hi _ rfl ?_ ?_
        · have := k.2.2.1 _ (List.getElem_mem hi)
          unfold fileOk at *
          simp only [Bool.and_eq_true, decide_eq_true_eq, List.length_append] at *
          exact ⟨this.1, by omega, by omega⟩
        · simp only [List.length_append]; omega

theorem dk_Sync {d : DiskT} (h : diskOk d = true) (n : List UInt8) : diskOk (dSync n d).1 = true :=
  dk_dstep h fun k => by
    unfold actSync
    rcases fileIx_cases d.1 n with ⟨e, _⟩ | ⟨i, hi, e, _⟩
    · rw [ix_none e]; exact k
    · rw [ix_some e]
      simp only
      rw [getD_lt hi]
      refine okF_set k i hi _ rfl ?_ ?_
      · have := k.2.2.1 _ (List.getElem_mem hi)
        unfold fileOk at *
        simp only [Bool.and_eq_true, decide_eq_true_eq] at *
        exact ⟨this.1, by omega, by omega⟩
      · have := k.2.1; simp only; omega

theorem dk_Trunc {d : DiskT} (h : diskOk d = true) (n : List UInt8) (z : Int) : diskOk (dstep d (actTrunc n z)).1 = true :=
  dk_dstep h fun k => by
    unfold actTrunc
    rcases fileIx_cases d.1 n with ⟨e, _⟩ | ⟨i, hi, e, _⟩
    · rw [ix_none e]; exact k
    · rw [ix_some e]
      simp only
      rw [getD_lt hi]
      split
      · rename_i k1
        refine okF_set k i hi _ rfl ?_ ?_
        · have := k.2.2.1 _ (List.getElem_mem hi)
          unfold fileOk at *
          simp only [Bool.and_eq_true, decide_eq_true_eq, List.length_take] at *
          exact ⟨this.1, by omega, by omega⟩
        · have := k.2.1
          simp only [List.length_take]; omega
      · exact k

theorem dk_Rename {d : DiskT} (h : diskOk d = true) (a b : List UInt8) : diskOk (dRename a b d).1 = true :=
  dk_dstep h fun k => by
    unfold actRename
    split
    · exact k
    · rename_i k0
      rcases fileIx_cases d.1 a with ⟨e, _⟩ | ⟨i, hi, e, _⟩
      · rw [ix_none e]; exact k
      · rw [ix_some e]
        simp only
        split
        · exact k
        · rw [getD_lt hi]
          have hs : (dropF (remIx d.1 i) b).Sublist d.1 := (dropF_sub _ _).trans (remIx_sub _ _)
          have h2 := usedN_remIx d.1 i hi
          have h3 := remIx_len hi
          have h4 := dropF_len (remIx d.1 i) b
          have h5 : usedN (dropF (remIx d.1 i) b) ≤ usedN (remIx d.1 i) := sumN_sub (fun f : FileT => f.2.1.length) (dropF_sub _ _)
          have k1 := k.1
          have k2 := k.2.1
          refine okF_ins (okF_sub k hs) _ (by omega) (dropF_ne (k.2.2.2.sublist (remIx_sub d.1 i))) ?_ (by simp only; omega)
          have := k.2.2.1 _ (List.getElem_mem hi)
          unfold fileOk at *
          simp only [Bool.and_eq_true, decide_eq_true_eq, Bool.not_eq_false] at *
          exact ⟨k0, this.2⟩

theorem dk_sstep {w : WorkT} {op : DiskT → DiskT × Int} (h : diskOk w.1 = true) (ho : diskOk w.1 = true → diskOk (op w.1).1 = true) : diskOk (sstep op w).1 = true := by
  unfold sstep; split
  · exact ho h
  · exact h

theorem dk_wstep {w : WorkT} {op : DiskT → DiskT × Int} (h : diskOk w.1 = true) (ho : diskOk w.1 = true → diskOk (op w.1).1 = true) : diskOk (wstep op w).1 = true := by
  unfold wstep; split
  · exact ho h
  · exact h

theorem dk_sFile {w : WorkT} (h : diskOk w.1 = true) (n t : List UInt8) : diskOk (sFile n t w).1 = true :=
  dk_sstep (op := dSync n) (dk_sstep (op := dAppend n t) (dk_sstep (op := dCreate n) (dk_sstep (op := dGone n) h fun k => dk_Gone k n) fun k => dk_Create k n) fun k => dk_Append k n t) fun k => dk_Sync k n

theorem dk_sPut {w : WorkT} (h : diskOk w.1 = true) (v : LiveT) : diskOk (sPut v w).1 = true :=
  dk_sstep (op := dRename _ _) (dk_sFile h _ _) fun k => dk_Rename k _ _

/-- A right disk is a small one. -/
theorem dl_dk {d : DiskT} (h : diskOk d = true) : dl 100001 d := by
  rw [diskOk_iff] at h
  obtain ⟨h1, h2, h3, h4, h5, h6⟩ := h
  refine ⟨by omega, by omega, fun f hf => ?_⟩
  have := h5 f hf
  unfold fileOk at this
  simp only [Bool.and_eq_true] at this
  have := nameOk_len this.1
  omega

noncomputable def dumpL (s : StoreT) (d : DiskT) : List EntryT → List PairT → List PairT × Int
  | [], acc => (acc, 0)
  | e :: r, acc => if (getP s d e.1).2 ≠ 0 then ([], (getP s d e.1).2) else dumpL s d r (acc ++ [(getP s d e.1).1])

noncomputable def dumpP (s : StoreT) (d : DiskT) : List PairT × Int := dumpL s d s.2.1 []

theorem idsOk_mem {hi : Int} : ∀ (l : List Int) (p : Option Int), idsOk hi p l = true → ∀ y ∈ l, 1 ≤ y ∧ y ≤ hi
  | [], _, _, y, hy => by simp at hy
  | x :: l, p, h, y, hy => by
    simp only [idsOk, Bool.and_eq_true, decide_eq_true_eq] at h
    rcases List.mem_cons.1 hy with e | hy
    · subst e; exact h.1
    · exact idsOk_mem l (some x) h.2.2 y hy

theorem liveOk_iff (v : LiveT) : liveOk v = true ↔ idsOk (w64 (v.1 - 1)) none v.2 = true ∧ (1 ≤ v.1 ∧ v.1 ≤ 100000) ∧ 1 ≤ v.2.length ∧ v.2.length ≤ 60 := by
  unfold liveOk
  simp only [Bool.and_eq_true, decide_eq_true_eq]
  constructor
  · rintro ⟨h1, h2, h3⟩; exact ⟨h1, h2, by omega, by omega⟩
  · rintro ⟨h1, h2, h3⟩; exact ⟨h1, h2, by omega, by omega⟩

def sDrop (names : List (List UInt8)) (w : WorkT) : WorkT := names.foldl (fun w n => sstep (dGone n) w) w

def wDrop (names : List (List UInt8)) (w : WorkT) : WorkT := names.foldl (fun w n => wstep (dGone n) w) w

theorem wDrop_told (names : List (List UInt8)) : ∀ w : WorkT, wDrop names (toldW w) = toldW (sDrop names w) := by
  induction names with
  | nil => intro w; rfl
  | cons n l ih =>
    intro w
    show wDrop l (wstep (dGone n) (toldW w)) = toldW (sDrop l (sstep (dGone n) w))
    rw [wstep_told, ih]

theorem dk_sDrop (names : List (List UInt8)) : ∀ {w : WorkT}, diskOk w.1 = true → diskOk (sDrop names w).1 = true := by
  induction names with
  | nil => intro w h; exact h
  | cons n l ih => intro w h; exact ih (dk_sstep (op := dGone n) h fun k => dk_Gone k n)

def lastI (l : List Int) : Int := l.getD (l.length - 1) 0

theorem last_rd {l : List Int} (h : 1 ≤ l.length) (hl : l.length < 2 ^ 62) : w64 ((l.length : Int) - 1) = ((l.length - 1 : Nat) : Int) ∧ inB ((l.length - 1 : Nat) : Int) l.length = true ∧ rdA 0 l ((l.length - 1 : Nat) : Int) = lastI l := by
  refine ⟨by rw [w64_id (by omega) (by omega)]; omega, ?_, ?_⟩
  · rw [inB_nat]; simp; omega
  · rw [rdA_nat]; rfl

theorem lim8 {a : Nat} (h : a < 1000000000001) : (a + 1) * 8 ≤ 140737488355328 := by omega

theorem lim48' {a : Nat} (h : a < 1000000000001) : (0 + a) * 48 ≤ 140737488355328 := by omega

theorem impl_copyDir_eq (v : List EntryT) (h : v.length < 1000000000) : impl_copyDir.f v = some v := by
  unfold impl_copyDir.f
  have : (([] : List EntryT).length + v.length) * 48 ≤ 140737488355328 := lim48' (by omega)
  simp only [this, decide_true, cond_true, List.nil_append]

theorem told_ne (c : Int) : (told c != 0) = (c != 0) := by
  by_cases h : c = 0
  · subst h; rfl
  · have h2 : told c ≠ 0 := fun e => h ((told_zero c).1 e)
    rw [show (told c != 0) = true by simpa using h2, show (c != 0) = true by simpa using h]

theorem storeOk_parts {s : StoreT} {d : DiskT} (h : storeOk s d = true) : diskOk d = true ∧ liveOk s.1 = true ∧ dirOk s.2.1 = true ∧ (1 ≤ s.2.2.1 ∧ s.2.2.1 ≤ 1000001) ∧ segsOk d s.2.2.2.1 s.1.2 = true := by
  unfold storeOk at h
  simp only [Bool.and_eq_true, decide_eq_true_eq] at h
  exact ⟨h.1, h.2.1, h.2.2.1, h.2.2.2.1, h.2.2.2.2.1⟩

theorem lim48 {a : Nat} (h : a < 1000000000001) : (a + 1) * 48 ≤ 140737488355328 := by omega

theorem impl_DirDrop_eq (l : List EntryT) (key : List UInt8) (hl : l.length < 1000000000) : impl_DirDrop.f l key = some (dropK l key) := by
  have hk := fold_loop (step := impl_DirDrop.l0) l (fun s x => if (!(x.1 == key)) = true then s ++ [x] else s) (fun n (s : List EntryT) => (key, s, l, (l.length : Int), (n : Int))) id (fun n s => s.length ≤ n) (by omega)
    (fun rec n s h hi => by
      have hb : (s.length + ([(l[n].1, l[n].2.1, l[n].2.2.1, l[n].2.2.2.1, l[n].2.2.2.2)] : List EntryT).length) * 48 ≤ 140737488355328 := lim48 (by omega)
      have hw := w64_succ (show n + 1 < 9223372036854775808 by omega)
      simp only [impl_DirDrop.l0, Int.ofNat_lt, h, decide_true, cond_true, inB_nat, rdA_nat, getD_lt h, hb]
      cases l[n].1 == key <;> simp only [Bool.not_true, Bool.not_false, cond_true, cond_false, Option.bind_some, hw, if_true, if_false, Bool.false_eq_true])
    (fun n s h hi => by
      have : ∀ b : Bool, (if b = true then s ++ [l[n]] else s).length ≤ n + 1 := fun b => by cases b <;> simp <;> omega
      exact this _)
    (fun rec s hi => by simp [impl_DirDrop.l0]) [] (by simp)
  have hk : lp impl_DirDrop.l0 (key, [], l, (l.length : Int), 0) = _ := hk
  unfold impl_DirDrop.f
  rw [hk, foldl_filter]; rfl

theorem impl_DirPut_l0 (rest : List EntryT) (p : EntryT) (hl : rest.length < 2 ^ 62) :
    lp impl_DirPut.l0 (p, rest, 0) = some (p, rest, ((rest.takeWhile fun x => leK x.1 p.1).length : Int)) := by
  have key := lp_up (step := impl_DirPut.l0) (fun n (_ : Unit) => (p, rest, (n : Int))) rest.length (fun n _ => (p, rest, ((n + ((rest.drop n).takeWhile fun x => leK x.1 p.1).length : Nat) : Int))) (fun _ _ => True)
    (fun rec n s hn _ ih => by
      rcases Nat.lt_or_ge n rest.length with h | h
      · rw [takeWhile_drop _ _ _ h]
        simp only [impl_DirPut.l0, Int.ofNat_lt, h, decide_true, cond_true, inB_nat, rdA_nat, getD_lt h, w64_succ (show n + 1 < 9223372036854775808 by omega)]
        show (bif leK rest[n].1 p.1 then _ else _) = _
        cases leK rest[n].1 p.1
        · simp
        · simp only [cond_true, if_true]
          rw [ih () h trivial]
          congr 4; omega
      · have : n = rest.length := by omega
        subst this
        simp [impl_DirPut.l0])
    hl 0 () (Nat.zero_le _) trivial
  simpa using key

theorem impl_DirPut_eq (l : List EntryT) (e : EntryT) (hl : l.length < 1000000000) : impl_DirPut.f l e = some (insB (dropK l e.1) e) := by
  have hd := dropK_len l e.1
  have htw : ((dropK l e.1).takeWhile fun x => leK x.1 e.1).length ≤ (dropK l e.1).length := (List.takeWhile_sublist _).length_le
  unfold impl_DirPut.f
  rw [impl_DirDrop_eq l e.1 hl, Option.bind_some, impl_DirPut_l0 _ _ (by omega), Option.bind_some]
  generalize hk : ((dropK l e.1).takeWhile fun x => leK x.1 e.1).length = k at *
  have c1 : (0 : Int) ≤ (k : Int) := by omega
  have c2 : (k : Int) ≤ ((dropK l e.1).length : Int) := by omega
  have c3 : (List.take k (dropK l e.1)).length < 1000000000 := by simp; omega
  have c4 : ((List.take k (dropK l e.1)).length + [e].length) * 48 ≤ 140737488355328 := lim48 (by omega)
  have c5 : ((List.take k (dropK l e.1) ++ [e]).length + (List.drop k (dropK l e.1)).length) * 48 ≤ 140737488355328 := by simp; omega
  have hins : insB (dropK l e.1) e = List.take k (dropK l e.1) ++ [e] ++ List.drop k (dropK l e.1) := by
    unfold insB; simp only [hk]
  simp only [c1, c2, decide_true, Bool.and_self, cond_true, Int.toNat_natCast, impl_copyDir_eq _ c3, Option.bind_some, c4, c5, hins]

theorem lim64R {a : Nat} (h : a < 1000000000001) : (a + 1) * 64 ≤ 140737488355328 := by omega

theorem impl_HintName_eq (id : Int) : impl_HintName.f id = some (hintName id) := by
  unfold impl_HintName.f hintName
  rw [impl_named_eq [104, 105, 110, 116] id (by show 4 ≤ 100; decide), Option.bind_some]

abbrev HintT := Int × Int × List EntryT

def sameSeg (h : HintT) (e : EntryT) : Bool := !(e.2.1 != ((h.2.2.getD 0 ([], 0, 0, 0, 0)).2.1)) && !decide (e.2.2.1 > 100000)

def hintOk (h : HintT) : Bool := h.2.2.all (sameSeg h) && (decide (0 ≤ h.1 ∧ h.1 ≤ 100000) && (decide (0 ≤ h.2.1 ∧ h.2.1 ≤ 1000000) && dirOk h.2.2))

theorem impl_hintOk_eq (h : HintT) (hl : h.2.2.length < 1000000000) : impl_hintOk.f h = some (hintOk h) := by
  have key := all_loop (step := impl_hintOk.l0) h.2.2 (sameSeg h) (fun n => (h, h.2.2, (h.2.2.length : Int), (n : Int))) h (by omega)
    (fun rec n h1 => by
      have hw := w64_succ (show n + 1 < 9223372036854775808 by omega)
      have h0 : inB 0 h.2.2.length = true := by rw [show (0 : Int) = ((0 : Nat) : Int) from rfl, inB_nat]; simp; omega
      have r0 : rdA ([], 0, 0, 0, 0) h.2.2 0 = h.2.2.getD 0 ([], 0, 0, 0, 0) := by rw [show (0 : Int) = ((0 : Nat) : Int) from rfl, rdA_nat]
      simp only [impl_hintOk.l0, Int.ofNat_lt, h1, decide_true, cond_true, inB_nat, rdA_nat, getD_lt h1, h0, r0, hw]
      unfold sameSeg
      cases (h.2.2[n].2.1 != (h.2.2.getD 0 ([], 0, 0, 0, 0)).2.1) <;> cases decide (h.2.2[n].2.2.1 > 100000) <;> rfl)
    (fun rec => by simp [impl_hintOk.l0])
  have key : lp impl_hintOk.l0 (h, h.2.2, (h.2.2.length : Int), 0) = _ := key
  unfold impl_hintOk.f hintOk
  rw [key, Option.bind_some]
  simp only [impl_in_eq, impl_DirOk_eq h.2.2 (by omega), Option.bind_some]
  cases h.2.2.all (sameSeg h)
  · simp
  simp only [if_true, caseS_l, Bool.true_and]
  cases decide (0 ≤ h.1 ∧ h.1 ≤ 100000) <;> cases decide (0 ≤ h.2.1 ∧ h.2.1 ≤ 1000000) <;> simp [impl_DirOk_eq h.2.2 (show h.2.2.length < 2 ^ 62 by omega)]

def entT (e : EntryT) : List UInt8 := varT (e.1.length : Int) ++ e.1 ++ varT e.2.1 ++ varT e.2.2.1 ++ varT e.2.2.2.1 ++ varT e.2.2.2.2

def hintBd (h : HintT) : List UInt8 := varT h.1 ++ varT h.2.1 ++ varT (h.2.2.length : Int) ++ (h.2.2.map entT).flatten

def showHint (h : HintT) : List UInt8 := if hintOk h = false then [] else fix4 (crcT (hintBd h)) ++ hintBd h

theorem entry_key {e : EntryT} (h : entryOk e = true) : e.1.length ≤ 8 := by
  unfold entryOk keyOk at h
  simp only [Bool.and_eq_true, decide_eq_true_eq] at h
  omega

theorem riseE_mem : ∀ (l : List EntryT) (p : Option (List UInt8)), riseE p l = true → ∀ e ∈ l, entryOk e = true
  | [], _, _, e, he => by simp at he
  | x :: l, p, h, e, he => by
    simp only [riseE, Bool.and_eq_true] at h
    rcases List.mem_cons.1 he with c | he
    · subst c; exact h.1
    · exact riseE_mem l _ h.2.2 e he

theorem dirOk_mem {l : List EntryT} (h : dirOk l = true) : l.length ≤ 20 ∧ ∀ e ∈ l, entryOk e = true := by
  unfold dirOk at h
  simp only [Bool.and_eq_true, decide_eq_true_eq] at h
  exact ⟨h.2, riseE_mem l none h.1⟩

theorem entT_len {e : EntryT} (h : e.1.length ≤ 8) : (entT e).length ≤ 43 := by
  unfold entT
  have := varT_len (e.1.length : Int)
  have := varT_len e.2.1
  have := varT_len e.2.2.1
  have := varT_len e.2.2.2.1
  have := varT_len e.2.2.2.2
  simp only [List.length_append]; omega

theorem entsT_len : ∀ {l : List EntryT}, (∀ e ∈ l, e.1.length ≤ 8) → ((l.map entT).flatten).length ≤ 43 * l.length
  | [], _ => by simp
  | e :: l, h => by
    have h1 := entT_len (h e List.mem_cons_self)
    have h2 := entsT_len (l := l) fun x hx => h x (List.mem_cons_of_mem _ hx)
    rw [List.map_cons, List.flatten_cons, List.length_append, List.length_cons]; omega

theorem hint_parts {h : HintT} (k : hintOk h = true) : h.2.2.length ≤ 20 ∧ ∀ e ∈ h.2.2, e.1.length ≤ 8 := by
  unfold hintOk at k
  simp only [Bool.and_eq_true] at k
  have := dirOk_mem k.2.2.2
  exact ⟨this.1, fun e he => entry_key (this.2 e he)⟩

theorem hintB_len {h : HintT} (k : hintOk h = true) : (hintBd h).length ≤ 1000 := by
  obtain ⟨k1, k2⟩ := hint_parts k
  have := entsT_len k2
  have := varT_len h.1
  have := varT_len h.2.1
  have := varT_len (h.2.2.length : Int)
  unfold hintBd
  simp only [List.length_append]; omega

theorem impl_ShowHint_eq (h : HintT) (hl : h.2.2.length < 1000000000) : impl_ShowHint.f h = some (showHint h) := by
  unfold impl_ShowHint.f showHint
  rw [impl_hintOk_eq h hl, Option.bind_some]
  rcases Bool.eq_false_or_eq_true (hintOk h) with k | k
  rotate_left
  · simp [k]
  obtain ⟨k1, k2⟩ := hint_parts k
  have hB := hintB_len k
  have hf := fix4_len (crcT (hintBd h))
  have v1 := varT_len h.1
  have v2 := varT_len h.2.1
  have v3 := varT_len (h.2.2.length : Int)
  have e0 : impl_vars.f [h.1, h.2.1, (h.2.2.length : Int)] = some (varT h.1 ++ varT h.2.1 ++ varT (h.2.2.length : Int)) := by
    rw [impl_vars_eq _ (by simp)]; simp
  have key := lp_up (step := impl_ShowHint.l0) (fun n (acc : List UInt8) => (acc, h.2.2, (h.2.2.length : Int), (n : Int))) h.2.2.length (fun n acc => acc ++ ((h.2.2.drop n).map entT).flatten) (fun n acc => acc.length ≤ 21 + 43 * n)
    (fun rec n acc hn ha ih => by
      rcases Nat.lt_or_ge n h.2.2.length with h1 | h1
      · have hw := w64_succ (show n + 1 < 9223372036854775808 by omega)
        have hk := k2 _ (List.getElem_mem h1)
        have he := entT_len hk
        have ih := ih (acc ++ entT h.2.2[n]) h1 (by rw [List.length_append]; omega)
        have e1 : impl_vars.f [h.2.2[n].2.1, h.2.2[n].2.2.1, h.2.2[n].2.2.2.1, h.2.2[n].2.2.2.2] = some (varT h.2.2[n].2.1 ++ varT h.2.2[n].2.2.1 ++ varT h.2.2[n].2.2.2.1 ++ varT h.2.2[n].2.2.2.2) := by
          rw [impl_vars_eq _ (by simp)]; simp
        have e2 : (varT (h.2.2[n].1.length : Int) ++ h.2.2[n].1) ++ (varT h.2.2[n].2.1 ++ varT h.2.2[n].2.2.1 ++ varT h.2.2[n].2.2.2.1 ++ varT h.2.2[n].2.2.2.2) = entT h.2.2[n] := by
          unfold entT; simp only [List.append_assoc]
        have e3 : (varT (h.2.2[n].1.length : Int) ++ h.2.2[n].1).length + (varT h.2.2[n].2.1 ++ varT h.2.2[n].2.2.1 ++ varT h.2.2[n].2.2.2.1 ++ varT h.2.2[n].2.2.2.2).length ≤ 1000000000000000 := by
          rw [← List.length_append, e2]; omega
        simp only [impl_ShowHint.l0, Int.ofNat_lt, h1, decide_true, cond_true, inB_nat, rdA_nat, getD_lt h1, impl_textOf_eq h.2.2[n].1 (show h.2.2[n].1.length < 2 ^ 62 by omega), e1, Option.bind_some, lim63 e3, e2, lim63 (show acc.length + (entT h.2.2[n]).length ≤ 1000000000000000 by omega), hw, ih]
        rw [List.drop_eq_getElem_cons h1, List.map_cons, List.flatten_cons, List.append_assoc]
      · have : n = h.2.2.length := by omega
        subst this
        simp [impl_ShowHint.l0])
    (by omega) 0 (varT h.1 ++ varT h.2.1 ++ varT (h.2.2.length : Int)) (Nat.zero_le _) (by simp only [List.length_append]; omega)
  have key : lp impl_ShowHint.l0 (varT h.1 ++ varT h.2.1 ++ varT (h.2.2.length : Int), h.2.2, (h.2.2.length : Int), 0) = some (hintBd h) := by rw [show (0 : Int) = ((0 : Nat) : Int) from rfl, key]; rfl
  simp only [k, Bool.not_true, cond_false, e0, Option.bind_some, key, impl_Crc_eq (hintBd h) (by omega), impl_Fixed_eq, lim63 (show (fix4 (crcT (hintBd h))).length + (hintBd h).length ≤ 1000000000000000 by omega), cond_true, Bool.true_eq_false, if_false]

abbrev PlaceT := Int × SpotT

theorem impl_placed_eq (id : Int) (l : List SpotT) (hl : l.length < 1000000000) : impl_placed.f id l = some (l.map fun x => ((id, x) : PlaceT)) := by
  have key := lp_up (step := impl_placed.l0) (fun n (acc : List PlaceT) => (id, acc, l, (l.length : Int), (n : Int))) l.length (fun n acc => acc ++ (l.drop n).map fun x => ((id, x) : PlaceT)) (fun n acc => acc.length = n)
    (fun rec n acc hn ha ih => by
      rcases Nat.lt_or_ge n l.length with h | h
      · have hw := w64_succ (show n + 1 < 9223372036854775808 by omega)
        have hb : ∀ {α : Type} (x : α), decide ((acc.length + [x].length) * 88 ≤ 140737488355328) = true := fun x => decide_eq_true (by show (acc.length + 1) * 88 ≤ _; omega)
        have ih := ih (acc ++ [(id, l[n])]) h (by rw [List.length_append, ha]; rfl)
        simp only [impl_placed.l0, Int.ofNat_lt, h, decide_true, cond_true, inB_nat, rdA_nat, getD_lt h, hb, hw, ih]
        rw [List.drop_eq_getElem_cons h, List.map_cons, List.append_assoc]; rfl
      · have : n = l.length := by omega
        subst this
        simp [impl_placed.l0])
    (by omega) 0 [] (Nat.zero_le _) rfl
  have key : lp impl_placed.l0 (id, [], l, (l.length : Int), 0) = _ := key
  unfold impl_placed.f
  rw [key, Option.bind_some]
  simp

def fitsR (r : RecT) (l : List RecT) : Bool := (r.2.2.2.2.1 == (l.length : Int)) && (r.2.2.2.2.2 == sumOf l)

theorem impl_fits_eq (r : RecT) (l : List PlaceT) (hl : l.length < 1000000000) : impl_fits.f r l = some (fitsR r (l.map (·.2.2.2))) := by
  have key := lp_up (step := impl_fits.l0) (fun n (acc : List RecT) => (r, acc, l, (l.length : Int), (n : Int))) l.length (fun n acc => (r, acc ++ (l.drop n).map (·.2.2.2))) (fun n acc => acc.length = n)
    (fun rec n acc hn ha ih => by
      rcases Nat.lt_or_ge n l.length with h | h
      · have hw := w64_succ (show n + 1 < 9223372036854775808 by omega)
        have hb : ∀ {α : Type} (x : α), decide ((acc.length + [x].length) * 64 ≤ 140737488355328) = true := fun x => decide_eq_true (lim64R (by omega))
        have ih := ih (acc ++ [l[n].2.2.2]) h (by rw [List.length_append, ha]; rfl)
        simp only [impl_fits.l0, Int.ofNat_lt, h, decide_true, cond_true, inB_nat, rdA_nat, getD_lt h, hb, hw, ih]
        rw [List.drop_eq_getElem_cons h, List.map_cons, List.append_assoc]; rfl
      · have : n = l.length := by omega
        subst this
        simp [impl_fits.l0])
    (by omega) 0 [] (Nat.zero_le _) rfl
  have key : lp impl_fits.l0 (r, [], l, (l.length : Int), 0) = _ := key
  unfold impl_fits.f fitsR
  rw [key, Option.bind_some, List.drop_zero, List.nil_append]
  simp only [impl_SumOf_eq (l.map (·.2.2.2)) (by rw [List.length_map]; omega), Option.bind_some]
  cases (r.2.2.2.2.1 == ((l.map (·.2.2.2)).length : Int)) <;> rfl

abbrev zSpot : SpotT := (0, 0, 0, 0, [], [], 0, 0)

def entS (id : Int) (x : SpotT) : EntryT := (x.2.2.2.2.1, id, x.1, x.2.1, x.2.2.2.1)

def riseS (mark : Int) : Option (List UInt8) → List SpotT → Bool
  | _, [] => true
  | p, x :: r => (x.2.2.1 == 4) && (!decide (x.2.2.2.1 > mark) && ((match p with | none => true | some q => Op.bytesLess q x.2.2.2.2.1) && riseS mark (some x.2.2.2.2.1) r))

def beforeS (l : List SpotT) : Nat → Option (List UInt8)
  | 0 => none
  | n + 1 => some (l.getD n zSpot).2.2.2.2.1

theorem beforeS_succ (l : List SpotT) (n : Nat) (h : n < l.length) : beforeS l (n + 1) = some l[n].2.2.2.2.1 := by
  show some (l.getD n zSpot).2.2.2.2.1 = _
  rw [getD_lt h]

theorem impl_HintOf_l0 (id e mark : Int) (l : List SpotT) (k : Nat) (hk : k ≤ l.length) (hl : l.length < 1000000000) :
    lp impl_HintOf.l0 (id, (0, 0, []), l, (e, mark, []), l.take k, ((l.take k).length : Int), 0) = some (if riseS mark none (l.take k) = true then .inl ((0, 0, []), (e, mark, (l.take k).map (entS id))) else .inr ((0, 0, []), false)) := by
  have hlen : (l.take k).length = k := by rw [List.length_take]; omega
  have key := lp_up (step := impl_HintOf.l0) (fun n (acc : List EntryT) => (id, (0, 0, []), l, (e, mark, acc), l.take k, ((l.take k).length : Int), (n : Int))) k (fun n acc => if riseS mark (beforeS l n) ((l.take k).drop n) = true then .inl ((0, 0, []), (e, mark, acc ++ ((l.take k).drop n).map (entS id))) else .inr ((0, 0, []), false)) (fun n acc => acc.length = n)
    (fun rec n acc hn ha ih => by
      rcases Nat.lt_or_ge n k with h | h
      · have hw := w64_succ (show n + 1 < 9223372036854775808 by omega)
        have h1 : n < (l.take k).length := by omega
        have h2 : n < l.length := by omega
        have hx : (l.take k)[n] = l[n] := List.getElem_take
        have hb : ∀ {α : Type} (x : α), decide ((acc.length + [x].length) * 48 ≤ 140737488355328) = true := fun x => decide_eq_true (lim48 (by omega))
        have ih := ih (acc ++ [entS id l[n]]) h (by rw [List.length_append, ha]; rfl)
        rw [beforeS_succ l n h2] at ih
        rw [List.drop_eq_getElem_cons h1, hx]
        simp only [riseS, impl_HintOf.l0, Int.ofNat_lt, h1, decide_true, cond_true, inB_nat, rdA_nat, getD_lt h1, hx]
        rcases Bool.eq_false_or_eq_true (l[n].2.2.1 == 4) with k1 | k1
        rotate_left
        · simp only [bne, k1, Bool.not_false, cond_true, Option.bind_some, caseS_r, Bool.false_and, Bool.false_eq_true, if_false]
        rcases Bool.eq_false_or_eq_true (decide (l[n].2.2.2.1 > mark)) with k2 | k2
        · simp only [bne, k1, k2, Bool.not_true, Bool.not_false, cond_false, cond_true, Option.bind_some, caseS_r, Bool.false_and, Bool.true_and, Bool.false_eq_true, if_false]
        simp only [bne, k1, k2, Bool.not_true, Bool.not_false, cond_false, Bool.true_and, List.map_cons]
        cases n with
        | zero =>
          have z : ¬ ((0 : Nat) : Int) > 0 := by omega
          simp only [z, decide_false, cond_false, Option.bind_some, caseS_l, hb, cond_true, hw, beforeS, Bool.true_and]
          rw [show acc ++ entS id l[0] :: List.map (entS id) (List.drop (0 + 1) (List.take k l)) = acc ++ [entS id l[0]] ++ List.map (entS id) (List.drop (0 + 1) (List.take k l)) by rw [List.append_assoc]; rfl]
          exact ih
        | succ m =>
          have z : ((m + 1 : Nat) : Int) > 0 := by omega
          have hm : m < l.length := by omega
          have z2 : w64 (((m + 1 : Nat) : Int) - 1) = (m : Int) := by rw [w64_id (by omega) (by omega)]; omega
          rw [beforeS_succ l m hm]
          simp only [z, decide_true, cond_true, z2, inB_nat, hm, rdA_nat, getD_lt hm]
          rcases Bool.eq_false_or_eq_true (Op.bytesLess l[m].2.2.2.2.1 l[m + 1].2.2.2.2.1) with k3 | k3
          · simp only [k3, Bool.not_true, cond_false, Option.bind_some, caseS_l, hb, cond_true, hw, Bool.true_and]
            rw [show acc ++ entS id l[m + 1] :: List.map (entS id) (List.drop (m + 1 + 1) (List.take k l)) = acc ++ [entS id l[m + 1]] ++ List.map (entS id) (List.drop (m + 1 + 1) (List.take k l)) by rw [List.append_assoc]; rfl]
            exact ih
          · simp only [k3, Bool.not_false, cond_true, Option.bind_some, caseS_r, Bool.false_and, Bool.false_eq_true, if_false]
      · have : n = k := by omega
        subst this
        have hd : (l.take n).drop n = [] := by rw [List.drop_eq_nil_iff]; omega
        rw [hd]
        simp [impl_HintOf.l0, riseS, hlen])
    (by omega) 0 [] (Nat.zero_le _) rfl
  have key : lp impl_HintOf.l0 (id, (0, 0, []), l, (e, mark, []), l.take k, ((l.take k).length : Int), 0) = _ := key
  rw [key, List.drop_zero, List.nil_append]; rfl

/-- The hint of a segment's text. -/
noncomputable def hintOf (id : Int) (t : List UInt8) : HintT × Bool :=
  let l := (scan t).1
  let z := l.getD (l.length - 1) zSpot
  if l.length = 0 ∨ (scan t).2 ≠ t.length ∨ ¬ (1 ≤ id ∧ id ≤ 100000) ∨ z.2.2.1 ≠ 5 ∨ fitsR z.2.2 ((l.take (l.length - 1)).map (·.2.2)) = false ∨ riseS z.2.2.2.1 none (l.take (l.length - 1)) = false then ((0, 0, []), false)
  else (((t.length : Int), z.2.2.2.1, (l.take (l.length - 1)).map (entS id)), true)

theorem hintOf_len (id : Int) (t : List UInt8) : (hintOf id t).1.2.2.length ≤ t.length := by
  have := (scan_len t).2
  unfold hintOf
  simp only
  split
  · simp
  · simp only [List.length_map, List.length_take]; omega

theorem impl_HintOf_eq (id : Int) (t : List UInt8) (ht : t.length < 100000000) : impl_HintOf.f id t = some (hintOf id t) := by
  have hs := scan_len t
  unfold impl_HintOf.f hintOf
  rw [impl_ScanRecs_eq t (by omega), Option.bind_some]
  generalize (scan t).1 = l at *
  generalize (scan t).2 = e at *
  simp only
  rcases Nat.eq_zero_or_pos l.length with h0 | h0
  · have : decide (w64 (((0 : Nat) : Int) - 1) < 0) = true := by decide
    simp only [h0, this, cond_true, true_or, if_true]
  obtain ⟨k, hk⟩ : ∃ k, l.length = k + 1 := ⟨l.length - 1, by omega⟩
  have hw : w64 ((l.length : Int) - 1) = (k : Int) := by rw [w64_id (by omega) (by omega)]; omega
  have e1 : l.length - 1 = k := by omega
  have hkl : k < l.length := by omega
  have n0 : ¬ (k : Int) < 0 := by omega
  have n1 : (0 : Int) ≤ (k : Int) := by omega
  have n2 : (k : Int) ≤ (l.length : Int) := by omega
  have n3 : ¬ l.length = 0 := by omega
  rw [e1]
  simp only [hw, n0, n1, n2, n3, decide_false, decide_true, cond_false, Bool.and_self, cond_true, impl_in_eq, Option.bind_some, inB_nat, hkl, rdA_nat, Int.toNat_natCast, false_or]
  by_cases c1 : e = t.length
  rotate_left
  · have d1 : ((e : Int) != (t.length : Int)) = true := by simp; omega
    simp only [d1, cond_true, c1, ne_eq, not_false_eq_true, true_or, if_true]
  have d1 : ((e : Int) != (t.length : Int)) = false := by simp; omega
  by_cases c2 : 1 ≤ id ∧ id ≤ 100000
  rotate_left
  · simp only [d1, cond_false, c2, decide_false, Bool.not_false, cond_true, not_false_eq_true, true_or, or_true, if_true]
  by_cases c3 : (l.getD k zSpot).2.2.1 = 5
  rotate_left
  · have d3 : ((l.getD k zSpot).2.2.1 != 5) = true := by simpa using c3
    simp only [d1, d3, cond_false, c2, decide_true, Bool.not_true, cond_true, and_self, c3, ne_eq, not_false_eq_true, true_or, or_true, if_true]
  have d3 : ((l.getD k zSpot).2.2.1 != 5) = false := by simpa using c3
  have hpl := impl_placed_eq id (l.take k) (by rw [List.length_take]; omega)
  have hft := impl_fits_eq (l.getD k zSpot).2.2 ((l.take k).map fun x => ((id, x) : PlaceT)) (by rw [List.length_map, List.length_take]; omega)
  have hmm : ((l.take k).map fun x => ((id, x) : PlaceT)).map (·.2.2.2) = (l.take k).map (·.2.2) := by rw [List.map_map]; rfl
  rw [hmm] at hft
  subst c1
  simp only [d1, d3, cond_false, c2, decide_true, Bool.not_true, and_self, hpl, Option.bind_some, hft]
  simp only [c3, ne_eq, not_true_eq_false, false_or]
  rcases Bool.eq_false_or_eq_true (fitsR (l.getD k zSpot).2.2 ((l.take k).map (·.2.2))) with c4 | c4
  rotate_left
  · simp only [c4, Bool.not_false, cond_true, true_or, if_true]
  simp only [c4, Bool.not_true, cond_false, Bool.true_eq_false, false_or, impl_HintOf_l0 id (t.length : Int) (l.getD k zSpot).2.2.2.1 l k (by omega) (by omega), Option.bind_some]
  rcases Bool.eq_false_or_eq_true (riseS (l.getD k zSpot).2.2.2.1 none (l.take k)) with c5 | c5
  · simp only [c5, if_true, caseS_l, Bool.true_eq_false, if_false]
  · simp only [c5, Bool.false_eq_true, if_false, caseS_r, if_true]

theorem spec_SameDisk_self (d : DiskT) (h : d.1.length < 1000000000) : spec_SameDisk.f d d = some true := by
  have key := all_loop (step := spec_SameDisk.l0) d.1 (fun _ => true) (fun n => (d, d, (n : Int))) () (by omega)
    (fun rec n h1 => by
      have hw := w64_succ (show n + 1 < 9223372036854775808 by omega)
      simp only [spec_SameDisk.l0, Int.ofNat_lt, h1, decide_true, cond_true, inB_nat, rdA_nat, getD_lt h1, beq_self_eq_true, Bool.and_self, Bool.not_true, cond_false, hw, if_true])
    (fun rec => by simp [spec_SameDisk.l0])
  have key : lp spec_SameDisk.l0 (d, d, 0) = _ := key
  unfold spec_SameDisk.f
  have hall : d.1.all (fun _ => true) = true := by simp
  rw [key, hall]
  simp only [bne_self_eq_false, cond_false, beq_self_eq_true, Bool.not_true, if_true, Option.bind_some, caseS_l]

theorem srt_inj {α : Type} {l : List (List UInt8 × α)} (h : srt l) {i j : Nat} (hi : i < l.length) (hj : j < l.length) (e : l[i].1 = l[j].1) : i = j := by
  unfold srt at h
  rw [List.pairwise_iff_getElem] at h
  rcases Nat.lt_trichotomy i j with c | c | c
  · have := h i j hi hj c; rw [e, less_irrefl] at this; simp at this
  · exact c
  · have := h j i hj hi c; rw [e, less_irrefl] at this; simp at this

theorem fileText_mem {d : DiskT} (h : diskOk d = true) {f : FileT} (hf : f ∈ d.1) : fileText d f.1 = (f.2.1, true) := by
  have hs := ((diskOk_iff d).1 h).2.2.2.2.2
  unfold fileText
  rw [if_neg (by rw [h]; simp)]
  rcases fileIx_cases d.1 f.1 with ⟨e, hno⟩ | ⟨i, hi, e, hn⟩
  · exact absurd rfl (hno f hf)
  · rw [ix_some e]
    obtain ⟨j, hj, ej⟩ := List.getElem_of_mem hf
    have : i = j := srt_inj hs hi hj (by rw [hn, ej])
    subst this
    simp only
    rw [getD_lt hi, ej]

def dTrunc (n : List UInt8) (z : Int) (d : DiskT) : DiskT × Int := dstep d (actTrunc n z)

/-- When a step is done. -/
theorem dstep_zero {d : DiskT} {act : List FileT → Int × List FileT} (h : (dstep d act).2 = 0) : diskOk d = true ∧ (act d.1).1 = 0 ∧ (dstep d act).1 = ((act d.1).2, (tick d).2) := by
  unfold dstep at h ⊢
  split at h
  · simp at h
  rename_i c
  split at h
  · simp at h
  rename_i c2
  rw [if_neg c, if_neg c2]
  exact ⟨by simpa using c, h, rfl⟩

theorem riseE_pw : ∀ (l : List EntryT) (p : Option (List UInt8)), riseE p l = true → (∀ q, p = some q → ∀ x ∈ l, Op.bytesLess q x.1 = true) ∧ srt l
  | [], p, _ => ⟨fun _ _ x hx => by simp at hx, List.Pairwise.nil⟩
  | e :: l, p, h => by
    simp only [riseE, Bool.and_eq_true] at h
    obtain ⟨h1, h2⟩ := riseE_pw l (some e.1) h.2.2
    refine ⟨fun q hq x hx => ?_, List.Pairwise.cons (h1 e.1 rfl) h2⟩
    subst hq
    have hqe : Op.bytesLess q e.1 = true := h.2.1
    rcases List.mem_cons.1 hx with c | hx
    · rw [c]; exact hqe
    · exact less_trans _ _ _ hqe (h1 e.1 rfl x hx)

theorem dirOk_srt {l : List EntryT} (h : dirOk l = true) : srt l := by
  unfold dirOk at h
  simp only [Bool.and_eq_true] at h
  exact (riseE_pw l none h.1).2

theorem dirGet_mem {l : List EntryT} (h : srt l) {e : EntryT} (he : e ∈ l) : dirGet l e.1 = (e, true) := by
  unfold dirGet
  have hf : (l.find? fun x => x.1 == e.1) = some e := by
    induction l with
    | nil => simp at he
    | cons x l ih =>
      have h2 := List.pairwise_cons.1 h
      rw [List.find?_cons]
      rcases List.mem_cons.1 he with c | he
      · subst c; simp
      · have : (x.1 == e.1) = false := by simpa using less_ne (h2.1 e he)
        rw [this]
        exact ih h2.2 he
  rw [hf]

theorem storeOk_ent {s : StoreT} {d : DiskT} (h : storeOk s d = true) : ∀ e ∈ s.2.1, entOk d s.2.2.1 e = true := by
  unfold storeOk at h
  simp only [Bool.and_eq_true, List.all_eq_true] at h
  exact h.2.2.2.2.2

theorem getP_mem {s : StoreT} {d : DiskT} (h : storeOk s d = true) {e : EntryT} (he : e ∈ s.2.1) : (getP s d e.1).2 = 0 ∧ (getP s d e.1).1.1 = e.1 := by
  obtain ⟨q1, q2, q3, q4, q5⟩ := storeOk_parts h
  have hs := dirOk_srt q3
  have k := storeOk_ent h e he
  unfold entOk at k
  simp only [Bool.and_eq_true, Bool.or_eq_true, beq_iff_eq] at k
  unfold getP
  rw [dirGet_mem hs he]
  simp only [Bool.true_eq_false, if_false]
  rw [if_pos ⟨k.1, k.2.1, k.2.2.1⟩]
  exact ⟨rfl, rfl⟩

theorem dumpL_ok {s : StoreT} {d : DiskT} : ∀ (l : List EntryT) (acc : List PairT), (∀ e ∈ l, (getP s d e.1).2 = 0) → dumpL s d l acc = (acc ++ l.map fun e => (getP s d e.1).1, 0)
  | [], acc, _ => by simp [dumpL]
  | e :: r, acc, h => by
    unfold dumpL
    rw [if_neg (by rw [h e List.mem_cons_self]; simp), dumpL_ok r _ fun x hx => h x (List.mem_cons_of_mem _ hx)]
    simp

theorem dumpP_ok {s : StoreT} {d : DiskT} (h : storeOk s d = true) : dumpP s d = (s.2.1.map fun e => (getP s d e.1).1, 0) := by
  unfold dumpP
  rw [dumpL_ok s.2.1 [] fun e he => (getP_mem h he).1]
  simp

theorem dk_new (n : Int) (h : 0 ≤ n ∧ n ≤ 100000) : diskOk (([], n, -1, false) : DiskT) = true := by
  rw [diskOk_iff]; exact ⟨h, (show (-1 : Int) ≤ -1 ∧ (-1 : Int) ≤ 100000 by decide), (show 0 ≤ 130 by decide), h.1, by simp, List.Pairwise.nil⟩

theorem fileText_eq_none {d : DiskT} {n : List UInt8} (h : ∀ f ∈ d.1, f.1 ≠ n) : fileText d n = ([], false) := by
  unfold fileText
  split
  · rfl
  · rcases fileIx_cases d.1 n with ⟨e, hno⟩ | ⟨i, hi, e, hn⟩
    · rw [ix_none e]
    · exact absurd hn (h _ (List.getElem_mem hi))

theorem ft_same {d e : DiskT} (hd : diskOk d = true) (he : diskOk e = true) (n : List UInt8) (hm : ∀ t, (∃ s, ((n, t, s) : FileT) ∈ d.1) ↔ ∃ s, ((n, t, s) : FileT) ∈ e.1) : fileText e n = fileText d n := by
  by_cases c : ∃ t s, ((n, t, s) : FileT) ∈ d.1
  · obtain ⟨t, s, hs⟩ := c
    obtain ⟨s', hs'⟩ := (hm t).1 ⟨s, hs⟩
    have e1 := fileText_mem hd hs
    have e2 := fileText_mem he hs'
    exact e2.trans e1.symm
  · have h1 : ∀ f ∈ d.1, f.1 ≠ n := fun f hf e => c ⟨f.2.1, f.2.2, by rw [← e]; exact hf⟩
    have h2 : ∀ f ∈ e.1, f.1 ≠ n := fun f hf e' => by
      obtain ⟨s, hs⟩ := (hm f.2.1).2 ⟨f.2.2, by rw [← e']; exact hf⟩
      exact c ⟨_, _, hs⟩
    rw [fileText_eq_none h1, fileText_eq_none h2]

theorem ft_files {d : DiskT} {act : List FileT → Int × List FileT} (h : diskOk d = true) (hk : diskOk (dstep d act).1 = true) (n : List UInt8) (hm : ∀ t, (∃ s, ((n, t, s) : FileT) ∈ d.1) ↔ ∃ s, ((n, t, s) : FileT) ∈ (act d.1).2) : fileText (dstep d act).1 n = fileText d n := by
  refine ft_same h hk n fun t => ?_
  have hx : (dstep d act).1.1 = d.1 ∨ (dstep d act).1.1 = (act d.1).2 := by
    unfold dstep
    split
    · exact .inl rfl
    · split
      · exact .inl rfl
      · exact .inr rfl
  rcases hx with e | e
  · rw [e]
  · rw [e]; exact hm t

theorem mem_set_ne {l : List FileT} {i : Nat} (hi : i < l.length) {f : FileT} (hf : f.1 = l[i].1) {x : FileT} (hx : x.1 ≠ l[i].1) : x ∈ l.set i f ↔ x ∈ l := by
  constructor
  · intro h
    rcases List.mem_or_eq_of_mem_set h with h | e
    · exact h
    · rw [e] at hx; exact absurd hf hx
  · intro h
    obtain ⟨j, hj, e⟩ := List.getElem_of_mem h
    have hij : i ≠ j := fun c => by subst c; rw [e] at hx; exact hx rfl
    exact List.mem_iff_getElem.2 ⟨j, by simpa using hj, by rw [List.getElem_set, if_neg hij]; exact e⟩

theorem ft_Sync {d : DiskT} (h : diskOk d = true) (m n : List UInt8) : fileText (dSync m d).1 n = fileText d n := by
  refine ft_files h (dk_Sync h m) n fun t => ?_
  unfold actSync
  rcases fileIx_cases d.1 m with ⟨e, _⟩ | ⟨i, hi, e, hn⟩
  · rw [ix_none e]
  · rw [ix_some e]
    simp only
    rw [getD_lt hi]
    by_cases hne : n = m
    · subst hne
      have hs := ((diskOk_iff d).1 h).2.2.2.2.2
      have uniq : ∀ t s, ((n, t, s) : FileT) ∈ d.1 → d.1[i] = (n, t, s) := fun t s hx => by
        obtain ⟨j, hj, ej⟩ := List.getElem_of_mem hx
        have : i = j := srt_inj hs hi hj (by rw [hn, ej])
        subst this; exact ej
      constructor
      · rintro ⟨s, hx⟩
        refine ⟨(d.1[i].2.1.length : Int), List.mem_iff_getElem.2 ⟨i, by simpa using hi, ?_⟩⟩
        rw [List.getElem_set_self, uniq t s hx]
      · rintro ⟨s, hx⟩
        rcases List.mem_or_eq_of_mem_set hx with hx | e
        · exact ⟨s, hx⟩
        · have e1 : t = d.1[i].2.1 := congrArg (·.2.1) e
          refine ⟨d.1[i].2.2, ?_⟩
          rw [e1, ← hn]; exact List.getElem_mem hi
    · constructor
      · rintro ⟨s, hs⟩; exact ⟨s, (mem_set_ne (f := (d.1[i].1, d.1[i].2.1, (d.1[i].2.1.length : Int))) hi rfl (by rw [hn]; exact hne)).2 hs⟩
      · rintro ⟨s, hs⟩; exact ⟨s, (mem_set_ne (f := (d.1[i].1, d.1[i].2.1, (d.1[i].2.1.length : Int))) hi rfl (by rw [hn]; exact hne)).1 hs⟩

theorem ft_sstep {w : WorkT} {op : DiskT → DiskT × Int} {n : List UInt8} (ho : fileText (op w.1).1 n = fileText w.1 n) : fileText (sstep op w).1 n = fileText w.1 n := by
  unfold sstep; split
  · exact ho
  · rfl

abbrev tempN : List UInt8 := [116, 101, 109, 112]

abbrev liveN : List UInt8 := [108, 105, 118, 101]

theorem digs_inj : ∀ (k a b : Nat), a < k → Lib.decDigits a = Lib.decDigits b → a = b
  | 0, a, b, h, _ => by omega
  | k + 1, a, b, h, e => by
    have last : ∀ n : Nat, (Lib.decDigits n).getLast? = some (UInt8.ofNat (48 + n % 10)) := fun n => by
      by_cases c : n < 10
      · rw [Lib.decDigits_one c, Nat.mod_eq_of_lt c]; rfl
      · have := digs_step (n := n) (by omega)
        unfold digs at this
        rw [if_neg (by omega), if_neg (by omega)] at this
        rw [this]; simp
    have hm : a % 10 = b % 10 := by
      have h1 := last a
      rw [e, last b] at h1
      have h2 : UInt8.ofNat (48 + b % 10) = UInt8.ofNat (48 + a % 10) := Option.some.inj h1
      have h3 := congrArg UInt8.toNat h2
      simp only [UInt8.toNat_ofNat'] at h3
      omega
    by_cases ca : a < 10
    · by_cases cb : b < 10
      · omega
      · exfalso
        have := digs_step (n := b) (by omega)
        unfold digs at this
        rw [if_neg (by omega), if_neg (by omega)] at this
        rw [this, Lib.decDigits_one ca] at e
        have hl := congrArg List.length e
        have h0 : 0 < (Lib.decDigits (b / 10)).length := by
          cases hd : Lib.decDigits (b / 10) with
          | nil => have := last (b / 10); rw [hd] at this; simp at this
          | cons x l => simp
        simp only [List.length_append, List.length_cons, List.length_nil] at hl
        omega
    · by_cases cb : b < 10
      · exfalso
        have := digs_step (n := a) (by omega)
        unfold digs at this
        rw [if_neg (by omega), if_neg (by omega)] at this
        rw [this, Lib.decDigits_one cb] at e
        have hl := congrArg List.length e
        have h0 : 0 < (Lib.decDigits (a / 10)).length := by
          cases hd : Lib.decDigits (a / 10) with
          | nil => have := last (a / 10); rw [hd] at this; simp at this
          | cons x l => simp
        simp only [List.length_append, List.length_cons, List.length_nil] at hl
        omega
      · have e1 := digs_step (n := a) (by omega)
        have e2 := digs_step (n := b) (by omega)
        unfold digs at e1 e2
        rw [if_neg (by omega), if_neg (by omega)] at e1 e2
        rw [e1, e2] at e
        have := (List.append_inj' e rfl).1
        have := digs_inj k (a / 10) (b / 10) (by omega) this
        omega

theorem segName_inj {i j : Int} (hi : 1 ≤ i ∧ i ≤ 100000) (hj : 1 ≤ j ∧ j ≤ 100000) (h : segName i = segName j) : i = j := by
  unfold segName nameN at h
  rw [if_pos hi, if_pos hj] at h
  have := digs_inj (i.toNat + 1) i.toNat j.toNat (by omega) (List.append_cancel_left h)
  omega

theorem segName_temp (i : Int) : segName i ≠ tempN := by
  unfold segName nameN
  split
  · intro h; have := congrArg List.head? h; simp at this
  · simp

theorem segName_live (i : Int) : segName i ≠ liveN := by
  unfold segName nameN
  split
  · intro h; have := congrArg List.head? h; simp at this
  · simp

theorem segName_hint (i j : Int) (hi : 1 ≤ i ∧ i ≤ 100000) : segName i ≠ hintName j := by
  unfold segName hintName nameN
  rw [if_pos hi]
  split
  · intro h; have := congrArg List.head? h; simp at this
  · simp

theorem scan_nil : scan [] = ([], 0) := by
  have := scanAt_end (s := [])
  exact this

theorem sameDir_self (l : List EntryT) (hl : l.length < 1000000000) : spec_SameDir.f l l = some true := by
  have key := all_loop (step := spec_SameDir.l0) l (fun _ => true) (fun n => (l, l, (n : Int))) () (by omega)
    (fun rec n h1 => by
      have hw := w64_succ (show n + 1 < 9223372036854775808 by omega)
      simp only [spec_SameDir.l0, Int.ofNat_lt, h1, decide_true, cond_true, inB_nat, rdA_nat, getD_lt h1, beq_self_eq_true, Bool.and_self, Bool.not_true, cond_false, hw, if_true])
    (fun rec => by simp [spec_SameDir.l0])
  have key : lp spec_SameDir.l0 (l, l, 0) = _ := key
  unfold spec_SameDir.f
  have hall : l.all (fun _ => true) = true := by simp
  rw [key, hall]
  simp only [bne_self_eq_false, cond_false, if_true, Option.bind_some, caseS_l]

theorem frame_eq {t : List UInt8} (h : t.length ≤ 200) : frame t = fix4 (crcT (varT (t.length : Int) ++ t)) ++ (varN t.length ++ t) ∧ (fix4 (crcT (varT (t.length : Int) ++ t))).length = 4 := by
  unfold frame
  rw [if_neg (by omega), varT_nat t.length (by omega)]
  exact ⟨rfl, fix4_len4 (crcT_range _)⟩

theorem unframe_back {t : List UInt8} (h : t.length ≤ 200) (r : List UInt8) : unframe (frame t ++ r) = (t, ((frame t).length : Int)) := by
  obtain ⟨e, h4⟩ := frame_eq h
  have hb := rvT_back 7 true t.length (t ++ r) (by omega) (by simp) (by omega)
  generalize hC : fix4 (crcT (varT (t.length : Int) ++ t)) = C at *
  have hl : (frame t).length = 4 + (varN t.length).length + t.length := by rw [e]; simp only [List.length_append, h4]; omega
  have e1 : (frame t ++ r).drop 4 = varN t.length ++ (t ++ r) := by
    rw [e, List.append_assoc, ← h4, List.drop_left, List.append_assoc]
  have e2 : (frame t ++ r).take (4 + (varN t.length).length + t.length) = frame t := by rw [← hl, List.take_left]
  have e3 : (frame t).drop (4 + (varN t.length).length) = t := by
    rw [e, show C ++ (varN t.length ++ t) = (C ++ varN t.length) ++ t by rw [List.append_assoc], show 4 + (varN t.length).length = (C ++ varN t.length).length by rw [List.length_append, h4], List.drop_left]
  unfold unframe
  rw [if_neg (by rw [List.length_append]; omega), e1, hb]
  simp only
  rw [if_neg (by rw [List.length_append]; omega), e2, e3, if_pos rfl, hl]

theorem unframe_some {s : List UInt8} (h : (unframe s).2 ≠ 0) : ∃ t r, s = frame t ++ r ∧ t.length ≤ 200 ∧ unframe s = (t, ((frame t).length : Int)) := by
  have key : ∃ t r, s = frame t ++ r ∧ t.length ≤ 200 := by
    unfold unframe at h
    split at h
    · exact absurd rfl h
    split at h
    · exact absurd rfl h
    rename_i n k hr
    split at h
    · exact absurd rfl h
    rename_i c
    split at h
    · rename_i c2
      refine ⟨_, s.drop (4 + k + n), by rw [c2, List.take_append_drop], ?_⟩
      rw [List.length_drop, List.length_take]; omega
    · exact absurd rfl h
  obtain ⟨t, r, e, hl⟩ := key
  exact ⟨t, r, e, hl, by rw [e]; exact unframe_back hl r⟩

theorem frame_pos {t : List UInt8} (h : t.length ≤ 200) : 5 ≤ (frame t).length := by
  obtain ⟨e, h4⟩ := frame_eq h
  have := (varN_len 6 t.length (by omega)).1
  rw [e]; simp only [List.length_append, h4]; omega

theorem isRec_inj {s : List UInt8} {r q : RecT} (h : isRec s r) (k : isRec s q) : r = q := by
  have a := impl_ReadRec_back h
  rw [impl_ReadRec_back k] at a
  simp only [Option.some.injEq, Prod.mk.injEq, and_true] at a
  exact a.symm

theorem readRec_back {r : RecT} (h : recOk r = true) : readRec (showRec r) = (r, true) := by
  rcases readRec_cases (showRec r) with ⟨_, e⟩ | ⟨q, e, hq⟩
  · exact absurd ⟨r, h, rfl⟩ e
  · rw [e, isRec_inj hq ⟨h, rfl⟩]

def fr (r : RecT) : List UInt8 := frame (showRec r)

def txt (rs : List RecT) : List UInt8 := (rs.map fr).flatten

theorem fr_len (r : RecT) : 5 ≤ (fr r).length ∧ (fr r).length ≤ 71 := by
  have h := showRec_len r
  refine ⟨frame_pos (by omega), ?_⟩
  obtain ⟨e, h4⟩ := frame_eq (t := showRec r) (by omega)
  have := (varN_len 0 (showRec r).length (by omega)).2
  unfold fr
  rw [e]; simp only [List.length_append, h4]; omega

theorem txt_cons (r : RecT) (rs : List RecT) : txt (r :: rs) = fr r ++ txt rs := rfl

theorem scanAt_txt : ∀ (rs : List RecT) (p : List UInt8), (∀ r ∈ rs, recOk r = true) → (scanAt (p ++ txt rs) p.length).2 = p.length + (txt rs).length
  | [], p, _ => by
    have : p ++ txt [] = p := by simp [txt]
    rw [this, scanAt_end]; simp [txt]
  | r :: rs, p, h => by
    have hs := showRec_len r
    have hb := unframe_back (t := showRec r) (by omega) (txt rs)
    have hd : (p ++ txt (r :: rs)).drop p.length = frame (showRec r) ++ txt rs := by rw [List.drop_left]; rfl
    have hl := fr_len r
    rw [scanAt_step (n := (fr r).length) (by rw [hd, hb]; rfl) hl.1 (by rw [txt_cons]; simp only [List.length_append]; omega) (by rw [hd, hb]; simp only; rw [readRec_back (h r List.mem_cons_self)])]
    have ih := scanAt_txt rs (p ++ fr r) (fun x hx => h x (List.mem_cons_of_mem _ hx))
    rw [List.append_assoc, List.length_append] at ih
    show (scanAt (p ++ (fr r ++ txt rs)) (p.length + (fr r).length)).2 = _
    rw [ih, txt_cons, List.length_append]; omega

theorem scan_txt {rs : List RecT} (h : ∀ r ∈ rs, recOk r = true) : (scan (txt rs)).2 = (txt rs).length := by
  have := scanAt_txt rs [] h
  simpa [scan] using this

theorem scanAt_whole : ∀ (k : Nat) (s : List UInt8) (a : Nat), a ≤ s.length → s.length - a = k → (scanAt s a).2 = s.length → ∃ rs : List RecT, (∀ r ∈ rs, recOk r = true) ∧ s.drop a = txt rs := by
  intro k
  induction k using Nat.strongRecOn with
  | ind k ih =>
    intro s a ha hk hw
    by_cases c : (unframe (s.drop a)).2 = 0 ∨ (readRec (unframe (s.drop a)).1).2 = false
    · rw [scanAt_stop ha c] at hw
      have hw : a = s.length := hw
      exact ⟨[], by simp, by rw [hw, List.drop_length]; rfl⟩
    · have c1 : (unframe (s.drop a)).2 ≠ 0 := fun e => c (.inl e)
      have hr : (readRec (unframe (s.drop a)).1).2 = true := by
        cases e : (readRec (unframe (s.drop a)).1).2 with
        | true => rfl
        | false => exact absurd (.inr e) c
      obtain ⟨t, r, e1, e2, e3⟩ := unframe_some c1
      have h5 := frame_pos e2
      have hlen : a + (frame t).length ≤ s.length := by
        have : (s.drop a).length = (frame t ++ r).length := by rw [← e1]
        rw [List.length_drop, List.length_append] at this; omega
      rw [scanAt_step (n := (frame t).length) (by rw [e3]) h5 hlen hr] at hw
      obtain ⟨rs, g1, g2⟩ := ih (s.length - (a + (frame t).length)) (by omega) s (a + (frame t).length) hlen rfl hw
      have hd : s.drop (a + (frame t).length) = r := by rw [← List.drop_drop, e1, List.drop_left]
      rw [e3] at hr
      rcases readRec_cases t with ⟨z, _⟩ | ⟨q, z, hq⟩
      · rw [z] at hr; simp at hr
      · refine ⟨q :: rs, ?_, ?_⟩
        · intro x hx
          rcases List.mem_cons.1 hx with rfl | hx
          · exact hq.1
          · exact g1 x hx
        · rw [e1, txt_cons, ← g2, hd]
          show _ = frame (showRec q) ++ r
          rw [hq.2]

/-- A text that is whole: frames of records, one behind another. -/
def whole (s : List UInt8) : Prop := (scan s).2 = s.length

theorem whole_iff (s : List UInt8) : whole s ↔ ∃ rs : List RecT, (∀ r ∈ rs, recOk r = true) ∧ s = txt rs := by
  constructor
  · intro h
    obtain ⟨rs, h1, h2⟩ := scanAt_whole s.length s 0 (Nat.zero_le _) rfl h
    exact ⟨rs, h1, by simpa using h2⟩
  · rintro ⟨rs, h1, rfl⟩
    exact scan_txt h1

theorem whole_nil : whole [] := (whole_iff []).2 ⟨[], by simp, rfl⟩

theorem lastI_one (x : Int) : lastI [x] = x := rfl

theorem lastI_cons (x y : Int) (l : List Int) : lastI (x :: y :: l) = lastI (y :: l) := by
  unfold lastI
  simp only [List.length_cons, Nat.add_sub_cancel]
  rfl

theorem segsOk_iff {d : DiskT} {z : Int} : ∀ (ids : List Int), segsOk d z ids = true ↔ (∀ id ∈ ids, (fileText d (segName id)).2 = true ∧ whole (fileText d (segName id)).1) ∧ (ids ≠ [] → z = ((fileText d (segName (lastI ids))).1.length : Int))
  | [] => by simp [segsOk]
  | [x] => by
    unfold segsOk segOk segsOk whole
    simp only [List.isEmpty_nil, Bool.not_true, Bool.false_or, Bool.and_true, Bool.and_eq_true, decide_eq_true_eq, List.mem_singleton, forall_eq, lastI_one]
    constructor
    · rintro ⟨h1, h2, h3⟩; exact ⟨⟨h1, h2⟩, fun _ => h3⟩
    · rintro ⟨⟨h1, h2⟩, h3⟩; exact ⟨h1, h2, h3 (by simp)⟩
  | x :: y :: l => by
    have ih := segsOk_iff (d := d) (z := z) (y :: l)
    unfold segsOk segOk
    rw [Bool.and_eq_true, ih]
    simp only [List.isEmpty_cons, Bool.not_false, Bool.true_or, Bool.and_true, Bool.and_eq_true, decide_eq_true_eq, lastI_cons]
    constructor
    · rintro ⟨⟨h1, h2⟩, h3, h4⟩
      refine ⟨fun id hid => ?_, fun _ => h4 (by simp)⟩
      rcases List.mem_cons.1 hid with rfl | hid
      · exact ⟨h1, h2⟩
      · exact h3 id hid
    · rintro ⟨h3, h4⟩
      exact ⟨h3 x List.mem_cons_self, fun id hid => h3 id (List.mem_cons_of_mem _ hid), fun _ => h4 (by simp)⟩

/-- What stands where an entry points to. -/
noncomputable def entAt (d : DiskT) (e : EntryT) : RecT × Bool := recAt (fileText d (segName e.2.1)).1 e.2.2.1 e.2.2.2.1

theorem entOk_iff {d : DiskT} {b : Int} {e : EntryT} : entOk d b e = true ↔ (entAt d e).2 = true ∧ ((entAt d e).1.1 = 1 ∨ (entAt d e).1.1 = 4) ∧ (entAt d e).1.2.2.1 = e.1 ∧ (entAt d e).1.2.1 = e.2.2.2.2 ∧ e.2.2.2.2 < b := by
  unfold entOk entAt
  simp only [Bool.and_eq_true, Bool.or_eq_true, beq_iff_eq, Bool.not_eq_true', decide_eq_false_iff_not, ge_iff_le, Int.not_le]

/-- What entries of segments that there were point to, stays. -/
def Keeps (m : Int) (d d' : DiskT) : Prop := ∀ e : EntryT, 1 ≤ e.2.1 → e.2.1 < m → (entAt d e).2 = true → entAt d' e = entAt d e

theorem Keeps.trans {m m' : Int} {d d' d'' : DiskT} (h : Keeps m d d') (h' : Keeps m' d' d'') (hm : m ≤ m') : Keeps m d d'' := fun e h1 h2 h3 => by
  have k := h e h1 h2 h3
  rw [h' e h1 (by omega) (by rw [k]; exact h3), k]

def EntLt (s : StoreT) : Prop := ∀ e ∈ s.2.1, e.2.1 < s.1.1

theorem storeOk_iff {s : StoreT} {d : DiskT} : storeOk s d = true ↔ diskOk d = true ∧ liveOk s.1 = true ∧ dirOk s.2.1 = true ∧ (1 ≤ s.2.2.1 ∧ s.2.2.1 ≤ 1000001) ∧ segsOk d s.2.2.2.1 s.1.2 = true ∧ ∀ e ∈ s.2.1, entOk d s.2.2.1 e = true := by
  unfold storeOk
  simp only [Bool.and_eq_true, decide_eq_true_eq, List.all_eq_true]

structure AddOk (s : StoreT) (d : DiskT) (s' : StoreT) (d' : DiskT) : Prop where
  ok : storeOk s' d' = true
  dir : s'.2.1 = s.2.1
  bat : s'.2.2.1 = s.2.2.1
  nxt : s.1.1 ≤ s'.1.1
  kp : Keeps s.1.1 d d'

theorem AddOk.lt {s : StoreT} {d : DiskT} {s' : StoreT} {d' : DiskT} (h : AddOk s d s' d') (hl : EntLt s) : EntLt s' := fun e he => by
  rw [h.dir] at he
  have := hl e he
  have := h.nxt
  omega

theorem AddOk.trans {s : StoreT} {d : DiskT} {s' : StoreT} {d' : DiskT} {s'' : StoreT} {d'' : DiskT} (h : AddOk s d s' d') (k : AddOk s' d' s'' d'') : AddOk s d s'' d'' :=
  ⟨k.ok, by rw [k.dir, h.dir], by rw [k.bat, h.bat], by have := h.nxt; have := k.nxt; omega, h.kp.trans k.kp h.nxt⟩

def mapG {α β : Type} (g : α → β) (l : List (List UInt8 × α)) : List (List UInt8 × β) := l.map fun x => (x.1, g x.2)

/-- What an entry's pair has beside the key. -/
noncomputable def valAt (d : DiskT) (x : Int × Int × Int × Int) : List UInt8 × Int :=
  ((recAt (fileText d (segName x.1)).1 x.2.1 x.2.2.1).1.2.2.2.1, (recAt (fileText d (segName x.1)).1 x.2.1 x.2.2.1).1.2.1)

theorem dump_map {s : StoreT} {d : DiskT} (h : storeOk s d = true) : dumpP s d = (mapG (valAt d) s.2.1, 0) := by
  rw [dumpP_ok h]
  congr 1
  unfold mapG
  refine List.map_congr_left fun e he => ?_
  obtain ⟨q1, q2, q3, q4, q5, q6⟩ := storeOk_iff.1 h
  have k := entOk_iff.1 (q6 e he)
  unfold entAt at k
  unfold getP
  rw [dirGet_mem (dirOk_srt q3) he]
  simp only [Bool.true_eq_false, if_false]
  rw [if_pos ⟨k.1, k.2.1, k.2.2.1⟩]
  rfl

theorem digs_name : ∀ (k n : Nat), n < k → (Lib.decDigits n).all nameB = true
  | 0, n, h => by omega
  | k + 1, n, h => by
    have hb : ∀ m, m < 10 → nameB (UInt8.ofNat (48 + m)) = true := fun m hm => by
      unfold nameB
      have : (UInt8.ofNat (48 + m)).toNat = 48 + m := by simp only [UInt8.toNat_ofNat']; omega
      rw [this]
      simp; omega
    by_cases c : n < 10
    · rw [Lib.decDigits_one c, List.all_cons, hb n c]; rfl
    · have := digs_step (n := n) (by omega)
      unfold digs at this
      rw [if_neg (by omega), if_neg (by omega)] at this
      rw [this, List.all_append, digs_name k (n / 10) (by omega), List.all_cons, hb (n % 10) (by omega)]; rfl

/-- A disk with power, so much used, so many files. -/
structure Room (c u f : Nat) (d : DiskT) : Prop where
  dk : diskOk d = true
  tl : d.2 = ((c : Int), -1, false)
  us : usedN d.1 ≤ u
  fl : d.1.length ≤ f

theorem sameStore_self (s : StoreT) (h1 : s.1.2.length < 1000000000) (h2 : s.2.1.length < 1000000000) : spec_SameStore.f s s = some true := by
  have key := all_loop (step := spec_SameStore.l0) s.1.2 (fun _ => true) (fun n => (s, s, (n : Int))) (s, s) (by omega)
    (fun rec n h => by
      have hw := w64_succ (show n + 1 < 9223372036854775808 by omega)
      simp only [spec_SameStore.l0, Int.ofNat_lt, h, decide_true, cond_true, inB_nat, rdA_nat, getD_lt h, bne_self_eq_false, cond_false, hw, if_true])
    (fun rec => by simp [spec_SameStore.l0])
  have key : lp spec_SameStore.l0 (s, s, 0) = _ := key
  unfold spec_SameStore.f
  have hall : s.1.2.all (fun _ => true) = true := by simp
  rw [key, hall]
  simp only [bne_self_eq_false, cond_false, if_true, Option.bind_some, caseS_l, sameDir_self s.2.1 h2]

def kn (n : Nat) : List UInt8 := [107] ++ Lib.decDigits n

theorem kn_len {n : Nat} (h : n < 100) : 1 ≤ (kn n).length ∧ (kn n).length ≤ 3 := by
  have := digits_len 1 n (by omega)
  unfold kn
  rw [List.length_append]
  show 1 ≤ 1 + _ ∧ 1 + _ ≤ 3
  omega

/-- Puts of keys in a row. -/
def NewPs : Nat → List PutT → Prop
  | _, [] => True
  | m, p :: r => p.1 = kn m ∧ p.2.1 = false ∧ p.2.2.length ≤ 24 ∧ NewPs (m + 1) r

theorem NewPs.mem : ∀ (l : List PutT) (m : Nat), NewPs m l → ∀ p ∈ l, ∃ i, m ≤ i ∧ i < m + l.length ∧ p.1 = kn i ∧ p.2.1 = false ∧ p.2.2.length ≤ 24
  | [], m, _, p, hp => by simp at hp
  | q :: l, m, h, p, hp => by
    simp only [List.length_cons]
    rcases List.mem_cons.1 hp with rfl | hp
    · exact ⟨m, Nat.le_refl _, by omega, h.1, h.2.1, h.2.2.1⟩
    · obtain ⟨i, h1, h2, h3⟩ := NewPs.mem l (m + 1) h.2.2.2 p hp
      exact ⟨i, by omega, by omega, h3⟩

theorem NewPs.ok {l : List PutT} {m : Nat} (h : NewPs m l) (hm : m + l.length ≤ 100) (hl : l.length ≤ 8) : putsOk l = true := by
  unfold putsOk
  simp only [Bool.and_eq_true, decide_eq_true_eq, List.all_eq_true]
  refine ⟨hl, fun p hp => ?_⟩
  obtain ⟨i, h1, h2, h3, h4, h5⟩ := NewPs.mem l m h p hp
  have := kn_len (n := i) (by omega)
  unfold putOk keyOk
  rw [h3, h4]
  simp; omega

/-- The keys of a directory are just the first ones. -/
def KeysD (dir : List EntryT) (m : Nat) : Prop := (∀ e ∈ dir, ∃ i, i < m ∧ e.1 = kn i) ∧ dir.length = m

/-- All keys of the first ones are there. -/
def KeysF (P : List PairT) (m : Nat) : Prop := (∀ x ∈ P, ∃ i, i < m ∧ x.1 = kn i) ∧ ∀ i, i < m → ∃ x ∈ P, x.1 = kn i

/-- The store behind so many batches of four. -/
structure Work (j : Nat) (s : StoreT) (d : DiskT) : Prop where
  ok : storeOk s d = true
  lt : EntLt s
  room : Room 9000 (211 + 1410 * j) (2 + 10 * j) d
  ids : s.1.2.length ≤ 1 + 5 * j
  nxt : s.1.1 ≤ ((2 + 5 * j : Nat) : Int)
  bat : s.2.2.1 = ((1 + j : Nat) : Int)
  keys : KeysF (dumpP s d).1 (4 * j)
  len : s.2.1.length = 4 * j

theorem Work.dir {j : Nat} {s : StoreT} {d : DiskT} (h : Work j s d) : KeysD s.2.1 (4 * j) := by
  refine ⟨fun e he => ?_, h.len⟩
  have hm : (e.1, valAt d e.2) ∈ (dumpP s d).1 := by rw [dump_map h.ok]; exact List.mem_map.2 ⟨e, he, rfl⟩
  exact h.keys.1 _ hm

def isDig (b : UInt8) : Bool := decide (48 ≤ b.toNat) && decide (b.toNat ≤ 57)

def digStep (a : Nat × Nat) (b : UInt8) : Nat × Nat := if isDig b = true then (a.1 * 10 + (b.toNat - 48), a.2 + 1) else a

theorem digFold_digits : ∀ (k n : Nat), n < k → ∀ (a : Nat × Nat), (Lib.decDigits n).foldl digStep a = (a.1 * 10 ^ (Lib.decDigits n).length + n, a.2 + (Lib.decDigits n).length)
  | 0, n, h, a => by omega
  | k + 1, n, h, a => by
    have hd : ∀ m, m < 10 → ∀ a : Nat × Nat, digStep a (UInt8.ofNat (48 + m)) = (a.1 * 10 + m, a.2 + 1) := fun m hm a => by
      have e : (UInt8.ofNat (48 + m)).toNat = 48 + m := by simp only [UInt8.toNat_ofNat']; omega
      unfold digStep isDig
      rw [e, if_pos (by simp; omega)]
      simp
    by_cases c : n < 10
    · rw [Lib.decDigits_one c]
      simp only [List.foldl_cons, List.foldl_nil, List.length_cons, List.length_nil]
      rw [hd n c]
    · have := digs_step (n := n) (by omega)
      unfold digs at this
      rw [if_neg (by omega), if_neg (by omega)] at this
      rw [this, List.foldl_append, digFold_digits k (n / 10) (by omega), List.foldl_cons, List.foldl_nil, hd _ (by omega)]
      simp only [List.length_append, List.length_cons, List.length_nil, Nat.zero_add, Prod.mk.injEq]
      constructor
      · rw [Nat.pow_succ, ← Nat.mul_assoc, Nat.add_mul]; omega
      · omega

theorem hintName_inj {i j : Int} (hi : 1 ≤ i ∧ i ≤ 100000) (hj : 1 ≤ j ∧ j ≤ 100000) (h : hintName i = hintName j) : i = j := by
  unfold hintName nameN at h
  rw [if_pos hi, if_pos hj] at h
  have := digs_inj (i.toNat + 1) i.toNat j.toNat (by omega) (List.append_cancel_left h)
  omega

/-- A name of a segment or of a hint. -/
def named (name : List UInt8) (id : Int) : Prop := (1 ≤ id ∧ id ≤ 100000) ∧ (name = segName id ∨ name = hintName id)

theorem named_inj {name : List UInt8} {i j : Int} (hi : named name i) (hj : named name j) : i = j := by
  obtain ⟨h1, h2⟩ := hi
  obtain ⟨k1, k2⟩ := hj
  rcases h2 with h2 | h2 <;> rcases k2 with k2 | k2
  · exact segName_inj h1 k1 (h2.symm.trans k2)
  · exact absurd (h2.symm.trans k2) (segName_hint i j h1)
  · exact absurd (k2.symm.trans h2) (segName_hint j i k1)
  · exact hintName_inj h1 k1 (h2.symm.trans k2)

noncomputable def idOf (name : List UInt8) : Int × Bool := @dite (Int × Bool) (∃ id, named name id) (Classical.propDecidable _) (fun h => (h.choose, true)) (fun _ => (0, false))

theorem idOf_yes {name : List UInt8} {id : Int} (h : named name id) : idOf name = (id, true) := by
  have hx : ∃ id, named name id := ⟨id, h⟩
  unfold idOf
  rw [dif_pos hx, named_inj hx.choose_spec h]

theorem idOf_no {name : List UInt8} (h : ¬ ∃ id, named name id) : idOf name = (0, false) := by
  unfold idOf; rw [dif_neg h]

noncomputable def orphB (v : LiveT) (f : FileT) : Bool := ((idOf f.1).2 && !(v.2.any fun i => i == (idOf f.1).1)) || f.1 == tempN

noncomputable def orphP (d : DiskT) (v : LiveT) : List (List UInt8) := if diskOk d = false then [] else (d.1.filter (orphB v)).map (·.1)

theorem lim16' {a : Nat} (h : a < 1000000000001) : (a + 1) * 16 ≤ 140737488355328 := by omega

theorem sstep_inv {op : DiskT → DiskT × Int} {w : WorkT} (h : (sstep op w).2 = 0) : w.2 = 0 ∧ (op w.1).2 = 0 ∧ sstep op w = op w.1 := by
  unfold sstep at h ⊢
  split at h
  · rename_i c; rw [if_pos c]; exact ⟨c, h, rfl⟩
  · rename_i c; exact absurd h c

theorem parseUint_snoc (d : UInt8) : ∀ (l : List UInt8) (a u : Nat), Lib.parseUint10 a l = .ok u → (48 ≤ d.toNat ∧ d.toNat ≤ 57) → u < 1000000000000 → Lib.parseUint10 a (l ++ [d]) = .ok (u * 10 + (d.toNat - 48))
  | [], a, u, h, hd, hu => by
    have h : a = u := by simp only [Lib.parseUint10] at h; injection h
    subst h
    show Lib.parseUint10 a [d] = _
    rw [Lib.parseUint10, if_pos hd, if_neg (by omega), if_neg (by omega)]
    rfl
  | c :: l, a, u, h, hd, hu => by
    rw [List.cons_append, Lib.parseUint10]
    rw [Lib.parseUint10] at h
    split
    · rename_i c1
      rw [if_pos c1] at h
      split
      · rename_i c2; rw [if_pos c2] at h; cases h
      · rename_i c2
        rw [if_neg c2] at h
        split
        · rename_i c3; rw [if_pos c3] at h; cases h
        · rename_i c3
          rw [if_neg c3] at h
          exact parseUint_snoc d l _ u h hd hu
    · rename_i c1
      rw [if_neg c1] at h; cases h

theorem parseUint_digits : ∀ (k n : Nat), n < k → n < 1000000000000 → Lib.parseUint10 0 (Lib.decDigits n) = .ok n
  | 0, n, h, _ => by omega
  | k + 1, n, h, hn => by
    have e : ∀ m, m < 10 → (UInt8.ofNat (48 + m)).toNat = 48 + m := fun m hm => by simp only [UInt8.toNat_ofNat']; omega
    by_cases c : n < 10
    · rw [Lib.decDigits_one c, Lib.parseUint10, e n c, if_pos (by omega), if_neg (by omega), if_neg (by omega), Lib.parseUint10]
      congr 1; omega
    · have := digs_step (n := n) (by omega)
      unfold digs at this
      rw [if_neg (by omega), if_neg (by omega)] at this
      rw [this, parseUint_snoc _ _ 0 (n / 10) (parseUint_digits k (n / 10) (by omega) (by omega)) (by rw [e _ (by omega)]; omega) (by omega), e _ (by omega)]
      congr 1; omega

theorem digits_ne (n : Nat) : Lib.decDigits n ≠ [] := fun e => by
  have h1 := digFold_digits (n + 1) n (by omega) (1, 0)
  rw [e] at h1
  have h2 := digFold_digits (n + 1) n (by omega) (0, 0)
  rw [e] at h2
  simp at h1 h2
  subst h2
  rw [Lib.decDigits_one (by omega)] at e
  simp at e

theorem digits_head (n : Nat) {c : UInt8} {r : List UInt8} (h : Lib.decDigits n = c :: r) : isDig c = true := by
  have ha := digs_name (n + 1) n (by omega)
  have key : ∀ (k n : Nat), n < k → ∀ b ∈ Lib.decDigits n, isDig b = true := by
    intro k
    induction k with
    | zero => intro n h; omega
    | succ k ih =>
      intro n h b hb
      have e : ∀ m, m < 10 → isDig (UInt8.ofNat (48 + m)) = true := fun m hm => by
        unfold isDig
        have : (UInt8.ofNat (48 + m)).toNat = 48 + m := by simp only [UInt8.toNat_ofNat']; omega
        rw [this]; simp; omega
      by_cases c : n < 10
      · rw [Lib.decDigits_one c] at hb
        rw [List.mem_singleton.1 hb]; exact e n c
      · have := digs_step (n := n) (by omega)
        unfold digs at this
        rw [if_neg (by omega), if_neg (by omega)] at this
        rw [this] at hb
        rcases List.mem_append.1 hb with hb | hb
        · exact ih (n / 10) (by omega) b hb
        · rw [List.mem_singleton.1 hb]; exact e _ (by omega)
  exact key (n + 1) n (by omega) c (by rw [h]; exact List.mem_cons_self)

theorem atoiAll_digits {n : Nat} (hn : n < 1000000000000) : Lib.atoiAll (Lib.decDigits n) = .ok (n : Int) := by
  have hp := parseUint_digits (n + 1) n (by omega) hn
  cases e : Lib.decDigits n with
  | nil => exact absurd e (digits_ne n)
  | cons c r =>
    have hd := digits_head n e
    unfold isDig at hd
    simp only [Bool.and_eq_true, decide_eq_true_eq] at hd
    rw [Lib.atoiAll_plain c r (by omega) (by omega)]
    rw [e] at hp
    unfold Lib.parseMag
    rw [if_neg (by simp), hp]
    unfold Lib.signless
    simp
    omega

/-- What the program reads. -/
def readDecI (s : List UInt8) : Int × Bool :=
  match Lib.atoiAll s with
  | .ok n => if Lib.itoa n = s ∧ -999999999 ≤ n ∧ n ≤ 999999999 then (n, true) else (0, false)
  | _ => (0, false)

theorem impl_Dec_eq (n : Int) (h : -9223372036854775808 ≤ n ∧ n ≤ 9223372036854775807) : impl_Dec.f n = some (Lib.itoa n) := by
  unfold impl_Dec.f strconv_Itoa.f
  have : (decide (-9223372036854775808 ≤ n) && decide (n ≤ 9223372036854775807)) = true := by simp; omega
  rw [this]; rfl

theorem impl_ReadDec_eq (s : List UInt8) (hl : s.length < 1000000000000) : impl_ReadDec.f s = some (readDecI s) := by
  unfold impl_ReadDec.f readDecI strconv_Atoi.f
  have h1 : decide (s.length ≤ 281474976710656) = true := by simp; omega
  rw [h1, cond_true]
  rcases num3 (Lib.atoiAll s) with ⟨n, ha⟩ | ha | ha
  · rw [ha]
    have hb := Lib.atoiAll_bounds ha
    simp only [Option.bind_some, cond_false, impl_Dec_eq n hb, impl_in_eq]
    by_cases c : Lib.itoa n = s
    · have : (Lib.itoa n == s) = true := by simpa using c
      simp only [this, Bool.not_true, cond_false]
      by_cases c2 : -999999999 ≤ n ∧ n ≤ 999999999
      · rw [if_pos ⟨c, c2⟩]
        simp [c2]
      · rw [if_neg (fun z => c2 z.2)]
        have : decide (-999999999 ≤ n ∧ n ≤ 999999999) = false := decide_eq_false c2
        simp only [this, Bool.not_false, cond_true]
    · have : (Lib.itoa n == s) = false := by simpa using c
      rw [if_neg (fun z => c z.1)]
      simp only [this, Bool.not_false, cond_true]
  · simp [ha]
  · simp [ha]

theorem readDecI_true {s : List UInt8} {n : Int} (h : readDecI s = (n, true)) : Lib.itoa n = s := by
  unfold readDecI at h
  split at h
  · split at h
    · rename_i c
      simp only [Prod.mk.injEq, and_true] at h
      rw [← h]; exact c.1
    · simp at h
  · simp at h

theorem readDecI_digits {n : Nat} (h : n ≤ 100000) : readDecI (Lib.decDigits n) = ((n : Int), true) := by
  unfold readDecI
  rw [atoiAll_digits (by omega)]
  simp only
  rw [if_pos ⟨itoa_nat n, by omega, by omega⟩]

theorem HasPrefix_eq (s p : List UInt8) : stringslite_HasPrefix.f s p = some (decide (p.length ≤ s.length) && (s.take p.length == p)) := by
  unfold stringslite_HasPrefix.f
  by_cases c : p.length ≤ s.length
  · have c1 : (s.length : Int) ≥ (p.length : Int) := by omega
    have c2 : (decide (0 ≤ (p.length : Int)) && decide ((p.length : Int) ≤ (s.length : Int))) = true := by simp; omega
    rw [c2, decide_eq_true c1, cond_true, cond_true, decide_eq_true c, Bool.true_and, Int.toNat_natCast]
  · have c1 : ¬ (s.length : Int) ≥ (p.length : Int) := by omega
    simp only [c1, c, decide_false, cond_false, Bool.false_and]

theorem CutPrefix_yes (p r : List UInt8) : strings_CutPrefix.f (p ++ r) p = some (r, true) := by
  unfold strings_CutPrefix.f stringslite_CutPrefix.f
  rw [HasPrefix_eq]
  have c1 : decide (p.length ≤ (p ++ r).length) = true := by simp
  have c2 : ((p ++ r).take p.length == p) = true := by rw [List.take_left]; simp
  have c3 : (decide (0 ≤ (p.length : Int)) && decide ((p.length : Int) ≤ ((p ++ r).length : Int))) = true := by rw [List.length_append]; simp; omega
  simp only [c1, c2, Bool.true_and, Option.bind_some, Bool.not_true, cond_false, c3, cond_true, Int.toNat_natCast, List.drop_left]

theorem CutPrefix_no {s p : List UInt8} (h : ¬ ∃ r, s = p ++ r) : strings_CutPrefix.f s p = some (s, false) := by
  unfold strings_CutPrefix.f stringslite_CutPrefix.f
  rw [HasPrefix_eq]
  have c : (decide (p.length ≤ s.length) && (s.take p.length == p)) = false := by
    cases e : (decide (p.length ≤ s.length) && (s.take p.length == p)) with
    | false => rfl
    | true =>
      simp only [Bool.and_eq_true, decide_eq_true_eq, beq_iff_eq] at e
      exact absurd ⟨s.drop p.length, by rw [← e.2, List.length_take, Nat.min_eq_left e.1, List.take_append_drop]⟩ h
  simp only [c, Option.bind_some, Bool.not_false, cond_true]

theorem seg_pre {id : Int} (h : 1 ≤ id ∧ id ≤ 100000) : segName id = [115, 101, 103] ++ Lib.decDigits id.toNat := by unfold segName nameN; rw [if_pos h]

theorem hint_pre {id : Int} (h : 1 ≤ id ∧ id ≤ 100000) : hintName id = [104, 105, 110, 116] ++ Lib.decDigits id.toNat := by unfold hintName nameN; rw [if_pos h]

/-- What stands behind the word tells the number. -/
theorem idOf_rest {w r : List UInt8} {name : List UInt8} (hn : name = w ++ r) (hw : (w = [115, 101, 103] ∧ ∀ id, 1 ≤ id ∧ id ≤ 100000 → name ≠ hintName id) ∨ (w = [104, 105, 110, 116] ∧ ∀ id, 1 ≤ id ∧ id ≤ 100000 → name ≠ segName id)) :
    (if (readDecI r).2 = true ∧ 1 ≤ (readDecI r).1 ∧ (readDecI r).1 ≤ 100000 then ((readDecI r).1, true) else (0, false)) = idOf name := by
  have hnm : ∀ id, 1 ≤ id ∧ id ≤ 100000 → Lib.decDigits id.toNat = r → named name id := fun id hid e => by
    refine ⟨hid, ?_⟩
    rcases hw with ⟨hw, _⟩ | ⟨hw, _⟩
    · left; rw [hn, hw, ← e, seg_pre hid]
    · right; rw [hn, hw, ← e, hint_pre hid]
  by_cases c : (readDecI r).2 = true ∧ 1 ≤ (readDecI r).1 ∧ (readDecI r).1 ≤ 100000
  · rw [if_pos c]
    have ht : readDecI r = ((readDecI r).1, true) := by rw [← c.1]
    have hi := readDecI_true ht
    generalize (readDecI r).1 = n at c hi
    obtain ⟨m, rfl⟩ : ∃ m : Nat, n = (m : Int) := ⟨n.toNat, by omega⟩
    rw [itoa_nat] at hi
    exact (idOf_yes (hnm (m : Int) c.2 (by rw [Int.toNat_natCast]; exact hi))).symm
  · rw [if_neg c, idOf_no]
    rintro ⟨id, hid, hor⟩
    apply c
    have hr : r = Lib.decDigits id.toNat := by
      rcases hw with ⟨hw, hno⟩ | ⟨hw, hno⟩
      · rcases hor with e | e
        · rw [hn, hw, seg_pre hid] at e; exact List.append_cancel_left e
        · exact absurd e (hno id hid)
      · rcases hor with e | e
        · exact absurd e (hno id hid)
        · rw [hn, hw, hint_pre hid] at e; exact List.append_cancel_left e
    have := readDecI_digits (n := id.toNat) (by omega)
    rw [← hr] at this
    rw [this]
    exact ⟨rfl, by show (1 : Int) ≤ (id.toNat : Int); omega, by show (id.toNat : Int) ≤ 100000; omega⟩

theorem impl_IdOf_eq (name : List UInt8) (hl : name.length < 1000000000000) : impl_IdOf.f name = some (idOf name) := by
  have fin : ∀ (r : List UInt8), r.length < 1000000000000 → ((impl_ReadDec.f r).bind fun (t3_0, t3_1) =>
      bif !true then some ((0 : Int), false) else
      bif !t3_1 then some (0, false) else
      (impl_in.f t3_0 1 100000).bind fun t4 => bif !t4 then some (0, false) else some (t3_0, true)) = some (if (readDecI r).2 = true ∧ 1 ≤ (readDecI r).1 ∧ (readDecI r).1 ≤ 100000 then ((readDecI r).1, true) else (0, false)) := fun r hr => by
    rw [impl_ReadDec_eq r hr, Option.bind_some]
    generalize readDecI r = p
    obtain ⟨n, b⟩ := p
    simp only [Bool.not_true, cond_false, impl_in_eq, Option.bind_some]
    cases b
    · simp
    · by_cases c : 1 ≤ n ∧ n ≤ 100000
      · simp [c]
      · have : decide (1 ≤ n ∧ n ≤ 100000) = false := decide_eq_false c
        simp only [Bool.not_true, cond_false, this, Bool.not_false, cond_true]
        rw [if_neg (fun z => c z.2)]
  unfold impl_IdOf.f
  by_cases h1 : ∃ r, name = [115, 101, 103] ++ r
  · obtain ⟨r, rfl⟩ := h1
    rw [List.length_append] at hl
    rw [CutPrefix_yes]
    have := fin r (by omega)
    simp only [Option.bind_some, Bool.not_true, cond_false] at this ⊢
    rw [this, idOf_rest rfl (.inl ⟨rfl, fun id hid e => by
      rw [hint_pre hid] at e
      have := congrArg (fun l => l.getD 0 0) e
      simp at this⟩)]
  · rw [CutPrefix_no h1]
    by_cases h2 : ∃ r, name = [104, 105, 110, 116] ++ r
    · obtain ⟨r, rfl⟩ := h2
      rw [List.length_append] at hl
      rw [Option.bind_some]
      simp only [Bool.not_false, cond_true]
      rw [CutPrefix_yes]
      have := fin r (by omega)
      simp only [Option.bind_some, Bool.not_true, cond_false] at this ⊢
      rw [this, idOf_rest rfl (.inr ⟨rfl, fun id hid e => by
        rw [seg_pre hid] at e
        have := congrArg (fun l => l.getD 0 0) e
        simp at this⟩)]
    · rw [Option.bind_some]
      simp only [Bool.not_false, cond_true]
      rw [CutPrefix_no h2]
      simp only [Option.bind_some, impl_ReadDec_eq name hl, Bool.not_false, cond_true]
      rw [idOf_no]
      rintro ⟨id, hid, e | e⟩
      · exact h1 ⟨_, e.trans (seg_pre hid)⟩
      · exact h2 ⟨_, e.trans (hint_pre hid)⟩

theorem impl_hasInt_eq (l : List Int) (n : Int) (hl : l.length < 1000000000) : impl_hasInt.f l n = some (l.any fun x => x == n) := by
  have key := lp_up (step := impl_hasInt.l0) (fun k (_ : Unit) => (n, l, (l.length : Int), (k : Int))) l.length (fun k _ => if (l.drop k).any (fun x => x == n) = true then .inr true else .inl ()) (fun _ _ => True)
    (fun rec k _ hk _ ih => by
      rcases Nat.lt_or_ge k l.length with h | h
      · have hw := w64_succ (show k + 1 < 9223372036854775808 by omega)
        rw [List.drop_eq_getElem_cons h, List.any_cons]
        simp only [impl_hasInt.l0, Int.ofNat_lt, h, decide_true, cond_true, inB_nat, rdA_nat, getD_lt h]
        cases hq : (l[k] == n)
        · simp only [cond_false, hw, ih () h trivial, Bool.false_or]
        · simp
      · have : k = l.length := by omega
        subst this
        simp [impl_hasInt.l0])
    (by omega) 0 () (Nat.zero_le _) trivial
  have key : lp impl_hasInt.l0 (n, l, (l.length : Int), 0) = _ := key
  unfold impl_hasInt.f
  rw [key, Option.bind_some, List.drop_zero]
  cases l.any fun x => x == n
  · simp [caseS_l]
  · simp [caseS_r]

theorem impl_Orphans_eq (d : DiskT) (v : LiveT) (hd : dlim d) (hv : v.2.length < 1000000000) : impl_Orphans.f d v = some (orphP d v) := by
  have key := lp_up (step := impl_Orphans.l0) (fun n (acc : List (List UInt8)) => (v, acc, d.1, (d.1.length : Int), (n : Int))) d.1.length (fun n acc => acc ++ ((d.1.drop n).filter (orphB v)).map (·.1)) (fun n acc => acc.length ≤ n)
    (fun rec n acc hn ha ih => by
      rcases Nat.lt_or_ge n d.1.length with h | h
      · have hlen := hd.1
        have hw := w64_succ (show n + 1 < 9223372036854775808 by omega)
        have hnm := hd.2.2 _ (List.getElem_mem h)
        have hb : (acc.length + ([d.1[n].1] : List (List UInt8)).length) * 16 ≤ 140737488355328 := lim16' (by omega)
        have i1 := ih (acc ++ [d.1[n].1]) h (by rw [List.length_append]; show acc.length + 1 ≤ n + 1; omega)
        have i2 := ih acc h (by omega)
        rw [List.drop_eq_getElem_cons h, List.filter_cons]
        simp only [impl_Orphans.l0, Int.ofNat_lt, h, decide_true, cond_true, inB_nat, rdA_nat, getD_lt h]
        rw [impl_IdOf_eq d.1[n].1 hnm, Option.bind_some]
        have hob : orphB v d.1[n] = (((idOf d.1[n].1).2 && !(v.2.any fun i => i == (idOf d.1[n].1).1)) || d.1[n].1 == tempN) := rfl
        rw [hob]
        obtain ⟨tb, hT⟩ : ∃ tb, (d.1[n].1 == tempN) = tb := ⟨_, rfl⟩
        have ht : (d.1[n].1 == [116, 101, 109, 112]) = tb := hT
        rw [hT]
        simp only [impl_hasInt_eq v.2 _ hv, ht]
        cases (idOf d.1[n].1).2 <;> cases (v.2.any fun i => i == (idOf d.1[n].1).1) <;> cases tb <;>
          simp only [inB_nat, h, rdA_nat, getD_lt h, ht, hb, decide_true, cond_true, cond_false, Option.bind_some, Bool.not_true, Bool.not_false, Bool.and_true, Bool.and_false, Bool.or_true, Bool.or_false, Bool.true_and, Bool.false_and, Bool.false_or, Bool.true_or, if_true, Bool.false_eq_true, if_false, hw, i1, i2, List.map_cons, List.append_assoc, List.singleton_append]
      · have : n = d.1.length := by omega
        subst this
        simp [impl_Orphans.l0])
    (by have := hd.1; omega) 0 [] (Nat.zero_le _) (Nat.le_refl _)
  have key : lp impl_Orphans.l0 (v, [], d.1, (d.1.length : Int), 0) = _ := key
  unfold impl_Orphans.f orphP
  rw [impl_DiskOk_eq d hd, Option.bind_some]
  cases diskOk d
  · simp
  · simp only [Bool.not_true, cond_false, key, Option.bind_some, List.drop_zero, List.nil_append, Bool.true_eq_false, if_false]

/-- Is the text the one of the list? -/
def isLive (s : List UInt8) (v : LiveT) : Prop := liveOk v = true ∧ showLive v = s

def zeroLive : LiveT := (0, [])

def liveBody (v : LiveT) : List UInt8 := varT v.1 ++ varT (v.2.length : Int) ++ (v.2.map varT).flatten

theorem live_in {v : LiveT} (h : liveOk v = true) : numIn v.1 ∧ (∀ x ∈ v.2, numIn x ∧ x ≤ 100000) ∧ 1 ≤ v.2.length ∧ v.2.length ≤ 60 ∧ v.1 ≤ 100000 := by
  obtain ⟨k1, k2, k3, k4⟩ := (liveOk_iff v).1 h
  rw [w64_id (by omega) (by omega)] at k1
  have := idsOk_mem _ _ k1
  refine ⟨⟨by omega, by omega⟩, fun x hx => ?_, k3, k4, k2.2⟩
  have := this x hx
  exact ⟨⟨by omega, by omega⟩, by omega⟩

theorem varT_small {n : Int} (h : 0 ≤ n ∧ n ≤ 100000) : (varT n).length ≤ 3 := by
  obtain ⟨m, rfl⟩ : ∃ m : Nat, n = (m : Int) := ⟨n.toNat, by omega⟩
  rw [varT_nat m (by omega)]
  exact (varN_len 2 m (by show m < 2097152; omega)).2

theorem flat_len {l : List Int} (h : ∀ x ∈ l, 0 ≤ x ∧ x ≤ 100000) : ((l.map varT).flatten).length ≤ 3 * l.length := by
  induction l with
  | nil => simp
  | cons x l ih =>
    have h1 := varT_small (h x List.mem_cons_self)
    have h2 := ih (fun y hy => h y (List.mem_cons_of_mem _ hy))
    simp only [List.map_cons, List.flatten_cons, List.length_append, List.length_cons]
    omega

theorem liveBody_len {v : LiveT} (h : liveOk v = true) : (liveBody v).length ≤ 200 := by
  obtain ⟨h1, h2, h3, h4, h5⟩ := live_in h
  have a1 := varT_small ⟨h1.1, h5⟩
  have a2 := varT_small (n := (v.2.length : Int)) (by omega)
  have a3 := flat_len (l := v.2) (fun x hx => ⟨(h2 x hx).1.1, (h2 x hx).2⟩)
  unfold liveBody
  simp only [List.length_append]; omega

theorem isLive_frame {s : List UInt8} {v : LiveT} (h : isLive s v) : s = frame (liveBody v) ∧ unframe s = (liveBody v, (s.length : Int)) ∧ 5 ≤ s.length := by
  have e : s = frame (liveBody v) := by
    rw [← h.2]; unfold showLive; rw [if_neg (by rw [h.1]; simp)]; rfl
  have hb := unframe_back (liveBody_len h.1) []
  rw [List.append_nil, ← e] at hb
  exact ⟨e, hb, by rw [e]; exact frame_pos (liveBody_len h.1)⟩

theorem impl_ReadLive_back {s : List UInt8} {v : LiveT} (h : isLive s v) : impl_ReadLive.f s = some (v, true) := by
  obtain ⟨e1, e2, e3⟩ := isLive_frame h
  obtain ⟨n1, n2, n3, n4, n5⟩ := live_in h.1
  have hbl := liveBody_len h.1
  have hsl : s.length ≤ 211 := by rw [e1]; exact frame_len _
  obtain ⟨nx, ids⟩ := v
  have hcnt : numIn (ids.length : Int) := ⟨by omega, by have : ids.length ≤ 60 := n4; omega⟩
  have hbd : liveBody (nx, ids) = varT nx ++ (varT (ids.length : Int) ++ (ids.map varT).flatten) := by unfold liveBody; rw [List.append_assoc]
  have hbl2 := hbl
  rw [hbd] at hbl2
  simp only [List.length_append] at hbl2
  have m1 := num_back n1 (varT (ids.length : Int) ++ (ids.map varT).flatten) (by simp only [List.length_append]; omega)
  have m2 := num_back hcnt (ids.map varT).flatten (by simp only [List.length_append]; omega)
  have n4 : ids.length ≤ 60 := n4
  have key := lp_up (step := impl_ReadLive.l0) (fun n (_ : Unit) => (s, ((0, []) : LiveT), (s.length : Int), (((ids.drop n).map varT).flatten, false), ((nx, ids.take n) : LiveT), (ids.length : Int), (n : Int))) ids.length (fun _ _ => (s, (0, []), (s.length : Int), ([], false), (nx, ids))) (fun _ _ => True)
    (fun rec n _ hn _ ih => by
      rcases Nat.lt_or_ge n ids.length with h1 | h1
      · have hw := w64_succ (show n + 1 < 9223372036854775808 by omega)
        have hin := (n2 _ (List.getElem_mem h1)).1
        have hd : ((ids.drop n).map varT).flatten = varT ids[n] ++ ((ids.drop (n + 1)).map varT).flatten := by
          rw [List.drop_eq_getElem_cons h1]; rfl
        have hfl : ((ids.drop n).map varT).flatten.length ≤ 3 * (ids.drop n).length := flat_len (fun x hx => ⟨(n2 x (List.mem_of_mem_drop hx)).1.1, (n2 x (List.mem_of_mem_drop hx)).2⟩)
        have m3 := num_back hin ((ids.drop (n + 1)).map varT).flatten (by rw [← hd]; rw [List.length_drop] at hfl; omega)
        have hb : ((ids.take n).length + ([ids[n]] : List Int).length) * 8 ≤ 140737488355328 := lim8 (by rw [List.length_take]; omega)
        have hi : ids.take n ++ [ids[n]] = ids.take (n + 1) := (List.take_succ_eq_append_getElem h1).symm
        simp only [impl_ReadLive.l0, Int.ofNat_lt, h1, decide_true, cond_true, hd, Bool.not_false, m3, Option.bind_some, hb, hw, hi, ih () h1 trivial]
      · have : n = ids.length := by omega
        subst this
        simp [impl_ReadLive.l0])
    (by omega) 0 () (Nat.zero_le _) trivial
  have key : lp impl_ReadLive.l0 (s, (0, []), (s.length : Int), ((ids.map varT).flatten, false), (nx, []), (ids.length : Int), 0) = _ := key
  unfold impl_ReadLive.f
  rw [impl_Unframe_eq s (by omega), e2, hbd, Option.bind_some]
  simp only [m1, m2, Option.bind_some, key]
  have c1 : ((s.length : Int) == 0) = false := by
    have : ¬ (s.length : Int) = 0 := by omega
    simpa using this
  have hok : liveOk (nx, ids) = true := h.1
  simp only [c1, cond_false, bne_self_eq_false, beq_self_eq_true, Bool.not_true, impl_LiveOk_eq (nx, ids) (by show ids.length < 2 ^ 62; omega), Option.bind_some, hok]

/-- What the program's loop finds. -/
theorem ReadLive_loop (s : List UInt8) (u : Int) (B : List UInt8) (hB : B.length < 1000000000000) (n1 : Int) (st : ScanT) (pre : List UInt8) (cnt : Int) (hst : st.1.length ≤ B.length) (hpre : st.2 = false → 0 ≤ cnt ∧ B = pre ++ st.1) :
    ∃ st' ids, lp impl_ReadLive.l0 (s, (0, []), u, st, (n1, []), cnt, 0) = some (s, (0, []), u, st', (n1, ids)) ∧ ids.length ≤ B.length + 1 ∧
      (st'.2 = false → st.2 = false ∧ (ids.length : Int) = cnt ∧ (∀ x ∈ ids, numIn x) ∧ B = pre ++ ((ids.map varT).flatten ++ st'.1)) := by
  have key := lp_ok (step := impl_ReadLive.l0) (a := (s, ((0, []) : LiveT), u, st, ((n1, []) : LiveT), cnt, 0))
    (fun a => ∃ (st' : ScanT) (ids : List Int), a = (s, (0, []), u, st', (n1, ids), cnt, (ids.length : Int)) ∧ st'.1.length ≤ B.length ∧ (st'.2 = false → ids.length + st'.1.length ≤ B.length) ∧ ids.length ≤ B.length + 1 ∧
      (st'.2 = false → st.2 = false ∧ (ids.length : Int) ≤ cnt ∧ (∀ x ∈ ids, numIn x) ∧ B = pre ++ ((ids.map varT).flatten ++ st'.1)))
    (fun a => if a.2.2.2.1.2 = true then 0 else a.2.2.2.1.1.length + 1)
    (fun b => ∃ (st' : ScanT) (ids : List Int), b = (s, (0, []), u, st', (n1, ids)) ∧ ids.length ≤ B.length + 1 ∧ (st'.2 = false → st.2 = false ∧ (ids.length : Int) = cnt ∧ (∀ x ∈ ids, numIn x) ∧ B = pre ++ ((ids.map varT).flatten ++ st'.1)))
    (fun rec a ha => by
      obtain ⟨st', ids, rfl, h1, h2, h4, h3⟩ := ha
      obtain ⟨t, bad⟩ := st'
      simp only at h1 h2 h3 h4
      by_cases c : (ids.length : Int) < cnt
      · cases bad with
        | true =>
          left
          exact ⟨(s, (0, []), u, (t, true), (n1, ids)), by simp only [impl_ReadLive.l0, c, decide_true, cond_true, Bool.not_true, cond_false], (t, true), ids, rfl, h4, fun e => by simp at e⟩
        | false =>
          right
          obtain ⟨g1, g2, g3, g4⟩ := h3 rfl
          have g5 := h2 rfl
          have hw := w64_succ (show ids.length + 1 < 9223372036854775808 by omega)
          rcases num_cases t (by omega) with ⟨x, r, m, et, hx⟩ | m
          · have hx1 := (readVar_back hx []).2
            have hle : t.length = (varT x).length + r.length := by rw [et, List.length_append]
            have hb : (ids.length + ([x] : List Int).length) * 8 ≤ 140737488355328 := lim8 (by omega)
            refine ⟨(s, (0, []), u, (r, false), (n1, ids ++ [x]), cnt, ((ids.length + 1 : Nat) : Int)), ⟨(r, false), ids ++ [x], by simp only [List.length_append, List.length_singleton], by show r.length ≤ _; omega, fun _ => by simp only [List.length_append, List.length_singleton]; omega, by simp only [List.length_append, List.length_singleton]; omega, fun _ => ⟨g1, by simp only [List.length_append, List.length_singleton]; omega, fun y hy => ?_, ?_⟩⟩, ?_, ?_⟩
            · rcases List.mem_append.1 hy with hy | hy
              · exact g3 y hy
              · rw [List.mem_singleton.1 hy]; exact hx
            · rw [g4, et]; simp
            · simp only [Bool.false_eq_true, if_false]; omega
            · simp only [impl_ReadLive.l0, c, decide_true, cond_true, Bool.not_false, m, Option.bind_some, hb, hw]
          · have hb : (ids.length + ([0] : List Int).length) * 8 ≤ 140737488355328 := lim8 (by omega)
            refine ⟨(s, (0, []), u, (t, true), (n1, ids ++ [0]), cnt, ((ids.length + 1 : Nat) : Int)), ⟨(t, true), ids ++ [0], by simp only [List.length_append, List.length_singleton], h1, fun e => by simp at e, by simp only [List.length_append, List.length_singleton]; omega, fun e => by simp at e⟩, ?_, ?_⟩
            · simp only [if_true, Bool.false_eq_true, if_false]; omega
            · simp only [impl_ReadLive.l0, c, decide_true, cond_true, Bool.not_false, m, Option.bind_some, hb, hw]
      · left
        refine ⟨(s, (0, []), u, (t, bad), (n1, ids)), by simp only [impl_ReadLive.l0, c, decide_false, cond_false], (t, bad), ids, rfl, h4, fun e => ?_⟩
        obtain ⟨g1, g2, g3, g4⟩ := h3 e
        exact ⟨g1, by omega, g3, g4⟩)
    ⟨st, [], rfl, hst, fun _ => by simp; exact hst, by simp, fun e => ⟨e, by simpa using (hpre e).1, by simp, by simpa using (hpre e).2⟩⟩ (by simp only; split <;> omega)
  obtain ⟨b, eb, st', ids, rfl, h1, h2⟩ := key
  exact ⟨st', ids, eb, h1, h2⟩

theorem impl_ReadLive_tot (s : List UInt8) (hl : s.length < 1000000000) : ∃ res : LiveT × Bool, impl_ReadLive.f s = some res ∧ (res = (zeroLive, false) ∨ ∃ v, res = (v, true) ∧ isLive s v) := by
  have hul := unframe_len s
  unfold impl_ReadLive.f
  rw [impl_Unframe_eq s (by omega), Option.bind_some]
  -- the two numbers ahead
  have first : ∃ (n1 n2 : Int) (st : ScanT) (pre : List UInt8), ((impl_scanner_num.f ((unframe s).1, false)).bind fun (t2_0, t2_1) => (impl_scanner_num.f t2_1).bind fun (t3_0, t3_1) => some (t2_0, t3_0, t3_1)) = some (n1, n2, st) ∧ st.1.length ≤ (unframe s).1.length ∧
      (st.2 = false → numIn n1 ∧ numIn n2 ∧ pre = varT n1 ++ varT n2 ∧ (unframe s).1 = pre ++ st.1) := by
    rcases num_cases (unframe s).1 (by omega) with ⟨x, r, m, et, hx⟩ | m
    · have hle : (unframe s).1.length = (varT x).length + r.length := by
        have := congrArg List.length et
        rw [List.length_append] at this; exact this
      rcases num_cases r (by omega) with ⟨y, q, m2, et2, hy⟩ | m2
      · have hle2 : r.length = (varT y).length + q.length := by
          have := congrArg List.length et2
          rw [List.length_append] at this; exact this
        exact ⟨x, y, (q, false), varT x ++ varT y, by simp only [m, m2, Option.bind_some], by show q.length ≤ _; omega, fun _ => ⟨hx, hy, rfl, by rw [et, et2, List.append_assoc]⟩⟩
      · exact ⟨x, 0, (r, true), [], by simp only [m, m2, Option.bind_some], by show r.length ≤ _; omega, fun e => by simp at e⟩
    · exact ⟨0, 0, ((unframe s).1, true), [], by simp only [m, num_bad _ (show (unframe s).1.length < 2 ^ 62 by omega), Option.bind_some], Nat.le_refl _, fun e => by simp at e⟩
  obtain ⟨n1, n2, st, pre, e1, e2, e3⟩ := first
  obtain ⟨st', ids, eL, h1, h2⟩ := ReadLive_loop s (unframe s).2 (unframe s).1 (by omega) n1 st pre n2 e2 (fun e => ⟨(e3 e).2.1.1, (e3 e).2.2.2⟩)
  have hrest : ((impl_scanner_num.f ((unframe s).1, false)).bind fun (t2_0, t2_1) => (impl_scanner_num.f t2_1).bind fun (t3_0, t3_1) =>
      (lp impl_ReadLive.l0 (s, ((0, []) : LiveT), (unframe s).2, t3_1, (t2_0, []), t3_0, 0)).bind (fun (x0, x2, x5, x6, x7) =>
      bif x5 == 0 then some ((0, []), false) else
      bif x5 != (x0.length : Int) then some ((0, []), false) else
      bif x6.2 then some ((0, []), false) else
      bif !(x6.1 == []) then some ((0, []), false) else
      (impl_LiveOk.f x7).bind fun t6 => bif !t6 then some ((0, []), false) else some (x7, true))) =
      (bif (unframe s).2 == 0 then some (((0, []) : LiveT), false) else
      bif (unframe s).2 != (s.length : Int) then some ((0, []), false) else
      bif st'.2 then some ((0, []), false) else
      bif !(st'.1 == []) then some ((0, []), false) else
      (impl_LiveOk.f (n1, ids)).bind fun t6 => bif !t6 then some ((0, []), false) else some ((n1, ids), true)) := by
    cases ha : impl_scanner_num.f ((unframe s).1, false) with
    | none => rw [ha] at e1; simp at e1
    | some p =>
      obtain ⟨a1, a2⟩ := p
      rw [ha] at e1
      simp only [Option.bind_some] at e1 ⊢
      cases hb : impl_scanner_num.f a2 with
      | none => rw [hb] at e1; simp at e1
      | some q =>
        obtain ⟨b1, b2⟩ := q
        rw [hb] at e1
        simp only [Option.bind_some, Option.some.injEq, Prod.mk.injEq] at e1 ⊢
        obtain ⟨rfl, rfl, rfl⟩ := e1
        rw [eL]; rfl
  suffices hs : ∃ res : LiveT × Bool, (bif (unframe s).2 == 0 then some (((0, []) : LiveT), false) else
      bif (unframe s).2 != (s.length : Int) then some ((0, []), false) else
      bif st'.2 then some ((0, []), false) else
      bif !(st'.1 == []) then some ((0, []), false) else
      (impl_LiveOk.f (n1, ids)).bind fun t6 => bif !t6 then some ((0, []), false) else some ((n1, ids), true)) = some res ∧ (res = (zeroLive, false) ∨ ∃ v, res = (v, true) ∧ isLive s v) by
    obtain ⟨res, e, p⟩ := hs
    exact ⟨res, hrest.trans e, p⟩
  by_cases c1 : (unframe s).2 = 0
  · have d1 : ((unframe s).2 == 0) = true := by simpa using c1
    exact ⟨(zeroLive, false), by rw [d1]; rfl, .inl rfl⟩
  have d1 : ((unframe s).2 == 0) = false := by simpa using c1
  rw [d1, cond_false]
  by_cases c2 : (unframe s).2 = (s.length : Int)
  rotate_left
  · have d2 : ((unframe s).2 != (s.length : Int)) = true := by simpa using c2
    exact ⟨(zeroLive, false), by rw [d2]; rfl, .inl rfl⟩
  have d2 : ((unframe s).2 != (s.length : Int)) = false := by simpa using c2
  rw [d2, cond_false]
  cases c3 : st'.2 with
  | true => exact ⟨(zeroLive, false), rfl, .inl rfl⟩
  | false =>
    rw [cond_false]
    obtain ⟨g1, g2, g3, g4⟩ := h2 c3
    by_cases c4 : st'.1 = []
    rotate_left
    · have d4 : (st'.1 == []) = false := by simpa using c4
      exact ⟨(zeroLive, false), by rw [d4]; rfl, .inl rfl⟩
    have d4 : (st'.1 == []) = true := by simpa using c4
    rw [d4, Bool.not_true, cond_false, impl_LiveOk_eq (n1, ids) (by show ids.length < 2 ^ 62; omega), Option.bind_some]
    cases c5 : liveOk (n1, ids) with
    | false => exact ⟨(zeroLive, false), rfl, .inl rfl⟩
    | true =>
      refine ⟨((n1, ids), true), rfl, .inr ⟨(n1, ids), rfl, c5, ?_⟩⟩
      obtain ⟨t, r, f1, f2, f3⟩ := unframe_some c1
      obtain ⟨k1, k2, k3, k4⟩ := e3 g1
      have ht : (unframe s).1 = t := by rw [f3]
      have hlen : ((frame t).length : Int) = (s.length : Int) := by rw [← c2, f3]
      have hr : r = [] := by
        have := congrArg List.length f1
        rw [List.length_append] at this
        exact List.length_eq_zero_iff.1 (by omega)
      unfold showLive
      rw [if_neg (by rw [c5]; simp)]
      rw [f1, hr, List.append_nil, ← ht, g4, k3, c4, ← g2]
      simp only [List.append_nil]

theorem spec_ReadLive_back {s : List UInt8} {v : LiveT} (h : isLive s v) : spec_ReadLive.f s = some (v, true) := by
  obtain ⟨e1, e2, e3⟩ := isLive_frame h
  obtain ⟨n1, n2, n3, n4, n5⟩ := live_in h.1
  have hbl := liveBody_len h.1
  have hsl : s.length ≤ 211 := by rw [e1]; exact frame_len _
  have hsh := h.2
  obtain ⟨nx, ids⟩ := v
  have n4 : ids.length ≤ 60 := n4
  have hcnt : numIn (ids.length : Int) := ⟨by omega, by omega⟩
  have hbd : liveBody (nx, ids) = varT nx ++ (varT (ids.length : Int) ++ (ids.map varT).flatten) := by unfold liveBody; rw [List.append_assoc]
  have hbl2 := hbl
  rw [hbd] at hbl2
  simp only [List.length_append] at hbl2
  have r1 := readVar_back n1 (varT (ids.length : Int) ++ (ids.map varT).flatten)
  have r2 := readVar_back hcnt (ids.map varT).flatten
  generalize hT : varT nx ++ (varT (ids.length : Int) ++ (ids.map varT).flatten) = T at *
  have hTl : T.length = (varT nx).length + ((varT (ids.length : Int)).length + ((ids.map varT).flatten).length) := by rw [← hT]; simp only [List.length_append]
  have hat : ∀ n, n ≤ ids.length → T.drop ((varT nx).length + (varT (ids.length : Int)).length + ((ids.take n).map varT).flatten.length) = ((ids.drop n).map varT).flatten := fun n hn => by
    have e : T = (varT nx ++ varT (ids.length : Int) ++ ((ids.take n).map varT).flatten) ++ ((ids.drop n).map varT).flatten := by
      rw [← hT]
      simp only [List.append_assoc]
      congr 2
      rw [← List.flatten_append, ← List.map_append, List.take_append_drop]
    rw [e, show (varT nx).length + (varT (ids.length : Int)).length + ((ids.take n).map varT).flatten.length = (varT nx ++ varT (ids.length : Int) ++ ((ids.take n).map varT).flatten).length by simp only [List.length_append], List.drop_left]
  have hfle : ∀ n, ((ids.take n).map varT).flatten.length ≤ 200 := fun n => by
    have : ((ids.take n).map varT).flatten.length ≤ 3 * (ids.take n).length := flat_len (fun x hx => ⟨(n2 x (List.mem_of_mem_take hx)).1.1, (n2 x (List.mem_of_mem_take hx)).2⟩)
    rw [List.length_take] at this; omega
  have key := lp_up (step := spec_ReadLive.l0) (fun n (_ : Unit) => (s, ((0, []) : LiveT), T, (ids.length : Int), ((nx, ids.take n) : LiveT), (((varT nx).length + (varT (ids.length : Int)).length + ((ids.take n).map varT).flatten.length : Nat) : Int), (n : Int))) ids.length (fun _ _ => (s, (0, []), (nx, ids))) (fun _ _ => True)
    (fun rec n _ hn _ ih => by
      rcases Nat.lt_or_ge n ids.length with h1 | h1
      · have hw := w64_succ (show n + 1 < 9223372036854775808 by omega)
        have hin := (n2 _ (List.getElem_mem h1)).1
        have hc60 : (n : Int) < 60 := by omega
        have hd : ((ids.drop n).map varT).flatten = varT ids[n] ++ ((ids.drop (n + 1)).map varT).flatten := by
          rw [List.drop_eq_getElem_cons h1]; rfl
        have hta : ((ids.take (n + 1)).map varT).flatten.length = ((ids.take n).map varT).flatten.length + (varT ids[n]).length := by
          rw [List.take_succ_eq_append_getElem h1, List.map_append, List.flatten_append, List.length_append]
          show _ + (varT ids[n] ++ []).length = _
          rw [List.append_nil]
        have hdl := congrArg List.length (hat n hn)
        rw [List.length_drop] at hdl
        have r3 := readVar_back hin ((ids.drop (n + 1)).map varT).flatten
        have h200 := hfle n
        have hvl := varT_len ids[n]
        have hvl1 := varT_len nx
        have hvl2 := varT_len (ids.length : Int)
        have hdl2 := congrArg List.length hd
        rw [List.length_append] at hdl2
        have hin2 : (decide (0 ≤ (((varT nx).length + (varT (ids.length : Int)).length + ((ids.take n).map varT).flatten.length : Nat) : Int)) && decide ((((varT nx).length + (varT (ids.length : Int)).length + ((ids.take n).map varT).flatten.length : Nat) : Int) ≤ (T.length : Int))) = true := by
          simp only [Bool.and_eq_true, decide_eq_true_eq]; omega
        have hb : ((ids.take n).length + ([ids[n]] : List Int).length) * 8 ≤ 140737488355328 := lim8 (by rw [List.length_take]; omega)
        have hi : ids.take n ++ [ids[n]] = ids.take (n + 1) := (List.take_succ_eq_append_getElem h1).symm
        have hwo : w64 ((((varT nx).length + (varT (ids.length : Int)).length + ((ids.take n).map varT).flatten.length : Nat) : Int) + ((varT ids[n]).length : Int)) = (((varT nx).length + (varT (ids.length : Int)).length + ((ids.take (n + 1)).map varT).flatten.length : Nat) : Int) := by
          rw [w64_id (by omega) (by omega), hta]; omega
        simp only [spec_ReadLive.l0, Int.ofNat_lt, h1, hc60, decide_true, cond_true, hin2, Int.toNat_natCast, hat n hn]
        rw [spec_ReadVar_eq _ (by omega), hd, r3.1, Option.bind_some]
        simp only [hb, decide_true, cond_true, hi, hwo, hw, ih () h1 trivial]
      · have : n = ids.length := by omega
        subst this
        simp [spec_ReadLive.l0])
    (by omega) 0 () (Nat.zero_le _) trivial
  have key : lp spec_ReadLive.l0 (s, (0, []), T, (ids.length : Int), (nx, []), (((varT nx).length + (varT (ids.length : Int)).length + ((ids.take 0).map varT).flatten.length : Nat) : Int), ((0 : Nat) : Int)) = _ := key
  have hv1 := varT_len nx
  have hv2 := varT_len (ids.length : Int)
  have c1 : ((s.length : Int) == 0) = false := by
    have : ¬ (s.length : Int) = 0 := by omega
    simpa using this
  have c2 : (((varT nx).length : Int) == 0) = false := by
    have : 1 ≤ (varT nx).length := r1.2
    have : ¬ ((varT nx).length : Int) = 0 := by omega
    simpa using this
  have c3 : (decide (0 ≤ ((varT nx).length : Int)) && decide (((varT nx).length : Int) ≤ (T.length : Int))) = true := by simp only [Bool.and_eq_true, decide_eq_true_eq]; omega
  have hd1 : T.drop (varT nx).length = varT (ids.length : Int) ++ (ids.map varT).flatten := by rw [← hT, List.drop_left]
  have hw1 : w64 (((varT nx).length : Int) + ((varT (ids.length : Int)).length : Int)) = (((varT nx).length + (varT (ids.length : Int)).length + ((ids.take 0).map varT).flatten.length : Nat) : Int) := by
    rw [w64_id (by omega) (by omega)]; simp
  unfold spec_ReadLive.f
  rw [spec_Unframe_eq s (by omega), e2, hbd, Option.bind_some]
  simp only
  rw [spec_ReadVar_eq T (by omega), r1.1, Option.bind_some]
  simp only [bne_self_eq_false, cond_false, c1, c2, c3, cond_true, Int.toNat_natCast, hd1]
  rw [spec_ReadVar_eq _ (by rw [← hd1, List.length_drop]; omega), r2.1, Option.bind_some]
  simp only [hw1]
  have key : lp spec_ReadLive.l0 (s, (0, []), T, (ids.length : Int), (nx, []), (((varT nx).length + (varT (ids.length : Int)).length + ((ids.take 0).map varT).flatten.length : Nat) : Int), 0) = _ := key
  rw [key, Option.bind_some]
  simp only [spec_ShowLive_eq (nx, ids) (by show ids.length < 2 ^ 62; omega), Option.bind_some, hsh, beq_self_eq_true, Bool.not_true, cond_false]

theorem spec_ReadLive_tot (s : List UInt8) (hl : s.length < 1000000000) : ∃ res : LiveT × Bool, spec_ReadLive.f s = some res ∧ (res = (zeroLive, false) ∨ ∃ v, res = (v, true) ∧ isLive s v) := by
  have hul := unframe_len s
  unfold spec_ReadLive.f
  rw [spec_Unframe_eq s (by omega), Option.bind_some]
  simp only
  rw [spec_ReadVar_eq _ (by omega), Option.bind_some]
  by_cases c2 : (unframe s).2 = (s.length : Int)
  rotate_left
  · have d2 : ((unframe s).2 != (s.length : Int)) = true := by simpa using c2
    exact ⟨(zeroLive, false), by simp only [d2, cond_true]; rfl, .inl rfl⟩
  have d2 : ((unframe s).2 != (s.length : Int)) = false := by simpa using c2
  simp only [d2, cond_false]
  by_cases c1 : (unframe s).2 = 0
  · have d1 : ((unframe s).2 == 0) = true := by simpa using c1
    exact ⟨(zeroLive, false), by simp only [d1, cond_true]; rfl, .inl rfl⟩
  have d1 : ((unframe s).2 == 0) = false := by simpa using c1
  simp only [d1, cond_false]
  generalize hT : (unframe s).1 = T at *
  have v1 := readVar_len T
  by_cases c3 : (readVar T).2 = 0
  · have d3 : ((readVar T).2 == 0) = true := by simpa using c3
    exact ⟨(zeroLive, false), by simp only [d3, cond_true]; rfl, .inl rfl⟩
  have d3 : ((readVar T).2 == 0) = false := by simpa using c3
  have d4 : (decide (0 ≤ (readVar T).2) && decide ((readVar T).2 ≤ (T.length : Int))) = true := by simp only [Bool.and_eq_true, decide_eq_true_eq]; omega
  simp only [d3, d4, cond_false, cond_true]
  rw [spec_ReadVar_eq _ (by rw [List.length_drop]; omega), Option.bind_some]
  generalize hR : T.drop (readVar T).2.toNat = R
  have v2 := readVar_len R
  have hRl : R.length + (readVar T).2.toNat = T.length := by rw [← hR, List.length_drop]; omega
  generalize (readVar T).1 = n1
  generalize (readVar R).1 = cnt
  have hw1 : w64 ((readVar T).2 + (readVar R).2) = (readVar T).2 + (readVar R).2 := w64_id (by omega) (by omega)
  simp only [hw1]
  have hp0 : 0 ≤ (readVar T).2 + (readVar R).2 ∧ (readVar T).2 + (readVar R).2 ≤ T.length := by omega
  generalize (readVar T).2 + (readVar R).2 = pos at hp0
  have key := lp_ok (step := spec_ReadLive.l0) (a := (s, ((0, []) : LiveT), T, cnt, ((n1, []) : LiveT), pos, 0))
    (fun a => ∃ (ids : List Int) (p : Int), a = (s, (0, []), T, cnt, (n1, ids), p, (ids.length : Int)) ∧ 0 ≤ p ∧ p ≤ (T.length : Int) ∧ ids.length ≤ 60)
    (fun a => 61 - a.2.2.2.2.1.2.length)
    (fun b => ∃ ids : List Int, b = (s, (0, []), (n1, ids)) ∧ ids.length ≤ 60)
    (fun rec a ha => by
      obtain ⟨ids, p, rfl, h1, h2, h3⟩ := ha
      by_cases c : (ids.length : Int) < cnt
      rotate_left
      · left; exact ⟨_, by simp only [spec_ReadLive.l0, c, decide_false, cond_false, cond_true], ids, rfl, h3⟩
      by_cases cc : (ids.length : Int) < 60
      rotate_left
      · left; exact ⟨_, by simp only [spec_ReadLive.l0, c, cc, decide_true, decide_false, cond_true, cond_false, cond_true], ids, rfl, h3⟩
      right
      have hin : (decide (0 ≤ p) && decide (p ≤ (T.length : Int))) = true := by simp only [Bool.and_eq_true, decide_eq_true_eq]; omega
      have v3 := readVar_len (T.drop p.toNat)
      rw [List.length_drop] at v3
      have hw := w64_succ (show ids.length + 1 < 9223372036854775808 by omega)
      have hwp : w64 (p + (readVar (T.drop p.toNat)).2) = p + (readVar (T.drop p.toNat)).2 := w64_id (by omega) (by omega)
      have hb : (ids.length + ([(readVar (T.drop p.toNat)).1] : List Int).length) * 8 ≤ 140737488355328 := lim8 (by omega)
      refine ⟨(s, (0, []), T, cnt, (n1, ids ++ [(readVar (T.drop p.toNat)).1]), p + (readVar (T.drop p.toNat)).2, ((ids.length + 1 : Nat) : Int)), ⟨ids ++ [(readVar (T.drop p.toNat)).1], p + (readVar (T.drop p.toNat)).2, by simp only [List.length_append, List.length_singleton], by omega, by omega, by simp only [List.length_append, List.length_singleton]; omega⟩, by simp only [List.length_append, List.length_singleton]; omega, ?_⟩
      simp only [spec_ReadLive.l0, c, cc, decide_true, cond_true, hin]
      rw [spec_ReadVar_eq _ (by rw [List.length_drop]; omega), Option.bind_some]
      simp only [hb, decide_true, cond_true, hwp, hw])
    ⟨[], pos, rfl, hp0.1, by omega, by simp⟩ (by simp)
  obtain ⟨b, eb, ids, rfl, h60⟩ := key
  rw [eb, Option.bind_some]
  simp only [spec_ShowLive_eq (n1, ids) (by show ids.length < 2 ^ 62; omega), Option.bind_some]
  by_cases c5 : showLive (n1, ids) = s
  rotate_left
  · have d5 : (showLive (n1, ids) == s) = false := by simpa using c5
    exact ⟨(zeroLive, false), by simp only [d5, Bool.not_false, cond_true]; rfl, .inl rfl⟩
  have d5 : (showLive (n1, ids) == s) = true := by simpa using c5
  refine ⟨((n1, ids), true), by simp only [d5, Bool.not_true, cond_false], .inr ⟨(n1, ids), rfl, ?_, c5⟩⟩
  cases hk : liveOk (n1, ids) with
  | true => rfl
  | false =>
    exfalso
    have : showLive (n1, ids) = [] := by unfold showLive; rw [if_pos hk]
    rw [this] at c5
    apply c1
    rw [c2, ← c5]; rfl

noncomputable def readLive (s : List UInt8) : LiveT × Bool := @dite (LiveT × Bool) (∃ v, isLive s v) (Classical.propDecidable _) (fun h => (h.choose, true)) (fun _ => (zeroLive, false))

theorem readLive_of {s : List UInt8} {o : Option (LiveT × Bool)} (h1 : ∀ v, isLive s v → o = some (v, true)) (h2 : ∃ res : LiveT × Bool, o = some res ∧ (res = (zeroLive, false) ∨ ∃ v, res = (v, true) ∧ isLive s v)) : o = some (readLive s) := by
  unfold readLive
  by_cases h : ∃ v, isLive s v
  · rw [dif_pos h]; exact h1 _ h.choose_spec
  · rw [dif_neg h]
    obtain ⟨res, e, k | ⟨v, _, hv⟩⟩ := h2
    · rw [e, k]
    · exact absurd ⟨v, hv⟩ h

theorem impl_ReadLive_eq (s : List UInt8) (hl : s.length < 1000000000) : impl_ReadLive.f s = some (readLive s) := readLive_of (fun _ h => impl_ReadLive_back h) (impl_ReadLive_tot s hl)

theorem spec_ReadLive_eq (s : List UInt8) (hl : s.length < 1000000000) : spec_ReadLive.f s = some (readLive s) := readLive_of (fun _ h => spec_ReadLive_back h) (spec_ReadLive_tot s hl)

theorem readLive_cases (s : List UInt8) : readLive s = (zeroLive, false) ∧ (¬ ∃ v, isLive s v) ∨ ∃ v, readLive s = (v, true) ∧ isLive s v := by
  unfold readLive
  by_cases h : ∃ v, isLive s v
  · rw [dif_pos h]; exact .inr ⟨_, rfl, h.choose_spec⟩
  · rw [dif_neg h]; exact .inl ⟨rfl, h⟩

def isHint (s : List UInt8) (h : HintT) : Prop := hintOk h = true ∧ showHint h = s

def zeroHint : HintT := (0, 0, [])

theorem num_tot (st : ScanT) (hl : st.1.length < 2 ^ 62) : ∃ n st', impl_scanner_num.f st = some (n, st') ∧ st'.1.length ≤ st.1.length ∧ (st'.2 = false → st.2 = false ∧ st'.1.length + 1 ≤ st.1.length) := by
  obtain ⟨s, b⟩ := st
  cases b with
  | true => exact ⟨0, (s, true), num_bad s hl, Nat.le_refl _, fun e => by simp at e⟩
  | false =>
    rcases num_cases s hl with ⟨n, r, m, e, hn⟩ | m
    · have h1 := (readVar_back hn []).2
      have hle : s.length = (varT n).length + r.length := by rw [e, List.length_append]
      exact ⟨n, (r, false), m, by show r.length ≤ s.length; omega, fun _ => ⟨rfl, by show r.length + 1 ≤ s.length; omega⟩⟩
    · exact ⟨0, (s, true), m, Nat.le_refl _, fun e => by simp at e⟩

theorem text_tot (st : ScanT) (hl : st.1.length < 2 ^ 62) : ∃ t st', impl_scanner_text.f st = some (t, st') ∧ st'.1.length ≤ st.1.length ∧ (st'.2 = false → st.2 = false ∧ st'.1.length + 1 ≤ st.1.length) := by
  obtain ⟨s, b⟩ := st
  cases b with
  | true => exact ⟨[], (s, true), text_bad s hl, Nat.le_refl _, fun e => by simp at e⟩
  | false =>
    rcases text_cases s hl with ⟨t, r, m, e, hn⟩ | ⟨r, m, hr⟩
    · have h1 := (readVar_back hn []).2
      have hle : s.length = (varT (t.length : Int)).length + (t.length + r.length) := by
        have := congrArg List.length e
        simp only [List.length_append] at this; exact this
      exact ⟨t, (r, false), m, by show r.length ≤ s.length; omega, fun _ => ⟨rfl, by show r.length + 1 ≤ s.length; omega⟩⟩
    · exact ⟨[], (r, true), m, hr, fun e => by simp at e⟩

theorem bytes_tot (s : List UInt8) : ∃ t st', impl_scanner_bytes.f (s, false) 4 = some (t, st') ∧ st'.1.length ≤ s.length := by
  rcases bytes_cases s 4 (by decide) with ⟨t, r, e, es, _⟩ | e
  · exact ⟨t, (r, false), e, by rw [es, List.length_append]; show r.length ≤ _; omega⟩
  · exact ⟨[], (s, true), e, Nat.le_refl _⟩

theorem lim48'' {a : Nat} (h : a < 1000000000001) : (a + 1) * 48 ≤ 140737488355328 := by omega

theorem impl_ReadHint_tot (s : List UInt8) (hl : s.length < 900000000) : ∃ res : HintT × Bool, impl_ReadHint.f s = some res ∧ (res = (zeroHint, false) ∨ ∃ h, res = (h, true) ∧ isHint s h) := by
  obtain ⟨t, st1, e1, l1⟩ := bytes_tot s
  obtain ⟨n2, st2, e2, l2, _⟩ := num_tot st1 (by omega)
  obtain ⟨n3, st3, e3, l3, _⟩ := num_tot st2 (by omega)
  obtain ⟨n4, st4, e4, l4, _⟩ := num_tot st3 (by omega)
  have key := lp_ok (step := impl_ReadHint.l0) (a := (s, ((0, 0, []) : HintT), st4, ((n2, n3, []) : HintT), n4, 0))
    (fun a => ∃ (st : ScanT) (es : List EntryT), a = (s, (0, 0, []), st, (n2, n3, es), n4, (es.length : Int)) ∧ st.1.length ≤ s.length ∧ (st.2 = false → es.length + st.1.length ≤ s.length) ∧ es.length ≤ s.length + 1)
    (fun a => if a.2.2.1.2 = true then 0 else a.2.2.1.1.length + 1)
    (fun b => ∃ (st : ScanT) (es : List EntryT), b = (s, (0, 0, []), st, (n2, n3, es)) ∧ es.length ≤ s.length + 1)
    (fun rec a ha => by
      obtain ⟨st, es, rfl, h1, h2, h4⟩ := ha
      by_cases c : (es.length : Int) < n4
      rotate_left
      · left; exact ⟨_, by simp only [impl_ReadHint.l0, c, decide_false, cond_false], st, es, rfl, h4⟩
      obtain ⟨u, bad⟩ := st
      simp only at h1 h2
      cases bad with
      | true =>
        left
        exact ⟨_, by simp only [impl_ReadHint.l0, c, decide_true, cond_true, Bool.not_true, cond_false], (u, true), es, rfl, h4⟩
      | false =>
        right
        have h2 := h2 rfl
        obtain ⟨x5, s5, m5, q5, r5⟩ := text_tot (u, false) (show u.length < 2 ^ 62 by omega)
        have q5 : s5.1.length ≤ u.length := q5
        obtain ⟨x6, s6, m6, q6, r6⟩ := num_tot s5 (by omega)
        obtain ⟨x7, s7, m7, q7, r7⟩ := num_tot s6 (by omega)
        obtain ⟨x8, s8, m8, q8, r8⟩ := num_tot s7 (by omega)
        obtain ⟨x9, s9, m9, q9, r9⟩ := num_tot s8 (by omega)
        have hw := w64_succ (show es.length + 1 < 9223372036854775808 by omega)
        have hb : (es.length + ([(x5, x6, x7, x8, x9)] : List EntryT).length) * 48 ≤ 140737488355328 := lim48'' (by omega)
        have hdec : s9.2 = false → s9.1.length + 1 ≤ u.length := fun e => by
          have a9 := r9 e
          have a8 := r8 a9.1
          have a7 := r7 a8.1
          have a6 := r6 a7.1
          have a5 := (r5 a6.1).2
          have a5 : s5.1.length + 1 ≤ u.length := a5
          omega
        refine ⟨(s, (0, 0, []), s9, (n2, n3, es ++ [(x5, x6, x7, x8, x9)]), n4, ((es.length + 1 : Nat) : Int)), ⟨s9, es ++ [(x5, x6, x7, x8, x9)], by simp only [List.length_append, List.length_singleton], by omega, fun e => by simp only [List.length_append, List.length_singleton]; have := hdec e; omega, by simp only [List.length_append, List.length_singleton]; omega⟩, ?_, ?_⟩
        · simp only [Bool.false_eq_true, if_false]
          split
          · omega
          · rename_i z
            have := hdec (by simpa using z)
            omega
        · simp only [impl_ReadHint.l0, c, decide_true, cond_true, Bool.not_false, m5, m6, m7, m8, m9, Option.bind_some, hb, hw])
    ⟨st4, [], rfl, by omega, fun _ => by simp; omega, by simp⟩ (by simp only; split <;> omega)
  obtain ⟨b, eb, st, es, rfl, hes⟩ := key
  unfold impl_ReadHint.f
  simp only [e1, e2, e3, e4, Option.bind_some, eb]
  cases c1 : st.2 with
  | true => exact ⟨(zeroHint, false), rfl, .inl rfl⟩
  | false =>
    simp only [cond_false, impl_hintOk_eq (n2, n3, es) (show es.length < 1000000000 by omega), Option.bind_some]
    cases c2 : hintOk (n2, n3, es) with
    | false => exact ⟨(zeroHint, false), rfl, .inl rfl⟩
    | true =>
      simp only [Bool.not_true, cond_false, impl_ShowHint_eq (n2, n3, es) (show es.length < 1000000000 by omega), Option.bind_some]
      by_cases c3 : showHint (n2, n3, es) = s
      · have d3 : (showHint (n2, n3, es) == s) = true := by simpa using c3
        exact ⟨((n2, n3, es), true), by simp only [d3, Bool.not_true, cond_false], .inr ⟨_, rfl, c2, c3⟩⟩
      · have d3 : (showHint (n2, n3, es) == s) = false := by simpa using c3
        exact ⟨(zeroHint, false), by simp only [d3, Bool.not_false, cond_true]; rfl, .inl rfl⟩

theorem hint_in {h : HintT} (k : hintOk h = true) : numIn h.1 ∧ numIn h.2.1 ∧ h.2.2.length ≤ 20 ∧ ∀ e ∈ h.2.2, e.1.length ≤ 8 ∧ numIn e.2.1 ∧ numIn e.2.2.1 ∧ numIn e.2.2.2.1 ∧ numIn e.2.2.2.2 := by
  unfold hintOk at k
  simp only [Bool.and_eq_true, decide_eq_true_eq, List.all_eq_true] at k
  obtain ⟨k1, k2, k3, k4⟩ := k
  have hd := dirOk_mem k4
  refine ⟨⟨k2.1, by omega⟩, ⟨k3.1, by omega⟩, hd.1, fun e he => ?_⟩
  have ho := hd.2 e he
  have hs := k1 e he
  have hk := entry_key ho
  unfold entryOk at ho
  unfold sameSeg at hs
  simp only [Bool.and_eq_true, decide_eq_true_eq, Bool.not_eq_true', decide_eq_false_iff_not] at ho hs
  unfold numIn
  omega

theorem isHint_text {s : List UInt8} {h : HintT} (k : isHint s h) : s = fix4 (crcT (hintBd h)) ++ hintBd h ∧ (fix4 (crcT (hintBd h))).length = 4 := by
  refine ⟨?_, fix4_len4 (crcT_range _)⟩
  rw [← k.2]; unfold showHint; rw [if_neg (by rw [k.1]; simp)]

theorem entT_eq (e : EntryT) (r : List UInt8) : entT e ++ r = varT (e.1.length : Int) ++ (e.1 ++ (varT e.2.1 ++ (varT e.2.2.1 ++ (varT e.2.2.2.1 ++ (varT e.2.2.2.2 ++ r))))) := by
  unfold entT; simp only [List.append_assoc]

theorem impl_ReadHint_back {s : List UInt8} {h : HintT} (k : isHint s h) : impl_ReadHint.f s = some (h, true) := by
  obtain ⟨es, h4⟩ := isHint_text k
  obtain ⟨n1, n2, n3, n4⟩ := hint_in k.1
  have hbl := hintB_len k.1
  have hsh := k.2
  have hok := k.1
  obtain ⟨z, m, l⟩ := h
  simp only at n1 n2 n3 n4
  have hcnt : numIn (l.length : Int) := ⟨by omega, by omega⟩
  have hbd : hintBd (z, m, l) = varT z ++ (varT m ++ (varT (l.length : Int) ++ (l.map entT).flatten)) := by unfold hintBd; simp only [List.append_assoc]
  have hbl2 := hbl
  rw [hbd] at hbl2
  simp only [List.length_append] at hbl2
  have b0 := bytes_back (fix4 (crcT (hintBd (z, m, l)))) (hintBd (z, m, l))
  rw [← es, h4, hbd] at b0
  have b0 : impl_scanner_bytes.f (s, false) 4 = _ := b0
  have m1 := num_back n1 (varT m ++ (varT (l.length : Int) ++ (l.map entT).flatten)) (by simp only [List.length_append]; omega)
  have m2 := num_back n2 (varT (l.length : Int) ++ (l.map entT).flatten) (by simp only [List.length_append]; omega)
  have m3 := num_back hcnt (l.map entT).flatten (by simp only [List.length_append]; omega)
  have hfl : ∀ n, ((l.drop n).map entT).flatten.length ≤ 43 * (l.drop n).length := fun n => entsT_len (fun x hx => (n4 x (List.mem_of_mem_drop hx)).1)
  have key := lp_up (step := impl_ReadHint.l0) (fun n (_ : Unit) => (s, ((0, 0, []) : HintT), (((l.drop n).map entT).flatten, false), ((z, m, l.take n) : HintT), (l.length : Int), (n : Int))) l.length (fun _ _ => (s, (0, 0, []), ([], false), (z, m, l))) (fun _ _ => True)
    (fun rec n _ hn _ ih => by
      rcases Nat.lt_or_ge n l.length with h1 | h1
      · have hw := w64_succ (show n + 1 < 9223372036854775808 by omega)
        obtain ⟨k0, k1, k2, k3, k5⟩ := n4 _ (List.getElem_mem h1)
        have hk0 : numIn (l[n].1.length : Int) := ⟨by omega, by omega⟩
        have hd : ((l.drop n).map entT).flatten = entT l[n] ++ ((l.drop (n + 1)).map entT).flatten := by
          rw [List.drop_eq_getElem_cons h1]; rfl
        have hlen := hfl n
        rw [hd, entT_eq] at hlen
        rw [List.length_drop] at hlen
        simp only [List.length_append] at hlen
        have t0 := text_back l[n].1 (varT l[n].2.1 ++ (varT l[n].2.2.1 ++ (varT l[n].2.2.2.1 ++ (varT l[n].2.2.2.2 ++ ((l.drop (n + 1)).map entT).flatten)))) hk0 (by simp only [List.length_append]; omega)
        have t1 := num_back k1 (varT l[n].2.2.1 ++ (varT l[n].2.2.2.1 ++ (varT l[n].2.2.2.2 ++ ((l.drop (n + 1)).map entT).flatten))) (by simp only [List.length_append]; omega)
        have t2 := num_back k2 (varT l[n].2.2.2.1 ++ (varT l[n].2.2.2.2 ++ ((l.drop (n + 1)).map entT).flatten)) (by simp only [List.length_append]; omega)
        have t3 := num_back k3 (varT l[n].2.2.2.2 ++ ((l.drop (n + 1)).map entT).flatten) (by simp only [List.length_append]; omega)
        have t4 := num_back k5 ((l.drop (n + 1)).map entT).flatten (by simp only [List.length_append]; omega)
        have hb : ((l.take n).length + ([l[n]] : List EntryT).length) * 48 ≤ 140737488355328 := lim48'' (by rw [List.length_take]; omega)
        have hi : l.take n ++ [l[n]] = l.take (n + 1) := (List.take_succ_eq_append_getElem h1).symm
        have hp : ((l[n].1, l[n].2.1, l[n].2.2.1, l[n].2.2.2.1, l[n].2.2.2.2) : EntryT) = l[n] := rfl
        simp only [impl_ReadHint.l0, Int.ofNat_lt, h1, decide_true, cond_true, hd, entT_eq, Bool.not_false, t0, t1, t2, t3, t4, Option.bind_some, hp, hb, hw, hi, ih () h1 trivial]
      · have : n = l.length := by omega
        subst this
        simp [impl_ReadHint.l0])
    (by omega) 0 () (Nat.zero_le _) trivial
  have key : lp impl_ReadHint.l0 (s, (0, 0, []), ((l.map entT).flatten, false), (z, m, []), (l.length : Int), 0) = _ := key
  unfold impl_ReadHint.f
  simp only [b0, m1, m2, m3, Option.bind_some, key, cond_false, impl_hintOk_eq (z, m, l) (show l.length < 1000000000 by omega), hok, Bool.not_true, impl_ShowHint_eq (z, m, l) (show l.length < 1000000000 by omega), hsh, beq_self_eq_true]

noncomputable def readHint (s : List UInt8) : HintT × Bool := @dite (HintT × Bool) (∃ v, isHint s v) (Classical.propDecidable _) (fun h => (h.choose, true)) (fun _ => (zeroHint, false))

theorem readHint_of {s : List UInt8} {o : Option (HintT × Bool)} (h1 : ∀ v, isHint s v → o = some (v, true)) (h2 : ∃ res : HintT × Bool, o = some res ∧ (res = (zeroHint, false) ∨ ∃ v, res = (v, true) ∧ isHint s v)) : o = some (readHint s) := by
  unfold readHint
  by_cases h : ∃ v, isHint s v
  · rw [dif_pos h]; exact h1 _ h.choose_spec
  · rw [dif_neg h]
    obtain ⟨res, e, k | ⟨v, _, hv⟩⟩ := h2
    · rw [e, k]
    · exact absurd ⟨v, hv⟩ h

theorem impl_ReadHint_eq (s : List UInt8) (hl : s.length < 900000000) : impl_ReadHint.f s = some (readHint s) := readHint_of (fun _ h => impl_ReadHint_back h) (impl_ReadHint_tot s hl)

theorem readHint_cases (s : List UInt8) : readHint s = (zeroHint, false) ∧ (¬ ∃ v, isHint s v) ∨ ∃ v, readHint s = (v, true) ∧ isHint s v := by
  unfold readHint
  by_cases h : ∃ v, isHint s v
  · rw [dif_pos h]; exact .inr ⟨_, rfl, h.choose_spec⟩
  · rw [dif_neg h]; exact .inl ⟨rfl, h⟩

theorem entry_and (x y : EntryT) : (x.1 == y.1 && (x.2.1 == y.2.1 && (x.2.2.1 == y.2.2.1 && (x.2.2.2.1 == y.2.2.2.1 && x.2.2.2.2 == y.2.2.2.2)))) = decide (x = y) := by
  obtain ⟨a, b, c, d, e⟩ := x
  obtain ⟨a', b', c', d', e'⟩ := y
  apply Bool.eq_iff_iff.2
  simp

theorem impl_SameDir_eq (a b : List EntryT) (ha : a.length < 2 ^ 62) : impl_SameDir.f a b = some (decide (a = b)) := by
  unfold impl_SameDir.f
  by_cases hl : a.length = b.length
  rotate_left
  · rw [len_ne hl]
    have : ¬ a = b := fun e => hl (by rw [e])
    rw [decide_eq_false this]; rfl
  rw [len_eq hl, cond_false]
  have key := all_loop (step := impl_SameDir.l0) (List.range a.length) (fun i => decide (a.getD i ([], 0, 0, 0, 0) = b.getD i ([], 0, 0, 0, 0))) (fun n => (a, b, (a.length : Int), (n : Int))) () (by simpa using ha)
    (fun rec n h => by
      have h1 : n < a.length := by simpa using h
      have h2 : n < b.length := by omega
      have hw := w64_succ (show n + 1 < 9223372036854775808 by omega)
      have hr : (List.range a.length)[n] = n := by simp
      simp only [impl_SameDir.l0, Int.ofNat_lt, h1, decide_true, cond_true, inB_nat, h2, rdA_nat, entry_and, hw, hr]
      cases decide (a.getD n ([], 0, 0, 0, 0) = b.getD n ([], 0, 0, 0, 0)) <;> simp)
    (fun rec => by simp [impl_SameDir.l0])
  have key : lp impl_SameDir.l0 (a, b, (a.length : Int), 0) = _ := key
  rw [key, Option.bind_some]
  have hall : (List.range a.length).all (fun i => decide (a.getD i ([], 0, 0, 0, 0) = b.getD i ([], 0, 0, 0, 0))) = decide (a = b) := by
    apply Bool.eq_iff_iff.2
    rw [List.all_eq_true, decide_eq_true_eq]
    constructor
    · intro h
      apply List.ext_getElem hl
      intro i h1 h2
      have := h i (by simpa using h1)
      simp only [decide_eq_true_eq] at this
      rwa [getD_lt h1, getD_lt h2] at this
    · rintro rfl i _; simp
  rw [hall]
  by_cases e : a = b
  · rw [decide_eq_true e]; simp [caseS_l]
  · rw [decide_eq_false e]; simp [caseS_r]

noncomputable def hintFits (id : Int) (t : List UInt8) (h : HintT) : Bool := decide (hintOf id t = (h, true))

theorem hint_split (x : HintT × Bool) (h : HintT) : (bif x.2 then bif x.1.1 == h.1 then bif x.1.2.1 == h.2.1 then decide (x.1.2.2 = h.2.2) else false else false else false) = decide (x = (h, true)) := by
  obtain ⟨⟨a, b, c⟩, d⟩ := x
  obtain ⟨a', b', c'⟩ := h
  apply Bool.eq_iff_iff.2
  cases d
  · simp
  · simp only [cond_true, decide_eq_true_eq, Prod.mk.injEq, and_true]
    by_cases e1 : a = a'
    · by_cases e2 : b = b'
      · simp [e1, e2]
      · have : (b == b') = false := by simpa using e2
        simp [e1, e2, this]
    · have : (a == a') = false := by simpa using e1
      simp [e1, this]

theorem impl_HintFits_eq (id : Int) (t : List UInt8) (h : HintT) (ht : t.length < 100000000) : impl_HintFits.f id t h = some (hintFits id t h) := by
  unfold impl_HintFits.f hintFits
  rw [impl_HintOf_eq id t ht, Option.bind_some, ← hint_split]
  have hl := hintOf_len id t
  generalize hintOf id t = x at hl ⊢
  obtain ⟨⟨a, b, c⟩, d⟩ := x
  simp only [impl_SameDir_eq c h.2.2 (show c.length < 2 ^ 62 by have : c.length ≤ t.length := hl; omega), Option.bind_some]
  cases d <;> simp only [cond_true, cond_false]
  cases (a == h.1) <;> cases (b == h.2.1) <;> rfl

abbrev GroupT := List EntryT × Int × Int

abbrev zPlace : PlaceT := (0, 0, 0, 0, 0, [], [], 0, 0)

/-- One more record, for those that are a seal's (3, of a batch) or a mark's (5). -/
def ownStep (k b : Int) (acc : List PlaceT) (p : PlaceT) : List PlaceT :=
  if k = 3 ∧ p.2.2.2.2.1 ≠ b then acc
  else if p.2.2.2.1 = k then []
  else if (k = 3 ∧ (p.2.2.2.1 = 1 ∨ p.2.2.2.1 = 2)) ∨ (k = 5 ∧ p.2.2.2.1 = 4) then acc ++ [p] else acc

def ownL (k b : Int) (l : List PlaceT) : List PlaceT := l.foldl (ownStep k b) []

theorem ownStep_len (k b : Int) (acc : List PlaceT) (p : PlaceT) : (ownStep k b acc p).length ≤ acc.length + 1 := by
  unfold ownStep
  split
  · omega
  · split
    · simp
    · split
      · simp
      · omega

theorem ownL_len (k b : Int) (l : List PlaceT) : (ownL k b l).length ≤ l.length := by
  have : ∀ (l acc : List PlaceT), (l.foldl (ownStep k b) acc).length ≤ acc.length + l.length := by
    intro l
    induction l with
    | nil => intro acc; simp
    | cons x l ih => intro acc; have := ih (ownStep k b acc x); have := ownStep_len k b acc x; simp only [List.foldl_cons, List.length_cons]; omega
  have := this l []
  unfold ownL
  simpa using this

theorem lim88 {a : Nat} (h : a < 1000000000001) : (a + 1) * 88 ≤ 140737488355328 := by omega

theorem impl_ownOf_eq (l : List PlaceT) (r : RecT) (hl : l.length < 1000000000) : impl_ownOf.f l r = some (ownL r.1 r.2.1 l) := by
  have hk := fold_loop (step := impl_ownOf.l0) l (ownStep r.1 r.2.1) (fun n (s : List PlaceT) => (r, s, l, (l.length : Int), (n : Int))) (fun s => s) (fun n s => s.length ≤ n) (by omega)
    (fun rec n s h hi => by
      have hw := w64_succ (show n + 1 < 9223372036854775808 by omega)
      have hb : (s.length + ([l[n]] : List PlaceT).length) * 88 ≤ 140737488355328 := lim88 (by omega)
      have hb2 : decide ((s.length + 1) * 88 ≤ 140737488355328) = true := by simp only [decide_eq_true_eq]; omega
      unfold ownStep
      simp only [impl_ownOf.l0, Int.ofNat_lt, h, decide_true, cond_true, inB_nat, rdA_nat, getD_lt h]
      generalize l[n] = p at *
      obtain ⟨sg, at_, ln, k, b, key, v, c, z⟩ := p
      obtain ⟨rk, rb, rr⟩ := r
      simp only at hb ⊢
      by_cases c1 : rk = 3
      · subst c1
        simp only [beq_self_eq_true, cond_true, true_and, show ¬ ((3 : Int) = 5) by decide, false_and, or_false]
        by_cases c2 : b = rb
        · subst c2
          simp only [bne_self_eq_false, cond_false, ne_eq, not_true, if_false]
          by_cases c3 : k = 3
          · subst c3; simp [hw]
          · have d3 : (k == 3) = false := by simpa using c3
            simp only [d3, cond_false, c3, if_false]
            by_cases c4 : k = 1
            · subst c4; simp [hw, hb2]
            · have d4 : (k == 1) = false := by simpa using c4
              simp only [d4, cond_false, c4, false_or]
              by_cases c5 : k = 2
              · subst c5; simp [hw, hb2]
              · have d5 : (k == 2) = false := by simpa using c5
                have d6 : ((3 : Int) == 5) = false := rfl
                simp [d5, c5, d6, hw]
        · have d2 : (b != rb) = true := by simpa using c2
          simp [d2, c2, hw]
      · have d1 : (rk == 3) = false := by simpa using c1
        simp only [d1, cond_false, c1, false_and, if_false, false_or]
        by_cases c3 : k = rk
        · have d3 : (k == rk) = true := by simpa using c3
          simp [d3, c3, hw]
        · have d3 : (k == rk) = false := by simpa using c3
          simp only [d3, cond_false, c3, if_false]
          by_cases c4 : rk = 5
          · subst c4
            simp only [beq_self_eq_true, cond_true, true_and]
            by_cases c5 : k = 4
            · subst c5; simp [hw, hb2]
            · have d5 : (k == 4) = false := by simpa using c5
              simp [d5, c5, hw]
          · have d4 : (rk == 5) = false := by simpa using c4
            simp [d4, c4, hw])
    (fun n s h hi => by have := ownStep_len r.1 r.2.1 s l[n]; omega)
    (fun rec s hi => by simp [impl_ownOf.l0]) [] (Nat.le_refl _)
  have hk : lp impl_ownOf.l0 (r, [], l, (l.length : Int), 0) = _ := hk
  unfold impl_ownOf.f
  rw [hk]; rfl

def putD (dir : List EntryT) (p : PlaceT) : List EntryT :=
  if p.2.2.2.1 = 2 then dropK dir p.2.2.2.2.2.1 else insB (dropK dir p.2.2.2.2.2.1) (p.2.2.2.2.2.1, p.1, p.2.1, p.2.2.1, p.2.2.2.2.1)

def applyD (dir : List EntryT) (own : List PlaceT) : List EntryT := own.foldl putD dir

theorem putD_len (dir : List EntryT) (p : PlaceT) : (putD dir p).length ≤ dir.length + 1 := by
  unfold putD
  have := dropK_len dir p.2.2.2.2.2.1
  split
  · omega
  · rw [insB_len]; omega

theorem applyD_len (own : List PlaceT) : ∀ dir, (applyD dir own).length ≤ dir.length + own.length := by
  unfold applyD
  induction own with
  | nil => intro dir; simp
  | cons x l ih => intro dir; have := ih (putD dir x); have := putD_len dir x; simp only [List.foldl_cons, List.length_cons]; omega

def codeD (dir : List EntryT) (c : Int) : Int := if 20 < dir.length then 2 else c

theorem impl_apply_eq (g : GroupT) (own : List PlaceT) (hg : g.1.length < 100000000) (ho : own.length < 100000000) : impl_Group_apply.f g own = some (applyD g.1 own, g.2.1, codeD (applyD g.1 own) g.2.2) := by
  have hk := fold_loop (step := impl_Group_apply.l0) own putD (fun n (s : List EntryT) => ((s, g.2), own, (own.length : Int), (n : Int))) (fun s => (s, g.2)) (fun n s => s.length ≤ g.1.length + n) (by omega)
    (fun rec n s h hi => by
      have hw := w64_succ (show n + 1 < 9223372036854775808 by omega)
      unfold putD
      simp only [impl_Group_apply.l0, Int.ofNat_lt, h, decide_true, cond_true, inB_nat, rdA_nat, getD_lt h]
      by_cases c : own[n].2.2.2.1 = 2
      · have d : (own[n].2.2.2.1 == 2) = true := by simpa using c
        rw [if_pos c]
        simp only [d, cond_true, impl_DirDrop_eq s own[n].2.2.2.2.2.1 (by omega), Option.bind_some, hw]
      · have d : (own[n].2.2.2.1 == 2) = false := by simpa using c
        rw [if_neg c]
        simp only [d, cond_false, impl_DirPut_eq s (own[n].2.2.2.2.2.1, own[n].1, own[n].2.1, own[n].2.2.1, own[n].2.2.2.2.1) (by omega), Option.bind_some, hw])
    (fun n s h hi => by have := putD_len s own[n]; omega)
    (fun rec s hi => by simp [impl_Group_apply.l0]) g.1 (Nat.le_refl _)
  have hk : lp impl_Group_apply.l0 (g, own, (own.length : Int), 0) = some (applyD g.1 own, g.2) := hk
  unfold impl_Group_apply.f codeD
  rw [hk, Option.bind_some]
  simp only
  by_cases c : 20 < (applyD g.1 own).length
  · have d : decide (((applyD g.1 own).length : Int) > 20) = true := by simp; omega
    rw [d, if_pos c]; rfl
  · have d : decide (((applyD g.1 own).length : Int) > 20) = false := by simp; omega
    rw [d, if_neg c]; rfl

/-- Record p behind those of 'pre'. -/
def regStep (pre : List PlaceT) (p : PlaceT) (g : GroupT) : GroupT :=
  let last := if p.2.2.2.2.1 > g.2.1 then p.2.2.2.2.1 else g.2.1
  if p.2.2.2.1 = 3 ∨ p.2.2.2.1 = 5 then
    let own := ownL p.2.2.2.1 p.2.2.2.2.1 pre
    if fitsR p.2.2.2 (own.map (·.2.2.2)) = true then (applyD g.1 own, last, codeD (applyD g.1 own) g.2.2)
    else if p.2.2.2.1 = 5 then (g.1, last, 1) else (g.1, last, g.2.2)
  else (g.1, last, g.2.2)

def regGo : List PlaceT → List PlaceT → GroupT → GroupT
  | _, [], g => g
  | pre, p :: r, g => if g.2.2 ≠ 0 then g else regGo (pre ++ [p]) r (regStep pre p g)

/-- At the end: what is kept without a mark. -/
def regEnd (l : List PlaceT) (g : GroupT) : GroupT := if g.2.2 = 0 ∧ 0 < (ownL 5 0 l).length then (g.1, g.2.1, 1) else g

def regroup (g : GroupT) (l : List PlaceT) : GroupT := regEnd l (regGo [] l g)

theorem regStep_len (pre : List PlaceT) (p : PlaceT) (g : GroupT) : (regStep pre p g).1.length ≤ g.1.length + pre.length := by
  unfold regStep
  have h1 := applyD_len (ownL p.2.2.2.1 p.2.2.2.2.1 pre) g.1
  have h2 := ownL_len p.2.2.2.1 p.2.2.2.2.1 pre
  simp only
  split
  · split
    · show (applyD g.1 (ownL p.2.2.2.1 p.2.2.2.2.1 pre)).length ≤ _; omega
    · split <;> exact Nat.le_add_right _ _
  · exact Nat.le_add_right _ _

theorem regStep_code (pre : List PlaceT) (p : PlaceT) (g : GroupT) (h : g.2.2 = 0) (hc : (regStep pre p g).2.2 = 0) : (regStep pre p g).1.length ≤ max g.1.length 20 := by
  unfold regStep at hc ⊢
  simp only at hc ⊢
  split
  · rename_i c
    rw [if_pos c] at hc
    split
    · rename_i c2
      rw [if_pos c2] at hc
      have hc : codeD (applyD g.1 (ownL p.2.2.2.1 p.2.2.2.2.1 pre)) g.2.2 = 0 := hc
      show (applyD g.1 (ownL p.2.2.2.1 p.2.2.2.2.1 pre)).length ≤ _
      unfold codeD at hc
      split at hc
      · simp at hc
      · omega
    · split <;> exact Nat.le_max_left _ _
  · exact Nat.le_max_left _ _

def regF (l : List PlaceT) : List PlaceT → List PlaceT → GroupT → (List PlaceT × GroupT × GroupT) ⊕ GroupT
  | _, [], g => .inl (l, ([], 0, 0), g)
  | pre, p :: r, g => if g.2.2 ≠ 0 then .inr g else regF l (pre ++ [p]) r (regStep pre p g)

theorem regF_go (l : List PlaceT) : ∀ (r pre : List PlaceT) (g : GroupT), regF l pre r g = .inl (l, ([], 0, 0), regGo pre r g) ∨ (regF l pre r g = .inr (regGo pre r g) ∧ (regGo pre r g).2.2 ≠ 0)
  | [], pre, g => .inl rfl
  | p :: r, pre, g => by
    unfold regF regGo
    by_cases c : g.2.2 ≠ 0
    · rw [if_pos c, if_pos c]; exact .inr ⟨rfl, c⟩
    · rw [if_neg c, if_neg c]; exact regF_go l r _ _

def regInv (g : GroupT) : Prop := g.1.length ≤ (if g.2.2 = 0 then 1000020 else 11000020)

theorem regInv_step {pre : List PlaceT} {p : PlaceT} {g : GroupT} (h : regInv g) (hc : g.2.2 = 0) (hp : pre.length < 10000000) : regInv (regStep pre p g) := by
  unfold regInv at h ⊢
  rw [if_pos hc] at h
  split
  · rename_i c
    have := regStep_code pre p g hc c
    omega
  · have := regStep_len pre p g
    omega

theorem impl_Regroup_l0 (l : List PlaceT) (hl : l.length < 10000000) (g0 : GroupT) (hg : regInv g0) :
    lp impl_Regroup.l0 (l, ([], 0, 0), g0, l, (l.length : Int), 0) = some (regF l [] l g0) := by
  have key := lp_up (step := impl_Regroup.l0) (fun n (g : GroupT) => (l, (([], 0, 0) : GroupT), g, l, (l.length : Int), (n : Int))) l.length (fun n g => regF l (l.take n) (l.drop n) g) (fun _ g => regInv g)
    (fun rec n g hn hi ih => by
      rcases Nat.lt_or_ge n l.length with h | h
      · have hw := w64_succ (show n + 1 < 9223372036854775808 by omega)
        have htl : (l.take n).length = n := by rw [List.length_take]; omega
        rw [List.drop_eq_getElem_cons h]
        unfold regF
        obtain ⟨⟨sg, at_, ln, k, b, key, v, c, z⟩, hp⟩ : ∃ p, l[n] = p := ⟨_, rfl⟩
        have hr : rdA zPlace l (n : Int) = (sg, at_, ln, k, b, key, v, c, z) := by rw [rdA_nat, getD_lt h, hp]
        have hx : inB (n : Int) l.length = true := by rw [inB_nat, decide_eq_true h]
        have ht : l.take n ++ [(sg, at_, ln, k, b, key, v, c, z)] = l.take (n + 1) := by rw [← hp]; exact (List.take_succ_eq_append_getElem h).symm
        by_cases c0 : g.2.2 = 0
        rotate_left
        · rw [if_pos c0]
          have d0 : (g.2.2 != 0) = true := by simpa using c0
          simp only [impl_Regroup.l0, Int.ofNat_lt, h, decide_true, cond_true, hx, d0, Option.bind_some, caseS_r]
        rw [if_neg (fun z => z c0), hp]
        have d0 : (g.2.2 != 0) = false := by simpa using c0
        have hs := ih (regStep (l.take n) (sg, at_, ln, k, b, key, v, c, z) g) h (regInv_step hi c0 (by omega))
        rw [ht]
        rw [← hs]
        have hg1 : g.1.length < 100000000 := by unfold regInv at hi; rw [if_pos c0] at hi; omega
        have hin : (decide (0 ≤ (n : Int)) && decide ((n : Int) ≤ (l.length : Int))) = true := by simp only [Bool.and_eq_true, decide_eq_true_eq]; omega
        have how := impl_ownOf_eq (l.take n) (k, b, key, v, c, z) (by omega)
        have hol := ownL_len k b (l.take n)
        have hft := impl_fits_eq (k, b, key, v, c, z) (ownL k b (l.take n)) (by omega)
        have hap := fun last => impl_apply_eq (g.1, last, g.2.2) (ownL k b (l.take n)) hg1 (by omega)
        simp only [impl_Regroup.l0, Int.ofNat_lt, h, decide_true, cond_true, hx, hr, d0, cond_false]
        unfold regStep
        simp only
        by_cases c3 : k = 3
        · subst c3
          simp only [bne_self_eq_false, cond_false, Option.bind_some, caseS_l, hin, cond_true, Int.toNat_natCast, how, hft, true_or, if_true, show ¬ ((3 : Int) = 5) by decide, if_false, show ((3 : Int) == 5) = false from rfl]
          cases fitsR (3, b, key, v, c, z) ((ownL 3 b (l.take n)).map (·.2.2.2))
          · simp only [cond_false, Option.bind_some, caseS_l, hw, Bool.false_eq_true, if_false]
          · simp only [cond_true, hap, Option.bind_some, caseS_l, hw, if_true]
        · have d3 : (k != 3) = true := by simpa using c3
          simp only [d3, cond_true, c3, false_or]
          by_cases c5 : k = 5
          · subst c5
            simp only [bne_self_eq_false, cond_false, Option.bind_some, caseS_l, hin, cond_true, Int.toNat_natCast, how, hft, if_true, beq_self_eq_true]
            cases fitsR (5, b, key, v, c, z) ((ownL 5 b (l.take n)).map (·.2.2.2))
            · simp only [cond_false, Option.bind_some, caseS_l, hw, Bool.false_eq_true, if_false]
            · simp only [cond_true, hap, Option.bind_some, caseS_l, hw, if_true]
          · have d5 : (k != 5) = true := by simpa using c5
            simp only [d5, cond_true, c5, if_false, Option.bind_some, caseS_r, caseS_l, hw]
      · have : n = l.length := by omega
        subst this
        simp only [impl_Regroup.l0, Int.lt_irrefl, decide_false, cond_false, List.take_length, List.drop_length, regF])
    (by omega) 0 g0 (Nat.zero_le _) hg
  exact key

theorem impl_Regroup_eq (g : GroupT) (l : List PlaceT) (hl : l.length < 10000000) (hg : regInv g) : impl_Regroup.f g l = some (regroup g l) := by
  have hg1 : g.1.length < 1000000000 := by unfold regInv at hg; split at hg <;> omega
  unfold impl_Regroup.f
  rw [impl_copyDir_eq g.1 hg1, Option.bind_some, impl_Regroup_l0 l hl (g.1, g.2) hg, Option.bind_some]
  unfold regroup regEnd
  rcases regF_go l l [] g with e | ⟨e, hc⟩
  · rw [show ((g.1, g.2) : GroupT) = g from rfl, e]
    simp only [caseS_l]
    by_cases c : (regGo [] l g).2.2 = 0
    · have d : ((regGo [] l g).2.2 == 0) = true := by simpa using c
      have ho := impl_ownOf_eq l (5, 0, [], [], 0, 0) (by omega)
      simp only [d, cond_true, ho, Option.bind_some]
      by_cases c2 : 0 < (ownL 5 0 l).length
      · have d2 : decide (((ownL 5 0 l).length : Int) > 0) = true := by simp; omega
        rw [d2, if_pos ⟨c, c2⟩]; rfl
      · have d2 : decide (((ownL 5 0 l).length : Int) > 0) = false := by simp only [decide_eq_false_iff_not]; omega
        rw [d2, if_neg (fun z => c2 z.2)]; rfl
    · have d : ((regGo [] l g).2.2 == 0) = false := by simpa using c
      simp only [d, cond_false]
      rw [if_neg (fun z => c z.1)]
  · rw [show ((g.1, g.2) : GroupT) = g from rfl, e]
    simp only [caseS_r]
    rw [if_neg (fun z => hc z.1)]

def spots : Nat → List RecT → List SpotT
  | _, [] => []
  | a, r :: rs => ((a : Int), ((fr r).length : Int), r) :: spots (a + (fr r).length) rs

theorem scanAt_spots : ∀ (rs : List RecT) (p : List UInt8), (∀ r ∈ rs, recOk r = true) → scanAt (p ++ txt rs) p.length = (spots p.length rs, p.length + (txt rs).length)
  | [], p, _ => by
    have : p ++ txt [] = p := by simp [txt]
    rw [this, scanAt_end]; simp [txt, spots]
  | r :: rs, p, h => by
    have hs := showRec_len r
    have hb := unframe_back (t := showRec r) (by omega) (txt rs)
    have hd : (p ++ txt (r :: rs)).drop p.length = frame (showRec r) ++ txt rs := by rw [List.drop_left]; rfl
    have hl := fr_len r
    have hrr := readRec_back (h r List.mem_cons_self)
    rw [scanAt_step (n := (fr r).length) (by rw [hd, hb]; rfl) hl.1 (by rw [txt_cons]; simp only [List.length_append]; omega) (by rw [hd, hb]; simp only; rw [hrr])]
    have ih := scanAt_spots rs (p ++ fr r) (fun x hx => h x (List.mem_cons_of_mem _ hx))
    rw [List.append_assoc, List.length_append] at ih
    rw [hd, hb]
    simp only [hrr]
    have e : p ++ txt (r :: rs) = p ++ (fr r ++ txt rs) := rfl
    rw [e, ih]
    simp only [spots, txt_cons, List.length_append, Nat.add_assoc]

theorem scan_spots {rs : List RecT} (h : ∀ r ∈ rs, recOk r = true) : scan (txt rs) = (spots 0 rs, (txt rs).length) := by
  have := scanAt_spots rs [] h
  simp only [List.nil_append, List.length_nil, Nat.zero_add] at this
  exact this

theorem scanAt_recs : ∀ (k : Nat) (s : List UInt8) (a : Nat), a ≤ s.length → s.length - a = k → ∃ (rs : List RecT) (q : List UInt8), (∀ r ∈ rs, recOk r = true) ∧ s.drop a = txt rs ++ q ∧ scanAt s a = (spots a rs, a + (txt rs).length) := by
  intro k
  induction k using Nat.strongRecOn with
  | ind k ih =>
    intro s a ha hk
    by_cases c : (unframe (s.drop a)).2 = 0 ∨ (readRec (unframe (s.drop a)).1).2 = false
    · exact ⟨[], s.drop a, by simp, rfl, scanAt_stop ha c⟩
    · have c1 : (unframe (s.drop a)).2 ≠ 0 := fun e => c (.inl e)
      have hr : (readRec (unframe (s.drop a)).1).2 = true := by
        cases e : (readRec (unframe (s.drop a)).1).2 with
        | true => rfl
        | false => exact absurd (.inr e) c
      obtain ⟨t, r, e1, e2, e3⟩ := unframe_some c1
      have h5 := frame_pos e2
      have hlen : a + (frame t).length ≤ s.length := by
        have : (s.drop a).length = (frame t ++ r).length := by rw [← e1]
        rw [List.length_drop, List.length_append] at this; omega
      have hst := scanAt_step (n := (frame t).length) (by rw [e3]) h5 hlen hr
      obtain ⟨rs, q, g1, g2, g3⟩ := ih (s.length - (a + (frame t).length)) (by omega) s (a + (frame t).length) hlen rfl
      have hd : s.drop (a + (frame t).length) = r := by rw [← List.drop_drop, e1, List.drop_left]
      rw [e3] at hr
      rcases readRec_cases t with ⟨z, _⟩ | ⟨x, z, hx⟩
      · rw [z] at hr; simp at hr
      · refine ⟨x :: rs, q, ?_, ?_, ?_⟩
        · intro y hy
          rcases List.mem_cons.1 hy with rfl | hy
          · exact hx.1
          · exact g1 y hy
        · rw [e1, txt_cons, ← hd, g2]
          show frame t ++ (txt rs ++ q) = frame (showRec x) ++ txt rs ++ q
          rw [hx.2, List.append_assoc]
        · rw [hst, g3, e3]
          have hf : (fr x).length = (frame t).length := by show (frame (showRec x)).length = _; rw [hx.2]
          simp only [z, spots, txt_cons, List.length_append, hf, Nat.add_assoc]

theorem scan_recs (s : List UInt8) : ∃ (rs : List RecT) (q : List UInt8), (∀ r ∈ rs, recOk r = true) ∧ s = txt rs ++ q ∧ scan s = (spots 0 rs, (txt rs).length) := by
  obtain ⟨rs, q, h1, h2, h3⟩ := scanAt_recs s.length s 0 (Nat.zero_le _) (by omega)
  rw [List.drop_zero] at h2
  rw [Nat.zero_add] at h3
  exact ⟨rs, q, h1, h2, h3⟩

/-- What stands behind the last record may be cut off. -/
theorem scan_cut (s : List UInt8) : scan (s.take (scan s).2) = scan s := by
  obtain ⟨rs, q, h1, h2, h3⟩ := scan_recs s
  rw [h3]
  have : s.take (txt rs).length = txt rs := by rw [h2, List.take_left]
  rw [this, scan_spots h1]

theorem orphP_len {d : DiskT} (h : diskOk d = true) (v : LiveT) : (orphP d v).length ≤ 130 := by
  unfold orphP
  rw [if_neg (by rw [h]; simp), List.length_map]
  exact Nat.le_trans (List.length_filter_le _ _) (diskOk_fuel h).2.2

noncomputable def sweepW (v : LiveT) (d : DiskT) : WorkT := sDrop (orphP d v) (d, 0)

theorem dk_sweep {d : DiskT} (h : diskOk d = true) (v : LiveT) : diskOk (sweepW v d).1 = true := dk_sDrop _ h

theorem impl_orphans_eq (w : WorkT) (v : LiveT) (h : diskOk w.1 = true) (hv : v.2.length < 1000000000) : impl_worker_orphans.f w v = some (wDrop (orphP w.1 v) w) := by
  unfold impl_worker_orphans.f
  rw [impl_Orphans_eq w.1 v (dl_lim (dl_dk h) (by omega)) hv, Option.bind_some]
  have hl := orphP_len h v
  generalize orphP w.1 v = names at hl ⊢
  have key := fold_loop (step := impl_worker_orphans.l0) names (fun (w : WorkT) n => wstep (dGone n) w) (fun n (a : WorkT) => (a, names, (names.length : Int), (n : Int))) (fun a => a) (fun _ a => diskOk a.1 = true) (by omega)
    (fun rec n a h1 ha => by
      have hw := w64_succ (show n + 1 < 9223372036854775808 by omega)
      simp only [impl_worker_orphans.l0, Int.ofNat_lt, h1, decide_true, cond_true, inB_nat, rdA_nat, getD_lt h1, w_gone_eq a names[n] (dl_dk ha) (by omega), Option.bind_some, hw])
    (fun n a h1 ha => dk_wstep (op := dGone names[n]) ha fun k => dk_Gone k _)
    (fun rec a ha => by simp [impl_worker_orphans.l0])
    w h
  have key : lp impl_worker_orphans.l0 (w, names, (names.length : Int), 0) = some (wDrop names w) := key
  rw [key]; rfl

noncomputable def segPl (d : DiskT) (id : Int) : List PlaceT := (scan (fileText d (segName id)).1).1.map fun x => ((id, x) : PlaceT)

theorem txt_le {d : DiskT} (h : diskOk d = true) (n : List UInt8) : (fileText d n).1.length ≤ 100000 := by
  have h1 := fileText_len d n (dl_lim (dl_dk h) (by omega))
  have h2 := diskOk_cap h
  omega

theorem segPl_len {d : DiskT} (h : diskOk d = true) (id : Int) : (segPl d id).length ≤ 100000 := by
  unfold segPl
  rw [List.length_map]
  exact Nat.le_trans (scan_len _).2 (txt_le h _)

theorem segsPl_len {d : DiskT} (h : diskOk d = true) : ∀ ids : List Int, (ids.flatMap (segPl d)).length ≤ 100000 * ids.length
  | [] => by simp
  | id :: r => by
    have := segPl_len h id
    have := segsPl_len h r
    simp only [List.flatMap_cons, List.length_append, List.length_cons]; omega

abbrev zStore : StoreT := ((0, []), [], 0, 0, 0)

noncomputable def openFirst (d : DiskT) : StoreT × DiskT × Int :=
  let w := sPut (2, [1]) (sstep (dCreate (segName 1)) (sweepW zeroLive d))
  if w.2 ≠ 0 then (zStore, w.1, told w.2) else (((2, [1]), [], 1, 0, 0), w.1, 0)

theorem live_one : liveOk (2, [1]) = true := by decide

theorem impl_first_eq (d : DiskT) (h : diskOk d = true) : ∃ w : WorkT, impl_worker_first.f (d, 0) = some (((2, [1]), [], 1, 0, 0), w) ∧ w = toldW (sPut (2, [1]) (sstep (dCreate (segName 1)) (sweepW zeroLive d))) := by
  refine ⟨_, ?_, rfl⟩
  unfold impl_worker_first.f
  have h1 := impl_orphans_eq (d, 0) zeroLive h (by show 0 < _; omega)
  have e1 : wDrop (orphP d zeroLive) (d, 0) = toldW (sweepW zeroLive d) := wDrop_told _ (d, 0)
  have hd1 := dk_sweep h zeroLive
  have h2 := w_create_eq (toldW (sweepW zeroLive d)) (segName 1) (k := 100001) (dl_dk hd1) (by omega) (by have := segName_len 1; omega)
  have e2 : wstep (dCreate (segName 1)) (toldW (sweepW zeroLive d)) = toldW (sstep (dCreate (segName 1)) (sweepW zeroLive d)) := wstep_told _ _
  have hd2 : diskOk (sstep (dCreate (segName 1)) (sweepW zeroLive d)).1 = true := dk_sstep hd1 fun k => dk_Create k _
  have h3 := w_putLive_eq (toldW (sstep (dCreate (segName 1)) (sweepW zeroLive d))) (2, [1]) (k := 100001) (dl_dk hd2) (by omega) (by show 1 < _; decide)
  have e3 := wPut_told (2, [1]) (sstep (dCreate (segName 1)) (sweepW zeroLive d))
  have h1 : impl_worker_orphans.f (d, 0) (0, []) = some (toldW (sweepW zeroLive d)) := h1.trans (by rw [e1])
  rw [e2] at h2
  rw [e3] at h3
  simp only [h1, Option.bind_some, impl_SegName_eq, h2, h3]

noncomputable def segsHave (d : DiskT) : List Int → Bool
  | [] => true
  | id :: r => (fileText d (segName id)).2 && ((r.isEmpty || decide ((scan (fileText d (segName id)).1).2 = (fileText d (segName id)).1.length)) && segsHave d r)

noncomputable def lastEnd (d : DiskT) : List Int → Int → Int
  | [], z => z
  | id :: r, _ => lastEnd d r ((scan (fileText d (segName id)).1).2 : Int)

theorem lastEnd_last (d : DiskT) : ∀ (l : List Int) (z : Int), l ≠ [] → lastEnd d l z = ((scan (fileText d (segName (lastI l))).1).2 : Int)
  | [], _, h => absurd rfl h
  | [x], z, _ => by rw [lastEnd, lastEnd, lastI_one]
  | x :: y :: l, z, _ => by rw [lastEnd, lastI_cons]; exact lastEnd_last d (y :: l) _ (by simp)

theorem isEmpty_drop {α : Type} (l : List α) (n : Nat) (h : n < l.length) : (l.drop (n + 1)).isEmpty = decide (¬ n < l.length - 1) := by
  apply Bool.eq_iff_iff.2
  rw [List.isEmpty_iff, List.drop_eq_nil_iff, decide_eq_true_eq]; omega

theorem impl_scanAll_eq (w : WorkT) (v : LiveT) (h : diskOk w.1 = true) (hv : v.2.length < 1000000) :
    impl_worker_scanAll.f w v = some (if segsHave w.1 v.2 = true then (v.2.map (segPl w.1), lastEnd w.1 v.2 0, true, w) else ([], 0, false, w)) := by
  have key := lp_up (step := impl_worker_scanAll.l0) (fun n (s : List (List PlaceT) × Int) => (w, v, s.1, s.2, v.2, (v.2.length : Int), (n : Int))) v.2.length
    (fun n s => if segsHave w.1 (v.2.drop n) = true then .inl (w, s.1 ++ (v.2.drop n).map (segPl w.1), lastEnd w.1 (v.2.drop n) s.2) else .inr (w, [], 0, false)) (fun n s => s.1.length ≤ n)
    (fun rec n s hn hs ih => by
      rcases Nat.lt_or_ge n v.2.length with h1 | h1
      · have hw := w64_succ (show n + 1 < 9223372036854775808 by omega)
        have hwl : w64 ((v.2.length : Int) - 1) = ((v.2.length - 1 : Nat) : Int) := by rw [w64_id (by omega) (by omega)]; omega
        have hd : v.2.drop n = v.2[n] :: v.2.drop (n + 1) := List.drop_eq_getElem_cons h1
        have htx := txt_le h (segName v.2[n])
        have hsc := scan_len (fileText w.1 (segName v.2[n])).1
        have hpl := impl_placed_eq v.2[n] (scan (fileText w.1 (segName v.2[n])).1).1 (by omega)
        have hb : decide ((s.1.length + ([segPl w.1 v.2[n]] : List (List PlaceT)).length) * 24 ≤ 140737488355328) = true := by simp only [decide_eq_true_eq]; exact lim24 (by omega)
        have ih := ih (s.1 ++ [segPl w.1 v.2[n]], ((scan (fileText w.1 (segName v.2[n])).1).2 : Int)) h1 (by simp only [List.length_append, List.length_singleton]; omega)
        have hft := impl_FileText_eq w.1 (segName v.2[n]) (dl_lim (dl_dk h) (by omega))
        have hsr := impl_ScanRecs_eq (fileText w.1 (segName v.2[n])).1 (by omega)
        rw [hd]
        simp only [segsHave, lastEnd, List.map_cons, isEmpty_drop v.2 n h1]
        simp only [impl_worker_scanAll.l0, Int.ofNat_lt, h1, decide_true, cond_true, inB_nat, rdA_nat, getD_lt h1, impl_SegName_eq, Option.bind_some, hft, hsr, hwl]
        have hpl2 : impl_placed.f v.2[n] (scan (fileText w.1 (segName v.2[n])).1).1 = some (segPl w.1 v.2[n]) := hpl
        have hgo : ((impl_placed.f v.2[n] (scan (fileText w.1 (segName v.2[n])).1).1).bind fun t5 => bif decide ((s.1.length + [t5].length) * 24 ≤ 140737488355328) then rec (w, v, s.1 ++ [t5], ((scan (fileText w.1 (segName v.2[n])).1).2 : Int), v.2, (v.2.length : Int), w64 ((n : Int) + 1)) else none) =
            some (if segsHave w.1 (v.2.drop (n + 1)) = true then .inl (w, s.1 ++ (segPl w.1 v.2[n] :: (v.2.drop (n + 1)).map (segPl w.1)), lastEnd w.1 (v.2.drop (n + 1)) ((scan (fileText w.1 (segName v.2[n])).1).2 : Int)) else .inr (w, [], 0, false)) := by
          rw [hpl2, Option.bind_some, hb, cond_true, hw]
          have : s.1 ++ (segPl w.1 v.2[n] :: (v.2.drop (n + 1)).map (segPl w.1)) = s.1 ++ [segPl w.1 v.2[n]] ++ (v.2.drop (n + 1)).map (segPl w.1) := by simp
          rw [this]; exact ih
        cases hk : (fileText w.1 (segName v.2[n])).2 with
        | false => simp only [Bool.not_false, cond_true, Option.bind_some, caseS_r, Bool.false_and, Bool.false_eq_true, if_false]
        | true =>
          simp only [Bool.not_true, cond_false, Bool.true_and]
          by_cases c1 : n < v.2.length - 1
          · simp only [c1, decide_true, cond_true, not_true, decide_false, Bool.false_or]
            by_cases c2 : (scan (fileText w.1 (segName v.2[n])).1).2 = (fileText w.1 (segName v.2[n])).1.length
            · rw [len_eq c2, cond_false]
              simp only [Option.bind_some, caseS_l, decide_eq_true c2, Bool.true_and]
              exact hgo
            · rw [len_ne c2, cond_true]
              simp only [Option.bind_some, caseS_r, decide_eq_false c2, Bool.false_and, Bool.false_eq_true, if_false]
          · simp only [c1, decide_false, cond_false, not_false_iff, decide_true, Bool.true_or, Bool.true_and, Option.bind_some, caseS_l]
            exact hgo
      · have : n = v.2.length := by omega
        subst this
        rw [List.drop_length]
        simp [impl_worker_scanAll.l0, segsHave, lastEnd])
    (by omega) 0 ([], 0) (Nat.zero_le _) (Nat.le_refl _)
  have key : lp impl_worker_scanAll.l0 (w, v, [], 0, v.2, (v.2.length : Int), 0) = _ := key
  unfold impl_worker_scanAll.f
  rw [key, Option.bind_some, List.drop_zero]
  by_cases c : segsHave w.1 v.2 = true
  · rw [if_pos c, if_pos c]; simp only [caseS_l, List.nil_append]
  · rw [if_neg c, if_neg c]; simp only [caseS_r]

noncomputable def hintG (d : DiskT) (id : Int) : Option GroupT :=
  if (fileText d (hintName id)).2 = true ∧ (readHint (fileText d (hintName id)).1).2 = true ∧ hintFits id (fileText d (segName id)).1 (readHint (fileText d (hintName id)).1).1 = true then
    some ((readHint (fileText d (hintName id)).1).1.2.2, (readHint (fileText d (hintName id)).1).1.2.1, 0) else none

theorem impl_hinted_eq (w : WorkT) (id : Int) (h : diskOk w.1 = true) : impl_worker_hinted.f w id = some (match hintG w.1 id with | some g => (g, true, w) | none => (([], 0, 0), false, w)) := by
  have hlm := dl_lim (dl_dk h) (show 100001 ≤ 1000000000 by omega)
  have ht := txt_le h (hintName id)
  have ht2 := txt_le h (segName id)
  unfold impl_worker_hinted.f hintG
  simp only [impl_HintName_eq, Option.bind_some, impl_FileText_eq w.1 (hintName id) hlm, impl_ReadHint_eq _ (show (fileText w.1 (hintName id)).1.length < 900000000 by omega), impl_SegName_eq, impl_FileText_eq w.1 (segName id) hlm,
    impl_HintFits_eq id (fileText w.1 (segName id)).1 (readHint (fileText w.1 (hintName id)).1).1 (by omega)]
  cases (fileText w.1 (hintName id)).2 <;> cases (readHint (fileText w.1 (hintName id)).1).2 <;> cases hintFits id (fileText w.1 (segName id)).1 (readHint (fileText w.1 (hintName id)).1).1 <;> simp

noncomputable def placesOf (x : DiskT) (ids : List Int) : List PlaceT := ids.flatMap (segPl x)

theorem impl_found_l0 (w : WorkT) (v : LiveT) (S : StoreT) (g : GroupT) (L : List (List PlaceT)) (z : LiveT) (hL : ∀ l ∈ L, l.length ≤ 100000) (hl : L.length ≤ 1000) :
    lp impl_worker_found.l0 (w, zStore, (v.1, []), S, g, [], L, (L.length : Int), 0) = some (w, zStore, (v.1, []), S, g, L.flatten) := by
  have hk := fold_loop (step := impl_worker_found.l0) L (fun (s : List PlaceT) l => s ++ l) (fun n s => (w, zStore, (v.1, []), S, g, s, L, (L.length : Int), (n : Int))) (fun s => (w, zStore, (v.1, []), S, g, s)) (fun n s => s.length ≤ 100000 * n) (by omega)
    (fun rec n s h hi => by
      have hw := w64_succ (show n + 1 < 9223372036854775808 by omega)
      have h1 := hL _ (List.getElem_mem h)
      have hb : decide ((s.length + L[n].length) * 88 ≤ 140737488355328) = true := by simp only [decide_eq_true_eq]; omega
      simp only [impl_worker_found.l0, Int.ofNat_lt, h, decide_true, cond_true, inB_nat, rdA_nat, getD_lt h, hb, hw])
    (fun n s h hi => by have h1 := hL _ (List.getElem_mem h); simp only [List.length_append]; omega)
    (fun rec s hi => by simp [impl_worker_found.l0]) [] (Nat.le_refl _)
  have hk : lp impl_worker_found.l0 (w, zStore, (v.1, []), S, g, [], L, (L.length : Int), 0) = _ := hk
  rw [hk]
  have : ∀ (L : List (List PlaceT)) (s : List PlaceT), L.foldl (fun (s : List PlaceT) l => s ++ l) s = s ++ L.flatten := by
    intro L
    induction L with
    | nil => intro s; simp
    | cons x L ih => intro s; rw [List.foldl_cons, ih]; simp
  rw [this]; rfl

theorem ft_Trunc {d : DiskT} (h : diskOk d = true) {m n : List UInt8} (z : Int) (hne : n ≠ m) : fileText (dTrunc m z d).1 n = fileText d n := by
  refine ft_files h (dk_Trunc h m z) n fun t => ?_
  unfold actTrunc
  rcases fileIx_cases d.1 m with ⟨e, _⟩ | ⟨i, hi, e, hn⟩
  · rw [ix_none e]
  · rw [ix_some e]
    simp only
    split
    · rw [getD_lt hi]
      constructor
      · rintro ⟨s, hs⟩; exact ⟨s, (mem_set_ne (f := (d.1[i].1, d.1[i].2.1.take z.toNat, if z < d.1[i].2.2 then z else d.1[i].2.2)) hi rfl (by rw [hn]; exact hne)).2 hs⟩
      · rintro ⟨s, hs⟩; exact ⟨s, (mem_set_ne (f := (d.1[i].1, d.1[i].2.1.take z.toNat, if z < d.1[i].2.2 then z else d.1[i].2.2)) hi rfl (by rw [hn]; exact hne)).1 hs⟩
    · exact Iff.rfl

theorem truncTxt {d : DiskT} {n : List UInt8} {z : Int} (h : (dTrunc n z d).2 = 0) : fileText (dTrunc n z d).1 n = ((fileText d n).1.take z.toNat, true) := by
  obtain ⟨k, ha, hx⟩ := dstep_zero h
  have hk : diskOk (dTrunc n z d).1 = true := dk_Trunc k n z
  have hx : (dTrunc n z d).1 = _ := hx
  unfold actTrunc at ha hx
  rcases fileIx_cases d.1 n with ⟨e, _⟩ | ⟨i, hi, e, hn⟩
  · rw [ix_none e] at ha; simp at ha
  rw [ix_some e] at ha hx
  simp only at ha hx
  split at ha
  · rename_i c
    rw [if_pos c, getD_lt hi] at hx
    have e1 := fileText_mem k (List.getElem_mem hi)
    rw [hn] at e1
    have hm : ((n, d.1[i].2.1.take z.toNat, if z < d.1[i].2.2 then z else d.1[i].2.2) : FileT) ∈ (dTrunc n z d).1.1 := by
      rw [hx, ← hn]
      exact List.mem_iff_getElem.2 ⟨i, by simpa using hi, by simp⟩
    have e2 := fileText_mem hk hm
    rw [e1]
    exact e2
  · simp at ha

noncomputable def cutN (v : LiveT) (d : DiskT) : Nat := (scan (fileText d (segName (lastI v.2))).1).2

/-- The last segment cut to its records, and kept. -/
noncomputable def cutW (v : LiveT) (d : DiskT) : WorkT :=
  sstep (dSync (segName (lastI v.2))) (if (fileText d (segName (lastI v.2))).1.length = cutN v d then (d, 0) else dTrunc (segName (lastI v.2)) (cutN v d : Int) d)

theorem dk_cutW {v : LiveT} {d : DiskT} (h : diskOk d = true) : diskOk (cutW v d).1 = true := by
  unfold cutW
  refine dk_sstep ?_ fun k => dk_Sync k _
  split
  · exact h
  · exact dk_Trunc h _ _

theorem cutW_ft {v : LiveT} {d : DiskT} (h : diskOk d = true) (n : List UInt8) (hne : n ≠ segName (lastI v.2)) : fileText (cutW v d).1 n = fileText d n := by
  unfold cutW
  split
  · rw [ft_sstep (ft_Sync h _ _)]
  · have hk : diskOk (dTrunc (segName (lastI v.2)) (cutN v d : Int) d).1 = true := dk_Trunc h _ _
    rw [ft_sstep (ft_Sync hk _ _)]
    exact ft_Trunc h _ hne

theorem cutW_last {v : LiveT} {d : DiskT} (h : diskOk d = true) (hl : (fileText d (segName (lastI v.2))).2 = true) (hc : (cutW v d).2 = 0) :
    fileText (cutW v d).1 (segName (lastI v.2)) = ((fileText d (segName (lastI v.2))).1.take (cutN v d), true) := by
  unfold cutW at hc ⊢
  have h0 := (sstep_inv hc).1
  split
  · rename_i c
    rw [ft_sstep (ft_Sync h _ _), ← c, List.take_length]
    exact Prod.ext rfl hl
  · rename_i c
    rw [if_neg c] at h0
    have hk : diskOk (dTrunc (segName (lastI v.2)) (cutN v d : Int) d).1 = true := dk_Trunc h _ _
    rw [ft_sstep (ft_Sync hk _ _), truncTxt h0, Int.toNat_natCast]

theorem cutW_pl {v : LiveT} {d : DiskT} (h : diskOk d = true) (hl : (fileText d (segName (lastI v.2))).2 = true) (hc : (cutW v d).2 = 0) (id : Int) : segPl (cutW v d).1 id = segPl d id := by
  unfold segPl
  by_cases c : segName id = segName (lastI v.2)
  · rw [c, cutW_last h hl hc]
    show List.map _ (scan ((fileText d (segName (lastI v.2))).1.take (cutN v d))).1 = _
    unfold cutN
    rw [scan_cut]
  · rw [cutW_ft h _ c]

theorem segsHave_last {d : DiskT} : ∀ (l : List Int), l ≠ [] → segsHave d l = true → (fileText d (segName (lastI l))).2 = true
  | [], h, _ => absurd rfl h
  | [x], _, h => by
    simp only [segsHave, Bool.and_eq_true] at h
    rw [lastI_one]; exact h.1
  | x :: y :: l, _, h => by
    rw [lastI_cons]
    have h : segsHave d (x :: (y :: l)) = true := h
    rw [segsHave, Bool.and_eq_true, Bool.and_eq_true] at h
    exact segsHave_last (y :: l) (by simp) h.2.2

noncomputable def openF (v : LiveT) (d : DiskT) : StoreT × DiskT × Int :=
  if (cutW v d).2 ≠ 0 then (zStore, (cutW v d).1, told (cutW v d).2) else
  let x := (cutW v d).1
  let g := match hintG x (v.2.getD 0 0) with
    | some g => regroup g (placesOf x (v.2.drop 1))
    | none => regroup ([], 0, 0) (placesOf x v.2)
  let hinted := match hintG x (v.2.getD 0 0) with
    | some _ => v.2.getD 0 0
    | none => 0
  if g.2.2 ≠ 0 then (zStore, x, 3) else
  if (sweepW v x).2 ≠ 0 then (zStore, (sweepW v x).1, told (sweepW v x).2) else
  ((v, g.1, w64 (g.2.1 + 1), (cutN v d : Int), hinted), (sweepW v x).1, 0)

noncomputable def openP (d : DiskT) : StoreT × DiskT × Int :=
  if diskOk d = false then (zStore, d, 4) else if d.2.2.2 = true then (zStore, d, 1) else
  if (fileText d liveN).2 = false then openFirst d else
  if (readLive (fileText d liveN).1).2 = false then (zStore, d, 3) else
  if segsHave d (readLive (fileText d liveN).1).1.2 = false then (zStore, d, 3) else openF (readLive (fileText d liveN).1).1 d

theorem hintG_len {x : DiskT} {id : Int} {g : GroupT} (h : hintG x id = some g) : g.1.length ≤ 20 ∧ g.2.2 = 0 := by
  unfold hintG at h
  split at h
  · rename_i c
    simp only [Option.some.injEq] at h
    subst h
    refine ⟨?_, rfl⟩
    rcases readHint_cases (fileText x (hintName id)).1 with ⟨e, _⟩ | ⟨u, e, hu⟩
    · rw [e] at c; simp at c
    · rw [e]; exact (hint_in hu.1).2.2.1
  · simp at h

theorem regInv_hint {x : DiskT} {id : Int} {g : GroupT} (h : hintG x id = some g) : regInv g := by
  obtain ⟨h1, h2⟩ := hintG_len h
  unfold regInv
  rw [if_pos h2]; omega

theorem regInv_zero : regInv ([], 0, 0) := by unfold regInv; simp

theorem placesOf_len {x : DiskT} (h : diskOk x = true) {ids : List Int} (hl : ids.length ≤ 60) : (placesOf x ids).length < 10000000 := by
  have := segsPl_len h ids
  unfold placesOf; omega

theorem impl_found_eq (d : DiskT) (t : List UInt8) (h : diskOk d = true) (ht : t.length < 1000000000) :
    ∃ S w, impl_worker_found.f (d, 0) t = some (S, w) ∧
      (if w.2 ≠ 0 then (zStore, w.1, w.2) else (S, w.1, (0 : Int))) =
      (if (readLive t).2 = false then (zStore, d, 3) else if segsHave d (readLive t).1.2 = false then (zStore, d, 3) else openF (readLive t).1 d) := by
  unfold impl_worker_found.f
  rw [impl_ReadLive_eq t ht, Option.bind_some]
  rcases readLive_cases t with ⟨e, _⟩ | ⟨v, e, hv⟩
  · rw [e]
    have hs := impl_scanAll_eq (d, 0) zeroLive h (by show 0 < _; omega)
    rw [if_pos (show segsHave d zeroLive.2 = true from rfl)] at hs
    simp only [hs, Option.bind_some, Bool.not_false, cond_true, if_true]
    exact ⟨_, _, rfl, by simp⟩
  rw [e]
  have hlen := liveOk_len hv.1
  have hpos := ((liveOk_iff v).1 hv.1).2.2.1
  have hs := impl_scanAll_eq (d, 0) v h (by omega)
  simp only [hs, Option.bind_some]
  cases hc : segsHave d v.2 with
  | false =>
    simp only [Bool.false_eq_true, if_false, Bool.not_true, cond_false, Bool.not_false, cond_true]
    exact ⟨_, _, rfl, by simp⟩
  | true =>
    have hlast := segsHave_last v.2 (fun z => by rw [z] at hpos; simp at hpos) hc
    obtain ⟨l1, l2, l3⟩ := last_rd hpos (by omega)
    have hle := lastEnd_last d v.2 0 (fun z => by rw [z] at hpos; simp at hpos)
    have hlm := dl_lim (dl_dk h) (show 100001 ≤ 1000000000 by omega)
    have hT := impl_Truncate_eq d (segName (lastI v.2)) (cutN v d : Int) hlm
    have hT : impl_Truncate.f d (segName (lastI v.2)) (cutN v d : Int) = some (dTrunc (segName (lastI v.2)) (cutN v d : Int) d) := hT
    have hcw : lastEnd d v.2 0 = (cutN v d : Int) := hle
    simp only [if_true, Bool.not_true, cond_false, Bool.true_eq_false, if_false, l1, l2, cond_true, l3, impl_SegName_eq, Option.bind_some, impl_FileText_eq d _ hlm, hcw]
    -- cut and kept
    have hmid : ∃ w0 : WorkT, w0 = toldW (if (fileText d (segName (lastI v.2))).1.length = cutN v d then (d, 0) else dTrunc (segName (lastI v.2)) (cutN v d : Int) d) ∧
        ((bif ((fileText d (segName (lastI v.2))).1.length : Int) != (cutN v d : Int) then
          (impl_Truncate.f d (segName (lastI v.2)) (cutN v d : Int)).bind fun (t5_0, t5_1) => (impl_worker_took_o.f (d, 0) t5_0 t5_1).bind fun t6 => some (t6, zStore, v, v.2.map (segPl d), (cutN v d : Int), segName (lastI v.2))
          else some ((d, 0), zStore, v, v.2.map (segPl d), (cutN v d : Int), segName (lastI v.2)) : Option (WorkT × StoreT × LiveT × List (List PlaceT) × Int × List UInt8))) = some (w0, zStore, v, v.2.map (segPl d), (cutN v d : Int), segName (lastI v.2)) := by
      refine ⟨_, rfl, ?_⟩
      by_cases c : (fileText d (segName (lastI v.2))).1.length = cutN v d
      · rw [len_eq c, if_pos c]; rfl
      · rw [len_ne c, if_neg c, cond_true, hT, Option.bind_some]
        generalize dTrunc (segName (lastI v.2)) (cutN v d : Int) d = p
        obtain ⟨p1, p2⟩ := p
        simp only [took_eq, Option.bind_some]; rfl
    obtain ⟨w0, ew0, hmid⟩ := hmid
    have hmid := hmid
    have hsync : impl_worker_sync.f w0 (segName (lastI v.2)) = some (toldW (cutW v d)) := by
      have hd0 : diskOk w0.1 = true := by
        rw [ew0]
        show diskOk (if (fileText d (segName (lastI v.2))).1.length = cutN v d then (d, (0 : Int)) else dTrunc (segName (lastI v.2)) (cutN v d : Int) d).1 = true
        split
        · exact h
        · exact dk_Trunc h _ _
      rw [w_sync_eq w0 (segName (lastI v.2)) (dl_dk hd0) (by omega), ew0, wstep_told]; rfl
    refine (show ∃ S w, _ ∧ _ from ?_)
    have hx0 : inB 0 v.2.length = true := by rw [show (0 : Int) = ((0 : Nat) : Int) from rfl, inB_nat]; simp; omega
    have hr0 : rdA 0 v.2 0 = v.2.getD 0 0 := by rw [show (0 : Int) = ((0 : Nat) : Int) from rfl, rdA_nat]
    have hsl : (decide (0 ≤ (1 : Int)) && decide (1 ≤ ((v.2.map (segPl d)).length : Int))) = true := by rw [List.length_map]; simp; omega
    have hd1 := dk_cutW (v := v) h
    have hpl := fun hc2 => cutW_pl (v := v) h hlast hc2
    unfold openF
    have hfl : ∀ ids : List Int, (cutW v d).2 = 0 → (ids.map (segPl d)).flatten = placesOf (cutW v d).1 ids := fun ids hc2 => by
      unfold placesOf
      rw [List.flatMap_def]
      congr 1
      exact List.map_congr_left fun id _ => (hpl hc2 id).symm
    have hmap : ∀ (ids : List Int), ∀ l ∈ ids.map (segPl d), l.length ≤ 100000 := fun ids l hl => by
      obtain ⟨id, _, rfl⟩ := List.mem_map.1 hl; exact segPl_len h id
    rw [show (((d, (0 : Int)) : WorkT).1) = d from rfl] at *
    rw [hmid, Option.bind_some]
    simp only [hsync, Option.bind_some]
    generalize hW : cutW v d = W at *
    obtain ⟨x, c⟩ := W
    by_cases c0 : c = 0
    rotate_left
    · have t1 : (told c != 0) = true := by rw [told_ne]; simpa using c0
      have t2 : told c ≠ 0 := fun z => c0 ((told_zero c).1 z)
      rw [if_pos c0]
      simp only [toldW, t1, cond_true]
      exact ⟨_, _, rfl, by rw [if_pos t2]⟩
    subst c0
    have hd1 : diskOk x = true := hd1
    rw [if_neg (by simp)]
    have t1 : (told 0 != 0) = false := rfl
    have t0 : told 0 = 0 := rfl
    have hh := impl_hinted_eq (x, 0) (v.2.getD 0 0) hd1
    simp only [toldW, t1, t0, cond_false, hx0, cond_true, hr0, hh, Option.bind_some]
    -- the end, alike for both ways
    have fin : ∀ (g0 : GroupT) (ids : List Int) (hin : Int), regInv g0 → ids.length ≤ 60 →
        ∃ S w, ((lp impl_worker_found.l0 ((x, 0), zStore, (v.1, []), (v, [], 0, (cutN v d : Int), hin), g0, [], ids.map (segPl d), ((ids.map (segPl d)).length : Int), 0)).bind (fun (x0, x4, x5, x13, x14, x16) =>
          (impl_Regroup.f x14 x16).bind fun t10 =>
          bif t10.2.2 != 0 then some (zStore, (x0.1, 3)) else
          (impl_worker_orphans.f x0 (x5.1, x13.1.2)).bind fun t11 => some ((x13.1, t10.1, w64 (t10.2.1 + 1), x13.2.2.2), t11)) : Option (StoreT × WorkT)) = some (S, w) ∧
        (if w.2 ≠ 0 then (zStore, w.1, w.2) else (S, w.1, (0 : Int))) =
          (if (regroup g0 (placesOf x ids)).2.2 ≠ 0 then (zStore, x, 3) else if (sweepW v x).2 ≠ 0 then (zStore, (sweepW v x).1, told (sweepW v x).2) else
            ((v, (regroup g0 (placesOf x ids)).1, w64 ((regroup g0 (placesOf x ids)).2.1 + 1), (cutN v d : Int), hin), (sweepW v x).1, 0)) := by
      intro g0 ids hin hg hi
      rw [impl_found_l0 (x, 0) v (v, [], 0, (cutN v d : Int), hin) g0 (ids.map (segPl d)) v (hmap ids) (by rw [List.length_map]; omega), Option.bind_some]
      have hfl2 := hfl ids rfl
      have hrg := impl_Regroup_eq g0 (placesOf x ids) (placesOf_len hd1 hi) hg
      have hor := impl_orphans_eq (x, 0) (v.1, v.2) hd1 (by show v.2.length < _; omega)
      have ewd : wDrop (orphP x v) (x, 0) = toldW (sweepW v x) := wDrop_told _ (x, 0)
      have hor : impl_worker_orphans.f (x, 0) (v.1, v.2) = some (toldW (sweepW v x)) := hor.trans (by rw [← ewd])
      simp only [hfl2, hrg, Option.bind_some]
      by_cases c1 : (regroup g0 (placesOf x ids)).2.2 = 0
      rotate_left
      · have d1 : ((regroup g0 (placesOf x ids)).2.2 != 0) = true := by simpa using c1
        rw [d1, cond_true, if_pos c1]
        exact ⟨_, _, rfl, by simp⟩
      have d1 : ((regroup g0 (placesOf x ids)).2.2 != 0) = false := by simpa using c1
      rw [d1, cond_false, if_neg (fun z => z c1), hor, Option.bind_some]
      refine ⟨_, _, rfl, ?_⟩
      generalize sweepW v x = S2
      obtain ⟨y, c2⟩ := S2
      by_cases c3 : c2 = 0
      · subst c3; simp [toldW, told]
      · have t2 : told c2 ≠ 0 := fun z => c3 ((told_zero c2).1 z)
        simp [toldW, t2, c3]
    cases hg : hintG x (v.2.getD 0 0) with
    | some g =>
      simp only [cond_true, hx0, hsl, hr0, Option.bind_some]
      have e1 : (v.2.map (segPl d)).drop 1 = (v.2.drop 1).map (segPl d) := by rw [List.map_drop]
      rw [e1]
      exact fin g (v.2.drop 1) (v.2.getD 0 0) (regInv_hint hg) (by rw [List.length_drop]; omega)
    | none =>
      simp only [cond_false, Option.bind_some]
      exact fin ([], 0, 0) v.2 0 regInv_zero hlen

theorem impl_Open_eq (d : DiskT) (hd : dl 1048577 d) : impl_Open.f d = some (openP d) := by
  have hlm := dl_lim hd (by omega)
  unfold impl_Open.f openP
  rw [impl_copyDisk_eq d (by have := hd.1; omega), Option.bind_some, impl_DiskOk_eq d hlm, Option.bind_some]
  cases h : diskOk d with
  | false => rfl
  | true =>
    simp only [Bool.not_true, cond_false, Bool.true_eq_false, if_false]
    obtain ⟨fs, cap, fuel, down⟩ := d
    cases hdn : down with
    | true => rfl
    | false =>
      subst hdn
      simp only [cond_false, Bool.false_eq_true, if_false]
      have hft := impl_FileText_eq (fs, cap, fuel, false) liveN hlm
      have hft : impl_FileText.f (fs, cap, fuel, false) [108, 105, 118, 101] = _ := hft
      rw [hft, Option.bind_some]
      have htl := txt_le h liveN
      generalize ((fs, cap, fuel, false) : DiskT) = d at *
      generalize fileText d liveN = q at htl ⊢
      obtain ⟨t, b⟩ := q
      cases b with
      | false =>
        simp only [cond_false, if_true]
        obtain ⟨w, e1, e2⟩ := impl_first_eq d h
        simp only [e1, Option.bind_some]
        unfold openFirst
        rw [e2]
        generalize sPut (2, [1]) (sstep (dCreate (segName 1)) (sweepW zeroLive d)) = p
        obtain ⟨y, c⟩ := p
        by_cases c0 : c = 0
        · subst c0; simp [toldW, told]
        · have t1 : (told c != 0) = true := by rw [told_ne]; simpa using c0
          simp only [toldW, t1, cond_true]
          rw [if_pos c0]
      | true =>
        simp only [cond_true, Bool.true_eq_false, if_false]
        obtain ⟨S, w, e1, e2⟩ := impl_found_eq d t h (by have : t.length ≤ 100000 := htl; omega)
        rw [← e2]
        simp only [e1, Option.bind_some]
        obtain ⟨y, c⟩ := w
        by_cases c0 : c = 0
        · subst c0; simp
        · have t1 : (c != 0) = true := by simpa using c0
          simp only [t1, cond_true]
          rw [if_pos c0]

theorem regGo_inv : ∀ (r pre : List PlaceT) (g : GroupT), regInv g → pre.length + r.length < 10000000 → regInv (regGo pre r g)
  | [], _, g, h, _ => h
  | p :: r, pre, g, h, hl => by
    unfold regGo
    simp only [List.length_cons] at hl
    split
    · exact h
    · rename_i c
      exact regGo_inv r (pre ++ [p]) _ (regInv_step h (by simpa using c) (by omega)) (by simp only [List.length_append, List.length_singleton]; omega)

theorem regroup_len {g : GroupT} {l : List PlaceT} (h : regInv g) (hl : l.length < 10000000) : (regroup g l).1.length ≤ 11000020 := by
  have := regGo_inv l [] g h (by simpa using hl)
  unfold regInv at this
  unfold regroup regEnd
  split
  · show (regGo [] l g).1.length ≤ _
    split at this <;> omega
  · split at this <;> omega

/-- The end of opening, for a group. -/
noncomputable def openE (v : LiveT) (x : DiskT) (e : Int) (g : GroupT) (hin : Int) : StoreT × DiskT × Int :=
  if g.2.2 ≠ 0 then (zStore, x, 3) else
  if (sweepW v x).2 ≠ 0 then (zStore, (sweepW v x).1, told (sweepW v x).2) else
  ((v, g.1, w64 (g.2.1 + 1), e, hin), (sweepW v x).1, 0)

end Go.Rf.G
