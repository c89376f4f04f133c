/- Plain: the disk's steps. -/
import Derived.Test.YtaijmhaonokniaaLe
namespace Go.Rf.G
open Go Go.Rf
set_option linter.unusedVariables false
set_option linter.unusedSimpArgs false
set_option synthInstance.maxSize 4000

/-! ### what a step does -/

/-- The disk with one step less. -/
def tick (d : DiskT) : DiskT := if d.2.2.1 > 0 then (d.1, d.2.1, d.2.2.1 - 1, d.2.2.2) else d

/-- A step: what it does is told by a code and files. -/
def dstep (d : DiskT) (act : List FileT → Int × List FileT) : DiskT × Int :=
  if diskOk d = false then (d, 5) else if d.2.2.2 = true ∨ d.2.2.1 = 0 then ((d.1, d.2.1, d.2.2.1, true), 1)
  else (((act d.1).2, (tick d).2), (act d.1).1)

theorem diskOk_fuel {d : DiskT} (h : diskOk d = true) : -1 ≤ d.2.2.1 ∧ d.2.2.1 ≤ 100000 ∧ d.1.length ≤ 130 := by
  unfold diskOk at h
  simp only [Bool.and_eq_true, decide_eq_true_eq] at h
  omega

theorem tick_fst (d : DiskT) : (tick d).1 = d.1 := by unfold tick; split <;> rfl

theorem spec_l3Begin_eq (d : DiskT) (h : dlim d) : spec_l3Begin.f d = some (if diskOk d = false then (d, 5) else if d.2.2.2 = true ∨ d.2.2.1 = 0 then ((d.1, d.2.1, d.2.2.1, true), 1) else (tick d, 0)) := by
  unfold spec_l3Begin.f
  rw [spec_l3Copy_eq d (by have := h.1; omega), spec_DiskOk_eq d h]
  simp only [Option.bind_some]
  rcases Bool.eq_false_or_eq_true (diskOk d) with k | k
  · have hf := diskOk_fuel k
    rcases Bool.eq_false_or_eq_true d.2.2.2 with k2 | k2
    · simp [k, k2]
    · by_cases k3 : d.2.2.1 = 0
      · simp [k, k2, k3]
      · have k4 : (d.2.2.1 == 0) = false := by simpa using k3
        unfold tick
        by_cases k5 : d.2.2.1 > 0
        · simp [k, k2, k3, k4, k5, w64_id (show -9223372036854775808 ≤ d.2.2.1 - 1 by omega) (by omega)]
        · simp [k, k2, k3, k4, k5]
  · simp [k]

/-- What the program's 'step' does with what is handed to it. -/
theorem step_eq {C : Type} (d : DiskT) (h : dlim d) (c : C) (does : C → DiskT → Option (Int × DiskT)) (act : List FileT → Int × List FileT) (hd : diskOk d = true → does c (tick d) = some ((act d.1).1, (act d.1).2, (tick d).2)) :
    ((impl_copyDisk.f d).bind fun t1 => (impl_DiskOk.f d).bind fun t2 =>
      bif !t2 then some (t1, 5) else
      bif d.2.2.2 then some ((t1.1, t1.2.1, t1.2.2.1, true), 1) else
      bif d.2.2.1 == 0 then some ((t1.1, t1.2.1, t1.2.2.1, true), 1) else
      (bif decide (d.2.2.1 > 0) then let y3 := w64 (t1.2.2.1 - 1); some (c, (([], 0, 0, false) : DiskT), (t1.1, t1.2.1, y3, t1.2.2.2)) else some (c, ([], 0, 0, false), t1) : Option (C × DiskT × DiskT)).bind fun (x1, x4, x6) =>
      (does x1 x6).bind fun (t4_0, t4_1) => some (t4_1, t4_0)) = some (dstep d act) := by
  rw [impl_copyDisk_eq d (by have := h.1; omega), impl_DiskOk_eq d h]
  simp only [Option.bind_some]
  unfold dstep
  rcases Bool.eq_false_or_eq_true (diskOk d) with k | k
  · have hf := diskOk_fuel k
    have hd := hd k
    rcases Bool.eq_false_or_eq_true d.2.2.2 with k2 | k2
    · simp [k, k2]
    · by_cases k3 : d.2.2.1 = 0
      · simp [k, k2, k3]
      · have k4 : (d.2.2.1 == 0) = false := by simpa using k3
        have e : (bif decide (d.2.2.1 > 0) then some (c, (([], 0, 0, false) : DiskT), ((d.1, d.2.1, w64 (d.2.2.1 - 1), d.2.2.2) : DiskT)) else some (c, ([], 0, 0, false), d)) = some (c, ([], 0, 0, false), tick d) := by
          unfold tick
          by_cases k5 : d.2.2.1 > 0
          · simp [k5, w64_id (show -9223372036854775808 ≤ d.2.2.1 - 1 by omega) (by omega)]
          · simp [k5]
        simp only [k, k4, Bool.not_true, cond_false, e, Option.bind_some, hd]
        simp [k2, k3]
  · simp [k]

theorem inB_ix {l : List FileT} {i : Nat} (h : i < l.length) : inB (i : Int) l.length = true := by simp [h]

theorem rdA_ix {l : List FileT} {i : Nat} (h : i < l.length) : rdA ([], [], 0) l (i : Int) = l[i] := by rw [rdA_nat, getD_lt h]

theorem dlim_tick {d : DiskT} (h : dlim d) : dlim (tick d) := by unfold dlim; rw [tick_fst]; exact h

/-! ### Sync -/

def actSync (name : List UInt8) (l : List FileT) : Int × List FileT :=
  match l.findIdx? (fun f => f.1 == name) with
  | some i => (0, l.set i ((l.getD i ([], [], 0)).1, (l.getD i ([], [], 0)).2.1, ((l.getD i ([], [], 0)).2.1.length : Int)))
  | none => (3, l)

theorem ix_none {l : List FileT} {name : List UInt8} (h : fileIx l name = -1) : l.findIdx? (fun f => f.1 == name) = none := by
  unfold fileIx at h
  cases e : l.findIdx? (fun f => f.1 == name) with
  | none => rfl
  | some i => rw [e] at h; simp only at h; omega

theorem ix_some {l : List FileT} {name : List UInt8} {i : Nat} (h : fileIx l name = (i : Int)) : l.findIdx? (fun f => f.1 == name) = some i := by
  unfold fileIx at h
  cases e : l.findIdx? (fun f => f.1 == name) with
  | none => rw [e] at h; simp only at h; omega
  | some j => rw [e] at h; simp only at h; congr 1; omega

theorem impl_Sync_1_eq (d : DiskT) (name : List UInt8) (h : d.1.length < 2 ^ 62) : impl_Sync_1.f d name = some ((actSync name d.1).1, (actSync name d.1).2, d.2) := by
  unfold impl_Sync_1.f actSync
  rw [impl_fileAt_eq d name h, Option.bind_some]
  rcases fileIx_cases d.1 name with ⟨e, _⟩ | ⟨i, hi, e, _⟩
  · rw [e, ix_none e]; rfl
  · rw [e, ix_some e]
    simp only [dnn (show (0 : Int) ≤ (i : Int) by omega), cond_false, inB_ix hi, cond_true, rdA_ix hi, Int.toNat_natCast, getD_lt hi]

theorem impl_Sync_eq (d : DiskT) (name : List UInt8) (h : dlim d) : impl_Sync.f d name = some (dstep d (actSync name)) := by
  have hs : impl_step_Sync_1.f d name = some (dstep d (actSync name)) := step_eq d h name (fun n x => impl_Sync_1.f x n) (actSync name) fun _ => by
    show impl_Sync_1.f (tick d) name = _
    rw [impl_Sync_1_eq (tick d) name (by rw [tick_fst]; have := h.1; omega), tick_fst]
  unfold impl_Sync.f
  rw [hs]; rfl

/-- The reference's steps: how they begin. -/
theorem begin_ways (d : DiskT) (h : dlim d) : (∃ (x : DiskT) (c : Int), spec_l3Begin.f d = some (x, c) ∧ (c != 0) = true ∧ ∀ act, dstep d act = (x, c)) ∨
    (diskOk d = true ∧ spec_l3Begin.f d = some (tick d, 0) ∧ ∀ act, dstep d act = (((act d.1).2, (tick d).2), (act d.1).1)) := by
  rw [spec_l3Begin_eq d h]
  unfold dstep
  rcases Bool.eq_false_or_eq_true (diskOk d) with k | k
  · by_cases k2 : d.2.2.2 = true ∨ d.2.2.1 = 0
    · left
      refine ⟨(d.1, d.2.1, d.2.2.1, true), 1, ?_, ?_, fun act => ?_⟩
      · rw [if_neg (by simp [k]), if_pos k2]
      · rfl
      · rw [if_neg (by simp [k]), if_pos k2]
    · right
      refine ⟨k, ?_, fun act => ?_⟩
      · rw [if_neg (by simp [k]), if_neg k2]
      · rw [if_neg (by simp [k]), if_neg k2]
  · left
    refine ⟨d, 5, ?_, ?_, fun act => ?_⟩
    · rw [if_pos k]
    · rfl
    · rw [if_pos k]

theorem spec_Sync_eq (d : DiskT) (name : List UInt8) (h : dlim d) : spec_Sync.f d name = some (dstep d (actSync name)) := by
  have hl : d.1.length < 2 ^ 62 := by have := h.1; omega
  unfold spec_Sync.f
  rcases begin_ways d h with ⟨x, c, e1, e2, e3⟩ | ⟨k, e1, e3⟩
  · rw [e1, e3, Option.bind_some]; simp only [e2, cond_true]
  rw [e1, e3, Option.bind_some]
  simp only [bne_self_eq_false, cond_false, spec_l3Find_eq d name hl, Option.bind_some]
  unfold actSync
  rcases fileIx_cases d.1 name with ⟨e, _⟩ | ⟨i, hi, e, _⟩
  · rw [e, ix_none e]
    show some (tick d, 3) = some ((d.1, (tick d).2), 3)
    rw [← tick_fst d]
  · rw [e, ix_some e]
    have ht : i < (tick d).1.length := by rw [tick_fst]; exact hi
    simp only [dnn (show (0 : Int) ≤ (i : Int) by omega), cond_false, inB_ix hi, inB_ix ht, cond_true, rdA_ix hi, rdA_ix ht, Int.toNat_natCast, getD_lt hi]
    simp only [tick_fst]
end Go.Rf.G
