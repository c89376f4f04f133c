/- What the statements' own functions (sizes, copies, comparisons, marks) come to. Printed by helpers.py. -/
import Derived.Test.YtaijmhaonokniaaPl
namespace Go.Rf.G
open Go Go.Rf
set_option linter.unusedVariables false
set_option linter.unusedSimpArgs false
set_option synthInstance.maxSize 4000
set_option synthInstance.maxHeartbeats 400000

def okL {α : Type} (f : α → Prop) (l : List α) : Prop := l.length ≤ reachBytes ∧ ∀ x ∈ l, f x

@[simp] theorem caseS_l {A B C : Type} (a : A) (f : A → C) (g : B → C) : caseS (.inl a) f g = f a := rfl
@[simp] theorem caseS_r {A B C : Type} (b : B) (f : A → C) (g : B → C) : caseS (.inr b) f g = g b := rfl

theorem pair_eta {A B : Type} (p : A × B) : (p.1, p.2) = p := rfl

theorem sumN_zero {α : Type} {f : α → Nat} (h : ∀ x, f x = 0) : ∀ l : List α, sumN f l = 0
  | [] => rfl
  | x :: r => by show f x + sumN f r = 0; rw [h, sumN_zero h r]

theorem if_len {β : Type} (n : Int) (a b : β) : (bif (n == n) then a else b) = a := by simp
theorem if_lim {β : Type} {c n : Int} (h1 : 0 ≤ n) (h2 : c * n ≤ 140737488355328) (a b : β) : (bif (decide (0 ≤ n) && decide (c * n ≤ 140737488355328)) then a else b) = a := by simp [h1, h2]
theorem if_nn {β : Type} {n : Int} (h : 0 ≤ n) (a b : β) : (bif decide (n < 0) then a else b) = b := by
  have : ¬ n < 0 := by omega
  simp [this]
theorem rdA_set {α : Type} {z : α} {r : List α} {n : Nat} {v : α} (h : n < r.length) : rdA z (r.set n v) (n : Int) = v := by simp [List.getD, h]

theorem lp_ex {A B : Type} {step : (A → Option B) → A → Option B} (P : A → Prop) (m : A → Nat) (h : ∀ rec a, P a → (∀ a', P a' → m a' < m a → ∃ b, rec a' = some b) → ∃ b, step rec a = some b) {a : A} (hp : P a) (hm : m a < 2 ^ 62) : ∃ b, lp step a = some b := by
  have key : ∀ n a, P a → m a < n → ∃ b, loopF step n a = some b := by
    intro n
    induction n with
    | zero => intro a _ hn; omega
    | succ n ih => intro a hp hn; exact h (loopF step n) a hp fun a' hp' hlt => ih a' hp' (by omega)
  exact key FUEL a hp (Nat.lt_of_lt_of_le hm fuel_le)

noncomputable def mt (k : Int) : List UInt8 := (laws_markText.f k).getD []

theorem markText_eq (k : Int) (h0 : 0 < k) (h1 : k < 2000000000000) : laws_markText.f k = some (mt k) := by
  have : ∃ b, laws_markText.f k = some b := by
    unfold laws_markText.f
    have hk : ¬ k ≤ 0 := by omega
    simp only [hk, decide_false, cond_false]
    have key : ∀ (n : Nat) (k : Int) (acc : List UInt8), 0 ≤ k → k < n → (n : Int) ≤ 2000000000000 → acc.length + k.toNat < 4000000000000 → ∀ f, n < f → ∃ b, loopF laws_markText.l0 f (k, acc) = some b ∧ b.length < 4000000000000 := by
      intro n
      induction n with
      | zero => intro k acc h0 h1; omega
      | succ n ih =>
        intro k acc h0 h1 h2 h3 f hf
        obtain ⟨f, rfl⟩ : ∃ g, f = g + 1 := ⟨f - 1, by omega⟩
        show ∃ b, laws_markText.l0 (loopF laws_markText.l0 f) (k, acc) = some b ∧ _
        simp only [laws_markText.l0]
        by_cases hk : k > 0
        · have hd : Int.tdiv k 10 = k / 10 := Int.tdiv_eq_ediv_of_nonneg (by omega)
          have hw : w64 (Int.tdiv k 10) = k / 10 := by rw [hd]; exact w64_id (by omega) (by omega)
          have hlen : ((strOf [IntKind.wrap .u8 (w64 (48 + (Int.tmod k 10)))]).length + acc.length ≤ 9223372036854775807) := by simp [strOf]; omega
          simp only [hk, decide_true, cond_true, hlen, hw]
          exact ih (k / 10) _ (by omega) (by omega) (by omega) (by simp [strOf]; omega) f (by omega)
        · simp only [hk, decide_false, cond_false]
          exact ⟨acc, rfl, by omega⟩
    obtain ⟨b, hb, hl⟩ := key (k.toNat + 1) k [] (by omega) (by omega) (by omega) (by simp; omega) FUEL (Nat.lt_of_lt_of_le (by omega) fuel_le)
    have hb : lp laws_markText.l0 (k, []) = some b := hb
    rw [hb, Option.bind_some]
    have hle : ([109] : List UInt8).length + b.length ≤ 9223372036854775807 := by simp; omega
    simp only [hle, decide_true, cond_true]
    exact ⟨_, rfl⟩
  obtain ⟨b, hb⟩ := this
  unfold mt
  rw [hb]; rfl

def bulk_String (x : List UInt8) : Nat := x.length
def ok_String (x : List UInt8) : Prop := x.length ≤ reachBytes

theorem of_String (x : List UInt8) (h : wfD .str x) : ok_String x := h

theorem ofL_String (l : List (List UInt8)) (h : wfD (.sl false .str) l) : okL ok_String l := ⟨h.1, fun y hy => of_String y (h.2 y hy)⟩

theorem szStringS_eq (l : List (List UInt8)) (left : Int) (h0 : 0 ≤ left) (h1 : left ≤ 1048576) (hx : okL ok_String l) : laws_szStringS.f l left = some (szr (bulkL bulk_String l) left) := by
  have hl := len_le hx.1
  unfold laws_szStringS.f
  simp only [Bool.cond_decide]
  rw [w64_id (by omega) (by omega)]
  by_cases c : left - (l.length : Int) < 0
  · rw [if_pos c]; unfold szr bulkL; rw [if_neg (by omega)]
  rw [if_neg c, sz_loop bulk_String l (by omega) (fun rec n s hn i0 i1 => ?_) (fun rec s => ?_) _ (by omega) (by omega)]
  · rw [Option.bind_some]; unfold szr bulkL
    by_cases d : (sumN bulk_String l : Int) ≤ left - l.length
    · rw [if_pos d, if_pos (by omega)]; show some _ = some _; congr 1; omega
    · rw [if_neg d, if_neg (by omega)]; rfl
  · have hb : l[n].length ≤ reachBytes := hx.2 l[n] (List.getElem_mem hn)
    have hb := len_le hb
    simp only [laws_szStringS.l0, Int.ofNat_lt, hn, decide_true, cond_true, inB_nat, rdA_nat, getD_lt hn, w64_succ (show n + 1 < 9223372036854775808 by omega), Bool.cond_decide]
    rw [w64_id (by omega) (by omega)]
    by_cases d : (l[n].length : Int) ≤ s
    · have d2 : (bulk_String l[n] : Int) ≤ s := d
      rw [if_neg (by omega), if_pos d2]; rfl
    · have d2 : ¬ (bulk_String l[n] : Int) ≤ s := d
      rw [if_pos (by omega), if_neg d2]
  · simp [laws_szStringS.l0]

theorem toStringS_eq (l : List (List UInt8)) (hx : okL ok_String l) (hs : l.length ≤ 1048576) : laws_toStringS.f l = some l := by
  have hl := len_le hx.1
  unfold laws_toStringS.f
  rw [if_len, if_lim (by omega) (by omega)]
  simp only []
  rw [to_loop l (by omega) (fun rec r n h1 h2 => ?_) (fun rec r => ?_) _ (by simp)]
  · rfl
  · have h3 : n < r.length := by omega
    simp only [laws_toStringS.l0, Int.ofNat_lt, h1, h3, decide_true, cond_true, inB_nat, rdA_nat, getD_lt h1, w64_succ (show n + 1 < 9223372036854775808 by omega), Int.toNat_natCast]
  · simp [laws_toStringS.l0]

theorem eqStringS_eq (a b : List (List UInt8)) (ha : a.length < 2 ^ 62) : laws_eqStringS.f a b = some (decide (a = b)) := by
  unfold laws_eqStringS.f
  by_cases hl : a.length = b.length
  rotate_left
  · have : a ≠ b := fun h => hl (by rw [h])
    have h2 : ((a.length : Int) != (b.length : Int)) = true := by simp; omega
    rw [h2]; simp [this]
  have h2 : ((a.length : Int) != (b.length : Int)) = false := by simp; omega
  rw [h2, cond_false, eq_loop a b hl ha (fun rec n h1 h2 => ?_) (fun rec => ?_)]
  · by_cases e : a = b <;> simp [e, caseS]
  · simp only [laws_eqStringS.l0, Int.ofNat_lt, h1, h2, decide_true, cond_true, inB_nat, rdA_nat, getD_lt h1, getD_lt h2, w64_succ (show n + 1 < 9223372036854775808 by omega)]
    by_cases e : a[n] = b[n]
    · simp [e]
    · have e2 : (a[n] == b[n]) = false := by simpa using e
      have e3 : (a[n] != b[n]) = true := by simpa using e
      simp [e, e2, e3]
  · simp [laws_eqStringS.l0]

def bulk_Int (x : Int) : Nat := 0
def ok_Int (x : Int) : Prop := True

theorem of_Int (x : Int) (h : wfD (.int .i64) x) : ok_Int x := trivial

theorem ofL_Int (l : List (Int)) (h : wfD (.sl false (.int .i64)) l) : okL ok_Int l := ⟨h.1, fun y hy => of_Int y (h.2 y hy)⟩

def bulk_File (x : List UInt8 × List UInt8 × Int) : Nat := x.1.length + x.2.1.length
def ok_File (x : List UInt8 × List UInt8 × Int) : Prop := x.1.length ≤ reachBytes ∧ x.2.1.length ≤ reachBytes

theorem of_File (x : List UInt8 × List UInt8 × Int) (h : wfD (.pair .str (.pair .str (.int .i64))) x) : ok_File x := ⟨h.1, h.2.1⟩

theorem ofL_File (l : List (List UInt8 × List UInt8 × Int)) (h : wfD (.sl false (.pair .str (.pair .str (.int .i64)))) l) : okL ok_File l := ⟨h.1, fun y hy => of_File y (h.2 y hy)⟩

theorem szFile_eq (x : List UInt8 × List UInt8 × Int) (left : Int) (h0 : 0 ≤ left) (h1 : left ≤ 1048576) (hx : ok_File x) : laws_szFile.f x left = some (szr (bulk_File x) left) := by
  unfold ok_File at hx
  have l0 := len_le hx.1
  have l1 := len_le hx.2
  unfold laws_szFile.f szr bulk_File
  simp only [Bool.cond_decide]
  rw [w64_id (by omega) (by omega)]
  by_cases c0 : left - (x.1.length : Int) < 0
  · simp only [c0, if_true]; rw [if_neg (by omega)]
  simp only [c0, if_false]
  rw [w64_id (by omega) (by omega)]
  repeat' split
  all_goals first | rfl | (congr 1; omega) | omega

theorem szFileS_eq (l : List (List UInt8 × List UInt8 × Int)) (left : Int) (h0 : 0 ≤ left) (h1 : left ≤ 1048576) (hx : okL ok_File l) : laws_szFileS.f l left = some (szr (bulkL bulk_File l) left) := by
  have hl := len_le hx.1
  unfold laws_szFileS.f
  simp only [Bool.cond_decide]
  rw [w64_id (by omega) (by omega)]
  by_cases c : left - (l.length : Int) < 0
  · rw [if_pos c]; unfold szr bulkL; rw [if_neg (by omega)]
  rw [if_neg c, sz_loop bulk_File l (by omega) (fun rec n s hn i0 i1 => ?_) (fun rec s => ?_) _ (by omega) (by omega)]
  · rw [Option.bind_some]; unfold szr bulkL
    by_cases d : (sumN bulk_File l : Int) ≤ left - l.length
    · rw [if_pos d, if_pos (by omega)]; show some _ = some _; congr 1; omega
    · rw [if_neg d, if_neg (by omega)]; rfl
  · have hb := hx.2 l[n] (List.getElem_mem hn)
    simp only [laws_szFileS.l0, Int.ofNat_lt, hn, decide_true, cond_true, inB_nat, rdA_nat, getD_lt hn, w64_succ (show n + 1 < 9223372036854775808 by omega), pair_eta, szFile_eq _ s i0 i1 hb, Option.bind_some, szr_neg]
    by_cases d : (bulk_File l[n] : Int) ≤ s
    · simp only [d, decide_true, Bool.not_true, cond_false, if_true, szr_pos d]
    · simp only [d, decide_false, Bool.not_false, cond_true, if_false]
  · simp [laws_szFileS.l0]

theorem toFile_eq (x : List UInt8 × List UInt8 × Int) : laws_toFile.f x = some x := rfl

theorem toFileS_eq (l : List (List UInt8 × List UInt8 × Int)) (hx : okL ok_File l) (hs : l.length ≤ 1048576) : laws_toFileS.f l = some l := by
  have hl := len_le hx.1
  unfold laws_toFileS.f
  rw [if_len, if_lim (by omega) (by omega)]
  simp only []
  rw [to_loop l (by omega) (fun rec r n h1 h2 => ?_) (fun rec r => ?_) _ (by simp)]
  · rfl
  · have h3 : n < r.length := by omega
    simp only [laws_toFileS.l0, Int.ofNat_lt, h1, h3, decide_true, cond_true, inB_nat, rdA_nat, getD_lt h1, w64_succ (show n + 1 < 9223372036854775808 by omega), Int.toNat_natCast, pair_eta, toFile_eq, Option.bind_some]
  · simp [laws_toFileS.l0]

theorem eqFile_eq (x y : List UInt8 × List UInt8 × Int) : laws_eqFile.f x y = some (decide (x = y)) := by
  obtain ⟨a0, a1, a2⟩ := x
  obtain ⟨b0, b1, b2⟩ := y
  unfold laws_eqFile.f
  by_cases e0 : a0 = b0
  rotate_left
  · have d2 : (a0 == b0) = false := by simpa using e0
    have d3 : (a0 != b0) = true := by simpa using e0
    simp [e0, d2, d3]
  by_cases e1 : a1 = b1
  rotate_left
  · have d2 : (a1 == b1) = false := by simpa using e1
    have d3 : (a1 != b1) = true := by simpa using e1
    simp [e1, d2, d3]
  by_cases e2 : a2 = b2
  rotate_left
  · have d2 : (a2 == b2) = false := by simpa using e2
    have d3 : (a2 != b2) = true := by simpa using e2
    simp [e2, d2, d3]
  simp [e0, e1, e2]

theorem eqFileS_eq (a b : List (List UInt8 × List UInt8 × Int)) (ha : a.length < 2 ^ 62) : laws_eqFileS.f a b = some (decide (a = b)) := by
  unfold laws_eqFileS.f
  by_cases hl : a.length = b.length
  rotate_left
  · have : a ≠ b := fun h => hl (by rw [h])
    have h2 : ((a.length : Int) != (b.length : Int)) = true := by simp; omega
    rw [h2]; simp [this]
  have h2 : ((a.length : Int) != (b.length : Int)) = false := by simp; omega
  rw [h2, cond_false, eq_loop a b hl ha (fun rec n h1 h2 => ?_) (fun rec => ?_)]
  · by_cases e : a = b <;> simp [e, caseS]
  · simp only [laws_eqFileS.l0, Int.ofNat_lt, h1, h2, decide_true, cond_true, inB_nat, rdA_nat, getD_lt h1, getD_lt h2, w64_succ (show n + 1 < 9223372036854775808 by omega), pair_eta, eqFile_eq _ _, Option.bind_some]
    by_cases e : a[n] = b[n]
    · simp [e]
    · have e2 : (a[n] == b[n]) = false := by simpa using e
      have e3 : (a[n] != b[n]) = true := by simpa using e
      simp [e, e2, e3]
  · simp [laws_eqFileS.l0]

noncomputable def mk_File (k : Int) (x : List UInt8 × List UInt8 × Int) : List UInt8 × List UInt8 × Int := (mt k, mt (k + 1), k + 2)
theorem markFileS_eq (l : List (List UInt8 × List UInt8 × Int)) (k : Int) (hl : l.length < 2 ^ 62) (h0 : 0 < k) (h1 : k + 3 * l.length < 1000000000000) : laws_markFileS.f l k = some (k + 3 * l.length, markL mk_File 3 l k) := by
  unfold laws_markFileS.f
  rw [mark_loop mk_File 3 l hl (fun rec r k n hr h h0 h1 => ?_) (fun rec r k hr => ?_) k h0 h1]
  · rfl
  · have hn : n < 4611686018427387904 := by omega
    have e1 : w64 (k + 1) = k + 1 := by rw [w64_id (by omega) (by omega)]
    have e2 : w64 (k + 1 + 1) = k + 2 := by rw [w64_id (by omega) (by omega)]; omega
    have e3 : w64 (k + 2 + 1) = k + 3 := by rw [w64_id (by omega) (by omega)]; omega
    simp only [laws_markFileS.l0, Int.ofNat_lt, h, decide_true, cond_true, inB_nat, List.length_set, Int.toNat_natCast, rdA_set h, rdA_nat, getD_lt h, List.set_set, w64_succ (show n + 1 < 9223372036854775808 by omega), e1, e2, e3, markText_eq k (by omega) (by omega), markText_eq (k + 1) (by omega) (by omega), Option.bind_some]
    rfl
  · simp [laws_markFileS.l0, hr]

theorem heldFileS_eq (l : List (List UInt8 × List UInt8 × Int)) (k : Int) (hl : l.length < 2 ^ 62) (h0 : 0 < k) (h1 : k + 3 * l.length < 1000000000000) : laws_heldFileS.f (markL mk_File 3 l k) k = some (k + 3 * l.length) := by
  unfold laws_heldFileS.f
  rw [held_loop mk_File 3 l hl (fun rec r k n x h hn0 hx h0 h1 => ?_) (fun rec r k => ?_) k h0 h1]
  · rfl
  · have hn : n + 1 < 9223372036854775808 := by omega
    have e1 : w64 (k + 1) = k + 1 := by rw [w64_id (by omega) (by omega)]
    have e2 : w64 (k + 1 + 1) = k + 2 := by rw [w64_id (by omega) (by omega)]; omega
    have e3 : w64 (k + 2 + 1) = k + 3 := by rw [w64_id (by omega) (by omega)]; omega
    simp only [laws_heldFileS.l0, Int.ofNat_lt, h, decide_true, cond_true, inB_nat, rdA_nat, getD_lt h, hx, mk_File, w64_succ hn, e1, e2, e3, markText_eq k (by omega) (by omega), markText_eq (k + 1) (by omega) (by omega), Option.bind_some, beq_self_eq_true, Bool.not_true, bne_self_eq_false, cond_false]
    rfl
  · simp [laws_heldFileS.l0]

def bulk_Pair (x : List UInt8 × List UInt8 × Int) : Nat := x.1.length + x.2.1.length
def ok_Pair (x : List UInt8 × List UInt8 × Int) : Prop := x.1.length ≤ reachBytes ∧ x.2.1.length ≤ reachBytes

theorem of_Pair (x : List UInt8 × List UInt8 × Int) (h : wfD (.pair .str (.pair .str (.int .i64))) x) : ok_Pair x := ⟨h.1, h.2.1⟩

theorem ofL_Pair (l : List (List UInt8 × List UInt8 × Int)) (h : wfD (.sl false (.pair .str (.pair .str (.int .i64)))) l) : okL ok_Pair l := ⟨h.1, fun y hy => of_Pair y (h.2 y hy)⟩

theorem szPair_eq (x : List UInt8 × List UInt8 × Int) (left : Int) (h0 : 0 ≤ left) (h1 : left ≤ 1048576) (hx : ok_Pair x) : laws_szPair.f x left = some (szr (bulk_Pair x) left) := by
  unfold ok_Pair at hx
  have l0 := len_le hx.1
  have l1 := len_le hx.2
  unfold laws_szPair.f szr bulk_Pair
  simp only [Bool.cond_decide]
  rw [w64_id (by omega) (by omega)]
  by_cases c0 : left - (x.1.length : Int) < 0
  · simp only [c0, if_true]; rw [if_neg (by omega)]
  simp only [c0, if_false]
  rw [w64_id (by omega) (by omega)]
  repeat' split
  all_goals first | rfl | (congr 1; omega) | omega

theorem szPairS_eq (l : List (List UInt8 × List UInt8 × Int)) (left : Int) (h0 : 0 ≤ left) (h1 : left ≤ 1048576) (hx : okL ok_Pair l) : laws_szPairS.f l left = some (szr (bulkL bulk_Pair l) left) := by
  have hl := len_le hx.1
  unfold laws_szPairS.f
  simp only [Bool.cond_decide]
  rw [w64_id (by omega) (by omega)]
  by_cases c : left - (l.length : Int) < 0
  · rw [if_pos c]; unfold szr bulkL; rw [if_neg (by omega)]
  rw [if_neg c, sz_loop bulk_Pair l (by omega) (fun rec n s hn i0 i1 => ?_) (fun rec s => ?_) _ (by omega) (by omega)]
  · rw [Option.bind_some]; unfold szr bulkL
    by_cases d : (sumN bulk_Pair l : Int) ≤ left - l.length
    · rw [if_pos d, if_pos (by omega)]; show some _ = some _; congr 1; omega
    · rw [if_neg d, if_neg (by omega)]; rfl
  · have hb := hx.2 l[n] (List.getElem_mem hn)
    simp only [laws_szPairS.l0, Int.ofNat_lt, hn, decide_true, cond_true, inB_nat, rdA_nat, getD_lt hn, w64_succ (show n + 1 < 9223372036854775808 by omega), pair_eta, szPair_eq _ s i0 i1 hb, Option.bind_some, szr_neg]
    by_cases d : (bulk_Pair l[n] : Int) ≤ s
    · simp only [d, decide_true, Bool.not_true, cond_false, if_true, szr_pos d]
    · simp only [d, decide_false, Bool.not_false, cond_true, if_false]
  · simp [laws_szPairS.l0]

theorem toPair_eq (x : List UInt8 × List UInt8 × Int) : laws_toPair.f x = some x := rfl

theorem toPairS_eq (l : List (List UInt8 × List UInt8 × Int)) (hx : okL ok_Pair l) (hs : l.length ≤ 1048576) : laws_toPairS.f l = some l := by
  have hl := len_le hx.1
  unfold laws_toPairS.f
  rw [if_len, if_lim (by omega) (by omega)]
  simp only []
  rw [to_loop l (by omega) (fun rec r n h1 h2 => ?_) (fun rec r => ?_) _ (by simp)]
  · rfl
  · have h3 : n < r.length := by omega
    simp only [laws_toPairS.l0, Int.ofNat_lt, h1, h3, decide_true, cond_true, inB_nat, rdA_nat, getD_lt h1, w64_succ (show n + 1 < 9223372036854775808 by omega), Int.toNat_natCast, pair_eta, toPair_eq, Option.bind_some]
  · simp [laws_toPairS.l0]

theorem eqPair_eq (x y : List UInt8 × List UInt8 × Int) : laws_eqPair.f x y = some (decide (x = y)) := by
  obtain ⟨a0, a1, a2⟩ := x
  obtain ⟨b0, b1, b2⟩ := y
  unfold laws_eqPair.f
  by_cases e0 : a0 = b0
  rotate_left
  · have d2 : (a0 == b0) = false := by simpa using e0
    have d3 : (a0 != b0) = true := by simpa using e0
    simp [e0, d2, d3]
  by_cases e1 : a1 = b1
  rotate_left
  · have d2 : (a1 == b1) = false := by simpa using e1
    have d3 : (a1 != b1) = true := by simpa using e1
    simp [e1, d2, d3]
  by_cases e2 : a2 = b2
  rotate_left
  · have d2 : (a2 == b2) = false := by simpa using e2
    have d3 : (a2 != b2) = true := by simpa using e2
    simp [e2, d2, d3]
  simp [e0, e1, e2]

theorem eqPairS_eq (a b : List (List UInt8 × List UInt8 × Int)) (ha : a.length < 2 ^ 62) : laws_eqPairS.f a b = some (decide (a = b)) := by
  unfold laws_eqPairS.f
  by_cases hl : a.length = b.length
  rotate_left
  · have : a ≠ b := fun h => hl (by rw [h])
    have h2 : ((a.length : Int) != (b.length : Int)) = true := by simp; omega
    rw [h2]; simp [this]
  have h2 : ((a.length : Int) != (b.length : Int)) = false := by simp; omega
  rw [h2, cond_false, eq_loop a b hl ha (fun rec n h1 h2 => ?_) (fun rec => ?_)]
  · by_cases e : a = b <;> simp [e, caseS]
  · simp only [laws_eqPairS.l0, Int.ofNat_lt, h1, h2, decide_true, cond_true, inB_nat, rdA_nat, getD_lt h1, getD_lt h2, w64_succ (show n + 1 < 9223372036854775808 by omega), pair_eta, eqPair_eq _ _, Option.bind_some]
    by_cases e : a[n] = b[n]
    · simp [e]
    · have e2 : (a[n] == b[n]) = false := by simpa using e
      have e3 : (a[n] != b[n]) = true := by simpa using e
      simp [e, e2, e3]
  · simp [laws_eqPairS.l0]

noncomputable def mk_Pair (k : Int) (x : List UInt8 × List UInt8 × Int) : List UInt8 × List UInt8 × Int := (mt k, mt (k + 1), k + 2)
theorem markPairS_eq (l : List (List UInt8 × List UInt8 × Int)) (k : Int) (hl : l.length < 2 ^ 62) (h0 : 0 < k) (h1 : k + 3 * l.length < 1000000000000) : laws_markPairS.f l k = some (k + 3 * l.length, markL mk_Pair 3 l k) := by
  unfold laws_markPairS.f
  rw [mark_loop mk_Pair 3 l hl (fun rec r k n hr h h0 h1 => ?_) (fun rec r k hr => ?_) k h0 h1]
  · rfl
  · have hn : n < 4611686018427387904 := by omega
    have e1 : w64 (k + 1) = k + 1 := by rw [w64_id (by omega) (by omega)]
    have e2 : w64 (k + 1 + 1) = k + 2 := by rw [w64_id (by omega) (by omega)]; omega
    have e3 : w64 (k + 2 + 1) = k + 3 := by rw [w64_id (by omega) (by omega)]; omega
    simp only [laws_markPairS.l0, Int.ofNat_lt, h, decide_true, cond_true, inB_nat, List.length_set, Int.toNat_natCast, rdA_set h, rdA_nat, getD_lt h, List.set_set, w64_succ (show n + 1 < 9223372036854775808 by omega), e1, e2, e3, markText_eq k (by omega) (by omega), markText_eq (k + 1) (by omega) (by omega), Option.bind_some]
    rfl
  · simp [laws_markPairS.l0, hr]

theorem heldPairS_eq (l : List (List UInt8 × List UInt8 × Int)) (k : Int) (hl : l.length < 2 ^ 62) (h0 : 0 < k) (h1 : k + 3 * l.length < 1000000000000) : laws_heldPairS.f (markL mk_Pair 3 l k) k = some (k + 3 * l.length) := by
  unfold laws_heldPairS.f
  rw [held_loop mk_Pair 3 l hl (fun rec r k n x h hn0 hx h0 h1 => ?_) (fun rec r k => ?_) k h0 h1]
  · rfl
  · have hn : n + 1 < 9223372036854775808 := by omega
    have e1 : w64 (k + 1) = k + 1 := by rw [w64_id (by omega) (by omega)]
    have e2 : w64 (k + 1 + 1) = k + 2 := by rw [w64_id (by omega) (by omega)]; omega
    have e3 : w64 (k + 2 + 1) = k + 3 := by rw [w64_id (by omega) (by omega)]; omega
    simp only [laws_heldPairS.l0, Int.ofNat_lt, h, decide_true, cond_true, inB_nat, rdA_nat, getD_lt h, hx, mk_Pair, w64_succ hn, e1, e2, e3, markText_eq k (by omega) (by omega), markText_eq (k + 1) (by omega) (by omega), Option.bind_some, beq_self_eq_true, Bool.not_true, bne_self_eq_false, cond_false]
    rfl
  · simp [laws_heldPairS.l0]

def bulk_Put (x : List UInt8 × Bool × List UInt8) : Nat := x.1.length + x.2.2.length
def ok_Put (x : List UInt8 × Bool × List UInt8) : Prop := x.1.length ≤ reachBytes ∧ x.2.2.length ≤ reachBytes

theorem of_Put (x : List UInt8 × Bool × List UInt8) (h : wfD (.pair .str (.pair .bool .str)) x) : ok_Put x := ⟨h.1, h.2.2⟩

theorem ofL_Put (l : List (List UInt8 × Bool × List UInt8)) (h : wfD (.sl false (.pair .str (.pair .bool .str))) l) : okL ok_Put l := ⟨h.1, fun y hy => of_Put y (h.2 y hy)⟩

theorem szPut_eq (x : List UInt8 × Bool × List UInt8) (left : Int) (h0 : 0 ≤ left) (h1 : left ≤ 1048576) (hx : ok_Put x) : laws_szPut.f x left = some (szr (bulk_Put x) left) := by
  unfold ok_Put at hx
  have l0 := len_le hx.1
  have l1 := len_le hx.2
  unfold laws_szPut.f szr bulk_Put
  simp only [Bool.cond_decide]
  rw [w64_id (by omega) (by omega)]
  by_cases c0 : left - (x.1.length : Int) < 0
  · simp only [c0, if_true]; rw [if_neg (by omega)]
  simp only [c0, if_false]
  rw [w64_id (by omega) (by omega)]
  repeat' split
  all_goals first | rfl | (congr 1; omega) | omega

theorem szPutS_eq (l : List (List UInt8 × Bool × List UInt8)) (left : Int) (h0 : 0 ≤ left) (h1 : left ≤ 1048576) (hx : okL ok_Put l) : laws_szPutS.f l left = some (szr (bulkL bulk_Put l) left) := by
  have hl := len_le hx.1
  unfold laws_szPutS.f
  simp only [Bool.cond_decide]
  rw [w64_id (by omega) (by omega)]
  by_cases c : left - (l.length : Int) < 0
  · rw [if_pos c]; unfold szr bulkL; rw [if_neg (by omega)]
  rw [if_neg c, sz_loop bulk_Put l (by omega) (fun rec n s hn i0 i1 => ?_) (fun rec s => ?_) _ (by omega) (by omega)]
  · rw [Option.bind_some]; unfold szr bulkL
    by_cases d : (sumN bulk_Put l : Int) ≤ left - l.length
    · rw [if_pos d, if_pos (by omega)]; show some _ = some _; congr 1; omega
    · rw [if_neg d, if_neg (by omega)]; rfl
  · have hb := hx.2 l[n] (List.getElem_mem hn)
    simp only [laws_szPutS.l0, Int.ofNat_lt, hn, decide_true, cond_true, inB_nat, rdA_nat, getD_lt hn, w64_succ (show n + 1 < 9223372036854775808 by omega), pair_eta, szPut_eq _ s i0 i1 hb, Option.bind_some, szr_neg]
    by_cases d : (bulk_Put l[n] : Int) ≤ s
    · simp only [d, decide_true, Bool.not_true, cond_false, if_true, szr_pos d]
    · simp only [d, decide_false, Bool.not_false, cond_true, if_false]
  · simp [laws_szPutS.l0]

theorem toPut_eq (x : List UInt8 × Bool × List UInt8) : laws_toPut.f x = some x := rfl

theorem toPutS_eq (l : List (List UInt8 × Bool × List UInt8)) (hx : okL ok_Put l) (hs : l.length ≤ 1048576) : laws_toPutS.f l = some l := by
  have hl := len_le hx.1
  unfold laws_toPutS.f
  rw [if_len, if_lim (by omega) (by omega)]
  simp only []
  rw [to_loop l (by omega) (fun rec r n h1 h2 => ?_) (fun rec r => ?_) _ (by simp)]
  · rfl
  · have h3 : n < r.length := by omega
    simp only [laws_toPutS.l0, Int.ofNat_lt, h1, h3, decide_true, cond_true, inB_nat, rdA_nat, getD_lt h1, w64_succ (show n + 1 < 9223372036854775808 by omega), Int.toNat_natCast, pair_eta, toPut_eq, Option.bind_some]
  · simp [laws_toPutS.l0]

theorem eqPut_eq (x y : List UInt8 × Bool × List UInt8) : laws_eqPut.f x y = some (decide (x = y)) := by
  obtain ⟨a0, a1, a2⟩ := x
  obtain ⟨b0, b1, b2⟩ := y
  unfold laws_eqPut.f
  by_cases e0 : a0 = b0
  rotate_left
  · have d2 : (a0 == b0) = false := by simpa using e0
    have d3 : (a0 != b0) = true := by simpa using e0
    simp [e0, d2, d3]
  by_cases e1 : a1 = b1
  rotate_left
  · have d2 : (a1 == b1) = false := by simpa using e1
    have d3 : (a1 != b1) = true := by simpa using e1
    simp [e1, d2, d3]
  by_cases e2 : a2 = b2
  rotate_left
  · have d2 : (a2 == b2) = false := by simpa using e2
    have d3 : (a2 != b2) = true := by simpa using e2
    simp [e2, d2, d3]
  simp [e0, e1, e2]

theorem eqPutS_eq (a b : List (List UInt8 × Bool × List UInt8)) (ha : a.length < 2 ^ 62) : laws_eqPutS.f a b = some (decide (a = b)) := by
  unfold laws_eqPutS.f
  by_cases hl : a.length = b.length
  rotate_left
  · have : a ≠ b := fun h => hl (by rw [h])
    have h2 : ((a.length : Int) != (b.length : Int)) = true := by simp; omega
    rw [h2]; simp [this]
  have h2 : ((a.length : Int) != (b.length : Int)) = false := by simp; omega
  rw [h2, cond_false, eq_loop a b hl ha (fun rec n h1 h2 => ?_) (fun rec => ?_)]
  · by_cases e : a = b <;> simp [e, caseS]
  · simp only [laws_eqPutS.l0, Int.ofNat_lt, h1, h2, decide_true, cond_true, inB_nat, rdA_nat, getD_lt h1, getD_lt h2, w64_succ (show n + 1 < 9223372036854775808 by omega), pair_eta, eqPut_eq _ _, Option.bind_some]
    by_cases e : a[n] = b[n]
    · simp [e]
    · have e2 : (a[n] == b[n]) = false := by simpa using e
      have e3 : (a[n] != b[n]) = true := by simpa using e
      simp [e, e2, e3]
  · simp [laws_eqPutS.l0]

noncomputable def mk_Put (k : Int) (x : List UInt8 × Bool × List UInt8) : List UInt8 × Bool × List UInt8 := (mt k, Int.tmod (k + 1) 3 == 0, mt (k + 2))
theorem markPutS_eq (l : List (List UInt8 × Bool × List UInt8)) (k : Int) (hl : l.length < 2 ^ 62) (h0 : 0 < k) (h1 : k + 3 * l.length < 1000000000000) : laws_markPutS.f l k = some (k + 3 * l.length, markL mk_Put 3 l k) := by
  unfold laws_markPutS.f
  rw [mark_loop mk_Put 3 l hl (fun rec r k n hr h h0 h1 => ?_) (fun rec r k hr => ?_) k h0 h1]
  · rfl
  · have hn : n < 4611686018427387904 := by omega
    have e1 : w64 (k + 1) = k + 1 := by rw [w64_id (by omega) (by omega)]
    have e2 : w64 (k + 1 + 1) = k + 2 := by rw [w64_id (by omega) (by omega)]; omega
    have e3 : w64 (k + 2 + 1) = k + 3 := by rw [w64_id (by omega) (by omega)]; omega
    simp only [laws_markPutS.l0, Int.ofNat_lt, h, decide_true, cond_true, inB_nat, List.length_set, Int.toNat_natCast, rdA_set h, rdA_nat, getD_lt h, List.set_set, w64_succ (show n + 1 < 9223372036854775808 by omega), e1, e2, e3, markText_eq k (by omega) (by omega), markText_eq (k + 2) (by omega) (by omega), Option.bind_some]
    rfl
  · simp [laws_markPutS.l0, hr]

theorem heldPutS_eq (l : List (List UInt8 × Bool × List UInt8)) (k : Int) (hl : l.length < 2 ^ 62) (h0 : 0 < k) (h1 : k + 3 * l.length < 1000000000000) : laws_heldPutS.f (markL mk_Put 3 l k) k = some (k + 3 * l.length) := by
  unfold laws_heldPutS.f
  rw [held_loop mk_Put 3 l hl (fun rec r k n x h hn0 hx h0 h1 => ?_) (fun rec r k => ?_) k h0 h1]
  · rfl
  · have hn : n + 1 < 9223372036854775808 := by omega
    have e1 : w64 (k + 1) = k + 1 := by rw [w64_id (by omega) (by omega)]
    have e2 : w64 (k + 1 + 1) = k + 2 := by rw [w64_id (by omega) (by omega)]; omega
    have e3 : w64 (k + 2 + 1) = k + 3 := by rw [w64_id (by omega) (by omega)]; omega
    simp only [laws_heldPutS.l0, Int.ofNat_lt, h, decide_true, cond_true, inB_nat, rdA_nat, getD_lt h, hx, mk_Put, w64_succ hn, e1, e2, e3, markText_eq k (by omega) (by omega), markText_eq (k + 2) (by omega) (by omega), Option.bind_some, beq_self_eq_true, Bool.not_true, bne_self_eq_false, cond_false]
    rfl
  · simp [laws_heldPutS.l0]

def bulk_ReadRow (x : List UInt8 × Int) : Nat := x.1.length
def ok_ReadRow (x : List UInt8 × Int) : Prop := x.1.length ≤ reachBytes

theorem of_ReadRow (x : List UInt8 × Int) (h : wfD (.pair .str (.int .i64)) x) : ok_ReadRow x := h.1

theorem ofL_ReadRow (l : List (List UInt8 × Int)) (h : wfD (.sl false (.pair .str (.int .i64))) l) : okL ok_ReadRow l := ⟨h.1, fun y hy => of_ReadRow y (h.2 y hy)⟩

theorem szReadRow_eq (x : List UInt8 × Int) (left : Int) (h0 : 0 ≤ left) (h1 : left ≤ 1048576) (hx : ok_ReadRow x) : laws_szReadRow.f x left = some (szr (bulk_ReadRow x) left) := by
  unfold ok_ReadRow at hx
  have l0 := len_le hx
  unfold laws_szReadRow.f szr bulk_ReadRow
  simp only [Bool.cond_decide]
  rw [w64_id (by omega) (by omega)]
  repeat' split
  all_goals first | rfl | (congr 1; omega) | omega

theorem szReadRowS_eq (l : List (List UInt8 × Int)) (left : Int) (h0 : 0 ≤ left) (h1 : left ≤ 1048576) (hx : okL ok_ReadRow l) : laws_szReadRowS.f l left = some (szr (bulkL bulk_ReadRow l) left) := by
  have hl := len_le hx.1
  unfold laws_szReadRowS.f
  simp only [Bool.cond_decide]
  rw [w64_id (by omega) (by omega)]
  by_cases c : left - (l.length : Int) < 0
  · rw [if_pos c]; unfold szr bulkL; rw [if_neg (by omega)]
  rw [if_neg c, sz_loop bulk_ReadRow l (by omega) (fun rec n s hn i0 i1 => ?_) (fun rec s => ?_) _ (by omega) (by omega)]
  · rw [Option.bind_some]; unfold szr bulkL
    by_cases d : (sumN bulk_ReadRow l : Int) ≤ left - l.length
    · rw [if_pos d, if_pos (by omega)]; show some _ = some _; congr 1; omega
    · rw [if_neg d, if_neg (by omega)]; rfl
  · have hb := hx.2 l[n] (List.getElem_mem hn)
    simp only [laws_szReadRowS.l0, Int.ofNat_lt, hn, decide_true, cond_true, inB_nat, rdA_nat, getD_lt hn, w64_succ (show n + 1 < 9223372036854775808 by omega), pair_eta, szReadRow_eq _ s i0 i1 hb, Option.bind_some, szr_neg]
    by_cases d : (bulk_ReadRow l[n] : Int) ≤ s
    · simp only [d, decide_true, Bool.not_true, cond_false, if_true, szr_pos d]
    · simp only [d, decide_false, Bool.not_false, cond_true, if_false]
  · simp [laws_szReadRowS.l0]

theorem toReadRow_eq (x : List UInt8 × Int) : laws_toReadRow.f x = some x := rfl

theorem toReadRowS_eq (l : List (List UInt8 × Int)) (hx : okL ok_ReadRow l) (hs : l.length ≤ 1048576) : laws_toReadRowS.f l = some l := by
  have hl := len_le hx.1
  unfold laws_toReadRowS.f
  rw [if_len, if_lim (by omega) (by omega)]
  simp only []
  rw [to_loop l (by omega) (fun rec r n h1 h2 => ?_) (fun rec r => ?_) _ (by simp)]
  · rfl
  · have h3 : n < r.length := by omega
    simp only [laws_toReadRowS.l0, Int.ofNat_lt, h1, h3, decide_true, cond_true, inB_nat, rdA_nat, getD_lt h1, w64_succ (show n + 1 < 9223372036854775808 by omega), Int.toNat_natCast, pair_eta, toReadRow_eq, Option.bind_some]
  · simp [laws_toReadRowS.l0]

theorem eqReadRow_eq (x y : List UInt8 × Int) : laws_eqReadRow.f x y = some (decide (x = y)) := by
  obtain ⟨a0, a1⟩ := x
  obtain ⟨b0, b1⟩ := y
  unfold laws_eqReadRow.f
  by_cases e0 : a0 = b0
  rotate_left
  · have d2 : (a0 == b0) = false := by simpa using e0
    have d3 : (a0 != b0) = true := by simpa using e0
    simp [e0, d2, d3]
  by_cases e1 : a1 = b1
  rotate_left
  · have d2 : (a1 == b1) = false := by simpa using e1
    have d3 : (a1 != b1) = true := by simpa using e1
    simp [e1, d2, d3]
  simp [e0, e1]

theorem eqReadRowS_eq (a b : List (List UInt8 × Int)) (ha : a.length < 2 ^ 62) : laws_eqReadRowS.f a b = some (decide (a = b)) := by
  unfold laws_eqReadRowS.f
  by_cases hl : a.length = b.length
  rotate_left
  · have : a ≠ b := fun h => hl (by rw [h])
    have h2 : ((a.length : Int) != (b.length : Int)) = true := by simp; omega
    rw [h2]; simp [this]
  have h2 : ((a.length : Int) != (b.length : Int)) = false := by simp; omega
  rw [h2, cond_false, eq_loop a b hl ha (fun rec n h1 h2 => ?_) (fun rec => ?_)]
  · by_cases e : a = b <;> simp [e, caseS]
  · simp only [laws_eqReadRowS.l0, Int.ofNat_lt, h1, h2, decide_true, cond_true, inB_nat, rdA_nat, getD_lt h1, getD_lt h2, w64_succ (show n + 1 < 9223372036854775808 by omega), pair_eta, eqReadRow_eq _ _, Option.bind_some]
    by_cases e : a[n] = b[n]
    · simp [e]
    · have e2 : (a[n] == b[n]) = false := by simpa using e
      have e3 : (a[n] != b[n]) = true := by simpa using e
      simp [e, e2, e3]
  · simp [laws_eqReadRowS.l0]

noncomputable def mk_ReadRow (k : Int) (x : List UInt8 × Int) : List UInt8 × Int := (mt k, k + 1)
theorem markReadRowS_eq (l : List (List UInt8 × Int)) (k : Int) (hl : l.length < 2 ^ 62) (h0 : 0 < k) (h1 : k + 2 * l.length < 1000000000000) : laws_markReadRowS.f l k = some (k + 2 * l.length, markL mk_ReadRow 2 l k) := by
  unfold laws_markReadRowS.f
  rw [mark_loop mk_ReadRow 2 l hl (fun rec r k n hr h h0 h1 => ?_) (fun rec r k hr => ?_) k h0 h1]
  · rfl
  · have hn : n < 4611686018427387904 := by omega
    have e1 : w64 (k + 1) = k + 1 := by rw [w64_id (by omega) (by omega)]
    have e2 : w64 (k + 1 + 1) = k + 2 := by rw [w64_id (by omega) (by omega)]; omega
    simp only [laws_markReadRowS.l0, Int.ofNat_lt, h, decide_true, cond_true, inB_nat, List.length_set, Int.toNat_natCast, rdA_set h, rdA_nat, getD_lt h, List.set_set, w64_succ (show n + 1 < 9223372036854775808 by omega), e1, e2, markText_eq k (by omega) (by omega), Option.bind_some]
    rfl
  · simp [laws_markReadRowS.l0, hr]

theorem heldReadRowS_eq (l : List (List UInt8 × Int)) (k : Int) (hl : l.length < 2 ^ 62) (h0 : 0 < k) (h1 : k + 2 * l.length < 1000000000000) : laws_heldReadRowS.f (markL mk_ReadRow 2 l k) k = some (k + 2 * l.length) := by
  unfold laws_heldReadRowS.f
  rw [held_loop mk_ReadRow 2 l hl (fun rec r k n x h hn0 hx h0 h1 => ?_) (fun rec r k => ?_) k h0 h1]
  · rfl
  · have hn : n + 1 < 9223372036854775808 := by omega
    have e1 : w64 (k + 1) = k + 1 := by rw [w64_id (by omega) (by omega)]
    have e2 : w64 (k + 1 + 1) = k + 2 := by rw [w64_id (by omega) (by omega)]; omega
    simp only [laws_heldReadRowS.l0, Int.ofNat_lt, h, decide_true, cond_true, inB_nat, rdA_nat, getD_lt h, hx, mk_ReadRow, w64_succ hn, e1, e2, markText_eq k (by omega) (by omega), Option.bind_some, beq_self_eq_true, Bool.not_true, bne_self_eq_false, cond_false]
    rfl
  · simp [laws_heldReadRowS.l0]

def bulk_Entry (x : List UInt8 × Int × Int × Int × Int) : Nat := x.1.length
def ok_Entry (x : List UInt8 × Int × Int × Int × Int) : Prop := x.1.length ≤ reachBytes

theorem of_Entry (x : List UInt8 × Int × Int × Int × Int) (h : wfD (.pair .str (.pair (.int .i64) (.pair (.int .i64) (.pair (.int .i64) (.int .i64))))) x) : ok_Entry x := h.1

theorem ofL_Entry (l : List (List UInt8 × Int × Int × Int × Int)) (h : wfD (.sl false (.pair .str (.pair (.int .i64) (.pair (.int .i64) (.pair (.int .i64) (.int .i64)))))) l) : okL ok_Entry l := ⟨h.1, fun y hy => of_Entry y (h.2 y hy)⟩

theorem szEntry_eq (x : List UInt8 × Int × Int × Int × Int) (left : Int) (h0 : 0 ≤ left) (h1 : left ≤ 1048576) (hx : ok_Entry x) : laws_szEntry.f x left = some (szr (bulk_Entry x) left) := by
  unfold ok_Entry at hx
  have l0 := len_le hx
  unfold laws_szEntry.f szr bulk_Entry
  simp only [Bool.cond_decide]
  rw [w64_id (by omega) (by omega)]
  repeat' split
  all_goals first | rfl | (congr 1; omega) | omega

theorem szEntryS_eq (l : List (List UInt8 × Int × Int × Int × Int)) (left : Int) (h0 : 0 ≤ left) (h1 : left ≤ 1048576) (hx : okL ok_Entry l) : laws_szEntryS.f l left = some (szr (bulkL bulk_Entry l) left) := by
  have hl := len_le hx.1
  unfold laws_szEntryS.f
  simp only [Bool.cond_decide]
  rw [w64_id (by omega) (by omega)]
  by_cases c : left - (l.length : Int) < 0
  · rw [if_pos c]; unfold szr bulkL; rw [if_neg (by omega)]
  rw [if_neg c, sz_loop bulk_Entry l (by omega) (fun rec n s hn i0 i1 => ?_) (fun rec s => ?_) _ (by omega) (by omega)]
  · rw [Option.bind_some]; unfold szr bulkL
    by_cases d : (sumN bulk_Entry l : Int) ≤ left - l.length
    · rw [if_pos d, if_pos (by omega)]; show some _ = some _; congr 1; omega
    · rw [if_neg d, if_neg (by omega)]; rfl
  · have hb := hx.2 l[n] (List.getElem_mem hn)
    simp only [laws_szEntryS.l0, Int.ofNat_lt, hn, decide_true, cond_true, inB_nat, rdA_nat, getD_lt hn, w64_succ (show n + 1 < 9223372036854775808 by omega), pair_eta, szEntry_eq _ s i0 i1 hb, Option.bind_some, szr_neg]
    by_cases d : (bulk_Entry l[n] : Int) ≤ s
    · simp only [d, decide_true, Bool.not_true, cond_false, if_true, szr_pos d]
    · simp only [d, decide_false, Bool.not_false, cond_true, if_false]
  · simp [laws_szEntryS.l0]

theorem toEntry_eq (x : List UInt8 × Int × Int × Int × Int) : laws_toEntry.f x = some x := rfl

theorem toEntryS_eq (l : List (List UInt8 × Int × Int × Int × Int)) (hx : okL ok_Entry l) (hs : l.length ≤ 1048576) : laws_toEntryS.f l = some l := by
  have hl := len_le hx.1
  unfold laws_toEntryS.f
  rw [if_len, if_lim (by omega) (by omega)]
  simp only []
  rw [to_loop l (by omega) (fun rec r n h1 h2 => ?_) (fun rec r => ?_) _ (by simp)]
  · rfl
  · have h3 : n < r.length := by omega
    simp only [laws_toEntryS.l0, Int.ofNat_lt, h1, h3, decide_true, cond_true, inB_nat, rdA_nat, getD_lt h1, w64_succ (show n + 1 < 9223372036854775808 by omega), Int.toNat_natCast, pair_eta, toEntry_eq, Option.bind_some]
  · simp [laws_toEntryS.l0]

theorem eqEntry_eq (x y : List UInt8 × Int × Int × Int × Int) : laws_eqEntry.f x y = some (decide (x = y)) := by
  obtain ⟨a0, a1, a2, a3, a4⟩ := x
  obtain ⟨b0, b1, b2, b3, b4⟩ := y
  unfold laws_eqEntry.f
  by_cases e0 : a0 = b0
  rotate_left
  · have d2 : (a0 == b0) = false := by simpa using e0
    have d3 : (a0 != b0) = true := by simpa using e0
    simp [e0, d2, d3]
  by_cases e1 : a1 = b1
  rotate_left
  · have d2 : (a1 == b1) = false := by simpa using e1
    have d3 : (a1 != b1) = true := by simpa using e1
    simp [e1, d2, d3]
  by_cases e2 : a2 = b2
  rotate_left
  · have d2 : (a2 == b2) = false := by simpa using e2
    have d3 : (a2 != b2) = true := by simpa using e2
    simp [e2, d2, d3]
  by_cases e3 : a3 = b3
  rotate_left
  · have d2 : (a3 == b3) = false := by simpa using e3
    have d3 : (a3 != b3) = true := by simpa using e3
    simp [e3, d2, d3]
  by_cases e4 : a4 = b4
  rotate_left
  · have d2 : (a4 == b4) = false := by simpa using e4
    have d3 : (a4 != b4) = true := by simpa using e4
    simp [e4, d2, d3]
  simp [e0, e1, e2, e3, e4]

theorem eqEntryS_eq (a b : List (List UInt8 × Int × Int × Int × Int)) (ha : a.length < 2 ^ 62) : laws_eqEntryS.f a b = some (decide (a = b)) := by
  unfold laws_eqEntryS.f
  by_cases hl : a.length = b.length
  rotate_left
  · have : a ≠ b := fun h => hl (by rw [h])
    have h2 : ((a.length : Int) != (b.length : Int)) = true := by simp; omega
    rw [h2]; simp [this]
  have h2 : ((a.length : Int) != (b.length : Int)) = false := by simp; omega
  rw [h2, cond_false, eq_loop a b hl ha (fun rec n h1 h2 => ?_) (fun rec => ?_)]
  · by_cases e : a = b <;> simp [e, caseS]
  · simp only [laws_eqEntryS.l0, Int.ofNat_lt, h1, h2, decide_true, cond_true, inB_nat, rdA_nat, getD_lt h1, getD_lt h2, w64_succ (show n + 1 < 9223372036854775808 by omega), pair_eta, eqEntry_eq _ _, Option.bind_some]
    by_cases e : a[n] = b[n]
    · simp [e]
    · have e2 : (a[n] == b[n]) = false := by simpa using e
      have e3 : (a[n] != b[n]) = true := by simpa using e
      simp [e, e2, e3]
  · simp [laws_eqEntryS.l0]

def bulk_Step (x : Int × Int × List UInt8 × List UInt8 × Int) : Nat := x.2.2.1.length + x.2.2.2.1.length
def ok_Step (x : Int × Int × List UInt8 × List UInt8 × Int) : Prop := x.2.2.1.length ≤ reachBytes ∧ x.2.2.2.1.length ≤ reachBytes

theorem of_Step (x : Int × Int × List UInt8 × List UInt8 × Int) (h : wfD (.pair (.int .i64) (.pair (.int .i64) (.pair .str (.pair .str (.int .i64))))) x) : ok_Step x := ⟨h.2.2.1, h.2.2.2.1⟩

theorem ofL_Step (l : List (Int × Int × List UInt8 × List UInt8 × Int)) (h : wfD (.sl false (.pair (.int .i64) (.pair (.int .i64) (.pair .str (.pair .str (.int .i64)))))) l) : okL ok_Step l := ⟨h.1, fun y hy => of_Step y (h.2 y hy)⟩

def bulk_Disk (x : List (List UInt8 × List UInt8 × Int) × Int × Int × Bool) : Nat := bulkL bulk_File x.1
def ok_Disk (x : List (List UInt8 × List UInt8 × Int) × Int × Int × Bool) : Prop := okL ok_File x.1

theorem of_Disk (x : List (List UInt8 × List UInt8 × Int) × Int × Int × Bool) (h : wfD (.pair (.sl false (.pair .str (.pair .str (.int .i64)))) (.pair (.int .i64) (.pair (.int .i64) .bool))) x) : ok_Disk x := ⟨h.1.1, fun y hy => of_File y (h.1.2 y hy)⟩

theorem ofL_Disk (l : List (List (List UInt8 × List UInt8 × Int) × Int × Int × Bool)) (h : wfD (.sl false (.pair (.sl false (.pair .str (.pair .str (.int .i64)))) (.pair (.int .i64) (.pair (.int .i64) .bool)))) l) : okL ok_Disk l := ⟨h.1, fun y hy => of_Disk y (h.2 y hy)⟩

theorem szDisk_eq (x : List (List UInt8 × List UInt8 × Int) × Int × Int × Bool) (left : Int) (h0 : 0 ≤ left) (h1 : left ≤ 1048576) (hx : ok_Disk x) : laws_szDisk.f x left = some (szr (bulk_Disk x) left) := by
  unfold ok_Disk at hx
  unfold laws_szDisk.f bulk_Disk
  rw [szFileS_eq (x.1) left (by omega) (by omega) hx, Option.bind_some, szr_neg]
  by_cases c0 : ((bulkL bulk_File x.1 : Nat) : Int) ≤ left
  rotate_left
  · simp only [c0, decide_false, Bool.not_false, cond_true]
    all_goals (unfold szr; rw [if_neg (by omega)])
  simp only [c0, decide_true, Bool.not_true, cond_false]
  all_goals (rw [szr_pos c0])
  all_goals (unfold szr; rw [if_pos (by omega)])
  all_goals first | done | (congr 1; omega)

theorem toDisk_eq (x : List (List UInt8 × List UInt8 × Int) × Int × Int × Bool) (hx : ok_Disk x) (hs : bulk_Disk x ≤ 1048576) : laws_toDisk.f x = some x := by
  unfold ok_Disk at hx
  unfold bulk_Disk at hs
  unfold laws_toDisk.f
  simp only [toFileS_eq (x.1) hx (by unfold bulkL at hs; omega), Option.bind_some]

def lim_Disk (x : List (List UInt8 × List UInt8 × Int) × Int × Int × Bool) : Prop := x.1.length < 2 ^ 62

theorem eqDisk_eq (x y : List (List UInt8 × List UInt8 × Int) × Int × Int × Bool) (hx : lim_Disk x) : laws_eqDisk.f x y = some (decide (x = y)) := by
  have h0 := hx
  obtain ⟨a0, a1, a2, a3⟩ := x
  obtain ⟨b0, b1, b2, b3⟩ := y
  unfold laws_eqDisk.f
  simp only [eqFileS_eq a0 b0 h0, Option.bind_some]
  by_cases e0 : a0 = b0
  rotate_left
  · simp [e0]
  by_cases e1 : a1 = b1
  rotate_left
  · have d2 : (a1 == b1) = false := by simpa using e1
    have d3 : (a1 != b1) = true := by simpa using e1
    simp [e1, d2, d3]
  by_cases e2 : a2 = b2
  rotate_left
  · have d2 : (a2 == b2) = false := by simpa using e2
    have d3 : (a2 != b2) = true := by simpa using e2
    simp [e2, d2, d3]
  by_cases e3 : a3 = b3
  rotate_left
  · have d2 : (a3 == b3) = false := by simpa using e3
    have d3 : (a3 != b3) = true := by simpa using e3
    simp [e3, d2, d3]
  simp [e0, e1, e2, e3]

def cnt_Disk (x : List (List UInt8 × List UInt8 × Int) × Int × Int × Bool) : Nat := 3 * x.1.length
noncomputable def mkc_Disk (k : Int) (x : List (List UInt8 × List UInt8 × Int) × Int × Int × Bool) : List (List UInt8 × List UInt8 × Int) × Int × Int × Bool := (markL mk_File 3 (x.1) k, x.2.1, x.2.2.1, x.2.2.2)
def limm_Disk (x : List (List UInt8 × List UInt8 × Int) × Int × Int × Bool) : Prop := x.1.length < 2 ^ 62
theorem markDisk_eq (x : List (List UInt8 × List UInt8 × Int) × Int × Int × Bool) (k : Int) (hx : limm_Disk x) (h0 : 0 < k) (h1 : k + (cnt_Disk x : Nat) < 1000000000000) : laws_markDisk.f x k = some (k + (cnt_Disk x : Nat), mkc_Disk k x) := by
  unfold limm_Disk at hx
  unfold cnt_Disk at h1 ⊢
  unfold laws_markDisk.f mkc_Disk
  rw [markFileS_eq (x.1) k hx (by omega) (by push_cast at h1 ⊢; omega)]
  simp only [Option.bind_some]
  push_cast
  simp only [Int.add_assoc]

theorem heldDisk_eq (x : List (List UInt8 × List UInt8 × Int) × Int × Int × Bool) (k : Int) (hx : limm_Disk x) (h0 : 0 < k) (h1 : k + (cnt_Disk x : Nat) < 1000000000000) : laws_heldDisk.f (mkc_Disk k x) k = some (k + (cnt_Disk x : Nat)) := by
  unfold limm_Disk at hx
  unfold cnt_Disk at h1 ⊢
  unfold laws_heldDisk.f mkc_Disk
  rw [heldFileS_eq (x.1) k hx (by omega) (by push_cast at h1 ⊢; omega), Option.bind_some, if_nn (by omega)]
  push_cast
  simp only [Int.add_assoc]

def bulk_Txn (x : Bool × List (List UInt8 × Int) × List (List UInt8 × Bool × List UInt8)) : Nat := bulkL bulk_ReadRow x.2.1 + bulkL bulk_Put x.2.2
def ok_Txn (x : Bool × List (List UInt8 × Int) × List (List UInt8 × Bool × List UInt8)) : Prop := okL ok_ReadRow x.2.1 ∧ okL ok_Put x.2.2

theorem of_Txn (x : Bool × List (List UInt8 × Int) × List (List UInt8 × Bool × List UInt8)) (h : wfD (.pair .bool (.pair (.sl false (.pair .str (.int .i64))) (.sl false (.pair .str (.pair .bool .str))))) x) : ok_Txn x := ⟨⟨h.2.1.1, fun y hy => of_ReadRow y (h.2.1.2 y hy)⟩, ⟨h.2.2.1, fun y hy => of_Put y (h.2.2.2 y hy)⟩⟩

theorem ofL_Txn (l : List (Bool × List (List UInt8 × Int) × List (List UInt8 × Bool × List UInt8))) (h : wfD (.sl false (.pair .bool (.pair (.sl false (.pair .str (.int .i64))) (.sl false (.pair .str (.pair .bool .str)))))) l) : okL ok_Txn l := ⟨h.1, fun y hy => of_Txn y (h.2 y hy)⟩

theorem szTxn_eq (x : Bool × List (List UInt8 × Int) × List (List UInt8 × Bool × List UInt8)) (left : Int) (h0 : 0 ≤ left) (h1 : left ≤ 1048576) (hx : ok_Txn x) : laws_szTxn.f x left = some (szr (bulk_Txn x) left) := by
  unfold ok_Txn at hx
  unfold laws_szTxn.f bulk_Txn
  rw [szReadRowS_eq (x.2.1) left (by omega) (by omega) hx.1, Option.bind_some, szr_neg]
  by_cases c0 : ((bulkL bulk_ReadRow x.2.1 : Nat) : Int) ≤ left
  rotate_left
  · simp only [c0, decide_false, Bool.not_false, cond_true]
    all_goals (unfold szr; rw [if_neg (by omega)])
  simp only [c0, decide_true, Bool.not_true, cond_false]
  all_goals (rw [szr_pos c0])
  rw [szPutS_eq (x.2.2) (left - ((bulkL bulk_ReadRow x.2.1 : Nat) : Int)) (by omega) (by omega) hx.2, Option.bind_some, szr_neg]
  by_cases c1 : ((bulkL bulk_Put x.2.2 : Nat) : Int) ≤ left - ((bulkL bulk_ReadRow x.2.1 : Nat) : Int)
  rotate_left
  · simp only [c1, decide_false, Bool.not_false, cond_true]
    all_goals (unfold szr; rw [if_neg (by omega)])
  simp only [c1, decide_true, Bool.not_true, cond_false]
  all_goals (rw [szr_pos c1])
  all_goals (unfold szr; rw [if_pos (by omega)])
  all_goals first | done | (congr 1; omega)

theorem toTxn_eq (x : Bool × List (List UInt8 × Int) × List (List UInt8 × Bool × List UInt8)) (hx : ok_Txn x) (hs : bulk_Txn x ≤ 1048576) : laws_toTxn.f x = some x := by
  unfold ok_Txn at hx
  unfold bulk_Txn at hs
  unfold laws_toTxn.f
  simp only [toReadRowS_eq (x.2.1) hx.1 (by unfold bulkL at hs; omega), toPutS_eq (x.2.2) hx.2 (by unfold bulkL at hs; omega), Option.bind_some]

def lim_Txn (x : Bool × List (List UInt8 × Int) × List (List UInt8 × Bool × List UInt8)) : Prop := x.2.1.length < 2 ^ 62 ∧ x.2.2.length < 2 ^ 62

theorem eqTxn_eq (x y : Bool × List (List UInt8 × Int) × List (List UInt8 × Bool × List UInt8)) (hx : lim_Txn x) : laws_eqTxn.f x y = some (decide (x = y)) := by
  obtain ⟨h1, h2⟩ := hx
  obtain ⟨a0, a1, a2⟩ := x
  obtain ⟨b0, b1, b2⟩ := y
  unfold laws_eqTxn.f
  simp only [eqReadRowS_eq a1 b1 h1, eqPutS_eq a2 b2 h2, Option.bind_some]
  by_cases e0 : a0 = b0
  rotate_left
  · have d2 : (a0 == b0) = false := by simpa using e0
    have d3 : (a0 != b0) = true := by simpa using e0
    simp [e0, d2, d3]
  by_cases e1 : a1 = b1
  rotate_left
  · simp [e1]
  by_cases e2 : a2 = b2
  rotate_left
  · simp [e2]
  simp [e0, e1, e2]

theorem eqTxnS_eq (a b : List (Bool × List (List UInt8 × Int) × List (List UInt8 × Bool × List UInt8))) (ha : a.length < 2 ^ 62) (hx : ∀ x ∈ a, lim_Txn x) : laws_eqTxnS.f a b = some (decide (a = b)) := by
  unfold laws_eqTxnS.f
  by_cases hl : a.length = b.length
  rotate_left
  · have : a ≠ b := fun h => hl (by rw [h])
    have h2 : ((a.length : Int) != (b.length : Int)) = true := by simp; omega
    rw [h2]; simp [this]
  have h2 : ((a.length : Int) != (b.length : Int)) = false := by simp; omega
  rw [h2, cond_false, eq_loop a b hl ha (fun rec n h1 h2 => ?_) (fun rec => ?_)]
  · by_cases e : a = b <;> simp [e, caseS]
  · simp only [laws_eqTxnS.l0, Int.ofNat_lt, h1, h2, decide_true, cond_true, inB_nat, rdA_nat, getD_lt h1, getD_lt h2, w64_succ (show n + 1 < 9223372036854775808 by omega), pair_eta, eqTxn_eq _ _ (hx a[n] (List.getElem_mem h1)), Option.bind_some]
    by_cases e : a[n] = b[n]
    · simp [e]
    · have e2 : (a[n] == b[n]) = false := by simpa using e
      have e3 : (a[n] != b[n]) = true := by simpa using e
      simp [e, e2, e3]
  · simp [laws_eqTxnS.l0]

def cnt_Txn (x : Bool × List (List UInt8 × Int) × List (List UInt8 × Bool × List UInt8)) : Nat := 2 * x.2.1.length + 3 * x.2.2.length
noncomputable def mkc_Txn (k : Int) (x : Bool × List (List UInt8 × Int) × List (List UInt8 × Bool × List UInt8)) : Bool × List (List UInt8 × Int) × List (List UInt8 × Bool × List UInt8) := (x.1, markL mk_ReadRow 2 (x.2.1) k, markL mk_Put 3 (x.2.2) (k + 2 * (x.2.1.length : Int)))
def limm_Txn (x : Bool × List (List UInt8 × Int) × List (List UInt8 × Bool × List UInt8)) : Prop := x.2.1.length < 2 ^ 62 ∧ x.2.2.length < 2 ^ 62
theorem markTxn_eq (x : Bool × List (List UInt8 × Int) × List (List UInt8 × Bool × List UInt8)) (k : Int) (hx : limm_Txn x) (h0 : 0 < k) (h1 : k + (cnt_Txn x : Nat) < 1000000000000) : laws_markTxn.f x k = some (k + (cnt_Txn x : Nat), mkc_Txn k x) := by
  unfold limm_Txn at hx
  unfold cnt_Txn at h1 ⊢
  unfold laws_markTxn.f mkc_Txn
  rw [markReadRowS_eq (x.2.1) k hx.1 (by omega) (by push_cast at h1 ⊢; omega)]
  simp only [Option.bind_some]
  rw [markPutS_eq (x.2.2) (k + 2 * (x.2.1.length : Int)) hx.2 (by omega) (by push_cast at h1 ⊢; omega)]
  simp only [Option.bind_some]
  push_cast
  simp only [Int.add_assoc]

theorem heldTxn_eq (x : Bool × List (List UInt8 × Int) × List (List UInt8 × Bool × List UInt8)) (k : Int) (hx : limm_Txn x) (h0 : 0 < k) (h1 : k + (cnt_Txn x : Nat) < 1000000000000) : laws_heldTxn.f (mkc_Txn k x) k = some (k + (cnt_Txn x : Nat)) := by
  unfold limm_Txn at hx
  unfold cnt_Txn at h1 ⊢
  unfold laws_heldTxn.f mkc_Txn
  rw [heldReadRowS_eq (x.2.1) k hx.1 (by omega) (by push_cast at h1 ⊢; omega), Option.bind_some, if_nn (by omega)]
  rw [heldPutS_eq (x.2.2) (k + 2 * (x.2.1.length : Int)) hx.2 (by omega) (by push_cast at h1 ⊢; omega), Option.bind_some, if_nn (by omega)]
  push_cast
  simp only [Int.add_assoc]

def bulk_Live (x : Int × List (Int)) : Nat := bulkL bulk_Int x.2
def ok_Live (x : Int × List (Int)) : Prop := okL ok_Int x.2

theorem of_Live (x : Int × List (Int)) (h : wfD (.pair (.int .i64) (.sl false (.int .i64))) x) : ok_Live x := ⟨h.2.1, fun y hy => of_Int y (h.2.2 y hy)⟩

theorem ofL_Live (l : List (Int × List (Int))) (h : wfD (.sl false (.pair (.int .i64) (.sl false (.int .i64)))) l) : okL ok_Live l := ⟨h.1, fun y hy => of_Live y (h.2 y hy)⟩

def bulk_Store (x : (Int × List (Int)) × List (List UInt8 × Int × Int × Int × Int) × Int × Int × Int) : Nat := bulk_Live x.1 + bulkL bulk_Entry x.2.1
def ok_Store (x : (Int × List (Int)) × List (List UInt8 × Int × Int × Int × Int) × Int × Int × Int) : Prop := ok_Live x.1 ∧ okL ok_Entry x.2.1

theorem of_Store (x : (Int × List (Int)) × List (List UInt8 × Int × Int × Int × Int) × Int × Int × Int) (h : wfD (.pair (.pair (.int .i64) (.sl false (.int .i64))) (.pair (.sl false (.pair .str (.pair (.int .i64) (.pair (.int .i64) (.pair (.int .i64) (.int .i64)))))) (.pair (.int .i64) (.pair (.int .i64) (.int .i64))))) x) : ok_Store x := ⟨of_Live _ h.1, ⟨h.2.1.1, fun y hy => of_Entry y (h.2.1.2 y hy)⟩⟩

theorem ofL_Store (l : List ((Int × List (Int)) × List (List UInt8 × Int × Int × Int × Int) × Int × Int × Int)) (h : wfD (.sl false (.pair (.pair (.int .i64) (.sl false (.int .i64))) (.pair (.sl false (.pair .str (.pair (.int .i64) (.pair (.int .i64) (.pair (.int .i64) (.int .i64)))))) (.pair (.int .i64) (.pair (.int .i64) (.int .i64)))))) l) : okL ok_Store l := ⟨h.1, fun y hy => of_Store y (h.2 y hy)⟩

def bulk_Ack (x : Int × List (List UInt8 × Bool × List UInt8)) : Nat := bulkL bulk_Put x.2
def ok_Ack (x : Int × List (List UInt8 × Bool × List UInt8)) : Prop := okL ok_Put x.2

theorem of_Ack (x : Int × List (List UInt8 × Bool × List UInt8)) (h : wfD (.pair (.int .i64) (.sl false (.pair .str (.pair .bool .str)))) x) : ok_Ack x := ⟨h.2.1, fun y hy => of_Put y (h.2.2 y hy)⟩

theorem ofL_Ack (l : List (Int × List (List UInt8 × Bool × List UInt8))) (h : wfD (.sl false (.pair (.int .i64) (.sl false (.pair .str (.pair .bool .str))))) l) : okL ok_Ack l := ⟨h.1, fun y hy => of_Ack y (h.2 y hy)⟩

theorem szAck_eq (x : Int × List (List UInt8 × Bool × List UInt8)) (left : Int) (h0 : 0 ≤ left) (h1 : left ≤ 1048576) (hx : ok_Ack x) : laws_szAck.f x left = some (szr (bulk_Ack x) left) := by
  unfold ok_Ack at hx
  unfold laws_szAck.f bulk_Ack
  rw [szPutS_eq (x.2) left (by omega) (by omega) hx, Option.bind_some, szr_neg]
  by_cases c0 : ((bulkL bulk_Put x.2 : Nat) : Int) ≤ left
  rotate_left
  · simp only [c0, decide_false, Bool.not_false, cond_true]
    all_goals (unfold szr; rw [if_neg (by omega)])
  simp only [c0, decide_true, Bool.not_true, cond_false]
  all_goals (rw [szr_pos c0])
  all_goals (unfold szr; rw [if_pos (by omega)])
  all_goals first | done | (congr 1; omega)

theorem szAckS_eq (l : List (Int × List (List UInt8 × Bool × List UInt8))) (left : Int) (h0 : 0 ≤ left) (h1 : left ≤ 1048576) (hx : okL ok_Ack l) : laws_szAckS.f l left = some (szr (bulkL bulk_Ack l) left) := by
  have hl := len_le hx.1
  unfold laws_szAckS.f
  simp only [Bool.cond_decide]
  rw [w64_id (by omega) (by omega)]
  by_cases c : left - (l.length : Int) < 0
  · rw [if_pos c]; unfold szr bulkL; rw [if_neg (by omega)]
  rw [if_neg c, sz_loop bulk_Ack l (by omega) (fun rec n s hn i0 i1 => ?_) (fun rec s => ?_) _ (by omega) (by omega)]
  · rw [Option.bind_some]; unfold szr bulkL
    by_cases d : (sumN bulk_Ack l : Int) ≤ left - l.length
    · rw [if_pos d, if_pos (by omega)]; show some _ = some _; congr 1; omega
    · rw [if_neg d, if_neg (by omega)]; rfl
  · have hb := hx.2 l[n] (List.getElem_mem hn)
    simp only [laws_szAckS.l0, Int.ofNat_lt, hn, decide_true, cond_true, inB_nat, rdA_nat, getD_lt hn, w64_succ (show n + 1 < 9223372036854775808 by omega), pair_eta, szAck_eq _ s i0 i1 hb, Option.bind_some, szr_neg]
    by_cases d : (bulk_Ack l[n] : Int) ≤ s
    · simp only [d, decide_true, Bool.not_true, cond_false, if_true, szr_pos d]
    · simp only [d, decide_false, Bool.not_false, cond_true, if_false]
  · simp [laws_szAckS.l0]

theorem toAck_eq (x : Int × List (List UInt8 × Bool × List UInt8)) (hx : ok_Ack x) (hs : bulk_Ack x ≤ 1048576) : laws_toAck.f x = some x := by
  unfold ok_Ack at hx
  unfold bulk_Ack at hs
  unfold laws_toAck.f
  simp only [toPutS_eq (x.2) hx (by unfold bulkL at hs; omega), Option.bind_some]

theorem toAckS_eq (l : List (Int × List (List UInt8 × Bool × List UInt8))) (hx : okL ok_Ack l) (hs : bulkL bulk_Ack l ≤ 1048576) : laws_toAckS.f l = some l := by
  have hl := len_le hx.1
  unfold laws_toAckS.f
  have hs2 := hs
  unfold bulkL at hs2
  rw [if_len, if_lim (by omega) (by omega)]
  simp only []
  rw [to_loop l (by omega) (fun rec r n h1 h2 => ?_) (fun rec r => ?_) _ (by simp)]
  · rfl
  · have h3 : n < r.length := by omega
    simp only [laws_toAckS.l0, Int.ofNat_lt, h1, h3, decide_true, cond_true, inB_nat, rdA_nat, getD_lt h1, w64_succ (show n + 1 < 9223372036854775808 by omega), Int.toNat_natCast, pair_eta, toAck_eq _ (hx.2 l[n] (List.getElem_mem h1)) (Nat.le_trans (sumN_mem bulk_Ack (List.getElem_mem h1)) (by omega)), Option.bind_some]
  · simp [laws_toAckS.l0]

def lim_Ack (x : Int × List (List UInt8 × Bool × List UInt8)) : Prop := x.2.length < 2 ^ 62

theorem eqAck_eq (x y : Int × List (List UInt8 × Bool × List UInt8)) (hx : lim_Ack x) : laws_eqAck.f x y = some (decide (x = y)) := by
  have h1 := hx
  obtain ⟨a0, a1⟩ := x
  obtain ⟨b0, b1⟩ := y
  unfold laws_eqAck.f
  simp only [eqPutS_eq a1 b1 h1, Option.bind_some]
  by_cases e0 : a0 = b0
  rotate_left
  · have d2 : (a0 == b0) = false := by simpa using e0
    have d3 : (a0 != b0) = true := by simpa using e0
    simp [e0, d2, d3]
  by_cases e1 : a1 = b1
  rotate_left
  · simp [e1]
  simp [e0, e1]

theorem eqAckS_eq (a b : List (Int × List (List UInt8 × Bool × List UInt8))) (ha : a.length < 2 ^ 62) (hx : ∀ x ∈ a, lim_Ack x) : laws_eqAckS.f a b = some (decide (a = b)) := by
  unfold laws_eqAckS.f
  by_cases hl : a.length = b.length
  rotate_left
  · have : a ≠ b := fun h => hl (by rw [h])
    have h2 : ((a.length : Int) != (b.length : Int)) = true := by simp; omega
    rw [h2]; simp [this]
  have h2 : ((a.length : Int) != (b.length : Int)) = false := by simp; omega
  rw [h2, cond_false, eq_loop a b hl ha (fun rec n h1 h2 => ?_) (fun rec => ?_)]
  · by_cases e : a = b <;> simp [e, caseS]
  · simp only [laws_eqAckS.l0, Int.ofNat_lt, h1, h2, decide_true, cond_true, inB_nat, rdA_nat, getD_lt h1, getD_lt h2, w64_succ (show n + 1 < 9223372036854775808 by omega), pair_eta, eqAck_eq _ _ (hx a[n] (List.getElem_mem h1)), Option.bind_some]
    by_cases e : a[n] = b[n]
    · simp [e]
    · have e2 : (a[n] == b[n]) = false := by simpa using e
      have e3 : (a[n] != b[n]) = true := by simpa using e
      simp [e, e2, e3]
  · simp [laws_eqAckS.l0]

def bulk_Answer (x : Int × List UInt8 × List (List UInt8)) : Nat := x.2.1.length + bulkL bulk_String x.2.2
def ok_Answer (x : Int × List UInt8 × List (List UInt8)) : Prop := x.2.1.length ≤ reachBytes ∧ okL ok_String x.2.2

theorem of_Answer (x : Int × List UInt8 × List (List UInt8)) (h : wfD (.pair (.int .i64) (.pair .str (.sl false .str))) x) : ok_Answer x := ⟨h.2.1, ⟨h.2.2.1, fun y hy => of_String y (h.2.2.2 y hy)⟩⟩

theorem ofL_Answer (l : List (Int × List UInt8 × List (List UInt8))) (h : wfD (.sl false (.pair (.int .i64) (.pair .str (.sl false .str)))) l) : okL ok_Answer l := ⟨h.1, fun y hy => of_Answer y (h.2 y hy)⟩

theorem szAnswer_eq (x : Int × List UInt8 × List (List UInt8)) (left : Int) (h0 : 0 ≤ left) (h1 : left ≤ 1048576) (hx : ok_Answer x) : laws_szAnswer.f x left = some (szr (bulk_Answer x) left) := by
  unfold ok_Answer at hx
  unfold laws_szAnswer.f bulk_Answer
  have l0 := len_le hx.1
  rw [w64_id (by omega) (by omega)]
  by_cases c0 : (x.2.1.length : Int) ≤ left
  rotate_left
  · have d : left - (x.2.1.length : Int) < 0 := by omega
    simp only [d, decide_true, cond_true]
    all_goals (unfold szr; rw [if_neg (by omega)])
  have d0 : ¬ left - (x.2.1.length : Int) < 0 := by omega
  simp only [d0, decide_false, cond_false]
  rw [szStringS_eq (x.2.2) (left - ((x.2.1.length : Nat) : Int)) (by omega) (by omega) hx.2, Option.bind_some, szr_neg]
  by_cases c1 : ((bulkL bulk_String x.2.2 : Nat) : Int) ≤ left - ((x.2.1.length : Nat) : Int)
  rotate_left
  · simp only [c1, decide_false, Bool.not_false, cond_true]
    all_goals (unfold szr; rw [if_neg (by omega)])
  simp only [c1, decide_true, Bool.not_true, cond_false]
  all_goals (rw [szr_pos c1])
  all_goals (unfold szr; rw [if_pos (by omega)])
  all_goals first | done | (congr 1; omega)

theorem szAnswerS_eq (l : List (Int × List UInt8 × List (List UInt8))) (left : Int) (h0 : 0 ≤ left) (h1 : left ≤ 1048576) (hx : okL ok_Answer l) : laws_szAnswerS.f l left = some (szr (bulkL bulk_Answer l) left) := by
  have hl := len_le hx.1
  unfold laws_szAnswerS.f
  simp only [Bool.cond_decide]
  rw [w64_id (by omega) (by omega)]
  by_cases c : left - (l.length : Int) < 0
  · rw [if_pos c]; unfold szr bulkL; rw [if_neg (by omega)]
  rw [if_neg c, sz_loop bulk_Answer l (by omega) (fun rec n s hn i0 i1 => ?_) (fun rec s => ?_) _ (by omega) (by omega)]
  · rw [Option.bind_some]; unfold szr bulkL
    by_cases d : (sumN bulk_Answer l : Int) ≤ left - l.length
    · rw [if_pos d, if_pos (by omega)]; show some _ = some _; congr 1; omega
    · rw [if_neg d, if_neg (by omega)]; rfl
  · have hb := hx.2 l[n] (List.getElem_mem hn)
    simp only [laws_szAnswerS.l0, Int.ofNat_lt, hn, decide_true, cond_true, inB_nat, rdA_nat, getD_lt hn, w64_succ (show n + 1 < 9223372036854775808 by omega), pair_eta, szAnswer_eq _ s i0 i1 hb, Option.bind_some, szr_neg]
    by_cases d : (bulk_Answer l[n] : Int) ≤ s
    · simp only [d, decide_true, Bool.not_true, cond_false, if_true, szr_pos d]
    · simp only [d, decide_false, Bool.not_false, cond_true, if_false]
  · simp [laws_szAnswerS.l0]

theorem toAnswer_eq (x : Int × List UInt8 × List (List UInt8)) (hx : ok_Answer x) (hs : bulk_Answer x ≤ 1048576) : laws_toAnswer.f x = some x := by
  unfold ok_Answer at hx
  unfold bulk_Answer at hs
  unfold laws_toAnswer.f
  simp only [toStringS_eq (x.2.2) hx.2 (by unfold bulkL at hs; omega), Option.bind_some]

theorem toAnswerS_eq (l : List (Int × List UInt8 × List (List UInt8))) (hx : okL ok_Answer l) (hs : bulkL bulk_Answer l ≤ 1048576) : laws_toAnswerS.f l = some l := by
  have hl := len_le hx.1
  unfold laws_toAnswerS.f
  have hs2 := hs
  unfold bulkL at hs2
  rw [if_len, if_lim (by omega) (by omega)]
  simp only []
  rw [to_loop l (by omega) (fun rec r n h1 h2 => ?_) (fun rec r => ?_) _ (by simp)]
  · rfl
  · have h3 : n < r.length := by omega
    simp only [laws_toAnswerS.l0, Int.ofNat_lt, h1, h3, decide_true, cond_true, inB_nat, rdA_nat, getD_lt h1, w64_succ (show n + 1 < 9223372036854775808 by omega), Int.toNat_natCast, pair_eta, toAnswer_eq _ (hx.2 l[n] (List.getElem_mem h1)) (Nat.le_trans (sumN_mem bulk_Answer (List.getElem_mem h1)) (by omega)), Option.bind_some]
  · simp [laws_toAnswerS.l0]

def lim_Answer (x : Int × List UInt8 × List (List UInt8)) : Prop := x.2.2.length < 2 ^ 62

theorem eqAnswer_eq (x y : Int × List UInt8 × List (List UInt8)) (hx : lim_Answer x) : laws_eqAnswer.f x y = some (decide (x = y)) := by
  have h2 := hx
  obtain ⟨a0, a1, a2⟩ := x
  obtain ⟨b0, b1, b2⟩ := y
  unfold laws_eqAnswer.f
  simp only [eqStringS_eq a2 b2 h2, Option.bind_some]
  by_cases e0 : a0 = b0
  rotate_left
  · have d2 : (a0 == b0) = false := by simpa using e0
    have d3 : (a0 != b0) = true := by simpa using e0
    simp [e0, d2, d3]
  by_cases e1 : a1 = b1
  rotate_left
  · have d2 : (a1 == b1) = false := by simpa using e1
    have d3 : (a1 != b1) = true := by simpa using e1
    simp [e1, d2, d3]
  by_cases e2 : a2 = b2
  rotate_left
  · simp [e2]
  simp [e0, e1, e2]

theorem eqAnswerS_eq (a b : List (Int × List UInt8 × List (List UInt8))) (ha : a.length < 2 ^ 62) (hx : ∀ x ∈ a, lim_Answer x) : laws_eqAnswerS.f a b = some (decide (a = b)) := by
  unfold laws_eqAnswerS.f
  by_cases hl : a.length = b.length
  rotate_left
  · have : a ≠ b := fun h => hl (by rw [h])
    have h2 : ((a.length : Int) != (b.length : Int)) = true := by simp; omega
    rw [h2]; simp [this]
  have h2 : ((a.length : Int) != (b.length : Int)) = false := by simp; omega
  rw [h2, cond_false, eq_loop a b hl ha (fun rec n h1 h2 => ?_) (fun rec => ?_)]
  · by_cases e : a = b <;> simp [e, caseS]
  · simp only [laws_eqAnswerS.l0, Int.ofNat_lt, h1, h2, decide_true, cond_true, inB_nat, rdA_nat, getD_lt h1, getD_lt h2, w64_succ (show n + 1 < 9223372036854775808 by omega), pair_eta, eqAnswer_eq _ _ (hx a[n] (List.getElem_mem h1)), Option.bind_some]
    by_cases e : a[n] = b[n]
    · simp [e]
    · have e2 : (a[n] == b[n]) = false := by simpa using e
      have e3 : (a[n] != b[n]) = true := by simpa using e
      simp [e, e2, e3]
  · simp [laws_eqAnswerS.l0]

def bulk_Engine (x : Bool × ((Int × List (Int)) × List (List UInt8 × Int × Int × Int × Int) × Int × Int × Int) × (List (List UInt8 × List UInt8 × Int) × Int × Int × Bool) × List (Bool × List (List UInt8 × Int) × List (List UInt8 × Bool × List UInt8))) : Nat := bulk_Store x.2.1 + bulk_Disk x.2.2.1 + bulkL bulk_Txn x.2.2.2
def ok_Engine (x : Bool × ((Int × List (Int)) × List (List UInt8 × Int × Int × Int × Int) × Int × Int × Int) × (List (List UInt8 × List UInt8 × Int) × Int × Int × Bool) × List (Bool × List (List UInt8 × Int) × List (List UInt8 × Bool × List UInt8))) : Prop := ok_Store x.2.1 ∧ ok_Disk x.2.2.1 ∧ okL ok_Txn x.2.2.2

theorem of_Engine (x : Bool × ((Int × List (Int)) × List (List UInt8 × Int × Int × Int × Int) × Int × Int × Int) × (List (List UInt8 × List UInt8 × Int) × Int × Int × Bool) × List (Bool × List (List UInt8 × Int) × List (List UInt8 × Bool × List UInt8))) (h : wfD (.pair .bool (.pair (.pair (.pair (.int .i64) (.sl false (.int .i64))) (.pair (.sl false (.pair .str (.pair (.int .i64) (.pair (.int .i64) (.pair (.int .i64) (.int .i64)))))) (.pair (.int .i64) (.pair (.int .i64) (.int .i64))))) (.pair (.pair (.sl false (.pair .str (.pair .str (.int .i64)))) (.pair (.int .i64) (.pair (.int .i64) .bool))) (.sl false (.pair .bool (.pair (.sl false (.pair .str (.int .i64))) (.sl false (.pair .str (.pair .bool .str))))))))) x) : ok_Engine x := ⟨of_Store _ h.2.1, of_Disk _ h.2.2.1, ⟨h.2.2.2.1, fun y hy => of_Txn y (h.2.2.2.2 y hy)⟩⟩

theorem ofL_Engine (l : List (Bool × ((Int × List (Int)) × List (List UInt8 × Int × Int × Int × Int) × Int × Int × Int) × (List (List UInt8 × List UInt8 × Int) × Int × Int × Bool) × List (Bool × List (List UInt8 × Int) × List (List UInt8 × Bool × List UInt8)))) (h : wfD (.sl false (.pair .bool (.pair (.pair (.pair (.int .i64) (.sl false (.int .i64))) (.pair (.sl false (.pair .str (.pair (.int .i64) (.pair (.int .i64) (.pair (.int .i64) (.int .i64)))))) (.pair (.int .i64) (.pair (.int .i64) (.int .i64))))) (.pair (.pair (.sl false (.pair .str (.pair .str (.int .i64)))) (.pair (.int .i64) (.pair (.int .i64) .bool))) (.sl false (.pair .bool (.pair (.sl false (.pair .str (.int .i64))) (.sl false (.pair .str (.pair .bool .str)))))))))) l) : okL ok_Engine l := ⟨h.1, fun y hy => of_Engine y (h.2 y hy)⟩

def bulk_Model (x : Bool × List (List UInt8 × List UInt8 × Int) × Int × List (Bool × List (List UInt8 × Int) × List (List UInt8 × Bool × List UInt8))) : Nat := bulkL bulk_Pair x.2.1 + bulkL bulk_Txn x.2.2.2
def ok_Model (x : Bool × List (List UInt8 × List UInt8 × Int) × Int × List (Bool × List (List UInt8 × Int) × List (List UInt8 × Bool × List UInt8))) : Prop := okL ok_Pair x.2.1 ∧ okL ok_Txn x.2.2.2

theorem of_Model (x : Bool × List (List UInt8 × List UInt8 × Int) × Int × List (Bool × List (List UInt8 × Int) × List (List UInt8 × Bool × List UInt8))) (h : wfD (.pair .bool (.pair (.sl false (.pair .str (.pair .str (.int .i64)))) (.pair (.int .i64) (.sl false (.pair .bool (.pair (.sl false (.pair .str (.int .i64))) (.sl false (.pair .str (.pair .bool .str))))))))) x) : ok_Model x := ⟨⟨h.2.1.1, fun y hy => of_Pair y (h.2.1.2 y hy)⟩, ⟨h.2.2.2.1, fun y hy => of_Txn y (h.2.2.2.2 y hy)⟩⟩

theorem ofL_Model (l : List (Bool × List (List UInt8 × List UInt8 × Int) × Int × List (Bool × List (List UInt8 × Int) × List (List UInt8 × Bool × List UInt8)))) (h : wfD (.sl false (.pair .bool (.pair (.sl false (.pair .str (.pair .str (.int .i64)))) (.pair (.int .i64) (.sl false (.pair .bool (.pair (.sl false (.pair .str (.int .i64))) (.sl false (.pair .str (.pair .bool .str)))))))))) l) : okL ok_Model l := ⟨h.1, fun y hy => of_Model y (h.2 y hy)⟩

def lim_Model (x : Bool × List (List UInt8 × List UInt8 × Int) × Int × List (Bool × List (List UInt8 × Int) × List (List UInt8 × Bool × List UInt8))) : Prop := x.2.1.length < 2 ^ 62 ∧ (x.2.2.2.length < 2 ^ 62 ∧ ∀ y ∈ x.2.2.2, lim_Txn y)

theorem eqModel_eq (x y : Bool × List (List UInt8 × List UInt8 × Int) × Int × List (Bool × List (List UInt8 × Int) × List (List UInt8 × Bool × List UInt8))) (hx : lim_Model x) : laws_eqModel.f x y = some (decide (x = y)) := by
  obtain ⟨h1, h3⟩ := hx
  obtain ⟨a0, a1, a2, a3⟩ := x
  obtain ⟨b0, b1, b2, b3⟩ := y
  unfold laws_eqModel.f
  simp only [eqPairS_eq a1 b1 h1, eqTxnS_eq a3 b3 h3.1 h3.2, Option.bind_some]
  by_cases e0 : a0 = b0
  rotate_left
  · have d2 : (a0 == b0) = false := by simpa using e0
    have d3 : (a0 != b0) = true := by simpa using e0
    simp [e0, d2, d3]
  by_cases e1 : a1 = b1
  rotate_left
  · simp [e1]
  by_cases e2 : a2 = b2
  rotate_left
  · have d2 : (a2 == b2) = false := by simpa using e2
    have d3 : (a2 != b2) = true := by simpa using e2
    simp [e2, d2, d3]
  by_cases e3 : a3 = b3
  rotate_left
  · simp [e3]
  simp [e0, e1, e2, e3]

end Go.Rf.G
