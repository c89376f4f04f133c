/- Plain laws: what the plain functions answer. -/
import Derived.Test.YtinoogmdhhmakaaGreatDoorLRefusalsLem1
namespace Go.Rf.G
open Go Go.Rf
set_option linter.unusedVariables false
set_option linter.unusedSimpArgs false
set_option synthInstance.maxSize 4000

theorem impl_StoreOk_l0 (s : StoreT) (d : DiskT) (h : dlim d) (hu : usedN d.1 < 1000000000) (hl : s.1.2.length < 1000000000) : lp impl_StoreOk.l0 (s, d, s.1.2, (s.1.2.length : Int), 0) = some (if segsOk d s.2.2.2.1 s.1.2 = true then .inl (s, d) else .inr false) := by
  have key := lp_up (step := impl_StoreOk.l0) (fun n (_ : Unit) => (s, d, s.1.2, (s.1.2.length : Int), (n : Int))) s.1.2.length (fun n _ => if segsOk d s.2.2.2.1 (s.1.2.drop n) = true then .inl (s, d) else .inr false) (fun _ _ => True)
    (fun rec n a hn _ ih => by
      rcases Nat.lt_or_ge n s.1.2.length with h1 | h1
      · have hw := w64_succ (show n + 1 < 9223372036854775808 by omega)
        have hw2 : w64 ((s.1.2.length : Int) - 1) = (s.1.2.length : Int) - 1 := w64_id (by omega) (by omega)
        have hft := fileText_len d (segName s.1.2[n]) h
        have ih := ih () h1 trivial
        rw [List.drop_eq_getElem_cons h1]
        have hlast : (s.1.2.drop (n + 1)).isEmpty = ((n : Int) == (s.1.2.length : Int) - 1) := by
          by_cases c : n + 1 = s.1.2.length
          · have c1 : ((n : Int) == (s.1.2.length : Int) - 1) = true := by simp; omega
            rw [c1, c, List.drop_length]; rfl
          · have c1 : ((n : Int) == (s.1.2.length : Int) - 1) = false := by simp; omega
            rw [c1]
            cases e : s.1.2.drop (n + 1) with
            | nil => rw [List.drop_eq_nil_iff] at e; omega
            | cons x r => rfl
        simp only [segsOk, hlast, impl_StoreOk.l0, Int.ofNat_lt, h1, decide_true, cond_true, inB_nat, rdA_nat, getD_lt h1, impl_SegName_eq, impl_FileText_eq d _ h, impl_ScanRecs_eq (fileText d (segName s.1.2[n])).1 (show (fileText d (segName s.1.2[n])).1.length < 1000000000 by omega), Option.bind_some, hw2]
        unfold segOk
        cases hb : (fileText d (segName s.1.2[n])).2
        · simp
        simp only [Bool.not_true, cond_false, Bool.true_and]
        by_cases c1 : (scan (fileText d (segName s.1.2[n])).1).2 = (fileText d (segName s.1.2[n])).1.length
        rotate_left
        · have d1 : (((scan (fileText d (segName s.1.2[n])).1).2 : Int) != ((fileText d (segName s.1.2[n])).1.length : Int)) = true := by simp; omega
          simp only [d1, cond_true, Option.bind_some, caseS_r, c1, decide_false]; simp
        have d1 : (((scan (fileText d (segName s.1.2[n])).1).2 : Int) != ((fileText d (segName s.1.2[n])).1.length : Int)) = false := by simp; omega
        simp only [c1, bne_self_eq_false, cond_false, decide_true, Bool.true_and]
        cases hz : ((n : Int) == (s.1.2.length : Int) - 1)
        · simp only [cond_false, Option.bind_some, caseS_l, hw, ih, Bool.not_false, Bool.true_or, Bool.true_and]
        · by_cases c2 : s.2.2.2.1 = ((fileText d (segName s.1.2[n])).1.length : Int)
          · have d2 : (s.2.2.2.1 != ((fileText d (segName s.1.2[n])).1.length : Int)) = false := by simpa using c2
            simp only [cond_true, d2, cond_false, Option.bind_some, caseS_l, hw, ih, Bool.not_true, Bool.false_or, decide_eq_true c2, Bool.true_and]
          · have d2 : (s.2.2.2.1 != ((fileText d (segName s.1.2[n])).1.length : Int)) = true := by simpa using c2
            simp only [cond_true, d2, Option.bind_some, caseS_r, Bool.not_true, Bool.false_or, decide_eq_false c2, Bool.false_and, Bool.false_eq_true, if_false]
      · have : n = s.1.2.length := by omega
        subst this
        simp [impl_StoreOk.l0, segsOk])
    (by omega) 0 () (Nat.zero_le _) trivial
  have key : lp impl_StoreOk.l0 (s, d, s.1.2, (s.1.2.length : Int), 0) = _ := key
  rw [key, List.drop_zero]

theorem impl_StoreOk_l2 (s : StoreT) (d : DiskT) (h : dlim d) (hu : usedN d.1 < 1000000000) (hl : s.2.1.length < 1000000000) : lp impl_StoreOk.l2 (s, d, s.2.1, (s.2.1.length : Int), 0) = some (if s.2.1.all (entOk d s.2.2.1) = true then .inl () else .inr false) := by
  refine all_loop (step := impl_StoreOk.l2) s.2.1 (entOk d s.2.2.1) (fun n => (s, d, s.2.1, (s.2.1.length : Int), (n : Int))) () (by omega) ?_ ?_
  · intro rec n hn
    have hw := w64_succ (show n + 1 < 9223372036854775808 by omega)
    have hft := fileText_len d (segName s.2.1[n].2.1) h
    simp only [impl_StoreOk.l2, Int.ofNat_lt, hn, decide_true, cond_true, inB_nat, rdA_nat, getD_lt hn, impl_SegName_eq, impl_FileText_eq d _ h, impl_RecAt_eq (fileText d (segName s.2.1[n].2.1)).1 _ _ (show (fileText d (segName s.2.1[n].2.1)).1.length < 1000000000 by omega), Option.bind_some, hw, entOk]
    obtain ⟨r, hr⟩ : ∃ r, recAt (fileText d (segName s.2.1[n].2.1)).1 s.2.1[n].2.2.1 s.2.1[n].2.2.2.1 = r := ⟨_, rfl⟩
    simp only [hr]
    rcases Bool.eq_false_or_eq_true r.2 with h1 | h1 <;> rcases Bool.eq_false_or_eq_true (r.1.1 == 1) with h2 | h2 <;> rcases Bool.eq_false_or_eq_true (r.1.1 == 4) with h3 | h3 <;> rcases Bool.eq_false_or_eq_true (r.1.2.2.1 == s.2.1[n].1) with h4 | h4 <;> rcases Bool.eq_false_or_eq_true (r.1.2.1 == s.2.1[n].2.2.2.2) with h5 | h5 <;> rcases Bool.eq_false_or_eq_true (decide (s.2.1[n].2.2.2.2 ≥ s.2.2.1)) with h6 | h6 <;> simp only [bne, h1, h2, h3, h4, h5, h6, caseS_l, caseS_r, Bool.not_true, Bool.not_false, cond_true, cond_false, Option.bind_some, Bool.true_and, Bool.false_and, Bool.and_true, Bool.and_false, Bool.or_true, Bool.or_false, Bool.true_or, Bool.false_or, if_true, if_false, Bool.false_eq_true, hw]
  · intro rec
    simp [impl_StoreOk.l2]

theorem impl_StoreOk_eq (s : StoreT) (d : DiskT) (h : dlim d) (hu : usedN d.1 < 1000000000) (h1 : s.1.2.length < 1000000000) (h2 : s.2.1.length < 1000000000) : impl_StoreOk.f s d = some (storeOk s d) := by
  unfold impl_StoreOk.f storeOk
  rw [impl_DiskOk_eq d h, impl_LiveOk_eq s.1 (by omega), impl_DirOk_eq s.2.1 (by omega), impl_in_eq, impl_StoreOk_l0 s d h hu h1]
  simp only [Option.bind_some]
  cases diskOk d <;> simp only [Bool.not_true, Bool.not_false, cond_true, cond_false, Bool.true_and, Bool.false_and]
  cases liveOk s.1 <;> simp only [Bool.not_true, Bool.not_false, cond_true, cond_false, Bool.true_and, Bool.false_and]
  cases dirOk s.2.1 <;> simp only [Bool.not_true, Bool.not_false, cond_true, cond_false, Bool.true_and, Bool.false_and]
  cases decide (1 ≤ s.2.2.1 ∧ s.2.2.1 ≤ 1000001) <;> simp only [Bool.not_true, Bool.not_false, cond_true, cond_false, Bool.true_and, Bool.false_and]
  cases segsOk d s.2.2.2.1 s.1.2 <;> simp only [if_true, if_false, Bool.false_eq_true, caseS_l, caseS_r, Bool.true_and, Bool.false_and]
  rw [impl_StoreOk_l2 s d h hu h2, Option.bind_some]
  cases s.2.1.all (entOk d s.2.2.1) <;> simp only [if_true, if_false, Bool.false_eq_true, caseS_l, caseS_r]

theorem pw_rise : ∀ (l : List FileT) (p : List UInt8), (∀ x ∈ l, Op.bytesLess p x.1 = true) → srt l → riseF (some p) l = true
  | [], _, _, _ => rfl
  | f :: l, p, h, hs => by
    simp only [riseF, h f List.mem_cons_self, Bool.true_and]
    have hs2 := List.pairwise_cons.1 hs
    exact pw_rise l f.1 hs2.1 hs2.2

theorem pw_rise0 (l : List FileT) (hs : srt l) : riseF none l = true := by
  cases l with
  | nil => rfl
  | cons f l =>
    have hs2 := List.pairwise_cons.1 hs
    exact pw_rise l f.1 hs2.1 hs2.2

/-- Files that a disk of so much room may have. -/
def okF (cap : Int) (l : List FileT) : Prop := l.length ≤ 130 ∧ (usedN l : Int) ≤ cap ∧ (∀ f ∈ l, fileOk f = true) ∧ srt l

theorem diskOk_iff (d : DiskT) : diskOk d = true ↔ (0 ≤ d.2.1 ∧ d.2.1 ≤ 100000) ∧ (-1 ≤ d.2.2.1 ∧ d.2.2.1 ≤ 100000) ∧ okF d.2.1 d.1 := by
  unfold diskOk okF filesOk
  simp only [Bool.and_eq_true, decide_eq_true_eq, List.all_eq_true]
  constructor
  · rintro ⟨h1, h2, h3, h4, h5, h6⟩
    exact ⟨h2, h3, h1, h4, h5, rise_pw0 _ h6⟩
  · rintro ⟨h2, h3, h1, h4, h5, h6⟩
    exact ⟨h1, h2, h3, h4, h5, pw_rise0 _ h6⟩

theorem dk_tick {d : DiskT} (h : diskOk d = true) : diskOk (tick d) = true := by
  rw [diskOk_iff] at h ⊢
  obtain ⟨h1, h2, h3⟩ := h
  rw [tick_cap, tick_fst]
  refine ⟨h1, ?_, h3⟩
  unfold tick; split
  · exact ⟨by show -1 ≤ d.2.2.1 - 1; omega, by show d.2.2.1 - 1 ≤ 100000; omega⟩
  · exact h2

theorem dk_dstep {d : DiskT} {act : List FileT → Int × List FileT} (h : diskOk d = true) (ha : okF d.2.1 d.1 → okF d.2.1 (act d.1).2) : diskOk (dstep d act).1 = true := by
  have ht := dk_tick h
  rw [diskOk_iff] at h ht
  unfold dstep
  split
  · rename_i k; rw [(diskOk_iff d).2 h] at k; exact absurd k (by simp)
  · split
    · exact (diskOk_iff _).2 h
    · refine (diskOk_iff _).2 ⟨?_, ht.2.1, ?_⟩
      · show 0 ≤ (tick d).2.1 ∧ (tick d).2.1 ≤ 100000
        exact ht.1
      · show okF (tick d).2.1 (act d.1).2
        rw [tick_cap]; exact ha h.2.2

theorem okF_sub {cap : Int} {l m : List FileT} (h : okF cap l) (hs : m.Sublist l) : okF cap m := by
  have := sumN_sub (fun f : FileT => f.2.1.length) hs
  have := hs.length_le
  have h2 := h.2.1
  refine ⟨by have := h.1; omega, ?_, fun f hf => h.2.2.1 f (hs.subset hf), h.2.2.2.sublist hs⟩
  unfold usedN at *; omega

theorem usedN_insB (l : List FileT) (f : FileT) : usedN (insB l f) = usedN l + f.2.1.length := by
  unfold usedN
  induction l with
  | nil => simp [insB, sumN]
  | cons x l ih =>
    rw [insB_cons]
    split
    · simp only [sumN, ih]; omega
    · simp only [sumN]; omega

theorem usedN_remIx (l : List FileT) (i : Nat) (h : i < l.length) : usedN (remIx l i) + l[i].2.1.length = usedN l := by
  unfold usedN remIx
  induction l generalizing i with
  | nil => simp at h
  | cons x l ih =>
    cases i with
    | zero => simp only [List.take_zero, List.drop_succ_cons, List.drop_zero, List.nil_append, List.getElem_cons_zero, sumN]; omega
    | succ i =>
      have := ih i (by simpa using h)
      simp only [List.take_succ_cons, List.drop_succ_cons, List.cons_append, sumN, List.getElem_cons_succ] at *
      omega

theorem usedN_set2 (l : List FileT) (i : Nat) (f : FileT) (h : i < l.length) : usedN (l.set i f) + l[i].2.1.length = usedN l + f.2.1.length := by
  unfold usedN
  induction l generalizing i with
  | nil => simp at h
  | cons x l ih =>
    cases i with
    | zero => simp only [List.set_cons_zero, List.getElem_cons_zero, sumN]; omega
    | succ i =>
      have := ih i (by simpa using h)
      simp only [List.set_cons_succ, sumN, List.getElem_cons_succ] at *
      omega

theorem srtF_set {α : Type} {l : List (List UInt8 × α)} (h : srt l) (i : Nat) (hi : i < l.length) (f : List UInt8 × α) (hf : f.1 = l[i].1) : srt (l.set i f) := by
  unfold srt at *
  have e : (l.set i f).map (·.1) = l.map (·.1) := by
    apply List.ext_getElem
    · simp
    · intro n h1 h2
      simp only [List.getElem_map, List.getElem_set]
      split
      · rename_i c; subst c; exact hf
      · rfl
  have h2 : (l.map (·.1)).Pairwise (fun a b => Op.bytesLess a b = true) := List.pairwise_map.2 h
  rw [← e] at h2
  exact List.pairwise_map.1 h2

theorem okF_set {cap : Int} {l : List FileT} (h : okF cap l) (i : Nat) (hi : i < l.length) (f : FileT) (hn : f.1 = l[i].1) (hf : fileOk f = true) (hu : (usedN l : Int) + f.2.1.length - l[i].2.1.length ≤ cap) : okF cap (l.set i f) := by
  have := usedN_set2 l i f hi
  refine ⟨by rw [List.length_set]; exact h.1, by omega, fun g hg => ?_, srtF_set h.2.2.2 i hi f hn⟩
  rcases List.mem_or_eq_of_mem_set hg with hg | e
  · exact h.2.2.1 g hg
  · rw [e]; exact hf

theorem okF_ins {cap : Int} {l : List FileT} (h : okF cap l) (f : FileT) (h1 : l.length < 130) (hne : ∀ x ∈ l, x.1 ≠ f.1) (hf : fileOk f = true) (hu : (usedN l : Int) + f.2.1.length ≤ cap) : okF cap (insB l f) := by
  refine ⟨by rw [insB_len]; omega, by rw [usedN_insB]; omega, fun g hg => ?_, srt_insB f l h.2.2.2 hne⟩
  rcases (mem_insB g f l).1 hg with e | hg
  · rw [e]; exact hf
  · exact h.2.2.1 g hg

theorem dk_Remove {d : DiskT} (h : diskOk d = true) (n : List UInt8) : diskOk (dRemove n d).1 = true :=
  dk_dstep h fun k => by
    unfold actRemove; split
    · exact okF_sub k (remIx_sub _ _)
    · exact k

theorem dk_Gone {d : DiskT} (h : diskOk d = true) (n : List UInt8) : diskOk (dGone n d).1 = true := by
  unfold dGone; split
  · exact dk_Remove h n
  · exact h

theorem dk_Create {d : DiskT} (h : diskOk d = true) (n : List UInt8) : diskOk (dCreate n d).1 = true :=
  dk_dstep h fun k => by
    unfold actCreate; split
    · exact k
    · rename_i k1
      split
      · exact k
      · rename_i k2
        split
        · exact k
        · rename_i k3
          rcases fileIx_cases d.1 n with ⟨e, hno⟩ | ⟨i, hi, e, _⟩
          · refine okF_ins k _ (by omega) hno ?_ (by have := k.2.1; simp; exact this)
            unfold fileOk; simp at k1 ⊢; exact k1
          · omega

theorem dk_Append {d : DiskT} (h : diskOk d = true) (n t : List UInt8) : diskOk (dAppend n t d).1 = true :=
  dk_dstep h fun k => by
    unfold actAppend
    rcases fileIx_cases d.1 n with ⟨e, _⟩ | ⟨i, hi, e, _⟩
    · rw [ix_none e]; exact k
    · rw [ix_some e]
      simp only
      split
      · exact k
      · rename_i k1
        rw [getD_lt hi]
        refine okF_set k i hi _ rfl ?_ ?_
        · have := k.2.2.1 _ (List.getElem_mem hi)
          unfold fileOk at *
          simp only [Bool.and_eq_true, decide_eq_true_eq, List.length_append] at *
          exact ⟨this.1, by omega, by omega⟩
        · simp only [List.length_append]; omega

theorem dk_Sync {d : DiskT} (h : diskOk d = true) (n : List UInt8) : diskOk (dSync n d).1 = true :=
  dk_dstep h fun k => by
    unfold actSync
    rcases fileIx_cases d.1 n with ⟨e, _⟩ | ⟨i, hi, e, _⟩
    · rw [ix_none e]; exact k
    · rw [ix_some e]
      simp only
      rw [getD_lt hi]
      refine okF_set k i hi _ rfl ?_ ?_
      · have := k.2.2.1 _ (List.getElem_mem hi)
        unfold fileOk at *
        simp only [Bool.and_eq_true, decide_eq_true_eq] at *
        exact ⟨this.1, by omega, by omega⟩
      · have := k.2.1; simp only; omega

theorem dk_Rename {d : DiskT} (h : diskOk d = true) (a b : List UInt8) : diskOk (dRename a b d).1 = true :=
  dk_dstep h fun k => by
    unfold actRename
    split
    · exact k
    · rename_i k0
      rcases fileIx_cases d.1 a with ⟨e, _⟩ | ⟨i, hi, e, _⟩
      · rw [ix_none e]; exact k
      · rw [ix_some e]
        simp only
        split
        · exact k
        · rw [getD_lt hi]
          have hs : (dropF (remIx d.1 i) b).Sublist d.1 := (dropF_sub _ _).trans (remIx_sub _ _)
          have h2 := usedN_remIx d.1 i hi
          have h3 := remIx_len hi
          have h4 := dropF_len (remIx d.1 i) b
          have h5 : usedN (dropF (remIx d.1 i) b) ≤ usedN (remIx d.1 i) := sumN_sub (fun f : FileT => f.2.1.length) (dropF_sub _ _)
          have k1 := k.1
          have k2 := k.2.1
          refine okF_ins (okF_sub k hs) _ (by omega) (dropF_ne (k.2.2.2.sublist (remIx_sub d.1 i))) ?_ (by simp only; omega)
          have := k.2.2.1 _ (List.getElem_mem hi)
          unfold fileOk at *
          simp only [Bool.and_eq_true, decide_eq_true_eq, Bool.not_eq_false] at *
          exact ⟨k0, this.2⟩

theorem dk_sstep {w : WorkT} {op : DiskT → DiskT × Int} (h : diskOk w.1 = true) (ho : diskOk w.1 = true → diskOk (op w.1).1 = true) : diskOk (sstep op w).1 = true := by
  unfold sstep; split
  · exact ho h
  · exact h

theorem dk_wstep {w : WorkT} {op : DiskT → DiskT × Int} (h : diskOk w.1 = true) (ho : diskOk w.1 = true → diskOk (op w.1).1 = true) : diskOk (wstep op w).1 = true := by
  unfold wstep; split
  · exact ho h
  · exact h

theorem dk_sFile {w : WorkT} (h : diskOk w.1 = true) (n t : List UInt8) : diskOk (sFile n t w).1 = true :=
  dk_sstep (op := dSync n) (dk_sstep (op := dAppend n t) (dk_sstep (op := dCreate n) (dk_sstep (op := dGone n) h fun k => dk_Gone k n) fun k => dk_Create k n) fun k => dk_Append k n t) fun k => dk_Sync k n

theorem dk_sPut {w : WorkT} (h : diskOk w.1 = true) (v : LiveT) : diskOk (sPut v w).1 = true :=
  dk_sstep (op := dRename _ _) (dk_sFile h _ _) fun k => dk_Rename k _ _

/-- A right disk is a small one. -/
theorem dl_dk {d : DiskT} (h : diskOk d = true) : dl 100001 d := by
  rw [diskOk_iff] at h
  obtain ⟨h1, h2, h3, h4, h5, h6⟩ := h
  refine ⟨by omega, by omega, fun f hf => ?_⟩
  have := h5 f hf
  unfold fileOk at this
  simp only [Bool.and_eq_true] at this
  have := nameOk_len this.1
  omega

noncomputable def dumpL (s : StoreT) (d : DiskT) : List EntryT → List PairT → List PairT × Int
  | [], acc => (acc, 0)
  | e :: r, acc => if (getP s d e.1).2 ≠ 0 then ([], (getP s d e.1).2) else dumpL s d r (acc ++ [(getP s d e.1).1])

noncomputable def dumpP (s : StoreT) (d : DiskT) : List PairT × Int := dumpL s d s.2.1 []

theorem idsOk_snoc {hi hi' : Int} (x : Int) (h1 : hi ≤ hi') (h2 : 1 ≤ x ∧ x ≤ hi') : ∀ (l : List Int) (p : Option Int), idsOk hi p l = true → (∀ y ∈ l, y < x) → (∀ q, p = some q → q < x) → idsOk hi' p (l ++ [x]) = true
  | [], p, _, _, hp => by
    cases p with
    | none => simp [idsOk, h2]
    | some q => simp [idsOk, h2, hp q rfl]
  | y :: l, p, h, hl, _ => by
    simp only [idsOk, Bool.and_eq_true, decide_eq_true_eq] at h
    have ih := idsOk_snoc x h1 h2 l (some y) h.2.2 (fun z hz => hl z (List.mem_cons_of_mem _ hz)) (fun q hq => by injection hq with hq; subst hq; exact hl y List.mem_cons_self)
    simp only [List.cons_append, idsOk, Bool.and_eq_true, decide_eq_true_eq]
    exact ⟨⟨h.1.1, by omega⟩, h.2.1, ih⟩

theorem idsOk_mem {hi : Int} : ∀ (l : List Int) (p : Option Int), idsOk hi p l = true → ∀ y ∈ l, 1 ≤ y ∧ y ≤ hi
  | [], _, _, y, hy => by simp at hy
  | x :: l, p, h, y, hy => by
    simp only [idsOk, Bool.and_eq_true, decide_eq_true_eq] at h
    rcases List.mem_cons.1 hy with e | hy
    · subst e; exact h.1
    · exact idsOk_mem l (some x) h.2.2 y hy

theorem liveOk_iff (v : LiveT) : liveOk v = true ↔ idsOk (w64 (v.1 - 1)) none v.2 = true ∧ (1 ≤ v.1 ∧ v.1 ≤ 100000) ∧ 1 ≤ v.2.length ∧ v.2.length ≤ 60 := by
  unfold liveOk
  simp only [Bool.and_eq_true, decide_eq_true_eq]
  constructor
  · rintro ⟨h1, h2, h3⟩; exact ⟨h1, h2, by omega, by omega⟩
  · rintro ⟨h1, h2, h3⟩; exact ⟨h1, h2, by omega, by omega⟩

theorem liveOk_more {v : LiveT} (h : liveOk v = true) (h1 : v.2.length < 60) (h2 : v.1 < 100000) : liveOk (v.1 + 1, v.2 ++ [v.1]) = true := by
  rw [liveOk_iff] at h ⊢
  obtain ⟨k1, k2, k3⟩ := h
  rw [w64_id (by omega) (by omega)] at k1
  have hm := idsOk_mem _ _ k1
  refine ⟨?_, by simp only; omega, by simp only [List.length_append, List.length_cons, List.length_nil]; omega⟩
  simp only
  rw [w64_id (by omega) (by omega)]
  exact idsOk_snoc v.1 (by omega) (by omega) v.2 none k1 (fun y hy => by have := hm y hy; omega) (fun q hq => by cases hq)

def sDrop (names : List (List UInt8)) (w : WorkT) : WorkT := names.foldl (fun w n => sstep (dGone n) w) w

def wDrop (names : List (List UInt8)) (w : WorkT) : WorkT := names.foldl (fun w n => wstep (dGone n) w) w

theorem wDrop_told (names : List (List UInt8)) : ∀ w : WorkT, wDrop names (toldW w) = toldW (sDrop names w) := by
  induction names with
  | nil => intro w; rfl
  | cons n l ih =>
    intro w
    show wDrop l (wstep (dGone n) (toldW w)) = toldW (sDrop l (sstep (dGone n) w))
    rw [wstep_told, ih]

theorem dk_sDrop (names : List (List UInt8)) : ∀ {w : WorkT}, diskOk w.1 = true → diskOk (sDrop names w).1 = true := by
  induction names with
  | nil => intro w h; exact h
  | cons n l ih => intro w h; exact ih (dk_sstep (op := dGone n) h fun k => dk_Gone k n)

def cleanW (names : List (List UInt8)) (w : WorkT) : WorkT :=
  if w.2 = 2 then (if (toldW (sDrop names (w.1, 0))).2 = 0 then ((toldW (sDrop names (w.1, 0))).1, 2) else toldW (sDrop names (w.1, 0))) else w

theorem dk_cleanW (names : List (List UInt8)) {w : WorkT} (h : diskOk w.1 = true) : diskOk (cleanW names w).1 = true := by
  have := dk_sDrop names (w := (w.1, 0)) h
  unfold cleanW; split
  · split
    · exact this
    · exact this
  · exact h

theorem impl_clean_eq (w : WorkT) (names : List (List UInt8)) (h : diskOk w.1 = true) (hn : names.length < 1000) : impl_worker_clean.f w names = some (cleanW names w) := by
  unfold impl_worker_clean.f cleanW
  by_cases c : w.2 = 2
  rotate_left
  · have c1 : (w.2 != 2) = true := by simpa using c
    simp [c, c1]
  have key := fold_loop (step := impl_worker_clean.l0) names (fun (w : WorkT) n => wstep (dGone n) w) (fun n (a : WorkT) => ((([], w.1.2), w.2), a, names, (names.length : Int), (n : Int))) (fun a => ((([], w.1.2), w.2), a)) (fun _ a => diskOk a.1 = true) (by omega)
    (fun rec n a h1 ha => by
      have hw := w64_succ (show n + 1 < 9223372036854775808 by omega)
      simp only [impl_worker_clean.l0, Int.ofNat_lt, h1, decide_true, cond_true, inB_nat, rdA_nat, getD_lt h1, w_gone_eq a names[n] (dl_dk ha) (by omega), Option.bind_some, hw])
    (fun n a h1 ha => dk_wstep (op := dGone names[n]) ha fun k => dk_Gone k _)
    (fun rec a ha => by simp [impl_worker_clean.l0])
    (w.1, 0) h
  have key : lp impl_worker_clean.l0 ((([], w.1.2), w.2), (w.1, 0), names, (names.length : Int), 0) = some ((([], w.1.2), w.2), wDrop names (w.1, 0)) := key
  have e : wDrop names (w.1, 0) = toldW (sDrop names (w.1, 0)) := wDrop_told names (w.1, 0)
  have c1 : (w.2 != 2) = false := by simpa using c
  rw [c1, cond_false, key, Option.bind_some, e]
  generalize toldW (sDrop names (w.1, 0)) = r
  obtain ⟨x, k⟩ := r
  by_cases c2 : k = 0
  · subst c2; simp [c]
  · have c3 : (k != 0) = true := by simpa using c2
    simp [c, c2, c3]

def lastI (l : List Int) : Int := l.getD (l.length - 1) 0

def actN (s : StoreT) : List UInt8 := segName (lastI s.1.2)

theorem last_rd {l : List Int} (h : 1 ≤ l.length) (hl : l.length < 2 ^ 62) : w64 ((l.length : Int) - 1) = ((l.length - 1 : Nat) : Int) ∧ inB ((l.length - 1 : Nat) : Int) l.length = true ∧ rdA 0 l ((l.length - 1 : Nat) : Int) = lastI l := by
  refine ⟨by rw [w64_id (by omega) (by omega)]; omega, ?_, ?_⟩
  · rw [inB_nat]; simp; omega
  · rw [rdA_nat]; rfl

theorem impl_active_eq (s : StoreT) (h : 1 ≤ s.1.2.length) (hl : s.1.2.length < 2 ^ 62) : impl_Store_active.f s = some (actN s, s) := by
  obtain ⟨e1, e2, e3⟩ := last_rd h hl
  unfold impl_Store_active.f actN
  simp only [e1, e2, e3, cond_true, impl_SegName_eq, Option.bind_some]

theorem lim8 {a : Nat} (h : a < 1000000000001) : (a + 1) * 8 ≤ 140737488355328 := by omega

theorem lim8' {a : Nat} (h : a < 1000000000001) : (0 + a) * 8 ≤ 140737488355328 := by omega

theorem lim48' {a : Nat} (h : a < 1000000000001) : (0 + a) * 48 ≤ 140737488355328 := by omega

theorem impl_copyLive_eq (v : LiveT) (h : v.2.length < 1000000000) : impl_copyLive.f v = some v := by
  unfold impl_copyLive.f
  have : (([] : List Int).length + v.2.length) * 8 ≤ 140737488355328 := lim8' (by omega)
  simp only [this, decide_true, cond_true, List.nil_append]

theorem impl_copyDir_eq (v : List EntryT) (h : v.length < 1000000000) : impl_copyDir.f v = some v := by
  unfold impl_copyDir.f
  have : (([] : List EntryT).length + v.length) * 48 ≤ 140737488355328 := lim48' (by omega)
  simp only [this, decide_true, cond_true, List.nil_append]

theorem impl_copyStore_eq (s : StoreT) (h1 : s.1.2.length < 1000000000) (h2 : s.2.1.length < 1000000000) : impl_copyStore.f s = some s := by
  unfold impl_copyStore.f
  rw [impl_copyLive_eq _ h1, Option.bind_some, impl_copyDir_eq _ h2]; rfl

def rotP (s : StoreT) (d : DiskT) : StoreT × DiskT × Int :=
  if 60 ≤ s.1.2.length ∨ 100000 ≤ s.1.1 then (s, d, 5) else
  if (dSync (actN s) d).2 ≠ 0 then (s, (dSync (actN s) d).1, told (dSync (actN s) d).2) else
  let w2 := sstep (dCreate (segName s.1.1)) (dGone (segName s.1.1) (dSync (actN s) d).1)
  if w2.2 ≠ 0 then (((s.1.1 + 1, s.1.2), s.2), w2.1, told w2.2) else
  let w3 := toldW (sPut (s.1.1 + 1, s.1.2 ++ [s.1.1]) (w2.1, 0))
  if w3.2 ≠ 0 then (((s.1.1 + 1, s.1.2), s.2), cleanW [[116, 101, 109, 112], segName s.1.1] w3) else
  (((s.1.1 + 1, s.1.2 ++ [s.1.1]), s.2.1, s.2.2.1, 0, s.2.2.2.2), w3.1, 0)

theorem told_ne (c : Int) : (told c != 0) = (c != 0) := by
  by_cases h : c = 0
  · subst h; rfl
  · have h2 : told c ≠ 0 := fun e => h ((told_zero c).1 e)
    rw [show (told c != 0) = true by simpa using h2, show (c != 0) = true by simpa using h]

theorem impl_rotate_eq (s : StoreT) (d : DiskT) (h : diskOk d = true) (hv : liveOk s.1 = true) : impl_Store_rotate.f s (d, 0) = some (rotP s d) := by
  obtain ⟨k1, k2, k3, k4⟩ := (liveOk_iff s.1).1 hv
  unfold impl_Store_rotate.f rotP
  by_cases c1 : 60 ≤ s.1.2.length
  · have d1 : (s.1.2.length : Int) ≥ 60 := by omega
    simp [c1, d1]
  have d1 : ¬ (s.1.2.length : Int) ≥ 60 := by omega
  by_cases c2 : 100000 ≤ s.1.1
  · have d2 : s.1.1 ≥ 100000 := c2
    simp [c1, c2, d1, d2]
  have d2 : ¬ s.1.1 ≥ 100000 := c2
  have hs := dk_Sync h (actN s)
  have hg := dk_Gone hs (segName s.1.1)
  have hc : diskOk (sstep (dCreate (segName s.1.1)) (dGone (segName s.1.1) (dSync (actN s) d).1)).1 = true := dk_sstep (op := dCreate _) hg fun k => dk_Create k _
  have hn := segName_len s.1.1
  simp only [c1, c2, d1, d2, decide_false, cond_false, or_self, if_false, impl_active_eq s k3 (by omega), Option.bind_some, w_sync_eq (d, 0) (actN s) (dl_dk h) (by omega)]
  rw [show wstep (dSync (actN s)) (d, 0) = toldW (dSync (actN s) d) by unfold wstep; simp; rfl]
  generalize dSync (actN s) d = r1 at *
  obtain ⟨x1, q1⟩ := r1
  show (bif told q1 != 0 then _ else _) = _
  rw [told_ne]
  by_cases c3 : q1 = 0
  rotate_left
  · have d3 : (q1 != 0) = true := by simpa using c3
    simp only [d3, cond_true, c3, ne_eq, not_false_eq_true, if_true]; rfl
  subst c3
  have e2 : impl_worker_anew.f (toldW (x1, 0)) (segName s.1.1) = some (toldW (sstep (dCreate (segName s.1.1)) (dGone (segName s.1.1) x1))) := by
    unfold impl_worker_anew.f
    have g1 : diskOk (wstep (dGone (segName s.1.1)) (toldW (x1, 0))).1 = true := dk_wstep (op := dGone _) hs fun k => dk_Gone k _
    rw [w_gone_eq (toldW (x1, 0)) _ (dl_dk hs) (by omega), Option.bind_some, w_create_eq _ _ (dl_dk g1) (by omega) (by omega), Option.bind_some, wstep_told, wstep_told, sstep_z]
  simp only [bne_self_eq_false, cond_false, ne_eq, not_true_eq_false, if_false, impl_SegName_eq, Option.bind_some, e2]
  generalize sstep (dCreate (segName s.1.1)) (dGone (segName s.1.1) x1) = r2 at *
  obtain ⟨x2, q2⟩ := r2
  show (bif told q2 != 0 then _ else _) = _
  rw [told_ne, show w64 (s.1.1 + 1) = s.1.1 + 1 from w64_id (by omega) (by omega)]
  by_cases c4 : q2 = 0
  rotate_left
  · have d3 : (q2 != 0) = true := by simpa using c4
    simp only [d3, cond_true, c4, not_false_eq_true, if_true]; rfl
  subst c4
  have hp : diskOk (toldW (sPut (s.1.1 + 1, s.1.2 ++ [s.1.1]) (x2, 0))).1 = true := dk_sPut (w := (x2, 0)) hc _
  have e3 : impl_worker_putLive.f (toldW (x2, 0)) (s.1.1 + 1, s.1.2 ++ [s.1.1]) = some (toldW (sPut (s.1.1 + 1, s.1.2 ++ [s.1.1]) (x2, 0))) := by
    rw [w_putLive_eq (toldW (x2, 0)) (s.1.1 + 1, s.1.2 ++ [s.1.1]) (dl_dk hc) (by omega) (by simp only [List.length_append, List.length_cons, List.length_nil]; omega), wPut_told]
  have hb : (s.1.2.length + [s.1.1].length) * 8 ≤ 140737488355328 := lim8 (by omega)
  simp only [bne_self_eq_false, cond_false, not_true_eq_false, if_false, impl_copyLive_eq (s.1.1 + 1, s.1.2) (show s.1.2.length < 1000000000 by omega), Option.bind_some, hb, decide_true, cond_true, e3]
  generalize toldW (sPut (s.1.1 + 1, s.1.2 ++ [s.1.1]) (x2, 0)) = r3 at *
  obtain ⟨x3, q3⟩ := r3
  by_cases c5 : q3 = 0
  · subst c5
    simp only [bne_self_eq_false, cond_false, not_true_eq_false, if_false]
  · have d5 : (q3 != 0) = true := by simpa using c5
    simp only [d5, cond_true, c5, not_false_eq_true, if_true, impl_clean_eq (x3, q3) [[116, 101, 109, 112], segName s.1.1] hp (by simp), Option.bind_some]

theorem storeOk_parts {s : StoreT} {d : DiskT} (h : storeOk s d = true) : diskOk d = true ∧ liveOk s.1 = true ∧ dirOk s.2.1 = true ∧ (1 ≤ s.2.2.1 ∧ s.2.2.1 ≤ 1000001) ∧ segsOk d s.2.2.2.1 s.1.2 = true := by
  unfold storeOk at h
  simp only [Bool.and_eq_true, decide_eq_true_eq] at h
  exact ⟨h.1, h.2.1, h.2.2.1, h.2.2.2.1, h.2.2.2.2.1⟩

theorem rotP_ok {s : StoreT} {d : DiskT} (h : diskOk d = true) (hv : liveOk s.1 = true) : diskOk (rotP s d).2.1 = true ∧ (rotP s d).1.1.2.length ≤ s.1.2.length + 1 ∧ (rotP s d).1.2.1 = s.2.1 ∧ (rotP s d).1.2.2.1 = s.2.2.1 ∧
    (((rotP s d).2.2 = 0 → liveOk (rotP s d).1.1 = true)) ∧ ((rotP s d).1.2.2.2.1 = s.2.2.2.1 ∨ (rotP s d).1.2.2.2.1 = 0) := by
  have hs := dk_Sync h (actN s)
  have hc : diskOk (sstep (dCreate (segName s.1.1)) (dGone (segName s.1.1) (dSync (actN s) d).1)).1 = true := dk_sstep (op := dCreate _) (dk_Gone hs _) fun k => dk_Create k _
  unfold rotP
  split
  · exact ⟨h, Nat.le_succ _, rfl, rfl, fun e => absurd e (by simp), .inl rfl⟩
  rename_i c1
  split
  · rename_i c2
    exact ⟨hs, Nat.le_succ _, rfl, rfl, fun e => absurd ((told_zero _).1 e) c2, .inl rfl⟩
  simp only
  split
  · rename_i c2
    exact ⟨hc, Nat.le_succ _, rfl, rfl, fun e => absurd ((told_zero _).1 e) c2, .inl rfl⟩
  have hp := dk_sPut (w := ((sstep (dCreate (segName s.1.1)) (dGone (segName s.1.1) (dSync (actN s) d).1)).1, 0)) hc (s.1.1 + 1, s.1.2 ++ [s.1.1])
  split
  · rename_i c3
    refine ⟨dk_cleanW _ hp, Nat.le_succ _, rfl, rfl, fun e => ?_, .inl rfl⟩
    exfalso
    revert e
    unfold cleanW
    split
    · split
      · simp
      · rename_i c4; exact c4
    · exact c3
  · refine ⟨hp, by simp, rfl, rfl, fun _ => liveOk_more hv (by omega) (by omega), .inr rfl⟩

theorem lim48 {a : Nat} (h : a < 1000000000001) : (a + 1) * 48 ≤ 140737488355328 := by omega

theorem impl_DirDrop_eq (l : List EntryT) (key : List UInt8) (hl : l.length < 1000000000) : impl_DirDrop.f l key = some (dropK l key) := by
  have hk := fold_loop (step := impl_DirDrop.l0) l (fun s x => if (!(x.1 == key)) = true then s ++ [x] else s) (fun n (s : List EntryT) => (key, s, l, (l.length : Int), (n : Int))) id (fun n s => s.length ≤ n) (by omega)
    (fun rec n s h hi => by
      have hb : (s.length + ([(l[n].1, l[n].2.1, l[n].2.2.1, l[n].2.2.2.1, l[n].2.2.2.2)] : List EntryT).length) * 48 ≤ 140737488355328 := lim48 (by omega)
      have hw := w64_succ (show n + 1 < 9223372036854775808 by omega)
      simp only [impl_DirDrop.l0, Int.ofNat_lt, h, decide_true, cond_true, inB_nat, rdA_nat, getD_lt h, hb]
      cases l[n].1 == key <;> simp only [Bool.not_true, Bool.not_false, cond_true, cond_false, Option.bind_some, hw, if_true, if_false, Bool.false_eq_true])
    (fun n s h hi => by
      have : ∀ b : Bool, (if b = true then s ++ [l[n]] else s).length ≤ n + 1 := fun b => by cases b <;> simp <;> omega
      exact this _)
    (fun rec s hi => by simp [impl_DirDrop.l0]) [] (by simp)
  have hk : lp impl_DirDrop.l0 (key, [], l, (l.length : Int), 0) = _ := hk
  unfold impl_DirDrop.f
  rw [hk, foldl_filter]; rfl

theorem impl_DirPut_l0 (rest : List EntryT) (p : EntryT) (hl : rest.length < 2 ^ 62) :
    lp impl_DirPut.l0 (p, rest, 0) = some (p, rest, ((rest.takeWhile fun x => leK x.1 p.1).length : Int)) := by
  have key := lp_up (step := impl_DirPut.l0) (fun n (_ : Unit) => (p, rest, (n : Int))) rest.length (fun n _ => (p, rest, ((n + ((rest.drop n).takeWhile fun x => leK x.1 p.1).length : Nat) : Int))) (fun _ _ => True)
    (fun rec n s hn _ ih => by
      rcases Nat.lt_or_ge n rest.length with h | h
      · rw [takeWhile_drop _ _ _ h]
        simp only [impl_DirPut.l0, Int.ofNat_lt, h, decide_true, cond_true, inB_nat, rdA_nat, getD_lt h, w64_succ (show n + 1 < 9223372036854775808 by omega)]
        show (bif leK rest[n].1 p.1 then _ else _) = _
        cases leK rest[n].1 p.1
        · simp
        · simp only [cond_true, if_true]
          rw [ih () h trivial]
          congr 4; omega
      · have : n = rest.length := by omega
        subst this
        simp [impl_DirPut.l0])
    hl 0 () (Nat.zero_le _) trivial
  simpa using key

theorem impl_DirPut_eq (l : List EntryT) (e : EntryT) (hl : l.length < 1000000000) : impl_DirPut.f l e = some (insB (dropK l e.1) e) := by
  have hd := dropK_len l e.1
  have htw : ((dropK l e.1).takeWhile fun x => leK x.1 e.1).length ≤ (dropK l e.1).length := (List.takeWhile_sublist _).length_le
  unfold impl_DirPut.f
  rw [impl_DirDrop_eq l e.1 hl, Option.bind_some, impl_DirPut_l0 _ _ (by omega), Option.bind_some]
  generalize hk : ((dropK l e.1).takeWhile fun x => leK x.1 e.1).length = k at *
  have c1 : (0 : Int) ≤ (k : Int) := by omega
  have c2 : (k : Int) ≤ ((dropK l e.1).length : Int) := by omega
  have c3 : (List.take k (dropK l e.1)).length < 1000000000 := by simp; omega
  have c4 : ((List.take k (dropK l e.1)).length + [e].length) * 48 ≤ 140737488355328 := lim48 (by omega)
  have c5 : ((List.take k (dropK l e.1) ++ [e]).length + (List.drop k (dropK l e.1)).length) * 48 ≤ 140737488355328 := by simp; omega
  have hins : insB (dropK l e.1) e = List.take k (dropK l e.1) ++ [e] ++ List.drop k (dropK l e.1) := by
    unfold insB; simp only [hk]
  simp only [c1, c2, decide_true, Bool.and_self, cond_true, Int.toNat_natCast, impl_copyDir_eq _ c3, Option.bind_some, c4, c5, hins]

def dirStep (dir : List EntryT) (x : PutT × EntryT) : List EntryT := if x.1.2.1 = true then dropK dir x.1.1 else insB (dropK dir x.2.1) x.2

def dirW (dir : List EntryT) (l : List (PutT × EntryT)) : List EntryT := l.foldl dirStep dir

theorem dirStep_len (dir : List EntryT) (x : PutT × EntryT) : (dirStep dir x).length ≤ dir.length + 1 := by
  unfold dirStep; split
  · have := dropK_len dir x.1.1; omega
  · rw [insB_len]; have := dropK_len dir x.2.1; omega

theorem dirWith_l0 (step : ((List EntryT × List EntryT × List PutT × Int × Int) → Option (List EntryT)) → (List EntryT × List EntryT × List PutT × Int × Int) → Option (List EntryT)) (hst : step = impl_dirWith.l0) (dir : List EntryT) (l : List PutT) (es : List EntryT) (h1 : l.length ≤ es.length) (hd : dir.length < 100000000) (hl : l.length < 100000000) :
    lp step (dir, es, l, (l.length : Int), 0) = some (dirW dir (l.zip es)) := by
  subst hst
  have hz : (l.zip es).length = l.length := by rw [List.length_zip]; omega
  have key := fold_loop (step := impl_dirWith.l0) (l.zip es) dirStep (fun n (s : List EntryT) => (s, es, l, (l.length : Int), (n : Int))) id (fun n s => s.length ≤ dir.length + n) (by omega)
    (fun rec n s h hi => by
      have hn : n < l.length := by omega
      have hn2 : n < es.length := by omega
      have hw := w64_succ (show n + 1 < 9223372036854775808 by omega)
      simp only [impl_dirWith.l0, Int.ofNat_lt, hn, hn2, decide_true, cond_true, inB_nat, rdA_nat, getD_lt hn, getD_lt hn2, impl_DirDrop_eq s l[n].1 (by omega), impl_DirPut_eq s es[n] (by omega), Option.bind_some, List.getElem_zip]
      unfold dirStep
      simp only
      cases l[n].2.1
      · simp only [cond_false, Option.bind_some, hw, Bool.false_eq_true, if_false]
      · simp only [cond_true, Option.bind_some, hw, if_true])
    (fun n s h hi => by have := dirStep_len s (l.zip es)[n]; have hi : s.length ≤ dir.length + n := hi; show _ ≤ _; omega)
    (fun rec s hi => by simp only [hz, impl_dirWith.l0]; simp)
    dir (by simp)
  exact key

theorem impl_dirWith_eq (dir : List EntryT) (l : List PutT) (es : List EntryT) (h1 : l.length ≤ es.length) (hd : dir.length < 100000000) (hl : l.length < 100000000) : impl_dirWith.f dir l es = some (dirW dir (l.zip es)) := by
  unfold impl_dirWith.f
  rw [dirWith_l0 _ rfl dir l es h1 hd hl]; rfl

theorem impl_dirWith_o_eq (dir : List EntryT) (l : List PutT) (es : List EntryT) (h1 : l.length ≤ es.length) (hd : dir.length < 100000000) (hl : l.length < 100000000) : impl_dirWith_o.f dir l es = some (dirW dir (l.zip es)) := by
  unfold impl_dirWith_o.f
  rw [dirWith_l0 impl_dirWith_o.l0 rfl dir l es h1 hd hl]; rfl

def bareE (p : PutT) : EntryT := (p.1, 0, 0, 0, 0)

def keysP (dir : List EntryT) (l : List PutT) : Nat := (dirW dir (l.zip (l.map bareE))).length

theorem impl_keysWith_eq (dir : List EntryT) (l : List PutT) (hd : dir.length < 100000000) (hl : l.length < 100000000) : impl_keysWith.f dir l = some (keysP dir l : Int) := by
  have key := lp_up (step := impl_keysWith.l0) (fun n (acc : List EntryT) => (dir, l, acc, l, (l.length : Int), (n : Int))) l.length (fun n acc => (dir, l, acc ++ (l.drop n).map bareE)) (fun n acc => acc.length = n)
    (fun rec n acc hn ha ih => by
      rcases Nat.lt_or_ge n l.length with h | h
      · have hw := w64_succ (show n + 1 < 9223372036854775808 by omega)
        have hb : ∀ {α : Type} (x : α), decide ((acc.length + [x].length) * 48 ≤ 140737488355328) = true := fun x => decide_eq_true (lim48 (by omega))
        have ih := ih (acc ++ [(l[n].1, 0, 0, 0, 0)]) h (by rw [List.length_append, ha]; rfl)
        simp only [impl_keysWith.l0, Int.ofNat_lt, h, decide_true, cond_true, inB_nat, rdA_nat, getD_lt h]
        simp only [hb, cond_true, hw, ih]
        rw [List.drop_eq_getElem_cons h, List.map_cons, List.append_assoc]; rfl
      · have : n = l.length := by omega
        subst this
        simp [impl_keysWith.l0])
    (by omega) 0 [] (Nat.zero_le _) rfl
  have key : lp impl_keysWith.l0 (dir, l, [], l, (l.length : Int), 0) = _ := key
  unfold impl_keysWith.f keysP
  rw [key, Option.bind_some, List.drop_zero, List.nil_append]
  simp only
  rw [impl_dirWith_eq dir l _ (by rw [List.length_map]; exact Nat.le_refl _) hd hl]; rfl

def recOf (b : Int) (p : PutT) : RecT := if p.2.1 = true then (2, b, p.1, [], 0, 0) else (1, b, p.1, p.2.2, 0, 0)

def recsOf (b : Int) (l : List PutT) : List RecT := l.map (recOf b) ++ [(3, b, [], [], (l.length : Int), sumOf (l.map (recOf b)))]

theorem lim64R {a : Nat} (h : a < 1000000000001) : (a + 1) * 64 ≤ 140737488355328 := by omega

theorem impl_recordsOf_eq (l : List PutT) (b : Int) (hl : l.length < 100000000) : impl_recordsOf.f l b = some (recsOf b l) := by
  have key := lp_up (step := impl_recordsOf.l0) (fun n (acc : List RecT) => (l, b, acc, l, (l.length : Int), (n : Int))) l.length (fun n acc => (l, b, acc ++ (l.drop n).map (recOf b))) (fun n acc => acc.length = n)
    (fun rec n acc hn ha ih => by
      rcases Nat.lt_or_ge n l.length with h | h
      · have hw := w64_succ (show n + 1 < 9223372036854775808 by omega)
        have hb : ∀ {α : Type} (x : α), decide ((acc.length + [x].length) * 64 ≤ 140737488355328) = true := fun x => decide_eq_true (lim64R (by omega))
        have ih := ih (acc ++ [recOf b l[n]]) h (by rw [List.length_append, ha]; rfl)
        have e : acc ++ List.map (recOf b) (List.drop n l) = acc ++ [recOf b l[n]] ++ List.map (recOf b) (List.drop (n + 1) l) := by
          rw [List.drop_eq_getElem_cons h, List.map_cons, List.append_assoc]; rfl
        rw [e]
        simp only [impl_recordsOf.l0, Int.ofNat_lt, h, decide_true, cond_true, inB_nat, rdA_nat, getD_lt h, hb]
        revert ih
        unfold recOf
        cases l[n].2.1
        · intro ih; simp only [Bool.false_eq_true, if_false] at ih ⊢; simp only [cond_false, Option.bind_some, hw, ih]
        · intro ih; simp only [if_true] at ih ⊢; simp only [cond_true, Option.bind_some, hw, ih]
      · have : n = l.length := by omega
        subst this
        simp [impl_recordsOf.l0])
    (by omega) 0 [] (Nat.zero_le _) rfl
  have key : lp impl_recordsOf.l0 (l, b, [], l, (l.length : Int), 0) = _ := key
  have hb : ∀ {α : Type} (x : α), decide (((l.map (recOf b)).length + [x].length) * 64 ≤ 140737488355328) = true := fun x => decide_eq_true (lim64R (by rw [List.length_map]; omega))
  unfold impl_recordsOf.f recsOf
  rw [key, Option.bind_some, List.drop_zero, List.nil_append]
  simp only [impl_SumOf_eq (l.map (recOf b)) (by rw [List.length_map]; omega), Option.bind_some, hb, cond_true]

def addR (s : StoreT) (d : DiskT) (t : List UInt8) : StoreT × DiskT × Int := if s.2.2.2.1 > 0 ∧ s.2.2.2.1 + (t.length : Int) > 200 then rotP s d else (s, d, 0)

def addP (s : StoreT) (d : DiskT) (r : RecT) : StoreT × DiskT × Int × EntryT :=
  let R := addR s d (frame (showRec r))
  if R.2.2 ≠ 0 then (R.1, R.2.1, R.2.2, ([], 0, 0, 0, 0)) else
  let w := dAppend (actN R.1) (frame (showRec r)) R.2.1
  let e : EntryT := (r.2.2.1, lastI R.1.1.2, R.1.2.2.2.1, ((frame (showRec r)).length : Int), r.2.1)
  if w.2 ≠ 0 then (R.1, w.1, told w.2, e) else ((R.1.1, R.1.2.1, R.1.2.2.1, R.1.2.2.2.1 + ((frame (showRec r)).length : Int), R.1.2.2.2.2), w.1, 0, e)

/-- What holds while a batch is written. -/
structure Good2 (k : Int) (s : StoreT) (d : DiskT) : Prop where
  dk : diskOk d = true
  lv : liveOk s.1 = true
  s0 : 0 ≤ s.2.2.2.1
  s1 : s.2.2.2.1 ≤ k

theorem addR_ok {s : StoreT} {d : DiskT} {k : Int} (h : Good2 k s d) (t : List UInt8) : diskOk (addR s d t).2.1 = true ∧ (addR s d t).1.1.2.length ≤ s.1.2.length + 1 ∧ (addR s d t).1.2.1 = s.2.1 ∧ ((addR s d t).2.2 = 0 → Good2 k (addR s d t).1 (addR s d t).2.1) := by
  unfold addR
  split
  · obtain ⟨r1, r2, r3, r4, r5, r6⟩ := rotP_ok h.dk h.lv
    refine ⟨r1, r2, r3, fun e => ⟨r1, r5 e, ?_, ?_⟩⟩
    · have := h.s0; omega
    · have := h.s1; have := h.s0; omega
  · exact ⟨h.dk, Nat.le_succ _, rfl, fun _ => h⟩

theorem addP_ok {s : StoreT} {d : DiskT} {k : Int} (h : Good2 k s d) (r : RecT) : diskOk (addP s d r).2.1 = true ∧ (addP s d r).1.1.2.length ≤ s.1.2.length + 1 ∧ (addP s d r).1.2.1 = s.2.1 ∧ ((addP s d r).2.2.1 = 0 → Good2 (k + 211) (addP s d r).1 (addP s d r).2.1) := by
  obtain ⟨q1, q2, q3, q4⟩ := addR_ok h (frame (showRec r))
  have hf := frame_len (showRec r)
  unfold addP
  generalize addR s d (frame (showRec r)) = R at *
  simp only
  split
  · rename_i c; exact ⟨q1, q2, q3, fun e => absurd e c⟩
  rename_i c
  have c : R.2.2 = 0 := by simpa using c
  have g := q4 c
  have ha := dk_Append q1 (actN R.1) (frame (showRec r))
  split
  · rename_i c2; exact ⟨ha, q2, q3, fun e => absurd ((told_zero _).1 e) c2⟩
  · refine ⟨ha, q2, q3, fun _ => ⟨ha, g.lv, ?_, ?_⟩⟩
    · have := g.s0; show 0 ≤ R.1.2.2.2.1 + _; omega
    · have := g.s1; show R.1.2.2.2.1 + _ ≤ _; omega

theorem impl_add_eq {s : StoreT} {d : DiskT} {k : Int} (h : Good2 k s d) (hk : k ≤ 1000000000000) (r : RecT) : impl_Store_add.f s (d, 0) r = some ((addP s d r).2.2.2, (addP s d r).1, ((addP s d r).2.1, (addP s d r).2.2.1)) := by
  have h0 := h.s0
  have h1 := h.s1
  have hf := frame_len (showRec r)
  have hsr := showRec_len r
  obtain ⟨q1, q2, q3, q4⟩ := addR_ok h (frame (showRec r))
  have hw : w64 (s.2.2.2.1 + ((frame (showRec r)).length : Int)) = s.2.2.2.1 + ((frame (showRec r)).length : Int) := w64_id (by omega) (by omega)
  have eR : (bif decide (s.2.2.2.1 > 0) then bif decide (s.2.2.2.1 + ((frame (showRec r)).length : Int) > 200) then (impl_Store_rotate.f s (d, 0)).bind fun (t3_0, t3_1) => some (t3_0, t3_1, r, (([], 0, 0, 0, 0) : EntryT), frame (showRec r)) else some (s, (d, 0), r, ([], 0, 0, 0, 0), frame (showRec r)) else some (s, (d, 0), r, ([], 0, 0, 0, 0), frame (showRec r))) =
      some ((addR s d (frame (showRec r))).1, ((addR s d (frame (showRec r))).2.1, (addR s d (frame (showRec r))).2.2), r, ([], 0, 0, 0, 0), frame (showRec r)) := by
    unfold addR
    rw [impl_rotate_eq s d h.dk h.lv]
    by_cases c1 : s.2.2.2.1 > 0
    · by_cases c2 : s.2.2.2.1 + ((frame (showRec r)).length : Int) > 200
      · simp only [c1, c2, decide_true, cond_true, and_self, if_true, Option.bind_some]
      · simp only [c1, c2, decide_true, decide_false, cond_true, cond_false, and_false, if_false]
    · simp only [c1, decide_false, cond_false, false_and, if_false]
  unfold impl_Store_add.f addP
  simp only [impl_ShowRec_eq r, impl_Frame_eq (showRec r) (show (showRec r).length < 2 ^ 62 by omega), Option.bind_some, hw]
  rw [eR]
  generalize addR s d (frame (showRec r)) = R at *
  obtain ⟨S, D, c⟩ := R
  simp only [Option.bind_some]
  by_cases c1 : c = 0
  rotate_left
  · have d1 : (c != 0) = true := by simpa using c1
    simp only [d1, cond_true, c1, ne_eq, not_false_eq_true, if_true]
  subst c1
  have g := q4 rfl
  have g0 : 0 ≤ S.2.2.2.1 := g.s0
  have g1 : S.2.2.2.1 ≤ k := g.s1
  have g2 : liveOk S.1 = true := g.lv
  obtain ⟨k1, k2, k3, k4⟩ := (liveOk_iff S.1).1 g2
  obtain ⟨l1, l2, l3⟩ := last_rd k3 (by omega)
  have hw2 : w64 (S.2.2.2.1 + ((frame (showRec r)).length : Int)) = S.2.2.2.1 + ((frame (showRec r)).length : Int) := w64_id (by omega) (by omega)
  simp only [bne_self_eq_false, cond_false, ne_eq, not_true_eq_false, if_false, l1, l2, l3, cond_true, impl_active_eq S k3 (by omega), Option.bind_some, w_put_eq (D, 0) (actN S) (frame (showRec r)) (dl_dk q1) (by omega) (by omega)]
  rw [show wstep (dAppend (actN S) (frame (showRec r))) (D, 0) = toldW (dAppend (actN S) (frame (showRec r)) D) by unfold wstep; simp; rfl]
  generalize dAppend (actN S) (frame (showRec r)) D = w at *
  obtain ⟨x, c2⟩ := w
  by_cases c3 : c2 = 0
  · subst c3
    show (bif told 0 == 0 then _ else _) = _
    simp only [show (told 0 == 0) = true from rfl, cond_true, hw2, not_true_eq_false, if_false]; rfl
  · have c4 : ¬ told c2 = 0 := fun e => c3 ((told_zero c2).1 e)
    have d4 : (told c2 == 0) = false := by simpa using c4
    show (bif told c2 == 0 then _ else _) = _
    simp only [d4, cond_false, c3, not_false_eq_true, if_true]; rfl

def commitG : List RecT → StoreT → DiskT → StoreT × DiskT × Int × List EntryT
  | [], s, d => (s, d, 0, [])
  | r :: rs, s, d => if (addP s d r).2.2.1 ≠ 0 then ((addP s d r).1, (addP s d r).2.1, (addP s d r).2.2.1, []) else
      let g := commitG rs (addP s d r).1 (addP s d r).2.1
      (g.1, g.2.1, g.2.2.1, (addP s d r).2.2.2 :: g.2.2.2)

theorem commitG_ok : ∀ (rs : List RecT) (s : StoreT) (d : DiskT) (k : Int), Good2 k s d → diskOk (commitG rs s d).2.1 = true ∧ (commitG rs s d).1.1.2.length ≤ 61 ∧ (commitG rs s d).1.2.1 = s.2.1 ∧
    ((commitG rs s d).2.2.1 = 0 → Good2 (k + 211 * (rs.length : Int)) (commitG rs s d).1 (commitG rs s d).2.1 ∧ (commitG rs s d).2.2.2.length = rs.length)
  | [], s, d, k, h => by
    have := ((liveOk_iff _).1 h.lv).2.2.2
    refine ⟨h.dk, by show s.1.2.length ≤ 61; omega, rfl, fun _ => ⟨⟨h.dk, h.lv, h.s0, by have := h.s1; show s.2.2.2.1 ≤ _; simp; omega⟩, rfl⟩⟩
  | r :: rs, s, d, k, h => by
    obtain ⟨q1, q2, q3, q4⟩ := addP_ok h r
    have := ((liveOk_iff _).1 h.lv).2.2.2
    unfold commitG
    split
    · rename_i c
      exact ⟨q1, by show (addP s d r).1.1.2.length ≤ 61; omega, q3, fun e => absurd e c⟩
    · rename_i c
      have c : (addP s d r).2.2.1 = 0 := by simpa using c
      obtain ⟨p1, p2, p3, p4⟩ := commitG_ok rs _ _ _ (q4 c)
      refine ⟨p1, p2, by show (commitG rs _ _).1.2.1 = _; rw [p3, q3], fun e => ?_⟩
      obtain ⟨g, hl⟩ := p4 e
      refine ⟨⟨g.dk, g.lv, g.s0, ?_⟩, by show _ + 1 = _ + 1; rw [hl]⟩
      have := g.s1
      simp only [List.length_cons]
      show (commitG rs _ _).1.2.2.2.1 ≤ _
      push_cast; omega

theorem impl_commit_l0 (p2 : List PutT) (rs : List RecT) (s : StoreT) (d : DiskT) (k : Int) (h : Good2 k s d) (hk : k ≤ 100000000000) (hr : rs.length < 1000000) :
    lp impl_Store_commit.l0 (s, (d, 0), p2, [], rs, (rs.length : Int), 0) = some (if (commitG rs s d).2.2.1 = 0 then .inl ((commitG rs s d).1, ((commitG rs s d).2.1, 0), p2, (commitG rs s d).2.2.2) else .inr ((commitG rs s d).1, ((commitG rs s d).2.1, (commitG rs s d).2.2.1))) := by
  have key := lp_up (step := impl_Store_commit.l0) (fun n (a : StoreT × DiskT × List EntryT) => (a.1, (a.2.1, 0), p2, a.2.2, rs, (rs.length : Int), (n : Int))) rs.length
    (fun n a => if (commitG (rs.drop n) a.1 a.2.1).2.2.1 = 0 then .inl ((commitG (rs.drop n) a.1 a.2.1).1, ((commitG (rs.drop n) a.1 a.2.1).2.1, 0), p2, a.2.2 ++ (commitG (rs.drop n) a.1 a.2.1).2.2.2) else .inr ((commitG (rs.drop n) a.1 a.2.1).1, ((commitG (rs.drop n) a.1 a.2.1).2.1, (commitG (rs.drop n) a.1 a.2.1).2.2.1)))
    (fun n a => Good2 (k + 211 * (n : Int)) a.1 a.2.1 ∧ a.2.2.length = n)
    (fun rec n a hn ha ih => by
      obtain ⟨S, D, acc⟩ := a
      obtain ⟨ha, hacc⟩ := ha
      simp only at ha hacc
      rcases Nat.lt_or_ge n rs.length with h1 | h1
      · have hw := w64_succ (show n + 1 < 9223372036854775808 by omega)
        obtain ⟨q1, q2, q3, q4⟩ := addP_ok ha rs[n]
        have ea : impl_Store_add.f S (D, 0) (rs[n].1, rs[n].2.1, rs[n].2.2.1, rs[n].2.2.2.1, rs[n].2.2.2.2.1, rs[n].2.2.2.2.2) = _ := impl_add_eq ha (by omega) rs[n]
        have hb : ∀ {α : Type} (x : α), decide ((acc.length + [x].length) * 48 ≤ 140737488355328) = true := fun x => decide_eq_true (lim48 (by omega))
        rw [List.drop_eq_getElem_cons h1]
        simp only [commitG, impl_Store_commit.l0, Int.ofNat_lt, h1, decide_true, cond_true, inB_nat, rdA_nat, getD_lt h1, ea, Option.bind_some, hb]
        by_cases c : (addP S D rs[n]).2.2.1 = 0
        · have g := q4 c
          have ih := ih ((addP S D rs[n]).1, (addP S D rs[n]).2.1, acc ++ [(addP S D rs[n]).2.2.2]) h1 ⟨by
            refine ⟨g.dk, g.lv, g.s0, ?_⟩
            have := g.s1; simp only; push_cast; omega, by rw [List.length_append, hacc]; rfl⟩
          simp only at ih
          simp only [c, bne_self_eq_false, cond_false, ne_eq, not_true_eq_false, if_false, hw, ih, List.append_assoc, List.singleton_append]
        · have d1 : ((addP S D rs[n]).2.2.1 != 0) = true := by simpa using c
          simp only [d1, cond_true, c, ne_eq, not_false_eq_true, if_true, if_false]
      · have : n = rs.length := by omega
        subst this
        simp [impl_Store_commit.l0, commitG])
    (by omega) 0 (s, d, []) (Nat.zero_le _) ⟨by simpa using h, rfl⟩
  have key : lp impl_Store_commit.l0 (s, (d, 0), p2, [], rs, (rs.length : Int), 0) = _ := key
  rw [key, List.drop_zero, List.nil_append]

def commitP (s : StoreT) (d : DiskT) (l : List PutT) : StoreT × DiskT × Int :=
  let g := commitG (recsOf s.2.2.1 l) (s.1, s.2.1, s.2.2.1 + 1, s.2.2.2) d
  if g.2.2.1 ≠ 0 then (g.1, g.2.1, g.2.2.1) else
  let w := dSync (actN g.1) g.2.1
  if w.2 ≠ 0 then (g.1, w.1, told w.2) else ((g.1.1, dirW g.1.2.1 (l.zip g.2.2.2), g.1.2.2), w.1, 0)

theorem recsOf_len (b : Int) (l : List PutT) : (recsOf b l).length = l.length + 1 := by
  unfold recsOf; simp

theorem impl_commit_eq {s : StoreT} {d : DiskT} {k : Int} (h : Good2 k s d) (hk : k ≤ 100000000) (l : List PutT) (hl : l.length ≤ 8) (hb : 0 ≤ s.2.2.1 ∧ s.2.2.1 ≤ 1000001) (hd : s.2.1.length ≤ 1000000) : impl_Store_commit.f s (d, 0) l = some (commitP s d l) := by
  have h' : Good2 k (s.1, s.2.1, s.2.2.1 + 1, s.2.2.2) d := ⟨h.dk, h.lv, h.s0, h.s1⟩
  have hrl := recsOf_len s.2.2.1 l
  obtain ⟨p1, p2, p3, p4⟩ := commitG_ok (recsOf s.2.2.1 l) _ _ _ h'
  unfold impl_Store_commit.f commitP
  simp only [show w64 (s.2.2.1 + 1) = s.2.2.1 + 1 from w64_id (by omega) (by omega), impl_recordsOf_eq l s.2.2.1 (by omega), Option.bind_some, impl_commit_l0 l (recsOf s.2.2.1 l) (s.1, s.2.1, s.2.2.1 + 1, s.2.2.2) d k h' (by omega) (by omega)]
  generalize commitG (recsOf s.2.2.1 l) (s.1, s.2.1, s.2.2.1 + 1, s.2.2.2) d = g at *
  obtain ⟨S, D, c, es⟩ := g
  by_cases c1 : c = 0
  rotate_left
  · simp only [c1, if_false, caseS_r, ne_eq, not_false_eq_true, if_true]
  subst c1
  obtain ⟨g, hes⟩ := p4 rfl
  have g0 : liveOk S.1 = true := g.lv
  have g1 : diskOk D = true := g.dk
  have hes : es.length = (recsOf s.2.2.1 l).length := hes
  have p3 : S.2.1 = s.2.1 := p3
  obtain ⟨k1, k2, k3, k4⟩ := (liveOk_iff S.1).1 g0
  simp only [if_true, caseS_l, ne_eq, not_true_eq_false, if_false, impl_active_eq S k3 (by omega), Option.bind_some, w_sync_eq (D, 0) (actN S) (dl_dk g1) (by omega)]
  rw [show wstep (dSync (actN S)) (D, 0) = toldW (dSync (actN S) D) by unfold wstep; simp; rfl]
  generalize dSync (actN S) D = w at *
  obtain ⟨x, c2⟩ := w
  show (bif told c2 == 0 then _ else _) = _
  by_cases c3 : c2 = 0
  · subst c3
    simp only [show (told 0 == 0) = true from rfl, cond_true, not_true_eq_false, if_false, impl_dirWith_o_eq S.2.1 l es (by omega) (by rw [p3]; omega) (by omega), Option.bind_some]; rfl
  · have c4 : ¬ told c2 = 0 := fun e => c3 ((told_zero c2).1 e)
    have d4 : (told c2 == 0) = false := by simpa using c4
    simp only [d4, cond_false, c3, not_false_eq_true, if_true]; rfl

theorem segs_size {d : DiskT} (hd : dlim d) {size : Int} : ∀ (l : List Int), l ≠ [] → segsOk d size l = true → 0 ≤ size ∧ size ≤ (usedN d.1 : Int)
  | [], h, _ => absurd rfl h
  | [id], _, h => by
    unfold segsOk segOk at h
    simp only [Bool.and_eq_true, List.isEmpty_nil, Bool.not_true, Bool.false_or, decide_eq_true_eq] at h
    have := fileText_len d (segName id) hd
    have e := h.1.2.2
    omega
  | id :: id2 :: r, _, h => by
    have h2 : segsOk d size (id2 :: r) = true := by
      unfold segsOk at h
      simp only [Bool.and_eq_true] at h
      exact h.2
    exact segs_size hd (id2 :: r) (by simp) h2

theorem storeOk_good {s : StoreT} {d : DiskT} (h : storeOk s d = true) : Good2 100000 s d := by
  obtain ⟨q1, q2, q3, q4, q5⟩ := storeOk_parts h
  have hl := dl_dk q1
  have hd := dl_lim hl (by omega)
  have k := (liveOk_iff s.1).1 q2
  have := segs_size hd s.1.2 (fun e => by rw [e] at k; simp at k) q5
  have := (diskOk_cap q1)
  exact ⟨q1, q2, by omega, by omega⟩

theorem riseE_mem : ∀ (l : List EntryT) (p : Option (List UInt8)), riseE p l = true → ∀ e ∈ l, entryOk e = true
  | [], _, _, e, he => by simp at he
  | x :: l, p, h, e, he => by
    simp only [riseE, Bool.and_eq_true] at h
    rcases List.mem_cons.1 he with c | he
    · subst c; exact h.1
    · exact riseE_mem l _ h.2.2 e he

theorem dirOk_mem {l : List EntryT} (h : dirOk l = true) : l.length ≤ 20 ∧ ∀ e ∈ l, entryOk e = true := by
  unfold dirOk at h
  simp only [Bool.and_eq_true, decide_eq_true_eq] at h
  exact ⟨h.2, riseE_mem l none h.1⟩

def sNew (n : List UInt8) (w : WorkT) : WorkT := sstep (dCreate n) (sstep (dGone n) w)

theorem dk_sNew {w : WorkT} (h : diskOk w.1 = true) (n : List UInt8) : diskOk (sNew n w).1 = true :=
  dk_sstep (op := dCreate n) (dk_sstep (op := dGone n) h fun k => dk_Gone k n) fun k => dk_Create k n

theorem spec_SameDisk_self (d : DiskT) (h : d.1.length < 1000000000) : spec_SameDisk.f d d = some true := by
  have key := all_loop (step := spec_SameDisk.l0) d.1 (fun _ => true) (fun n => (d, d, (n : Int))) () (by omega)
    (fun rec n h1 => by
      have hw := w64_succ (show n + 1 < 9223372036854775808 by omega)
      simp only [spec_SameDisk.l0, Int.ofNat_lt, h1, decide_true, cond_true, inB_nat, rdA_nat, getD_lt h1, beq_self_eq_true, Bool.and_self, Bool.not_true, cond_false, hw, if_true])
    (fun rec => by simp [spec_SameDisk.l0])
  have key : lp spec_SameDisk.l0 (d, d, 0) = _ := key
  unfold spec_SameDisk.f
  have hall : d.1.all (fun _ => true) = true := by simp
  rw [key, hall]
  simp only [bne_self_eq_false, cond_false, beq_self_eq_true, Bool.not_true, if_true, Option.bind_some, caseS_l]

theorem srt_inj {α : Type} {l : List (List UInt8 × α)} (h : srt l) {i j : Nat} (hi : i < l.length) (hj : j < l.length) (e : l[i].1 = l[j].1) : i = j := by
  unfold srt at h
  rw [List.pairwise_iff_getElem] at h
  rcases Nat.lt_trichotomy i j with c | c | c
  · have := h i j hi hj c; rw [e, less_irrefl] at this; simp at this
  · exact c
  · have := h j i hj hi c; rw [e, less_irrefl] at this; simp at this

theorem fileText_mem {d : DiskT} (h : diskOk d = true) {f : FileT} (hf : f ∈ d.1) : fileText d f.1 = (f.2.1, true) := by
  have hs := ((diskOk_iff d).1 h).2.2.2.2.2
  unfold fileText
  rw [if_neg (by rw [h]; simp)]
  rcases fileIx_cases d.1 f.1 with ⟨e, hno⟩ | ⟨i, hi, e, hn⟩
  · exact absurd rfl (hno f hf)
  · rw [ix_some e]
    obtain ⟨j, hj, ej⟩ := List.getElem_of_mem hf
    have : i = j := srt_inj hs hi hj (by rw [hn, ej])
    subst this
    simp only
    rw [getD_lt hi, ej]

theorem fileText_none {d : DiskT} {n : List UInt8} (h : ∀ f ∈ d.1, f.1 ≠ n) : (fileText d n).2 = false := by
  unfold fileText
  split
  · rfl
  · rcases fileIx_cases d.1 n with ⟨e, hno⟩ | ⟨i, hi, e, hn⟩
    · rw [ix_none e]
    · exact absurd hn (h _ (List.getElem_mem hi))

/-- When a step is done. -/
theorem dstep_zero {d : DiskT} {act : List FileT → Int × List FileT} (h : (dstep d act).2 = 0) : diskOk d = true ∧ (act d.1).1 = 0 ∧ (dstep d act).1 = ((act d.1).2, (tick d).2) := by
  unfold dstep at h ⊢
  split at h
  · simp at h
  rename_i c
  split at h
  · simp at h
  rename_i c2
  rw [if_neg c, if_neg c2]
  exact ⟨by simpa using c, h, rfl⟩

theorem appendTxt {d : DiskT} {n t : List UInt8} (h : (dAppend n t d).2 = 0) : (fileText d n).2 = true ∧ fileText (dAppend n t d).1 n = ((fileText d n).1 ++ t, true) := by
  obtain ⟨k, ha, hx⟩ := dstep_zero h
  have hk : diskOk (dAppend n t d).1 = true := dk_Append k n t
  have hx : (dAppend n t d).1 = _ := hx
  unfold actAppend at ha hx
  rcases fileIx_cases d.1 n with ⟨e, _⟩ | ⟨i, hi, e, hn⟩
  · rw [ix_none e] at ha; simp at ha
  rw [ix_some e] at ha hx
  simp only at ha hx
  split at ha
  · simp at ha
  rename_i c
  rw [if_neg c, getD_lt hi] at hx
  have e1 := fileText_mem k (List.getElem_mem hi)
  rw [hn] at e1
  have hm : ((n, d.1[i].2.1 ++ t, d.1[i].2.2) : FileT) ∈ (dAppend n t d).1.1 := by
    rw [hx, ← hn]
    exact List.mem_iff_getElem.2 ⟨i, by simpa using hi, by simp⟩
  have e2 := fileText_mem hk hm
  rw [e1]
  exact ⟨rfl, e2⟩

theorem removeTxt {d : DiskT} {n : List UInt8} (h : (dRemove n d).2 = 0) : (fileText (dRemove n d).1 n).2 = false := by
  obtain ⟨k, ha, hx⟩ := dstep_zero h
  have hx : (dRemove n d).1 = _ := hx
  unfold actRemove at ha hx
  rcases fileIx_cases d.1 n with ⟨e, _⟩ | ⟨i, hi, e, hn⟩
  · rw [ix_none e] at ha; simp at ha
  rw [ix_some e] at hx
  simp only at hx
  apply fileText_none
  rw [hx]
  intro f hf
  have := remIx_ne hi (diskOk_pw k) f hf
  rw [hn] at this
  exact this

theorem riseE_pw : ∀ (l : List EntryT) (p : Option (List UInt8)), riseE p l = true → (∀ q, p = some q → ∀ x ∈ l, Op.bytesLess q x.1 = true) ∧ srt l
  | [], p, _ => ⟨fun _ _ x hx => by simp at hx, List.Pairwise.nil⟩
  | e :: l, p, h => by
    simp only [riseE, Bool.and_eq_true] at h
    obtain ⟨h1, h2⟩ := riseE_pw l (some e.1) h.2.2
    refine ⟨fun q hq x hx => ?_, List.Pairwise.cons (h1 e.1 rfl) h2⟩
    subst hq
    have hqe : Op.bytesLess q e.1 = true := h.2.1
    rcases List.mem_cons.1 hx with c | hx
    · rw [c]; exact hqe
    · exact less_trans _ _ _ hqe (h1 e.1 rfl x hx)

theorem dirOk_srt {l : List EntryT} (h : dirOk l = true) : srt l := by
  unfold dirOk at h
  simp only [Bool.and_eq_true] at h
  exact (riseE_pw l none h.1).2

theorem dirGet_mem {l : List EntryT} (h : srt l) {e : EntryT} (he : e ∈ l) : dirGet l e.1 = (e, true) := by
  unfold dirGet
  have hf : (l.find? fun x => x.1 == e.1) = some e := by
    induction l with
    | nil => simp at he
    | cons x l ih =>
      have h2 := List.pairwise_cons.1 h
      rw [List.find?_cons]
      rcases List.mem_cons.1 he with c | he
      · subst c; simp
      · have : (x.1 == e.1) = false := by simpa using less_ne (h2.1 e he)
        rw [this]
        exact ih h2.2 he
  rw [hf]

theorem storeOk_ent {s : StoreT} {d : DiskT} (h : storeOk s d = true) : ∀ e ∈ s.2.1, entOk d s.2.2.1 e = true := by
  unfold storeOk at h
  simp only [Bool.and_eq_true, List.all_eq_true] at h
  exact h.2.2.2.2.2

theorem getP_mem {s : StoreT} {d : DiskT} (h : storeOk s d = true) {e : EntryT} (he : e ∈ s.2.1) : (getP s d e.1).2 = 0 ∧ (getP s d e.1).1.1 = e.1 := by
  obtain ⟨q1, q2, q3, q4, q5⟩ := storeOk_parts h
  have hs := dirOk_srt q3
  have k := storeOk_ent h e he
  unfold entOk at k
  simp only [Bool.and_eq_true, Bool.or_eq_true, beq_iff_eq] at k
  unfold getP
  rw [dirGet_mem hs he]
  simp only [Bool.true_eq_false, if_false]
  rw [if_pos ⟨k.1, k.2.1, k.2.2.1⟩]
  exact ⟨rfl, rfl⟩

theorem dumpL_ok {s : StoreT} {d : DiskT} : ∀ (l : List EntryT) (acc : List PairT), (∀ e ∈ l, (getP s d e.1).2 = 0) → dumpL s d l acc = (acc ++ l.map fun e => (getP s d e.1).1, 0)
  | [], acc, _ => by simp [dumpL]
  | e :: r, acc, h => by
    unfold dumpL
    rw [if_neg (by rw [h e List.mem_cons_self]; simp), dumpL_ok r _ fun x hx => h x (List.mem_cons_of_mem _ hx)]
    simp

theorem dumpP_ok {s : StoreT} {d : DiskT} (h : storeOk s d = true) : dumpP s d = (s.2.1.map fun e => (getP s d e.1).1, 0) := by
  unfold dumpP
  rw [dumpL_ok s.2.1 [] fun e he => (getP_mem h he).1]
  simp

theorem dk_new (n : Int) (h : 0 ≤ n ∧ n ≤ 100000) : diskOk (([], n, -1, false) : DiskT) = true := by
  rw [diskOk_iff]; exact ⟨h, (show (-1 : Int) ≤ -1 ∧ (-1 : Int) ≤ 100000 by decide), (show 0 ≤ 130 by decide), h.1, by simp, List.Pairwise.nil⟩

theorem spec_Sweep_new (n : Int) (h : 0 ≤ n ∧ n ≤ 100000) : spec_l11Sweep.f (([], n, -1, false) : DiskT) (0, []) = some (([], n, -1, false), 0) := by
  have hk := dk_new n h
  have hd := dl_lim (dl_dk hk) (by omega)
  have e1 := lp_up (step := spec_Orphans.l0) (fun k (_ : Unit) => ((([], n, -1, false) : DiskT), ((0, []) : LiveT), ([] : List (List UInt8)), (k : Int))) 0 (fun _ _ => ([] : List (List UInt8))) (fun _ _ => True)
    (fun rec k s hk _ ih => by
      have : k = 0 := by omega
      subst this
      simp [spec_Orphans.l0])
    (by decide) 0 () (Nat.le_refl _) trivial
  have e1 : lp spec_Orphans.l0 (([], n, -1, false), (0, []), [], 0) = some [] := e1
  have e2 := lp_up (step := spec_l11Sweep.l0) (fun k (_ : Unit) => ((([], n, -1, false) : DiskT), (([], 0, 0, false) : DiskT), ([] : List (List UInt8)), (k : Int))) 0 (fun _ _ => .inl ((([], n, -1, false) : DiskT), (([], 0, 0, false) : DiskT))) (fun _ _ => True)
    (fun rec k s hk _ ih => by
      have : k = 0 := by omega
      subst this
      simp [spec_l11Sweep.l0])
    (by decide) 0 () (Nat.le_refl _) trivial
  have e2 : lp spec_l11Sweep.l0 (([], n, -1, false), ([], 0, 0, false), [], 0) = some (.inl (([], n, -1, false), ([], 0, 0, false))) := e2
  unfold spec_l11Sweep.f spec_Orphans.f
  simp only [spec_DiskOk_eq _ hd, hk, Option.bind_some, Bool.not_true, cond_false, e1, e2, caseS_l]

theorem fileText_eq_none {d : DiskT} {n : List UInt8} (h : ∀ f ∈ d.1, f.1 ≠ n) : fileText d n = ([], false) := by
  unfold fileText
  split
  · rfl
  · rcases fileIx_cases d.1 n with ⟨e, hno⟩ | ⟨i, hi, e, hn⟩
    · rw [ix_none e]
    · exact absurd hn (h _ (List.getElem_mem hi))

theorem ft_same {d e : DiskT} (hd : diskOk d = true) (he : diskOk e = true) (n : List UInt8) (hm : ∀ t, (∃ s, ((n, t, s) : FileT) ∈ d.1) ↔ ∃ s, ((n, t, s) : FileT) ∈ e.1) : fileText e n = fileText d n := by
  by_cases c : ∃ t s, ((n, t, s) : FileT) ∈ d.1
  · obtain ⟨t, s, hs⟩ := c
    obtain ⟨s', hs'⟩ := (hm t).1 ⟨s, hs⟩
    have e1 := fileText_mem hd hs
    have e2 := fileText_mem he hs'
    exact e2.trans e1.symm
  · have h1 : ∀ f ∈ d.1, f.1 ≠ n := fun f hf e => c ⟨f.2.1, f.2.2, by rw [← e]; exact hf⟩
    have h2 : ∀ f ∈ e.1, f.1 ≠ n := fun f hf e' => by
      obtain ⟨s, hs⟩ := (hm f.2.1).2 ⟨f.2.2, by rw [← e']; exact hf⟩
      exact c ⟨_, _, hs⟩
    rw [fileText_eq_none h1, fileText_eq_none h2]

theorem ft_files {d : DiskT} {act : List FileT → Int × List FileT} (h : diskOk d = true) (hk : diskOk (dstep d act).1 = true) (n : List UInt8) (hm : ∀ t, (∃ s, ((n, t, s) : FileT) ∈ d.1) ↔ ∃ s, ((n, t, s) : FileT) ∈ (act d.1).2) : fileText (dstep d act).1 n = fileText d n := by
  refine ft_same h hk n fun t => ?_
  have hx : (dstep d act).1.1 = d.1 ∨ (dstep d act).1.1 = (act d.1).2 := by
    unfold dstep
    split
    · exact .inl rfl
    · split
      · exact .inl rfl
      · exact .inr rfl
  rcases hx with e | e
  · rw [e]
  · rw [e]; exact hm t

theorem mem_set_ne {l : List FileT} {i : Nat} (hi : i < l.length) {f : FileT} (hf : f.1 = l[i].1) {x : FileT} (hx : x.1 ≠ l[i].1) : x ∈ l.set i f ↔ x ∈ l := by
  constructor
  · intro h
    rcases List.mem_or_eq_of_mem_set h with h | e
    · exact h
    · rw [e] at hx; exact absurd hf hx
  · intro h
    obtain ⟨j, hj, e⟩ := List.getElem_of_mem h
    have hij : i ≠ j := fun c => by subst c; rw [e] at hx; exact hx rfl
    exact List.mem_iff_getElem.2 ⟨j, by simpa using hj, by rw [List.getElem_set, if_neg hij]; exact e⟩

theorem mem_remIx_ne {l : List FileT} {i : Nat} (hi : i < l.length) {x : FileT} (hx : x.1 ≠ l[i].1) : x ∈ remIx l i ↔ x ∈ l := by
  constructor
  · intro h; exact (remIx_sub l i).subset h
  · intro h
    rw [remIx_split hi] at h
    unfold remIx
    rcases List.mem_append.1 h with h | h
    · exact List.mem_append_left _ h
    · rcases List.mem_cons.1 h with e | h
      · rw [e] at hx; exact absurd rfl hx
      · exact List.mem_append_right _ h

theorem ft_Remove {d : DiskT} (h : diskOk d = true) {m n : List UInt8} (hne : n ≠ m) : fileText (dRemove m d).1 n = fileText d n := by
  refine ft_files h (dk_Remove h m) n fun t => ?_
  unfold actRemove
  rcases fileIx_cases d.1 m with ⟨e, _⟩ | ⟨i, hi, e, hn⟩
  · rw [ix_none e]
  · rw [ix_some e]
    simp only
    constructor
    · rintro ⟨s, hs⟩; exact ⟨s, (mem_remIx_ne hi (by rw [hn]; exact hne)).2 hs⟩
    · rintro ⟨s, hs⟩; exact ⟨s, (mem_remIx_ne hi (by rw [hn]; exact hne)).1 hs⟩

theorem ft_Gone {d : DiskT} (h : diskOk d = true) {m n : List UInt8} (hne : n ≠ m) : fileText (dGone m d).1 n = fileText d n := by
  unfold dGone; split
  · exact ft_Remove h hne
  · rfl

theorem ft_Create {d : DiskT} (h : diskOk d = true) {m n : List UInt8} (hne : n ≠ m) : fileText (dCreate m d).1 n = fileText d n := by
  refine ft_files h (dk_Create h m) n fun t => ?_
  unfold actCreate
  split
  · exact Iff.rfl
  split
  · exact Iff.rfl
  split
  · exact Iff.rfl
  · constructor
    · rintro ⟨s, hs⟩; exact ⟨s, (mem_insB _ _ _).2 (.inr hs)⟩
    · rintro ⟨s, hs⟩
      rcases (mem_insB _ _ _).1 hs with e | hs
      · exact absurd (congrArg (·.1) e) hne
      · exact ⟨s, hs⟩

theorem ft_Append {d : DiskT} (h : diskOk d = true) {m n t0 : List UInt8} (hne : n ≠ m) : fileText (dAppend m t0 d).1 n = fileText d n := by
  refine ft_files h (dk_Append h m t0) n fun t => ?_
  unfold actAppend
  rcases fileIx_cases d.1 m with ⟨e, _⟩ | ⟨i, hi, e, hn⟩
  · rw [ix_none e]
  · rw [ix_some e]
    simp only
    split
    · exact Iff.rfl
    · rw [getD_lt hi]
      constructor
      · rintro ⟨s, hs⟩; exact ⟨s, (mem_set_ne (f := (d.1[i].1, d.1[i].2.1 ++ t0, d.1[i].2.2)) hi rfl (by rw [hn]; exact hne)).2 hs⟩
      · rintro ⟨s, hs⟩; exact ⟨s, (mem_set_ne (f := (d.1[i].1, d.1[i].2.1 ++ t0, d.1[i].2.2)) hi rfl (by rw [hn]; exact hne)).1 hs⟩

theorem ft_Sync {d : DiskT} (h : diskOk d = true) (m n : List UInt8) : fileText (dSync m d).1 n = fileText d n := by
  refine ft_files h (dk_Sync h m) n fun t => ?_
  unfold actSync
  rcases fileIx_cases d.1 m with ⟨e, _⟩ | ⟨i, hi, e, hn⟩
  · rw [ix_none e]
  · rw [ix_some e]
    simp only
    rw [getD_lt hi]
    by_cases hne : n = m
    · subst hne
      have hs := ((diskOk_iff d).1 h).2.2.2.2.2
      have uniq : ∀ t s, ((n, t, s) : FileT) ∈ d.1 → d.1[i] = (n, t, s) := fun t s hx => by
        obtain ⟨j, hj, ej⟩ := List.getElem_of_mem hx
        have : i = j := srt_inj hs hi hj (by rw [hn, ej])
        subst this; exact ej
      constructor
      · rintro ⟨s, hx⟩
        refine ⟨(d.1[i].2.1.length : Int), List.mem_iff_getElem.2 ⟨i, by simpa using hi, ?_⟩⟩
        rw [List.getElem_set_self, uniq t s hx]
      · rintro ⟨s, hx⟩
        rcases List.mem_or_eq_of_mem_set hx with hx | e
        · exact ⟨s, hx⟩
        · have e1 : t = d.1[i].2.1 := congrArg (·.2.1) e
          refine ⟨d.1[i].2.2, ?_⟩
          rw [e1, ← hn]; exact List.getElem_mem hi
    · constructor
      · rintro ⟨s, hs⟩; exact ⟨s, (mem_set_ne (f := (d.1[i].1, d.1[i].2.1, (d.1[i].2.1.length : Int))) hi rfl (by rw [hn]; exact hne)).2 hs⟩
      · rintro ⟨s, hs⟩; exact ⟨s, (mem_set_ne (f := (d.1[i].1, d.1[i].2.1, (d.1[i].2.1.length : Int))) hi rfl (by rw [hn]; exact hne)).1 hs⟩

theorem mem_dropF_ne {l : List FileT} {b : List UInt8} {x : FileT} (hx : x.1 ≠ b) : x ∈ dropF l b ↔ x ∈ l := by
  unfold dropF
  rcases fileIx_cases l b with ⟨e, _⟩ | ⟨i, hi, e, hn⟩
  · rw [ix_none e]
  · rw [ix_some e]; exact mem_remIx_ne hi (by rw [hn]; exact hx)

theorem ft_Rename {d : DiskT} (h : diskOk d = true) {a b n : List UInt8} (h1 : n ≠ a) (h2 : n ≠ b) : fileText (dRename a b d).1 n = fileText d n := by
  refine ft_files h (dk_Rename h a b) n fun t => ?_
  unfold actRename
  split
  · exact Iff.rfl
  rcases fileIx_cases d.1 a with ⟨e, _⟩ | ⟨i, hi, e, hn⟩
  · rw [ix_none e]
  · rw [ix_some e]
    simp only
    split
    · exact Iff.rfl
    · constructor
      · rintro ⟨s, hs⟩; exact ⟨s, (mem_insB _ _ _).2 (.inr ((mem_dropF_ne h2).2 ((mem_remIx_ne hi (by rw [hn]; exact h1)).2 hs)))⟩
      · rintro ⟨s, hs⟩
        rcases (mem_insB _ _ _).1 hs with e | hs
        · exact absurd (congrArg (·.1) e) h2
        · exact ⟨s, (mem_remIx_ne hi (by rw [hn]; exact h1)).1 ((mem_dropF_ne h2).1 hs)⟩

theorem ft_sstep {w : WorkT} {op : DiskT → DiskT × Int} {n : List UInt8} (ho : fileText (op w.1).1 n = fileText w.1 n) : fileText (sstep op w).1 n = fileText w.1 n := by
  unfold sstep; split
  · exact ho
  · rfl

theorem ft_sNew {w : WorkT} (h : diskOk w.1 = true) {m n : List UInt8} (hne : n ≠ m) : fileText (sNew m w).1 n = fileText w.1 n := by
  have h1 : diskOk (sstep (dGone m) w).1 = true := dk_sstep (op := dGone m) h fun k => dk_Gone k m
  unfold sNew
  rw [ft_sstep (op := dCreate m) (ft_Create h1 hne), ft_sstep (op := dGone m) (ft_Gone h hne)]

theorem ft_sFile {w : WorkT} (h : diskOk w.1 = true) {m n t : List UInt8} (hne : n ≠ m) : fileText (sFile m t w).1 n = fileText w.1 n := by
  have h2 : diskOk (sNew m w).1 = true := dk_sNew h m
  have h3 : diskOk (sstep (dAppend m t) (sNew m w)).1 = true := dk_sstep (op := dAppend m t) h2 fun k => dk_Append k m t
  show fileText (sstep (dSync m) (sstep (dAppend m t) (sNew m w))).1 n = _
  rw [ft_sstep (op := dSync m) (ft_Sync h3 m n), ft_sstep (op := dAppend m t) (ft_Append h2 hne), ft_sNew h hne]

abbrev tempN : List UInt8 := [116, 101, 109, 112]

abbrev liveN : List UInt8 := [108, 105, 118, 101]

theorem ft_sPut {w : WorkT} (h : diskOk w.1 = true) (v : LiveT) {n : List UInt8} (h1 : n ≠ tempN) (h2 : n ≠ liveN) : fileText (sPut v w).1 n = fileText w.1 n := by
  have h3 := dk_sFile h tempN (showLive v)
  unfold sPut
  rw [ft_sstep (op := dRename tempN liveN) (ft_Rename h3 h1 h2), ft_sFile h h1]

theorem ft_sDrop {n : List UInt8} : ∀ (names : List (List UInt8)) {w : WorkT}, diskOk w.1 = true → (∀ m ∈ names, n ≠ m) → fileText (sDrop names w).1 n = fileText w.1 n
  | [], w, _, _ => rfl
  | m :: l, w, h, hne => by
    have h1 : diskOk (sstep (dGone m) w).1 = true := dk_sstep (op := dGone m) h fun k => dk_Gone k m
    show fileText (sDrop l (sstep (dGone m) w)).1 n = _
    rw [ft_sDrop l h1 fun x hx => hne x (List.mem_cons_of_mem _ hx), ft_sstep (op := dGone m) (ft_Gone h (hne m List.mem_cons_self))]

theorem ft_cleanW {names : List (List UInt8)} {w : WorkT} {n : List UInt8} (h : diskOk w.1 = true) (hne : ∀ m ∈ names, n ≠ m) : fileText (cleanW names w).1 n = fileText w.1 n := by
  have := ft_sDrop (n := n) names (w := (w.1, 0)) h hne
  unfold cleanW; split
  · split
    · exact this
    · exact this
  · rfl

/-- What is created is empty. -/
theorem createTxt {d : DiskT} {n : List UInt8} (h : (dCreate n d).2 = 0) : fileText (dCreate n d).1 n = ([], true) := by
  obtain ⟨k, ha, hx⟩ := dstep_zero h
  have hk : diskOk (dCreate n d).1 = true := dk_Create k n
  have hx : (dCreate n d).1 = _ := hx
  unfold actCreate at ha hx
  split at ha
  · simp at ha
  rename_i c1
  rw [if_neg c1] at hx
  split at ha
  · simp at ha
  rename_i c2
  rw [if_neg c2] at hx
  split at ha
  · simp at ha
  rename_i c3
  rw [if_neg c3] at hx
  have hm : ((n, [], 0) : FileT) ∈ (dCreate n d).1.1 := by rw [hx]; exact (mem_insB _ _ _).2 (.inl rfl)
  exact fileText_mem hk hm

theorem digs_inj : ∀ (k a b : Nat), a < k → Lib.decDigits a = Lib.decDigits b → a = b
  | 0, a, b, h, _ => by omega
  | k + 1, a, b, h, e => by
    have last : ∀ n : Nat, (Lib.decDigits n).getLast? = some (UInt8.ofNat (48 + n % 10)) := fun n => by
      by_cases c : n < 10
      · rw [Lib.decDigits_one c, Nat.mod_eq_of_lt c]; rfl
      · have := digs_step (n := n) (by omega)
        unfold digs at this
        rw [if_neg (by omega), if_neg (by omega)] at this
        rw [this]; simp
    have hm : a % 10 = b % 10 := by
      have h1 := last a
      rw [e, last b] at h1
      have h2 : UInt8.ofNat (48 + b % 10) = UInt8.ofNat (48 + a % 10) := Option.some.inj h1
      have h3 := congrArg UInt8.toNat h2
      simp only [UInt8.toNat_ofNat'] at h3
      omega
    by_cases ca : a < 10
    · by_cases cb : b < 10
      · omega
      · exfalso
        have := digs_step (n := b) (by omega)
        unfold digs at this
        rw [if_neg (by omega), if_neg (by omega)] at this
        rw [this, Lib.decDigits_one ca] at e
        have hl := congrArg List.length e
        have h0 : 0 < (Lib.decDigits (b / 10)).length := by
          cases hd : Lib.decDigits (b / 10) with
          | nil => have := last (b / 10); rw [hd] at this; simp at this
          | cons x l => simp
        simp only [List.length_append, List.length_cons, List.length_nil] at hl
        omega
    · by_cases cb : b < 10
      · exfalso
        have := digs_step (n := a) (by omega)
        unfold digs at this
        rw [if_neg (by omega), if_neg (by omega)] at this
        rw [this, Lib.decDigits_one cb] at e
        have hl := congrArg List.length e
        have h0 : 0 < (Lib.decDigits (a / 10)).length := by
          cases hd : Lib.decDigits (a / 10) with
          | nil => have := last (a / 10); rw [hd] at this; simp at this
          | cons x l => simp
        simp only [List.length_append, List.length_cons, List.length_nil] at hl
        omega
      · have e1 := digs_step (n := a) (by omega)
        have e2 := digs_step (n := b) (by omega)
        unfold digs at e1 e2
        rw [if_neg (by omega), if_neg (by omega)] at e1 e2
        rw [e1, e2] at e
        have := (List.append_inj' e rfl).1
        have := digs_inj k (a / 10) (b / 10) (by omega) this
        omega

theorem segName_inj {i j : Int} (hi : 1 ≤ i ∧ i ≤ 100000) (hj : 1 ≤ j ∧ j ≤ 100000) (h : segName i = segName j) : i = j := by
  unfold segName nameN at h
  rw [if_pos hi, if_pos hj] at h
  have := digs_inj (i.toNat + 1) i.toNat j.toNat (by omega) (List.append_cancel_left h)
  omega

theorem segName_temp (i : Int) : segName i ≠ tempN := by
  unfold segName nameN
  split
  · intro h; have := congrArg List.head? h; simp at this
  · simp

theorem segName_live (i : Int) : segName i ≠ liveN := by
  unfold segName nameN
  split
  · intro h; have := congrArg List.head? h; simp at this
  · simp

/-- What a new segment does to the files. -/
theorem rotP_ft {s : StoreT} {d : DiskT} (h : diskOk d = true) : ((rotP s d).1.1.1 = s.1.1 ∧ ∀ n, fileText (rotP s d).2.1 n = fileText d n) ∨
    ((rotP s d).1.1.1 = s.1.1 + 1 ∧ s.1.1 < 100000 ∧ ∀ n, n ≠ segName s.1.1 → n ≠ tempN → n ≠ liveN → fileText (rotP s d).2.1 n = fileText d n) := by
  have hs := dk_Sync h (actN s)
  have hg := dk_Gone hs (segName s.1.1)
  have hc : diskOk (sstep (dCreate (segName s.1.1)) (dGone (segName s.1.1) (dSync (actN s) d).1)).1 = true := dk_sstep (op := dCreate _) hg fun k => dk_Create k _
  have f1 : ∀ n, fileText (dSync (actN s) d).1 n = fileText d n := fun n => ft_Sync h _ n
  have f2 : ∀ n, n ≠ segName s.1.1 → fileText (sstep (dCreate (segName s.1.1)) (dGone (segName s.1.1) (dSync (actN s) d).1)).1 n = fileText d n := fun n hn => by
    rw [ft_sstep (op := dCreate _) (ft_Create hg hn), ft_Gone hs hn, f1]
  unfold rotP
  split
  · exact .inl ⟨rfl, fun _ => rfl⟩
  rename_i c1
  simp only [not_or, Nat.not_le, Int.not_le] at c1
  split
  · exact .inl ⟨rfl, f1⟩
  simp only
  split
  · exact .inr ⟨rfl, c1.2, fun n h1 _ _ => f2 n h1⟩
  have hp := dk_sPut (w := ((sstep (dCreate (segName s.1.1)) (dGone (segName s.1.1) (dSync (actN s) d).1)).1, 0)) hc (s.1.1 + 1, s.1.2 ++ [s.1.1])
  have f3 : ∀ n, n ≠ segName s.1.1 → n ≠ tempN → n ≠ liveN → fileText (sPut (s.1.1 + 1, s.1.2 ++ [s.1.1]) ((sstep (dCreate (segName s.1.1)) (dGone (segName s.1.1) (dSync (actN s) d).1)).1, 0)).1 n = fileText d n := fun n h1 h2 h3 => by
    rw [ft_sPut (w := ((sstep (dCreate (segName s.1.1)) (dGone (segName s.1.1) (dSync (actN s) d).1)).1, 0)) hc _ h2 h3]
    exact f2 n h1
  split
  · refine .inr ⟨rfl, c1.2, fun n h1 h2 h3 => ?_⟩
    show fileText (cleanW _ _).1 n = _
    rw [ft_cleanW (w := toldW _) hp (fun m hm => by
      simp only [List.mem_cons, List.not_mem_nil, or_false] at hm
      rcases hm with rfl | rfl
      · exact h2
      · exact h1)]
    exact f3 n h1 h2 h3
  · exact .inr ⟨rfl, c1.2, f3⟩

theorem live_last {v : LiveT} (h : liveOk v = true) : 1 ≤ lastI v.2 ∧ lastI v.2 < v.1 ∧ lastI v.2 ≤ 100000 := by
  obtain ⟨k1, k2, k3, k4⟩ := (liveOk_iff v).1 h
  rw [w64_id (by omega) (by omega)] at k1
  have hm : lastI v.2 ∈ v.2 := by
    unfold lastI
    rw [getD_lt (show v.2.length - 1 < v.2.length by omega)]
    exact List.getElem_mem _
  have := idsOk_mem _ _ k1 _ hm
  omega

theorem live_ne {v : LiveT} (h : liveOk v = true) : v.2 ≠ [] := fun e => by
  have := ((liveOk_iff v).1 h).2.2.1
  rw [e] at this; simp at this

theorem entOk_congr {d d' : DiskT} {b : Int} {e : EntryT} (hf : fileText d' (segName e.2.1) = fileText d (segName e.2.1)) : entOk d' b e = entOk d b e := by
  unfold entOk; rw [hf]

theorem scan_nil : scan [] = ([], 0) := by
  have := scanAt_end (s := [])
  exact this

theorem segsOk_more {d d' : DiskT} {z : Int} {m : Int} (hm : fileText d' (segName m) = ([], true)) : ∀ (ids : List Int), (∀ id ∈ ids, fileText d' (segName id) = fileText d (segName id)) → segsOk d z ids = true → segsOk d' 0 (ids ++ [m]) = true
  | [], _, _ => by
    show (segOk d' 0 true m && true) = true
    unfold segOk
    rw [hm]
    simp only [scan_nil]
    simp
  | x :: l, hf, h => by
    unfold segsOk at h
    simp only [Bool.and_eq_true] at h
    have ih := segsOk_more hm l (fun id hi => hf id (List.mem_cons_of_mem _ hi)) h.2
    rw [List.cons_append]
    unfold segsOk
    rw [ih, Bool.and_true]
    have hx := h.1
    unfold segOk at hx ⊢
    rw [hf x List.mem_cons_self]
    simp only [Bool.and_eq_true] at hx ⊢
    refine ⟨hx.1, hx.2.1, ?_⟩
    have : (l ++ [m]).isEmpty = false := by cases l <;> rfl
    rw [this]; rfl

theorem rotP_new {s : StoreT} {d : DiskT} (h : diskOk d = true) (hc : (rotP s d).2.2 = 0) : (rotP s d).1 = ((s.1.1 + 1, s.1.2 ++ [s.1.1]), s.2.1, s.2.2.1, 0, s.2.2.2.2) ∧ fileText (rotP s d).2.1 (segName s.1.1) = ([], true) ∧ s.1.2.length < 60 ∧ s.1.1 < 100000 := by
  have hs := dk_Sync h (actN s)
  have hg := dk_Gone hs (segName s.1.1)
  have hd : diskOk (sstep (dCreate (segName s.1.1)) (dGone (segName s.1.1) (dSync (actN s) d).1)).1 = true := dk_sstep (op := dCreate _) hg fun k => dk_Create k _
  unfold rotP at hc ⊢
  split at hc
  · exact absurd hc (show ¬ (5 : Int) = 0 by decide)
  rename_i c1
  split at hc
  · rename_i c2; exact absurd ((told_zero _).1 hc) c2
  rename_i c2
  simp only at hc
  split at hc
  · rename_i c3; exact absurd ((told_zero _).1 hc) c3
  rename_i c3
  split at hc
  · rename_i c4
    exfalso
    revert hc
    unfold cleanW
    simp only
    split
    · split
      · simp
      · rename_i c5; exact c5
    · exact c4
  rename_i c4
  rw [if_neg c1, if_neg c2]
  simp only
  rw [if_neg c3, if_neg c4]
  simp only [not_or, Nat.not_le, Int.not_le] at c1
  refine ⟨rfl, ?_, c1.1, c1.2⟩
  have c3 : (sstep (dCreate (segName s.1.1)) (dGone (segName s.1.1) (dSync (actN s) d).1)).2 = 0 := by simpa using c3
  show fileText (sPut _ _).1 _ = _
  rw [ft_sPut (w := ((sstep (dCreate (segName s.1.1)) (dGone (segName s.1.1) (dSync (actN s) d).1)).1, 0)) hd _ (segName_temp _) (segName_live _)]
  show fileText (sstep (dCreate (segName s.1.1)) (dGone (segName s.1.1) (dSync (actN s) d).1)).1 _ = _
  generalize dGone (segName s.1.1) (dSync (actN s) d).1 = g at *
  obtain ⟨x, k⟩ := g
  by_cases hk : k = 0
  · subst hk
    rw [sstep_z] at c3 ⊢
    exact createTxt c3
  · rw [sstep_ne hk] at c3; exact absurd c3 hk

/-- The texts of the entries' segments, and of the listed ones, stay. -/
theorem rotP_seen {s : StoreT} {d : DiskT} (hk : storeOk s d = true) (hx : ∀ e ∈ s.2.1, e.2.1 ≠ s.1.1) : (∀ e ∈ s.2.1, fileText (rotP s d).2.1 (segName e.2.1) = fileText d (segName e.2.1)) ∧ ∀ id ∈ s.1.2, fileText (rotP s d).2.1 (segName id) = fileText d (segName id) := by
  obtain ⟨q1, q2, q3, q4, q5⟩ := storeOk_parts hk
  obtain ⟨k1, k2, k3, k4⟩ := (liveOk_iff s.1).1 q2
  rw [w64_id (by omega) (by omega)] at k1
  have key : ∀ i : Int, 1 ≤ i ∧ i ≤ 100000 → i ≠ s.1.1 → fileText (rotP s d).2.1 (segName i) = fileText d (segName i) := fun i hi hne => by
    rcases rotP_ft (s := s) q1 with ⟨_, e2⟩ | ⟨_, _, e2⟩
    · exact e2 _
    · exact e2 _ (fun hh => hne (segName_inj hi (by omega) hh)) (segName_temp i) (segName_live i)
  refine ⟨fun e he => key _ ?_ (hx e he), fun id hi => key _ ?_ ?_⟩
  · have := (dirOk_mem q3).2 e he
    unfold entryOk at this
    simp only [Bool.and_eq_true, decide_eq_true_eq] at this
    exact this.2.1
  · have := idsOk_mem _ _ k1 id hi; omega
  · have := idsOk_mem _ _ k1 id hi; omega

theorem rotP_right {s : StoreT} {d : DiskT} (hk : storeOk s d = true) (hx : ∀ e ∈ s.2.1, e.2.1 ≠ s.1.1) (hc : (rotP s d).2.2 = 0) : storeOk (rotP s d).1 (rotP s d).2.1 = true ∧ segN (rotP s d).2.1 ((rotP s d).1.1.2.take 60) = segN d (s.1.2.take 60) := by
  obtain ⟨q1, q2, q3, q4, q5⟩ := storeOk_parts hk
  obtain ⟨k1, k2, k3, k4⟩ := (liveOk_iff s.1).1 q2
  obtain ⟨r1, r2, r3, r4, r5, r6⟩ := rotP_ok q1 q2
  obtain ⟨f1, f2⟩ := rotP_seen hk hx
  obtain ⟨e1, e2, e3, e4⟩ := rotP_new q1 hc
  have hent := storeOk_ent hk
  constructor
  · unfold storeOk
    have h5 := segsOk_more (d := d) (z := s.2.2.2.1) e2 s.1.2 f2 q5
    rw [e1] at *
    simp only [Bool.and_eq_true, decide_eq_true_eq, List.all_eq_true]
    refine ⟨r1, liveOk_more q2 e3 e4, q3, q4, h5, fun e he => ?_⟩
    rw [entOk_congr (f1 e he)]
    exact hent e he
  · rw [e1]
    simp only
    have t1 : s.1.2.take 60 = s.1.2 := List.take_of_length_le (by omega)
    have t2 : (s.1.2 ++ [s.1.1]).take 60 = s.1.2 ++ [s.1.1] := List.take_of_length_le (by simp; omega)
    rw [t1, t2]
    unfold segN
    rw [sumN_snoc]
    simp only [e2, List.length_nil, Nat.add_zero]
    generalize s.1.2 = l at f2
    induction l with
    | nil => rfl
    | cons x l ih =>
      simp only [sumN]
      rw [f2 x List.mem_cons_self, ih fun id hi => f2 id (List.mem_cons_of_mem _ hi)]

theorem sameDir_self (l : List EntryT) (hl : l.length < 1000000000) : spec_SameDir.f l l = some true := by
  have key := all_loop (step := spec_SameDir.l0) l (fun _ => true) (fun n => (l, l, (n : Int))) () (by omega)
    (fun rec n h1 => by
      have hw := w64_succ (show n + 1 < 9223372036854775808 by omega)
      simp only [spec_SameDir.l0, Int.ofNat_lt, h1, decide_true, cond_true, inB_nat, rdA_nat, getD_lt h1, beq_self_eq_true, Bool.and_self, Bool.not_true, cond_false, hw, if_true])
    (fun rec => by simp [spec_SameDir.l0])
  have key : lp spec_SameDir.l0 (l, l, 0) = _ := key
  unfold spec_SameDir.f
  have hall : l.all (fun _ => true) = true := by simp
  rw [key, hall]
  simp only [bne_self_eq_false, cond_false, if_true, Option.bind_some, caseS_l]

theorem frame_eq {t : List UInt8} (h : t.length ≤ 200) : frame t = fix4 (crcT (varT (t.length : Int) ++ t)) ++ (varN t.length ++ t) ∧ (fix4 (crcT (varT (t.length : Int) ++ t))).length = 4 := by
  unfold frame
  rw [if_neg (by omega), varT_nat t.length (by omega)]
  exact ⟨rfl, fix4_len4 (crcT_range _)⟩

theorem unframe_back {t : List UInt8} (h : t.length ≤ 200) (r : List UInt8) : unframe (frame t ++ r) = (t, ((frame t).length : Int)) := by
  obtain ⟨e, h4⟩ := frame_eq h
  have hb := rvT_back 7 true t.length (t ++ r) (by omega) (by simp) (by omega)
  generalize hC : fix4 (crcT (varT (t.length : Int) ++ t)) = C at *
  have hl : (frame t).length = 4 + (varN t.length).length + t.length := by rw [e]; simp only [List.length_append, h4]; omega
  have e1 : (frame t ++ r).drop 4 = varN t.length ++ (t ++ r) := by
    rw [e, List.append_assoc, ← h4, List.drop_left, List.append_assoc]
  have e2 : (frame t ++ r).take (4 + (varN t.length).length + t.length) = frame t := by rw [← hl, List.take_left]
  have e3 : (frame t).drop (4 + (varN t.length).length) = t := by
    rw [e, show C ++ (varN t.length ++ t) = (C ++ varN t.length) ++ t by rw [List.append_assoc], show 4 + (varN t.length).length = (C ++ varN t.length).length by rw [List.length_append, h4], List.drop_left]
  unfold unframe
  rw [if_neg (by rw [List.length_append]; omega), e1, hb]
  simp only
  rw [if_neg (by rw [List.length_append]; omega), e2, e3, if_pos rfl, hl]

theorem unframe_some {s : List UInt8} (h : (unframe s).2 ≠ 0) : ∃ t r, s = frame t ++ r ∧ t.length ≤ 200 ∧ unframe s = (t, ((frame t).length : Int)) := by
  have key : ∃ t r, s = frame t ++ r ∧ t.length ≤ 200 := by
    unfold unframe at h
    split at h
    · exact absurd rfl h
    split at h
    · exact absurd rfl h
    rename_i n k hr
    split at h
    · exact absurd rfl h
    rename_i c
    split at h
    · rename_i c2
      refine ⟨_, s.drop (4 + k + n), by rw [c2, List.take_append_drop], ?_⟩
      rw [List.length_drop, List.length_take]; omega
    · exact absurd rfl h
  obtain ⟨t, r, e, hl⟩ := key
  exact ⟨t, r, e, hl, by rw [e]; exact unframe_back hl r⟩

theorem frame_pos {t : List UInt8} (h : t.length ≤ 200) : 5 ≤ (frame t).length := by
  obtain ⟨e, h4⟩ := frame_eq h
  have := (varN_len 6 t.length (by omega)).1
  rw [e]; simp only [List.length_append, h4]; omega

theorem isRec_inj {s : List UInt8} {r q : RecT} (h : isRec s r) (k : isRec s q) : r = q := by
  have a := impl_ReadRec_back h
  rw [impl_ReadRec_back k] at a
  simp only [Option.some.injEq, Prod.mk.injEq, and_true] at a
  exact a.symm

theorem readRec_back {r : RecT} (h : recOk r = true) : readRec (showRec r) = (r, true) := by
  rcases readRec_cases (showRec r) with ⟨_, e⟩ | ⟨q, e, hq⟩
  · exact absurd ⟨r, h, rfl⟩ e
  · rw [e, isRec_inj hq ⟨h, rfl⟩]

def fr (r : RecT) : List UInt8 := frame (showRec r)

def txt (rs : List RecT) : List UInt8 := (rs.map fr).flatten

theorem fr_len (r : RecT) : 5 ≤ (fr r).length ∧ (fr r).length ≤ 71 := by
  have h := showRec_len r
  refine ⟨frame_pos (by omega), ?_⟩
  obtain ⟨e, h4⟩ := frame_eq (t := showRec r) (by omega)
  have := (varN_len 0 (showRec r).length (by omega)).2
  unfold fr
  rw [e]; simp only [List.length_append, h4]; omega

theorem txt_cons (r : RecT) (rs : List RecT) : txt (r :: rs) = fr r ++ txt rs := rfl

theorem txt_snoc (rs : List RecT) (r : RecT) : txt (rs ++ [r]) = txt rs ++ fr r := by unfold txt; simp

theorem scanAt_txt : ∀ (rs : List RecT) (p : List UInt8), (∀ r ∈ rs, recOk r = true) → (scanAt (p ++ txt rs) p.length).2 = p.length + (txt rs).length
  | [], p, _ => by
    have : p ++ txt [] = p := by simp [txt]
    rw [this, scanAt_end]; simp [txt]
  | r :: rs, p, h => by
    have hs := showRec_len r
    have hb := unframe_back (t := showRec r) (by omega) (txt rs)
    have hd : (p ++ txt (r :: rs)).drop p.length = frame (showRec r) ++ txt rs := by rw [List.drop_left]; rfl
    have hl := fr_len r
    rw [scanAt_step (n := (fr r).length) (by rw [hd, hb]; rfl) hl.1 (by rw [txt_cons]; simp only [List.length_append]; omega) (by rw [hd, hb]; simp only; rw [readRec_back (h r List.mem_cons_self)])]
    have ih := scanAt_txt rs (p ++ fr r) (fun x hx => h x (List.mem_cons_of_mem _ hx))
    rw [List.append_assoc, List.length_append] at ih
    show (scanAt (p ++ (fr r ++ txt rs)) (p.length + (fr r).length)).2 = _
    rw [ih, txt_cons, List.length_append]; omega

theorem scan_txt {rs : List RecT} (h : ∀ r ∈ rs, recOk r = true) : (scan (txt rs)).2 = (txt rs).length := by
  have := scanAt_txt rs [] h
  simpa [scan] using this

theorem scanAt_whole : ∀ (k : Nat) (s : List UInt8) (a : Nat), a ≤ s.length → s.length - a = k → (scanAt s a).2 = s.length → ∃ rs : List RecT, (∀ r ∈ rs, recOk r = true) ∧ s.drop a = txt rs := by
  intro k
  induction k using Nat.strongRecOn with
  | ind k ih =>
    intro s a ha hk hw
    by_cases c : (unframe (s.drop a)).2 = 0 ∨ (readRec (unframe (s.drop a)).1).2 = false
    · rw [scanAt_stop ha c] at hw
      have hw : a = s.length := hw
      exact ⟨[], by simp, by rw [hw, List.drop_length]; rfl⟩
    · have c1 : (unframe (s.drop a)).2 ≠ 0 := fun e => c (.inl e)
      have hr : (readRec (unframe (s.drop a)).1).2 = true := by
        cases e : (readRec (unframe (s.drop a)).1).2 with
        | true => rfl
        | false => exact absurd (.inr e) c
      obtain ⟨t, r, e1, e2, e3⟩ := unframe_some c1
      have h5 := frame_pos e2
      have hlen : a + (frame t).length ≤ s.length := by
        have : (s.drop a).length = (frame t ++ r).length := by rw [← e1]
        rw [List.length_drop, List.length_append] at this; omega
      rw [scanAt_step (n := (frame t).length) (by rw [e3]) h5 hlen hr] at hw
      obtain ⟨rs, g1, g2⟩ := ih (s.length - (a + (frame t).length)) (by omega) s (a + (frame t).length) hlen rfl hw
      have hd : s.drop (a + (frame t).length) = r := by rw [← List.drop_drop, e1, List.drop_left]
      rw [e3] at hr
      rcases readRec_cases t with ⟨z, _⟩ | ⟨q, z, hq⟩
      · rw [z] at hr; simp at hr
      · refine ⟨q :: rs, ?_, ?_⟩
        · intro x hx
          rcases List.mem_cons.1 hx with rfl | hx
          · exact hq.1
          · exact g1 x hx
        · rw [e1, txt_cons, ← g2, hd]
          show _ = frame (showRec q) ++ r
          rw [hq.2]

/-- A text that is whole: frames of records, one behind another. -/
def whole (s : List UInt8) : Prop := (scan s).2 = s.length

theorem whole_iff (s : List UInt8) : whole s ↔ ∃ rs : List RecT, (∀ r ∈ rs, recOk r = true) ∧ s = txt rs := by
  constructor
  · intro h
    obtain ⟨rs, h1, h2⟩ := scanAt_whole s.length s 0 (Nat.zero_le _) rfl h
    exact ⟨rs, h1, by simpa using h2⟩
  · rintro ⟨rs, h1, rfl⟩
    exact scan_txt h1

theorem whole_nil : whole [] := (whole_iff []).2 ⟨[], by simp, rfl⟩

theorem whole_snoc {s : List UInt8} {r : RecT} (h : whole s) (hr : recOk r = true) : whole (s ++ fr r) := by
  obtain ⟨rs, h1, rfl⟩ := (whole_iff s).1 h
  refine (whole_iff _).2 ⟨rs ++ [r], ?_, (txt_snoc rs r).symm⟩
  intro x hx
  rcases List.mem_append.1 hx with hx | hx
  · exact h1 x hx
  · rw [List.mem_singleton.1 hx]; exact hr

theorem recAt_more {s : List UInt8} {a n : Int} (t : List UInt8) (h : (recAt s a n).2 = true) : recAt (s ++ t) a n = recAt s a n := by
  unfold recAt at h ⊢
  split at h
  · rename_i c
    rw [if_pos c, if_pos (show 0 ≤ a ∧ a ≤ ((s ++ t).length : Int) ∧ 1 ≤ n ∧ n ≤ ((s ++ t).length : Int) - a by rw [List.length_append]; omega)]
    rw [show (s ++ t).take (a + n).toNat = s.take (a + n).toNat from List.take_append_of_le_length (by omega)]
  · simp at h

theorem recAt_new (s : List UInt8) {r : RecT} (h : recOk r = true) : recAt (s ++ fr r) (s.length : Int) ((fr r).length : Int) = (r, true) := by
  have hl := fr_len r
  have hs := showRec_len r
  unfold recAt
  rw [if_pos (by rw [List.length_append]; omega)]
  have e1 : ((s.length : Int) + ((fr r).length : Int)).toNat = (s ++ fr r).length := by rw [List.length_append]; omega
  rw [e1, List.take_length, Int.toNat_natCast, List.drop_left]
  have hb := unframe_back (t := showRec r) (by omega) []
  rw [List.append_nil] at hb
  rw [show unframe (fr r) = _ from hb]
  show (if ((fr r).length : Int) = ((fr r).length : Int) then readRec (showRec r) else _) = _
  rw [if_pos rfl]
  exact readRec_back h

theorem lastI_one (x : Int) : lastI [x] = x := rfl

theorem lastI_cons (x y : Int) (l : List Int) : lastI (x :: y :: l) = lastI (y :: l) := by
  unfold lastI
  simp only [List.length_cons, Nat.add_sub_cancel]
  rfl

theorem lastI_mem : ∀ {l : List Int}, l ≠ [] → lastI l ∈ l
  | [], h => absurd rfl h
  | [x], _ => by simp [lastI_one]
  | x :: y :: l, _ => by rw [lastI_cons]; exact List.mem_cons_of_mem _ (lastI_mem (by simp))

theorem segsOk_iff {d : DiskT} {z : Int} : ∀ (ids : List Int), segsOk d z ids = true ↔ (∀ id ∈ ids, (fileText d (segName id)).2 = true ∧ whole (fileText d (segName id)).1) ∧ (ids ≠ [] → z = ((fileText d (segName (lastI ids))).1.length : Int))
  | [] => by simp [segsOk]
  | [x] => by
    unfold segsOk segOk segsOk whole
    simp only [List.isEmpty_nil, Bool.not_true, Bool.false_or, Bool.and_true, Bool.and_eq_true, decide_eq_true_eq, List.mem_singleton, forall_eq, lastI_one]
    constructor
    · rintro ⟨h1, h2, h3⟩; exact ⟨⟨h1, h2⟩, fun _ => h3⟩
    · rintro ⟨⟨h1, h2⟩, h3⟩; exact ⟨h1, h2, h3 (by simp)⟩
  | x :: y :: l => by
    have ih := segsOk_iff (d := d) (z := z) (y :: l)
    unfold segsOk segOk
    rw [Bool.and_eq_true, ih]
    simp only [List.isEmpty_cons, Bool.not_false, Bool.true_or, Bool.and_true, Bool.and_eq_true, decide_eq_true_eq, lastI_cons]
    constructor
    · rintro ⟨⟨h1, h2⟩, h3, h4⟩
      refine ⟨fun id hid => ?_, fun _ => h4 (by simp)⟩
      rcases List.mem_cons.1 hid with rfl | hid
      · exact ⟨h1, h2⟩
      · exact h3 id hid
    · rintro ⟨h3, h4⟩
      exact ⟨h3 x List.mem_cons_self, fun id hid => h3 id (List.mem_cons_of_mem _ hid), fun _ => h4 (by simp)⟩

/-- What stands where an entry points to. -/
noncomputable def entAt (d : DiskT) (e : EntryT) : RecT × Bool := recAt (fileText d (segName e.2.1)).1 e.2.2.1 e.2.2.2.1

theorem entOk_iff {d : DiskT} {b : Int} {e : EntryT} : entOk d b e = true ↔ (entAt d e).2 = true ∧ ((entAt d e).1.1 = 1 ∨ (entAt d e).1.1 = 4) ∧ (entAt d e).1.2.2.1 = e.1 ∧ (entAt d e).1.2.1 = e.2.2.2.2 ∧ e.2.2.2.2 < b := by
  unfold entOk entAt
  simp only [Bool.and_eq_true, Bool.or_eq_true, beq_iff_eq, Bool.not_eq_true', decide_eq_false_iff_not, ge_iff_le, Int.not_le]

/-- What entries of segments that there were point to, stays. -/
def Keeps (m : Int) (d d' : DiskT) : Prop := ∀ e : EntryT, 1 ≤ e.2.1 → e.2.1 < m → (entAt d e).2 = true → entAt d' e = entAt d e

theorem Keeps.trans {m m' : Int} {d d' d'' : DiskT} (h : Keeps m d d') (h' : Keeps m' d' d'') (hm : m ≤ m') : Keeps m d d'' := fun e h1 h2 h3 => by
  have k := h e h1 h2 h3
  rw [h' e h1 (by omega) (by rw [k]; exact h3), k]

def EntLt (s : StoreT) : Prop := ∀ e ∈ s.2.1, e.2.1 < s.1.1

theorem storeOk_iff {s : StoreT} {d : DiskT} : storeOk s d = true ↔ diskOk d = true ∧ liveOk s.1 = true ∧ dirOk s.2.1 = true ∧ (1 ≤ s.2.2.1 ∧ s.2.2.1 ≤ 1000001) ∧ segsOk d s.2.2.2.1 s.1.2 = true ∧ ∀ e ∈ s.2.1, entOk d s.2.2.1 e = true := by
  unfold storeOk
  simp only [Bool.and_eq_true, decide_eq_true_eq, List.all_eq_true]

theorem dir_seg {l : List EntryT} (h : dirOk l = true) {e : EntryT} (he : e ∈ l) : 1 ≤ e.2.1 ∧ e.2.1 ≤ 100000 := by
  have := (dirOk_mem h).2 e he
  unfold entryOk at this
  simp only [Bool.and_eq_true, decide_eq_true_eq] at this
  exact this.2.1

/-- The entries hold on, where what they point to stays. -/
theorem ents_keep {s : StoreT} {d d' : DiskT} {m b' : Int} (h : storeOk s d = true) (hk : Keeps m d d') (hm : ∀ e ∈ s.2.1, e.2.1 < m) (hb : s.2.2.1 ≤ b') : ∀ e ∈ s.2.1, entOk d' b' e = true := fun e he => by
  obtain ⟨q1, q2, q3, q4, q5, q6⟩ := storeOk_iff.1 h
  have k := entOk_iff.1 (q6 e he)
  have := hk e (dir_seg q3 he).1 (hm e he) k.1
  rw [entOk_iff, this]
  exact ⟨k.1, k.2.1, k.2.2.1, k.2.2.2.1, by omega⟩

theorem rotP_keeps {s : StoreT} {d : DiskT} (hk : diskOk d = true) (hm : s.1.1 ≤ 100000) : Keeps s.1.1 d (rotP s d).2.1 := fun e h1 h2 h3 => by
  unfold entAt
  rcases rotP_ft (s := s) hk with ⟨_, e2⟩ | ⟨_, _, e2⟩
  · rw [e2]
  · rw [e2 _ (fun hh => by have := segName_inj (by omega) (by omega) hh; omega) (segName_temp _) (segName_live _)]

/-- One record more in the last segment. -/
theorem app_right {s : StoreT} {d : DiskT} {r : RecT} (h : storeOk s d = true) (hr : recOk r = true) (hc : (dAppend (actN s) (fr r) d).2 = 0) :
    storeOk (s.1, s.2.1, s.2.2.1, s.2.2.2.1 + ((fr r).length : Int), s.2.2.2.2) (dAppend (actN s) (fr r) d).1 = true ∧ Keeps 100001 d (dAppend (actN s) (fr r) d).1 ∧
    ∀ k b, entAt (dAppend (actN s) (fr r) d).1 (k, lastI s.1.2, s.2.2.2.1, ((fr r).length : Int), b) = (r, true) := by
  obtain ⟨q1, q2, q3, q4, q5, q6⟩ := storeOk_iff.1 h
  obtain ⟨k1, k2, k3, k4⟩ := (liveOk_iff s.1).1 q2
  rw [w64_id (by omega) (by omega)] at k1
  obtain ⟨g1, g2⟩ := (segsOk_iff _).1 q5
  have hne : s.1.2 ≠ [] := live_ne q2
  have g2 := g2 hne
  obtain ⟨a1, a2⟩ := appendTxt hc
  have hl := live_last q2
  have a2 : fileText (dAppend (actN s) (fr r) d).1 (segName (lastI s.1.2)) = ((fileText d (segName (lastI s.1.2))).1 ++ fr r, true) := a2
  have hoth : ∀ id, 1 ≤ id ∧ id ≤ 100000 → id ≠ lastI s.1.2 → fileText (dAppend (actN s) (fr r) d).1 (segName id) = fileText d (segName id) := fun id h1 h2 =>
    ft_Append q1 (fun hh => h2 (segName_inj h1 ⟨hl.1, hl.2.2⟩ hh))
  have hkeep : Keeps 100001 d (dAppend (actN s) (fr r) d).1 := fun e h1 h2 h3 => by
    unfold entAt at h3 ⊢
    by_cases c : e.2.1 = lastI s.1.2
    · rw [c] at h3 ⊢; rw [a2]; exact recAt_more _ h3
    · rw [hoth _ ⟨h1, by omega⟩ c]
  have hents : ∀ e ∈ s.2.1, entOk (dAppend (actN s) (fr r) d).1 s.2.2.1 e = true := ents_keep h hkeep (fun e he => by have := dir_seg q3 he; omega) (Int.le_refl _)
  refine ⟨storeOk_iff.2 ⟨dk_Append q1 _ _, q2, q3, q4, ?_, hents⟩, hkeep, fun k b => ?_⟩
  · refine (segsOk_iff _).2 ⟨fun id hid => ?_, fun _ => ?_⟩
    · have hm := idsOk_mem _ _ k1 id hid
      by_cases c : id = lastI s.1.2
      · rw [c, a2]; exact ⟨rfl, whole_snoc (g1 _ (lastI_mem hne)).2 hr⟩
      · rw [hoth id (by omega) c]; exact g1 id hid
    · show s.2.2.2.1 + _ = _
      rw [a2, g2]; simp
  · unfold entAt
    show recAt (fileText _ (segName (lastI s.1.2))).1 s.2.2.2.1 _ = _
    rw [a2, g2]
    exact recAt_new _ hr

/-- What a written record's entry says. -/
structure NewOk (d : DiskT) (m : Int) (r : RecT) (e : EntryT) : Prop where
  key : e.1 = r.2.2.1
  at_ : entAt d e = (r, true)
  seg : 1 ≤ e.2.1 ∧ e.2.1 < m ∧ e.2.1 ≤ 100000
  off : 0 ≤ e.2.2.1
  len : 1 ≤ e.2.2.2.1 ∧ e.2.2.2.1 ≤ 210
  bat : e.2.2.2.2 = r.2.1

theorem NewOk.keep {d d' : DiskT} {m m' : Int} {r : RecT} {e : EntryT} (h : NewOk d m r e) (hk : Keeps m d d') (hm : m ≤ m') : NewOk d' m' r e :=
  ⟨h.key, by rw [hk e h.seg.1 h.seg.2.1 (by rw [h.at_]), h.at_], ⟨h.seg.1, by have := h.seg.2.1; omega, h.seg.2.2⟩, h.off, h.len, h.bat⟩

structure AddOk (s : StoreT) (d : DiskT) (s' : StoreT) (d' : DiskT) : Prop where
  ok : storeOk s' d' = true
  dir : s'.2.1 = s.2.1
  bat : s'.2.2.1 = s.2.2.1
  nxt : s.1.1 ≤ s'.1.1
  kp : Keeps s.1.1 d d'

theorem AddOk.lt {s : StoreT} {d : DiskT} {s' : StoreT} {d' : DiskT} (h : AddOk s d s' d') (hl : EntLt s) : EntLt s' := fun e he => by
  rw [h.dir] at he
  have := hl e he
  have := h.nxt
  omega

theorem AddOk.trans {s : StoreT} {d : DiskT} {s' : StoreT} {d' : DiskT} {s'' : StoreT} {d'' : DiskT} (h : AddOk s d s' d') (k : AddOk s' d' s'' d'') : AddOk s d s'' d'' :=
  ⟨k.ok, by rw [k.dir, h.dir], by rw [k.bat, h.bat], by have := h.nxt; have := k.nxt; omega, h.kp.trans k.kp h.nxt⟩

theorem addR_right {s : StoreT} {d : DiskT} (t : List UInt8) (h : storeOk s d = true) (hl : EntLt s) (hc : (addR s d t).2.2 = 0) : AddOk s d (addR s d t).1 (addR s d t).2.1 := by
  obtain ⟨q1, q2, q3, q4, q5, q6⟩ := storeOk_iff.1 h
  have k := (liveOk_iff s.1).1 q2
  unfold addR at hc ⊢
  split
  · rename_i c
    rw [if_pos c] at hc
    obtain ⟨r1, r2, r3, r4, r5, r6⟩ := rotP_ok q1 q2
    have hr := rotP_right h (fun e he => by have := hl e he; omega) hc
    have hn := rotP_new q1 hc
    exact ⟨hr.1, r3, r4, by rw [hn.1]; show s.1.1 ≤ s.1.1 + 1; omega, rotP_keeps q1 k.2.1.2⟩
  · exact ⟨h, rfl, rfl, Int.le_refl _, fun e _ _ _ => rfl⟩

theorem addP_right {s : StoreT} {d : DiskT} {r : RecT} (h : storeOk s d = true) (hl : EntLt s) (hr : recOk r = true) (hc : (addP s d r).2.2.1 = 0) :
    AddOk s d (addP s d r).1 (addP s d r).2.1 ∧ NewOk (addP s d r).2.1 (addP s d r).1.1.1 r (addP s d r).2.2.2 := by
  have hR := addR_right (frame (showRec r)) h hl
  have hf := fr_len r
  unfold addP at hc ⊢
  generalize addR s d (frame (showRec r)) = R at *
  simp only at hc ⊢
  by_cases c : R.2.2 = 0
  rotate_left
  · rw [if_pos c] at hc; exact absurd hc c
  rw [if_neg (by simpa using c)] at hc ⊢
  have hR := hR c
  have hA := app_right hR.ok hr
  by_cases c2 : (dAppend (actN R.1) (frame (showRec r)) R.2.1).2 = 0
  rotate_left
  · rw [if_pos c2] at hc; exact absurd ((told_zero _).1 hc) c2
  rw [if_neg (by simpa using c2)]
  obtain ⟨a1, a2, a3⟩ := hA c2
  obtain ⟨q1, q2, q3, q4, q5, q6⟩ := storeOk_iff.1 hR.ok
  have k := (liveOk_iff _).1 q2
  have hll := live_last q2
  have hg := storeOk_good hR.ok
  exact ⟨hR.trans ⟨a1, rfl, rfl, Int.le_refl _, fun e h1 h2 h3 => a2 e h1 (by omega) h3⟩, ⟨rfl, a3 _ _, ⟨hll.1, hll.2.1, hll.2.2⟩, hg.s0, by show 1 ≤ ((fr r).length : Int) ∧ ((fr r).length : Int) ≤ 210; omega, rfl⟩⟩

theorem commitG_right : ∀ (rs : List RecT) (s : StoreT) (d : DiskT), storeOk s d = true → EntLt s → (∀ r ∈ rs, recOk r = true) → (commitG rs s d).2.2.1 = 0 →
    AddOk s d (commitG rs s d).1 (commitG rs s d).2.1 ∧ (commitG rs s d).2.2.2.length = rs.length ∧ ∀ p ∈ rs.zip (commitG rs s d).2.2.2, NewOk (commitG rs s d).2.1 (commitG rs s d).1.1.1 p.1 p.2
  | [], s, d, h, hl, _, _ => ⟨⟨h, rfl, rfl, Int.le_refl _, fun _ _ _ _ => rfl⟩, rfl, fun p hp => by simp at hp⟩
  | r :: rs, s, d, h, hl, hr, hc => by
    have hA := addP_right h hl (hr r List.mem_cons_self)
    unfold commitG at hc ⊢
    by_cases c : (addP s d r).2.2.1 = 0
    rotate_left
    · rw [if_pos c] at hc; exact absurd hc c
    rw [if_neg (by simpa using c)] at hc ⊢
    obtain ⟨a1, a2⟩ := hA c
    obtain ⟨b1, b2, b3⟩ := commitG_right rs _ _ a1.ok (a1.lt hl) (fun x hx => hr x (List.mem_cons_of_mem _ hx)) hc
    refine ⟨a1.trans b1, by simp [b2], fun p hp => ?_⟩
    simp only [List.zip_cons_cons] at hp
    rcases List.mem_cons.1 hp with rfl | hp
    · exact a2.keep b1.kp b1.nxt
    · exact b3 p hp

def mapG {α β : Type} (g : α → β) (l : List (List UInt8 × α)) : List (List UInt8 × β) := l.map fun x => (x.1, g x.2)

theorem mapG_dropK {α β : Type} (g : α → β) (k : List UInt8) : ∀ l : List (List UInt8 × α), mapG g (dropK l k) = dropK (mapG g l) k
  | [] => rfl
  | x :: l => by
    have ih := mapG_dropK g k l
    unfold mapG dropK at *
    simp only [List.filter_cons, List.map_cons]
    by_cases c : x.1 = k
    · simp only [c, beq_self_eq_true, Bool.not_true, Bool.false_eq_true, if_false]; exact ih
    · have : (x.1 == k) = false := by simpa using c
      simp only [this, Bool.not_false, if_true, List.map_cons]; rw [ih]

theorem mapG_insB {α β : Type} (g : α → β) (p : List UInt8 × α) : ∀ l : List (List UInt8 × α), mapG g (insB l p) = insB (mapG g l) (p.1, g p.2)
  | [] => rfl
  | x :: l => by
    have ih := mapG_insB g p l
    show mapG g (insB (x :: l) p) = insB ((x.1, g x.2) :: mapG g l) (p.1, g p.2)
    rw [insB_cons, insB_cons]
    simp only
    split
    · show (x.1, g x.2) :: mapG g (insB l p) = _
      rw [ih]
    · rfl

/-- The directory's fold, seen through a map. -/
theorem mapG_dirW {β : Type} (g : Int × Int × Int × Int → β) (v : PutT → β) : ∀ (l : List (PutT × EntryT)) (dir : List EntryT), (∀ p ∈ l, p.2.1 = p.1.1 ∧ (p.1.2.1 = false → g p.2.2 = v p.1)) →
    mapG g (dirW dir l) = (l.map (·.1)).foldl (fun a p => if p.2.1 = true then dropK a p.1 else insB (dropK a p.1) (p.1, v p)) (mapG g dir)
  | [], dir, _ => rfl
  | p :: l, dir, h => by
    have ih := mapG_dirW g v l (dirStep dir p) (fun q hq => h q (List.mem_cons_of_mem _ hq))
    obtain ⟨h1, h2⟩ := h p List.mem_cons_self
    show mapG g (dirW (dirStep dir p) l) = (l.map (·.1)).foldl _ _
    rw [ih]
    congr 1
    show mapG g (dirStep dir p) = if p.1.2.1 = true then dropK (mapG g dir) p.1.1 else insB (dropK (mapG g dir) p.1.1) (p.1.1, v p.1)
    unfold dirStep
    by_cases c : p.1.2.1 = true
    · rw [if_pos c, if_pos c, mapG_dropK]
    · rw [if_neg c, if_neg c, mapG_insB, mapG_dropK, h1, h2 (by simpa using c)]

theorem keys_len (dir : List EntryT) (l : List (PutT × EntryT)) (h : ∀ p ∈ l, p.2.1 = p.1.1) : (dirW dir l).length = (dirW dir ((l.map (·.1)).zip ((l.map (·.1)).map bareE))).length := by
  have e1 := mapG_dirW (fun _ => ()) (fun _ => ()) l dir (fun p hp => ⟨h p hp, fun _ => rfl⟩)
  have e2 := mapG_dirW (fun _ => ()) (fun _ => ()) ((l.map (·.1)).zip ((l.map (·.1)).map bareE)) dir (fun p hp => ⟨by
    generalize l.map (·.1) = m at hp
    induction m with
    | nil => simp at hp
    | cons x m ih =>
      simp only [List.map_cons, List.zip_cons_cons] at hp
      rcases List.mem_cons.1 hp with rfl | hp
      · rfl
      · exact ih hp, fun _ => rfl⟩)
  have e3 : ((l.map (·.1)).zip ((l.map (·.1)).map bareE)).map (·.1) = l.map (·.1) := List.map_fst_zip (by simp)
  rw [e3] at e2
  have := congrArg List.length (e1.trans e2.symm)
  simpa [mapG] using this

theorem mem_dirW2 : ∀ (l : List (PutT × EntryT)) (dir : List EntryT) (x : EntryT), x ∈ dirW dir l → x ∈ dir ∨ ∃ p ∈ l, x = p.2 ∧ p.1.2.1 = false
  | [], dir, x, h => .inl h
  | p :: l, dir, x, h => by
    rcases mem_dirW2 l (dirStep dir p) x h with h | ⟨q, hq, e⟩
    · unfold dirStep at h
      split at h
      · exact .inl ((mem_dropK _ _ _).1 h).1
      · rename_i c
        rcases (mem_insB _ _ _).1 h with e | h
        · exact .inr ⟨p, List.mem_cons_self, e, by simpa using c⟩
        · exact .inl ((mem_dropK _ _ _).1 h).1
    · exact .inr ⟨q, List.mem_cons_of_mem _ hq, e⟩

theorem srt_dirW : ∀ (l : List (PutT × EntryT)) {dir : List EntryT}, srt dir → srt (dirW dir l)
  | [], _, h => h
  | p :: l, dir, h => by
    refine srt_dirW l (dir := dirStep dir p) ?_
    unfold dirStep
    split
    · exact srt_dropK h _
    · exact srt_insB _ _ (srt_dropK h _) (fun x hx => ((mem_dropK _ _ _).1 hx).2)

theorem riseE_of : ∀ (l : List EntryT) (p : Option (List UInt8)), srt l → (∀ e ∈ l, entryOk e = true) → (∀ q, p = some q → ∀ x ∈ l, Op.bytesLess q x.1 = true) → riseE p l = true
  | [], _, _, _, _ => rfl
  | e :: l, p, h, ho, hp => by
    have h2 := List.pairwise_cons.1 h
    have ih := riseE_of l (some e.1) h2.2 (fun x hx => ho x (List.mem_cons_of_mem _ hx)) (fun q hq x hx => by
      have hq : e.1 = q := by simpa using hq
      rw [← hq]; exact h2.1 x hx)
    unfold riseE
    rw [ho e List.mem_cons_self, ih]
    cases p with
    | none => rfl
    | some q => simp [hp q rfl e List.mem_cons_self]

theorem dirOk_of {l : List EntryT} (h : srt l) (ho : ∀ e ∈ l, entryOk e = true) (hl : l.length ≤ 20) : dirOk l = true := by
  unfold dirOk
  rw [riseE_of l none h ho (fun q hq => by simp at hq)]
  simpa using hl

/-- What an entry's pair has beside the key. -/
noncomputable def valAt (d : DiskT) (x : Int × Int × Int × Int) : List UInt8 × Int :=
  ((recAt (fileText d (segName x.1)).1 x.2.1 x.2.2.1).1.2.2.2.1, (recAt (fileText d (segName x.1)).1 x.2.1 x.2.2.1).1.2.1)

theorem dump_map {s : StoreT} {d : DiskT} (h : storeOk s d = true) : dumpP s d = (mapG (valAt d) s.2.1, 0) := by
  rw [dumpP_ok h]
  congr 1
  unfold mapG
  refine List.map_congr_left fun e he => ?_
  obtain ⟨q1, q2, q3, q4, q5, q6⟩ := storeOk_iff.1 h
  have k := entOk_iff.1 (q6 e he)
  unfold entAt at k
  unfold getP
  rw [dirGet_mem (dirOk_srt q3) he]
  simp only [Bool.true_eq_false, if_false]
  rw [if_pos ⟨k.1, k.2.1, k.2.2.1⟩]
  rfl

theorem dump_keep {s : StoreT} {d d' : DiskT} {m : Int} (h : storeOk s d = true) (hk : Keeps m d d') (hm : ∀ e ∈ s.2.1, e.2.1 < m) : mapG (valAt d') s.2.1 = mapG (valAt d) s.2.1 := by
  unfold mapG
  refine List.map_congr_left fun e he => ?_
  obtain ⟨q1, q2, q3, q4, q5, q6⟩ := storeOk_iff.1 h
  have k := entOk_iff.1 (q6 e he)
  have := hk e (dir_seg q3 he).1 (hm e he) k.1
  unfold entAt at this
  unfold valAt
  rw [this]

theorem recOf_ok {b : Int} {p : PutT} (hb : 1 ≤ b ∧ b ≤ 1000000) (hp : putOk p = true) : recOk (recOf b p) = true := by
  unfold putOk at hp
  simp only [Bool.and_eq_true, decide_eq_true_eq, Bool.or_eq_true, Bool.not_eq_true', beq_iff_eq] at hp
  obtain ⟨h1, h2, h3⟩ := hp
  have hb0 : (b == 0) = false := by
    have : ¬ b = 0 := by omega
    simpa using this
  unfold recOf
  split
  · rename_i c
    unfold recOk
    simp [h1, hb0]; omega
  · unfold recOk
    simp [h1, h2, hb0]; omega

theorem seal_ok {b c z : Int} (hb : 1 ≤ b ∧ b ≤ 1000000) (hc : 0 ≤ c ∧ c ≤ 8) (hz : 0 ≤ z ∧ z ≤ 4294967295) : recOk (3, b, [], [], c, z) = true := by
  have hb0 : (b == 0) = false := by
    have : ¬ b = 0 := by omega
    simpa using this
  unfold recOk
  simp [hb0]; omega

theorem recsOf_ok {b : Int} {l : List PutT} (hb : 1 ≤ b ∧ b ≤ 1000000) (hl : putsOk l = true) : ∀ r ∈ recsOf b l, recOk r = true := fun r hr => by
  unfold putsOk at hl
  simp only [Bool.and_eq_true, decide_eq_true_eq, List.all_eq_true] at hl
  unfold recsOf at hr
  rcases List.mem_append.1 hr with hr | hr
  · obtain ⟨p, hp, rfl⟩ := List.mem_map.1 hr
    exact recOf_ok hb (hl.2 p hp)
  · rw [List.mem_singleton.1 hr]
    exact seal_ok hb (by have := hl.1; omega) (crcT_range _)

theorem zip_recs {b : Int} : ∀ (l : List PutT) (es : List EntryT) (x : List RecT) (P : RecT → EntryT → Prop), (∀ p ∈ (l.map (recOf b) ++ x).zip es, P p.1 p.2) → ∀ p ∈ l.zip es, P (recOf b p.1) p.2
  | [], es, x, P, _ => fun p hp => by simp at hp
  | a :: l, [], x, P, _ => fun p hp => by simp at hp
  | a :: l, e :: es, x, P, h => fun p hp => by
    simp only [List.map_cons, List.cons_append, List.zip_cons_cons] at h
    rcases List.mem_cons.1 hp with rfl | hp
    · exact h _ List.mem_cons_self
    · exact zip_recs l es x P (fun q hq => h q (List.mem_cons_of_mem _ hq)) p hp

theorem commitP_right {s : StoreT} {d : DiskT} {l : List PutT} (h : storeOk s d = true) (hl : EntLt s) (hp : putsOk l = true) (hb : s.2.2.1 ≤ 1000000) (hk : keysP s.2.1 l ≤ 20) (hc : (commitP s d l).2.2 = 0) :
    storeOk (commitP s d l).1 (commitP s d l).2.1 = true ∧ EntLt (commitP s d l).1 ∧ (dumpP (commitP s d l).1 (commitP s d l).2.1).1 = foldP (dumpP s d).1 l s.2.2.1 ∧ (commitP s d l).1.2.2.1 = s.2.2.1 + 1 ∧ (commitP s d l).1.2.1.length = keysP s.2.1 l := by
  obtain ⟨q1, q2, q3, q4, q5, q6⟩ := storeOk_iff.1 h
  have hents : ∀ e ∈ s.2.1, entOk d (s.2.2.1 + 1) e = true := ents_keep (m := s.1.1) h (fun e _ _ _ => rfl) hl (by omega)
  have h0 : storeOk (s.1, s.2.1, s.2.2.1 + 1, s.2.2.2) d = true := storeOk_iff.2 ⟨q1, q2, q3, by show 1 ≤ s.2.2.1 + 1 ∧ s.2.2.1 + 1 ≤ 1000001; omega, q5, hents⟩
  have hl0 : EntLt (s.1, s.2.1, s.2.2.1 + 1, s.2.2.2) := hl
  have hG := commitG_right (recsOf s.2.2.1 l) _ d h0 hl0 (recsOf_ok ⟨q4.1, hb⟩ hp)
  have hnum := recsOf_len s.2.2.1 l
  unfold commitP at hc ⊢
  generalize commitG (recsOf s.2.2.1 l) (s.1, s.2.1, s.2.2.1 + 1, s.2.2.2) d = g at *
  obtain ⟨S, D, gc, es⟩ := g
  simp only at hc hG ⊢
  by_cases c : gc = 0
  rotate_left
  · rw [if_pos c] at hc; exact absurd hc c
  rw [if_neg (by simpa using c)] at hc ⊢
  obtain ⟨g1, g2, g3⟩ := hG c
  have hdir : S.2.1 = s.2.1 := g1.dir
  have hbat : S.2.2.1 = s.2.2.1 + 1 := g1.bat
  obtain ⟨p1, p2, p3, p4, p5, p6⟩ := storeOk_iff.1 g1.ok
  by_cases c2 : (dSync (actN S) D).2 = 0
  rotate_left
  · rw [if_pos c2] at hc; exact absurd ((told_zero _).1 hc) c2
  rw [if_neg (by simpa using c2)]
  simp only
  have ft : ∀ n, fileText (dSync (actN S) D).1 n = fileText D n := fun n => ft_Sync p1 _ n
  have hea : ∀ e, entAt (dSync (actN S) D).1 e = entAt D e := fun e => by unfold entAt; rw [ft]
  have hva : ∀ x, valAt (dSync (actN S) D).1 x = valAt D x := fun x => by unfold valAt; rw [ft]
  have hes : ∀ p ∈ l.zip es, NewOk D S.1.1 (recOf s.2.2.1 p.1) p.2 := zip_recs l es _ (fun r e => NewOk D S.1.1 r e) (by
    intro p hp; exact g3 p hp)
  have hlen : l.length ≤ es.length := by omega
  have hz : (l.zip es).map (·.1) = l := List.map_fst_zip hlen
  have hkey : ∀ p ∈ l.zip es, p.2.1 = p.1.1 := fun p hp => by
    rw [(hes p hp).key]; unfold recOf; split <;> rfl
  have hkl : (dirW s.2.1 (l.zip es)).length = keysP s.2.1 l := by
    rw [keys_len s.2.1 _ hkey, hz]; rfl
  rw [hdir] at *
  have hput : ∀ p ∈ l.zip es, putOk p.1 = true := fun p hpm => by
    unfold putsOk at hp
    simp only [Bool.and_eq_true, decide_eq_true_eq, List.all_eq_true] at hp
    exact hp.2 _ (List.of_mem_zip hpm).1
  have hnew : ∀ p ∈ l.zip es, p.1.2.1 = false → recOf s.2.2.1 p.1 = (1, s.2.2.1, p.1.1, p.1.2.2, 0, 0) := fun p hpm hd => by
    unfold recOf; rw [if_neg (by rw [hd]; simp)]
  have hold := ents_keep (b' := s.2.2.1 + 1) h g1.kp hl (by omega)
  have hlt : ∀ e ∈ dirW s.2.1 (l.zip es), e.2.1 < S.1.1 := fun e he => by
    rcases mem_dirW2 _ _ _ he with he | ⟨p, hpm, rfl, _⟩
    · have := hl e he; have := g1.nxt; have : s.1.1 ≤ S.1.1 := this; omega
    · exact (hes p hpm).seg.2.1
  have hdirok : dirOk (dirW s.2.1 (l.zip es)) = true := by
    refine dirOk_of (srt_dirW _ (dirOk_srt q3)) (fun e he => ?_) (by rw [hkl]; exact hk)
    rcases mem_dirW2 _ _ _ he with he | ⟨p, hpm, rfl, hd⟩
    · exact (dirOk_mem q3).2 e he
    · have n := hes p hpm
      have ho := hput p hpm
      unfold putOk at ho
      simp only [Bool.and_eq_true] at ho
      unfold entryOk
      rw [hkey p hpm, ho.1, n.bat, hnew p hpm hd]
      have h1 := n.seg
      have h2 := n.off
      have h3 := n.len
      simp only [Bool.true_and, Bool.and_eq_true, decide_eq_true_eq]
      exact ⟨⟨h1.1, h1.2.2⟩, h2, h3, q4.1, hb⟩
  have hent : ∀ e ∈ dirW s.2.1 (l.zip es), entOk (dSync (actN S) D).1 S.2.2.1 e = true := fun e he => by
    rw [entOk_iff, hea, hbat, ← entOk_iff]
    rcases mem_dirW2 _ _ _ he with he | ⟨p, hpm, rfl, hd⟩
    · exact hold e he
    · have n := hes p hpm
      rw [entOk_iff, n.at_, n.bat, hkey p hpm, hnew p hpm hd]
      refine ⟨rfl, .inl rfl, rfl, rfl, ?_⟩
      show s.2.2.1 < s.2.2.1 + 1
      omega
  have hfin : storeOk (S.1, dirW s.2.1 (l.zip es), S.2.2) (dSync (actN S) D).1 = true := storeOk_iff.2 ⟨dk_Sync p1 _, p2, hdirok, p4, by
    refine (segsOk_iff _).2 ?_
    simp only [ft]
    exact (segsOk_iff _).1 p5, hent⟩
  refine ⟨hfin, hlt, ?_, hbat, hkl⟩
  rw [dump_map hfin, dump_map h]
  show mapG (valAt (dSync (actN S) D).1) (dirW s.2.1 (l.zip es)) = foldP (mapG (valAt d) s.2.1) l s.2.2.1
  rw [show mapG (valAt (dSync (actN S) D).1) (dirW s.2.1 (l.zip es)) = mapG (valAt D) (dirW s.2.1 (l.zip es)) by unfold mapG; simp only [hva]]
  rw [mapG_dirW (valAt D) (fun p => (p.2.2, s.2.2.1)) _ _ (fun p hpm => ⟨hkey p hpm, fun hd => by
    have n := (hes p hpm).at_
    unfold entAt at n
    unfold valAt
    rw [n, hnew p hpm hd]⟩), hz, dump_keep h g1.kp hl]
  rfl

theorem digs_name : ∀ (k n : Nat), n < k → (Lib.decDigits n).all nameB = true
  | 0, n, h => by omega
  | k + 1, n, h => by
    have hb : ∀ m, m < 10 → nameB (UInt8.ofNat (48 + m)) = true := fun m hm => by
      unfold nameB
      have : (UInt8.ofNat (48 + m)).toNat = 48 + m := by simp only [UInt8.toNat_ofNat']; omega
      rw [this]
      simp; omega
    by_cases c : n < 10
    · rw [Lib.decDigits_one c, List.all_cons, hb n c]; rfl
    · have := digs_step (n := n) (by omega)
      unfold digs at this
      rw [if_neg (by omega), if_neg (by omega)] at this
      rw [this, List.all_append, digs_name k (n / 10) (by omega), List.all_cons, hb (n % 10) (by omega)]; rfl

theorem segName_ok {id : Int} (h : 1 ≤ id ∧ id ≤ 100000) : nameOk (segName id) = true := by
  have hl := segName_len id
  unfold nameOk
  have e : segName id = [115, 101, 103] ++ Lib.decDigits id.toNat := by unfold segName nameN; rw [if_pos h]
  rw [Bool.and_eq_true]
  constructor
  · rw [e, List.all_append, digs_name (id.toNat + 1) id.toNat (by omega)]; decide
  · have : 3 ≤ (segName id).length := by rw [e, List.length_append]; simp
    simp only [decide_eq_true_eq]; omega

/-- A disk with power, so much used, so many files. -/
structure Room (c u f : Nat) (d : DiskT) : Prop where
  dk : diskOk d = true
  tl : d.2 = ((c : Int), -1, false)
  us : usedN d.1 ≤ u
  fl : d.1.length ≤ f

theorem Room.mono {c u f u' f' : Nat} {d : DiskT} (h : Room c u f d) (hu : u ≤ u') (hf : f ≤ f') : Room c u' f' d :=
  ⟨h.dk, h.tl, Nat.le_trans h.us hu, Nat.le_trans h.fl hf⟩

theorem room_step {c u f u' f' : Nat} {d : DiskT} {act : List FileT → Int × List FileT} (h : Room c u f d) (hk : diskOk (dstep d act).1 = true) (h0 : (act d.1).1 = 0) (hu : usedN (act d.1).2 ≤ u') (hf : (act d.1).2.length ≤ f') : Room c u' f' (dstep d act).1 ∧ (dstep d act).2 = 0 := by
  have e : dstep d act = (((act d.1).2, d.2), (act d.1).1) := by
    unfold dstep tick
    rw [h.dk, h.tl]; simp
    exact h.tl
  rw [e] at hk ⊢
  exact ⟨⟨hk, h.tl, hu, hf⟩, h0⟩

theorem has_ix {d : DiskT} {n : List UInt8} (h : (fileText d n).2 = true) : ∃ i : Nat, ∃ hi : i < d.1.length, d.1.findIdx? (fun f => f.1 == n) = some i ∧ d.1[i].1 = n ∧ fileIx d.1 n = (i : Int) := by
  rcases fileIx_cases d.1 n with ⟨e, _⟩ | ⟨i, hi, e, hn⟩
  · unfold fileText at h
    split at h
    · simp at h
    · rw [ix_none e] at h; simp at h
  · exact ⟨i, hi, ix_some e, hn, e⟩

theorem hasnt_ix {d : DiskT} {n : List UInt8} (hk : diskOk d = true) (h : (fileText d n).2 = false) : fileIx d.1 n = -1 := by
  rcases fileIx_cases d.1 n with ⟨e, _⟩ | ⟨i, hi, e, hn⟩
  · exact e
  · unfold fileText at h
    rw [if_neg (by rw [hk]; simp), ix_some e] at h; simp at h

theorem room_Append {c u f : Nat} {d : DiskT} (h : Room c u f d) {n t : List UInt8} (hn : (fileText d n).2 = true) (hu : u + t.length ≤ c) : Room c (u + t.length) f (dAppend n t d).1 ∧ (dAppend n t d).2 = 0 := by
  obtain ⟨i, hi, e, en, _⟩ := has_ix hn
  have hc : d.2.1 = (c : Int) := by rw [h.tl]
  have hus := h.us
  have ha : actAppend d.2.1 n t d.1 = (0, d.1.set i ((d.1.getD i ([], [], 0)).1, (d.1.getD i ([], [], 0)).2.1 ++ t, (d.1.getD i ([], [], 0)).2.2)) := by
    unfold actAppend
    rw [e]
    simp only
    rw [if_neg (by omega)]
  refine room_step h (dk_Append h.dk n t) (by rw [ha]) ?_ ?_
  · rw [ha]
    have := usedN_set2 d.1 i ((d.1.getD i ([], [], 0)).1, (d.1.getD i ([], [], 0)).2.1 ++ t, (d.1.getD i ([], [], 0)).2.2) hi
    rw [getD_lt hi] at this ⊢
    simp only [List.length_append] at this ⊢
    omega
  · rw [ha]; simp only [List.length_set]; exact h.fl

theorem room_Sync {c u f : Nat} {d : DiskT} (h : Room c u f d) {n : List UInt8} (hn : (fileText d n).2 = true) : Room c u f (dSync n d).1 ∧ (dSync n d).2 = 0 := by
  obtain ⟨i, hi, e, en, _⟩ := has_ix hn
  have hus := h.us
  have ha : actSync n d.1 = (0, d.1.set i ((d.1.getD i ([], [], 0)).1, (d.1.getD i ([], [], 0)).2.1, ((d.1.getD i ([], [], 0)).2.1.length : Int))) := by
    unfold actSync
    rw [e]
  refine room_step h (dk_Sync h.dk n) (by rw [ha]) ?_ ?_
  · rw [ha]
    have := usedN_set2 d.1 i ((d.1.getD i ([], [], 0)).1, (d.1.getD i ([], [], 0)).2.1, ((d.1.getD i ([], [], 0)).2.1.length : Int)) hi
    rw [getD_lt hi] at this ⊢
    simp only at this ⊢
    omega
  · rw [ha]; simp only [List.length_set]; exact h.fl

theorem room_Gone {c u f : Nat} {d : DiskT} (h : Room c u f d) (n : List UInt8) : Room c u f (dGone n d).1 ∧ (dGone n d).2 = 0 ∧ (fileText (dGone n d).1 n).2 = false := by
  unfold dGone
  rcases fileIx_cases d.1 n with ⟨e, hno⟩ | ⟨i, hi, e, hn⟩
  · rw [if_neg (by omega)]
    refine ⟨h, rfl, ?_⟩
    show (fileText d n).2 = false
    unfold fileText
    split
    · rfl
    · rw [ix_none e]
  · rw [if_pos (by omega)]
    have hus := h.us
    have hfl := h.fl
    have ha : actRemove n d.1 = (0, remIx d.1 i) := by unfold actRemove; rw [ix_some e]
    have k := room_step (act := actRemove n) (u' := u) (f' := f) h (dk_Remove h.dk n) (by rw [ha]) (by rw [ha]; have := usedN_remIx d.1 i hi; simp only; omega) (by rw [ha]; simp only [remIx_len hi]; omega)
    exact ⟨k.1, k.2, removeTxt k.2⟩

theorem room_Create {c u f : Nat} {d : DiskT} (h : Room c u f d) {n : List UInt8} (hn : (fileText d n).2 = false) (ho : nameOk n = true) (hf : f < 130) : Room c u (f + 1) (dCreate n d).1 ∧ (dCreate n d).2 = 0 := by
  have hus := h.us
  have hfl := h.fl
  have ha : actCreate n d.1 = (0, insB d.1 (n, [], 0)) := by
    unfold actCreate
    rw [if_neg (by rw [ho]; simp), if_neg (by rw [hasnt_ix h.dk hn]; omega), if_neg (by omega)]
  refine room_step h (dk_Create h.dk n) (by rw [ha]) ?_ ?_
  · rw [ha]; simp only [usedN_insB, List.length_nil]; omega
  · rw [ha]; simp only [insB_len]; omega

theorem room_Rename {c u f : Nat} {d : DiskT} (h : Room c u f d) {a b : List UInt8} (hn : (fileText d a).2 = true) (ho : nameOk b = true) : Room c u f (dRename a b d).1 ∧ (dRename a b d).2 = 0 := by
  obtain ⟨i, hi, e, en, _⟩ := has_ix hn
  have hus := h.us
  have hfl := h.fl
  have ha : actRename a b d.1 = (0, if a = b then d.1 else insB (dropF (remIx d.1 i) b) (b, (d.1.getD i ([], [], 0)).2)) := by
    unfold actRename
    rw [if_neg (by rw [ho]; simp), e]
  refine room_step h (dk_Rename h.dk a b) (by rw [ha]) ?_ ?_
  · rw [ha]
    simp only
    split
    · exact hus
    · have h1 := usedN_remIx d.1 i hi
      have h2 : usedN (dropF (remIx d.1 i) b) ≤ usedN (remIx d.1 i) := sumN_sub (fun f : FileT => f.2.1.length) (dropF_sub _ _)
      rw [usedN_insB, getD_lt hi]
      simp only; omega
  · rw [ha]
    simp only
    split
    · exact hfl
    · have h1 := remIx_len hi
      have h2 := (dropF_sub (remIx d.1 i) b).length_le
      rw [insB_len]; omega

theorem sstep_zero (op : DiskT → DiskT × Int) (d : DiskT) : sstep op (d, 0) = op d := rfl

theorem room_sPut {c u f : Nat} {d : DiskT} (h : Room c u f d) (v : LiveT) (hu : u + 211 ≤ c) (hf : f < 130) : Room c (u + 211) (f + 1) (sPut v (d, 0)).1 ∧ (sPut v (d, 0)).2 = 0 := by
  have hl := showLive_len v
  obtain ⟨a1, a2, a3⟩ := room_Gone h tempN
  unfold sPut sFile
  rw [sstep_zero]
  generalize dGone [116, 101, 109, 112] d = w at *
  obtain ⟨x, k⟩ := w
  have a2 : k = 0 := a2
  subst a2
  rw [sstep_zero]
  obtain ⟨b1, b2⟩ := room_Create a1 a3 (by decide) hf
  have b3 := createTxt b2
  have b1 : Room c u (f + 1) (dCreate tempN x).1 := b1
  generalize dCreate [116, 101, 109, 112] x = w at *
  obtain ⟨y, k⟩ := w
  have b2 : k = 0 := b2
  subst b2
  rw [sstep_zero]
  obtain ⟨c1, c2⟩ := room_Append b1 (n := tempN) (t := showLive v) (by rw [show fileText y tempN = _ from b3]) (by omega)
  have c3 := appendTxt c2
  generalize dAppend [116, 101, 109, 112] (showLive v) y = w at *
  obtain ⟨z, k⟩ := w
  have c2 : k = 0 := c2
  subst c2
  rw [sstep_zero]
  have c3 : (fileText z tempN).2 = true := by rw [show fileText z tempN = _ from c3.2]
  obtain ⟨d1, d2⟩ := room_Sync c1 c3
  have d3 : (fileText (dSync tempN z).1 tempN).2 = true := by rw [ft_Sync c1.dk]; exact c3
  generalize dSync [116, 101, 109, 112] z = w at *
  obtain ⟨q, k⟩ := w
  have d2 : k = 0 := d2
  subst d2
  rw [sstep_zero]
  obtain ⟨e1, e2⟩ := room_Rename d1 (a := tempN) (b := liveN) d3 (by decide)
  exact ⟨e1.mono (by omega) (Nat.le_refl _), e2⟩

theorem room_rotP {c u f : Nat} {s : StoreT} {d : DiskT} (h : Room c u f d) (ha : (fileText d (actN s)).2 = true) (h1 : s.1.2.length < 60) (h2 : 1 ≤ s.1.1 ∧ s.1.1 < 100000) (hu : u + 211 ≤ c) (hf : f + 2 ≤ 130) :
    Room c (u + 211) (f + 2) (rotP s d).2.1 ∧ (rotP s d).2.2 = 0 := by
  obtain ⟨a1, a2⟩ := room_Sync h ha
  obtain ⟨b1, b2, b3⟩ := room_Gone a1 (segName s.1.1)
  unfold rotP
  rw [if_neg (by omega), if_neg (by rw [a2]; simp)]
  simp only
  generalize dGone (segName s.1.1) (dSync (actN s) d).1 = w at *
  obtain ⟨x, k⟩ := w
  have b2 : k = 0 := b2
  subst b2
  rw [sstep_zero]
  obtain ⟨c1, c2⟩ := room_Create b1 b3 (segName_ok (by omega)) (by omega)
  have c1 : Room c u (f + 1) (dCreate (segName s.1.1) x).1 := c1
  rw [if_neg (by rw [c2]; simp)]
  obtain ⟨p1, p2⟩ := room_sPut c1 (s.1.1 + 1, s.1.2 ++ [s.1.1]) hu (by omega)
  have p3 : (toldW (sPut (s.1.1 + 1, s.1.2 ++ [s.1.1]) ((dCreate (segName s.1.1) x).1, 0))).2 = 0 := (told_zero _).2 p2
  rw [if_neg (by rw [p3]; simp)]
  exact ⟨p1, rfl⟩

theorem act_has {s : StoreT} {d : DiskT} (h : storeOk s d = true) : (fileText d (actN s)).2 = true := by
  obtain ⟨q1, q2, q3, q4, q5, q6⟩ := storeOk_iff.1 h
  exact (((segsOk_iff _).1 q5).1 _ (lastI_mem (live_ne q2))).1

theorem room_addP {c u f : Nat} {s : StoreT} {d : DiskT} {r : RecT} (h : Room c u f d) (hs : storeOk s d = true) (hl : EntLt s) (h1 : s.1.2.length < 60) (h2 : s.1.1 < 100000) (hu : u + 282 ≤ c) (hf : f + 2 ≤ 130) :
    Room c (u + 282) (f + 2) (addP s d r).2.1 ∧ (addP s d r).2.2.1 = 0 ∧ (addP s d r).1.1.2.length ≤ s.1.2.length + 1 ∧ (addP s d r).1.1.1 ≤ s.1.1 + 1 := by
  obtain ⟨q1, q2, q3, q4, q5, q6⟩ := storeOk_iff.1 hs
  have k := (liveOk_iff s.1).1 q2
  have hfr := fr_len r
  have hR : Room c (u + 211) (f + 2) (addR s d (frame (showRec r))).2.1 ∧ (addR s d (frame (showRec r))).2.2 = 0 ∧ (addR s d (frame (showRec r))).1.1.2.length ≤ s.1.2.length + 1 ∧ (addR s d (frame (showRec r))).1.1.1 ≤ s.1.1 + 1 := by
    unfold addR
    split
    · obtain ⟨r1, r2⟩ := room_rotP h (act_has hs) h1 ⟨k.2.1.1, h2⟩ (by omega) hf
      have hn := rotP_new q1 r2
      exact ⟨r1, r2, by rw [hn.1]; simp, by rw [hn.1]; exact Int.le_refl _⟩
    · exact ⟨h.mono (by omega) (by omega), rfl, Nat.le_succ _, by show s.1.1 ≤ s.1.1 + 1; omega⟩
  have hA := addR_right (frame (showRec r)) hs hl hR.2.1
  unfold addP
  generalize addR s d (frame (showRec r)) = R at *
  obtain ⟨r1, r2, r3, r4⟩ := hR
  simp only
  rw [if_neg (by rw [r2]; simp)]
  obtain ⟨w1, w2⟩ := room_Append r1 (n := actN R.1) (t := frame (showRec r)) (act_has hA.ok) (by have := hfr.2; unfold fr at this; omega)
  rw [if_neg (by rw [w2]; simp)]
  exact ⟨w1.mono (by have := hfr.2; unfold fr at this; omega) (Nat.le_refl _), rfl, r3, r4⟩

theorem room_commitG {c : Nat} : ∀ (rs : List RecT) (u f : Nat) (s : StoreT) (d : DiskT), Room c u f d → storeOk s d = true → EntLt s → (∀ r ∈ rs, recOk r = true) → s.1.2.length + rs.length ≤ 60 → s.1.1 + rs.length ≤ 100000 → u + 282 * rs.length ≤ c → f + 2 * rs.length ≤ 130 →
    Room c (u + 282 * rs.length) (f + 2 * rs.length) (commitG rs s d).2.1 ∧ (commitG rs s d).2.2.1 = 0 ∧ (commitG rs s d).1.1.2.length ≤ s.1.2.length + rs.length ∧ (commitG rs s d).1.1.1 ≤ s.1.1 + rs.length
  | [], u, f, s, d, h, _, _, _, _, _, _, _ => ⟨h, rfl, Nat.le_refl _, by simp [commitG]⟩
  | r :: rs, u, f, s, d, h, hs, hl, hr, h1, h2, hu, hf => by
    simp only [List.length_cons, Nat.mul_add, Nat.mul_one] at h1 h2 hu hf ⊢
    have i1 : s.1.2.length < 60 := by clear hu hf h2; omega
    have i2 : s.1.1 < 100000 := by clear hu hf h1; omega
    have i3 : u + 282 ≤ c := Nat.le_trans (Nat.add_le_add_left (Nat.le_add_left _ _) _) hu
    have i4 : f + 2 ≤ 130 := Nat.le_trans (Nat.add_le_add_left (Nat.le_add_left _ _) _) hf
    have i5 : u + 282 + 282 * rs.length ≤ c := by rw [Nat.add_assoc, Nat.add_comm 282]; exact hu
    have i6 : f + 2 + 2 * rs.length ≤ 130 := by rw [Nat.add_assoc, Nat.add_comm 2]; exact hf
    obtain ⟨a1, a2, a3, a4⟩ := room_addP (r := r) h hs hl i1 i2 i3 i4
    obtain ⟨b1, b2⟩ := addP_right hs hl (hr r List.mem_cons_self) a2
    obtain ⟨c1, c2, c3, c4⟩ := room_commitG rs (u + 282) (f + 2) _ _ a1 b1.ok (b1.lt hl) (fun x hx => hr x (List.mem_cons_of_mem _ hx)) (by clear hu hf i3 i4 i5 i6; omega) (by clear hu hf i3 i4 i5 i6; omega) i5 i6
    unfold commitG
    rw [if_neg (by rw [a2]; simp)]
    refine ⟨c1.mono (by rw [Nat.add_assoc, Nat.add_comm 282]; exact Nat.le_refl _) (by rw [Nat.add_assoc, Nat.add_comm 2]; exact Nat.le_refl _), c2, ?_, ?_⟩
    · show (commitG rs _ _).1.1.2.length ≤ _; clear hu hf i3 i4 i5 i6; omega
    · show (commitG rs _ _).1.1.1 ≤ _; clear hu hf i3 i4 i5 i6; push_cast; omega

theorem room_commitP {c u f : Nat} {s : StoreT} {d : DiskT} {l : List PutT} (h : Room c u f d) (hs : storeOk s d = true) (hl : EntLt s) (hp : putsOk l = true) (hb : s.2.2.1 ≤ 1000000) (h1 : s.1.2.length + (l.length + 1) ≤ 60) (h2 : s.1.1 + (l.length + 1 : Nat) ≤ 100000) (hu : u + 282 * (l.length + 1) ≤ c) (hf : f + 2 * (l.length + 1) ≤ 130) :
    Room c (u + 282 * (l.length + 1)) (f + 2 * (l.length + 1)) (commitP s d l).2.1 ∧ (commitP s d l).2.2 = 0 ∧ (commitP s d l).1.1.2.length ≤ s.1.2.length + (l.length + 1) ∧ (commitP s d l).1.1.1 ≤ s.1.1 + (l.length + 1 : Nat) := by
  obtain ⟨q1, q2, q3, q4, q5, q6⟩ := storeOk_iff.1 hs
  have hents : ∀ e ∈ s.2.1, entOk d (s.2.2.1 + 1) e = true := ents_keep (m := s.1.1) hs (fun e _ _ _ => rfl) hl (by omega)
  have h0 : storeOk (s.1, s.2.1, s.2.2.1 + 1, s.2.2.2) d = true := storeOk_iff.2 ⟨q1, q2, q3, by show 1 ≤ s.2.2.1 + 1 ∧ s.2.2.1 + 1 ≤ 1000001; omega, q5, hents⟩
  have hnum := recsOf_len s.2.2.1 l
  have hl0 : EntLt (s.1, s.2.1, s.2.2.1 + 1, s.2.2.2) := hl
  have hro := recsOf_ok ⟨q4.1, hb⟩ hp
  obtain ⟨g1, g2, g3, g4⟩ := room_commitG (recsOf s.2.2.1 l) u f _ d h h0 hl0 hro (by rw [hnum]; exact h1) (by rw [hnum]; exact h2) (by rw [hnum]; exact hu) (by rw [hnum]; exact hf)
  obtain ⟨k1, k2, k3⟩ := commitG_right (recsOf s.2.2.1 l) _ d h0 hl0 hro g2
  rw [hnum] at *
  unfold commitP
  generalize commitG (recsOf s.2.2.1 l) (s.1, s.2.1, s.2.2.1 + 1, s.2.2.2) d = g at *
  simp only
  rw [if_neg (by rw [g2]; simp)]
  obtain ⟨w1, w2⟩ := room_Sync g1 (act_has k1.ok)
  rw [if_neg (by rw [w2]; simp)]
  exact ⟨w1, rfl, g3, g4⟩

/-- What Commit answers. -/
noncomputable def commitF (s : StoreT) (d : DiskT) (l : List PutT) : StoreT × DiskT × Int :=
  if storeOk s d = false ∨ putsOk l = false then (s, d, 4) else if l.length = 0 then (s, d, 0) else
  if 20 < keysP s.2.1 l ∨ s.2.2.1 > 1000000 then (s, d, 5) else commitP s d l

structure SmallS (s : StoreT) (d : DiskT) : Prop where
  sm : dl 200000 d
  ids : s.1.2.length ≤ 1000
  dir : s.2.1.length ≤ 1000

theorem SmallS.lim {s : StoreT} {d : DiskT} (h : SmallS s d) : dlim d ∧ usedN d.1 < 1000000000 := ⟨dl_lim h.sm (by omega), by have := h.sm.2.1; omega⟩

theorem impl_Commit_F {s : StoreT} {d : DiskT} (h : SmallS s d) (l : List PutT) (hl : l.length ≤ 1000) : impl_Commit.f s d l = some (commitF s d l) := by
  obtain ⟨hd, hu⟩ := h.lim
  have h1 := h.ids
  have h2 := h.dir
  have h3 := h.sm.1
  unfold impl_Commit.f commitF
  simp only [impl_StoreOk_eq s d hd hu (show s.1.2.length < 1000000000 by omega) (show s.2.1.length < 1000000000 by omega), Option.bind_some, impl_copyStore_eq s (show s.1.2.length < 1000000000 by omega) (show s.2.1.length < 1000000000 by omega), impl_copyDisk_eq d (show d.1.length < 1000000000000 by omega), impl_PutsOk_eq l (show l.length < 2 ^ 62 by omega), impl_keysWith_eq s.2.1 l (show s.2.1.length < 100000000 by omega) (show l.length < 100000000 by omega)]
  cases hk : storeOk s d with
  | false => simp
  | true =>
    obtain ⟨q1, q2, q3, q4, q5⟩ := storeOk_parts hk
    have hg := storeOk_good hk
    cases hp : putsOk l with
    | false => simp
    | true =>
      have hl8 : l.length ≤ 8 := by
        unfold putsOk at hp
        simp only [Bool.and_eq_true, decide_eq_true_eq] at hp
        exact hp.1
      simp only [Bool.not_true, cond_false, Bool.true_eq_false, or_self, if_false]
      by_cases e1 : l.length = 0
      · have d1 : ((l.length : Int) == 0) = true := by rw [e1]; rfl
        simp only [d1, cond_true]
        rw [if_pos e1]
      have d1 : ((l.length : Int) == 0) = false := by
        have : ¬ (l.length : Int) = 0 := by omega
        simpa using this
      simp only [d1, cond_false]
      rw [if_neg e1]
      by_cases e2 : (keysP s.2.1 l : Int) > 20
      · simp only [e2, decide_true, cond_true]
        rw [if_pos (by omega)]
      simp only [e2, decide_false, cond_false]
      by_cases e3 : s.2.2.1 > 1000000
      · simp only [e3, decide_true, cond_true, or_true, if_true]
      have e4 : ¬ (20 < keysP s.2.1 l ∨ s.2.2.1 > 1000000) := by omega
      rw [if_neg e4]
      simp only [e3, decide_false, cond_false, impl_commit_eq hg (by omega) l hl8 (by omega) (by omega), Option.bind_some]

theorem ok_small {s : StoreT} {d : DiskT} (h : storeOk s d = true) : SmallS s d := by
  obtain ⟨q1, q2, q3, q4, q5⟩ := storeOk_parts h
  have := ((liveOk_iff s.1).1 q2).2.2.2
  exact ⟨dl_mono (dl_dk q1) (by omega), by omega, by have := (dirOk_mem q3).1; omega⟩

theorem lastOf_mem {l : List PutT} {k : List UInt8} {p : PutT} (h : lastOf l k = some p) : p ∈ l ∧ p.1 = k := by
  unfold lastOf at h
  have h1 := List.mem_of_find?_eq_some h
  have h2 := List.find?_some h
  exact ⟨List.mem_reverse.1 h1, by simpa using h2⟩

theorem sameStore_self (s : StoreT) (h1 : s.1.2.length < 1000000000) (h2 : s.2.1.length < 1000000000) : spec_SameStore.f s s = some true := by
  have key := all_loop (step := spec_SameStore.l0) s.1.2 (fun _ => true) (fun n => (s, s, (n : Int))) (s, s) (by omega)
    (fun rec n h => by
      have hw := w64_succ (show n + 1 < 9223372036854775808 by omega)
      simp only [spec_SameStore.l0, Int.ofNat_lt, h, decide_true, cond_true, inB_nat, rdA_nat, getD_lt h, bne_self_eq_false, cond_false, hw, if_true])
    (fun rec => by simp [spec_SameStore.l0])
  have key : lp spec_SameStore.l0 (s, s, 0) = _ := key
  unfold spec_SameStore.f
  have hall : s.1.2.all (fun _ => true) = true := by simp
  rw [key, hall]
  simp only [bne_self_eq_false, cond_false, if_true, Option.bind_some, caseS_l, sameDir_self s.2.1 h2]

theorem room_new (n : Nat) (h : n ≤ 100000) : Room n 0 0 (([], (n : Int), -1, false) : DiskT) := ⟨dk_new n (by omega), rfl, Nat.le_refl _, Nat.le_refl _⟩

theorem spec_Open_room (n : Nat) (h : 211 ≤ n ∧ n ≤ 100000) : ∃ d, spec_Open.f (([], (n : Int), -1, false) : DiskT) = some (((2, [1]), [], 1, 0, 0), d, 0) ∧ Room n 211 2 d ∧ storeOk ((2, [1]), [], 1, 0, 0) d = true := by
  have r0 := room_new n h.2
  have hk := r0.dk
  have hd := dl_lim (dl_dk hk) (by omega)
  have ht : ∀ m, fileText (([], (n : Int), -1, false) : DiskT) m = ([], false) := fun m => fileText_eq_none fun f hf => by simp at hf
  have hn := segName_len 1
  obtain ⟨r1, c1⟩ := room_Create r0 (n := segName 1) (by rw [ht]) (segName_ok (by omega)) (by omega)
  have t1 := createTxt c1
  have ec : spec_Create.f (([], (n : Int), -1, false) : DiskT) (segName 1) = some (dCreate (segName 1) ([], (n : Int), -1, false)) := spec_Create_eq _ _ hd (by omega)
  unfold spec_Open.f
  simp only [spec_DiskOk_eq _ hd, hk, Option.bind_some, Bool.not_true, cond_false, spec_FileText_eq _ _ hd, ht, Bool.not_false, cond_true]
  unfold spec_l11First.f
  simp only [spec_Sweep_new (n : Int) (by omega), Option.bind_some, bne_self_eq_false, cond_false, spec_SegName_eq, ec]
  generalize dCreate (segName 1) ([], (n : Int), -1, false) = w at *
  obtain ⟨x, c⟩ := w
  have c1 : c = 0 := c1
  subst c1
  have r1 : Room n 0 1 x := r1
  have t1 : fileText x (segName 1) = ([], true) := t1
  obtain ⟨r2, c2⟩ := room_sPut r1 (2, [1]) (by omega) (by omega)
  have hp : putLive x (2, [1]) = toldW (sPut (2, [1]) (x, 0)) := by
    unfold putLive
    rw [if_neg (by rw [r1.dk]; decide)]
  have t2 : fileText (sPut (2, [1]) (x, 0)).1 (segName 1) = ([], true) := by
    rw [ft_sPut (w := (x, 0)) r1.dk _ (segName_temp 1) (segName_live 1)]; exact t1
  have ht2 : told (sPut (2, [1]) (x, 0)).2 = 0 := (told_zero _).2 c2
  simp only [bne_self_eq_false, cond_false, spec_PutLive_eq x (2, [1]) (dl_dk r1.dk) (by omega) (by simp), Option.bind_some, hp]
  have ht3 : (toldW (sPut (2, [1]) (x, 0))).2 = 0 := ht2
  simp only [ht3, bne_self_eq_false, cond_false]
  refine ⟨(sPut (2, [1]) (x, 0)).1, rfl, r2.mono (by omega) (by omega), storeOk_iff.2 ⟨r2.dk, by decide, by decide, by decide, ?_, fun e he => by simp at he⟩⟩
  refine (segsOk_iff _).2 ⟨fun id hid => ?_, fun _ => ?_⟩
  · have hid : id = 1 := by simpa using hid
    subst hid
    rw [t2]; exact ⟨rfl, whole_nil⟩
  · show (0 : Int) = ((fileText _ (segName 1)).1.length : Int)
    rw [t2]; rfl

def kn (n : Nat) : List UInt8 := [107] ++ Lib.decDigits n

theorem kn_inj {m n : Nat} (h : kn m = kn n) : m = n := digs_inj (m + 1) m n (by omega) (List.append_cancel_left h)

theorem kn_len {n : Nat} (h : n < 100) : 1 ≤ (kn n).length ∧ (kn n).length ≤ 3 := by
  have := digits_len 1 n (by omega)
  unfold kn
  rw [List.length_append]
  show 1 ≤ 1 + _ ∧ 1 + _ ≤ 3
  omega

/-- Puts of keys in a row. -/
def NewPs : Nat → List PutT → Prop
  | _, [] => True
  | m, p :: r => p.1 = kn m ∧ p.2.1 = false ∧ p.2.2.length ≤ 24 ∧ NewPs (m + 1) r

theorem NewPs.snoc {p : PutT} : ∀ (l : List PutT) (m : Nat), NewPs m l → p.1 = kn (m + l.length) ∧ p.2.1 = false ∧ p.2.2.length ≤ 24 → NewPs m (l ++ [p])
  | [], m, _, h => ⟨h.1, h.2.1, h.2.2, trivial⟩
  | q :: l, m, h, k => ⟨h.1, h.2.1, h.2.2.1, NewPs.snoc l (m + 1) h.2.2.2 ⟨by rw [k.1]; congr 1; simp only [List.length_cons]; omega, k.2⟩⟩

theorem NewPs.mem : ∀ (l : List PutT) (m : Nat), NewPs m l → ∀ p ∈ l, ∃ i, m ≤ i ∧ i < m + l.length ∧ p.1 = kn i ∧ p.2.1 = false ∧ p.2.2.length ≤ 24
  | [], m, _, p, hp => by simp at hp
  | q :: l, m, h, p, hp => by
    simp only [List.length_cons]
    rcases List.mem_cons.1 hp with rfl | hp
    · exact ⟨m, Nat.le_refl _, by omega, h.1, h.2.1, h.2.2.1⟩
    · obtain ⟨i, h1, h2, h3⟩ := NewPs.mem l (m + 1) h.2.2.2 p hp
      exact ⟨i, by omega, by omega, h3⟩

theorem NewPs.get : ∀ (l : List PutT) (m : Nat), NewPs m l → ∀ i, m ≤ i → i < m + l.length → ∃ p ∈ l, p.1 = kn i
  | [], m, _, i, h1, h2 => by simp at h2; omega
  | q :: l, m, h, i, h1, h2 => by
    simp only [List.length_cons] at h2
    by_cases c : i = m
    · exact ⟨q, List.mem_cons_self, by rw [c]; exact h.1⟩
    · obtain ⟨p, hp, e⟩ := NewPs.get l (m + 1) h.2.2.2 i (by omega) (by omega)
      exact ⟨p, List.mem_cons_of_mem _ hp, e⟩

theorem NewPs.ok {l : List PutT} {m : Nat} (h : NewPs m l) (hm : m + l.length ≤ 100) (hl : l.length ≤ 8) : putsOk l = true := by
  unfold putsOk
  simp only [Bool.and_eq_true, decide_eq_true_eq, List.all_eq_true]
  refine ⟨hl, fun p hp => ?_⟩
  obtain ⟨i, h1, h2, h3, h4, h5⟩ := NewPs.mem l m h p hp
  have := kn_len (n := i) (by omega)
  unfold putOk keyOk
  rw [h3, h4]
  simp; omega

/-- The keys of a directory are just the first ones. -/
def KeysD (dir : List EntryT) (m : Nat) : Prop := (∀ e ∈ dir, ∃ i, i < m ∧ e.1 = kn i) ∧ dir.length = m

theorem dropK_absent {α : Type} {l : List (List UInt8 × α)} {k : List UInt8} (h : ∀ x ∈ l, x.1 ≠ k) : dropK l k = l := by
  unfold dropK
  rw [List.filter_eq_self]
  intro x hx
  simpa using h x hx

theorem KeysD.new {m : Nat} : ∀ (l : List PutT) (dir : List EntryT) (m : Nat), KeysD dir m → NewPs m l → KeysD (dirW dir (l.zip (l.map bareE))) (m + l.length)
  | [], dir, m, h, _ => h
  | p :: l, dir, m, h, hp => by
    have hs : dirStep dir (p, bareE p) = insB dir (bareE p) := by
      unfold dirStep
      rw [if_neg (by rw [hp.2.1]; simp), dropK_absent]
      intro x hx e
      obtain ⟨i, hi, e2⟩ := h.1 x hx
      have : kn i = kn m := by rw [← e2, e]; exact hp.1
      have := kn_inj this
      omega
    have h1 : KeysD (dirStep dir (p, bareE p)) (m + 1) := by
      rw [hs]
      refine ⟨fun e he => ?_, by rw [insB_len, h.2]⟩
      rcases (mem_insB _ _ _).1 he with rfl | he
      · exact ⟨m, by omega, hp.1⟩
      · obtain ⟨i, hi, e2⟩ := h.1 e he
        exact ⟨i, by omega, e2⟩
    have := KeysD.new (m := 0) l _ (m + 1) h1 hp.2.2.2
    simp only [List.length_cons]
    rw [show m + (l.length + 1) = m + 1 + l.length by omega]
    exact this

/-- All keys of the first ones are there. -/
def KeysF (P : List PairT) (m : Nat) : Prop := (∀ x ∈ P, ∃ i, i < m ∧ x.1 = kn i) ∧ ∀ i, i < m → ∃ x ∈ P, x.1 = kn i

theorem KeysF.fold {P : List PairT} {m : Nat} {l : List PutT} (h : KeysF P m) (hl : NewPs m l) (b : Int) : KeysF (foldP P l b) (m + l.length) := by
  constructor
  · intro x hx
    have hx := (mem_foldP b P x l).1 hx
    cases hlo : lastOf l x.1 with
    | none =>
      rw [hlo] at hx
      obtain ⟨i, h1, h2⟩ := h.1 x hx
      exact ⟨i, by omega, h2⟩
    | some p =>
      obtain ⟨h1, h2⟩ := lastOf_mem hlo
      obtain ⟨i, h3, h4, h5, _⟩ := NewPs.mem l m hl p h1
      exact ⟨i, h4, by rw [← h2, h5]⟩
  · intro i hi
    by_cases c : i < m
    · obtain ⟨x, hx, e⟩ := h.2 i c
      refine ⟨x, (mem_foldP b P x l).2 ?_, e⟩
      cases hlo : lastOf l x.1 with
      | none => exact hx
      | some p =>
        obtain ⟨h1, h2⟩ := lastOf_mem hlo
        obtain ⟨j, h3, h4, h5, _⟩ := NewPs.mem l m hl p h1
        have : kn i = kn j := by rw [← e, ← h2, h5]
        have := kn_inj this
        omega
    · obtain ⟨p, hp, e⟩ := NewPs.get l m hl i (by omega) hi
      cases hlo : lastOf l (kn i) with
      | none =>
        exfalso
        unfold lastOf at hlo
        rw [List.find?_eq_none] at hlo
        exact hlo p (List.mem_reverse.2 hp) (by rw [e]; simp)
      | some q =>
        obtain ⟨h1, h2⟩ := lastOf_mem hlo
        obtain ⟨j, _, _, _, h6, _⟩ := NewPs.mem l m hl q h1
        refine ⟨(kn i, q.2.2, b), (mem_foldP b P _ l).2 ?_, rfl⟩
        simp only [hlo]
        exact ⟨h6, by trivial⟩

theorem FnRefusals_l0 (x0 : List Int) (s : StoreT) (d : DiskT) : lp laws_FnRefusals.l0 (x0, s, d, [], 0) = some (x0, s, d, List.replicate 25 118) := by
  have key := lp_up (step := laws_FnRefusals.l0) (fun n (acc : List UInt8) => (x0, s, d, acc, (n : Int))) 25 (fun n acc => (x0, s, d, acc ++ List.replicate (25 - n) 118)) (fun n acc => acc.length = n)
    (fun rec n acc hn ha ih => by
      rcases Nat.lt_or_ge n 25 with h | h
      · have hw := w64_succ (show n + 1 < 9223372036854775808 by omega)
        have h1 : (n : Int) ≤ 24 := by omega
        have h2 : decide (acc.length + ([118] : List UInt8).length ≤ 9223372036854775807) = true := lim63 (by show _ + 1 ≤ _; omega)
        have ih := ih (acc ++ [118]) h (by rw [List.length_append, ha]; rfl)
        simp only [laws_FnRefusals.l0, h1, decide_true, cond_true, h2, hw, ih]
        rw [show 25 - n = (25 - (n + 1)) + 1 by omega, List.replicate_succ, List.append_assoc]; rfl
      · have : n = 25 := by omega
        subst this
        simp [laws_FnRefusals.l0])
    (by omega) 0 [] (Nat.zero_le _) rfl
  exact key

theorem FnRefusals_l4 (x0 : List Int) (hw0 : ∀ x ∈ x0, 0 ≤ x ∧ x ≤ 255) (hx : x0.length < 1000000000) (s : StoreT) (d : DiskT) (m : Nat) (hm : m ≤ 16) :
    ∃ l, lp laws_FnRefusals.l4 (x0, s, d, List.replicate 25 118, (m : Int), [], (m : Int)) = some (x0, s, d, List.replicate 25 118, (m : Int), l) ∧ NewPs m l ∧ l.length = 4 := by
  have key := lp_ok (step := laws_FnRefusals.l4) (a := (x0, s, d, List.replicate 25 118, (m : Int), [], (m : Int)))
    (fun a => ∃ l : List PutT, a = (x0, s, d, List.replicate 25 118, (m : Int), l, ((m + l.length : Nat) : Int)) ∧ NewPs m l ∧ l.length ≤ 4)
    (fun a => (m + 5 : Nat) - a.2.2.2.2.2.2.toNat)
    (fun b => ∃ l : List PutT, b = (x0, s, d, List.replicate 25 118, (m : Int), l) ∧ NewPs m l ∧ l.length = 4)
    (fun rec a ha => by
      obtain ⟨l, rfl, hn, hl⟩ := ha
      have hw4 : w64 ((m : Int) + 4) = (m : Int) + 4 := w64_id (by omega) (by omega)
      by_cases c : l.length = 4
      · left
        have c1 : ¬ ((m + l.length : Nat) : Int) < (m : Int) + 4 := by omega
        simp only [laws_FnRefusals.l4, hw4, c1, decide_false, cond_false]
        exact ⟨_, rfl, l, rfl, hn, c⟩
      · right
        have c1 : ((m + l.length : Nat) : Int) < (m : Int) + 4 := by omega
        have hdg := digits_len 1 (m + l.length) (by omega)
        have h2 : decide (([107] : List UInt8).length + (Lib.decDigits (m + l.length)).length ≤ 9223372036854775807) = true := lim63 (by show 1 + _ ≤ _; omega)
        obtain ⟨v, ev, hv0, hv1⟩ := at_eq x0 hw0 (m + l.length) (by omega) hx
        have hr := tmod_range hv0 (show (0 : Int) < 24 by omega)
        have h3 : (decide (0 ≤ Int.tmod v 24) && decide (Int.tmod v 24 ≤ ((List.replicate 25 (118 : UInt8)).length : Int))) = true := by
          rw [List.length_replicate]; simp; omega
        have hb : (l.length + ([([107] ++ Lib.decDigits (m + l.length), false, (List.replicate 25 (118 : UInt8)).take (Int.tmod v 24).toNat)] : List PutT).length) * 40 ≤ 140737488355328 := lim40 (by omega)
        have hw := w64_succ (show m + l.length + 1 < 9223372036854775808 by omega)
        simp only [laws_FnRefusals.l4, hw4, c1, decide_true, cond_true, spec_Dec_eq (m + l.length) (by omega), Option.bind_some, h2, ev, h3, hb, hw]
        refine ⟨_, ⟨l ++ [(kn (m + l.length), false, (List.replicate 25 (118 : UInt8)).take (Int.tmod v 24).toNat)], ?_, ?_, ?_⟩, ?_, rfl⟩
        · simp only [List.length_append, List.length_singleton]; rfl
        · refine NewPs.snoc l m hn ⟨rfl, rfl, ?_⟩
          simp only [List.length_take, List.length_replicate]; omega
        · simp only [List.length_append, List.length_singleton]; omega
        · simp only [Int.toNat_natCast]; omega)
    ⟨[], rfl, trivial, by simp⟩ (by simp only [Int.toNat_natCast]; omega)
  obtain ⟨b, eb, l, rfl, hn, hl⟩ := key
  exact ⟨l, eb, hn, hl⟩

/-- The store behind so many batches of four. -/
structure Work (j : Nat) (s : StoreT) (d : DiskT) : Prop where
  ok : storeOk s d = true
  lt : EntLt s
  room : Room 9000 (211 + 1410 * j) (2 + 10 * j) d
  ids : s.1.2.length ≤ 1 + 5 * j
  nxt : s.1.1 ≤ ((2 + 5 * j : Nat) : Int)
  bat : s.2.2.1 = ((1 + j : Nat) : Int)
  keys : KeysF (dumpP s d).1 (4 * j)
  len : s.2.1.length = 4 * j

theorem Work.dir {j : Nat} {s : StoreT} {d : DiskT} (h : Work j s d) : KeysD s.2.1 (4 * j) := by
  refine ⟨fun e he => ?_, h.len⟩
  have hm : (e.1, valAt d e.2) ∈ (dumpP s d).1 := by rw [dump_map h.ok]; exact List.mem_map.2 ⟨e, he, rfl⟩
  exact h.keys.1 _ hm

theorem Work.next {j : Nat} {s : StoreT} {d : DiskT} {l : List PutT} (h : Work j s d) (hj : j < 5) (hl : NewPs (4 * j) l) (h4 : l.length = 4) : Work (j + 1) (commitF s d l).1 (commitF s d l).2.1 ∧ (commitF s d l).2.2 = 0 := by
  have hp := hl.ok (by omega) (by omega)
  have hkd := KeysD.new (m := 0) l _ _ h.dir hl
  have hk : keysP s.2.1 l = 4 * j + 4 := by unfold keysP; rw [hkd.2, h4]
  have hb := h.bat
  have hn := h.nxt
  have hi := h.ids
  have e : commitF s d l = commitP s d l := by
    unfold commitF
    rw [if_neg (by rw [h.ok, hp]; simp), if_neg (by omega), if_neg (by omega)]
  rw [e]
  obtain ⟨r1, r2, r3, r4⟩ := room_commitP (l := l) h.room h.ok h.lt hp (by omega) (by omega) (by omega) (by omega) (by omega)
  obtain ⟨k1, k2, k3, k4, k5⟩ := commitP_right h.ok h.lt hp (by omega) (by omega) r2
  refine ⟨⟨k1, k2, r1.mono (by omega) (by omega), by omega, by omega, by rw [k4, hb]; push_cast; omega, ?_, by rw [k5, hk]; omega⟩, r2⟩
  rw [k3]
  have := h.keys.fold hl s.2.2.1
  rw [h4] at this
  exact this

theorem Work.small {j : Nat} {s : StoreT} {d : DiskT} (h : Work j s d) : SmallS s d := ok_small h.ok

theorem FnRefusals_l2 (x0 : List Int) (hw0 : ∀ x ∈ x0, 0 ≤ x ∧ x ≤ 255) (hx : x0.length < 1000000000) (s : StoreT) (d : DiskT) (h : Work 0 s d) :
    ∃ s' d', lp laws_FnRefusals.l2 (x0, s, d, List.replicate 25 118, 0) = some (.inl (s', d')) ∧ Work 5 s' d' := by
  have key := lp_ok (step := laws_FnRefusals.l2) (a := (x0, s, d, List.replicate 25 118, 0))
    (fun a => ∃ (j : Nat) (s' : StoreT) (d' : DiskT), a = (x0, s', d', List.replicate 25 118, ((4 * j : Nat) : Int)) ∧ Work j s' d' ∧ j ≤ 5)
    (fun a => 24 - a.2.2.2.2.toNat)
    (fun b => ∃ (s' : StoreT) (d' : DiskT), b = .inl (s', d') ∧ Work 5 s' d')
    (fun rec a ha => by
      obtain ⟨j, s', d', rfl, hW, hj⟩ := ha
      by_cases c : j = 5
      · left
        subst c
        exact ⟨.inl (s', d'), by simp [laws_FnRefusals.l2], s', d', rfl, hW⟩
      · right
        have c1 : ((4 * j : Nat) : Int) < 20 := by omega
        obtain ⟨l, el, hl, h4⟩ := FnRefusals_l4 x0 hw0 hx s' d' (4 * j) (by omega)
        obtain ⟨n1, n2⟩ := hW.next (by omega) hl h4
        have hw : w64 (((4 * j : Nat) : Int) + 4) = ((4 * (j + 1) : Nat) : Int) := by rw [w64_id (by omega) (by omega)]; omega
        simp only [laws_FnRefusals.l2, c1, decide_true, cond_true, el, Option.bind_some, impl_Commit_F hW.small l (by omega), n2, bne_self_eq_false, cond_false, hw]
        exact ⟨_, ⟨j + 1, _, _, rfl, n1, by omega⟩, by simp only [Int.toNat_natCast]; omega, rfl⟩)
    ⟨0, s, d, rfl, h, by omega⟩ (by simp only; omega)
  obtain ⟨b, eb, s', d', rfl, hW⟩ := key
  exact ⟨s', d', eb, hW⟩

theorem FnRefusals_true (x0 : List Int) (w0 : wfD (.sl false (.int .u8)) x0) : laws_FnRefusals.f x0 = some true := by
  unfold laws_FnRefusals.f
  rw [big_eq, Option.bind_some]
  by_cases cb : (x0.length : Int) > 1048576
  · simp [cb]
  simp only [cb, decide_false, cond_false]
  have eN : spec_DiskNew.f 9000 = some (([], ((9000 : Nat) : Int), -1, false) : DiskT) := by
    unfold spec_DiskNew.f
    rw [spec_l1In_eq]; rfl
  obtain ⟨d, eO, hR, hok⟩ := spec_Open_room 9000 (by omega)
  have hw0 : ∀ x ∈ x0, 0 ≤ x ∧ x ≤ 255 := fun x hx => w0.2 x hx
  obtain ⟨a, ea, ha0, ha1⟩ := at_eq x0 hw0 0 (by omega) (by omega)
  have ea : laws_at.f x0 0 = some a := ea
  have hr := tmod_range ha0 (show (0 : Int) < 4 by omega)
  have hW : Work 0 ((2, [1]), [], 1, 0, 0) d := ⟨hok, fun e he => by simp at he, hR, by decide, by decide, rfl, by
    rw [dump_map hok]
    exact ⟨fun x hx => by simp [mapG] at hx, fun i hi => by omega⟩, rfl⟩
  have hS := hW.small
  have hd := hS.sm.1
  simp only [eN, Option.bind_some, eO, FnRefusals_l0, ea]
  have hin : inB (Int.tmod a 4) ([([([], false, [])] : List (List UInt8 × Bool × List UInt8)), ([([110, 105, 110, 101, 98, 121, 116, 101, 115], false, [])] : List (List UInt8 × Bool × List UInt8)), [([107], false, List.replicate 25 118)], [([107], true, [120])]] : List (List (List UInt8 × Bool × List UInt8))).length = true := by
    unfold inB; simp; omega
  have hbad : ∃ q : List PutT, rdA [] ([([([], false, [])] : List (List UInt8 × Bool × List UInt8)), ([([110, 105, 110, 101, 98, 121, 116, 101, 115], false, [])] : List (List UInt8 × Bool × List UInt8)), [([107], false, List.replicate 25 118)], [([107], true, [120])]] : List (List (List UInt8 × Bool × List UInt8))) (Int.tmod a 4) = q ∧ putsOk q = false ∧ q.length ≤ 1000 := by
    have : Int.tmod a 4 = 0 ∨ Int.tmod a 4 = 1 ∨ Int.tmod a 4 = 2 ∨ Int.tmod a 4 = 3 := by omega
    rcases this with e | e | e | e <;> rw [e]
    · exact ⟨_, rfl, by decide, by decide⟩
    · exact ⟨_, rfl, by decide, by decide⟩
    · exact ⟨_, rfl, by decide, by decide⟩
    · exact ⟨_, rfl, by decide, by decide⟩
  obtain ⟨q, eq, hq, hql⟩ := hbad
  have eC : commitF ((2, [1]), [], 1, 0, 0) d q = (((2, [1]), [], 1, 0, 0), d, 4) := by
    unfold commitF
    rw [if_pos (.inr hq)]
  simp only [hin, cond_true, eq, impl_Commit_F hS q hql, eC, Option.bind_some, bne_self_eq_false, cond_false]
  rw [sameStore_self ((2, [1]), [], 1, 0, 0) (by decide) (by decide), Option.bind_some]
  simp only [Bool.not_true, cond_false]
  rw [spec_SameDisk_self d (by omega), Option.bind_some]
  simp only [Bool.not_true, cond_false]
  obtain ⟨s', d', e2, hW5⟩ := FnRefusals_l2 x0 hw0 (by omega) _ d hW
  rw [e2]
  simp only [Option.bind_some, caseS_l]
  have hS5 := hW5.small
  have hdir := hW5.dir
  have hb := hW5.bat
  have hn := hW5.nxt
  have hi := hW5.ids
  have hkm : ∀ e ∈ s'.2.1, e.1 ≠ [109, 111, 114, 101] := fun e he h => by
    obtain ⟨i, _, e3⟩ := hdir.1 e he
    rw [h] at e3
    have := congrArg (fun l => l.getD 0 0) e3
    simp [kn] at this
  have kp1 : keysP s'.2.1 [([109, 111, 114, 101], false, [])] = 21 := by
    show (insB (dropK s'.2.1 [109, 111, 114, 101]) _).length = 21
    rw [insB_len]
    show (dropK s'.2.1 [109, 111, 114, 101]).length + 1 = 21
    rw [dropK_absent (k := [109, 111, 114, 101]) hkm, hdir.2]
  have hk0 : (dropK s'.2.1 [107, 48]).length < 20 := by
    obtain ⟨x, hx, e⟩ := hW5.keys.2 0 (by omega)
    rw [dump_map hW5.ok] at hx
    obtain ⟨y, hy, rfl⟩ := List.mem_map.1 hx
    have h20 : s'.2.1.length = 20 := hdir.2
    rw [← h20]
    unfold dropK
    refine Nat.lt_of_le_of_ne (List.length_filter_le _ _) fun hh => ?_
    have := List.filter_eq_self.1 (List.filter_sublist.eq_of_length hh) y hy
    have e : y.1 = [107, 48] := by
      have : kn 0 = [107, 48] := by unfold kn; rw [Lib.decDigits_one (by omega)]; rfl
      rw [← this]; exact e
    rw [e] at this
    simp at this
  have kp2 : keysP s'.2.1 [([107, 48], true, []), ([109, 111, 114, 101], false, [])] ≤ 20 := by
    show (insB (dropK (dropK s'.2.1 [107, 48]) _) _).length ≤ 20
    rw [insB_len]
    show (dropK (dropK s'.2.1 [107, 48]) [109, 111, 114, 101]).length + 1 ≤ 20
    have := dropK_len (dropK s'.2.1 [107, 48]) [109, 111, 114, 101]
    omega
  have eA : commitF s' d' [([109, 111, 114, 101], false, [])] = (s', d', 5) := by
    unfold commitF
    rw [if_neg (by rw [hW5.ok]; decide), if_neg (by decide), if_pos (.inl (by rw [kp1]; decide))]
  have eB : (commitF s' d' [([107, 48], true, []), ([109, 111, 114, 101], false, [])]).2.2 = 0 := by
    have e : commitF s' d' [([107, 48], true, []), ([109, 111, 114, 101], false, [])] = commitP s' d' [([107, 48], true, []), ([109, 111, 114, 101], false, [])] := by
      unfold commitF
      rw [if_neg (by rw [hW5.ok]; decide), if_neg (by decide), if_neg (by omega)]
    rw [e]
    exact (room_commitP (l := [([107, 48], true, []), ([109, 111, 114, 101], false, [])]) hW5.room hW5.ok hW5.lt (by decide) (by omega) (by simp only [List.length_cons, List.length_nil]; omega) (by simp only [List.length_cons, List.length_nil]; omega) (by simp only [List.length_cons, List.length_nil]; omega) (by simp only [List.length_cons, List.length_nil]; omega)).2.1
  have h20 : ((s'.2.1.length : Int) == 20) = true := by rw [hdir.2]; decide
  have hd5 := hS5.sm.1
  rw [impl_Commit_F hS5 _ (by decide), Option.bind_some, impl_Commit_F hS5 _ (by decide), Option.bind_some, eA, eB]
  simp only [beq_self_eq_true, cond_true, sameStore_self s' (by have := hS5.ids; omega) (by have := hS5.dir; omega), Option.bind_some, spec_SameDisk_self d' (by omega), h20]

end Go.Rf.G
