/- Plain laws: what the plain functions answer. -/
import Derived.Test.YtpepgdpalokoaaaGreatDoorLRotatedLem2
namespace Go.Rf.G
open Go Go.Rf
set_option linter.unusedVariables false
set_option linter.unusedSimpArgs false
set_option synthInstance.maxSize 4000

theorem ft_Sync {d : DiskT} (h : diskOk d = true) (m n : List UInt8) : fileText (dSync m d).1 n = fileText d n := by
  refine ft_files h (dk_Sync h m) n fun t => ?_
  unfold actSync
  rcases fileIx_cases d.1 m with ⟨e, _⟩ | ⟨i, hi, e, hn⟩
  · rw [ix_none e]
  · rw [ix_some e]
    simp only
    rw [getD_lt hi]
    by_cases hne : n = m
    · subst hne
      have hs := ((diskOk_iff d).1 h).2.2.2.2.2
      have uniq : ∀ t s, ((n, t, s) : FileT) ∈ d.1 → d.1[i] = (n, t, s) := fun t s hx => by
        obtain ⟨j, hj, ej⟩ := List.getElem_of_mem hx
        have : i = j := srt_inj hs hi hj (by rw [hn, ej])
        subst this; exact ej
      constructor
      · rintro ⟨s, hx⟩
        refine ⟨(d.1[i].2.1.length : Int), List.mem_iff_getElem.2 ⟨i, by simpa using hi, ?_⟩⟩
        rw [List.getElem_set_self, uniq t s hx]
      · rintro ⟨s, hx⟩
        rcases List.mem_or_eq_of_mem_set hx with hx | e
        · exact ⟨s, hx⟩
        · have e1 : t = d.1[i].2.1 := congrArg (·.2.1) e
          refine ⟨d.1[i].2.2, ?_⟩
          rw [e1, ← hn]; exact List.getElem_mem hi
    · constructor
      · rintro ⟨s, hs⟩; exact ⟨s, (mem_set_ne (f := (d.1[i].1, d.1[i].2.1, (d.1[i].2.1.length : Int))) hi rfl (by rw [hn]; exact hne)).2 hs⟩
      · rintro ⟨s, hs⟩; exact ⟨s, (mem_set_ne (f := (d.1[i].1, d.1[i].2.1, (d.1[i].2.1.length : Int))) hi rfl (by rw [hn]; exact hne)).1 hs⟩

theorem mem_dropF_ne {l : List FileT} {b : List UInt8} {x : FileT} (hx : x.1 ≠ b) : x ∈ dropF l b ↔ x ∈ l := by
  unfold dropF
  rcases fileIx_cases l b with ⟨e, _⟩ | ⟨i, hi, e, hn⟩
  · rw [ix_none e]
  · rw [ix_some e]; exact mem_remIx_ne hi (by rw [hn]; exact hx)

theorem ft_Rename {d : DiskT} (h : diskOk d = true) {a b n : List UInt8} (h1 : n ≠ a) (h2 : n ≠ b) : fileText (dRename a b d).1 n = fileText d n := by
  refine ft_files h (dk_Rename h a b) n fun t => ?_
  unfold actRename
  split
  · exact Iff.rfl
  rcases fileIx_cases d.1 a with ⟨e, _⟩ | ⟨i, hi, e, hn⟩
  · rw [ix_none e]
  · rw [ix_some e]
    simp only
    split
    · exact Iff.rfl
    · constructor
      · rintro ⟨s, hs⟩; exact ⟨s, (mem_insB _ _ _).2 (.inr ((mem_dropF_ne h2).2 ((mem_remIx_ne hi (by rw [hn]; exact h1)).2 hs)))⟩
      · rintro ⟨s, hs⟩
        rcases (mem_insB _ _ _).1 hs with e | hs
        · exact absurd (congrArg (·.1) e) h2
        · exact ⟨s, (mem_remIx_ne hi (by rw [hn]; exact h1)).1 ((mem_dropF_ne h2).1 hs)⟩

theorem ft_sstep {w : WorkT} {op : DiskT → DiskT × Int} {n : List UInt8} (ho : fileText (op w.1).1 n = fileText w.1 n) : fileText (sstep op w).1 n = fileText w.1 n := by
  unfold sstep; split
  · exact ho
  · rfl

theorem ft_sNew {w : WorkT} (h : diskOk w.1 = true) {m n : List UInt8} (hne : n ≠ m) : fileText (sNew m w).1 n = fileText w.1 n := by
  have h1 : diskOk (sstep (dGone m) w).1 = true := dk_sstep (op := dGone m) h fun k => dk_Gone k m
  unfold sNew
  rw [ft_sstep (op := dCreate m) (ft_Create h1 hne), ft_sstep (op := dGone m) (ft_Gone h hne)]

theorem ft_sFile {w : WorkT} (h : diskOk w.1 = true) {m n t : List UInt8} (hne : n ≠ m) : fileText (sFile m t w).1 n = fileText w.1 n := by
  have h2 : diskOk (sNew m w).1 = true := dk_sNew h m
  have h3 : diskOk (sstep (dAppend m t) (sNew m w)).1 = true := dk_sstep (op := dAppend m t) h2 fun k => dk_Append k m t
  show fileText (sstep (dSync m) (sstep (dAppend m t) (sNew m w))).1 n = _
  rw [ft_sstep (op := dSync m) (ft_Sync h3 m n), ft_sstep (op := dAppend m t) (ft_Append h2 hne), ft_sNew h hne]

abbrev tempN : List UInt8 := [116, 101, 109, 112]

abbrev liveN : List UInt8 := [108, 105, 118, 101]

theorem ft_sPut {w : WorkT} (h : diskOk w.1 = true) (v : LiveT) {n : List UInt8} (h1 : n ≠ tempN) (h2 : n ≠ liveN) : fileText (sPut v w).1 n = fileText w.1 n := by
  have h3 := dk_sFile h tempN (showLive v)
  unfold sPut
  rw [ft_sstep (op := dRename tempN liveN) (ft_Rename h3 h1 h2), ft_sFile h h1]

theorem ft_sDrop {n : List UInt8} : ∀ (names : List (List UInt8)) {w : WorkT}, diskOk w.1 = true → (∀ m ∈ names, n ≠ m) → fileText (sDrop names w).1 n = fileText w.1 n
  | [], w, _, _ => rfl
  | m :: l, w, h, hne => by
    have h1 : diskOk (sstep (dGone m) w).1 = true := dk_sstep (op := dGone m) h fun k => dk_Gone k m
    show fileText (sDrop l (sstep (dGone m) w)).1 n = _
    rw [ft_sDrop l h1 fun x hx => hne x (List.mem_cons_of_mem _ hx), ft_sstep (op := dGone m) (ft_Gone h (hne m List.mem_cons_self))]

theorem ft_cleanW {names : List (List UInt8)} {w : WorkT} {n : List UInt8} (h : diskOk w.1 = true) (hne : ∀ m ∈ names, n ≠ m) : fileText (cleanW names w).1 n = fileText w.1 n := by
  have := ft_sDrop (n := n) names (w := (w.1, 0)) h hne
  unfold cleanW; split
  · split
    · exact this
    · exact this
  · rfl

/-- What is created is empty. -/
theorem createTxt {d : DiskT} {n : List UInt8} (h : (dCreate n d).2 = 0) : fileText (dCreate n d).1 n = ([], true) := by
  obtain ⟨k, ha, hx⟩ := dstep_zero h
  have hk : diskOk (dCreate n d).1 = true := dk_Create k n
  have hx : (dCreate n d).1 = _ := hx
  unfold actCreate at ha hx
  split at ha
  · simp at ha
  rename_i c1
  rw [if_neg c1] at hx
  split at ha
  · simp at ha
  rename_i c2
  rw [if_neg c2] at hx
  split at ha
  · simp at ha
  rename_i c3
  rw [if_neg c3] at hx
  have hm : ((n, [], 0) : FileT) ∈ (dCreate n d).1.1 := by rw [hx]; exact (mem_insB _ _ _).2 (.inl rfl)
  exact fileText_mem hk hm

theorem digs_inj : ∀ (k a b : Nat), a < k → Lib.decDigits a = Lib.decDigits b → a = b
  | 0, a, b, h, _ => by omega
  | k + 1, a, b, h, e => by
    have last : ∀ n : Nat, (Lib.decDigits n).getLast? = some (UInt8.ofNat (48 + n % 10)) := fun n => by
      by_cases c : n < 10
      · rw [Lib.decDigits_one c, Nat.mod_eq_of_lt c]; rfl
      · have := digs_step (n := n) (by omega)
        unfold digs at this
        rw [if_neg (by omega), if_neg (by omega)] at this
        rw [this]; simp
    have hm : a % 10 = b % 10 := by
      have h1 := last a
      rw [e, last b] at h1
      have h2 : UInt8.ofNat (48 + b % 10) = UInt8.ofNat (48 + a % 10) := Option.some.inj h1
      have h3 := congrArg UInt8.toNat h2
      simp only [UInt8.toNat_ofNat'] at h3
      omega
    by_cases ca : a < 10
    · by_cases cb : b < 10
      · omega
      · exfalso
        have := digs_step (n := b) (by omega)
        unfold digs at this
        rw [if_neg (by omega), if_neg (by omega)] at this
        rw [this, Lib.decDigits_one ca] at e
        have hl := congrArg List.length e
        have h0 : 0 < (Lib.decDigits (b / 10)).length := by
          cases hd : Lib.decDigits (b / 10) with
          | nil => have := last (b / 10); rw [hd] at this; simp at this
          | cons x l => simp
        simp only [List.length_append, List.length_cons, List.length_nil] at hl
        omega
    · by_cases cb : b < 10
      · exfalso
        have := digs_step (n := a) (by omega)
        unfold digs at this
        rw [if_neg (by omega), if_neg (by omega)] at this
        rw [this, Lib.decDigits_one cb] at e
        have hl := congrArg List.length e
        have h0 : 0 < (Lib.decDigits (a / 10)).length := by
          cases hd : Lib.decDigits (a / 10) with
          | nil => have := last (a / 10); rw [hd] at this; simp at this
          | cons x l => simp
        simp only [List.length_append, List.length_cons, List.length_nil] at hl
        omega
      · have e1 := digs_step (n := a) (by omega)
        have e2 := digs_step (n := b) (by omega)
        unfold digs at e1 e2
        rw [if_neg (by omega), if_neg (by omega)] at e1 e2
        rw [e1, e2] at e
        have := (List.append_inj' e rfl).1
        have := digs_inj k (a / 10) (b / 10) (by omega) this
        omega

theorem segName_inj {i j : Int} (hi : 1 ≤ i ∧ i ≤ 100000) (hj : 1 ≤ j ∧ j ≤ 100000) (h : segName i = segName j) : i = j := by
  unfold segName nameN at h
  rw [if_pos hi, if_pos hj] at h
  have := digs_inj (i.toNat + 1) i.toNat j.toNat (by omega) (List.append_cancel_left h)
  omega

theorem segName_temp (i : Int) : segName i ≠ tempN := by
  unfold segName nameN
  split
  · intro h; have := congrArg List.head? h; simp at this
  · simp

theorem segName_live (i : Int) : segName i ≠ liveN := by
  unfold segName nameN
  split
  · intro h; have := congrArg List.head? h; simp at this
  · simp

theorem segName_hint (i j : Int) (hi : 1 ≤ i ∧ i ≤ 100000) : segName i ≠ hintName j := by
  unfold segName hintName nameN
  rw [if_pos hi]
  split
  · intro h; have := congrArg List.head? h; simp at this
  · simp

theorem ft_sApp {m n : List UInt8} (hne : n ≠ m) : ∀ (recs : List RecT) {w : WorkT}, diskOk w.1 = true → fileText (sApp m recs w).1 n = fileText w.1 n
  | [], w, _ => rfl
  | r :: l, w, h => by
    have h1 : diskOk (sstep (dAppend m (frame (showRec r))) w).1 = true := dk_sstep (op := dAppend m _) h fun k => dk_Append k m _
    show fileText (sApp m l (sstep _ w)).1 n = _
    rw [ft_sApp hne l h1, ft_sstep (op := dAppend m _) (ft_Append h hne)]

/-- What a new segment does to the files. -/
theorem rotP_ft {s : StoreT} {d : DiskT} (h : diskOk d = true) : ((rotP s d).1.1.1 = s.1.1 ∧ ∀ n, fileText (rotP s d).2.1 n = fileText d n) ∨
    ((rotP s d).1.1.1 = s.1.1 + 1 ∧ s.1.1 < 100000 ∧ ∀ n, n ≠ segName s.1.1 → n ≠ tempN → n ≠ liveN → fileText (rotP s d).2.1 n = fileText d n) := by
  have hs := dk_Sync h (actN s)
  have hg := dk_Gone hs (segName s.1.1)
  have hc : diskOk (sstep (dCreate (segName s.1.1)) (dGone (segName s.1.1) (dSync (actN s) d).1)).1 = true := dk_sstep (op := dCreate _) hg fun k => dk_Create k _
  have f1 : ∀ n, fileText (dSync (actN s) d).1 n = fileText d n := fun n => ft_Sync h _ n
  have f2 : ∀ n, n ≠ segName s.1.1 → fileText (sstep (dCreate (segName s.1.1)) (dGone (segName s.1.1) (dSync (actN s) d).1)).1 n = fileText d n := fun n hn => by
    rw [ft_sstep (op := dCreate _) (ft_Create hg hn), ft_Gone hs hn, f1]
  unfold rotP
  split
  · exact .inl ⟨rfl, fun _ => rfl⟩
  rename_i c1
  simp only [not_or, Nat.not_le, Int.not_le] at c1
  split
  · exact .inl ⟨rfl, f1⟩
  simp only
  split
  · exact .inr ⟨rfl, c1.2, fun n h1 _ _ => f2 n h1⟩
  have hp := dk_sPut (w := ((sstep (dCreate (segName s.1.1)) (dGone (segName s.1.1) (dSync (actN s) d).1)).1, 0)) hc (s.1.1 + 1, s.1.2 ++ [s.1.1])
  have f3 : ∀ n, n ≠ segName s.1.1 → n ≠ tempN → n ≠ liveN → fileText (sPut (s.1.1 + 1, s.1.2 ++ [s.1.1]) ((sstep (dCreate (segName s.1.1)) (dGone (segName s.1.1) (dSync (actN s) d).1)).1, 0)).1 n = fileText d n := fun n h1 h2 h3 => by
    rw [ft_sPut (w := ((sstep (dCreate (segName s.1.1)) (dGone (segName s.1.1) (dSync (actN s) d).1)).1, 0)) hc _ h2 h3]
    exact f2 n h1
  split
  · refine .inr ⟨rfl, c1.2, fun n h1 h2 h3 => ?_⟩
    show fileText (cleanW _ _).1 n = _
    rw [ft_cleanW (w := toldW _) hp (fun m hm => by
      simp only [List.mem_cons, List.not_mem_nil, or_false] at hm
      rcases hm with rfl | rfl
      · exact h2
      · exact h1)]
    exact f3 n h1 h2 h3
  · exact .inr ⟨rfl, c1.2, f3⟩

/-- No file of a segment to come; the entries lie in segments that there were. -/
structure NextN (s : StoreT) (d : DiskT) : Prop where
  ent : ∀ e ∈ s.2.1, e.2.1 < s.1.1
  fil : ∀ id, s.1.1 ≤ id → 1 ≤ id ∧ id ≤ 100000 → (fileText d (segName id)).2 = false

theorem live_last {v : LiveT} (h : liveOk v = true) : 1 ≤ lastI v.2 ∧ lastI v.2 < v.1 ∧ lastI v.2 ≤ 100000 := by
  obtain ⟨k1, k2, k3, k4⟩ := (liveOk_iff v).1 h
  rw [w64_id (by omega) (by omega)] at k1
  have hm : lastI v.2 ∈ v.2 := by
    unfold lastI
    rw [getD_lt (show v.2.length - 1 < v.2.length by omega)]
    exact List.getElem_mem _
  have := idsOk_mem _ _ k1 _ hm
  omega

theorem rotP_next {s : StoreT} {d : DiskT} (h : diskOk d = true) (hv : liveOk s.1 = true) (hn : NextN s d) : NextN (rotP s d).1 (rotP s d).2.1 ∧ s.1.1 ≤ (rotP s d).1.1.1 := by
  obtain ⟨_, _, r3, _, _, _⟩ := rotP_ok h hv
  obtain ⟨k1, k2, k3, k4⟩ := (liveOk_iff s.1).1 hv
  rcases rotP_ft (s := s) h with ⟨e1, e2⟩ | ⟨e1, e3, e2⟩
  · refine ⟨⟨fun e he => ?_, fun id h1 h2 => ?_⟩, by omega⟩
    · rw [r3] at he; rw [e1]; exact hn.ent e he
    · rw [e1] at h1; rw [e2]; exact hn.fil id h1 h2
  · refine ⟨⟨fun e he => ?_, fun id h1 h2 => ?_⟩, by omega⟩
    · rw [r3] at he; rw [e1]; have := hn.ent e he; omega
    · rw [e1] at h1
      rw [e2 (segName id) (fun hh => by have := segName_inj h2 (by omega) hh; omega) (segName_temp id) (segName_live id)]
      exact hn.fil id (by omega) h2

theorem addP_next {s : StoreT} {d : DiskT} {k : Int} (h : Good2 k s d) (hn : NextN s d) (r : RecT) : NextN (addP s d r).1 (addP s d r).2.1 ∧ s.1.1 ≤ (addP s d r).1.1.1 ∧ ((addP s d r).2.2.1 = 0 → (addP s d r).2.2.2.2.1 < (addP s d r).1.1.1) := by
  have hR : NextN (addR s d (frame (showRec r))).1 (addR s d (frame (showRec r))).2.1 ∧ s.1.1 ≤ (addR s d (frame (showRec r))).1.1.1 := by
    unfold addR; split
    · exact rotP_next h.dk h.lv hn
    · exact ⟨hn, Int.le_refl _⟩
  obtain ⟨q1, q2, q3, q4⟩ := addR_ok h (frame (showRec r))
  unfold addP
  generalize addR s d (frame (showRec r)) = R at *
  simp only
  split
  · rename_i c; exact ⟨hR.1, hR.2, fun e => absurd e c⟩
  rename_i c
  have c : R.2.2 = 0 := by simpa using c
  have hl := live_last (q4 c).lv
  have hA : NextN R.1 (dAppend (actN R.1) (frame (showRec r)) R.2.1).1 := ⟨hR.1.ent, fun id h1 h2 => by
    rw [ft_Append q1 (fun hh => by
      have := segName_inj h2 ⟨hl.1, hl.2.2⟩ hh
      omega)]
    exact hR.1.fil id h1 h2⟩
  split
  · rename_i c2
    exact ⟨hA, hR.2, fun e => absurd ((told_zero _).1 e) c2⟩
  · exact ⟨⟨hA.ent, hA.fil⟩, hR.2, fun _ => hl.2.1⟩

theorem commitG_next : ∀ (rs : List RecT) (s : StoreT) (d : DiskT) (k : Int), Good2 k s d → NextN s d → NextN (commitG rs s d).1 (commitG rs s d).2.1 ∧ s.1.1 ≤ (commitG rs s d).1.1.1 ∧ ((commitG rs s d).2.2.1 = 0 → ∀ e ∈ (commitG rs s d).2.2.2, e.2.1 < (commitG rs s d).1.1.1)
  | [], s, d, k, h, hn => ⟨hn, Int.le_refl _, fun _ e he => by simp [commitG] at he⟩
  | r :: rs, s, d, k, h, hn => by
    obtain ⟨q1, q2, q3, q4⟩ := addP_ok h r
    obtain ⟨n1, n2, n3⟩ := addP_next h hn r
    unfold commitG
    split
    · rename_i c
      exact ⟨n1, n2, fun e => absurd e c⟩
    · rename_i c
      have c : (addP s d r).2.2.1 = 0 := by simpa using c
      obtain ⟨m1, m2, m3⟩ := commitG_next rs _ _ _ (q4 c) n1
      refine ⟨m1, by show s.1.1 ≤ (commitG rs _ _).1.1.1; omega, fun e x hx => ?_⟩
      show x.2.1 < (commitG rs _ _).1.1.1
      rcases List.mem_cons.1 hx with z | hx
      · rw [z]; have := n3 c; omega
      · exact m3 e x hx

theorem mem_dirW : ∀ (l : List (PutT × EntryT)) (dir : List EntryT) (x : EntryT), x ∈ dirW dir l → x ∈ dir ∨ ∃ p ∈ l, x = p.2
  | [], dir, x, h => .inl h
  | p :: l, dir, x, h => by
    rcases mem_dirW l (dirStep dir p) x h with h | ⟨q, hq, e⟩
    · unfold dirStep at h
      split at h
      · exact .inl ((mem_dropK _ _ _).1 h).1
      · rcases (mem_insB _ _ _).1 h with e | h
        · exact .inr ⟨p, List.mem_cons_self, e⟩
        · exact .inl ((mem_dropK _ _ _).1 h).1
    · exact .inr ⟨q, List.mem_cons_of_mem _ hq, e⟩

theorem commitP_next {s : StoreT} {d : DiskT} {k : Int} (h : Good2 k s d) (hn : NextN s d) (l : List PutT) : NextN (commitP s d l).1 (commitP s d l).2.1 := by
  have h' : Good2 k (s.1, s.2.1, s.2.2.1 + 1, s.2.2.2) d := ⟨h.dk, h.lv, h.s0, h.s1⟩
  have hn' : NextN (s.1, s.2.1, s.2.2.1 + 1, s.2.2.2) d := ⟨hn.ent, hn.fil⟩
  obtain ⟨m1, m2, m3⟩ := commitG_next (recsOf s.2.2.1 l) _ _ _ h' hn'
  obtain ⟨p1, p2, p3, p4⟩ := commitG_ok (recsOf s.2.2.1 l) _ _ _ h'
  unfold commitP
  generalize commitG (recsOf s.2.2.1 l) (s.1, s.2.1, s.2.2.1 + 1, s.2.2.2) d = g at *
  simp only
  split
  · exact m1
  rename_i c
  have c : g.2.2.1 = 0 := by simpa using c
  have hA : NextN g.1 (dSync (actN g.1) g.2.1).1 := ⟨m1.ent, fun id h1 h2 => by rw [ft_Sync p1]; exact m1.fil id h1 h2⟩
  split
  · exact hA
  · refine ⟨fun e he => ?_, hA.fil⟩
    rcases mem_dirW _ _ _ he with he | ⟨p, hp, rfl⟩
    · exact m1.ent e he
    · exact m3 c _ (List.of_mem_zip hp).2

theorem entsG_seg (m : Int) : ∀ (recs : List RecT) (a : Int), ∀ e ∈ entsG m a recs, e.2.1 = m
  | [], a, e, he => by simp [entsG] at he
  | r :: rs, a, e, he => by
    unfold entsG at he
    split at he
    · rcases List.mem_cons.1 he with z | he
      · rw [z]
      · exact entsG_seg m rs _ e he
    · exact entsG_seg m rs _ e he

theorem ft_sOld {n : List UInt8} : ∀ (ids : List Int) {w : WorkT}, diskOk w.1 = true → (∀ id ∈ ids, n ≠ segName id ∧ n ≠ hintName id) → fileText (sOld ids w).1 n = fileText w.1 n
  | [], w, _, _ => rfl
  | i :: l, w, h, hne => by
    have h1 := dk_sDrop [segName i, hintName i] h
    show fileText (sOld l (sDrop [segName i, hintName i] w)).1 n = _
    rw [ft_sOld l h1 fun x hx => hne x (List.mem_cons_of_mem _ hx), ft_sDrop _ h (fun m hm => by
      simp only [List.mem_cons, List.not_mem_nil, or_false] at hm
      have := hne i List.mem_cons_self
      rcases hm with rfl | rfl
      · exact this.1
      · exact this.2)]

theorem mergeP_next {s : StoreT} {d : DiskT} (h : diskOk d = true) (hv : liveOk s.1 = true) (h2 : s.1.1 + 2 ≤ 100000) (hn : NextN s d) (l : List PairT) : NextN (mergeP s d l).1 (mergeP s d l).2.1 := by
  obtain ⟨k1, k2, k3, k4⟩ := (liveOk_iff s.1).1 hv
  rw [w64_id (by omega) (by omega)] at k1
  have hids := idsOk_mem _ _ k1
  have g0 := dk_sNew (w := (d, 0)) h (segName s.1.1)
  have g0a := dk_sApp (segName s.1.1) (keepsOf l (s.2.2.1 - 1)) g0
  have g1 := dk_sWM s.1.1 (keepsOf l (s.2.2.1 - 1)) (w := (d, 0)) h
  have g2 := dk_sNew g1 (segName (s.1.1 + 1))
  have f1 : ∀ n, n ≠ segName s.1.1 → n ≠ segName (s.1.1 + 1) → fileText (sNew (segName (s.1.1 + 1)) (sWM s.1.1 (keepsOf l (s.2.2.1 - 1)) (d, 0))).1 n = fileText d n := fun n q1 q2 => by
    rw [ft_sNew g1 q2]
    unfold sWM
    rw [ft_sstep (op := dSync _) (ft_Sync g0a _ n), ft_sApp q1 _ g0, ft_sNew (w := (d, 0)) h q1]
  unfold mergeP
  simp only
  generalize sNew (segName (s.1.1 + 1)) (sWM s.1.1 (keepsOf l (s.2.2.1 - 1)) (d, 0)) = w1 at *
  have g3 : diskOk (sHint s.1.1 w1).1 = true := by
    unfold sHint; split
    · exact g2
    · exact dk_hintStep _ g2
  have f2 : ∀ n, n ≠ hintName s.1.1 → fileText (sHint s.1.1 w1).1 n = fileText w1.1 n := fun n q => by
    unfold sHint
    split
    · rfl
    · unfold hintStep
      simp only
      have hf := dk_sFile (w := (w1.1, 0)) g2 (hintName s.1.1) (showHint (hintOf s.1.1 (fileText w1.1 (segName s.1.1)).1).1)
      split
      · rw [ft_Gone hf q, ft_sFile (w := (w1.1, 0)) g2 q]
      · rw [ft_sFile (w := (w1.1, 0)) g2 q]
  generalize sHint s.1.1 w1 = w2 at *
  have g5 : diskOk (if w2.2 = 0 then toldW (sPut (s.1.1 + 2, [s.1.1, s.1.1 + 1]) w2) else toldW w2).1 = true := by
    split
    · exact dk_sPut g3 _
    · exact g3
  have f3 : ∀ n, n ≠ tempN → n ≠ liveN → fileText (if w2.2 = 0 then toldW (sPut (s.1.1 + 2, [s.1.1, s.1.1 + 1]) w2) else toldW w2).1 n = fileText w2.1 n := fun n q1 q2 => by
    split
    · exact ft_sPut g3 _ q1 q2
    · rfl
  generalize (if w2.2 = 0 then toldW (sPut (s.1.1 + 2, [s.1.1, s.1.1 + 1]) w2) else toldW w2) = w3 at *
  have f4 : ∀ id, s.1.1 + 2 ≤ id → 1 ≤ id ∧ id ≤ 100000 → (fileText w3.1 (segName id)).2 = false := fun id q1 q2 => by
    rw [f3 _ (segName_temp id) (segName_live id), f2 _ (segName_hint id _ q2), f1 _ (fun hh => by have := segName_inj q2 (by omega) hh; omega) (fun hh => by have := segName_inj q2 (by omega) hh; omega)]
    exact hn.fil id (by omega) q2
  split
  · refine ⟨fun e he => ?_, fun id q1 q2 => ?_⟩
    · have := hn.ent e he; show e.2.1 < s.1.1 + 2; omega
    · rw [ft_cleanW g5 (fun m hm => by
        unfold mNames at hm
        simp only [List.mem_cons, List.not_mem_nil, or_false] at hm
        have q1 : s.1.1 + 2 ≤ id := q1
        rcases hm with rfl | rfl | rfl | rfl
        · exact segName_temp id
        · exact fun hh => by have := segName_inj q2 (by omega) hh; omega
        · exact fun hh => by have := segName_inj q2 (by omega) hh; omega
        · exact segName_hint id _ q2)]
      exact f4 id q1 q2
  · refine ⟨fun e he => ?_, fun id q1 q2 => ?_⟩
    · have := entsG_seg _ _ _ e he; show e.2.1 < s.1.1 + 2; omega
    · have q1 : s.1.1 + 2 ≤ id := q1
      show (fileText (sOld s.1.2 (w3.1, 0)).1 (segName id)).2 = false
      rw [ft_sOld s.1.2 (w := (w3.1, 0)) g5 (fun i hi => ⟨fun hh => by
        have := hids i hi
        have := segName_inj q2 (by omega) hh; omega, segName_hint id _ q2⟩)]
      exact f4 id q1 q2

def StoreN (s : StoreT) (d : DiskT) : Prop := s.1.2 ≠ [] → NextN s d

theorem live_ne {v : LiveT} (h : liveOk v = true) : v.2 ≠ [] := fun e => by
  have := ((liveOk_iff v).1 h).2.2.1
  rw [e] at this; simp at this

theorem spec_Merge_inv2 {s : StoreT} {d : DiskT} (h : StoreI s d) (hn : StoreN s d) : ∃ s' d' c, spec_Merge.f s d = some (s', d', c) ∧ StoreI s' d' ∧ StoreN s' d' := by
  have hl := dl_dk h.dk
  have hd := dl_lim hl (by omega)
  have hu : usedN d.1 < 1000000000 := by have := hl.2.1; omega
  have h1 := h.ids
  have h2 := h.dir
  have h3 := hl.1
  unfold spec_Merge.f
  simp only [spec_StoreOk_eq s d hd hu (show s.1.2.length < 1000000000 by omega) (show s.2.1.length < 1000000000 by omega), spec_l12Copy_eq s (show s.1.2.length < 1000000000 by omega) (show s.2.1.length < 1000000000 by omega), spec_l3Copy_eq d (show d.1.length < 1000000000000 by omega), spec_Dump_eq s d hd hu (show s.2.1.length < 1000000000 by omega), Option.bind_some]
  have hdl := dumpP_len s d
  generalize dumpP s d = R at *
  obtain ⟨L, c⟩ := R
  have hdl : L.length ≤ s.2.1.length := hdl
  cases hk : storeOk s d with
  | false => exact ⟨s, d, 4, rfl, h, hn⟩
  | true =>
    obtain ⟨q1, q2, q3, q4, q5⟩ := storeOk_parts hk
    have hd20 : s.2.1.length ≤ 20 := (dirOk_mem q3).1
    have hlv := (liveOk_iff s.1).1 q2
    simp only [Bool.not_true, cond_false, show w64 (s.1.1 + 2) = s.1.1 + 2 from w64_id (by omega) (by omega)]
    by_cases e1 : s.1.1 + 2 > 100000
    · simp only [e1, decide_true, cond_true]
      exact ⟨s, d, 5, rfl, h, hn⟩
    simp only [e1, decide_false, cond_false]
    by_cases e2 : c = 0
    rotate_left
    · have d2 : (c != 0) = true := by simpa using e2
      simp only [d2, cond_true]
      exact ⟨s, d, c, rfl, h, hn⟩
    subst e2
    simp only [bne_self_eq_false, cond_false, spec_merge_eq s d L q1 q2 (by omega) q4 (by omega), Option.bind_some]
    obtain ⟨r1, r2, r3⟩ := mergeP_ok (s := s) L q1
    exact ⟨(mergeP s d L).1, (mergeP s d L).2.1, (mergeP s d L).2.2, rfl, ⟨r1, by omega, by omega⟩, fun _ => mergeP_next q1 q2 (by omega) (hn (live_ne q2)) L⟩

theorem spec_Commit_inv2 {s : StoreT} {d : DiskT} (h : StoreI s d) (hn : StoreN s d) (l : List PutT) (hl3 : l.length ≤ 3) : ∃ s' d' c, spec_Commit.f s d l = some (s', d', c) ∧ StoreI s' d' ∧ StoreN s' d' := by
  have hl := dl_dk h.dk
  have hd := dl_lim hl (by omega)
  have hu : usedN d.1 < 1000000000 := by have := hl.2.1; omega
  have h1 := h.ids
  have h2 := h.dir
  have h3 := hl.1
  unfold spec_Commit.f
  simp only [spec_StoreOk_eq s d hd hu (show s.1.2.length < 1000000000 by omega) (show s.2.1.length < 1000000000 by omega), spec_l12Copy_eq s (show s.1.2.length < 1000000000 by omega) (show s.2.1.length < 1000000000 by omega), spec_l3Copy_eq d (show d.1.length < 1000000000000 by omega), spec_PutsOk_eq l (show l.length < 2 ^ 62 by omega), spec_l12After_eq s.2.1 l (show s.2.1.length < 100000000 by omega) (show l.length < 100000000 by omega), Option.bind_some]
  cases hk : storeOk s d with
  | false => exact ⟨s, d, 4, rfl, h, hn⟩
  | true =>
    obtain ⟨q1, q2, q3, q4, q5⟩ := storeOk_parts hk
    have hg := storeOk_good hk
    have hd20 : s.2.1.length ≤ 20 := (dirOk_mem q3).1
    simp only [Bool.not_true, cond_false]
    cases hp : putsOk l with
    | false => exact ⟨s, d, 4, rfl, h, hn⟩
    | true =>
      simp only [Bool.not_true, cond_false]
      by_cases e1 : (l.length : Int) = 0
      · have d1 : ((l.length : Int) == 0) = true := by simpa using e1
        simp only [d1, cond_true]
        exact ⟨s, d, 0, rfl, h, hn⟩
      have d1 : ((l.length : Int) == 0) = false := by simpa using e1
      simp only [d1, cond_false]
      by_cases e2 : (keysP s.2.1 l : Int) > 20
      · simp only [e2, decide_true, cond_true]
        exact ⟨s, d, 5, rfl, h, hn⟩
      simp only [e2, decide_false, cond_false]
      by_cases e3 : s.2.2.1 > 1000000
      · simp only [e3, decide_true, cond_true]
        exact ⟨s, d, 5, rfl, h, hn⟩
      simp only [e3, decide_false, cond_false, spec_commit_eq hg (by omega) l (by omega) hp (by omega) (by omega), Option.bind_some]
      obtain ⟨r1, r2, r3⟩ := commitP_ok hg l
      exact ⟨(commitP s d l).1, (commitP s d l).2.1, (commitP s d l).2.2, rfl, ⟨r1, by omega, by omega⟩, fun _ => commitP_next hg (hn (live_ne q2)) l⟩

theorem spec_Open_new2 (n : Int) (h : 0 ≤ n ∧ n ≤ 100000) : ∃ s d c, spec_Open.f (([], n, -1, false) : DiskT) = some (s, d, c) ∧ StoreI s d ∧ StoreN s d := by
  have hk := dk_new n h
  have hd := dl_lim (dl_dk hk) (by omega)
  have ht : fileText (([], n, -1, false) : DiskT) [108, 105, 118, 101] = ([], false) := by unfold fileText; rw [hk]; rfl
  have ht2 : ∀ m, fileText (([], n, -1, false) : DiskT) m = ([], false) := fun m => fileText_eq_none fun f hf => by simp at hf
  have hn := segName_len 1
  have hc := dk_Create hk (segName 1)
  have fc : ∀ m, m ≠ segName 1 → fileText (dCreate (segName 1) (([], n, -1, false) : DiskT)).1 m = ([], false) := fun m hm => by rw [ft_Create hk hm, ht2]
  have ec : spec_Create.f (([], n, -1, false) : DiskT) (segName 1) = some (dCreate (segName 1) ([], n, -1, false)) := spec_Create_eq _ _ hd (by omega)
  unfold spec_Open.f
  simp only [spec_DiskOk_eq _ hd, hk, Option.bind_some, Bool.not_true, cond_false, spec_FileText_eq _ _ hd, ht, Bool.not_false, cond_true]
  have e1 : ∃ s d c, spec_l11First.f (([], n, -1, false) : DiskT) = some (s, d, c) ∧ StoreI s d ∧ StoreN s d := by
    unfold spec_l11First.f
    simp only [spec_Sweep_new n h, Option.bind_some, bne_self_eq_false, cond_false, spec_SegName_eq, ec]
    generalize dCreate (segName 1) ([], n, -1, false) = w at *
    obtain ⟨x, c⟩ := w
    have hc : diskOk x = true := hc
    have fc : ∀ m, m ≠ segName 1 → fileText x m = ([], false) := fc
    by_cases c1 : c = 0
    rotate_left
    · have d1 : (c != 0) = true := by simpa using c1
      simp only [d1, cond_true, spec_l11Code_eq, Option.bind_some]
      exact ⟨_, _, _, rfl, ⟨hc, by simp, by simp⟩, fun e => absurd rfl e⟩
    subst c1
    have hp : diskOk (putLive x (2, [1])).1 = true ∧ ∀ m, m ≠ segName 1 → m ≠ tempN → m ≠ liveN → fileText (putLive x (2, [1])).1 m = ([], false) := by
      unfold putLive; split
      · exact ⟨hc, fun m q1 _ _ => fc m q1⟩
      · exact ⟨dk_sPut (w := (x, 0)) hc _, fun m q1 q2 q3 => by
          show fileText (sPut (2, [1]) (x, 0)).1 m = _
          rw [ft_sPut (w := (x, 0)) hc _ q2 q3]; exact fc m q1⟩
    simp only [bne_self_eq_false, cond_false, spec_PutLive_eq x (2, [1]) (dl_dk hc) (by omega) (by simp), Option.bind_some]
    generalize putLive x (2, [1]) = w at *
    obtain ⟨y, c⟩ := w
    obtain ⟨hp, hf⟩ := hp
    have hp : diskOk y = true := hp
    by_cases c1 : c = 0
    · subst c1
      simp only [bne_self_eq_false, cond_false]
      refine ⟨_, _, _, rfl, ⟨hp, by simp, by simp⟩, fun _ => ⟨fun e he => by simp at he, fun id q1 q2 => ?_⟩⟩
      have q1 : 2 ≤ id := q1
      have hf := hf (segName id) (fun hh => by have := segName_inj q2 (by omega) hh; omega) (segName_temp id) (segName_live id)
      show (fileText y (segName id)).2 = false
      rw [show fileText y (segName id) = ([], false) from hf]
    · have d1 : (c != 0) = true := by simpa using c1
      simp only [d1, cond_true]
      exact ⟨_, _, _, rfl, ⟨hp, by simp, by simp⟩, fun e => absurd rfl e⟩
  obtain ⟨s, d, c, e1, h1⟩ := e1
  simp only [e1, Option.bind_some]
  exact ⟨s, d, c, rfl, h1⟩

theorem l12Store_ok2 {c : CurT} (h : Cur c) : ∃ s d c', spec_l12Store.f c = some (s, d, c') ∧ (StoreI s d ∧ StoreN s d) ∧ Cur c' := by
  obtain ⟨v, c1, e1, hv, h1⟩ := l1PickInt_ok h [100000, 100000, 400, 250] (by decide)
  have hv : 0 ≤ v ∧ v ≤ 100000 := by
    simp only [List.mem_cons, List.not_mem_nil, or_false] at hv
    omega
  have e2 : spec_DiskNew.f v = some (([], v, -1, false) : DiskT) := by
    unfold spec_DiskNew.f
    rw [spec_l1In_eq]; simp [hv]
  obtain ⟨s, d, k, e3, h3⟩ := spec_Open_new2 v hv
  obtain ⟨n, c4, e4, a4, b4, _, h4⟩ := l1Below_ok h1 7
  have b4 := b4 (by omega)
  obtain ⟨m, rfl⟩ : ∃ m : Nat, n = (m : Int) := ⟨n.toNat, by omega⟩
  have key := lp_ok (step := spec_l12Store.l0) (a := (c4, ((0, []), [], 0, 0, 0), ([], 0, 0, false), s, d, (m : Int))) (fun a => Cur a.1 ∧ (StoreI a.2.2.2.1 a.2.2.2.2.1 ∧ StoreN a.2.2.2.1 a.2.2.2.2.1) ∧ ∃ k : Nat, a.2.2.2.2.2 = (k : Int) ∧ k ≤ 10) (fun a => a.2.2.2.2.2.toNat) (fun b => match b with | .inl x => Cur x.1 ∧ (StoreI x.2.2.2.1 x.2.2.2.2 ∧ StoreN x.2.2.2.1 x.2.2.2.2) | .inr x => Cur x.1 ∧ (StoreI x.2.1 x.2.2 ∧ StoreN x.2.1 x.2.2))
    (fun rec a ha => by
      obtain ⟨c5, z1, z2, S, D, i⟩ := a
      obtain ⟨h5, hS, k, hk, hk10⟩ := ha
      simp only at h5 hS hk
      subst hk
      by_cases k0 : k = 0
      · left
        subst k0
        exact ⟨.inl (c5, z1, z2, S, D), by simp [spec_l12Store.l0], h5, hS⟩
      have e0 : (k : Int) > 0 := by omega
      have hw : w64 ((k : Int) - 1) = ((k - 1 : Nat) : Int) := by rw [w64_id (by omega) (by omega)]; omega
      simp only [spec_l12Store.l0, e0, decide_true, cond_true]
      cases d0 : ((S.1.2.length : Int) == 0)
      rotate_left
      · left
        simp only [cond_true, Option.bind_some, caseS_r]
        exact ⟨_, rfl, h5, hS⟩
      right
      obtain ⟨o, c6, e6, h6⟩ := l1Once_ok h5 6
      simp only [cond_false, e6, Option.bind_some]
      cases o
      · obtain ⟨l, c7, e7, hl, _, h7⟩ := l12Puts_ok h6
        obtain ⟨S', D', q, e8, h8⟩ := spec_Commit_inv2 hS.1 hS.2 l hl
        simp only [cond_false, e7, e8, Option.bind_some, caseS_l, hw]
        exact ⟨(c7, z1, z2, S', D', ((k - 1 : Nat) : Int)), ⟨h7, h8, k - 1, rfl, by omega⟩, by simp only [Int.toNat_natCast]; omega, rfl⟩
      · obtain ⟨S', D', q, e8, h8⟩ := spec_Merge_inv2 hS.1 hS.2
        simp only [cond_true, e8, Option.bind_some, caseS_l, hw]
        exact ⟨(c6, z1, z2, S', D', ((k - 1 : Nat) : Int)), ⟨h6, h8, k - 1, rfl, by omega⟩, by simp only [Int.toNat_natCast]; omega, rfl⟩)
    ⟨h4, h3, m, rfl, by omega⟩ (by simp only [Int.toNat_natCast]; omega)
  obtain ⟨b, eb, hb⟩ := key
  unfold spec_l12Store.f
  simp only [e1, e2, e3, e4, Option.bind_some, eb]
  cases b with
  | inl x => simp only [caseS_l]; exact ⟨_, _, _, rfl, hb.2, hb.1⟩
  | inr x => simp only [caseS_r]; exact ⟨_, _, _, rfl, hb.2, hb.1⟩

/-- A right store's entries do not lie in the segment to come. -/
def NoNext (s : StoreT) (d : DiskT) : Prop := storeOk s d = true → ∀ e ∈ s.2.1, e.2.1 ≠ s.1.1

theorem noNext_real {s0 s : StoreT} {d0 d : DiskT} (hn : StoreN s0 d0) (h1 : s.1 = s0.1) (h2 : s.2.1 = s0.2.1) : NoNext s d := fun hk e he => by
  have hne := live_ne (storeOk_parts hk).2.1
  rw [h1] at hne
  have := (hn hne).ent e (by rw [← h2]; exact he)
  rw [h1]; omega

theorem noNext_dir {s0 s : StoreT} {d : DiskT} (hn : StoreN s0 d) (h1 : s.1 = s0.1) : NoNext s d := fun hk e he hh => by
  obtain ⟨q1, q2, q3, q4, q5⟩ := storeOk_parts hk
  have hne := live_ne q2
  have hlv := (liveOk_iff s.1).1 q2
  rw [h1] at hne
  have k := storeOk_ent hk e he
  have hf := (hn hne).fil e.2.1 (by rw [hh, h1]; exact Int.le_refl _) (by rw [hh]; omega)
  have ht : (fileText d (segName e.2.1)).1 = [] := by
    revert hf
    unfold fileText
    split
    · intro _; rfl
    · rcases fileIx_cases d.1 (segName e.2.1) with ⟨e', _⟩ | ⟨i, hi, e', _⟩
      · rw [ix_none e']; intro _; rfl
      · rw [ix_some e']; intro z; simp at z
  unfold entOk at k
  rw [ht, recAt_nil] at k
  simp at k

theorem l12Any_ok2 {c : CurT} (h : Cur c) : ∃ s d c', spec_l12Any.f c = some (s, d, c') ∧ (DrawnS s d ∧ NoNext s d) ∧ Cur c' := by
  obtain ⟨s, d, c1, e1, ⟨hs, hnx⟩, h1⟩ := l12Store_ok2 h
  obtain ⟨x, c2, e2, _, _, _, h2⟩ := l1Below_ok h1 16
  have hdl := dl_dk hs.dk
  have hsm : ∀ y : Int × Int × Bool, dSmall (d.1, y) := fun y => ⟨by have := hdl.1; show d.1.length < _; omega, by have := hdl.2.1; show usedN d.1 < _; omega, fun f hf => by have := hdl.2.2 f hf; omega⟩
  have hI := hs.ids
  have hD := hs.dir
  unfold spec_l12Any.f
  simp only [e1, e2, Option.bind_some]
  cases d0 : (x == 0)
  rotate_left
  · simp only [cond_true]
    exact ⟨_, _, _, rfl, ⟨⟨hsm _, hI, hD⟩, noNext_real hnx rfl rfl⟩, h2⟩
  cases d1 : (x == 1)
  rotate_left
  · obtain ⟨l, c3, e3, hl, h3⟩ := l8Dir_ok h2
    simp only [cond_true, cond_false, e3, Option.bind_some]
    exact ⟨_, _, _, rfl, ⟨⟨hsm _, hI, hl⟩, noNext_dir hnx rfl⟩, h3⟩
  cases d2 : (x == 2)
  rotate_left
  · obtain ⟨v, c3, e3, _, h3⟩ := l1PickInt_ok h2 [0, 1000000, 1000001, 1000002, 1] (by decide)
    simp only [cond_true, cond_false, e3, Option.bind_some]
    exact ⟨_, _, _, rfl, ⟨⟨hsm _, hI, hD⟩, noNext_real hnx rfl rfl⟩, h3⟩
  cases d3 : (x == 3)
  rotate_left
  · obtain ⟨D, c3, e3, hD3, h3⟩ := l3Any_ok h2
    simp only [cond_true, cond_false, e3, Option.bind_some]
    exact ⟨_, _, _, rfl, ⟨⟨hD3, hI, hD⟩, noNext_real hnx rfl rfl⟩, h3⟩
  obtain ⟨v, c3, e3, _, _, _, h3⟩ := l1Below_ok h2 12
  simp only [cond_false]
  cases d4 : (x == 4)
  rotate_left
  · simp only [cond_true, Option.bind_some, e3]
    exact ⟨_, _, _, rfl, ⟨⟨hsm _, hI, hD⟩, noNext_real hnx rfl rfl⟩, h3⟩
  simp only [cond_false, Option.bind_some]
  cases d5 : (x == 5)
  rotate_left
  · simp only [cond_true, e3, Option.bind_some]
    exact ⟨_, _, _, rfl, ⟨⟨hsm _, hI, hD⟩, noNext_real hnx rfl rfl⟩, h3⟩
  simp only [cond_false]
  cases d6 : (x == 6)
  · simp only [cond_false]
    exact ⟨_, _, _, rfl, ⟨⟨hsm _, hI, hD⟩, noNext_real hnx rfl rfl⟩, h2⟩
  · simp only [cond_true]
    refine ⟨_, _, _, rfl, ⟨⟨hsm _, by simp, hD⟩, fun hk => ?_⟩, h2⟩
    exact absurd rfl (live_ne (storeOk_parts hk).2.1)

theorem dirGet_cases (l : List EntryT) (key : List UInt8) : (dirGet l key).2 = false ∨ ((dirGet l key).2 = true ∧ (dirGet l key).1 ∈ l) := by
  unfold dirGet
  cases h : l.find? fun e => e.1 == key with
  | none => exact .inl rfl
  | some e => exact .inr ⟨rfl, List.mem_of_find?_eq_some h⟩

theorem getP_congr {s s' : StoreT} {d d' : DiskT} (h1 : s'.2.1 = s.2.1) (hf : ∀ e ∈ s.2.1, fileText d' (segName e.2.1) = fileText d (segName e.2.1)) (key : List UInt8) : getP s' d' key = getP s d key := by
  unfold getP
  rw [h1]
  rcases dirGet_cases s.2.1 key with h | ⟨h, hm⟩
  · rw [if_pos h, if_pos h]
  · simp only [hf _ hm]

theorem dumpL_congr {s s' : StoreT} {d d' : DiskT} (h : ∀ key, getP s' d' key = getP s d key) : ∀ (l : List EntryT) (acc : List PairT), dumpL s' d' l acc = dumpL s d l acc
  | [], _ => rfl
  | e :: r, acc => by
    unfold dumpL
    rw [h, dumpL_congr h r]

theorem dumpP_congr {s s' : StoreT} {d d' : DiskT} (h1 : s'.2.1 = s.2.1) (hf : ∀ e ∈ s.2.1, fileText d' (segName e.2.1) = fileText d (segName e.2.1)) : dumpP s' d' = dumpP s d := by
  unfold dumpP
  rw [h1, dumpL_congr (getP_congr h1 hf)]

theorem entOk_congr {d d' : DiskT} {b : Int} {e : EntryT} (hf : fileText d' (segName e.2.1) = fileText d (segName e.2.1)) : entOk d' b e = entOk d b e := by
  unfold entOk; rw [hf]

theorem scan_nil : scan [] = ([], 0) := by
  have := scanAt_end (s := [])
  exact this

theorem segsOk_more {d d' : DiskT} {z : Int} {m : Int} (hm : fileText d' (segName m) = ([], true)) : ∀ (ids : List Int), (∀ id ∈ ids, fileText d' (segName id) = fileText d (segName id)) → segsOk d z ids = true → segsOk d' 0 (ids ++ [m]) = true
  | [], _, _ => by
    show (segOk d' 0 true m && true) = true
    unfold segOk
    rw [hm]
    simp only [scan_nil]
    simp
  | x :: l, hf, h => by
    unfold segsOk at h
    simp only [Bool.and_eq_true] at h
    have ih := segsOk_more hm l (fun id hi => hf id (List.mem_cons_of_mem _ hi)) h.2
    rw [List.cons_append]
    unfold segsOk
    rw [ih, Bool.and_true]
    have hx := h.1
    unfold segOk at hx ⊢
    rw [hf x List.mem_cons_self]
    simp only [Bool.and_eq_true] at hx ⊢
    refine ⟨hx.1, hx.2.1, ?_⟩
    have : (l ++ [m]).isEmpty = false := by cases l <;> rfl
    rw [this]; rfl

theorem rotP_new {s : StoreT} {d : DiskT} (h : diskOk d = true) (hc : (rotP s d).2.2 = 0) : (rotP s d).1 = ((s.1.1 + 1, s.1.2 ++ [s.1.1]), s.2.1, s.2.2.1, 0, s.2.2.2.2) ∧ fileText (rotP s d).2.1 (segName s.1.1) = ([], true) ∧ s.1.2.length < 60 ∧ s.1.1 < 100000 := by
  have hs := dk_Sync h (actN s)
  have hg := dk_Gone hs (segName s.1.1)
  have hd : diskOk (sstep (dCreate (segName s.1.1)) (dGone (segName s.1.1) (dSync (actN s) d).1)).1 = true := dk_sstep (op := dCreate _) hg fun k => dk_Create k _
  unfold rotP at hc ⊢
  split at hc
  · exact absurd hc (show ¬ (5 : Int) = 0 by decide)
  rename_i c1
  split at hc
  · rename_i c2; exact absurd ((told_zero _).1 hc) c2
  rename_i c2
  simp only at hc
  split at hc
  · rename_i c3; exact absurd ((told_zero _).1 hc) c3
  rename_i c3
  split at hc
  · rename_i c4
    exfalso
    revert hc
    unfold cleanW
    simp only
    split
    · split
      · simp
      · rename_i c5; exact c5
    · exact c4
  rename_i c4
  rw [if_neg c1, if_neg c2]
  simp only
  rw [if_neg c3, if_neg c4]
  simp only [not_or, Nat.not_le, Int.not_le] at c1
  refine ⟨rfl, ?_, c1.1, c1.2⟩
  have c3 : (sstep (dCreate (segName s.1.1)) (dGone (segName s.1.1) (dSync (actN s) d).1)).2 = 0 := by simpa using c3
  show fileText (sPut _ _).1 _ = _
  rw [ft_sPut (w := ((sstep (dCreate (segName s.1.1)) (dGone (segName s.1.1) (dSync (actN s) d).1)).1, 0)) hd _ (segName_temp _) (segName_live _)]
  show fileText (sstep (dCreate (segName s.1.1)) (dGone (segName s.1.1) (dSync (actN s) d).1)).1 _ = _
  generalize dGone (segName s.1.1) (dSync (actN s) d).1 = g at *
  obtain ⟨x, k⟩ := g
  by_cases hk : k = 0
  · subst hk
    rw [sstep_z] at c3 ⊢
    exact createTxt c3
  · rw [sstep_ne hk] at c3; exact absurd c3 hk

/-- The texts of the entries' segments, and of the listed ones, stay. -/
theorem rotP_seen {s : StoreT} {d : DiskT} (hk : storeOk s d = true) (hx : ∀ e ∈ s.2.1, e.2.1 ≠ s.1.1) : (∀ e ∈ s.2.1, fileText (rotP s d).2.1 (segName e.2.1) = fileText d (segName e.2.1)) ∧ ∀ id ∈ s.1.2, fileText (rotP s d).2.1 (segName id) = fileText d (segName id) := by
  obtain ⟨q1, q2, q3, q4, q5⟩ := storeOk_parts hk
  obtain ⟨k1, k2, k3, k4⟩ := (liveOk_iff s.1).1 q2
  rw [w64_id (by omega) (by omega)] at k1
  have key : ∀ i : Int, 1 ≤ i ∧ i ≤ 100000 → i ≠ s.1.1 → fileText (rotP s d).2.1 (segName i) = fileText d (segName i) := fun i hi hne => by
    rcases rotP_ft (s := s) q1 with ⟨_, e2⟩ | ⟨_, _, e2⟩
    · exact e2 _
    · exact e2 _ (fun hh => hne (segName_inj hi (by omega) hh)) (segName_temp i) (segName_live i)
  refine ⟨fun e he => key _ ?_ (hx e he), fun id hi => key _ ?_ ?_⟩
  · have := (dirOk_mem q3).2 e he
    unfold entryOk at this
    simp only [Bool.and_eq_true, decide_eq_true_eq] at this
    exact this.2.1
  · have := idsOk_mem _ _ k1 id hi; omega
  · have := idsOk_mem _ _ k1 id hi; omega

theorem rotP_right {s : StoreT} {d : DiskT} (hk : storeOk s d = true) (hx : ∀ e ∈ s.2.1, e.2.1 ≠ s.1.1) (hc : (rotP s d).2.2 = 0) : storeOk (rotP s d).1 (rotP s d).2.1 = true ∧ segN (rotP s d).2.1 ((rotP s d).1.1.2.take 60) = segN d (s.1.2.take 60) := by
  obtain ⟨q1, q2, q3, q4, q5⟩ := storeOk_parts hk
  obtain ⟨k1, k2, k3, k4⟩ := (liveOk_iff s.1).1 q2
  obtain ⟨r1, r2, r3, r4, r5, r6⟩ := rotP_ok q1 q2
  obtain ⟨f1, f2⟩ := rotP_seen hk hx
  obtain ⟨e1, e2, e3, e4⟩ := rotP_new q1 hc
  have hent := storeOk_ent hk
  constructor
  · unfold storeOk
    have h5 := segsOk_more (d := d) (z := s.2.2.2.1) e2 s.1.2 f2 q5
    rw [e1] at *
    simp only [Bool.and_eq_true, decide_eq_true_eq, List.all_eq_true]
    refine ⟨r1, liveOk_more q2 e3 e4, q3, q4, h5, fun e he => ?_⟩
    rw [entOk_congr (f1 e he)]
    exact hent e he
  · rw [e1]
    simp only
    have t1 : s.1.2.take 60 = s.1.2 := List.take_of_length_le (by omega)
    have t2 : (s.1.2 ++ [s.1.1]).take 60 = s.1.2 ++ [s.1.1] := List.take_of_length_le (by simp; omega)
    rw [t1, t2]
    unfold segN
    rw [sumN_snoc]
    simp only [e2, List.length_nil, Nat.add_zero]
    generalize s.1.2 = l at f2
    induction l with
    | nil => rfl
    | cons x l ih =>
      simp only [sumN]
      rw [f2 x List.mem_cons_self, ih fun id hi => f2 id (List.mem_cons_of_mem _ hi)]

theorem sameDir_self (l : List EntryT) (hl : l.length < 1000000000) : spec_SameDir.f l l = some true := by
  have key := all_loop (step := spec_SameDir.l0) l (fun _ => true) (fun n => (l, l, (n : Int))) () (by omega)
    (fun rec n h1 => by
      have hw := w64_succ (show n + 1 < 9223372036854775808 by omega)
      simp only [spec_SameDir.l0, Int.ofNat_lt, h1, decide_true, cond_true, inB_nat, rdA_nat, getD_lt h1, beq_self_eq_true, Bool.and_self, Bool.not_true, cond_false, hw, if_true])
    (fun rec => by simp [spec_SameDir.l0])
  have key : lp spec_SameDir.l0 (l, l, 0) = _ := key
  unfold spec_SameDir.f
  have hall : l.all (fun _ => true) = true := by simp
  rw [key, hall]
  simp only [bne_self_eq_false, cond_false, if_true, Option.bind_some, caseS_l]

theorem FnRotated_true (x0 : List Int) (w0 : wfD (.sl false (.int .u8)) x0) : laws_FnRotated.f x0 = some true := by
  unfold laws_FnRotated.f
  rw [big_eq, Option.bind_some]
  by_cases cb : (x0.length : Int) > 1048576
  · simp [cb]
  simp only [cb, decide_false, cond_false]
  obtain ⟨c0, e0, h0⟩ := l1New_ok x0 (by omega)
  obtain ⟨s, d, c1, e1, ⟨hs, hnn⟩, h1⟩ := l12Any_ok2 h0
  have ed : spec_DrawRotate.f x0 = some (s, d) := by
    unfold spec_DrawRotate.f
    simp only [e0, e1, Option.bind_some]
  have hI := hs.ids
  have hD := hs.dir
  have hsm : dl 200000 d := hs.sm
  have hd := dl_lim hsm (by omega)
  have hu : usedN d.1 < 1000000000 := by have := hsm.2.1; omega
  have hb1 := hsm.1
  have hS : spec_Rotate.f s d = some (if storeOk s d then rotP s d else (s, d, 4)) ∧ impl_Rotate.f s d = some (if storeOk s d then rotP s d else (s, d, 4)) := by
    unfold spec_Rotate.f impl_Rotate.f
    simp only [impl_StoreOk_eq s d hd hu (show s.1.2.length < 1000000000 by omega) (show s.2.1.length < 1000000000 by omega), spec_StoreOk_eq s d hd hu (show s.1.2.length < 1000000000 by omega) (show s.2.1.length < 1000000000 by omega), Option.bind_some, spec_l12Copy_eq s (show s.1.2.length < 1000000000 by omega) (show s.2.1.length < 1000000000 by omega), impl_copyStore_eq s (show s.1.2.length < 1000000000 by omega) (show s.2.1.length < 1000000000 by omega), spec_l3Copy_eq d (show d.1.length < 1000000000000 by omega), impl_copyDisk_eq d (show d.1.length < 1000000000000 by omega)]
    cases hk : storeOk s d with
    | false => exact ⟨rfl, rfl⟩
    | true =>
      obtain ⟨q1, q2, q3, q4, q5⟩ := storeOk_parts hk
      simp only [Bool.not_true, cond_false, spec_l12Rotate_eq s d q1 q2, impl_rotate_eq s d q1 q2, Option.bind_some, if_true]
      exact ⟨by first | trivial | rfl, by first | trivial | rfl⟩
  obtain ⟨eS, eI⟩ := hS
  simp only [ed, eS, eI, Option.bind_some, bne_self_eq_false, cond_false]
  have ld : ∀ (s : StoreT) (d : DiskT), dlim d → usedN d.1 < 1000000000 → s.2.1.length < 1000000000 → laws_dump.f s d = some (dumpP s d).1 := fun s d h1 h2 h3 => by
    unfold laws_dump.f
    rw [spec_Dump_eq s d h1 h2 h3]; rfl
  have hlen : ∀ (s : StoreT) (d : DiskT), s.2.1.length < 1000000000 → (dumpP s d).1.length < 2 ^ 62 := fun s d h => by
    have := dumpP_len s d; omega
  cases hk : storeOk s d with
  | false =>
    simp only [Bool.false_eq_true, if_false, sameDir_self s.2.1 (by omega), Option.bind_some, Bool.not_true, cond_false, ld s d hd hu (by omega), spec_SamePairs_eq _ _ (hlen s d (by omega)), decide_true]
    rfl
  | true =>
    obtain ⟨q1, q2, q3, q4, q5⟩ := storeOk_parts hk
    obtain ⟨r1, r2, r3, r4, r5, r6⟩ := rotP_ok q1 q2
    have hlv := (liveOk_iff s.1).1 q2
    have hnx := hnn hk
    obtain ⟨f1, f2⟩ := rotP_seen hk hnx
    have hdump : dumpP (rotP s d).1 (rotP s d).2.1 = dumpP s d := dumpP_congr r3 f1
    have hl := dl_dk r1
    have hd' := dl_lim hl (by omega)
    have hu' : usedN (rotP s d).2.1.1 < 1000000000 := by have := hl.2.1; omega
    have hb' := hl.1
    have z1 : (rotP s d).1.2.1.length < 1000000000 := by rw [r3]; omega
    have z2 : (rotP s d).1.1.2.length < 1000000000 := by omega
    simp only [if_true, r3, sameDir_self s.2.1 (by omega), Option.bind_some, Bool.not_true, cond_false, ld s d hd hu (by omega), ld _ _ hd' hu' z1, hdump, spec_SamePairs_eq _ _ (hlen s d (by omega)), decide_true, spec_StoreOk_eq _ _ hd' hu' z2 z1, spec_SegBytes_eq s d hd (show s.1.2.length < 1000000000 by omega), spec_SegBytes_eq _ _ hd' z2]
    by_cases hc : (rotP s d).2.2 = 0
    · obtain ⟨k1, k2⟩ := rotP_right hk hnx hc
      obtain ⟨n1, n2, n3, n4⟩ := rotP_new q1 hc
      have g1 : ((rotP s d).1.1.2.length : Int) = w64 ((s.1.2.length : Int) + 1) := by
        rw [w64_id (by omega) (by omega), n1]; simp
      have g2 : (rotP s d).1.1.1 = w64 (s.1.1 + 1) := by
        rw [w64_id (by omega) (by omega), n1]
      have g3 : (rotP s d).1.2.2.2.1 = 0 := by rw [n1]
      simp only [k1, k2, hc, g1, g2, g3, bne_self_eq_false, cond_false, cond_true, beq_self_eq_true]
    · have : ((rotP s d).2.2 != 0) = true := by simpa using hc
      simp only [this, cond_true]
      cases (rotP s d).2.2 == 1 <;> rfl

end Go.Rf.G
