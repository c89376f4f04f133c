/- Plain laws: Valid, NetWrites, Fold. -/
import Derived.Test.YtaijmhaonokniaaLb
namespace Go.Rf.G
open Go Go.Rf
set_option linter.unusedVariables false
set_option linter.unusedSimpArgs false
set_option synthInstance.maxSize 4000

abbrev PutT := List UInt8 × Bool × List UInt8
abbrev PairT := List UInt8 × List UInt8 × Int
abbrev EntryT := List UInt8 × Int × Int × Int × Int
abbrev RowT := List UInt8 × Int
abbrev TxnT := Bool × List (List UInt8 × Int) × List (List UInt8 × Bool × List UInt8)

/-! ### a directory's entry -/

def dirGet (l : List EntryT) (key : List UInt8) : EntryT × Bool :=
  match l.find? (fun e => e.1 == key) with
  | some e => (e, true)
  | none => (([], 0, 0, 0, 0), false)

theorem impl_DirGet_eq (l : List EntryT) (key : List UInt8) (hl : l.length < 2 ^ 62) : impl_DirGet.f l key = some (dirGet l key) := by
  have hk := find_loop (step := impl_DirGet.l0) l (fun e => e.1 == key) (fun e => (e, true)) (fun n => (key, ([], 0, 0, 0, 0), l, (l.length : Int), (n : Int))) ([], 0, 0, 0, 0) hl
    (fun rec n h => by
      simp only [impl_DirGet.l0, Int.ofNat_lt, h, decide_true, cond_true, inB_nat, rdA_nat, getD_lt h, pair_eta, w64_succ (show n + 1 < 9223372036854775808 by omega)]
      cases l[n].1 == key <;> simp)
    (fun rec => by simp [impl_DirGet.l0])
  have hk : lp impl_DirGet.l0 (key, ([], 0, 0, 0, 0), l, (l.length : Int), 0) = _ := hk
  unfold impl_DirGet.f dirGet
  rw [hk, Option.bind_some]
  cases List.find? (fun e => e.1 == key) l <;> rfl

theorem spec_DirGet_eq (l : List EntryT) (key : List UInt8) (hl : l.length < 2 ^ 62) : spec_DirGet.f l key = some (dirGet l key) := by
  have hk := find_loop (step := spec_DirGet.l0) l (fun e => e.1 == key) (fun e => (e, true)) (fun n => (l, key, ([], 0, 0, 0, 0), (n : Int))) ([], 0, 0, 0, 0) hl
    (fun rec n h => by
      simp only [spec_DirGet.l0, Int.ofNat_lt, h, decide_true, cond_true, inB_nat, rdA_nat, getD_lt h, pair_eta, w64_succ (show n + 1 < 9223372036854775808 by omega)]
      cases l[n].1 == key <;> simp)
    (fun rec => by simp [spec_DirGet.l0])
  have hk : lp spec_DirGet.l0 (l, key, ([], 0, 0, 0, 0), 0) = _ := hk
  unfold spec_DirGet.f dirGet
  rw [hk, Option.bind_some]
  cases List.find? (fun e => e.1 == key) l <;> rfl

def validB (t : TxnT) (dir : List EntryT) : Bool := t.2.1.all fun r => (dirGet dir r.1).1.2.2.2.2 == r.2

theorem impl_Valid_eq (t : TxnT) (dir : List EntryT) (h1 : t.2.1.length < 2 ^ 62) (h2 : dir.length < 2 ^ 62) : impl_Valid.f t dir = some (validB t dir) := by
  have hk := all_loop (step := impl_Valid.l0) t.2.1 (fun r => (dirGet dir r.1).1.2.2.2.2 == r.2) (fun n => (dir, t.2.1, (t.2.1.length : Int), (n : Int))) () h1
    (fun rec n h => by
      simp only [impl_Valid.l0, Int.ofNat_lt, h, decide_true, cond_true, inB_nat, rdA_nat, getD_lt h, impl_DirGet_eq dir _ h2, Option.bind_some, w64_succ (show n + 1 < 9223372036854775808 by omega), bne]
      cases (dirGet dir t.2.1[n].1).1.2.2.2.2 == t.2.1[n].2 <;> simp)
    (fun rec => by simp [impl_Valid.l0])
  have hk : lp impl_Valid.l0 (dir, t.2.1, (t.2.1.length : Int), 0) = _ := hk
  unfold impl_Valid.f validB
  rw [hk, Option.bind_some]
  cases List.all t.2.1 _ <;> rfl

theorem spec_Valid_eq (t : TxnT) (dir : List EntryT) (h1 : t.2.1.length < 2 ^ 62) (h2 : dir.length < 2 ^ 62) : spec_Valid.f t dir = some (validB t dir) := by
  have hk := all_loop (step := spec_Valid.l0) t.2.1 (fun r => (dirGet dir r.1).1.2.2.2.2 == r.2) (fun n => (dir, t, (n : Int))) () h1
    (fun rec n h => by
      simp only [spec_Valid.l0, Int.ofNat_lt, h, decide_true, cond_true, inB_nat, rdA_nat, getD_lt h, spec_DirGet_eq dir _ h2, Option.bind_some, w64_succ (show n + 1 < 9223372036854775808 by omega), bne]
      cases (dirGet dir t.2.1[n].1).1.2.2.2.2 == t.2.1[n].2 <;> simp)
    (fun rec => by simp [spec_Valid.l0])
  have hk : lp spec_Valid.l0 (dir, t, 0) = _ := hk
  unfold spec_Valid.f validB
  rw [hk, Option.bind_some]
  cases List.all t.2.1 _ <;> rfl

/-! ### net writes -/

/-- The keys, each where it comes first. -/
def firsts (l : List PutT) : List (List UInt8) := l.foldl (fun ks p => if p.1 ∈ ks then ks else ks ++ [p.1]) []

def netW (l : List PutT) : List PutT := (firsts l).map fun k => (ownW l k).1

theorem firsts_snoc (l : List PutT) (p : PutT) : firsts (l ++ [p]) = if p.1 ∈ firsts l then firsts l else firsts l ++ [p.1] := by
  unfold firsts; rw [List.foldl_append]; rfl

theorem ownW_snoc (l : List PutT) (p : PutT) (k : List UInt8) : ownW (l ++ [p]) k = if p.1 = k then (p, true) else ownW l k := by
  unfold ownW lastOf
  rw [List.reverse_append, List.reverse_cons, List.reverse_nil, List.nil_append, List.cons_append, List.nil_append, List.find?_cons]
  by_cases h : p.1 = k
  · simp [h]
  · have : (p.1 == k) = false := by simpa using h
    simp [h, this]

/-- One list grows cell by cell. -/
theorem snoc_ind {α : Type} {P : List α → Prop} (h0 : P []) (hs : ∀ l x, P l → P (l ++ [x])) : ∀ l, P l := by
  have key : ∀ n (l : List α), l.length = n → P l := by
    intro n
    induction n with
    | zero => intro l h; rw [List.eq_nil_of_length_eq_zero h]; exact h0
    | succ n ih =>
      intro l h
      have hlt : n < l.length := by omega
      have e : l.take n ++ [l[n]] = l := by
        rw [← List.take_succ_eq_append_getElem hlt, List.take_of_length_le (by omega)]
      rw [← e]
      exact hs _ _ (ih _ (by simp; omega))
  exact fun l => key l.length l rfl

theorem firsts_mem (l : List PutT) (k : List UInt8) : k ∈ firsts l ↔ ∃ p ∈ l, p.1 = k := by
  induction l using snoc_ind with
  | h0 => simp [firsts]
  | hs l p ih =>
    rw [firsts_snoc]
    by_cases h : p.1 ∈ firsts l
    · rw [if_pos h, ih]
      constructor
      · rintro ⟨q, h1, h2⟩; exact ⟨q, List.mem_append_left _ h1, h2⟩
      · rintro ⟨q, h1, h2⟩
        rcases List.mem_append.1 h1 with k1 | k1
        · exact ⟨q, k1, h2⟩
        · simp only [List.mem_singleton] at k1
          subst k1; subst h2
          exact ih.1 h
    · rw [if_neg h, List.mem_append, ih]
      constructor
      · rintro (⟨q, h1, h2⟩ | h1)
        · exact ⟨q, List.mem_append_left _ h1, h2⟩
        · simp only [List.mem_singleton] at h1
          exact ⟨p, by simp, h1.symm⟩
      · rintro ⟨q, h1, h2⟩
        rcases List.mem_append.1 h1 with k1 | k1
        · exact .inl ⟨q, k1, h2⟩
        · simp only [List.mem_singleton] at k1
          subst k1; right; simp [h2]

theorem firsts_nodup (l : List PutT) : (firsts l).Nodup := by
  induction l using snoc_ind with
  | h0 => simp [firsts]
  | hs l p ih =>
    rw [firsts_snoc]
    by_cases h : p.1 ∈ firsts l
    · rw [if_pos h]; exact ih
    · rw [if_neg h, List.nodup_append]
      refine ⟨ih, by simp, fun a ha b hb => ?_⟩
      simp only [List.mem_singleton] at hb
      subst hb
      intro e; subst e; exact h ha

theorem firsts_len (l : List PutT) : (firsts l).length ≤ l.length := by
  induction l using snoc_ind with
  | h0 => simp [firsts]
  | hs l p ih =>
    rw [firsts_snoc]
    split <;> simp <;> omega

theorem ownW_key (l : List PutT) (k : List UInt8) (h : k ∈ firsts l) : (ownW l k).1.1 = k ∧ (ownW l k).2 = true := by
  induction l using snoc_ind with
  | h0 => simp [firsts] at h
  | hs l p ih =>
    rw [ownW_snoc]
    by_cases e : p.1 = k
    · rw [if_pos e]; exact ⟨e, rfl⟩
    · rw [if_neg e]
      rw [firsts_snoc] at h
      apply ih
      split at h
      · exact h
      · rcases List.mem_append.1 h with h | h
        · exact h
        · simp only [List.mem_singleton] at h; exact absurd h.symm e

/-- The last place of a key, from place i on, or s. -/
def lastIx (key : List UInt8) : List PutT → Nat → Int → Int
  | [], _, s => s
  | x :: r, i, s => lastIx key r (i + 1) (if x.1 == key then i else s)

theorem lastIx_none (key : List UInt8) : ∀ (l : List PutT) (i : Nat) (s : Int), (∀ p ∈ l, p.1 ≠ key) → lastIx key l i s = s
  | [], _, _, _ => rfl
  | x :: r, i, s, h => by
    have : (x.1 == key) = false := by simpa using h x (by simp)
    show lastIx key r (i + 1) (if (x.1 == key) = true then (i : Int) else s) = s
    rw [this]
    exact lastIx_none key r (i + 1) s fun p hp => h p (List.mem_cons_of_mem _ hp)

theorem lastIx_at (key : List UInt8) : ∀ (l : List PutT) (i : Nat) (s : Int) (j : Nat) (hj : j < l.length), l[j].1 = key → (∀ m, (hm : m < l.length) → l[m].1 = key → m = j) → lastIx key l i s = ((i + j : Nat) : Int)
  | x :: r, i, s, 0, _, h, hu => by
    show lastIx key r (i + 1) (if (x.1 == key) = true then (i : Int) else s) = _
    have h : x.1 = key := h
    rw [h]
    simp only [beq_self_eq_true, if_true]
    rw [lastIx_none key r (i + 1) i fun p hp => by
      intro e
      obtain ⟨m, hm, hp⟩ := List.getElem_of_mem hp
      have := hu (m + 1) (by simpa using hm) (by simpa [hp] using e)
      omega]
    simp
  | x :: r, i, s, j + 1, hj, h, hu => by
    show lastIx key r (i + 1) (if (x.1 == key) = true then (i : Int) else s) = _
    rw [lastIx_at key r (i + 1) _ j (by simpa using hj) (by simpa using h) fun m hm hk => by
      have := hu (m + 1) (by simpa using hm) (by simpa using hk); omega]
    congr 1; omega

def netStep (out : List PutT) (p : PutT) : List PutT := if lastIx p.1 out 0 (-1) ≥ 0 then out.set (lastIx p.1 out 0 (-1)).toNat p else out ++ [p]

theorem netStep_eq (m : List PutT) (p : PutT) : netStep (netW m) p = netW (m ++ [p]) := by
  have keys : ∀ (j : Nat) (hj : j < (netW m).length), (netW m)[j].1 = (firsts m)[j]'(by simpa [netW] using hj) := fun j hj => by
    simp only [netW, List.getElem_map]
    exact (ownW_key m _ (List.getElem_mem _)).1
  unfold netStep
  by_cases h : p.1 ∈ firsts m
  · obtain ⟨j, hj, hk⟩ := List.getElem_of_mem h
    have hj' : j < (netW m).length := by simpa [netW] using hj
    have e := lastIx_at p.1 (netW m) 0 (-1) j hj' (by rw [keys j hj', hk]) fun q hq hqk => by
      rw [keys q hq] at hqk
      exact (List.getElem_inj (firsts_nodup m)).1 (hqk.trans hk.symm)
    rw [e, if_pos (by omega)]
    have e2 : ((0 + j : Nat) : Int).toNat = j := by omega
    rw [e2]
    unfold netW
    rw [firsts_snoc, if_pos h]
    apply List.ext_getElem (by simp)
    intro i h1 h2
    rw [List.getElem_set]
    simp only [List.getElem_map]
    have hi : i < (firsts m).length := by simpa using h2
    by_cases hij : j = i
    · subst hij
      rw [if_pos rfl, ownW_snoc, if_pos hk.symm]
    · rw [if_neg hij, ownW_snoc, if_neg]
      intro hp
      rw [← hk] at hp
      exact hij ((List.getElem_inj (firsts_nodup m)).1 hp)
  · rw [lastIx_none p.1 (netW m) 0 (-1) fun q hq => by
      intro e
      obtain ⟨j, hj, hq⟩ := List.getElem_of_mem hq
      have := keys j hj
      rw [hq, e] at this
      exact h (this ▸ List.getElem_mem _)]
    rw [if_neg (by omega)]
    unfold netW
    rw [firsts_snoc, if_neg h, List.map_append]
    congr 1
    · apply List.map_congr_left
      intro k hk
      rw [ownW_snoc, if_neg]
      intro e; subst e; exact h hk
    · simp [ownW_snoc]

theorem netFold (l : List PutT) : l.foldl netStep [] = netW l := by
  induction l using snoc_ind with
  | h0 => rfl
  | hs l p ih => rw [List.foldl_append, ih]; exact netStep_eq l p

theorem impl_net_l2 (out : List PutT) (p : PutT) (x9 : List PutT) (x10 x11 : Int) (hl : out.length < 2 ^ 62) :
    lp impl_net.l2 (out, p, -1, x9, x10, x11, (out.length : Int), 0) = some (out, p, lastIx p.1 out 0 (-1), x9, x10, x11) := by
  have key := lp_up (step := impl_net.l2) (fun n (s : Int) => (out, p, s, x9, x10, x11, (out.length : Int), (n : Int))) out.length (fun n s => (out, p, lastIx p.1 (out.drop n) n s, x9, x10, x11)) (fun _ _ => True)
    (fun rec n s hn _ ih => by
      rcases Nat.lt_or_ge n out.length with h | h
      · have hw : w64 ((n : Int) + 1) = ((n + 1 : Nat) : Int) := w64_succ (show n + 1 < 9223372036854775808 by omega)
        simp only [impl_net.l2, Int.ofNat_lt, h, decide_true, cond_true, inB_nat, rdA_nat, getD_lt h, w64_succ (show n + 1 < 9223372036854775808 by omega)]
        rw [List.drop_eq_getElem_cons h]
        show _ = some (out, p, lastIx p.1 (out.drop (n + 1)) (n + 1) (if (out[n].1 == p.1) = true then (n : Int) else s), x9, x10, x11)
        cases out[n].1 == p.1
        · simp only [cond_false, Option.bind_some, Bool.false_eq_true, if_false]; rw [hw]; exact ih s h trivial
        · simp only [cond_true, Option.bind_some, if_true]; rw [hw]; exact ih n h trivial
      · have : n = out.length := by omega
        subst this
        simp [impl_net.l2, lastIx])
    hl 0 (-1) (Nat.zero_le _) trivial
  simpa using key

theorem netStep_len (out : List PutT) (p : PutT) : (netStep out p).length ≤ out.length + 1 := by
  unfold netStep; split <;> simp

theorem lastIx_bound (key : List UInt8) : ∀ (l : List PutT) (i : Nat) (s : Int), lastIx key l i s = s ∨ (∃ j : Nat, lastIx key l i s = ((i + j : Nat) : Int) ∧ j < l.length)
  | [], _, _ => .inl rfl
  | x :: r, i, s => by
    show lastIx key r (i + 1) (if (x.1 == key) = true then (i : Int) else s) = s ∨ ∃ j : Nat, lastIx key r (i + 1) (if (x.1 == key) = true then (i : Int) else s) = _ ∧ _
    rcases lastIx_bound key r (i + 1) (if (x.1 == key) = true then (i : Int) else s) with h | ⟨j, h1, h2⟩
    · rw [h]
      split
      · exact .inr ⟨0, by simp, by simp⟩
      · exact .inl rfl
    · exact .inr ⟨j + 1, by rw [h1]; congr 1; omega, by simp; omega⟩

theorem impl_net_eq (l : List PutT) (hl : l.length < 2 ^ 40) : impl_net.f l = some (netW l) := by
  have hk := fold_loop (step := impl_net.l0) l netStep (fun n (s : List PutT) => (s, l, (l.length : Int), (n : Int))) id (fun n s => s.length ≤ n) (by omega)
    (fun rec n s h hi => by
      have hs : s.length < 2 ^ 62 := by omega
      have hw : w64 ((n : Int) + 1) = ((n + 1 : Nat) : Int) := w64_succ (show n + 1 < 9223372036854775808 by omega)
      simp only [impl_net.l0, Int.ofNat_lt, h, decide_true, cond_true, inB_nat, rdA_nat, getD_lt h, pair_eta, impl_net_l2 s l[n] l _ _ hs, Option.bind_some, w64_succ (show n + 1 < 9223372036854775808 by omega)]
      unfold netStep
      by_cases hp : lastIx l[n].1 s 0 (-1) ≥ 0
      · rcases lastIx_bound l[n].1 s 0 (-1) with k | ⟨j, k1, k2⟩
        · omega
        · rw [if_pos hp]
          have : inB (lastIx l[n].1 s 0 (-1)) s.length = true := by rw [k1]; simp [k2]
          simp only [hp, decide_true, cond_true, this, Option.bind_some, hw]
      · rw [if_neg hp]
        have hb : (s.length + [l[n]].length) * 40 ≤ 140737488355328 := by simp; omega
        simp only [hp, decide_false, cond_false, hb, decide_true, cond_true, Option.bind_some, hw])
    (fun n s h hi => by have := netStep_len s l[n]; omega)
    (fun rec s hi => by simp [impl_net.l0]) [] (by simp)
  have hk : lp impl_net.l0 ([], l, (l.length : Int), 0) = _ := hk
  unfold impl_net.f
  rw [hk, netFold]; rfl

theorem impl_NetWrites_eq (t : TxnT) (hl : t.2.2.length < 2 ^ 40) : impl_NetWrites.f t = some (netW t.2.2) := by
  unfold impl_NetWrites.f; rw [impl_net_eq _ hl]; rfl

def isFirst (l : List PutT) (i : Nat) : Bool := (l.take i).all fun q => !(q.1 == (l.getD i ([], false, [])).1)

theorem spec_NetWrites_l2 (t : TxnT) (out : List PutT) (i : Nat) (h : i < t.2.2.length) (hl : t.2.2.length < 2 ^ 40) :
    lp spec_NetWrites.l2 (t, out, (i : Int), true, 0) = some (t, out, (i : Int), isFirst t.2.2 i) := by
  have key := lp_up (step := spec_NetWrites.l2) (fun n (s : Bool) => (t, out, (i : Int), s, (n : Int))) i (fun n s => (t, out, (i : Int), s && ((t.2.2.take i).drop n).all fun q => !(q.1 == t.2.2[i].1))) (fun _ _ => True)
    (fun rec n s hn _ ih => by
      rcases Nat.lt_or_ge n i with h2 | h2
      · have h3 : n < t.2.2.length := by omega
        have h4 : n < (t.2.2.take i).length := by simp; omega
        have hw : w64 ((n : Int) + 1) = ((n + 1 : Nat) : Int) := w64_succ (show n + 1 < 9223372036854775808 by omega)
        simp only [spec_NetWrites.l2, Int.ofNat_lt, h, h2, h3, decide_true, cond_true, inB_nat, rdA_nat, getD_lt h, getD_lt h3, w64_succ (show n + 1 < 9223372036854775808 by omega)]
        rw [List.drop_eq_getElem_cons h4, List.all_cons, List.getElem_take]
        cases s
        · simp only [cond_false, Option.bind_some]
          rw [hw, ih false h2 trivial]; simp
        · simp only [cond_true, Option.bind_some]
          rw [hw, ih _ h2 trivial]; simp
      · have : n = i := by omega
        subst this
        have : (t.2.2.take n).drop n = [] := by simp
        simp [spec_NetWrites.l2, this])
    (by omega) 0 true (Nat.zero_le _) trivial
  rw [show isFirst t.2.2 i = (t.2.2.take i).all (fun q => !(q.1 == t.2.2[i].1)) by unfold isFirst; rw [getD_lt h]]
  simpa using key

theorem isFirst_iff (l : List PutT) (i : Nat) (h : i < l.length) : isFirst l i = true ↔ l[i].1 ∉ firsts (l.take i) := by
  unfold isFirst
  rw [List.all_eq_true, firsts_mem, getD_lt h]
  constructor
  · rintro h1 ⟨p, hp, e⟩
    have := h1 p hp
    simp [e] at this
  · intro h1 q hq
    simp only [Bool.not_eq_true', beq_eq_false_iff_ne]
    exact fun e => h1 ⟨q, hq, e⟩

theorem spec_NetWrites_eq (t : TxnT) (hl : t.2.2.length < 2 ^ 40) : spec_NetWrites.f t = some (netW t.2.2) := by
  have key := lp_up (step := spec_NetWrites.l0) (fun n (s : List PutT) => (t, s, (n : Int))) t.2.2.length (fun n s => netW t.2.2) (fun n s => s = (firsts (t.2.2.take n)).map fun k => (ownW t.2.2 k).1)
    (fun rec n s hn hi ih => by
      rcases Nat.lt_or_ge n t.2.2.length with h | h
      · have hs : s.length ≤ n := by
          have := firsts_len (t.2.2.take n)
          rw [hi, List.length_map]
          simp only [List.length_take] at this; omega
        have hb : (s.length + [(ownW t.2.2 t.2.2[n].1).1].length) * 40 ≤ 140737488355328 := by simp; omega
        have hw : w64 ((n : Int) + 1) = ((n + 1 : Nat) : Int) := w64_succ (show n + 1 < 9223372036854775808 by omega)
        simp only [spec_NetWrites.l0, Int.ofNat_lt, h, decide_true, cond_true, spec_NetWrites_l2 t s n h hl, Option.bind_some, inB_nat, rdA_nat, getD_lt h, spec_OwnWrite_eq t _ (show t.2.2.length < 2 ^ 62 by omega), w64_succ (show n + 1 < 9223372036854775808 by omega)]
        have e := isFirst_iff t.2.2 n h
        cases hf : isFirst t.2.2 n
        · simp only [cond_false, Option.bind_some]
          rw [hw]
          refine ih s h ?_
          rw [hi, List.take_succ_eq_append_getElem h, firsts_snoc, if_pos]
          by_cases hm : t.2.2[n].1 ∈ firsts (t.2.2.take n)
          · exact hm
          · rw [e.2 hm] at hf; simp at hf
        · simp only [cond_true, Option.bind_some, hb, decide_true]
          rw [hw]
          refine ih _ h ?_
          rw [hi, List.take_succ_eq_append_getElem h, firsts_snoc, if_neg (e.1 hf), List.map_append]; rfl
      · have : n = t.2.2.length := by omega
        subst this
        rw [List.take_length] at hi
        simp [spec_NetWrites.l0, hi, netW])
    (by omega) 0 [] (Nat.zero_le _) (by simp [firsts])
  have key : lp spec_NetWrites.l0 (t, [], 0) = _ := key
  unfold spec_NetWrites.f
  rw [key]; rfl

theorem lim40 {a : Nat} (h : a < 1000000000001) : (a + 1) * 40 ≤ 140737488355328 := by omega

/-! ### what writes make of pairs -/

def leK (a b : List UInt8) : Bool := Op.bytesLess a b || a == b

/-- One ahead of the first of a greater key. -/
def insB {α : Type} (l : List (List UInt8 × α)) (p : List UInt8 × α) : List (List UInt8 × α) :=
  let k := (l.takeWhile fun x => leK x.1 p.1).length
  l.take k ++ [p] ++ l.drop k

def dropK {α : Type} (l : List (List UInt8 × α)) (key : List UInt8) : List (List UInt8 × α) := l.filter fun x => !(x.1 == key)

theorem insB_len {α : Type} (l : List (List UInt8 × α)) (p : List UInt8 × α) : (insB l p).length = l.length + 1 := by
  have : (l.takeWhile fun x => leK x.1 p.1).length ≤ l.length := (List.takeWhile_sublist _).length_le
  simp only [insB, List.length_append, List.length_take, List.length_drop, List.length_cons, List.length_nil]; omega

theorem dropK_len {α : Type} (l : List (List UInt8 × α)) (key : List UInt8) : (dropK l key).length ≤ l.length := List.length_filter_le _ _

theorem foldl_filter {α : Type} (f : α → Bool) : ∀ (l s : List α), l.foldl (fun s x => if f x = true then s ++ [x] else s) s = s ++ l.filter f
  | [], s => by simp
  | x :: l, s => by
    rw [List.foldl_cons, foldl_filter f l, List.filter_cons]
    cases f x <;> simp

def foldStep (b : Int) (l : List PairT) (p : PutT) : List PairT := if p.2.1 = true then dropK l p.1 else insB (dropK l p.1) (p.1, p.2.2, b)

def foldP (l : List PairT) (puts : List PutT) (b : Int) : List PairT := puts.foldl (foldStep b) l

theorem foldStep_len (b : Int) (l : List PairT) (p : PutT) : (foldStep b l p).length ≤ l.length + 1 := by
  have := dropK_len l p.1
  unfold foldStep; split
  · omega
  · rw [insB_len]; omega

theorem foldP_len (b : Int) : ∀ (puts : List PutT) (l : List PairT), (foldP l puts b).length ≤ l.length + puts.length
  | [], l => by simp [foldP]
  | p :: puts, l => by
    have h1 := foldP_len b puts (foldStep b l p)
    have h2 := foldStep_len b l p
    show (foldP (foldStep b l p) puts b).length ≤ _
    simp only [List.length_cons]; omega

theorem impl_copyPairs_eq (l : List PairT) (hl : l.length < 2 ^ 40) : impl_copyPairs.f l = some l := by
  unfold impl_copyPairs.f
  have : (([] : List PairT).length + l.length) * 40 ≤ 140737488355328 := by simp; omega
  simp only [this, decide_true, cond_true, List.nil_append]

theorem impl_without_eq (l : List PairT) (key : List UInt8) (hl : l.length < 2 ^ 40) : impl_without.f l key = some (dropK l key) := by
  have hk := fold_loop (step := impl_without.l0) l (fun s x => if (!(x.1 == key)) = true then s ++ [x] else s) (fun n (s : List PairT) => (key, s, l, (l.length : Int), (n : Int))) id (fun n s => s.length ≤ n) (by omega)
    (fun rec n s h hi => by
      have hb : (s.length + [l[n]].length) * 40 ≤ 140737488355328 := by simp; omega
      have hw : w64 ((n : Int) + 1) = ((n + 1 : Nat) : Int) := w64_succ (show n + 1 < 9223372036854775808 by omega)
      simp only [impl_without.l0, Int.ofNat_lt, h, decide_true, cond_true, inB_nat, rdA_nat, getD_lt h, pair_eta, hb, w64_succ (show n + 1 < 9223372036854775808 by omega)]
      cases l[n].1 == key <;> simp [hw])
    (fun n s h hi => by
      have : ∀ b : Bool, (if b = true then s ++ [l[n]] else s).length ≤ n + 1 := fun b => by cases b <;> simp <;> omega
      exact this _)
    (fun rec s hi => by simp [impl_without.l0]) [] (by simp)
  have hk : lp impl_without.l0 (key, [], l, (l.length : Int), 0) = _ := hk
  unfold impl_without.f
  rw [hk, foldl_filter]; rfl

theorem takeWhile_drop {α : Type} (f : α → Bool) (l : List α) (n : Nat) (h : n < l.length) : ((l.drop n).takeWhile f).length = if f l[n] = true then ((l.drop (n + 1)).takeWhile f).length + 1 else 0 := by
  rw [List.drop_eq_getElem_cons h, List.takeWhile_cons]
  split <;> simp

theorem impl_Fold_l2 (x2 : Int) (rest : List PairT) (p : PutT) (x13 : List PutT) (x14 x15 : Int) (hl : rest.length < 2 ^ 62) :
    lp impl_Fold.l2 (x2, rest, p, 0, x13, x14, x15) = some (x2, rest, p, ((rest.takeWhile fun x => leK x.1 p.1).length : Int), x13, x14, x15) := by
  have key := lp_up (step := impl_Fold.l2) (fun n (_ : Unit) => (x2, rest, p, (n : Int), x13, x14, x15)) rest.length (fun n _ => (x2, rest, p, ((n + ((rest.drop n).takeWhile fun x => leK x.1 p.1).length : Nat) : Int), x13, x14, x15)) (fun _ _ => True)
    (fun rec n s hn _ ih => by
      rcases Nat.lt_or_ge n rest.length with h | h
      · rw [takeWhile_drop _ _ _ h]
        simp only [impl_Fold.l2, Int.ofNat_lt, h, decide_true, cond_true, inB_nat, rdA_nat, getD_lt h, w64_succ (show n + 1 < 9223372036854775808 by omega)]
        show (bif leK rest[n].1 p.1 then _ else _) = _
        cases leK rest[n].1 p.1
        · simp
        · simp only [cond_true, if_true]
          rw [ih () h trivial]
          congr 4; congr 1; omega
      · have : n = rest.length := by omega
        subst this
        simp [impl_Fold.l2])
    hl 0 () (Nat.zero_le _) trivial
  simpa using key

theorem impl_Fold_eq (l : List PairT) (puts : List PutT) (b : Int) (hl : l.length + puts.length < 2 ^ 40) : impl_Fold.f l puts b = some (foldP l puts b) := by
  have hk := fold_loop (step := impl_Fold.l0) puts (foldStep b) (fun n (s : List PairT) => (b, s, puts, (puts.length : Int), (n : Int))) id (fun n s => s.length ≤ l.length + n) (by omega)
    (fun rec n s h hi => by
      have hd := dropK_len s puts[n].1
      have hw : w64 ((n : Int) + 1) = ((n + 1 : Nat) : Int) := w64_succ (show n + 1 < 9223372036854775808 by omega)
      have htw : ((dropK s puts[n].1).takeWhile fun x => leK x.1 puts[n].1).length ≤ (dropK s puts[n].1).length := (List.takeWhile_sublist _).length_le
      simp only [impl_Fold.l0, Int.ofNat_lt, h, decide_true, cond_true, inB_nat, rdA_nat, getD_lt h, impl_without_eq s _ (show s.length < 2 ^ 40 by omega), Option.bind_some, pair_eta, impl_Fold_l2 b (dropK s puts[n].1) puts[n] puts _ _ (by omega), w64_succ (show n + 1 < 9223372036854775808 by omega)]
      unfold foldStep
      cases hdel : puts[n].2.1
      · generalize hk : ((dropK s puts[n].1).takeWhile fun x => leK x.1 puts[n].1).length = k at *
        have c1 : (0 : Int) ≤ (k : Int) := by omega
        have c2 : (k : Int) ≤ ((dropK s puts[n].1).length : Int) := by omega
        have c3 : (List.take k (dropK s puts[n].1)).length < 2 ^ 40 := by simp; omega
        simp only [cond_false, c1, c2, decide_true, Bool.and_self, cond_true, Int.toNat_natCast, impl_copyPairs_eq _ c3, Option.bind_some]
        have c4 : ((List.take k (dropK s puts[n].1)).length + [(puts[n].1, puts[n].2.2, b)].length) * 40 ≤ 140737488355328 := by simp; omega
        simp only [c4, decide_true, cond_true]
        have c5 : ((List.take k (dropK s puts[n].1) ++ [(puts[n].1, puts[n].2.2, b)]).length + (List.drop k (dropK s puts[n].1)).length) * 40 ≤ 140737488355328 := by simp; omega
        simp only [c5, decide_true, cond_true, Option.bind_some]
        have hins : insB (dropK s puts[n].1) (puts[n].1, puts[n].2.2, b) = List.take k (dropK s puts[n].1) ++ [(puts[n].1, puts[n].2.2, b)] ++ List.drop k (dropK s puts[n].1) := by
          unfold insB; simp only [hk]
        simp [hins, hw]
      · simp [hw])
    (fun n s h hi => by have := foldStep_len b s puts[n]; omega)
    (fun rec s hi => by simp [impl_Fold.l0]) l (by simp)
  have hk : lp impl_Fold.l0 (b, l, puts, (puts.length : Int), 0) = _ := hk
  unfold impl_Fold.f
  rw [impl_copyPairs_eq l (by omega), Option.bind_some, hk]; rfl

/-! the reference's -/

def setStep (p : PairT) (s : List PairT × Bool) (x : PairT) : List PairT × Bool :=
  if (x.1 == p.1) = true then s else if s.2 = false ∧ leK x.1 p.1 = false then (s.1 ++ [p] ++ [x], true) else (s.1 ++ [x], s.2)

theorem setStep_len (p : PairT) (s : List PairT × Bool) (x : PairT) : (setStep p s x).1.length ≤ s.1.length + 2 := by
  unfold setStep; split
  · omega
  · split <;> simp <;> omega

theorem set_true (p : PairT) : ∀ (l out : List PairT), l.foldl (setStep p) (out, true) = (out ++ dropK l p.1, true)
  | [], out => by simp [dropK]
  | x :: l, out => by
    rw [List.foldl_cons]
    by_cases h : (x.1 == p.1) = true
    · have e1 : setStep p (out, true) x = (out, true) := by unfold setStep; rw [if_pos h]
      rw [e1, set_true p l]
      simp [dropK, h]
    · have e1 : setStep p (out, true) x = (out ++ [x], true) := by unfold setStep; rw [if_neg h, if_neg (by simp)]
      rw [e1, set_true p l]
      simp [dropK, h]

theorem set_false (p : PairT) : ∀ (l out : List PairT), (let s := l.foldl (setStep p) (out, false); if s.2 = true then s.1 else s.1 ++ [p]) = out ++ insB (dropK l p.1) p
  | [], out => by simp [dropK, insB]
  | x :: l, out => by
    rw [List.foldl_cons]
    by_cases h : (x.1 == p.1) = true
    · have e1 : setStep p (out, false) x = (out, false) := by unfold setStep; rw [if_pos h]
      have e2 : dropK (x :: l) p.1 = dropK l p.1 := by simp [dropK, h]
      rw [e1, e2]; exact set_false p l out
    · have e2 : dropK (x :: l) p.1 = x :: dropK l p.1 := by simp [dropK, h]
      rw [e2]
      cases hk : leK x.1 p.1
      · have e1 : setStep p (out, false) x = (out ++ [p] ++ [x], true) := by unfold setStep; rw [if_neg h, if_pos ⟨rfl, hk⟩]
        rw [e1, set_true]
        simp [insB, hk]
      · have e1 : setStep p (out, false) x = (out ++ [x], false) := by unfold setStep; rw [if_neg h, if_neg (by simp [hk])]
        rw [e1, set_false p l (out ++ [x])]
        simp [insB, hk]

theorem spec_l13Set_eq (l : List PairT) (p : PairT) (del : Bool) (hl : l.length < 2 ^ 38) : spec_l13Set.f l p del = some (if del = true then dropK l p.1 else insB (dropK l p.1) p) := by
  have hk := fold_loop (step := spec_l13Set.l0) l (setStep p) (fun n (s : List PairT × Bool) => (l, p, s.1, s.2, (n : Int))) (fun s => (p, s.1, s.2)) (fun n s => s.1.length ≤ 2 * n) (by omega)
    (fun rec n s h hi => by
      have hi : s.1.length ≤ 2 * n := hi
      have hq : s.1.length < 1000000000000 := by omega
      have hb1 : (s.1.length + [p].length) * 40 ≤ 140737488355328 := lim40 (Nat.lt_succ_of_lt hq)
      have hb2 : (s.1.length + ([l[n]] : List PairT).length) * 40 ≤ 140737488355328 := lim40 (Nat.lt_succ_of_lt hq)
      have hb3 : ((s.1 ++ [p]).length + ([l[n]] : List PairT).length) * 40 ≤ 140737488355328 := by rw [List.length_append]; exact lim40 (Nat.succ_lt_succ hq)
      have hw : w64 ((n : Int) + 1) = (n : Int) + 1 := w64_id (by omega) (by omega)
      have hle : (Op.bytesLess l[n].1 p.1 || l[n].1 == p.1) = leK l[n].1 p.1 := rfl
      simp only [spec_l13Set.l0, Int.ofNat_lt, h, decide_true, cond_true, inB_nat, rdA_nat, getD_lt h, pair_eta, hle]
      unfold setStep
      rcases Bool.eq_false_or_eq_true (l[n].1 == p.1) with h1 | h1
      · simp [h1, hw]
      · rcases Bool.eq_false_or_eq_true s.2 with h2 | h2
        · simp only [h1, h2, cond_false, Bool.not_true, Option.bind_some, inB_nat, rdA_nat, getD_lt h, pair_eta, h, decide_true, cond_true, hb2]
          simp [hw]
        · rcases Bool.eq_false_or_eq_true (leK l[n].1 p.1) with h3 | h3
          · simp only [h1, h2, h3, cond_false, Bool.not_true, Bool.not_false, Option.bind_some, inB_nat, rdA_nat, getD_lt h, pair_eta, h, decide_true, cond_true, hb2]
            simp [hw]
          · simp only [h1, h2, h3, cond_false, Bool.not_true, Bool.not_false, Option.bind_some, inB_nat, rdA_nat, getD_lt h, pair_eta, h, decide_true, cond_true, hb1, hb3]
            simp [hw])
    (fun n s h hi => by have := setStep_len p s l[n]; have hi : s.1.length ≤ 2 * n := hi; show _ ≤ 2 * (n + 1); omega)
    (fun rec s hi => by simp [spec_l13Set.l0]) ([], del) (by simp)
  have hk : lp spec_l13Set.l0 (l, p, [], del, 0) = _ := hk
  have hlen : ∀ (m : List PairT) (s : List PairT × Bool), (m.foldl (setStep p) s).1.length ≤ s.1.length + 2 * m.length := by
    intro m
    induction m with
    | nil => intro s; simp
    | cons x m ih => intro s; rw [List.foldl_cons]; have := ih (setStep p s x); have := setStep_len p s x; simp only [List.length_cons]; omega
  unfold spec_l13Set.f
  rw [hk, Option.bind_some]
  cases del with
  | true => rw [set_true]; simp
  | false =>
    have hf := set_false p l []
    have hb := hlen l ([], false)
    generalize l.foldl (setStep p) ([], false) = s at *
    obtain ⟨s1, s2⟩ := s
    simp only [List.length_nil, Nat.zero_add] at hb
    have hb1 : (s1.length + [p].length) * 40 ≤ 140737488355328 := by simp; omega
    cases s2
    · simp only [Bool.false_eq_true, if_false, List.nil_append] at hf ⊢
      simp only [Bool.not_false, cond_true, hb1, decide_true, hf]
    · simp only [if_true, List.nil_append] at hf
      simp [hf]

theorem spec_Fold_eq (l : List PairT) (puts : List PutT) (b : Int) (hl : l.length + puts.length < 2 ^ 37) : spec_Fold.f l puts b = some (foldP l puts b) := by
  have hk := fold_loop (step := spec_Fold.l0) puts (foldStep b) (fun n (s : List PairT) => (puts, b, s, (n : Int))) id (fun n s => s.length ≤ l.length + n) (by omega)
    (fun rec n s h hi => by
      simp only [spec_Fold.l0, Int.ofNat_lt, h, decide_true, cond_true, inB_nat, rdA_nat, getD_lt h, spec_l13Set_eq s _ _ (show s.length < 2 ^ 38 by omega), Option.bind_some, w64_succ (show n + 1 < 9223372036854775808 by omega)]
      rfl)
    (fun n s h hi => by have := foldStep_len b s puts[n]; omega)
    (fun rec s hi => by simp [spec_Fold.l0]) l (by simp)
  have hk : lp spec_Fold.l0 (puts, b, l, 0) = _ := hk
  unfold spec_Fold.f
  have : (([] : List PairT).length + l.length) * 40 ≤ 140737488355328 := by simp; omega
  simp only [this, decide_true, cond_true, List.nil_append]
  rw [hk]; rfl
end Go.Rf.G
