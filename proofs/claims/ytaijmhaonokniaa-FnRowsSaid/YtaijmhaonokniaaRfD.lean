/- Operations that stay out of each other's way may be turned about: a region that draws its order comes to what it comes to in the text's order. -/
import Derived.Test.YtaijmhaonokniaaRfC
import Derived.Orders
namespace Go.Rf
set_option linter.unusedVariables false
set_option linter.unusedSimpArgs false

theorem hasN_iff (n : Nat) : ∀ l, hasN n l = true ↔ n ∈ l
  | [] => by simp [hasN]
  | m :: r => by
    rw [hasN, Bool.or_eq_true, hasN_iff n r, List.mem_cons]
    constructor
    · rintro (h | h)
      · exact .inl (Nat.eq_of_beq_eq_true h)
      · exact .inr h
    · rintro (h | h)
      · subst h; exact .inl (Nat.beq_refl n)
      · exact .inr h

theorem meets_iff : ∀ l m, meets l m = true ↔ ∃ n, n ∈ l ∧ n ∈ m
  | [], m => by simp [meets]
  | a :: r, m => by
    rw [meets, Bool.or_eq_true, hasN_iff, meets_iff r m]
    constructor
    · rintro (h | ⟨n, h1, h2⟩)
      · exact ⟨a, List.mem_cons_self .., h⟩
      · exact ⟨n, List.mem_cons_of_mem _ h1, h2⟩
    · rintro ⟨n, h1, h2⟩
      rcases List.mem_cons.1 h1 with rfl | h1
      · exact .inl h2
      · exact .inr ⟨n, h1, h2⟩

theorem hasKey_iff (ss os : List Nat) : ∀ rs, hasKey ss os rs = true ↔ ∃ k ∈ rs, match k with | .s i => i ∈ ss | .o i => i ∈ os
  | [] => by simp [hasKey]
  | .s i :: r => by rw [hasKey, Bool.or_eq_true, hasN_iff, hasKey_iff ss os r]; simp
  | .o i :: r => by rw [hasKey, Bool.or_eq_true, hasN_iff, hasKey_iff ss os r]; simp

theorem nEq_iff (a b : Nat) : nEq a b = true ↔ a = b := ⟨Nat.eq_of_beq_eq_true, fun h => by subst h; exact Nat.beq_refl a⟩

theorem upd_same {α : Type} (f : Nat → α) (i : Nat) (v : α) : upd f i v i = v := by simp [upd, (nEq_iff i i).2 rfl]
theorem upd_ne {α : Type} (f : Nat → α) {i j : Nat} (v : α) (h : j ≠ i) : upd f i v j = f j := by
  unfold upd
  cases e : nEq j i with
  | false => rfl
  | true => exact absurd ((nEq_iff j i).1 e) h

theorem updS_ne {α : Type} : ∀ (l : List (Nat × α)) (f : Nat → α) (j : Nat), j ∉ l.map (·.1) → updS f l j = f j
  | [], _, _, _ => rfl
  | (i, v) :: r, f, j, h => by
    simp only [List.map_cons, List.mem_cons, not_or] at h
    rw [updS, updS_ne r _ j h.2, upd_ne _ _ h.1]

theorem updS_congr {α : Type} : ∀ (l : List (Nat × α)) (f g : Nat → α) (j : Nat), (j ∉ l.map (·.1) → f j = g j) → updS f l j = updS g l j
  | [], _, _, _, h => h (by simp)
  | (i, v) :: r, f, g, j, h => by
    rw [updS, updS]
    refine updS_congr r _ _ j fun hj => ?_
    by_cases e : j = i
    · subst e; rw [upd_same, upd_same]
    · rw [upd_ne _ _ e, upd_ne _ _ e]; exact h (by simp [e, hj])

theorem updS_comm {α : Type} (l m : List (Nat × α)) (f : Nat → α) (h : ∀ n, n ∈ l.map (·.1) → n ∉ m.map (·.1)) : updS (updS f l) m = updS (updS f m) l := by
  funext j
  by_cases hj : j ∈ l.map (·.1)
  · rw [updS_ne m _ j (h j hj)]
    exact updS_congr l _ _ j (fun hn => absurd hj hn)
  · rw [updS_ne l _ j hj]
    by_cases hm : j ∈ m.map (·.1)
    · exact updS_congr m _ _ j (fun hn => absurd hm hn)
    · rw [updS_ne m _ j hm, updS_ne m _ j hm, updS_ne l _ j hj]

section
variable {T : Tab} {E : Env} {ops : Array Oper} {f0 : Nat}

theorem goE_some {o : Oper} {i : Nat} {s : St} {rs : List Key} {u : Upd} {e : Ent} (h : goE T E f0 o i s rs = some (u, e)) :
    (step T E o (f0 + i * idW)).exec s rs = some (u, e.rs) ∧ e = ⟨i, e.rs, u.ss.map (·.1), u.os.map (·.1)⟩ := by
  unfold goE at h
  cases hx : (step T E o (f0 + i * idW)).exec s rs with
  | none => simp [hx] at h
  | some q =>
    simp only [hx, Option.map_some, Option.some.injEq, Prod.mk.injEq] at h
    obtain ⟨rfl, rfl⟩ := h
    exact ⟨rfl, rfl⟩

theorem offE_ent (o : Oper) (i : Nat) (rs : List Key) : (offE o i rs).2 = ⟨i, rs, (offE o i rs).1.ss.map (·.1), (offE o i rs).1.os.map (·.1)⟩ := by
  unfold offE; cases o.dst <;> rfl

theorem stp_ent {o : Oper} {i : Nat} {s : St} {u : Upd} {e : Ent} (h : stp T E ops f0 o i s = some (u, e)) :
    e.i = i ∧ e.ss = u.ss.map (·.1) ∧ e.os = u.os.map (·.1) := by
  have hgo : ∀ rs, goE T E f0 o i s rs = some (u, e) → e.i = i ∧ e.ss = u.ss.map (·.1) ∧ e.os = u.os.map (·.1) := by
    intro rs h; have := (goE_some h).2; rw [this]; exact ⟨rfl, rfl, rfl⟩
  have hoff : ∀ rs, some (offE o i rs) = some (u, e) → e.i = i ∧ e.ss = u.ss.map (·.1) ∧ e.os = u.os.map (·.1) := by
    intro rs h; simp only [Option.some.injEq] at h
    have := offE_ent o i rs; rw [h] at this; simp only at this; rw [this]; exact ⟨rfl, rfl, rfl⟩
  unfold stp at h
  split at h
  · exact hgo _ h
  · split at h
    · split at h
      · exact hgo _ h
      · exact hoff _ h
    · exact hoff _ h
    · simp at h
  · simp at h

theorem stp_local {o : Oper} {i : Nat} {s s' : St} {u : Upd} {e : Ent} (h : stp T E ops f0 o i s = some (u, e)) (ha : ∀ k ∈ e.rs, agree s s' k) :
    stp T E ops f0 o i s' = some (u, e) := by
  have hgo : ∀ rs, goE T E f0 o i s rs = some (u, e) → goE T E f0 o i s' rs = some (u, e) := by
    intro rs h
    obtain ⟨h1, h2⟩ := goE_some h
    unfold goE
    rw [RP.exec_local _ _ _ _ h1 ha]
    simp only [Option.map_some]
    rw [h2]
  have key : ∀ g rs, (goE T E f0 o i s (.s g :: rs) = some (u, e) ∨ some (offE o i (.s g :: rs)) = some (u, e)) → s.sl g = s'.sl g := by
    intro g rs h
    refine ha (.s g) ?_
    rcases h with h | h
    · exact RP.exec_keys s _ _ _ _ (goE_some h).1 _ (List.mem_cons_self ..)
    · simp only [Option.some.injEq] at h
      have := offE_ent o i (.s g :: rs); rw [h] at this; simp only at this; rw [this]; exact List.mem_cons_self ..
  unfold stp at h ⊢
  cases hg : guardOf ops o with
  | none => simp only [hg] at h ⊢; exact hgo _ h
  | some p =>
    obtain ⟨g, want⟩ := p
    cases g with
    | none => simp [hg] at h
    | some g =>
      simp only [hg] at h ⊢
      have e1 : s.sl g = s'.sl g := by
        split at h
        · split at h
          · exact key g [] (.inl h)
          · exact key g [] (.inr h)
        · exact key g [] (.inr h)
        · simp at h
      rw [← e1]
      split at h
      · rename_i b hb
        split at h
        · rename_i hw; rw [if_pos hw]; exact hgo _ h
        · rename_i hw; rw [if_neg hw]; exact h
      · exact h
      · simp at h

theorem agree_up {s : St} {u : Upd} {k : Key} (h : match k with | .s i => i ∉ u.ss.map (·.1) | .o i => i ∉ u.os.map (·.1)) : agree s (s.up u) k := by
  cases k with
  | s i => exact (updS_ne u.ss s.sl i h).symm
  | o i => exact (updS_ne u.os s.ob i h).symm

theorem apart_spec {a b : Ent} (h : apart a b = true) :
    (∀ k ∈ b.rs, match k with | .s i => i ∉ a.ss | .o i => i ∉ a.os) ∧ (∀ k ∈ a.rs, match k with | .s i => i ∉ b.ss | .o i => i ∉ b.os) ∧
    (∀ n, n ∈ a.ss → n ∉ b.ss) ∧ (∀ n, n ∈ a.os → n ∉ b.os) := by
  unfold apart at h
  simp only [Bool.and_eq_true, Bool.not_eq_true'] at h
  obtain ⟨⟨⟨h1, h2⟩, h3⟩, h4⟩ := h
  refine ⟨?_, ?_, ?_, ?_⟩
  · intro k hk
    have := mt (hasKey_iff a.ss a.os b.rs).2 (by rw [h1]; simp)
    cases k with
    | s i => exact fun hi => this ⟨_, hk, hi⟩
    | o i => exact fun hi => this ⟨_, hk, hi⟩
  · intro k hk
    have := mt (hasKey_iff b.ss b.os a.rs).2 (by rw [h2]; simp)
    cases k with
    | s i => exact fun hi => this ⟨_, hk, hi⟩
    | o i => exact fun hi => this ⟨_, hk, hi⟩
  · intro n hn hm
    have := mt (meets_iff a.ss b.ss).2 (by rw [h3]; simp)
    exact this ⟨n, hn, hm⟩
  · intro n hn hm
    have := mt (meets_iff a.os b.os).2 (by rw [h4]; simp)
    exact this ⟨n, hn, hm⟩

theorem stp_swap {o p : Oper} {i j : Nat} {s : St} {u v : Upd} {a b : Ent} (h1 : stp T E ops f0 o i s = some (u, a)) (h2 : stp T E ops f0 p j (s.up u) = some (v, b)) (h : apart a b = true) :
    stp T E ops f0 p j s = some (v, b) ∧ stp T E ops f0 o i (s.up v) = some (u, a) ∧ (s.up u).up v = (s.up v).up u := by
  obtain ⟨k1, k2, k3, k4⟩ := apart_spec h
  obtain ⟨_, e1, e2⟩ := stp_ent h1
  obtain ⟨_, e3, e4⟩ := stp_ent h2
  rw [e1] at k1 k3; rw [e2] at k1 k4; rw [e3] at k2 k3; rw [e4] at k2 k4
  have ag : ∀ k ∈ b.rs, agree (s.up u) s k := by
    intro k hk
    have := agree_up (s := s) (u := u) (k := k) (k1 k hk)
    cases k with
    | s i => exact Eq.symm this
    | o i => exact Eq.symm this
  refine ⟨stp_local h2 ag, stp_local h1 (fun k hk => agree_up (k2 k hk)), ?_⟩
  simp only [St.up, St.app, St.mk.injEq]
  exact ⟨updS_comm _ _ _ k3, updS_comm _ _ _ k4⟩

/-- A run of numbered operations, with their entries. -/
inductive RunE (T : Tab) (E : Env) (ops : Array Oper) (f0 : Nat) : List (Nat × Oper) → St → List Ent → St → Prop
  | nil (s : St) : RunE T E ops f0 [] s [] s
  | cons {i : Nat} {o : Oper} {r : List (Nat × Oper)} {s s' : St} {u : Upd} {e : Ent} {es : List Ent} (h : stp T E ops f0 o i s = some (u, e)) (k : RunE T E ops f0 r (s.up u) es s') :
      RunE T E ops f0 ((i, o) :: r) s (e :: es) s'

theorem seqE_run : ∀ (l : List (Nat × Oper)) (s : St) (bk : List Ent) (s' : St) (bk' : List Ent), seqE T E ops f0 l s bk = some (s', bk') →
    ∃ es, RunE T E ops f0 l s es s' ∧ bk' = es.reverse ++ bk
  | [], s, bk, s', bk', h => by
    simp only [seqE, Option.some.injEq, Prod.mk.injEq] at h
    obtain ⟨rfl, rfl⟩ := h
    exact ⟨[], .nil _, rfl⟩
  | (i, o) :: r, s, bk, s', bk', h => by
    simp only [seqE] at h
    cases hs : stp T E ops f0 o i s with
    | none => simp [hs] at h
    | some q =>
      simp only [hs, Option.bind_some] at h
      obtain ⟨es, h1, h2⟩ := seqE_run r _ _ _ _ h
      exact ⟨q.2 :: es, .cons hs h1, by rw [h2]; simp⟩

theorem RunE.bubble {x : Nat × Oper} {post : List (Nat × Oper)} {e : Ent} {es2 : List Ent} {s' : St} : ∀ (pre : List (Nat × Oper)) (es1 : List Ent) (s : St), es1.length = pre.length →
    RunE T E ops f0 (pre ++ x :: post) s (es1 ++ e :: es2) s' → (∀ a ∈ es1, apart a e = true) → RunE T E ops f0 (x :: (pre ++ post)) s (e :: (es1 ++ es2)) s'
  | [], [], _, _, h, _ => h
  | [], _ :: _, _, hl, _, _ => by simp at hl
  | _ :: _, [], _, hl, _, _ => by simp at hl
  | p :: pre, a :: es1, s, hl, h, ha => by
    cases h with
    | cons h1 k1 =>
      have ih := RunE.bubble pre es1 _ (by simpa using hl) k1 (fun b hb => ha b (List.mem_cons_of_mem _ hb))
      obtain ⟨j, q⟩ := x
      cases ih with
      | cons h2 k2 =>
        obtain ⟨z1, z2, z3⟩ := stp_swap h1 h2 (ha a (List.mem_cons_self ..))
        rw [z3] at k2
        exact .cons z1 (.cons z2 k2)

theorem RunE.split {post : List (Nat × Oper)} {x : Nat × Oper} {s' : St} : ∀ (pre : List (Nat × Oper)) (es : List Ent) (s : St), RunE T E ops f0 (pre ++ x :: post) s es s' →
    ∃ es1 e es2, es = es1 ++ e :: es2 ∧ es1.length = pre.length ∧ e.i = x.1 ∧ (∀ a ∈ es1, ∃ p ∈ pre, a.i = p.1)
  | [], es, s, h => by
    cases h with
    | cons h1 k1 => exact ⟨[], _, _, rfl, rfl, (stp_ent h1).1, by simp⟩
  | p :: pre, es, s, h => by
    cases h with
    | cons h1 k1 =>
      obtain ⟨es1, e, es2, h2, h3, h4, h5⟩ := RunE.split pre _ _ k1
      subst h2
      refine ⟨_ :: es1, e, es2, rfl, by simp [h3], h4, ?_⟩
      intro a ha
      rcases List.mem_cons.1 ha with rfl | ha
      · exact ⟨_, List.mem_cons_self .., (stp_ent h1).1⟩
      · obtain ⟨q, hq, e⟩ := h5 a ha; exact ⟨q, List.mem_cons_of_mem _ hq, e⟩
end

/-! ### any order -/

def okPair (bh : List Nat) (a b : Ent) : Prop := Nat.testBit (bh.getD b.i 0) a.i = true ∨ apart a b = true

theorem apartAll_pw (bh : List Nat) : ∀ es : List Ent, apartAll bh es.reverse = true → es.Pairwise (okPair bh) := by
  suffices h : ∀ l : List Ent, apartAll bh l = true → l.reverse.Pairwise (okPair bh) by
    intro es he; have := h _ he; rwa [List.reverse_reverse] at this
  intro l
  induction l with
  | nil => intro _; exact List.Pairwise.nil
  | cons b r ih =>
    intro h
    rw [apartAll, Bool.and_eq_true, List.all_eq_true] at h
    rw [List.reverse_cons, List.pairwise_append]
    refine ⟨ih h.2, List.pairwise_singleton _ _, ?_⟩
    intro a ha b' hb
    rw [List.mem_singleton] at hb; subst hb
    have := h.1 a (List.mem_reverse.1 ha)
    rw [Bool.or_eq_true] at this
    exact this

theorem behindO_bit (acc : List Nat) (j : Nat) : ∀ l : List Edge, Nat.testBit (behindO acc l) j = true →
    ∃ e ∈ l, Region.binds .any e = true ∧ (j = e.on ∨ Nat.testBit (acc.getD e.on 0) j = true)
  | [], h => by simp [behindO] at h
  | e :: r, h => by
    rw [behindO] at h
    cases hb : Region.binds .any e with
    | false =>
      rw [hb] at h
      obtain ⟨e', h1, h2⟩ := behindO_bit acc j r h
      exact ⟨e', List.mem_cons_of_mem _ h1, h2⟩
    | true =>
      rw [hb] at h
      simp only [cond_true, Nat.testBit_or, Bool.or_eq_true] at h
      rcases h with (h | h) | h
      · exact ⟨e, List.mem_cons_self .., hb, .inl (by rw [Nat.testBit_two_pow] at h; exact (of_decide_eq_true h).symm)⟩
      · exact ⟨e, List.mem_cons_self .., hb, .inr h⟩
      · obtain ⟨e', h1, h2⟩ := behindO_bit acc j r h
        exact ⟨e', List.mem_cons_of_mem _ h1, h2⟩

theorem behind_keeps : ∀ (l : List Oper) (acc : List Nat) (i : Nat), i < acc.length → (behind l acc).getD i 0 = acc.getD i 0
  | [], _, _, _ => rfl
  | o :: r, acc, i, h => by
    rw [behind, behind_keeps r _ i (by simp; omega)]
    simp [List.getElem?_append_left h]

theorem behind_at : ∀ (l : List Oper) (acc : List Nat) (i : Nat) (o : Oper), l[i]? = some o →
    ∃ acc', (∀ j, j < acc.length + i → acc'.getD j 0 = (behind l acc).getD j 0) ∧ acc'.length = acc.length + i ∧ (behind l acc).getD (acc.length + i) 0 = behindO acc' o.after.toList
  | [], _, _, _, h => by simp at h
  | o :: r, acc, 0, o', h => by
    simp only [List.getElem?_cons_zero, Option.some.injEq] at h
    subst h
    refine ⟨acc, fun j hj => ?_, rfl, ?_⟩
    · rw [behind, behind_keeps _ _ _ (by simp; omega)]
      simp only [Nat.add_zero] at hj
      simp [List.getElem?_append_left hj]
    · rw [behind, behind_keeps _ _ _ (by simp)]
      simp
  | o :: r, acc, i + 1, o', h => by
    obtain ⟨acc', h1, h2, h3⟩ := behind_at r (acc ++ [behindO acc o.after.toList]) i o' (by simpa using h)
    refine ⟨acc', fun j hj => ?_, by rw [h2]; simp; omega, ?_⟩
    · rw [behind]; exact h1 j (by simp; omega)
    · rw [behind]
      have e : (acc ++ [behindO acc o.after.toList]).length + i = acc.length + (i + 1) := by simp; omega
      rw [e] at h3; exact h3

/-- What an operation stands behind: an edge, or what the edge's operation stands behind. -/
theorem behind_bit {l : List Oper} {i j : Nat} {o : Oper} (ho : l[i]? = some o) (h : Nat.testBit ((behind l []).getD i 0) j = true) :
    ∃ e ∈ o.after.toList, Region.binds .any e = true ∧ (j = e.on ∨ (e.on < i ∧ Nat.testBit ((behind l []).getD e.on 0) j = true)) := by
  obtain ⟨acc', h1, h2, h3⟩ := behind_at l [] i o ho
  simp only [List.length_nil, Nat.zero_add] at h1 h2 h3
  rw [h3] at h
  obtain ⟨e, k1, k2, k3⟩ := behindO_bit acc' j _ h
  refine ⟨e, k1, k2, ?_⟩
  rcases k3 with k3 | k3
  · exact .inl k3
  · by_cases hlt : e.on < i
    · exact .inr ⟨hlt, by rw [← h1 _ hlt]; exact k3⟩
    · have : acc'.getD e.on 0 = 0 := by simp [List.getElem?_eq_none (show acc'.length ≤ e.on by omega)]
      rw [this] at k3; simp at k3

theorem edgesOk_spec (i : Nat) : ∀ l, edgesOk i l = true → ∀ e ∈ l, Region.binds .any e = true → e.on < i
  | [], _, _, h, _ => by simp at h
  | a :: r, h, e, he, hb => by
    rw [edgesOk, Bool.and_eq_true] at h
    rcases List.mem_cons.1 he with rfl | he
    · have := h.1; rw [hb] at this; simp only [Bool.not_true, Bool.false_or, Nat.blt_eq] at this; exact this
    · exact edgesOk_spec i r h.2 e he hb

theorem edgesAll_spec : ∀ (l : List Oper) (n i : Nat) (o : Oper), edgesAll n l = true → l[i]? = some o → edgesOk (n + i) o.after.toList = true
  | [], _, _, _, _, h => by simp at h
  | o :: r, n, 0, o', h, ho => by
    rw [edgesAll, Bool.and_eq_true] at h
    simp only [List.getElem?_cons_zero, Option.some.injEq] at ho; subst ho; exact h.1
  | o :: r, n, i + 1, o', h, ho => by
    rw [edgesAll, Bool.and_eq_true] at h
    have := edgesAll_spec r (n + 1) i o' h.2 (by simpa using ho)
    rwa [show n + 1 + i = n + (i + 1) by omega] at this

theorem ready_iff (ops : Array Oper) (listed : Array Bool) (i : Nat) : i ∈ Region.ready .any ops listed ↔
    ∃ o, ops[i]? = some o ∧ listed.getD i true = false ∧ ∀ e ∈ o.after.toList, Region.binds .any e = true → listed.getD e.on false = true := by
  unfold Region.ready
  rw [List.mem_filter, List.mem_range]
  constructor
  · rintro ⟨h1, h2⟩
    simp only [Bool.and_eq_true, Bool.not_eq_true'] at h2
    obtain ⟨h2, h3⟩ := h2
    rw [Array.getElem?_eq_getElem h1] at h3
    simp only [Option.map_some, Option.getD_some] at h3
    refine ⟨ops[i], Array.getElem?_eq_getElem h1, h2, fun e he hb => ?_⟩
    rw [← Array.all_toList, List.all_eq_true] at h3
    have := h3 e he
    rw [hb] at this
    simpa using this
  · rintro ⟨o, h1, h2, h3⟩
    have hlt : i < ops.size := by
      rcases Nat.lt_or_ge i ops.size with h | h
      · exact h
      · rw [Array.getElem?_eq_none h] at h1; simp at h1
    refine ⟨hlt, ?_⟩
    rw [h1, h2]
    simp only [Bool.not_false, Option.map_some, Option.getD_some, Bool.true_and]
    rw [← Array.all_toList, List.all_eq_true]
    intro e he
    cases hb : Region.binds .any e with
    | false => rfl
    | true => rw [h3 e he hb]; rfl

section
variable {T : Tab} {E : Env} {ops : Array Oper} {f0 : Nat} {P : Program} {Q : Exit → Act → World → Prop}

/-- Whatever order is picked: the state at the end is the text's. 'Sim D s a w': the machine stands as the abstract state s says, behind the operations D. -/
theorem any_order (Sim : List Nat → St → Act → World → Prop) (s1 : St) (hed : edgesAll 0 ops.toList = true)
    (hstep : ∀ D i o s a w u e K, ops[i]? = some o → i ∉ D → Sim D s a w → stp T E ops f0 o i s = some (u, e) → (∀ a' w', Sim (i :: D) (s.up u) a' w' → K a' w') → wpOp P ops Q i K a w)
    (hend : ∀ D a w, Sim D s1 a w → Q .normal a w) :
    ∀ (fuel : Nat) (L : List (Nat × Oper)) (es : List Ent) (D : List Nat) (listed : Array Bool) (s : St) (a : Act) (w : World),
      L.length ≤ fuel → listed.size = ops.size → RunE T E ops f0 L s es s1 → es.Pairwise (okPair (behind ops.toList [])) → (L.map (·.1)).Pairwise (· < ·) →
      (∀ p ∈ L, ops[p.1]? = some p.2) → (∀ i, i < ops.size → (listed.getD i true = false ↔ i ∈ L.map (·.1))) → (∀ i, i ∈ D → listed.getD i true = true) →
      (∀ i j, i < ops.size → listed.getD i true = true → Nat.testBit ((behind ops.toList []).getD i 0) j = true → listed.getD j false = true) →
      Sim D s a w → wpAny P .any ops Q fuel listed a w := by
  have getDs : ∀ (l : Array Bool) (j : Nat), l.size = ops.size → j < ops.size → l.getD j true = l.getD j false := by
    intro l j hl hj; simp [Array.getD, hl, hj]
  intro fuel
  induction fuel with
  | zero =>
    intro L es D listed s a w hL hsz hrun hpw hso hops hli hD hcl hsim
    have : L = [] := List.length_eq_zero_iff.1 (Nat.le_zero.1 hL)
    subst this
    cases hrun
    refine ⟨?_, hend _ _ _ hsim⟩
    rw [List.eq_nil_iff_forall_not_mem]
    intro i hi
    obtain ⟨o, h1, h2, _⟩ := (ready_iff ops listed i).1 hi
    have hlt : i < ops.size := by
      rcases Nat.lt_or_ge i ops.size with h | h
      · exact h
      · rw [Array.getElem?_eq_none h] at h1; simp at h1
    simpa using (hli i hlt).1 h2
  | succ fuel ih =>
    intro L es D listed s a w hL hsz hrun hpw hso hops hli hD hcl hsim
    refine ⟨fun hr => ?_, fun i hi => ?_⟩
    · cases L with
      | nil => cases hrun; exact hend _ _ _ hsim
      | cons p r =>
        exfalso
        obtain ⟨i, o⟩ := p
        have ho : ops[i]? = some o := hops (i, o) (List.mem_cons_self ..)
        have hlt : i < ops.size := by
          rcases Nat.lt_or_ge i ops.size with h | h
          · exact h
          · rw [Array.getElem?_eq_none h] at ho; simp at ho
        have : i ∈ Region.ready .any ops listed := by
          refine (ready_iff ops listed i).2 ⟨o, ho, (hli i hlt).2 (by simp), fun e he hb => ?_⟩
          have hon := edgesOk_spec (0 + i) _ (edgesAll_spec ops.toList 0 i o hed (by simpa using ho)) e he hb
          rw [Nat.zero_add] at hon
          have hlt' : e.on < ops.size := by omega
          rw [← getDs listed e.on hsz hlt']
          cases hq : listed.getD e.on true with
          | true => rfl
          | false =>
            have := (hli e.on hlt').1 hq
            simp only [List.map_cons, List.mem_cons] at this
            rcases this with h | h
            · omega
            · have h5 : i < e.on := (List.pairwise_cons.1 hso).1 _ h
              omega
        rw [hr] at this; simp at this
    · obtain ⟨o, h1, h2, h3⟩ := (ready_iff ops listed i).1 hi
      have hlt : i < ops.size := by
        rcases Nat.lt_or_ge i ops.size with h | h
        · exact h
        · rw [Array.getElem?_eq_none h] at h1; simp at h1
      have him := (hli i hlt).1 h2
      obtain ⟨⟨i', o'⟩, hp, rfl⟩ := List.mem_map.1 him
      simp only at h1 h2 hlt hi him ⊢
      have ho' := hops _ hp
      simp only [h1, Option.some.injEq] at ho'
      subst ho'
      obtain ⟨pre, post, rfl⟩ := List.append_of_mem hp
      obtain ⟨es1, e, es2, rfl, hl1, hei, hes1⟩ := RunE.split pre es s hrun
      have hap : ∀ b ∈ es1, apart b e = true := by
        intro b hb
        have hpair := (List.pairwise_append.1 hpw).2.2 b hb e (List.mem_cons_self ..)
        rcases hpair with hbit | hpair
        · exfalso
          obtain ⟨q, hq, hqi⟩ := hes1 b hb
          rw [hei] at hbit
          have hqlt : q.1 < ops.size := by
            have := hops q (List.mem_append_left _ hq)
            rcases Nat.lt_or_ge q.1 ops.size with h | h
            · exact h
            · rw [Array.getElem?_eq_none h] at this; simp at this
          have hnot : listed.getD b.i true = false := by
            rw [hqi]
            exact (hli q.1 hqlt).2 (List.mem_map.2 ⟨q, List.mem_append_left _ hq, rfl⟩)
          rw [hqi] at hbit hnot
          obtain ⟨ed, k1, k2, k3⟩ := behind_bit (l := ops.toList) (i := i') (o := o) (by simpa using h1) hbit
          have hl := h3 ed k1 k2
          rcases k3 with k3 | ⟨k3, k4⟩
          · rw [← k3, ← getDs listed q.1 hsz hqlt, hnot] at hl; simp at hl
          · have hedlt : ed.on < ops.size := by omega
            rw [← getDs listed ed.on hsz hedlt] at hl
            have := hcl ed.on q.1 hedlt hl k4
            rw [← getDs listed q.1 hsz hqlt, hnot] at this; simp at this
        · exact hpair
      have hrun' := RunE.bubble pre es1 s hl1 hrun hap
      cases hrun' with
      | cons hst hrest =>
        have hnD : i' ∉ D := fun hd => by rw [hD _ hd] at h2; simp at h2
        refine hstep D i' o s a w _ _ _ h1 hnD hsim hst fun a' w' hsim' => ?_
        have hset : ∀ j, (listed.setIfInBounds i' true).getD j true = if j = i' then true else listed.getD j true := by
          intro j
          by_cases hj : j = i'
          · subst hj; simp [Array.getD, hsz, hlt]
          · rw [if_neg hj]
            by_cases hjs : j < listed.size
            · simp [Array.getD, hjs, Ne.symm hj]
            · simp [Array.getD, hjs]
        have hset' : ∀ j, (listed.setIfInBounds i' true).getD j false = if j = i' then true else listed.getD j false := by
          intro j
          by_cases hj : j = i'
          · subst hj; simp [Array.getD, hsz, hlt]
          · rw [if_neg hj]
            by_cases hjs : j < listed.size
            · simp [Array.getD, hjs, Ne.symm hj]
            · simp [Array.getD, hjs]
        have hsoA : (pre.map (·.1) ++ i' :: post.map (·.1)).Pairwise (· < ·) := by simpa using hso
        have hnodup : i' ∉ (pre ++ post).map (·.1) := by
          intro hm
          rw [List.map_append, List.mem_append] at hm
          rcases hm with hm | hm
          · have := (List.pairwise_append.1 hsoA).2.2 _ hm i' (List.mem_cons_self ..); omega
          · have := (List.pairwise_cons.1 (List.pairwise_append.1 hsoA).2.1).1 _ hm; omega
        refine ih (pre ++ post) (es1 ++ es2) (i' :: D) _ _ a' w' ?_ ?_ hrest ?_ ?_ ?_ ?_ ?_ ?_ hsim'
        · simp only [List.length_append, List.length_cons] at hL ⊢; omega
        · simp [hsz]
        · exact hpw.sublist (List.Sublist.append (List.Sublist.refl _) (List.sublist_cons_self _ _))
        · exact hso.sublist (List.Sublist.map _ (List.Sublist.append (List.Sublist.refl _) (List.sublist_cons_self _ _)))
        · intro p hp'
          refine hops p ?_
          rcases List.mem_append.1 hp' with h | h
          · exact List.mem_append_left _ h
          · exact List.mem_append_right _ (List.mem_cons_of_mem _ h)
        · intro j hj
          rw [hset]
          by_cases hji : j = i'
          · subst hji; simp only [if_true, Bool.true_eq_false, false_iff]; exact hnodup
          · rw [if_neg hji, hli j hj]
            simp only [List.map_append, List.map_cons, List.mem_append, List.mem_cons, hji, false_or]
        · intro j hj
          rw [hset]
          rcases List.mem_cons.1 hj with rfl | hj
          · simp
          · split
            · rfl
            · exact hD j hj
        · intro j k hj hl hb
          rw [hset] at hl
          rw [hset']
          split
          · rfl
          · by_cases hji : j = i'
            · subst hji
              obtain ⟨ed, k1, k2, k3⟩ := behind_bit (l := ops.toList) (i := j) (o := o) (by simpa using h1) hb
              have hl' := h3 ed k1 k2
              rcases k3 with k3 | ⟨k3, k4⟩
              · rw [k3]; exact hl'
              · have hedlt : ed.on < ops.size := by omega
                rw [← getDs listed ed.on hsz hedlt] at hl'
                exact hcl ed.on k hedlt hl' k4
            · rw [if_neg hji] at hl
              exact hcl j k hj hl hb
end

end Go.Rf
