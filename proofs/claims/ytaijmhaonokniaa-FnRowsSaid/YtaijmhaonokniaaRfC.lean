/- Operations as reading programs: what they read is all that they hang on; so operations that stay out of each other's way may be turned about. -/
import Derived.Test.YtaijmhaonokniaaRfB
namespace Go.Rf
set_option linter.unusedVariables false
set_option linter.unusedSimpArgs false

def RP.exec {α : Type} (s : St) : RP α → List Key → Option (α × List Key)
  | .ret a, rs => some (a, rs)
  | .fail, _ => none
  | .slot i k, rs => (k (s.sl i)).exec s (.s i :: rs)
  | .obj id k, rs => (k (s.ob id)).exec s (.o id :: rs)
  | .chk b k, rs => bif b then k.exec s rs else none
  | .split b k1 k2, rs => bif b then k1.exec s rs else k2.exec s rs
  | .bnd o k, rs => o.bind fun a => (k a).exec s rs

theorem RP.run_eq {α ρ : Type} (s : St) (K : α → List Key → Option ρ) : ∀ (p : RP α) rs, p.run s K rs = (p.exec s rs).bind fun q => K q.1 q.2
  | .ret a, rs => rfl
  | .fail, _ => rfl
  | .slot i k, rs => RP.run_eq s K (k (s.sl i)) _
  | .obj id k, rs => RP.run_eq s K (k (s.ob id)) _
  | .chk b k, rs => by cases b; rfl; exact RP.run_eq s K k rs
  | .split b k1 k2, rs => by cases b; exact RP.run_eq s K k2 rs; exact RP.run_eq s K k1 rs
  | .bnd o k, rs => by cases o; rfl; exact RP.run_eq s K (k _) rs

theorem RP.exec_keys {α : Type} (s : St) : ∀ (p : RP α) rs a rs', p.exec s rs = some (a, rs') → ∀ k ∈ rs, k ∈ rs'
  | .ret a, rs, b, rs', h => by simp only [RP.exec, Option.some.injEq, Prod.mk.injEq] at h; obtain ⟨_, rfl⟩ := h; exact fun _ h => h
  | .fail, _, _, _, h => by simp [RP.exec] at h
  | .slot i k, rs, _, _, h => fun q hq => RP.exec_keys s (k (s.sl i)) _ _ _ h q (List.mem_cons_of_mem _ hq)
  | .obj id k, rs, _, _, h => fun q hq => RP.exec_keys s (k (s.ob id)) _ _ _ h q (List.mem_cons_of_mem _ hq)
  | .chk b k, rs, _, _, h => by
    cases b
    · simp [RP.exec] at h
    · exact RP.exec_keys s k rs _ _ h
  | .split b k1 k2, rs, _, _, h => by
    cases b
    · exact RP.exec_keys s k2 rs _ _ h
    · exact RP.exec_keys s k1 rs _ _ h
  | .bnd o k, rs, _, _, h => by
    cases o
    · simp [RP.exec] at h
    · exact RP.exec_keys s (k _) rs _ _ h

def agree (s s' : St) : Key → Prop
  | .s i => s.sl i = s'.sl i
  | .o i => s.ob i = s'.ob i

theorem RP.exec_local {α : Type} {s s' : St} : ∀ (p : RP α) rs a rs', p.exec s rs = some (a, rs') → (∀ k ∈ rs', agree s s' k) → p.exec s' rs = some (a, rs')
  | .ret a, rs, b, rs', h, _ => h
  | .fail, _, _, _, h, _ => by simp [RP.exec] at h
  | .slot i k, rs, _, rs', h, hk => by
    have e : s.sl i = s'.sl i := hk (.s i) (RP.exec_keys s (k (s.sl i)) _ _ _ h _ (List.mem_cons_self ..))
    show (k (s'.sl i)).exec s' _ = _
    rw [← e]; exact RP.exec_local _ _ _ _ h hk
  | .obj i k, rs, _, rs', h, hk => by
    have e : s.ob i = s'.ob i := hk (.o i) (RP.exec_keys s (k (s.ob i)) _ _ _ h _ (List.mem_cons_self ..))
    show (k (s'.ob i)).exec s' _ = _
    rw [← e]; exact RP.exec_local _ _ _ _ h hk
  | .chk b k, rs, _, _, h, hk => by
    cases b
    · simp [RP.exec] at h
    · exact RP.exec_local k rs _ _ h hk
  | .split b k1 k2, rs, _, _, h, hk => by
    cases b
    · exact RP.exec_local k2 rs _ _ h hk
    · exact RP.exec_local k1 rs _ _ h hk
  | .bnd o k, rs, _, _, h, hk => by
    cases o
    · simp [RP.exec] at h
    · exact RP.exec_local (k _) rs _ _ h hk

/-! ### telling a value anew changes nothing -/

theorem nSc_eq {ρ : Type} (s : Sc) (K : Sc → ρ) : nSc s K = K s := by cases s <;> rfl
theorem nL_eq {ρ : Type} : ∀ (l : List Sc) (K : List Sc → ρ), nL l K = K l
  | [], _ => rfl
  | s :: r, K => by rw [nL, nSc_eq, nL_eq r]
theorem nT_eq {ρ : Type} : ∀ (l : List (Bool × List Sc)) (K : List (Bool × List Sc) → ρ), nT l K = K l
  | [], _ => rfl
  | (b, s) :: r, K => by rw [nT, nL_eq, nT_eq r]
theorem nAV_eq {ρ : Type} (v : AV) (K : AV → ρ) : nAV v K = K v := by
  cases v with
  | one s => unfold nAV; exact nSc_eq s fun s => K (.one s)
  | agg l => unfold nAV; exact nL_eq l fun l => K (.agg l)
  | tup l => unfold nAV; exact nT_eq l fun l => K (.tup l)
theorem nObj_eq {ρ : Type} (o : Option Obj) (K : Option Obj → ρ) : nObj o K = K o := by
  cases o with
  | none => rfl
  | some o =>
    cases o with
    | row t xs => rfl
    | var l => unfold nObj; exact nL_eq l fun l => K (some (.var l))
theorem nSS_eq {ρ : Type} : ∀ (l : List (Nat × AV)) (K : List (Nat × AV) → ρ), nSS l K = K l
  | [], _ => rfl
  | (i, v) :: r, K => by rw [nSS, nAV_eq, nSS_eq r]
theorem nOS_eq {ρ : Type} : ∀ (l : List (Nat × Option Obj)) (K : List (Nat × Option Obj) → ρ), nOS l K = K l
  | [], _ => rfl
  | (i, v) :: r, K => by rw [nOS, nObj_eq, nOS_eq r]
theorem nU_eq {ρ : Type} (u : Upd) (K : Upd → ρ) : nU u K = K u := by rw [nU, nSS_eq, nOS_eq]

/-! ### one operation of a region -/

section
variable (T : Tab) (E : Env) (ops : Array Oper) (f0 : Nat)

def goE (o : Oper) (i : Nat) (s : St) (rs : List Key) : Option (Upd × Ent) :=
  ((step T E o (f0 + i * idW)).exec s rs).map fun q => (q.1, ⟨i, q.2, q.1.ss.map (·.1), q.1.os.map (·.1)⟩)

def offE (o : Oper) (i : Nat) (rs : List Key) : Upd × Ent :=
  match o.dst with
  | some d => (⟨[(d, .one .skip)], []⟩, ⟨i, rs, [d], []⟩)
  | none => (⟨[], []⟩, ⟨i, rs, [], []⟩)

/-- Operation number i in state s: what it turns, and its entry. -/
def stp (o : Oper) (i : Nat) (s : St) : Option (Upd × Ent) :=
  match guardOf ops o with
  | none => goE T E f0 o i s []
  | some (some g, want) => match s.sl g with
    | .one (.bool b) => if b = want then goE T E f0 o i s [.s g] else some (offE o i [.s g])
    | .one .skip => some (offE o i [.s g])
    | _ => none
  | some (none, _) => none

def St.up (s : St) (u : Upd) : St := s.app u.ss u.os

/-- Several operations, one behind the other. -/
def seqE : List (Nat × Oper) → St → List Ent → Option (St × List Ent)
  | [], s, bk => some (s, bk)
  | (i, o) :: r, s, bk => (stp T E ops f0 o i s).bind fun q => seqE r (s.up q.1) (q.2 :: bk)

theorem upd_self {α : Type} (f : Nat → α) (i : Nat) (v : α) (h : f i = v) : upd f i v = f := by
  funext j
  unfold upd nEq
  cases e : Nat.beq j i with
  | false => rfl
  | true => have := Nat.eq_of_beq_eq_true e; subst this; exact h.symm

def num : Nat → List Oper → List (Nat × Oper)
  | _, [] => []
  | i, o :: r => (i, o) :: num (i + 1) r

theorem evOps_eq {ρ : Type} (K : St → List Ent → Option ρ) : ∀ (l : List Oper) (i : Nat) (s : St) (bk : List Ent),
    evOps T E ops f0 l i s bk K = (seqE T E ops f0 (num i l) s bk).bind fun q => K q.1 q.2
  | [], i, s, bk => rfl
  | o :: r, i, s, bk => by
    have hgo : ∀ s rs, (step T E o (f0 + i * idW)).run s (fun u rs' => nU u fun u => evOps T E ops f0 r (i + 1) (s.app u.ss u.os) (⟨i, rs', u.ss.map (·.1), u.os.map (·.1)⟩ :: bk) K) rs =
        (goE T E f0 o i s rs).bind fun q => (seqE T E ops f0 (num (i + 1) r) (s.up q.1) (q.2 :: bk)).bind fun q => K q.1 q.2 := by
      intro s rs
      rw [RP.run_eq, goE]
      cases (step T E o (f0 + i * idW)).exec s rs with
      | none => rfl
      | some q => simp only [Option.bind_some, nU_eq, Option.map_some]; exact evOps_eq K r (i + 1) _ _
    have hoff : ∀ s rs, (match o.dst with
        | some d => evOps T E ops f0 r (i + 1) (s.app [(d, .one .skip)] []) (⟨i, rs, [d], []⟩ :: bk) K
        | none => evOps T E ops f0 r (i + 1) s (⟨i, rs, [], []⟩ :: bk) K) =
        (seqE T E ops f0 (num (i + 1) r) (s.up (offE o i rs).1) ((offE o i rs).2 :: bk)).bind fun q => K q.1 q.2 := by
      intro s rs
      unfold offE
      cases o.dst with
      | none => exact evOps_eq K r (i + 1) _ _
      | some d => exact evOps_eq K r (i + 1) _ _
    simp only [num, seqE, stp]
    unfold evOps
    cases hg : guardOf ops o with
    | none => simp only [hgo, Option.bind_assoc]
    | some p =>
      obtain ⟨g, want⟩ := p
      cases g with
      | none => rfl
      | some g =>
        simp only
        cases hv : s.sl g with
        | one v =>
          cases v with
          | bool b =>
            have hs : (⟨upd s.sl g (.one (.bool b)), s.ob⟩ : St) = s := by rw [upd_self _ _ _ hv]
            cases b <;> cases want <;> simp only [cond_true, cond_false, hs, hgo, Option.bind_assoc, reduceCtorEq, if_true, if_false, Option.bind_some] <;> exact hoff s _
          | skip => exact hoff s _
          | _ => rfl
        | _ => rfl

end
end Go.Rf
