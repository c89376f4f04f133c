/- Tools for the rows of a seat. -/
import Derived.Test.YtaijmhaonokniaaRfZf
import Derived.WideShapes
namespace Go.Rf
set_option linter.unusedVariables false
set_option linter.unusedSimpArgs false
open Go.RowKit Go.WideShapes

section
variable {P : Program}

theorem EnvOk.nil : EnvOk P [] := fun g cs h => by simp [lkp] at h

theorem EnvOk.cons {g : Nat} {cs : List Ctr} {E : Env} (h : ∀ c ∈ cs, CtrOk P g c) (hE : EnvOk P E) : EnvOk P ((g, cs) :: E) := fun g' cs' hl => by
  unfold lkp at hl
  cases he : nEq g g' with
  | true =>
    rw [he] at hl
    simp only [cond_true, Option.some.injEq] at hl
    rw [← (nEq_iff _ _).1 he, ← hl]
    exact h
  | false =>
    rw [he] at hl
    exact hE g' cs' hl

theorem ctrs_nil {g : Nat} : ∀ c ∈ ([] : List Ctr), CtrOk P g c := by simp
theorem ctrs_cons {g : Nat} {c : Ctr} {cs : List Ctr} (h : CtrOk P g c) (hs : ∀ c ∈ cs, CtrOk P g c) : ∀ d ∈ c :: cs, CtrOk P g d := fun d hd => by
  rcases List.mem_cons.1 hd with k | k
  · rw [k]; exact h
  · exact hs d k

variable {H : Type} {enc : TypeId × Value → H} {W : World}

theorem form_okWide {n : Nat} {T : Ty} {t : TypeId} {r : Reach} {base : Nat} {v : Value} (h : chkRd P n T t = true) (hv : Value.okWide P W r base t v) : Form T v := by
  unfold Form
  cases n with
  | zero => simp [chkRd] at h
  | succ n =>
    unfold chkRd at h
    split at h
    · rename_i hu; obtain ⟨z, rfl⟩ := okWide_int hu hv; rfl
    · rename_i hu; obtain ⟨z, rfl⟩ := okWide_bool hu hv; rfl
    · rename_i hu; obtain ⟨z, rfl⟩ := okWide_string hu hv; rfl
    · rename_i hu; obtain ⟨a, l, c, rfl⟩ := okWide_slice hu hv; rfl
    · rename_i hu; obtain ⟨cs, rfl, _⟩ := okWide_struct hu hv; exact ⟨cs, rfl⟩
    · simp at h

/-- One parameter. -/
theorem arg_ok {n : Nat} {T : Ty} {t : TypeId} {r : Reach} {base : Nat} {v : Value} {d : DataW H} {p : List MemPlace} (h : chkRd P n T t = true) (ho : T.owns = false) (hv : Value.okWide P W r base t v)
    (hd : DataW.Trod enc P W 0 (fun _ => true) true t v d p) (hl : Light P t d) : ∃ x, ArgOk W (fun b => b < W.heap.size) (.val T) x v [] [] ∧ wfD T x := by
  obtain ⟨fuel, hf⟩ := hd
  obtain ⟨x, h1, h2⟩ := chkRd_ok n T t h fuel _ _ hf hl
  exact ⟨x, ⟨form_okWide h hv, noown_ow T ho x _ h1, (tops_noown T ho _).symm⟩, h2⟩

theorem light_of {ts : List TypeId} {ds : List (DataW H)} (h : (DataW.weightsEach P ts ds).all (· ≤ reachBytes) = true) {j : Nat} {t : TypeId} {d : DataW H} (ht : ts[j]? = some t) (hd : ds[j]? = some d) : Light P t d := fun n hn => by
  have := List.all_eq_true.1 h n (DataW.weights_mem_each ht hd n hn)
  simpa using this

theorem args_nil {S : Nat → Prop} : ArgsOk W S [] [] () [] [] := ⟨rfl, rfl, rfl⟩

theorem args_cons {S : Nat → Prop} {T : Ty} {ps : List PK} {v : Value} {vs : List Value} {x : T.den} {xs : Tys (ps.map PK.ty)} (h : ArgOk W S (.val T) x v [] []) (hs : ArgsOk W S ps vs xs [] []) :
    ArgsOk W S (.val T :: ps) (v :: vs) (consTy T (ps.map PK.ty) x xs) [] [] := by
  refine ⟨v, vs, [], [], [], [], rfl, rfl, rfl, ?_, ?_⟩
  · show ArgOk W S (.val T) (headTy T (ps.map PK.ty) (consTy T (ps.map PK.ty) x xs)) v [] []
    rw [head_cons]; exact h
  · show ArgsOk W S ps vs (tailTy T (ps.map PK.ty) (consTy T (ps.map PK.ty) x xs)) [] []
    rw [tail_cons]; exact hs

theorem res_bool {S : Nat → Prop} {us : List Value} {x : Bool} {f1 t1 : List Nat} (h : ResOk W S [.val .bool] us x f1 t1) : us = [.bool x] := by
  obtain ⟨v, vs', f1, f2, t1, t2, e1, e2, e3, ⟨hF, ⟨h1, _⟩, _⟩, h2, _⟩ := h
  subst e1; subst h2
  have hF : v.oneCell' = true := hF
  have h1 : v.cells.toList = [.bool x] := h1
  rw [cells_one hF] at h1
  simp at h1
  rw [h1]

theorem args_lt {t : TypeId} {v : Value} {d : DataW H} {p : List MemPlace} (hd : DataW.Trod enc P W 0 (fun _ => true) true t v d p) : ∀ x ∈ p, x.block < W.heap.size := by
  obtain ⟨m, hm⟩ := hd; exact DataW.trod_lt m _ _ _ hm

theorem shutB {spare : Nat → Bool} {held : Bool} {base t : Nat} (hu : P.underlying t = some .bool) (b : Bool) : DataW.Trod enc P W base spare held t (.bool b) (.lit (.bool b)) [] :=
  ⟨1, by simp [DataW.trod, Value.cells, hu]⟩
end
end Go.Rf
