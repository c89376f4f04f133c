/- For every input FnExactPutLive answers true, and leaves what it was handed as it was. No condition. -/
import Derived.Test.YtlnfdijlnfmkfaaXPutLiveEv
import Derived.Test.YtlnfdijlnfmkfaaXPutLiveLem1
import Derived.Test.YtlnfdijlnfmkfaaRows
import Derived.WalkKit
import Derived.ProofKit
import Derived.OpenShut
import Derived.ShutString
import Derived.ChangeOld
import Derived.Below
import Derived.SizedLaws
namespace Go.Proofs.Ytlnfdijlnfmkfaa.fnExactPutLive
open Go Go.Rf Go.Rf.G Go.Proofs Go.ChangeShapes Go.WideShapes Go.ChangeAt Go.RowKit
set_option linter.unusedVariables false
theorem own : ownKnob Try.prog.godebug = none := by kernel_rfl
theorem laidOut : laidOutB Try.prog = true := by kernel_rfl
set_option maxRecDepth 100000 in
theorem lifted (os : Os) (started : os.Started) (H : Type) (enc : TypeId × Value → H) :
    ReturnsInHanded {} Try.checked os 3 .any (Rows.fnExactPutLiveSpec.pre6 enc Try.prog Try.f3 Rows.fnExactPutLiveRow.domain false) (Rows.fnExactPutLiveSpec.post enc Try.prog Try.f3 false true false false) := by
  refine returnsInHanded_of_change_sized (C := Try.checked) own started (by kernel_rfl) Try.func3
    (ChangeSpec.witness6 (enc := enc) (C := Try.checked) false ⟨#[], #[.agg #[.slice none 0 0, .int .i64 0, .int .i64 0, .bool false], .agg #[.int .i64 0, .slice none 0 0]], []⟩ 8 (by kernel_rfl) (by kernel_rfl) (by kernel_rfl) (by kernel_rfl)) ?_
  intro W base args ds gs before hval0 hW hcnd hsz0 _
  have hsz : (DataW.weightsEach Try.prog (Try.f3.params.toList ++ Rows.fnExactPutLiveSpec.plain.varTypes Try.prog) (ds ++ gs)).all (· ≤ reachBytes) = true := hsz0
  have hval : ∀ (j : Nat) t v, Try.f3.params[j]? = some t → args[j]? = some v → Value.okWide Try.prog W .any base t v := hval0
  have hW' := hW
  obtain ⟨p, q, hA0, hV, rfl, hfz, hnd⟩ := hW
  have hA : DataW.TrodAll enc Try.prog W 0 (fun _ => true) true Try.f3.params.toList args.toList ds p := hA0
  rw [Try.params3] at hA hval hsz
  obtain ⟨v0, vs0, d0, ds0, p0, q0, hargs, rfl, rfl, h0, r0⟩ := trodAll_cons hA
  obtain ⟨v1, vs1, d1, ds1, p1, q1, rfl, rfl, rfl, h1, r1⟩ := trodAll_cons r0
  obtain ⟨rfl, rfl, rfl⟩ := trodAll_nil r1
  obtain rfl : args = #[v0, v1] := by cases args; simp_all
  obtain ⟨rfl, rfl⟩ := trodVars_none hV
  obtain ⟨x0, g0, w0⟩ := arg_ok (n := 20) (T := (.pair (.sl false (.pair .str (.pair .str (.int .i64)))) (.pair (.int .i64) (.pair (.int .i64) .bool)))) (t := 24) (by kernel_rfl) (by rfl) (hval 0 24 v0 rfl rfl) h0 (light_of hsz (j := 0) rfl rfl)
  obtain ⟨x1, g1, w1⟩ := arg_ok (n := 20) (T := (.pair (.int .i64) (.sl false (.int .i64)))) (t := 27) (by kernel_rfl) (by rfl) (hval 1 27 v1 rfl rfl) h1 (light_of hsz (j := 1) rfl rfl)
  clear hA0 hval0 hsz0 hsz
  have hcall := law_calls (c := laws_FnExactPutLive.ctr) laws_FnExactPutLive.ok (fn := Try.f3) (body := bodyOf Try.f3) Try.func3 (by kernel_rfl) (by kernel_rfl) laws_FnExactPutLive.sig.ps rfl rfl W [v0, v1] _ true (args_cons g0 (args_cons g1 args_nil)) (FnExactPutLive_true x0 w0 x1 w1) (fun _ _ _ _ _ h => res_bool h)
  refine hcall.mono fun e W' ⟨he, bel⟩ => ?_
  subst he
  exact ⟨_, rfl, _, _, _, [], _, [], hW', trodAll_mk1 (shutB Try.underlying4 _), (trodAll_cons_mk (Below.trod laidOut (by kernel_rfl) (of_decide_eq_true (by kernel_rfl)) h0 bel (args_lt h0)) (trodAll_cons_mk (Below.trod laidOut (by kernel_rfl) (of_decide_eq_true (by kernel_rfl)) h1 bel (args_lt h1)) trodAll_mk0)), rfl, bel.frame _, fun h => by cases h⟩
theorem over : Rows.fnExactPutLiveRow.holds Try.pinned (OpenSpec.ofChange Rows.fnExactPutLiveSpec) :=
  OpenClaim.holds_of_wide 3 Try.f3 rfl rfl rfl rfl rfl rfl rfl ⟨rfl, rfl, rfl, rfl, rfl⟩ rfl rfl rfl rfl rfl (by kernel_rfl) Try.func3 (by kernel_rfl)
    (of_decide_eq_true (by kernel_rfl)) (by unfold Func.isWrapper; first | (rw [if_pos (by decide +kernel)]; kernel_rfl) | (rw [if_neg (by decide +kernel)]; exact ⟨rfl, rfl⟩))
    (fun os started H enc _ => lifted os started H enc)
theorem proved : Rows.FnExactPutLiveSaid := over
end Go.Proofs.Ytlnfdijlnfmkfaa.fnExactPutLive
namespace Go.Proofs.Ytlnfdijlnfmkfaa
/-- The row, under a short name, for the claim. -/
theorem fnExactPutLive_holds : Rows.FnExactPutLiveSaid := fnExactPutLive.proved
#print axioms fnExactPutLive_holds
end Go.Proofs.Ytlnfdijlnfmkfaa
