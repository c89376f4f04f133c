/- For every input FnExactModelPlay answers true, and leaves what it was handed as it was. No condition. -/
import Derived.Test.YtaijadchooalpaaXModelPlayEv
import Derived.Test.YtaijadchooalpaaXModelPlayLem1
import Derived.Test.YtaijadchooalpaaRows
import Derived.WalkKit
import Derived.ProofKit
import Derived.OpenShut
import Derived.ShutString
import Derived.ChangeOld
import Derived.Below
import Derived.SizedLaws
namespace Go.Proofs.Ytaijadchooalpaa.fnExactModelPlay
open Go Go.Rf Go.Rf.G Go.Proofs Go.ChangeShapes Go.WideShapes Go.ChangeAt Go.RowKit
set_option linter.unusedVariables false
theorem own : ownKnob Try.prog.godebug = none := by kernel_rfl
theorem laidOut : laidOutB Try.prog = true := by kernel_rfl
set_option maxRecDepth 100000 in
theorem lifted (os : Os) (started : os.Started) (H : Type) (enc : TypeId × Value → H) :
    ReturnsInHanded {} Try.checked os 5 .any (Rows.fnExactModelPlaySpec.pre6 enc Try.prog Try.f5 Rows.fnExactModelPlayRow.domain false) (Rows.fnExactModelPlaySpec.post enc Try.prog Try.f5 false true false false) := by
  refine returnsInHanded_of_change_sized (C := Try.checked) own started (by kernel_rfl) Try.func5
    (ChangeSpec.witness6 (enc := enc) (C := Try.checked) false ⟨#[], #[.slice none 0 0], []⟩ 8 (by kernel_rfl) (by kernel_rfl) (by kernel_rfl) (by kernel_rfl)) ?_
  intro W base args ds gs before hval0 hW hcnd hsz0 _
  have hsz : (DataW.weightsEach Try.prog (Try.f5.params.toList ++ Rows.fnExactModelPlaySpec.plain.varTypes Try.prog) (ds ++ gs)).all (· ≤ reachBytes) = true := hsz0
  have hval : ∀ (j : Nat) t v, Try.f5.params[j]? = some t → args[j]? = some v → Value.okWide Try.prog W .any base t v := hval0
  have hW' := hW
  obtain ⟨p, q, hA0, hV, rfl, hfz, hnd⟩ := hW
  have hA : DataW.TrodAll enc Try.prog W 0 (fun _ => true) true Try.f5.params.toList args.toList ds p := hA0
  rw [Try.params5] at hA hval hsz
  obtain ⟨v0, vs0, d0, ds0, p0, q0, hargs, rfl, rfl, h0, r0⟩ := trodAll_cons hA
  obtain ⟨rfl, rfl, rfl⟩ := trodAll_nil r0
  obtain rfl : args = #[v0] := by cases args; simp_all
  obtain ⟨rfl, rfl⟩ := trodVars_none hV
  obtain ⟨x0, g0, w0⟩ := φ8G (n := 20) (T := (.sl false (.pair (.int .i64) (.pair (.int .i64) (.pair .str (.pair .str (.int .i64))))))) (t := 43) (by kernel_rfl) (by rfl) (hval 0 43 v0 rfl rfl) h0 (φ9W hsz (j := 0) rfl rfl)
  clear hA0 hval0 hsz0 hsz
  have hcall := φ86 (c := ψS.ctr) ψS.ok (fn := Try.f5) (body := φ2H Try.f5) Try.func5 (by kernel_rfl) (by kernel_rfl) ψS.sig.ps rfl rfl W [v0] _ true (φ7m g0 φA0) (show Laid.L W from True.intro) (φ9L x0 w0) (fun _ _ _ _ _ h => φ9S h)
  refine hcall.mono fun e W' ⟨he, bel⟩ => ?_
  subst he
  exact ⟨_, rfl, _, _, _, [], _, [], hW', trodAll_mk1 (φ7l Try.underlying4 _), (trodAll_cons_mk (Below.trod laidOut (by kernel_rfl) (of_decide_eq_true (by kernel_rfl)) h0 bel (φ8l h0)) trodAll_mk0), rfl, bel.frame _, fun h => by cases h⟩
theorem over : Rows.fnExactModelPlayRow.holds Try.pinned (OpenSpec.ofChange Rows.fnExactModelPlaySpec) :=
  OpenClaim.holds_of_wide 5 Try.f5 rfl rfl rfl rfl rfl rfl rfl ⟨rfl, rfl, rfl, rfl, rfl⟩ rfl rfl rfl rfl rfl (by kernel_rfl) Try.func5 (by kernel_rfl)
    (of_decide_eq_true (by kernel_rfl)) (by unfold Func.isWrapper; first | (rw [if_pos (by decide +kernel)]; kernel_rfl) | (rw [if_neg (by decide +kernel)]; exact ⟨rfl, rfl⟩))
    (fun os started H enc _ => lifted os started H enc)
theorem proved : Rows.FnExactModelPlaySaid := over
end Go.Proofs.Ytaijadchooalpaa.fnExactModelPlay
namespace Go.Proofs.Ytaijadchooalpaa
/-- The row, under a short name, for the claim. -/
theorem fnExactModelPlay_holds : Rows.FnExactModelPlaySaid := fnExactModelPlay.proved
#print axioms fnExactModelPlay_holds
end Go.Proofs.Ytaijadchooalpaa
