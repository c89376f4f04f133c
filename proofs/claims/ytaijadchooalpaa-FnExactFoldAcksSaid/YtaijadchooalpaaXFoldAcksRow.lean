/- For every input FnExactFoldAcks answers true, and leaves what it was handed as it was. No condition. -/
import Derived.Test.YtaijadchooalpaaXFoldAcksEv
import Derived.Test.YtaijadchooalpaaXFoldAcksLem1
import Derived.Test.YtaijadchooalpaaRows
import Derived.WalkKit
import Derived.ProofKit
import Derived.OpenShut
import Derived.ShutString
import Derived.ChangeOld
import Derived.Below
import Derived.SizedLaws
namespace Go.Proofs.Ytaijadchooalpaa.fnExactFoldAcks
open Go Go.Rf Go.Rf.G Go.Proofs Go.ChangeShapes Go.WideShapes Go.ChangeAt Go.RowKit
set_option linter.unusedVariables false
theorem own : ownKnob Try.prog.godebug = none := by kernel_rfl
theorem laidOut : laidOutB Try.prog = true := by kernel_rfl
set_option maxRecDepth 100000 in
theorem lifted (os : Os) (started : os.Started) (H : Type) (enc : TypeId × Value → H) :
    ReturnsInHanded {} Try.checked os 4 .any (Rows.fnExactFoldAcksSpec.pre6 enc Try.prog Try.f4 Rows.fnExactFoldAcksRow.domain false) (Rows.fnExactFoldAcksSpec.post enc Try.prog Try.f4 false true false false) := by
  refine returnsInHanded_of_change_sized (C := Try.checked) own started (by kernel_rfl) Try.func4
    (ChangeSpec.witness6 (enc := enc) (C := Try.checked) false ⟨#[], #[.slice none 0 0, .slice none 0 0], []⟩ 8 (by kernel_rfl) (by kernel_rfl) (by kernel_rfl) (by kernel_rfl)) ?_
  intro W base args ds gs before hval0 hW hcnd hsz0 _
  have hsz : (DataW.weightsEach Try.prog (Try.f4.params.toList ++ Rows.fnExactFoldAcksSpec.plain.varTypes Try.prog) (ds ++ gs)).all (· ≤ reachBytes) = true := hsz0
  have hval : ∀ (j : Nat) t v, Try.f4.params[j]? = some t → args[j]? = some v → Value.okWide Try.prog W .any base t v := hval0
  have hW' := hW
  obtain ⟨p, q, hA0, hV, rfl, hfz, hnd⟩ := hW
  have hA : DataW.TrodAll enc Try.prog W 0 (fun _ => true) true Try.f4.params.toList args.toList ds p := hA0
  rw [Try.params4] at hA hval hsz
  obtain ⟨v0, vs0, d0, ds0, p0, q0, hargs, rfl, rfl, h0, r0⟩ := trodAll_cons hA
  obtain ⟨v1, vs1, d1, ds1, p1, q1, rfl, rfl, rfl, h1, r1⟩ := trodAll_cons r0
  obtain ⟨rfl, rfl, rfl⟩ := trodAll_nil r1
  obtain rfl : args = #[v0, v1] := by cases args; simp_all
  obtain ⟨rfl, rfl⟩ := trodVars_none hV
  obtain ⟨x0, g0, w0⟩ := φ4l (n := 20) (T := (.sl false (.pair .str (.pair .str (.int .i64))))) (t := 30) (by kernel_rfl) (by rfl) (hval 0 30 v0 rfl rfl) h0 (φ62 hsz (j := 0) rfl rfl)
  obtain ⟨x1, g1, w1⟩ := φ4l (n := 20) (T := (.sl false (.pair (.int .i64) (.sl false (.pair .str (.pair .bool .str)))))) (t := 31) (by kernel_rfl) (by rfl) (hval 1 31 v1 rfl rfl) h1 (φ62 hsz (j := 1) rfl rfl)
  clear hA0 hval0 hsz0 hsz
  have hcall := φ6p (c := ψ4.ctr) ψ4.ok (fn := Try.f4) (body := φ34 Try.f4) Try.func4 (by kernel_rfl) (by kernel_rfl) ψ4.sig.ps rfl rfl W [v0, v1] _ true (φ4S g0 (φ4S g1 φ6s)) (show Laid.L W from True.intro) (φ7g x0 w0 x1 w1) (fun _ _ _ _ _ h => φ7i h)
  refine hcall.mono fun e W' ⟨he, bel⟩ => ?_
  subst he
  exact ⟨_, rfl, _, _, _, [], _, [], hW', trodAll_mk1 (φ7F Try.underlying4 _), (trodAll_cons_mk (Below.trod laidOut (by kernel_rfl) (of_decide_eq_true (by kernel_rfl)) h0 bel (φ54 h0)) (trodAll_cons_mk (Below.trod laidOut (by kernel_rfl) (of_decide_eq_true (by kernel_rfl)) h1 bel (φ54 h1)) trodAll_mk0)), rfl, bel.frame _, fun h => by cases h⟩
theorem over : Rows.fnExactFoldAcksRow.holds Try.pinned (OpenSpec.ofChange Rows.fnExactFoldAcksSpec) :=
  OpenClaim.holds_of_wide 4 Try.f4 rfl rfl rfl rfl rfl rfl rfl ⟨rfl, rfl, rfl, rfl, rfl⟩ rfl rfl rfl rfl rfl (by kernel_rfl) Try.func4 (by kernel_rfl)
    (of_decide_eq_true (by kernel_rfl)) (by unfold Func.isWrapper; first | (rw [if_pos (by decide +kernel)]; kernel_rfl) | (rw [if_neg (by decide +kernel)]; exact ⟨rfl, rfl⟩))
    (fun os started H enc _ => lifted os started H enc)
theorem proved : Rows.FnExactFoldAcksSaid := over
end Go.Proofs.Ytaijadchooalpaa.fnExactFoldAcks
namespace Go.Proofs.Ytaijadchooalpaa
/-- The row, under a short name, for the claim. -/
theorem fnExactFoldAcks_holds : Rows.FnExactFoldAcksSaid := fnExactFoldAcks.proved
#print axioms fnExactFoldAcks_holds
end Go.Proofs.Ytaijadchooalpaa
