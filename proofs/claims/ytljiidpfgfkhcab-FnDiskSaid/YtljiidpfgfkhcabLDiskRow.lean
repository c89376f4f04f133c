/- For every input FnDisk answers true, and leaves what it was handed as it was. No condition. -/
import Derived.Test.YtljiidpfgfkhcabLDiskEv
import Derived.Test.YtljiidpfgfkhcabLDiskLem1
import Derived.Test.YtljiidpfgfkhcabRows
import Derived.WalkKit
import Derived.ProofKit
import Derived.OpenShut
import Derived.ShutString
import Derived.ChangeOld
import Derived.Below
import Derived.SizedLaws
namespace Go.Proofs.Ytljiidpfgfkhcab.fnDisk
open Go Go.Rf Go.Rf.G Go.Proofs Go.ChangeShapes Go.WideShapes Go.ChangeAt Go.RowKit
set_option linter.unusedVariables false
theorem own : ownKnob Try.prog.godebug = none := by kernel_rfl
theorem laidOut : laidOutB Try.prog = true := by kernel_rfl
set_option maxRecDepth 100000 in
theorem lifted (os : Os) (started : os.Started) (H : Type) (enc : TypeId × Value → H) :
    ReturnsInHanded {} Try.checked os 5 .any (Rows.fnDiskSpec.pre6 enc Try.prog Try.f5 Rows.fnDiskRow.domain false) (Rows.fnDiskSpec.post enc Try.prog Try.f5 false true false false) := by
  refine returnsInHanded_of_change_sized (C := Try.checked) own started (by kernel_rfl) Try.func5
    (ChangeSpec.witness6 (enc := enc) (C := Try.checked) false ⟨#[], #[.slice none 0 0], []⟩ 8 (by kernel_rfl) (by kernel_rfl) (by kernel_rfl) (by kernel_rfl)) ?_
  intro W base args ds gs before hval0 hW hcnd hsz0 _
  have hsz : (DataW.weightsEach Try.prog (Try.f5.params.toList ++ Rows.fnDiskSpec.plain.varTypes Try.prog) (ds ++ gs)).all (· ≤ reachBytes) = true := hsz0
  have hval : ∀ (j : Nat) t v, Try.f5.params[j]? = some t → args[j]? = some v → Value.okWide Try.prog W .any base t v := hval0
  have hW' := hW
  obtain ⟨p, q, hA0, hV, rfl, hfz, hnd⟩ := hW
  have hA : DataW.TrodAll enc Try.prog W 0 (fun _ => true) true Try.f5.params.toList args.toList ds p := hA0
  rw [Try.params5] at hA hval hsz
  obtain ⟨v0, vs0, d0, ds0, p0, q0, hargs, rfl, rfl, h0, r0⟩ := trodAll_cons hA
  obtain ⟨rfl, rfl, rfl⟩ := trodAll_nil r0
  obtain rfl : args = #[v0] := by cases args; simp_all
  obtain ⟨rfl, rfl⟩ := trodVars_none hV
  obtain ⟨x0, g0, w0⟩ := arg_ok (n := 20) (T := (.sl false (.int .u8))) (t := 43) (by kernel_rfl) (by rfl) (hval 0 43 v0 rfl rfl) h0 (light_of hsz (j := 0) rfl rfl)
  clear hA0 hval0 hsz0 hsz
  have hcall := law_calls (c := laws_FnDisk.ctr) laws_FnDisk.ok (fn := Try.f5) (body := bodyOf Try.f5) Try.func5 (by kernel_rfl) (by kernel_rfl) laws_FnDisk.sig.ps rfl rfl W [v0] _ true (args_cons g0 args_nil) (show Laid.L W from True.intro) (FnDisk_true x0 w0) (fun _ _ _ _ _ h => res_bool h)
  refine hcall.mono fun e W' ⟨he, bel⟩ => ?_
  subst he
  exact ⟨_, rfl, _, _, _, [], _, [], hW', trodAll_mk1 (shutB Try.underlying4 _), (trodAll_cons_mk (Below.trod laidOut (by kernel_rfl) (of_decide_eq_true (by kernel_rfl)) h0 bel (args_lt h0)) trodAll_mk0), rfl, bel.frame _, fun h => by cases h⟩
theorem over : Rows.fnDiskRow.holds Try.pinned (OpenSpec.ofChange Rows.fnDiskSpec) :=
  OpenClaim.holds_of_wide 5 Try.f5 rfl rfl rfl rfl rfl rfl rfl ⟨rfl, rfl, rfl, rfl, rfl⟩ rfl rfl rfl rfl rfl (by kernel_rfl) Try.func5 (by kernel_rfl)
    (of_decide_eq_true (by kernel_rfl)) (by unfold Func.isWrapper; first | (rw [if_pos (by decide +kernel)]; kernel_rfl) | (rw [if_neg (by decide +kernel)]; exact ⟨rfl, rfl⟩))
    (fun os started H enc _ => lifted os started H enc)
theorem proved : Rows.FnDiskSaid := over
end Go.Proofs.Ytljiidpfgfkhcab.fnDisk
namespace Go.Proofs.Ytljiidpfgfkhcab
/-- The row, under a short name, for the claim. -/
theorem fnDisk_holds : Rows.FnDiskSaid := fnDisk.proved
#print axioms fnDisk_holds
end Go.Proofs.Ytljiidpfgfkhcab
