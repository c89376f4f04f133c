/- For every input FnExactCodeWord answers true, and leaves what it was handed as it was. No condition. -/
import Derived.Test.YtljiidpfgfkhcabDoorXCodeWordEv
import Derived.Test.YtljiidpfgfkhcabDoorXCodeWordLem1
import Derived.Test.YtljiidpfgfkhcabDoorRows
import Derived.Test.YtljiidpfgfkhcabDoorCards
import Derived.Test.YtljiidpfgfkhcabDoorTie
import Derived.Stop.LaidErr
import Derived.LaidLaws
import Derived.Handed
import Derived.JoinedAt
import Derived.SevenTiedAt
import Derived.WalkKit
import Derived.ProofKit
import Derived.OpenShut
import Derived.ShutString
import Derived.ChangeOld
import Derived.Below
import Derived.SizedLaws
namespace Go.Proofs.YtljiidpfgfkhcabDoor.fnExactCodeWord
open Go Go.Rf Go.Rf.G Go.Proofs Go.ChangeShapes Go.WideShapes Go.ChangeAt Go.RowKit
set_option linter.unusedVariables false
theorem own : ownKnob Tryd.prog.godebug = none := by kernel_rfl
theorem laidOut : laidOutB Tryd.prog = true := by kernel_rfl
/-- A world in which what is listed lies. -/
def putTab (cs : Array Value) : Obj → Obj
  | .cells _ t fr => .cells cs t fr
  | o => o
noncomputable def laidWorld (os : Os) : World :=
  let w0 := World.holding Tryd.prog os ⟨#[], #[], []⟩
  { w0 with heap := ((w0.heap.modify 2 (putTab #[.int .u8 128, .int .u8 191, .int .u8 160, .int .u8 191, .int .u8 128, .int .u8 159, .int .u8 144, .int .u8 191, .int .u8 128, .int .u8 143, .int .u8 0, .int .u8 0, .int .u8 0, .int .u8 0, .int .u8 0, .int .u8 0, .int .u8 0, .int .u8 0, .int .u8 0, .int .u8 0, .int .u8 0, .int .u8 0, .int .u8 0, .int .u8 0, .int .u8 0, .int .u8 0, .int .u8 0, .int .u8 0, .int .u8 0, .int .u8 0, .int .u8 0, .int .u8 0])).modify 1 (putTab (Go.Pinned.utf8FirstZ.map fun z : Nat => Value.int .u8 (Int.ofNat z)).toArray)) }
theorem laidWorld_met (os : Os) (args : Array Value) : laidMet Tryd.prog Rows.fnExactCodeWordRow.laid ((laidWorld os).forCall (fun _ _ => 0) ⟨#[], args, []⟩).memory :=
  laidMet_of_run' 8 (by kernel_rfl) (by kernel_rfl)
set_option maxRecDepth 100000 in
theorem lifted (os : Os) (started : os.Started) (H : Type) (enc : TypeId × Value → H) :
    ReturnsInHanded {} Tryd.checked os 3 .any (fun w args => (Rows.fnExactCodeWordSpec.pre enc Tryd.prog Tryd.f3 Rows.fnExactCodeWordRow.domain false w args ∧ laidMet Tryd.prog Rows.fnExactCodeWordRow.laid w) ∧ sizedMet enc Tryd.prog Tryd.f3 (OpenSpec.ofChange Rows.fnExactCodeWordSpec) false w args) (Rows.fnExactCodeWordSpec.post enc Tryd.prog Tryd.f3 false true false false) := by
  refine handed_shaped (C := Tryd.checked) (X := fun w _ => laidMet Tryd.prog Rows.fnExactCodeWordRow.laid w) (fun _ _ _ hh h => h.of_heap hh) own started (by kernel_rfl) Tryd.func3
    (ChangeSpec.witness_at (enc := enc) (C := Tryd.checked) (os := os) (X := fun w _ => laidMet Tryd.prog Rows.fnExactCodeWordRow.laid w) false (laidWorld os) #[.int .i64 0] 8 rfl (by kernel_rfl) (by kernel_rfl) (by kernel_rfl) (by kernel_rfl) (by kernel_rfl) (laidWorld_met os _)) ?_
  intro W base args ds gs before hsh hval0 hW hcnd hsz0 hL0 _
  have hL : Laid.L W := Tryd.laysM146.s1_3 W hsh
  have hsz : (DataW.weightsEach Tryd.prog (Tryd.f3.params.toList ++ Rows.fnExactCodeWordSpec.plain.varTypes Tryd.prog) (ds ++ gs)).all (· ≤ reachBytes) = true := hsz0
  have hval : ∀ (j : Nat) t v, Tryd.f3.params[j]? = some t → args[j]? = some v → Value.okWide Tryd.prog W .any base t v := hval0
  have hW' := hW
  obtain ⟨p, q, hA0, hV, rfl, hfz, hnd⟩ := hW
  have hA : DataW.TrodAll enc Tryd.prog W 0 (fun _ => true) true Tryd.f3.params.toList args.toList ds p := hA0
  rw [Tryd.params3] at hA hval hsz
  obtain ⟨v0, vs0, d0, ds0, p0, q0, hargs, rfl, rfl, h0, r0⟩ := trodAll_cons hA
  obtain ⟨rfl, rfl, rfl⟩ := trodAll_nil r0
  obtain rfl : args = #[v0] := by cases args; simp_all
  obtain ⟨rfl, rfl⟩ := trodVars_none hV
  obtain ⟨x0, g0, w0⟩ := arg_ok (n := 20) (T := (.int .i64)) (t := 3) (by kernel_rfl) (by rfl) (hval 0 3 v0 rfl rfl) h0 (light_of hsz (j := 0) rfl rfl)
  clear hA0 hval0 hsz0 hsz
  have hcall := law_calls (c := laws_FnExactCodeWord.ctr) laws_FnExactCodeWord.ok (fn := Tryd.f3) (body := bodyOf Tryd.f3) Tryd.func3 (by kernel_rfl) (by kernel_rfl) laws_FnExactCodeWord.sig.ps rfl rfl W [v0] _ true (args_cons g0 args_nil) hL (FnExactCodeWord_true x0 w0) (fun _ _ _ _ _ h => res_bool h)
  refine hcall.mono fun e W' ⟨he, bel⟩ => ?_
  subst he
  exact ⟨_, rfl, _, _, _, [], _, [], hW', trodAll_mk1 (shutB Tryd.underlying4 _), (trodAll_cons_mk (Below.trod laidOut (by kernel_rfl) (of_decide_eq_true (by kernel_rfl)) h0 bel (args_lt h0)) trodAll_mk0), rfl, bel.frame _, fun h => by cases h⟩
theorem over : Rows.fnExactCodeWordRow.holds Tryd.pinned (OpenSpec.ofChange Rows.fnExactCodeWordSpec) :=
  OpenClaim.holds_of_wide 3 Tryd.f3 rfl rfl rfl rfl rfl rfl rfl ⟨rfl, rfl, rfl, rfl, rfl⟩ rfl rfl rfl rfl rfl (by kernel_rfl) Tryd.func3 (by kernel_rfl)
    (of_decide_eq_true (by kernel_rfl)) (by unfold Func.isWrapper; first | (rw [if_pos (by decide +kernel)]; kernel_rfl) | (rw [if_neg (by decide +kernel)]; exact ⟨rfl, rfl⟩))
    (fun os started H enc _ => lifted os started H enc)
theorem proved : Rows.FnExactCodeWordCardSaid :=
  Claim7.holds_tied_plain_at .later [] [.data, .pinned] true (true, "adf057cb10aa41f2564f4bad890631d71669482701736f439662d877ad6fa8b1") false over (fun _ h => by cases h) (by kernel_rfl) (fun _ h => by cases h) fnExactCodeWord_row_tie rfl ⟨rfl, rfl⟩ (by kernel_rfl) rfl
    (fun f fn hf hfn => by
      obtain rfl : f = 3 := Option.some.inj ((show Tryd.prog.funcNamed "loop.example/g01397/laws.FnExactCodeWord" = some 3 by kernel_rfl).symm.trans hf) |>.symm
      obtain rfl : fn = Tryd.f3 := (Option.some.inj (Tryd.func3.symm.trans hfn)).symm
      refine ⟨by kernel_rfl, fun j t ht => ?_⟩
      rw [Tryd.params3] at ht
      have hm := Array.mem_of_getElem? ht
      simp only [List.mem_toArray, List.mem_cons, List.not_mem_nil, or_false] at hm
      rcases hm with rfl
      all_goals (show Tryd.prog.wantsStandIn _ = false; kernel_rfl))
    (by kernel_rfl)
end Go.Proofs.YtljiidpfgfkhcabDoor.fnExactCodeWord
namespace Go.Proofs.YtljiidpfgfkhcabDoor
/-- The card, under a short name, for the claim. -/
theorem fnExactCodeWord_holds : Rows.FnExactCodeWordCardSaid := fnExactCodeWord.proved
#print axioms fnExactCodeWord_holds
end Go.Proofs.YtljiidpfgfkhcabDoor
