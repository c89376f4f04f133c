/- For every input FnExactEngineNew answers true, and leaves what it was handed as it was. No condition. -/
import Derived.Test.YtaijadchooalpaaGreatDoorXEngineNewEv
import Derived.Test.YtaijadchooalpaaGreatDoorXEngineNewLem3
import Derived.Test.YtaijadchooalpaaGreatDoorRows
import Derived.Test.YtaijadchooalpaaGreatDoorCards
import Derived.Test.YtaijadchooalpaaGreatDoorTie
import Derived.Stop.LaidErr
import Derived.LaidLaws
import Derived.Handed
import Derived.JoinedAt
import Derived.SevenTiedAt
import Derived.WalkKit
import Derived.ProofKit
import Derived.OpenShut
import Derived.ShutString
import Derived.ChangeOld
import Derived.Below
import Derived.SizedLaws
namespace Go.Proofs.YtaijadchooalpaaGreatDoor.fnExactEngineNew
open Go Go.Rf Go.Rf.G Go.Proofs Go.ChangeShapes Go.WideShapes Go.ChangeAt Go.RowKit
set_option linter.unusedVariables false
theorem own : ownKnob Tryz.prog.godebug = none := by kernel_rfl
theorem laidOut : laidOutB Tryz.prog = true := by kernel_rfl
/-- A world in which what is listed lies. -/
def putTab (cs : Array Value) : Obj → Obj
  | .cells _ t fr => .cells cs t fr
  | o => o
noncomputable def low : Nat := (World.holding Tryz.prog default ⟨#[], #[], []⟩).heap.size
noncomputable def laidWorld (os : Os) : World :=
  let w0 := World.holding Tryz.prog os ⟨#[.cells #[.string ⟨#[118, 97, 108, 117, 101, 32, 111, 117, 116, 32, 111, 102, 32, 114, 97, 110, 103, 101]⟩] 283, .cells #[.string ⟨#[105, 110, 118, 97, 108, 105, 100, 32, 115, 121, 110, 116, 97, 120]⟩] 283], #[], []⟩
  { w0 with heap := (((((w0.heap.modify 3 (putTab #[.int .u8 0, .int .u8 1, .int .u8 28, .int .u8 2, .int .u8 29, .int .u8 14, .int .u8 24, .int .u8 3, .int .u8 30, .int .u8 22, .int .u8 20, .int .u8 15, .int .u8 25, .int .u8 17, .int .u8 4, .int .u8 8, .int .u8 31, .int .u8 27, .int .u8 13, .int .u8 23, .int .u8 21, .int .u8 19, .int .u8 16, .int .u8 7, .int .u8 26, .int .u8 12, .int .u8 18, .int .u8 6, .int .u8 11, .int .u8 5, .int .u8 10, .int .u8 9])).modify 4 (putTab #[.int .u8 0, .int .u8 1, .int .u8 56, .int .u8 2, .int .u8 57, .int .u8 49, .int .u8 28, .int .u8 3, .int .u8 61, .int .u8 58, .int .u8 42, .int .u8 50, .int .u8 38, .int .u8 29, .int .u8 17, .int .u8 4, .int .u8 62, .int .u8 47, .int .u8 59, .int .u8 36, .int .u8 45, .int .u8 43, .int .u8 51, .int .u8 22, .int .u8 53, .int .u8 39, .int .u8 33, .int .u8 30, .int .u8 24, .int .u8 18, .int .u8 12, .int .u8 5, .int .u8 63, .int .u8 55, .int .u8 48, .int .u8 27, .int .u8 60, .int .u8 41, .int .u8 37, .int .u8 16, .int .u8 46, .int .u8 35, .int .u8 44, .int .u8 21, .int .u8 52, .int .u8 32, .int .u8 23, .int .u8 11, .int .u8 54, .int .u8 26, .int .u8 40, .int .u8 15, .int .u8 34, .int .u8 20, .int .u8 31, .int .u8 10, .int .u8 25, .int .u8 14, .int .u8 19, .int .u8 9, .int .u8 13, .int .u8 8, .int .u8 7, .int .u8 6])).modify 0 (putTab #[.int .u64 1, .int .u64 10, .int .u64 100, .int .u64 1000, .int .u64 10000, .int .u64 100000, .int .u64 1000000, .int .u64 10000000, .int .u64 100000000, .int .u64 1000000000, .int .u64 10000000000, .int .u64 100000000000, .int .u64 1000000000000, .int .u64 10000000000000, .int .u64 100000000000000, .int .u64 1000000000000000, .int .u64 10000000000000000, .int .u64 100000000000000000, .int .u64 1000000000000000000, .int .u64 10000000000000000000])).modify 2 (putTab #[.iface 281 (.pointer (some ⟨low + 0, 0, none⟩))])).modify 1 (putTab #[.iface 281 (.pointer (some ⟨low + 1, 0, none⟩))])) }
theorem laidWorld_met (os : Os) (args : Array Value) : laidMet Tryz.prog Rows.fnExactEngineNewRow.laid ((laidWorld os).forCall (fun _ _ => 0) ⟨#[], args, []⟩).memory :=
  laidMet_of_run' 8 (by kernel_rfl) (by kernel_rfl)
theorem star : "*" ++ "errors.errorString" = "*errors.errorString" := by decide
theorem errRow (u : TypeId) (h : Tryz.prog.typeName? 3 u = some "*errors.errorString") : u = 281 :=
  typeName_ptr_named (nm := "errors.errorString") (by rw [star]; kernel_rfl) (by kernel_rfl) (by decide) u (by rw [star]; exact h)
theorem laid_met (W : World) (hL : laidMet Tryz.prog Rows.fnExactEngineNewRow.laid W) : Laid.L W := by
  have e3 : Rows.fnExactEngineNewRow.laid.drop 3 = ("strconv.ErrRange", .iface "*errors.errorString" (.ptr (.agg [.lit (.string [118, 97, 108, 117, 101, 32, 111, 117, 116, 32, 111, 102, 32, 114, 97, 110, 103, 101])]))) :: Rows.fnExactEngineNewRow.laid.drop 4 := by kernel_rfl
  have s3 : laidMet Tryz.prog (Rows.fnExactEngineNewRow.laid.drop 3) W := hL.tail.tail.tail
  rw [e3] at s3
  obtain ⟨a3, t3, v3, _⟩ := laid_sentinel s3 (show Tryz.prog.globalNamed "strconv.ErrRange" = some 2 by kernel_rfl) (show (Tryz.prog.globals[2]?).map (·.type) = some 250 by kernel_rfl) Tryz.underlying250 errRow Tryz.underlying281 Tryz.underlying283 rfl rfl Tryz.underlying9 (by kernel_rfl) (by kernel_rfl)
  have c3 : W.cell? ⟨2, 0, none⟩ = some (.iface 281 (.pointer (some a3))) := by simpa using World.var?_cell (show Tryz.prog.globalNamed "strconv.ErrRange" = some 2 by kernel_rfl) v3 0
  have e4 : Rows.fnExactEngineNewRow.laid.drop 4 = ("strconv.ErrSyntax", .iface "*errors.errorString" (.ptr (.agg [.lit (.string [105, 110, 118, 97, 108, 105, 100, 32, 115, 121, 110, 116, 97, 120])]))) :: Rows.fnExactEngineNewRow.laid.drop 5 := by kernel_rfl
  have s4 : laidMet Tryz.prog (Rows.fnExactEngineNewRow.laid.drop 4) W := hL.tail.tail.tail.tail
  rw [e4] at s4
  obtain ⟨a4, t4, v4, _⟩ := laid_sentinel s4 (show Tryz.prog.globalNamed "strconv.ErrSyntax" = some 1 by kernel_rfl) (show (Tryz.prog.globals[1]?).map (·.type) = some 250 by kernel_rfl) Tryz.underlying250 errRow Tryz.underlying281 Tryz.underlying283 rfl rfl Tryz.underlying9 (by kernel_rfl) (by kernel_rfl)
  have c4 : W.cell? ⟨1, 0, none⟩ = some (.iface 281 (.pointer (some a4))) := by simpa using World.var?_cell (show Tryz.prog.globalNamed "strconv.ErrSyntax" = some 1 by kernel_rfl) v4 0
  have e : (Rows.fnExactEngineNewRow.laid.drop 2).head? = some ("internal/strconv.uint64pow10", Lib.tabData .u64 Lib.pow10Tab) := by kernel_rfl
  have h0 : laidMet Tryz.prog (Rows.fnExactEngineNewRow.laid.drop 2) W := hL.tail.tail
  have e2 : Rows.fnExactEngineNewRow.laid.drop 2 = ("internal/strconv.uint64pow10", Lib.tabData .u64 Lib.pow10Tab) :: Rows.fnExactEngineNewRow.laid.drop 3 := by kernel_rfl
  rw [e2] at h0
  exact ⟨Lib.tabIs_of_head (g := 0) (t := 269) (e := 257) (n := 20) (by kernel_rfl) (by kernel_rfl) (by kernel_rfl) (by kernel_rfl) (by kernel_rfl) (by kernel_rfl) h0, ⟨_, c4, .inr ⟨_, _, rfl⟩⟩, ⟨_, c3, .inr ⟨_, _, rfl⟩⟩⟩
set_option maxRecDepth 100000 in
theorem lifted (os : Os) (started : os.Started) (H : Type) (enc : TypeId × Value → H) :
    ReturnsInHanded {} Tryz.checked os 4 .any (fun w args => (Rows.fnExactEngineNewSpec.pre enc Tryz.prog Tryz.f4 Rows.fnExactEngineNewRow.domain false w args ∧ laidMet Tryz.prog Rows.fnExactEngineNewRow.laid w) ∧ sizedMet enc Tryz.prog Tryz.f4 (OpenSpec.ofChange Rows.fnExactEngineNewSpec) false w args) (Rows.fnExactEngineNewSpec.post enc Tryz.prog Tryz.f4 false true false false) := by
  refine returnsInHanded_of_change_and (C := Tryz.checked) (X := fun w _ => laidMet Tryz.prog Rows.fnExactEngineNewRow.laid w) (fun _ _ _ hh h => h.of_heap hh) own started (by kernel_rfl) Tryz.func4
    (ChangeSpec.witness_at (enc := enc) (C := Tryz.checked) (os := os) (X := fun w _ => laidMet Tryz.prog Rows.fnExactEngineNewRow.laid w) false (laidWorld os) #[.agg #[.slice none 0 0, .int .i64 0, .int .i64 0, .bool false]] 8 rfl (by kernel_rfl) (by kernel_rfl) (by kernel_rfl) (by kernel_rfl) (by kernel_rfl) (laidWorld_met os _)) ?_
  intro W base args ds gs φ39 hval0 hW hcnd hsz0 hL0 _
  have hL : Laid.L W := laid_met W hL0
  have hsz : (DataW.weightsEach Tryz.prog (Tryz.f4.params.toList ++ Rows.fnExactEngineNewSpec.plain.varTypes Tryz.prog) (ds ++ gs)).all (· ≤ reachBytes) = true := hsz0
  have hval : ∀ (j : Nat) t v, Tryz.f4.params[j]? = some t → args[j]? = some v → Value.okWide Tryz.prog W .any base t v := hval0
  have hW' := hW
  obtain ⟨p, q, hA0, hV, rfl, hfz, hnd⟩ := hW
  have hA : DataW.TrodAll enc Tryz.prog W 0 (fun _ => true) true Tryz.f4.params.toList args.toList ds p := hA0
  rw [Tryz.params4] at hA hval hsz
  obtain ⟨v0, vs0, d0, ds0, p0, q0, hargs, rfl, rfl, h0, r0⟩ := trodAll_cons hA
  obtain ⟨rfl, rfl, rfl⟩ := trodAll_nil r0
  obtain rfl : args = #[v0] := by cases args; simp_all
  obtain ⟨rfl, rfl⟩ := trodVars_none hV
  obtain ⟨x0, g0, w0⟩ := φHr (n := 20) (T := (.pair (.sl false (.pair .str (.pair .str (.int .i64)))) (.pair (.int .i64) (.pair (.int .i64) .bool)))) (t := 30) (by kernel_rfl) (by rfl) (hval 0 30 v0 rfl rfl) h0 (φDy hsz (j := 0) rfl rfl)
  clear hA0 hval0 hsz0 hsz
  have hcall := φHe (c := ψ1Q.ctr) ψ1Q.ok (fn := Tryz.f4) (body := φ78 Tryz.f4) Tryz.func4 (by kernel_rfl) (by kernel_rfl) ψ1Q.sig.ps rfl rfl W [v0] _ true (φH6 g0 φFG) hL (φEm x0 w0) (fun _ _ _ _ _ h => φHT h)
  refine hcall.mono fun e W' ⟨he, bel⟩ => ?_
  subst he
  exact ⟨_, rfl, _, _, _, [], _, [], hW', trodAll_mk1 (φHV Tryz.underlying4 _), (trodAll_cons_mk (Below.trod laidOut (by kernel_rfl) (of_decide_eq_true (by kernel_rfl)) h0 bel (φG6 h0)) trodAll_mk0), rfl, bel.frame _, fun h => by cases h⟩
theorem over : Rows.fnExactEngineNewRow.holds Tryz.pinned (OpenSpec.ofChange Rows.fnExactEngineNewSpec) :=
  OpenClaim.holds_of_wide 4 Tryz.f4 rfl rfl rfl rfl rfl rfl rfl ⟨rfl, rfl, rfl, rfl, rfl⟩ rfl rfl rfl rfl rfl (by kernel_rfl) Tryz.func4 (by kernel_rfl)
    (of_decide_eq_true (by kernel_rfl)) (by unfold Func.isWrapper; first | (rw [if_pos (by decide +kernel)]; kernel_rfl) | (rw [if_neg (by decide +kernel)]; exact ⟨rfl, rfl⟩))
    (fun os started H enc _ => lifted os started H enc)
theorem proved : Rows.FnExactEngineNewCardSaid :=
  Claim7.holds_tied_plain_at .later [] [.data, .data, .data, .sentinel, .sentinel] true (true, "221e5e9cf29855327c2356e007760844ea03b1692346c943730c5a2686e44352") true over (fun _ h => by cases h) (by kernel_rfl) (fun _ h => by cases h) fnExactEngineNew_row_tie rfl ⟨rfl, rfl⟩ (by kernel_rfl) rfl
    (fun f fn hf hfn => by
      obtain rfl : f = 4 := Option.some.inj ((show Tryz.prog.funcNamed "loop.example/g01397/laws.FnExactEngineNew" = some 4 by kernel_rfl).symm.trans hf) |>.symm
      obtain rfl : fn = Tryz.f4 := (Option.some.inj (Tryz.func4.symm.trans hfn)).symm
      refine ⟨by kernel_rfl, fun j t ht => ?_⟩
      rw [Tryz.params4] at ht
      have hm := Array.mem_of_getElem? ht
      simp only [List.mem_toArray, List.mem_cons, List.not_mem_nil, or_false] at hm
      rcases hm with rfl
      all_goals (show Tryz.prog.wantsStandIn _ = false; kernel_rfl))
    (by kernel_rfl)
end Go.Proofs.YtaijadchooalpaaGreatDoor.fnExactEngineNew
namespace Go.Proofs.YtaijadchooalpaaGreatDoor
/-- The card, under a short name, for the claim. -/
theorem fnExactEngineNew_holds : Rows.FnExactEngineNewCardSaid := fnExactEngineNew.proved
#print axioms fnExactEngineNew_holds
end Go.Proofs.YtaijadchooalpaaGreatDoor
