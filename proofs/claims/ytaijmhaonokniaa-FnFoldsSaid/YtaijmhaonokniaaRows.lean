/-
  No cell of these rows narrows 'for every input' (looked for: loops, veiled, ifaces, maps, wideKeys, modest, calm, conditions, laid).
  DERIVED. THE GIVEN ROWS OF THIS SEAT. 11 by the template 'for every input the law returns true; each argument reads behind the call as it read before'; 0 by the template 'total and deterministic' (their statements: YtaijmhaonokniaaTotals.lean).
  GIVEN WITH THE SEED: the statements are not yours to turn. If you find one false, say at which input.
  Laid BY PROGRAM, IN A SANDBOX (cutbox-rows.mjs): the forced cells as the released guide's own fill.sh prints them over the translation 8f1bcf6035de52a8… (all of the seat's roots in one cut). By AI agents, Wed Nov 11 2026. No macro, syntax, notation, axiom, sorry.
-/
import Derived.Test.YtaijmhaonokniaaChecked
import GoSem.Claim
import GoSem.ClaimJoined
import GoSem.ClaimMapViews
import Derived.JoinedTies
import Derived.KernelRfl
namespace Go.Proofs.Ytaijmhaonokniaa
/- THE CELL 'sum', in the pinned program and in every row, IS THE sha256 OF THE DUMP (.gsa) THAT YtaijmhaonokniaaProg.lean LOADS. Nothing in Lean hashes anything: it is a label: what it is worth is what the hold of that sum in a sandbox is worth. -/
noncomputable def Try.pinned : Pinned := { name := "ytaijmhaonokniaa", sum := "8f1bcf6035de52a89c78cd09309ba5792d4e128e8d661cb0bda58f3f719b7c0d", checked := Try.checked }
namespace Rows
def none {H : Type} : Left H := { results := [], args := [] }

/-- 'laws.FnExactSamePairs': WHATEVER THE INPUT: true; the input reads as it did. -/
def fnExactSamePairsSpec : ChangeSpec := { name := "fnExactSamePairs", fn := fun _ => fun
  | [d1, d2] => { results := [.lit (.bool true)], args := [d1, d2] }
  | _ => none }
def fnExactSamePairsRow : OpenClaim := { program := "ytaijmhaonokniaa", sum := "8f1bcf6035de52a89c78cd09309ba5792d4e128e8d661cb0bda58f3f719b7c0d", func := "loop.example/g01397/laws.FnExactSamePairs", spec := "fnExactSamePairs", apart := false }
def FnExactSamePairsSaid : Prop := fnExactSamePairsRow.holds Try.pinned (OpenSpec.ofChange fnExactSamePairsSpec)

/-- ITS FALSE NEIGHBOUR: 'it returns false'. Refute it at one input. -/
def fnExactSamePairsWrong : ChangeSpec := { name := "fnExactSamePairs", fn := fun _ => fun
  | [d1, d2] => { results := [.lit (.bool false)], args := [d1, d2] }
  | _ => none }
def FnExactSamePairsWrongFalsely : Prop := fnExactSamePairsRow.holds Try.pinned (OpenSpec.ofChange fnExactSamePairsWrong)

/-- 'laws.FnExactPutsOk': WHATEVER THE INPUT: true; the input reads as it did. -/
def fnExactPutsOkSpec : ChangeSpec := { name := "fnExactPutsOk", fn := fun _ => fun
  | [d] => { results := [.lit (.bool true)], args := [d] }
  | _ => none }
def fnExactPutsOkRow : OpenClaim := { program := "ytaijmhaonokniaa", sum := "8f1bcf6035de52a89c78cd09309ba5792d4e128e8d661cb0bda58f3f719b7c0d", func := "loop.example/g01397/laws.FnExactPutsOk", spec := "fnExactPutsOk", apart := false }
def FnExactPutsOkSaid : Prop := fnExactPutsOkRow.holds Try.pinned (OpenSpec.ofChange fnExactPutsOkSpec)

/-- ITS FALSE NEIGHBOUR: 'it returns false'. Refute it at one input. -/
def fnExactPutsOkWrong : ChangeSpec := { name := "fnExactPutsOk", fn := fun _ => fun
  | [d] => { results := [.lit (.bool false)], args := [d] }
  | _ => none }
def FnExactPutsOkWrongFalsely : Prop := fnExactPutsOkRow.holds Try.pinned (OpenSpec.ofChange fnExactPutsOkWrong)

/-- 'laws.FnExactSameAnswers': WHATEVER THE INPUT: true; the input reads as it did. -/
def fnExactSameAnswersSpec : ChangeSpec := { name := "fnExactSameAnswers", fn := fun _ => fun
  | [d1, d2] => { results := [.lit (.bool true)], args := [d1, d2] }
  | _ => none }
def fnExactSameAnswersRow : OpenClaim := { program := "ytaijmhaonokniaa", sum := "8f1bcf6035de52a89c78cd09309ba5792d4e128e8d661cb0bda58f3f719b7c0d", func := "loop.example/g01397/laws.FnExactSameAnswers", spec := "fnExactSameAnswers", apart := false }
def FnExactSameAnswersSaid : Prop := fnExactSameAnswersRow.holds Try.pinned (OpenSpec.ofChange fnExactSameAnswersSpec)

/-- ITS FALSE NEIGHBOUR: 'it returns false'. Refute it at one input. -/
def fnExactSameAnswersWrong : ChangeSpec := { name := "fnExactSameAnswers", fn := fun _ => fun
  | [d1, d2] => { results := [.lit (.bool false)], args := [d1, d2] }
  | _ => none }
def FnExactSameAnswersWrongFalsely : Prop := fnExactSameAnswersRow.holds Try.pinned (OpenSpec.ofChange fnExactSameAnswersWrong)

/-- 'laws.FnFolds': WHATEVER THE INPUT: true; the input reads as it did. -/
def fnFoldsSpec : ChangeSpec := { name := "fnFolds", fn := fun _ => fun
  | [d] => { results := [.lit (.bool true)], args := [d] }
  | _ => none }
def fnFoldsRow : OpenClaim := { program := "ytaijmhaonokniaa", sum := "8f1bcf6035de52a89c78cd09309ba5792d4e128e8d661cb0bda58f3f719b7c0d", func := "loop.example/g01397/laws.FnFolds", spec := "fnFolds", apart := false }
def FnFoldsSaid : Prop := fnFoldsRow.holds Try.pinned (OpenSpec.ofChange fnFoldsSpec)

/-- ITS FALSE NEIGHBOUR: 'it returns false'. Refute it at one input. -/
def fnFoldsWrong : ChangeSpec := { name := "fnFolds", fn := fun _ => fun
  | [d] => { results := [.lit (.bool false)], args := [d] }
  | _ => none }
def FnFoldsWrongFalsely : Prop := fnFoldsRow.holds Try.pinned (OpenSpec.ofChange fnFoldsWrong)

/-- 'laws.FnExactOwnWrite': WHATEVER THE INPUT: true; the input reads as it did. -/
def fnExactOwnWriteSpec : ChangeSpec := { name := "fnExactOwnWrite", fn := fun _ => fun
  | [d1, d2] => { results := [.lit (.bool true)], args := [d1, d2] }
  | _ => none }
def fnExactOwnWriteRow : OpenClaim := { program := "ytaijmhaonokniaa", sum := "8f1bcf6035de52a89c78cd09309ba5792d4e128e8d661cb0bda58f3f719b7c0d", func := "loop.example/g01397/laws.FnExactOwnWrite", spec := "fnExactOwnWrite", apart := false }
def FnExactOwnWriteSaid : Prop := fnExactOwnWriteRow.holds Try.pinned (OpenSpec.ofChange fnExactOwnWriteSpec)

/-- ITS FALSE NEIGHBOUR: 'it returns false'. Refute it at one input. -/
def fnExactOwnWriteWrong : ChangeSpec := { name := "fnExactOwnWrite", fn := fun _ => fun
  | [d1, d2] => { results := [.lit (.bool false)], args := [d1, d2] }
  | _ => none }
def FnExactOwnWriteWrongFalsely : Prop := fnExactOwnWriteRow.holds Try.pinned (OpenSpec.ofChange fnExactOwnWriteWrong)

/-- 'laws.FnRows': WHATEVER THE INPUT: true; the input reads as it did. -/
def fnRowsSpec : ChangeSpec := { name := "fnRows", fn := fun _ => fun
  | [d] => { results := [.lit (.bool true)], args := [d] }
  | _ => none }
def fnRowsRow : OpenClaim := { program := "ytaijmhaonokniaa", sum := "8f1bcf6035de52a89c78cd09309ba5792d4e128e8d661cb0bda58f3f719b7c0d", func := "loop.example/g01397/laws.FnRows", spec := "fnRows", apart := false }
def FnRowsSaid : Prop := fnRowsRow.holds Try.pinned (OpenSpec.ofChange fnRowsSpec)

/-- ITS FALSE NEIGHBOUR: 'it returns false'. Refute it at one input. -/
def fnRowsWrong : ChangeSpec := { name := "fnRows", fn := fun _ => fun
  | [d] => { results := [.lit (.bool false)], args := [d] }
  | _ => none }
def FnRowsWrongFalsely : Prop := fnRowsRow.holds Try.pinned (OpenSpec.ofChange fnRowsWrong)

/-- 'laws.FnExactFold': WHATEVER THE INPUT: true; the input reads as it did. -/
def fnExactFoldSpec : ChangeSpec := { name := "fnExactFold", fn := fun _ => fun
  | [d1, d2, d3] => { results := [.lit (.bool true)], args := [d1, d2, d3] }
  | _ => none }
def fnExactFoldRow : OpenClaim := { program := "ytaijmhaonokniaa", sum := "8f1bcf6035de52a89c78cd09309ba5792d4e128e8d661cb0bda58f3f719b7c0d", func := "loop.example/g01397/laws.FnExactFold", spec := "fnExactFold", apart := false }
def FnExactFoldSaid : Prop := fnExactFoldRow.holds Try.pinned (OpenSpec.ofChange fnExactFoldSpec)

/-- ITS FALSE NEIGHBOUR: 'it returns false'. Refute it at one input. -/
def fnExactFoldWrong : ChangeSpec := { name := "fnExactFold", fn := fun _ => fun
  | [d1, d2, d3] => { results := [.lit (.bool false)], args := [d1, d2, d3] }
  | _ => none }
def FnExactFoldWrongFalsely : Prop := fnExactFoldRow.holds Try.pinned (OpenSpec.ofChange fnExactFoldWrong)

/-- 'laws.FnExactDropHints': WHATEVER THE INPUT: true; the input reads as it did. -/
def fnExactDropHintsSpec : ChangeSpec := { name := "fnExactDropHints", fn := fun _ => fun
  | [d] => { results := [.lit (.bool true)], args := [d] }
  | _ => none }
def fnExactDropHintsRow : OpenClaim := { program := "ytaijmhaonokniaa", sum := "8f1bcf6035de52a89c78cd09309ba5792d4e128e8d661cb0bda58f3f719b7c0d", func := "loop.example/g01397/laws.FnExactDropHints", spec := "fnExactDropHints", apart := false }
def FnExactDropHintsSaid : Prop := fnExactDropHintsRow.holds Try.pinned (OpenSpec.ofChange fnExactDropHintsSpec)

/-- ITS FALSE NEIGHBOUR: 'it returns false'. Refute it at one input. -/
def fnExactDropHintsWrong : ChangeSpec := { name := "fnExactDropHints", fn := fun _ => fun
  | [d] => { results := [.lit (.bool false)], args := [d] }
  | _ => none }
def FnExactDropHintsWrongFalsely : Prop := fnExactDropHintsRow.holds Try.pinned (OpenSpec.ofChange fnExactDropHintsWrong)

/-- 'laws.FnExactNetWrites': WHATEVER THE INPUT: true; the input reads as it did. -/
def fnExactNetWritesSpec : ChangeSpec := { name := "fnExactNetWrites", fn := fun _ => fun
  | [d] => { results := [.lit (.bool true)], args := [d] }
  | _ => none }
def fnExactNetWritesRow : OpenClaim := { program := "ytaijmhaonokniaa", sum := "8f1bcf6035de52a89c78cd09309ba5792d4e128e8d661cb0bda58f3f719b7c0d", func := "loop.example/g01397/laws.FnExactNetWrites", spec := "fnExactNetWrites", apart := false }
def FnExactNetWritesSaid : Prop := fnExactNetWritesRow.holds Try.pinned (OpenSpec.ofChange fnExactNetWritesSpec)

/-- ITS FALSE NEIGHBOUR: 'it returns false'. Refute it at one input. -/
def fnExactNetWritesWrong : ChangeSpec := { name := "fnExactNetWrites", fn := fun _ => fun
  | [d] => { results := [.lit (.bool false)], args := [d] }
  | _ => none }
def FnExactNetWritesWrongFalsely : Prop := fnExactNetWritesRow.holds Try.pinned (OpenSpec.ofChange fnExactNetWritesWrong)

/-- 'laws.FnExactModelNew': WHATEVER THE INPUT: true; the input reads as it did. -/
def fnExactModelNewSpec : ChangeSpec := { name := "fnExactModelNew", fn := fun _ => fun
  | [] => { results := [.lit (.bool true)], args := [] }
  | _ => none }
def fnExactModelNewRow : OpenClaim := { program := "ytaijmhaonokniaa", sum := "8f1bcf6035de52a89c78cd09309ba5792d4e128e8d661cb0bda58f3f719b7c0d", func := "loop.example/g01397/laws.FnExactModelNew", spec := "fnExactModelNew", apart := false }
def FnExactModelNewSaid : Prop := fnExactModelNewRow.holds Try.pinned (OpenSpec.ofChange fnExactModelNewSpec)

/-- ITS FALSE NEIGHBOUR: 'it returns false'. Refute it at one input. -/
def fnExactModelNewWrong : ChangeSpec := { name := "fnExactModelNew", fn := fun _ => fun
  | [] => { results := [.lit (.bool false)], args := [] }
  | _ => none }
def FnExactModelNewWrongFalsely : Prop := fnExactModelNewRow.holds Try.pinned (OpenSpec.ofChange fnExactModelNewWrong)

/-- 'laws.FnExactValid': WHATEVER THE INPUT: true; the input reads as it did. -/
def fnExactValidSpec : ChangeSpec := { name := "fnExactValid", fn := fun _ => fun
  | [d1, d2] => { results := [.lit (.bool true)], args := [d1, d2] }
  | _ => none }
def fnExactValidRow : OpenClaim := { program := "ytaijmhaonokniaa", sum := "8f1bcf6035de52a89c78cd09309ba5792d4e128e8d661cb0bda58f3f719b7c0d", func := "loop.example/g01397/laws.FnExactValid", spec := "fnExactValid", apart := false }
def FnExactValidSaid : Prop := fnExactValidRow.holds Try.pinned (OpenSpec.ofChange fnExactValidSpec)

/-- ITS FALSE NEIGHBOUR: 'it returns false'. Refute it at one input. -/
def fnExactValidWrong : ChangeSpec := { name := "fnExactValid", fn := fun _ => fun
  | [d1, d2] => { results := [.lit (.bool false)], args := [d1, d2] }
  | _ => none }
def FnExactValidWrongFalsely : Prop := fnExactValidRow.holds Try.pinned (OpenSpec.ofChange fnExactValidWrong)

/- THE SECOND FORM. 'bulk': how many values and letters a reading holds, each counted each time it is reached (what is shared counts as often as it is met; a slice's spare places count too). A statement '..UptoSaid' is the law's where the arguments, and the package variables that the reading takes, are together of bulk at most 1048576: NARROWER than '..Said'. Prove '..Said' where nothing that the law and all that it calls make is longer than what came in: it says more and counts as full. Else prove '..UptoSaid'. A law counts once. -/
mutual
def uptoBulk {H : Type} : DataW H → Nat
  | .lit (.string bytes) => bytes.length + 1
  | .lit _ => 1
  | .nil => 1
  | .ptr d => uptoBulk d + 1
  | .slice elems spare => uptoBulkAll elems + uptoBulkAll spare + 1
  | .agg parts => uptoBulkAll parts + 1
  | .iface _ d => uptoBulk d + 1
  | .map entries => uptoBulkEntries entries + 1
  | .held _ => 1
def uptoBulkAll {H : Type} : List (DataW H) → Nat
  | [] => 0
  | d :: r => uptoBulk d + uptoBulkAll r
def uptoBulkEntries {H : Type} : List (Lit × DataW H) → Nat
  | [] => 0
  | x :: r => uptoBulkEntry x + uptoBulkEntries r
def uptoBulkEntry {H : Type} : Lit × DataW H → Nat
  | (.string bytes, d) => bytes.length + uptoBulk d + 1
  | (_, d) => uptoBulk d + 1
 end
def uptoSmall : (H : Type) → List (DataW H) → Bool := fun _ ds => decide (uptoBulkAll ds ≤ 1048576)
def OpenSpec.upto (s : _root_.Go.ChangeSpec) : _root_.Go.OpenSpec := { _root_.Go.OpenSpec.ofChange s with cond := some uptoSmall }

/-- 'laws.FnExactSamePairs', WHERE WHAT IT READS IS OF BULK AT MOST 1048576: true; the input reads as it did. -/
def fnExactSamePairsUptoRow : OpenClaim := { program := "ytaijmhaonokniaa", sum := "8f1bcf6035de52a89c78cd09309ba5792d4e128e8d661cb0bda58f3f719b7c0d", func := "loop.example/g01397/laws.FnExactSamePairs", spec := "fnExactSamePairs", apart := false, narrowed := true }
def FnExactSamePairsUptoSaid : Prop := fnExactSamePairsUptoRow.holds Try.pinned (OpenSpec.upto fnExactSamePairsSpec)

/-- 'laws.FnExactPutsOk', WHERE WHAT IT READS IS OF BULK AT MOST 1048576: true; the input reads as it did. -/
def fnExactPutsOkUptoRow : OpenClaim := { program := "ytaijmhaonokniaa", sum := "8f1bcf6035de52a89c78cd09309ba5792d4e128e8d661cb0bda58f3f719b7c0d", func := "loop.example/g01397/laws.FnExactPutsOk", spec := "fnExactPutsOk", apart := false, narrowed := true }
def FnExactPutsOkUptoSaid : Prop := fnExactPutsOkUptoRow.holds Try.pinned (OpenSpec.upto fnExactPutsOkSpec)

/-- 'laws.FnExactSameAnswers', WHERE WHAT IT READS IS OF BULK AT MOST 1048576: true; the input reads as it did. -/
def fnExactSameAnswersUptoRow : OpenClaim := { program := "ytaijmhaonokniaa", sum := "8f1bcf6035de52a89c78cd09309ba5792d4e128e8d661cb0bda58f3f719b7c0d", func := "loop.example/g01397/laws.FnExactSameAnswers", spec := "fnExactSameAnswers", apart := false, narrowed := true }
def FnExactSameAnswersUptoSaid : Prop := fnExactSameAnswersUptoRow.holds Try.pinned (OpenSpec.upto fnExactSameAnswersSpec)

/-- 'laws.FnFolds', WHERE WHAT IT READS IS OF BULK AT MOST 1048576: true; the input reads as it did. -/
def fnFoldsUptoRow : OpenClaim := { program := "ytaijmhaonokniaa", sum := "8f1bcf6035de52a89c78cd09309ba5792d4e128e8d661cb0bda58f3f719b7c0d", func := "loop.example/g01397/laws.FnFolds", spec := "fnFolds", apart := false, narrowed := true }
def FnFoldsUptoSaid : Prop := fnFoldsUptoRow.holds Try.pinned (OpenSpec.upto fnFoldsSpec)

/-- 'laws.FnExactOwnWrite', WHERE WHAT IT READS IS OF BULK AT MOST 1048576: true; the input reads as it did. -/
def fnExactOwnWriteUptoRow : OpenClaim := { program := "ytaijmhaonokniaa", sum := "8f1bcf6035de52a89c78cd09309ba5792d4e128e8d661cb0bda58f3f719b7c0d", func := "loop.example/g01397/laws.FnExactOwnWrite", spec := "fnExactOwnWrite", apart := false, narrowed := true }
def FnExactOwnWriteUptoSaid : Prop := fnExactOwnWriteUptoRow.holds Try.pinned (OpenSpec.upto fnExactOwnWriteSpec)

/-- 'laws.FnRows', WHERE WHAT IT READS IS OF BULK AT MOST 1048576: true; the input reads as it did. -/
def fnRowsUptoRow : OpenClaim := { program := "ytaijmhaonokniaa", sum := "8f1bcf6035de52a89c78cd09309ba5792d4e128e8d661cb0bda58f3f719b7c0d", func := "loop.example/g01397/laws.FnRows", spec := "fnRows", apart := false, narrowed := true }
def FnRowsUptoSaid : Prop := fnRowsUptoRow.holds Try.pinned (OpenSpec.upto fnRowsSpec)

/-- 'laws.FnExactFold', WHERE WHAT IT READS IS OF BULK AT MOST 1048576: true; the input reads as it did. -/
def fnExactFoldUptoRow : OpenClaim := { program := "ytaijmhaonokniaa", sum := "8f1bcf6035de52a89c78cd09309ba5792d4e128e8d661cb0bda58f3f719b7c0d", func := "loop.example/g01397/laws.FnExactFold", spec := "fnExactFold", apart := false, narrowed := true }
def FnExactFoldUptoSaid : Prop := fnExactFoldUptoRow.holds Try.pinned (OpenSpec.upto fnExactFoldSpec)

/-- 'laws.FnExactDropHints', WHERE WHAT IT READS IS OF BULK AT MOST 1048576: true; the input reads as it did. -/
def fnExactDropHintsUptoRow : OpenClaim := { program := "ytaijmhaonokniaa", sum := "8f1bcf6035de52a89c78cd09309ba5792d4e128e8d661cb0bda58f3f719b7c0d", func := "loop.example/g01397/laws.FnExactDropHints", spec := "fnExactDropHints", apart := false, narrowed := true }
def FnExactDropHintsUptoSaid : Prop := fnExactDropHintsUptoRow.holds Try.pinned (OpenSpec.upto fnExactDropHintsSpec)

/-- 'laws.FnExactNetWrites', WHERE WHAT IT READS IS OF BULK AT MOST 1048576: true; the input reads as it did. -/
def fnExactNetWritesUptoRow : OpenClaim := { program := "ytaijmhaonokniaa", sum := "8f1bcf6035de52a89c78cd09309ba5792d4e128e8d661cb0bda58f3f719b7c0d", func := "loop.example/g01397/laws.FnExactNetWrites", spec := "fnExactNetWrites", apart := false, narrowed := true }
def FnExactNetWritesUptoSaid : Prop := fnExactNetWritesUptoRow.holds Try.pinned (OpenSpec.upto fnExactNetWritesSpec)

/-- 'laws.FnExactModelNew', WHERE WHAT IT READS IS OF BULK AT MOST 1048576: true; the input reads as it did. -/
def fnExactModelNewUptoRow : OpenClaim := { program := "ytaijmhaonokniaa", sum := "8f1bcf6035de52a89c78cd09309ba5792d4e128e8d661cb0bda58f3f719b7c0d", func := "loop.example/g01397/laws.FnExactModelNew", spec := "fnExactModelNew", apart := false, narrowed := true }
def FnExactModelNewUptoSaid : Prop := fnExactModelNewUptoRow.holds Try.pinned (OpenSpec.upto fnExactModelNewSpec)

/-- 'laws.FnExactValid', WHERE WHAT IT READS IS OF BULK AT MOST 1048576: true; the input reads as it did. -/
def fnExactValidUptoRow : OpenClaim := { program := "ytaijmhaonokniaa", sum := "8f1bcf6035de52a89c78cd09309ba5792d4e128e8d661cb0bda58f3f719b7c0d", func := "loop.example/g01397/laws.FnExactValid", spec := "fnExactValid", apart := false, narrowed := true }
def FnExactValidUptoSaid : Prop := fnExactValidUptoRow.holds Try.pinned (OpenSpec.upto fnExactValidSpec)

end Rows
end Go.Proofs.Ytaijmhaonokniaa
