/-
  No cell of these rows narrows 'for every input' (looked for: loops, veiled, ifaces, maps, wideKeys, modest, calm, conditions, laid).
  DERIVED. THE GIVEN ROWS OF THIS SEAT. 12 by the template 'for every input the law returns true; each argument reads behind the call as it read before'; 0 by the template 'total and deterministic' (their statements: YtgjkmdolbkoocaaTotals.lean).
  GIVEN WITH THE SEED: the statements are not yours to turn. If you find one false, say at which input.
  Laid BY PROGRAM, IN A SANDBOX (cutbox-rows.mjs): the forced cells as the released guide's own fill.sh prints them over the translation cf01fc7ed63ef128… (all of the seat's roots in one cut). By AI agents, Wed Nov 11 2026. No macro, syntax, notation, axiom, sorry.
-/
import Derived.Test.YtgjkmdolbkoocaaChecked
import GoSem.Claim
import GoSem.ClaimJoined
import GoSem.ClaimMapViews
import Derived.JoinedTies
import Derived.KernelRfl
namespace Go.Proofs.Ytgjkmdolbkoocaa
/- THE CELL 'sum', in the pinned program and in every row, IS THE sha256 OF THE DUMP (.gsa) THAT YtgjkmdolbkoocaaProg.lean LOADS. Nothing in Lean hashes anything: it is a label: what it is worth is what the hold of that sum in a sandbox is worth. -/
noncomputable def Try.pinned : Pinned := { name := "ytgjkmdolbkoocaa", sum := "cf01fc7ed63ef128b84a2fcfc24743133e9768300e73c1067ed37f6ea2c80d07", checked := Try.checked }
namespace Rows
def none {H : Type} : Left H := { results := [], args := [] }

/-- 'laws.FnExactSync': WHATEVER THE INPUT: true; the input reads as it did. -/
def fnExactSyncSpec : ChangeSpec := { name := "fnExactSync", fn := fun _ => fun
  | [d1, d2] => { results := [.lit (.bool true)], args := [d1, d2] }
  | _ => none }
def fnExactSyncRow : OpenClaim := { program := "ytgjkmdolbkoocaa", sum := "cf01fc7ed63ef128b84a2fcfc24743133e9768300e73c1067ed37f6ea2c80d07", func := "loop.example/g01397/laws.FnExactSync", spec := "fnExactSync", unfollowed := true, recurses := true, apart := false }
def FnExactSyncSaid : Prop := fnExactSyncRow.holds Try.pinned (OpenSpec.ofChange fnExactSyncSpec)

/-- ITS FALSE NEIGHBOUR: 'it returns false'. Refute it at one input. -/
def fnExactSyncWrong : ChangeSpec := { name := "fnExactSync", fn := fun _ => fun
  | [d1, d2] => { results := [.lit (.bool false)], args := [d1, d2] }
  | _ => none }
def FnExactSyncWrongFalsely : Prop := fnExactSyncRow.holds Try.pinned (OpenSpec.ofChange fnExactSyncWrong)

/-- 'laws.FnNets': WHATEVER THE INPUT: true; the input reads as it did. -/
def fnNetsSpec : ChangeSpec := { name := "fnNets", fn := fun _ => fun
  | [d] => { results := [.lit (.bool true)], args := [d] }
  | _ => none }
def fnNetsRow : OpenClaim := { program := "ytgjkmdolbkoocaa", sum := "cf01fc7ed63ef128b84a2fcfc24743133e9768300e73c1067ed37f6ea2c80d07", func := "loop.example/g01397/laws.FnNets", spec := "fnNets", apart := false }
def FnNetsSaid : Prop := fnNetsRow.holds Try.pinned (OpenSpec.ofChange fnNetsSpec)

/-- ITS FALSE NEIGHBOUR: 'it returns false'. Refute it at one input. -/
def fnNetsWrong : ChangeSpec := { name := "fnNets", fn := fun _ => fun
  | [d] => { results := [.lit (.bool false)], args := [d] }
  | _ => none }
def FnNetsWrongFalsely : Prop := fnNetsRow.holds Try.pinned (OpenSpec.ofChange fnNetsWrong)

/-- 'laws.FnExactMergedSize': WHATEVER THE INPUT: true; the input reads as it did. -/
def fnExactMergedSizeSpec : ChangeSpec := { name := "fnExactMergedSize", fn := fun _ => fun
  | [d1, d2] => { results := [.lit (.bool true)], args := [d1, d2] }
  | _ => none }
def fnExactMergedSizeRow : OpenClaim := { program := "ytgjkmdolbkoocaa", sum := "cf01fc7ed63ef128b84a2fcfc24743133e9768300e73c1067ed37f6ea2c80d07", func := "loop.example/g01397/laws.FnExactMergedSize", spec := "fnExactMergedSize", apart := false }
def FnExactMergedSizeSaid : Prop := fnExactMergedSizeRow.holds Try.pinned (OpenSpec.ofChange fnExactMergedSizeSpec)

/-- ITS FALSE NEIGHBOUR: 'it returns false'. Refute it at one input. -/
def fnExactMergedSizeWrong : ChangeSpec := { name := "fnExactMergedSize", fn := fun _ => fun
  | [d1, d2] => { results := [.lit (.bool false)], args := [d1, d2] }
  | _ => none }
def FnExactMergedSizeWrongFalsely : Prop := fnExactMergedSizeRow.holds Try.pinned (OpenSpec.ofChange fnExactMergedSizeWrong)

/-- 'laws.FnExactRemove': WHATEVER THE INPUT: true; the input reads as it did. -/
def fnExactRemoveSpec : ChangeSpec := { name := "fnExactRemove", fn := fun _ => fun
  | [d1, d2] => { results := [.lit (.bool true)], args := [d1, d2] }
  | _ => none }
def fnExactRemoveRow : OpenClaim := { program := "ytgjkmdolbkoocaa", sum := "cf01fc7ed63ef128b84a2fcfc24743133e9768300e73c1067ed37f6ea2c80d07", func := "loop.example/g01397/laws.FnExactRemove", spec := "fnExactRemove", unfollowed := true, recurses := true, apart := false }
def FnExactRemoveSaid : Prop := fnExactRemoveRow.holds Try.pinned (OpenSpec.ofChange fnExactRemoveSpec)

/-- ITS FALSE NEIGHBOUR: 'it returns false'. Refute it at one input. -/
def fnExactRemoveWrong : ChangeSpec := { name := "fnExactRemove", fn := fun _ => fun
  | [d1, d2] => { results := [.lit (.bool false)], args := [d1, d2] }
  | _ => none }
def FnExactRemoveWrongFalsely : Prop := fnExactRemoveRow.holds Try.pinned (OpenSpec.ofChange fnExactRemoveWrong)

/-- 'laws.FnExactTruncate': WHATEVER THE INPUT: true; the input reads as it did. -/
def fnExactTruncateSpec : ChangeSpec := { name := "fnExactTruncate", fn := fun _ => fun
  | [d1, d2, d3] => { results := [.lit (.bool true)], args := [d1, d2, d3] }
  | _ => none }
def fnExactTruncateRow : OpenClaim := { program := "ytgjkmdolbkoocaa", sum := "cf01fc7ed63ef128b84a2fcfc24743133e9768300e73c1067ed37f6ea2c80d07", func := "loop.example/g01397/laws.FnExactTruncate", spec := "fnExactTruncate", unfollowed := true, recurses := true, apart := false }
def FnExactTruncateSaid : Prop := fnExactTruncateRow.holds Try.pinned (OpenSpec.ofChange fnExactTruncateSpec)

/-- ITS FALSE NEIGHBOUR: 'it returns false'. Refute it at one input. -/
def fnExactTruncateWrong : ChangeSpec := { name := "fnExactTruncate", fn := fun _ => fun
  | [d1, d2, d3] => { results := [.lit (.bool false)], args := [d1, d2, d3] }
  | _ => none }
def FnExactTruncateWrongFalsely : Prop := fnExactTruncateRow.holds Try.pinned (OpenSpec.ofChange fnExactTruncateWrong)

/-- 'laws.FnExactTxnRead': WHATEVER THE INPUT: true; the input reads as it did. -/
def fnExactTxnReadSpec : ChangeSpec := { name := "fnExactTxnRead", fn := fun _ => fun
  | [d1, d2, d3] => { results := [.lit (.bool true)], args := [d1, d2, d3] }
  | _ => none }
def fnExactTxnReadRow : OpenClaim := { program := "ytgjkmdolbkoocaa", sum := "cf01fc7ed63ef128b84a2fcfc24743133e9768300e73c1067ed37f6ea2c80d07", func := "loop.example/g01397/laws.FnExactTxnRead", spec := "fnExactTxnRead", apart := false }
def FnExactTxnReadSaid : Prop := fnExactTxnReadRow.holds Try.pinned (OpenSpec.ofChange fnExactTxnReadSpec)

/-- ITS FALSE NEIGHBOUR: 'it returns false'. Refute it at one input. -/
def fnExactTxnReadWrong : ChangeSpec := { name := "fnExactTxnRead", fn := fun _ => fun
  | [d1, d2, d3] => { results := [.lit (.bool false)], args := [d1, d2, d3] }
  | _ => none }
def FnExactTxnReadWrongFalsely : Prop := fnExactTxnReadRow.holds Try.pinned (OpenSpec.ofChange fnExactTxnReadWrong)

/-- 'laws.FnExactAppend': WHATEVER THE INPUT: true; the input reads as it did. -/
def fnExactAppendSpec : ChangeSpec := { name := "fnExactAppend", fn := fun _ => fun
  | [d1, d2, d3] => { results := [.lit (.bool true)], args := [d1, d2, d3] }
  | _ => none }
def fnExactAppendRow : OpenClaim := { program := "ytgjkmdolbkoocaa", sum := "cf01fc7ed63ef128b84a2fcfc24743133e9768300e73c1067ed37f6ea2c80d07", func := "loop.example/g01397/laws.FnExactAppend", spec := "fnExactAppend", unfollowed := true, recurses := true, apart := false }
def FnExactAppendSaid : Prop := fnExactAppendRow.holds Try.pinned (OpenSpec.ofChange fnExactAppendSpec)

/-- ITS FALSE NEIGHBOUR: 'it returns false'. Refute it at one input. -/
def fnExactAppendWrong : ChangeSpec := { name := "fnExactAppend", fn := fun _ => fun
  | [d1, d2, d3] => { results := [.lit (.bool false)], args := [d1, d2, d3] }
  | _ => none }
def FnExactAppendWrongFalsely : Prop := fnExactAppendRow.holds Try.pinned (OpenSpec.ofChange fnExactAppendWrong)

/-- 'laws.FnExactCreate': WHATEVER THE INPUT: true; the input reads as it did. -/
def fnExactCreateSpec : ChangeSpec := { name := "fnExactCreate", fn := fun _ => fun
  | [d1, d2] => { results := [.lit (.bool true)], args := [d1, d2] }
  | _ => none }
def fnExactCreateRow : OpenClaim := { program := "ytgjkmdolbkoocaa", sum := "cf01fc7ed63ef128b84a2fcfc24743133e9768300e73c1067ed37f6ea2c80d07", func := "loop.example/g01397/laws.FnExactCreate", spec := "fnExactCreate", unfollowed := true, recurses := true, apart := false }
def FnExactCreateSaid : Prop := fnExactCreateRow.holds Try.pinned (OpenSpec.ofChange fnExactCreateSpec)

/-- ITS FALSE NEIGHBOUR: 'it returns false'. Refute it at one input. -/
def fnExactCreateWrong : ChangeSpec := { name := "fnExactCreate", fn := fun _ => fun
  | [d1, d2] => { results := [.lit (.bool false)], args := [d1, d2] }
  | _ => none }
def FnExactCreateWrongFalsely : Prop := fnExactCreateRow.holds Try.pinned (OpenSpec.ofChange fnExactCreateWrong)

/-- 'laws.FnExactFoldAcks': WHATEVER THE INPUT: true; the input reads as it did. -/
def fnExactFoldAcksSpec : ChangeSpec := { name := "fnExactFoldAcks", fn := fun _ => fun
  | [d1, d2] => { results := [.lit (.bool true)], args := [d1, d2] }
  | _ => none }
def fnExactFoldAcksRow : OpenClaim := { program := "ytgjkmdolbkoocaa", sum := "cf01fc7ed63ef128b84a2fcfc24743133e9768300e73c1067ed37f6ea2c80d07", func := "loop.example/g01397/laws.FnExactFoldAcks", spec := "fnExactFoldAcks", apart := false }
def FnExactFoldAcksSaid : Prop := fnExactFoldAcksRow.holds Try.pinned (OpenSpec.ofChange fnExactFoldAcksSpec)

/-- ITS FALSE NEIGHBOUR: 'it returns false'. Refute it at one input. -/
def fnExactFoldAcksWrong : ChangeSpec := { name := "fnExactFoldAcks", fn := fun _ => fun
  | [d1, d2] => { results := [.lit (.bool false)], args := [d1, d2] }
  | _ => none }
def FnExactFoldAcksWrongFalsely : Prop := fnExactFoldAcksRow.holds Try.pinned (OpenSpec.ofChange fnExactFoldAcksWrong)

/-- 'laws.FnExactTxnWrite': WHATEVER THE INPUT: true; the input reads as it did. -/
def fnExactTxnWriteSpec : ChangeSpec := { name := "fnExactTxnWrite", fn := fun _ => fun
  | [d1, d2] => { results := [.lit (.bool true)], args := [d1, d2] }
  | _ => none }
def fnExactTxnWriteRow : OpenClaim := { program := "ytgjkmdolbkoocaa", sum := "cf01fc7ed63ef128b84a2fcfc24743133e9768300e73c1067ed37f6ea2c80d07", func := "loop.example/g01397/laws.FnExactTxnWrite", spec := "fnExactTxnWrite", apart := false }
def FnExactTxnWriteSaid : Prop := fnExactTxnWriteRow.holds Try.pinned (OpenSpec.ofChange fnExactTxnWriteSpec)

/-- ITS FALSE NEIGHBOUR: 'it returns false'. Refute it at one input. -/
def fnExactTxnWriteWrong : ChangeSpec := { name := "fnExactTxnWrite", fn := fun _ => fun
  | [d1, d2] => { results := [.lit (.bool false)], args := [d1, d2] }
  | _ => none }
def FnExactTxnWriteWrongFalsely : Prop := fnExactTxnWriteRow.holds Try.pinned (OpenSpec.ofChange fnExactTxnWriteWrong)

/-- 'laws.FnExactRename': WHATEVER THE INPUT: true; the input reads as it did. -/
def fnExactRenameSpec : ChangeSpec := { name := "fnExactRename", fn := fun _ => fun
  | [d1, d2, d3] => { results := [.lit (.bool true)], args := [d1, d2, d3] }
  | _ => none }
def fnExactRenameRow : OpenClaim := { program := "ytgjkmdolbkoocaa", sum := "cf01fc7ed63ef128b84a2fcfc24743133e9768300e73c1067ed37f6ea2c80d07", func := "loop.example/g01397/laws.FnExactRename", spec := "fnExactRename", unfollowed := true, recurses := true, apart := false }
def FnExactRenameSaid : Prop := fnExactRenameRow.holds Try.pinned (OpenSpec.ofChange fnExactRenameSpec)

/-- ITS FALSE NEIGHBOUR: 'it returns false'. Refute it at one input. -/
def fnExactRenameWrong : ChangeSpec := { name := "fnExactRename", fn := fun _ => fun
  | [d1, d2, d3] => { results := [.lit (.bool false)], args := [d1, d2, d3] }
  | _ => none }
def FnExactRenameWrongFalsely : Prop := fnExactRenameRow.holds Try.pinned (OpenSpec.ofChange fnExactRenameWrong)

/-- 'laws.FnDisk': WHATEVER THE INPUT: true; the input reads as it did. -/
def fnDiskSpec : ChangeSpec := { name := "fnDisk", fn := fun _ => fun
  | [d] => { results := [.lit (.bool true)], args := [d] }
  | _ => none }
def fnDiskRow : OpenClaim := { program := "ytgjkmdolbkoocaa", sum := "cf01fc7ed63ef128b84a2fcfc24743133e9768300e73c1067ed37f6ea2c80d07", func := "loop.example/g01397/laws.FnDisk", spec := "fnDisk", unfollowed := true, recurses := true, apart := false }
def FnDiskSaid : Prop := fnDiskRow.holds Try.pinned (OpenSpec.ofChange fnDiskSpec)

/-- ITS FALSE NEIGHBOUR: 'it returns false'. Refute it at one input. -/
def fnDiskWrong : ChangeSpec := { name := "fnDisk", fn := fun _ => fun
  | [d] => { results := [.lit (.bool false)], args := [d] }
  | _ => none }
def FnDiskWrongFalsely : Prop := fnDiskRow.holds Try.pinned (OpenSpec.ofChange fnDiskWrong)

/- THE SECOND FORM. 'bulk': how many values and letters a reading holds, each counted each time it is reached (what is shared counts as often as it is met; a slice's spare places count too). A statement '..UptoSaid' is the law's where the arguments, and the package variables that the reading takes, are together of bulk at most 1048576: NARROWER than '..Said'. Prove '..Said' where nothing that the law and all that it calls make is longer than what came in: it says more and counts as full. Else prove '..UptoSaid'. A law counts once. -/
mutual
def uptoBulk {H : Type} : DataW H → Nat
  | .lit (.string bytes) => bytes.length + 1
  | .lit _ => 1
  | .nil => 1
  | .ptr d => uptoBulk d + 1
  | .slice elems spare => uptoBulkAll elems + uptoBulkAll spare + 1
  | .agg parts => uptoBulkAll parts + 1
  | .iface _ d => uptoBulk d + 1
  | .map entries => uptoBulkEntries entries + 1
  | .held _ => 1
def uptoBulkAll {H : Type} : List (DataW H) → Nat
  | [] => 0
  | d :: r => uptoBulk d + uptoBulkAll r
def uptoBulkEntries {H : Type} : List (Lit × DataW H) → Nat
  | [] => 0
  | x :: r => uptoBulkEntry x + uptoBulkEntries r
def uptoBulkEntry {H : Type} : Lit × DataW H → Nat
  | (.string bytes, d) => bytes.length + uptoBulk d + 1
  | (_, d) => uptoBulk d + 1
 end
def uptoSmall : (H : Type) → List (DataW H) → Bool := fun _ ds => decide (uptoBulkAll ds ≤ 1048576)
def OpenSpec.upto (s : _root_.Go.ChangeSpec) : _root_.Go.OpenSpec := { _root_.Go.OpenSpec.ofChange s with cond := some uptoSmall }

/-- 'laws.FnExactSync', WHERE WHAT IT READS IS OF BULK AT MOST 1048576: true; the input reads as it did. -/
def fnExactSyncUptoRow : OpenClaim := { program := "ytgjkmdolbkoocaa", sum := "cf01fc7ed63ef128b84a2fcfc24743133e9768300e73c1067ed37f6ea2c80d07", func := "loop.example/g01397/laws.FnExactSync", spec := "fnExactSync", unfollowed := true, recurses := true, apart := false, narrowed := true }
def FnExactSyncUptoSaid : Prop := fnExactSyncUptoRow.holds Try.pinned (OpenSpec.upto fnExactSyncSpec)

/-- 'laws.FnNets', WHERE WHAT IT READS IS OF BULK AT MOST 1048576: true; the input reads as it did. -/
def fnNetsUptoRow : OpenClaim := { program := "ytgjkmdolbkoocaa", sum := "cf01fc7ed63ef128b84a2fcfc24743133e9768300e73c1067ed37f6ea2c80d07", func := "loop.example/g01397/laws.FnNets", spec := "fnNets", apart := false, narrowed := true }
def FnNetsUptoSaid : Prop := fnNetsUptoRow.holds Try.pinned (OpenSpec.upto fnNetsSpec)

/-- 'laws.FnExactMergedSize', WHERE WHAT IT READS IS OF BULK AT MOST 1048576: true; the input reads as it did. -/
def fnExactMergedSizeUptoRow : OpenClaim := { program := "ytgjkmdolbkoocaa", sum := "cf01fc7ed63ef128b84a2fcfc24743133e9768300e73c1067ed37f6ea2c80d07", func := "loop.example/g01397/laws.FnExactMergedSize", spec := "fnExactMergedSize", apart := false, narrowed := true }
def FnExactMergedSizeUptoSaid : Prop := fnExactMergedSizeUptoRow.holds Try.pinned (OpenSpec.upto fnExactMergedSizeSpec)

/-- 'laws.FnExactRemove', WHERE WHAT IT READS IS OF BULK AT MOST 1048576: true; the input reads as it did. -/
def fnExactRemoveUptoRow : OpenClaim := { program := "ytgjkmdolbkoocaa", sum := "cf01fc7ed63ef128b84a2fcfc24743133e9768300e73c1067ed37f6ea2c80d07", func := "loop.example/g01397/laws.FnExactRemove", spec := "fnExactRemove", unfollowed := true, recurses := true, apart := false, narrowed := true }
def FnExactRemoveUptoSaid : Prop := fnExactRemoveUptoRow.holds Try.pinned (OpenSpec.upto fnExactRemoveSpec)

/-- 'laws.FnExactTruncate', WHERE WHAT IT READS IS OF BULK AT MOST 1048576: true; the input reads as it did. -/
def fnExactTruncateUptoRow : OpenClaim := { program := "ytgjkmdolbkoocaa", sum := "cf01fc7ed63ef128b84a2fcfc24743133e9768300e73c1067ed37f6ea2c80d07", func := "loop.example/g01397/laws.FnExactTruncate", spec := "fnExactTruncate", unfollowed := true, recurses := true, apart := false, narrowed := true }
def FnExactTruncateUptoSaid : Prop := fnExactTruncateUptoRow.holds Try.pinned (OpenSpec.upto fnExactTruncateSpec)

/-- 'laws.FnExactTxnRead', WHERE WHAT IT READS IS OF BULK AT MOST 1048576: true; the input reads as it did. -/
def fnExactTxnReadUptoRow : OpenClaim := { program := "ytgjkmdolbkoocaa", sum := "cf01fc7ed63ef128b84a2fcfc24743133e9768300e73c1067ed37f6ea2c80d07", func := "loop.example/g01397/laws.FnExactTxnRead", spec := "fnExactTxnRead", apart := false, narrowed := true }
def FnExactTxnReadUptoSaid : Prop := fnExactTxnReadUptoRow.holds Try.pinned (OpenSpec.upto fnExactTxnReadSpec)

/-- 'laws.FnExactAppend', WHERE WHAT IT READS IS OF BULK AT MOST 1048576: true; the input reads as it did. -/
def fnExactAppendUptoRow : OpenClaim := { program := "ytgjkmdolbkoocaa", sum := "cf01fc7ed63ef128b84a2fcfc24743133e9768300e73c1067ed37f6ea2c80d07", func := "loop.example/g01397/laws.FnExactAppend", spec := "fnExactAppend", unfollowed := true, recurses := true, apart := false, narrowed := true }
def FnExactAppendUptoSaid : Prop := fnExactAppendUptoRow.holds Try.pinned (OpenSpec.upto fnExactAppendSpec)

/-- 'laws.FnExactCreate', WHERE WHAT IT READS IS OF BULK AT MOST 1048576: true; the input reads as it did. -/
def fnExactCreateUptoRow : OpenClaim := { program := "ytgjkmdolbkoocaa", sum := "cf01fc7ed63ef128b84a2fcfc24743133e9768300e73c1067ed37f6ea2c80d07", func := "loop.example/g01397/laws.FnExactCreate", spec := "fnExactCreate", unfollowed := true, recurses := true, apart := false, narrowed := true }
def FnExactCreateUptoSaid : Prop := fnExactCreateUptoRow.holds Try.pinned (OpenSpec.upto fnExactCreateSpec)

/-- 'laws.FnExactFoldAcks', WHERE WHAT IT READS IS OF BULK AT MOST 1048576: true; the input reads as it did. -/
def fnExactFoldAcksUptoRow : OpenClaim := { program := "ytgjkmdolbkoocaa", sum := "cf01fc7ed63ef128b84a2fcfc24743133e9768300e73c1067ed37f6ea2c80d07", func := "loop.example/g01397/laws.FnExactFoldAcks", spec := "fnExactFoldAcks", apart := false, narrowed := true }
def FnExactFoldAcksUptoSaid : Prop := fnExactFoldAcksUptoRow.holds Try.pinned (OpenSpec.upto fnExactFoldAcksSpec)

/-- 'laws.FnExactTxnWrite', WHERE WHAT IT READS IS OF BULK AT MOST 1048576: true; the input reads as it did. -/
def fnExactTxnWriteUptoRow : OpenClaim := { program := "ytgjkmdolbkoocaa", sum := "cf01fc7ed63ef128b84a2fcfc24743133e9768300e73c1067ed37f6ea2c80d07", func := "loop.example/g01397/laws.FnExactTxnWrite", spec := "fnExactTxnWrite", apart := false, narrowed := true }
def FnExactTxnWriteUptoSaid : Prop := fnExactTxnWriteUptoRow.holds Try.pinned (OpenSpec.upto fnExactTxnWriteSpec)

/-- 'laws.FnExactRename', WHERE WHAT IT READS IS OF BULK AT MOST 1048576: true; the input reads as it did. -/
def fnExactRenameUptoRow : OpenClaim := { program := "ytgjkmdolbkoocaa", sum := "cf01fc7ed63ef128b84a2fcfc24743133e9768300e73c1067ed37f6ea2c80d07", func := "loop.example/g01397/laws.FnExactRename", spec := "fnExactRename", unfollowed := true, recurses := true, apart := false, narrowed := true }
def FnExactRenameUptoSaid : Prop := fnExactRenameUptoRow.holds Try.pinned (OpenSpec.upto fnExactRenameSpec)

/-- 'laws.FnDisk', WHERE WHAT IT READS IS OF BULK AT MOST 1048576: true; the input reads as it did. -/
def fnDiskUptoRow : OpenClaim := { program := "ytgjkmdolbkoocaa", sum := "cf01fc7ed63ef128b84a2fcfc24743133e9768300e73c1067ed37f6ea2c80d07", func := "loop.example/g01397/laws.FnDisk", spec := "fnDisk", unfollowed := true, recurses := true, apart := false, narrowed := true }
def FnDiskUptoSaid : Prop := fnDiskUptoRow.holds Try.pinned (OpenSpec.upto fnDiskSpec)

end Rows
end Go.Proofs.Ytgjkmdolbkoocaa
