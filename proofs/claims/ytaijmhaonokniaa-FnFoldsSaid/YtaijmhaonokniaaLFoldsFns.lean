/- The plain functions that the program's functions come to. Printed by gen.py; each is held against the program in the text Ev. -/
import Derived.Test.YtaijmhaonokniaaRf1
namespace Go.Rf.G
open Go Go.Rf
set_option linter.unusedVariables false

noncomputable def spec_SamePairs.l0 (rec : (List (List UInt8 × List UInt8 × Int) × List (List UInt8 × List UInt8 × Int) × Int) → Option ((Unit) ⊕ (Bool))) : (List (List UInt8 × List UInt8 × Int) × List (List UInt8 × List UInt8 × Int) × Int) → Option ((Unit) ⊕ (Bool)) := fun (x0, x1, x5) =>
  bif decide (x5 < (x0.length : Int)) then
  bif inB x5 x0.length then
  bif inB x5 x1.length then
  bif !(((rdA ([], [], 0) x0 x5).1) == ((rdA ([], [], 0) x1 x5).1) && ((((rdA ([], [], 0) x0 x5).2).1) == (((rdA ([], [], 0) x1 x5).2).1) && ((((rdA ([], [], 0) x0 x5).2).2) == (((rdA ([], [], 0) x1 x5).2).2)))) then
  some (Sum.inr false)
  else
  rec (x0, x1, w64 (x5 + 1))
  else none
  else none
  else
  some (Sum.inl ())
noncomputable def spec_SamePairs.f (p0 : List (List UInt8 × List UInt8 × Int)) (p1 : List (List UInt8 × List UInt8 × Int)) : Option (Bool) :=
  bif (p0.length : Int) != (p1.length : Int) then
  some false
  else
  (lp spec_SamePairs.l0 (p0, p1, 0)).bind (fun o1 => caseS o1 (fun _ =>
  some true) (fun x4 =>
  some x4))

noncomputable def laws_big.f (p0 : List Int) : Option (Bool) :=
  let y1 := decide ((p0.length : Int) > 1048576)
  some y1

noncomputable def spec_l1New.l0 (rec : (List Int × Int × Int) → Option (List Int × Int)) : (List Int × Int × Int) → Option (List Int × Int) := fun (x0, x3, x4) =>
  bif decide (x4 < (x0.length : Int)) then
  bif decide (x4 < 4000) then
  bif inB x4 x0.length then
  let y2 := bits (fun _ a b => a &&& b) .i64 (w64 ((w64 ((w64 (x3 * 131)) + (w64 (rdA 0 x0 x4)))) + 7)) 1073741823
  rec (x0, y2, w64 (x4 + 1))
  else none
  else
  some (x0, x3)
  else
  some (x0, x3)
noncomputable def spec_l1New.f (p0 : List Int) : Option (List Int × Int × Int) :=
  let y1 := w64 (10101 + (p0.length : Int))
  (lp spec_l1New.l0 (p0, y1, 0)).bind (fun (x0, x3) =>
  some (x0, 0, x3))

noncomputable def spec_l1Byte.f (p0 : List Int × Int × Int) : Option (Int × List Int × Int × Int) :=
  let y1 := w64 ((w64 (p0.2.2 * 6364136223846793005)) + 1442695040888963407)
  let y2 := bits (fun _ a b => a &&& b) .i64 (bits (fun _ a b => a ^^^ b) .i64 (Int.fdiv y1 (2 ^ (min 33 64))) (Int.fdiv y1 (2 ^ (min 45 64)))) 255
  bif decide (p0.2.1 < (p0.1.length : Int)) then
  bif inB p0.2.1 p0.1.length then
  let y3 := bits (fun _ a b => a &&& b) .i64 (w64 (y2 + (w64 (rdA 0 p0.1 p0.2.1)))) 255
  let y4 := w64 (p0.2.1 + 1)
  some (y3, (p0.1, y4, y1))
  else none
  else
  some (y2, (p0.1, p0.2.1, y1))

noncomputable def spec_l1Below.f (p0 : List Int × Int × Int) (p1 : Int) : Option (Int × List Int × Int × Int) :=
  bif decide (p1 ≤ 0) then
  some (0, p0)
  else
  bif decide (p1 ≤ 256) then
  (spec_l1Byte.f p0).bind fun (t1_0, t1_1) =>
  bif p1 != 0 then
  let y2 := Int.tmod t1_0 p1
  some (y2, t1_1)
  else none
  else
  (spec_l1Byte.f p0).bind fun (t3_0, t3_1) =>
  (spec_l1Byte.f t3_1).bind fun (t4_0, t4_1) =>
  (spec_l1Byte.f t4_1).bind fun (t5_0, t5_1) =>
  (spec_l1Byte.f t5_1).bind fun (t6_0, t6_1) =>
  bif p1 != 0 then
  let y7 := Int.tmod (w64 ((w64 ((w64 ((w64 (t3_0 * 16777216)) + (w64 (t4_0 * 65536)))) + (w64 (t5_0 * 256)))) + t6_0)) p1
  some (y7, t6_1)
  else none

noncomputable def spec_l1Pick.f (p0 : List Int × Int × Int) (p1 : List (List UInt8)) : Option (List UInt8 × List Int × Int × Int) :=
  (spec_l1Below.f p0 (p1.length : Int)).bind fun (t1_0, t1_1) =>
  bif inB t1_0 p1.length then
  let y2 := rdA [] p1 t1_0
  some (y2, t1_1)
  else none

noncomputable def spec_l5Key.f (p0 : List Int × Int × Int) : Option (List UInt8 × List Int × Int × Int) :=
  (spec_l1Pick.f p0 [[97], [98], [99], [107, 101, 121], [108, 111, 110, 103, 110, 97, 109, 101]]).bind fun (t1_0, t1_1) =>
  some (t1_0, t1_1)

noncomputable def spec_l13Set.l0 (rec : (List (List UInt8 × List UInt8 × Int) × (List UInt8 × List UInt8 × Int) × List (List UInt8 × List UInt8 × Int) × Bool × Int) → Option ((List UInt8 × List UInt8 × Int) × List (List UInt8 × List UInt8 × Int) × Bool)) : (List (List UInt8 × List UInt8 × Int) × (List UInt8 × List UInt8 × Int) × List (List UInt8 × List UInt8 × Int) × Bool × Int) → Option ((List UInt8 × List UInt8 × Int) × List (List UInt8 × List UInt8 × Int) × Bool) := fun (x0, x4, x7, x8, x9) =>
  bif decide (x9 < (x0.length : Int)) then
  (bif inB x9 x0.length then
  bif ((rdA ([], [], 0) x0 x9).1) == x4.1 then
  some (x0, x4, x7, x8, x9)
  else
  (bif !x8 then
  bif inB x9 x0.length then
  bif !(Op.bytesLess ((rdA ([], [], 0) x0 x9).1) x4.1 || ((rdA ([], [], 0) x0 x9).1) == x4.1) then
  bif decide ((x7.length + [x4].length) * 40 ≤ 140737488355328) then
  some (x0, x4, x7 ++ [x4], true, x9)
  else none
  else
  some (x0, x4, x7, x8, x9)
  else none
  else
  some (x0, x4, x7, x8, x9) : Option (List (List UInt8 × List UInt8 × Int) × (List UInt8 × List UInt8 × Int) × List (List UInt8 × List UInt8 × Int) × Bool × Int)).bind (fun (x0, x4, x7, x8, x9) =>
  bif inB x9 x0.length then
  bif decide ((x7.length + ([((rdA ([], [], 0) x0 x9).1, ((rdA ([], [], 0) x0 x9).2))] : List (List UInt8 × List UInt8 × Int)).length) * 40 ≤ 140737488355328) then
  let l1 := x7 ++ ([((rdA ([], [], 0) x0 x9).1, ((rdA ([], [], 0) x0 x9).2))] : List (List UInt8 × List UInt8 × Int))
  some (x0, x4, l1, x8, x9)
  else none
  else none)
  else none : Option (List (List UInt8 × List UInt8 × Int) × (List UInt8 × List UInt8 × Int) × List (List UInt8 × List UInt8 × Int) × Bool × Int)).bind (fun (x0, x4, x7, x8, x9) =>
  rec (x0, x4, x7, x8, w64 (x9 + 1)))
  else
  some (x4, x7, x8)
noncomputable def spec_l13Set.f (p0 : List (List UInt8 × List UInt8 × Int)) (p1 : List UInt8 × List UInt8 × Int) (p2 : Bool) : Option (List (List UInt8 × List UInt8 × Int)) :=
  (lp spec_l13Set.l0 (p0, p1, ([] : List (List UInt8 × List UInt8 × Int)), p2, 0)).bind (fun (x4, x7, x8) =>
  bif !x8 then
  bif decide ((x7.length + [x4].length) * 40 ≤ 140737488355328) then
  some (x7 ++ [x4])
  else none
  else
  some x7)

noncomputable def spec_l1Text.l0 (rec : ((List Int × Int × Int) × List Int × Int × Int) → Option ((List Int × Int × Int) × List Int)) : ((List Int × Int × Int) × List Int × Int × Int) → Option ((List Int × Int × Int) × List Int) := fun (x0, x5, x6, x7) =>
  bif decide (x7 > 0) then
  (spec_l1Byte.f x0).bind fun (t3_0, t3_1) =>
  (bif x6 == 1 then
  let y4 := Int.tmod t3_0 2
  some (t3_1, x5, x6, x7, y4)
  else
  some (t3_1, x5, x6, x7, t3_0) : Option ((List Int × Int × Int) × List Int × Int × Int × Int)).bind (fun (x0, x5, x6, x7, x8) =>
  (bif x6 == 2 then
  let y5 := w64 (97 + (Int.tmod x8 4))
  some (x0, x5, x6, x7, y5)
  else
  some (x0, x5, x6, x7, x8) : Option ((List Int × Int × Int) × List Int × Int × Int × Int)).bind (fun (x0, x5, x6, x7, x8) =>
  bif decide ((x5.length + [IntKind.wrap .u8 (x8)].length) * 1 ≤ 140737488355328) then
  let l6 := x5 ++ [IntKind.wrap .u8 (x8)]
  rec (x0, l6, x6, w64 (x7 - 1))
  else none))
  else
  some (x0, x5)
noncomputable def spec_l1Text.f (p0 : List Int × Int × Int) (p1 : Int) : Option (List UInt8 × List Int × Int × Int) :=
  (spec_l1Below.f p0 4).bind fun (t1_0, t1_1) =>
  (spec_l1Below.f t1_1 (w64 (p1 + 1))).bind fun (t2_0, t2_1) =>
  (lp spec_l1Text.l0 (t2_1, ([] : List Int), t1_0, t2_0)).bind (fun (x0, x5) =>
  some (strOf x5, x0))

noncomputable def spec_l13Pairs.l0 (rec : ((List Int × Int × Int) × List (List UInt8 × List UInt8 × Int) × Int) → Option ((List Int × Int × Int) × List (List UInt8 × List UInt8 × Int))) : ((List Int × Int × Int) × List (List UInt8 × List UInt8 × Int) × Int) → Option ((List Int × Int × Int) × List (List UInt8 × List UInt8 × Int)) := fun (x0, x3, x4) =>
  bif decide (x4 > 0) then
  (spec_l5Key.f x0).bind fun (t2_0, t2_1) =>
  (spec_l1Text.f t2_1 4).bind fun (t3_0, t3_1) =>
  (spec_l1Below.f t3_1 9).bind fun (t4_0, t4_1) =>
  (spec_l13Set.f x3 (t2_0, t3_0, w64 (1 + t4_0)) false).bind fun t5 =>
  rec (t4_1, t5, w64 (x4 - 1))
  else
  some (x0, x3)
noncomputable def spec_l13Pairs.f (p0 : List Int × Int × Int) : Option (List (List UInt8 × List UInt8 × Int) × List Int × Int × Int) :=
  (spec_l1Below.f p0 6).bind fun (t1_0, t1_1) =>
  (lp spec_l13Pairs.l0 (t1_1, ([] : List (List UInt8 × List UInt8 × Int)), t1_0)).bind (fun (x0, x3) =>
  some (x3, x0))

noncomputable def spec_l1Once.f (p0 : List Int × Int × Int) (p1 : Int) : Option (Bool × List Int × Int × Int) :=
  (spec_l1Below.f p0 p1).bind fun (t1_0, t1_1) =>
  some (t1_0 == 0, t1_1)

noncomputable def spec_l12Puts.l0 (rec : ((List Int × Int × Int) × List (List UInt8 × Bool × List UInt8) × Int) → Option ((List Int × Int × Int) × List (List UInt8 × Bool × List UInt8))) : ((List Int × Int × Int) × List (List UInt8 × Bool × List UInt8) × Int) → Option ((List Int × Int × Int) × List (List UInt8 × Bool × List UInt8)) := fun (x0, x3, x4) =>
  bif decide (x4 > 0) then
  (spec_l5Key.f x0).bind fun (t2_0, t2_1) =>
  (spec_l1Text.f t2_1 16).bind fun (t3_0, t3_1) =>
  ((spec_l1Once.f t3_1 4).bind fun (t4_0, t4_1) =>
  bif t4_0 then
  some (t4_1, x3, x4, (t2_0, true, []))
  else
  some (t4_1, x3, x4, (t2_0, false, t3_0)) : Option ((List Int × Int × Int) × List (List UInt8 × Bool × List UInt8) × Int × List UInt8 × Bool × List UInt8)).bind (fun (x0, x3, x4, x5) =>
  bif decide ((x3.length + [x5].length) * 40 ≤ 140737488355328) then
  rec (x0, x3 ++ [x5], w64 (x4 - 1))
  else none)
  else
  some (x0, x3)
noncomputable def spec_l12Puts.f (p0 : List Int × Int × Int) : Option (List (List UInt8 × Bool × List UInt8) × List Int × Int × Int) :=
  (spec_l1Below.f p0 4).bind fun (t1_0, t1_1) =>
  (lp spec_l12Puts.l0 (t1_1, ([] : List (List UInt8 × Bool × List UInt8)), t1_0)).bind (fun (x0, x3) =>
  some (x3, x0))

noncomputable def spec_DrawFold.f (p0 : List Int) : Option (List (List UInt8 × List UInt8 × Int) × List (List UInt8 × Bool × List UInt8) × Int) :=
  (spec_l1New.f p0).bind fun t1 =>
  (spec_l13Pairs.f t1).bind fun (t2_0, t2_1) =>
  (spec_l12Puts.f t2_1).bind fun (t3_0, t3_1) =>
  (spec_l1Below.f t3_1 20).bind fun (t4_0, t4_1) =>
  let y5 := w64 (1 + t4_0)
  some (t2_0, t3_0, y5)

noncomputable def impl_copyPairs.f (p0 : List (List UInt8 × List UInt8 × Int)) : Option (List (List UInt8 × List UInt8 × Int)) :=
  bif decide ((([] : List (List UInt8 × List UInt8 × Int)).length + p0.length) * 40 ≤ 140737488355328) then
  let l1 := ([] : List (List UInt8 × List UInt8 × Int)) ++ p0
  some l1
  else none

noncomputable def impl_without.l0 (rec : (List UInt8 × List (List UInt8 × List UInt8 × Int) × List (List UInt8 × List UInt8 × Int) × Int × Int) → Option (List (List UInt8 × List UInt8 × Int))) : (List UInt8 × List (List UInt8 × List UInt8 × Int) × List (List UInt8 × List UInt8 × Int) × Int × Int) → Option (List (List UInt8 × List UInt8 × Int)) := fun (x1, x5, x8, x9, x10) =>
  bif decide (x10 < x9) then
  bif inB x10 x8.length then
  let y1 := (rdA ([], [], 0) x8 x10).1
  let y2 := ((rdA ([], [], 0) x8 x10).2).1
  let y3 := ((rdA ([], [], 0) x8 x10).2).2
  (bif !(y1 == x1) then
  bif decide ((x5.length + [(y1, y2, y3)].length) * 40 ≤ 140737488355328) then
  let l4 := x5 ++ [(y1, y2, y3)]
  some (x1, l4, x8, x9, x10)
  else none
  else
  some (x1, x5, x8, x9, x10) : Option (List UInt8 × List (List UInt8 × List UInt8 × Int) × List (List UInt8 × List UInt8 × Int) × Int × Int)).bind (fun (x1, x5, x8, x9, x10) =>
  rec (x1, x5, x8, x9, w64 (x10 + 1)))
  else none
  else
  some x5
noncomputable def impl_without.f (p0 : List (List UInt8 × List UInt8 × Int)) (p1 : List UInt8) : Option (List (List UInt8 × List UInt8 × Int)) :=
  (lp impl_without.l0 (p1, [], p0, (p0.length : Int), 0)).bind (fun x5 =>
  some x5)

noncomputable def impl_Fold.l2 (rec : (Int × List (List UInt8 × List UInt8 × Int) × (List UInt8 × Bool × List UInt8) × Int × List (List UInt8 × Bool × List UInt8) × Int × Int) → Option (Int × List (List UInt8 × List UInt8 × Int) × (List UInt8 × Bool × List UInt8) × Int × List (List UInt8 × Bool × List UInt8) × Int × Int)) : (Int × List (List UInt8 × List UInt8 × Int) × (List UInt8 × Bool × List UInt8) × Int × List (List UInt8 × Bool × List UInt8) × Int × Int) → Option (Int × List (List UInt8 × List UInt8 × Int) × (List UInt8 × Bool × List UInt8) × Int × List (List UInt8 × Bool × List UInt8) × Int × Int) := fun (x2, x7, x9, x10, x13, x14, x15) =>
  bif decide (x10 < (x7.length : Int)) then
  bif inB x10 x7.length then
  bif (Op.bytesLess ((rdA ([], [], 0) x7 x10).1) x9.1 || ((rdA ([], [], 0) x7 x10).1) == x9.1) then
  rec (x2, x7, x9, w64 (x10 + 1), x13, x14, x15)
  else
  some (x2, x7, x9, x10, x13, x14, x15)
  else none
  else
  some (x2, x7, x9, x10, x13, x14, x15)
noncomputable def impl_Fold.l0 (rec : (Int × List (List UInt8 × List UInt8 × Int) × List (List UInt8 × Bool × List UInt8) × Int × Int) → Option (List (List UInt8 × List UInt8 × Int))) : (Int × List (List UInt8 × List UInt8 × Int) × List (List UInt8 × Bool × List UInt8) × Int × Int) → Option (List (List UInt8 × List UInt8 × Int)) := fun (x2, x7, x13, x14, x15) =>
  bif decide (x15 < x14) then
  (bif inB x15 x13.length then
  let y2 := (rdA ([], false, []) x13 x15).1
  let y3 := ((rdA ([], false, []) x13 x15).2).1
  let y4 := ((rdA ([], false, []) x13 x15).2).2
  (impl_without.f x7 y2).bind fun t5 =>
  bif y3 then
  some (x2, t5, x13, x14, x15)
  else
  (lp impl_Fold.l2 (x2, t5, (y2, y3, y4), 0, x13, x14, x15)).bind (fun (x2, x7, x9, x10, x13, x14, x15) =>
  bif (decide (0 ≤ x10) && decide (x10 ≤ (x7.length : Int))) then
  (impl_copyPairs.f (x7.take x10.toNat)).bind fun t6 =>
  bif decide ((t6.length + [(x9.1, x9.2.2, x2)].length) * 40 ≤ 140737488355328) then
  let l7 := t6 ++ [(x9.1, x9.2.2, x2)]
  bif (decide (0 ≤ x10) && decide (x10 ≤ (x7.length : Int))) then
  bif decide ((l7.length + (x7.drop x10.toNat).length) * 40 ≤ 140737488355328) then
  let l8 := l7 ++ (x7.drop x10.toNat)
  some (x2, l8, x13, x14, x15)
  else none
  else none
  else none
  else none)
  else none : Option (Int × List (List UInt8 × List UInt8 × Int) × List (List UInt8 × Bool × List UInt8) × Int × Int)).bind (fun (x2, x7, x13, x14, x15) =>
  rec (x2, x7, x13, x14, w64 (x15 + 1)))
  else
  some x7
noncomputable def impl_Fold.f (p0 : List (List UInt8 × List UInt8 × Int)) (p1 : List (List UInt8 × Bool × List UInt8)) (p2 : Int) : Option (List (List UInt8 × List UInt8 × Int)) :=
  (impl_copyPairs.f p0).bind fun t1 =>
  (lp impl_Fold.l0 (p2, t1, p1, (p1.length : Int), 0)).bind (fun x7 =>
  some x7)

noncomputable def laws_at.f (p0 : List Int) (p1 : Int) : Option (Int) :=
  bif decide (p1 < (p0.length : Int)) then
  bif inB p1 p0.length then
  let y1 := w64 (rdA 0 p0 p1)
  some y1
  else none
  else
  let y2 := Int.tmod (w64 ((w64 (p1 * 37)) + (w64 ((p0.length : Int) * 11)))) 256
  some y2

noncomputable def impl_FoldAcks.l0 (rec : (List (List UInt8 × List UInt8 × Int) × List (Int × List (List UInt8 × Bool × List UInt8)) × Int × Int) → Option (List (List UInt8 × List UInt8 × Int))) : (List (List UInt8 × List UInt8 × Int) × List (Int × List (List UInt8 × Bool × List UInt8)) × Int × Int) → Option (List (List UInt8 × List UInt8 × Int)) := fun (x5, x10, x11, x12) =>
  bif decide (x12 < x11) then
  bif inB x12 x10.length then
  let y2 := (rdA (0, []) x10 x12).1
  (impl_Fold.f x5 ((rdA (0, []) x10 x12).2) y2).bind fun t3 =>
  rec (t3, x10, x11, w64 (x12 + 1))
  else none
  else
  some x5
noncomputable def impl_FoldAcks.f (p0 : List (List UInt8 × List UInt8 × Int)) (p1 : List (Int × List (List UInt8 × Bool × List UInt8))) : Option (List (List UInt8 × List UInt8 × Int)) :=
  (impl_copyPairs.f p0).bind fun t1 =>
  (lp impl_FoldAcks.l0 (t1, p1, (p1.length : Int), 0)).bind (fun x5 =>
  some x5)

noncomputable def laws_FnFolds.l2 (rec : (List (List UInt8 × List UInt8 × Int) × List (List UInt8 × Bool × List UInt8) × Int × List (List UInt8 × List UInt8 × Int) × Int × Bool × Int) → Option (List (List UInt8 × List UInt8 × Int) × List (List UInt8 × Bool × List UInt8) × Int × List (List UInt8 × List UInt8 × Int) × Int × Bool)) : (List (List UInt8 × List UInt8 × Int) × List (List UInt8 × Bool × List UInt8) × Int × List (List UInt8 × List UInt8 × Int) × Int × Bool × Int) → Option (List (List UInt8 × List UInt8 × Int) × List (List UInt8 × Bool × List UInt8) × Int × List (List UInt8 × List UInt8 × Int) × Int × Bool) := fun (x3, x4, x5, x6, x8, x9, x10) =>
  bif decide (x10 < (x4.length : Int)) then
  (bif x9 then
  bif inB x10 x4.length then
  bif inB x8 x4.length then
  let y9 := !(((rdA ([], false, []) x4 x10).1) == ((rdA ([], false, []) x4 x8).1))
  some (x3, x4, x5, x6, x8, y9, x10)
  else none
  else none
  else
  some (x3, x4, x5, x6, x8, false, x10) : Option (List (List UInt8 × List UInt8 × Int) × List (List UInt8 × Bool × List UInt8) × Int × List (List UInt8 × List UInt8 × Int) × Int × Bool × Int)).bind (fun (x3, x4, x5, x6, x8, x9, x10) =>
  rec (x3, x4, x5, x6, x8, x9, w64 (x10 + 1)))
  else
  some (x3, x4, x5, x6, x8, x9)
noncomputable def laws_FnFolds.l4 (rec : (List (List UInt8 × List UInt8 × Int) × List (List UInt8 × Bool × List UInt8) × Int × List (List UInt8 × List UInt8 × Int) × Int × Bool × Bool × Int) → Option (List (List UInt8 × List UInt8 × Int) × List (List UInt8 × Bool × List UInt8) × Int × List (List UInt8 × List UInt8 × Int) × Int × Bool × Bool)) : (List (List UInt8 × List UInt8 × Int) × List (List UInt8 × Bool × List UInt8) × Int × List (List UInt8 × List UInt8 × Int) × Int × Bool × Bool × Int) → Option (List (List UInt8 × List UInt8 × Int) × List (List UInt8 × Bool × List UInt8) × Int × List (List UInt8 × List UInt8 × Int) × Int × Bool × Bool) := fun (x3, x4, x5, x6, x8, x9, x11, x12) =>
  bif decide (x12 < (x6.length : Int)) then
  (bif x11 then
  some (x3, x4, x5, x6, x8, x9, true, x12)
  else
  bif inB x12 x6.length then
  bif inB x8 x4.length then
  bif ((rdA ([], [], 0) x6 x12).1) == ((rdA ([], false, []) x4 x8).1) then
  bif inB x8 x4.length then
  bif ((rdA ([], false, []) x4 x8).2).1 then
  some (x3, x4, x5, x6, x8, x9, true, x12)
  else
  bif inB x12 x6.length then
  bif inB x8 x4.length then
  bif (((rdA ([], [], 0) x6 x12).2).1) == (((rdA ([], false, []) x4 x8).2).2) then
  bif inB x12 x6.length then
  let y10 := (((rdA ([], [], 0) x6 x12).2).2) == x5
  some (x3, x4, x5, x6, x8, x9, y10, x12)
  else none
  else
  some (x3, x4, x5, x6, x8, x9, false, x12)
  else none
  else none
  else none
  else
  some (x3, x4, x5, x6, x8, x9, false, x12)
  else none
  else none : Option (List (List UInt8 × List UInt8 × Int) × List (List UInt8 × Bool × List UInt8) × Int × List (List UInt8 × List UInt8 × Int) × Int × Bool × Bool × Int)).bind (fun (x3, x4, x5, x6, x8, x9, x11, x12) =>
  rec (x3, x4, x5, x6, x8, x9, x11, w64 (x12 + 1)))
  else
  some (x3, x4, x5, x6, x8, x9, x11)
noncomputable def laws_FnFolds.l0 (rec : (List (List UInt8 × List UInt8 × Int) × List (List UInt8 × Bool × List UInt8) × Int × List (List UInt8 × List UInt8 × Int) × Int) → Option ((List (List UInt8 × List UInt8 × Int) × List (List UInt8 × Bool × List UInt8) × Int × List (List UInt8 × List UInt8 × Int)) ⊕ (Bool))) : (List (List UInt8 × List UInt8 × Int) × List (List UInt8 × Bool × List UInt8) × Int × List (List UInt8 × List UInt8 × Int) × Int) → Option ((List (List UInt8 × List UInt8 × Int) × List (List UInt8 × Bool × List UInt8) × Int × List (List UInt8 × List UInt8 × Int)) ⊕ (Bool)) := fun (x3, x4, x5, x6, x8) =>
  bif decide (x8 < (x4.length : Int)) then
  (lp laws_FnFolds.l2 (x3, x4, x5, x6, x8, true, w64 (x8 + 1))).bind (fun (x3, x4, x5, x6, x8, x9) =>
  (lp laws_FnFolds.l4 (x3, x4, x5, x6, x8, x9, false, 0)).bind (fun (x3, x4, x5, x6, x8, x9, x11) =>
  (bif x9 then
  bif inB x8 x4.length then
  bif x11 == (((rdA ([], false, []) x4 x8).2).1) then
  some (Sum.inr false)
  else
  some (Sum.inl (x3, x4, x5, x6, x8))
  else none
  else
  some (Sum.inl (x3, x4, x5, x6, x8)) : Option ((List (List UInt8 × List UInt8 × Int) × List (List UInt8 × Bool × List UInt8) × Int × List (List UInt8 × List UInt8 × Int) × Int) ⊕ (Bool))).bind (fun o11 => caseS o11 (fun (x3, x4, x5, x6, x8) =>
  rec (x3, x4, x5, x6, w64 (x8 + 1))) (fun x2 =>
  some (Sum.inr x2)))))
  else
  some (Sum.inl (x3, x4, x5, x6))
noncomputable def laws_FnFolds.l6 (rec : (List (List UInt8 × List UInt8 × Int) × List (List UInt8 × Bool × List UInt8) × Int × List (List UInt8 × List UInt8 × Int) × Int) → Option ((List (List UInt8 × List UInt8 × Int) × List (List UInt8 × Bool × List UInt8) × Int × List (List UInt8 × List UInt8 × Int)) ⊕ (Bool))) : (List (List UInt8 × List UInt8 × Int) × List (List UInt8 × Bool × List UInt8) × Int × List (List UInt8 × List UInt8 × Int) × Int) → Option ((List (List UInt8 × List UInt8 × Int) × List (List UInt8 × Bool × List UInt8) × Int × List (List UInt8 × List UInt8 × Int)) ⊕ (Bool)) := fun (x3, x4, x5, x6, x13) =>
  bif decide (x13 < (x6.length : Int)) then
  bif inB x13 x6.length then
  bif inB (w64 (x13 - 1)) x6.length then
  bif (Op.bytesLess ((rdA ([], [], 0) x6 x13).1) ((rdA ([], [], 0) x6 (w64 (x13 - 1))).1) || ((rdA ([], [], 0) x6 x13).1) == ((rdA ([], [], 0) x6 (w64 (x13 - 1))).1)) then
  some (Sum.inr false)
  else
  rec (x3, x4, x5, x6, w64 (x13 + 1))
  else none
  else none
  else
  some (Sum.inl (x3, x4, x5, x6))
noncomputable def laws_FnFolds.f (p0 : List Int) : Option (Bool) :=
  (laws_big.f p0).bind fun t1 =>
  bif t1 then
  some true
  else
  (spec_DrawFold.f p0).bind fun (t2_0, t2_1, t2_2) =>
  (impl_Fold.f t2_0 t2_1 t2_2).bind fun t3 =>
  (bif decide ((t2_1.length : Int) > 0) then
  (laws_at.f p0 0).bind fun t4 =>
  bif (w64 ((t2_1.length : Int) + 1)) != 0 then
  let y5 := Int.tmod t4 (w64 ((t2_1.length : Int) + 1))
  some (t2_0, t2_1, t2_2, t3, y5)
  else none
  else
  some (t2_0, t2_1, t2_2, t3, 0) : Option (List (List UInt8 × List UInt8 × Int) × List (List UInt8 × Bool × List UInt8) × Int × List (List UInt8 × List UInt8 × Int) × Int)).bind (fun (x3, x4, x5, x6, x7) =>
  bif (decide (0 ≤ x7) && decide (x7 ≤ (x4.length : Int))) then
  (impl_Fold.f x3 (x4.take x7.toNat) x5).bind fun t6 =>
  bif (decide (0 ≤ x7) && decide (x7 ≤ (x4.length : Int))) then
  (impl_Fold.f t6 (x4.drop x7.toNat) x5).bind fun t7 =>
  (spec_SamePairs.f t7 x6).bind fun t8 =>
  bif !t8 then
  some false
  else
  (lp laws_FnFolds.l0 (x3, x4, x5, x6, 0)).bind (fun o12 => caseS o12 (fun (x3, x4, x5, x6) =>
  (lp laws_FnFolds.l6 (x3, x4, x5, x6, 1)).bind (fun o13 => caseS o13 (fun (x3, x4, x5, x6) =>
  (impl_FoldAcks.f x3 [(x5, x4)]).bind fun t14 =>
  (spec_SamePairs.f t14 x6).bind fun t15 =>
  some t15) (fun x2 =>
  some x2))) (fun x2 =>
  some x2))
  else none
  else none)


end Go.Rf.G
