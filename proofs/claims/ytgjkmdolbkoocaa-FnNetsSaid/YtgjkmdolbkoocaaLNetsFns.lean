/- The plain functions that the program's functions come to. Printed by gen.py; each is held against the program in the text Ev. -/
import Derived.Test.YtgjkmdolbkoocaaRf1
namespace Go.Rf.G
open Go Go.Rf
set_option linter.unusedVariables false

noncomputable def spec_SamePairs.l0 (rec : (List (List UInt8 × List UInt8 × Int) × List (List UInt8 × List UInt8 × Int) × Int) → Option ((Unit) ⊕ (Bool))) : (List (List UInt8 × List UInt8 × Int) × List (List UInt8 × List UInt8 × Int) × Int) → Option ((Unit) ⊕ (Bool)) := fun (x0, x1, x5) =>
  bif decide (x5 < (x0.length : Int)) then
  bif inB x5 x0.length then
  bif inB x5 x1.length then
  bif !(((rdA ([], [], 0) x0 x5).1) == ((rdA ([], [], 0) x1 x5).1) && ((((rdA ([], [], 0) x0 x5).2).1) == (((rdA ([], [], 0) x1 x5).2).1) && ((((rdA ([], [], 0) x0 x5).2).2) == (((rdA ([], [], 0) x1 x5).2).2)))) then
  some (Sum.inr false)
  else
  rec (x0, x1, w64 (x5 + 1))
  else none
  else none
  else
  some (Sum.inl ())
noncomputable def spec_SamePairs.f (p0 : List (List UInt8 × List UInt8 × Int)) (p1 : List (List UInt8 × List UInt8 × Int)) : Option (Bool) :=
  bif (p0.length : Int) != (p1.length : Int) then
  some false
  else
  (lp spec_SamePairs.l0 (p0, p1, 0)).bind (fun o1 => caseS o1 (fun _ =>
  some true) (fun x4 =>
  some x4))

noncomputable def spec_l1In.f (p0 : Int) (p1 : Int) (p2 : Int) : Option (Bool) :=
  bif decide (p0 ≥ p1) then
  let y1 := decide (p0 ≤ p2)
  some y1
  else
  some false

noncomputable def spec_KeyOk.f (p0 : List UInt8) : Option (Bool) :=
  (spec_l1In.f (p0.length : Int) 1 8).bind fun t1 =>
  some t1

noncomputable def spec_PutsOk.l0 (rec : (List (List UInt8 × Bool × List UInt8) × Int) → Option ((Unit) ⊕ (Bool))) : (List (List UInt8 × Bool × List UInt8) × Int) → Option ((Unit) ⊕ (Bool)) := fun (x0, x3) =>
  bif decide (x3 < (x0.length : Int)) then
  (bif inB x3 x0.length then
  (spec_KeyOk.f ((rdA ([], false, []) x0 x3).1)).bind fun t1 =>
  bif !t1 then
  some (Sum.inr false)
  else
  bif inB x3 x0.length then
  bif decide (((((rdA ([], false, []) x0 x3).2).2).length : Int) > 24) then
  some (Sum.inr false)
  else
  bif inB x3 x0.length then
  bif ((rdA ([], false, []) x0 x3).2).1 then
  bif inB x3 x0.length then
  bif !((((rdA ([], false, []) x0 x3).2).2) == []) then
  some (Sum.inr false)
  else
  some (Sum.inl (x0, x3))
  else none
  else
  some (Sum.inl (x0, x3))
  else none
  else none
  else none : Option ((List (List UInt8 × Bool × List UInt8) × Int) ⊕ (Bool))).bind (fun o2 => caseS o2 (fun (x0, x3) =>
  rec (x0, w64 (x3 + 1))) (fun x2 =>
  some (Sum.inr x2)))
  else
  some (Sum.inl ())
noncomputable def spec_PutsOk.f (p0 : List (List UInt8 × Bool × List UInt8)) : Option (Bool) :=
  bif decide ((p0.length : Int) > 8) then
  some false
  else
  (lp spec_PutsOk.l0 (p0, 0)).bind (fun o3 => caseS o3 (fun _ =>
  some true) (fun x2 =>
  some x2))

noncomputable def impl_in.f (p0 : Int) (p1 : Int) (p2 : Int) : Option (Bool) :=
  bif decide (p0 ≥ p1) then
  let y1 := decide (p0 ≤ p2)
  some y1
  else
  some false

noncomputable def impl_KeyOk.f (p0 : List UInt8) : Option (Bool) :=
  (impl_in.f (p0.length : Int) 1 8).bind fun t1 =>
  some t1

noncomputable def laws_big.f (p0 : List Int) : Option (Bool) :=
  let y1 := decide ((p0.length : Int) > 1048576)
  some y1

noncomputable def spec_l1New.l0 (rec : (List Int × Int × Int) → Option (List Int × Int)) : (List Int × Int × Int) → Option (List Int × Int) := fun (x0, x3, x4) =>
  bif decide (x4 < (x0.length : Int)) then
  bif decide (x4 < 4000) then
  bif inB x4 x0.length then
  let y2 := bits (fun _ a b => a &&& b) .i64 (w64 ((w64 ((w64 (x3 * 131)) + (w64 (rdA 0 x0 x4)))) + 7)) 1073741823
  rec (x0, y2, w64 (x4 + 1))
  else none
  else
  some (x0, x3)
  else
  some (x0, x3)
noncomputable def spec_l1New.f (p0 : List Int) : Option (List Int × Int × Int) :=
  let y1 := w64 (10101 + (p0.length : Int))
  (lp spec_l1New.l0 (p0, y1, 0)).bind (fun (x0, x3) =>
  some (x0, 0, x3))

noncomputable def spec_l1Byte.f (p0 : List Int × Int × Int) : Option (Int × List Int × Int × Int) :=
  let y1 := w64 ((w64 (p0.2.2 * 6364136223846793005)) + 1442695040888963407)
  let y2 := bits (fun _ a b => a &&& b) .i64 (bits (fun _ a b => a ^^^ b) .i64 (Int.fdiv y1 (2 ^ (min 33 64))) (Int.fdiv y1 (2 ^ (min 45 64)))) 255
  bif decide (p0.2.1 < (p0.1.length : Int)) then
  bif inB p0.2.1 p0.1.length then
  let y3 := bits (fun _ a b => a &&& b) .i64 (w64 (y2 + (w64 (rdA 0 p0.1 p0.2.1)))) 255
  let y4 := w64 (p0.2.1 + 1)
  some (y3, (p0.1, y4, y1))
  else none
  else
  some (y2, (p0.1, p0.2.1, y1))

noncomputable def spec_l1Below.f (p0 : List Int × Int × Int) (p1 : Int) : Option (Int × List Int × Int × Int) :=
  bif decide (p1 ≤ 0) then
  some (0, p0)
  else
  bif decide (p1 ≤ 256) then
  (spec_l1Byte.f p0).bind fun (t1_0, t1_1) =>
  bif p1 != 0 then
  let y2 := Int.tmod t1_0 p1
  some (y2, t1_1)
  else none
  else
  (spec_l1Byte.f p0).bind fun (t3_0, t3_1) =>
  (spec_l1Byte.f t3_1).bind fun (t4_0, t4_1) =>
  (spec_l1Byte.f t4_1).bind fun (t5_0, t5_1) =>
  (spec_l1Byte.f t5_1).bind fun (t6_0, t6_1) =>
  bif p1 != 0 then
  let y7 := Int.tmod (w64 ((w64 ((w64 ((w64 (t3_0 * 16777216)) + (w64 (t4_0 * 65536)))) + (w64 (t5_0 * 256)))) + t6_0)) p1
  some (y7, t6_1)
  else none

noncomputable def spec_l1Pick.f (p0 : List Int × Int × Int) (p1 : List (List UInt8)) : Option (List UInt8 × List Int × Int × Int) :=
  (spec_l1Below.f p0 (p1.length : Int)).bind fun (t1_0, t1_1) =>
  bif inB t1_0 p1.length then
  let y2 := rdA [] p1 t1_0
  some (y2, t1_1)
  else none

noncomputable def spec_l5Key.f (p0 : List Int × Int × Int) : Option (List UInt8 × List Int × Int × Int) :=
  (spec_l1Pick.f p0 [[97], [98], [99], [107, 101, 121], [108, 111, 110, 103, 110, 97, 109, 101]]).bind fun (t1_0, t1_1) =>
  some (t1_0, t1_1)

noncomputable def spec_l13Set.l0 (rec : (List (List UInt8 × List UInt8 × Int) × (List UInt8 × List UInt8 × Int) × List (List UInt8 × List UInt8 × Int) × Bool × Int) → Option ((List UInt8 × List UInt8 × Int) × List (List UInt8 × List UInt8 × Int) × Bool)) : (List (List UInt8 × List UInt8 × Int) × (List UInt8 × List UInt8 × Int) × List (List UInt8 × List UInt8 × Int) × Bool × Int) → Option ((List UInt8 × List UInt8 × Int) × List (List UInt8 × List UInt8 × Int) × Bool) := fun (x0, x4, x7, x8, x9) =>
  bif decide (x9 < (x0.length : Int)) then
  (bif inB x9 x0.length then
  bif ((rdA ([], [], 0) x0 x9).1) == x4.1 then
  some (x0, x4, x7, x8, x9)
  else
  (bif !x8 then
  bif inB x9 x0.length then
  bif !(Op.bytesLess ((rdA ([], [], 0) x0 x9).1) x4.1 || ((rdA ([], [], 0) x0 x9).1) == x4.1) then
  bif decide ((x7.length + [x4].length) * 40 ≤ 140737488355328) then
  some (x0, x4, x7 ++ [x4], true, x9)
  else none
  else
  some (x0, x4, x7, x8, x9)
  else none
  else
  some (x0, x4, x7, x8, x9) : Option (List (List UInt8 × List UInt8 × Int) × (List UInt8 × List UInt8 × Int) × List (List UInt8 × List UInt8 × Int) × Bool × Int)).bind (fun (x0, x4, x7, x8, x9) =>
  bif inB x9 x0.length then
  bif decide ((x7.length + ([((rdA ([], [], 0) x0 x9).1, ((rdA ([], [], 0) x0 x9).2))] : List (List UInt8 × List UInt8 × Int)).length) * 40 ≤ 140737488355328) then
  let l1 := x7 ++ ([((rdA ([], [], 0) x0 x9).1, ((rdA ([], [], 0) x0 x9).2))] : List (List UInt8 × List UInt8 × Int))
  some (x0, x4, l1, x8, x9)
  else none
  else none)
  else none : Option (List (List UInt8 × List UInt8 × Int) × (List UInt8 × List UInt8 × Int) × List (List UInt8 × List UInt8 × Int) × Bool × Int)).bind (fun (x0, x4, x7, x8, x9) =>
  rec (x0, x4, x7, x8, w64 (x9 + 1)))
  else
  some (x4, x7, x8)
noncomputable def spec_l13Set.f (p0 : List (List UInt8 × List UInt8 × Int)) (p1 : List UInt8 × List UInt8 × Int) (p2 : Bool) : Option (List (List UInt8 × List UInt8 × Int)) :=
  (lp spec_l13Set.l0 (p0, p1, ([] : List (List UInt8 × List UInt8 × Int)), p2, 0)).bind (fun (x4, x7, x8) =>
  bif !x8 then
  bif decide ((x7.length + [x4].length) * 40 ≤ 140737488355328) then
  some (x7 ++ [x4])
  else none
  else
  some x7)

noncomputable def spec_l1Text.l0 (rec : ((List Int × Int × Int) × List Int × Int × Int) → Option ((List Int × Int × Int) × List Int)) : ((List Int × Int × Int) × List Int × Int × Int) → Option ((List Int × Int × Int) × List Int) := fun (x0, x5, x6, x7) =>
  bif decide (x7 > 0) then
  (spec_l1Byte.f x0).bind fun (t3_0, t3_1) =>
  (bif x6 == 1 then
  let y4 := Int.tmod t3_0 2
  some (t3_1, x5, x6, x7, y4)
  else
  some (t3_1, x5, x6, x7, t3_0) : Option ((List Int × Int × Int) × List Int × Int × Int × Int)).bind (fun (x0, x5, x6, x7, x8) =>
  (bif x6 == 2 then
  let y5 := w64 (97 + (Int.tmod x8 4))
  some (x0, x5, x6, x7, y5)
  else
  some (x0, x5, x6, x7, x8) : Option ((List Int × Int × Int) × List Int × Int × Int × Int)).bind (fun (x0, x5, x6, x7, x8) =>
  bif decide ((x5.length + [IntKind.wrap .u8 (x8)].length) * 1 ≤ 140737488355328) then
  let l6 := x5 ++ [IntKind.wrap .u8 (x8)]
  rec (x0, l6, x6, w64 (x7 - 1))
  else none))
  else
  some (x0, x5)
noncomputable def spec_l1Text.f (p0 : List Int × Int × Int) (p1 : Int) : Option (List UInt8 × List Int × Int × Int) :=
  (spec_l1Below.f p0 4).bind fun (t1_0, t1_1) =>
  (spec_l1Below.f t1_1 (w64 (p1 + 1))).bind fun (t2_0, t2_1) =>
  (lp spec_l1Text.l0 (t2_1, ([] : List Int), t1_0, t2_0)).bind (fun (x0, x5) =>
  some (strOf x5, x0))

noncomputable def spec_l1Once.f (p0 : List Int × Int × Int) (p1 : Int) : Option (Bool × List Int × Int × Int) :=
  (spec_l1Below.f p0 p1).bind fun (t1_0, t1_1) =>
  some (t1_0 == 0, t1_1)

noncomputable def spec_l12Puts.l0 (rec : ((List Int × Int × Int) × List (List UInt8 × Bool × List UInt8) × Int) → Option ((List Int × Int × Int) × List (List UInt8 × Bool × List UInt8))) : ((List Int × Int × Int) × List (List UInt8 × Bool × List UInt8) × Int) → Option ((List Int × Int × Int) × List (List UInt8 × Bool × List UInt8)) := fun (x0, x3, x4) =>
  bif decide (x4 > 0) then
  (spec_l5Key.f x0).bind fun (t2_0, t2_1) =>
  (spec_l1Text.f t2_1 16).bind fun (t3_0, t3_1) =>
  ((spec_l1Once.f t3_1 4).bind fun (t4_0, t4_1) =>
  bif t4_0 then
  some (t4_1, x3, x4, (t2_0, true, []))
  else
  some (t4_1, x3, x4, (t2_0, false, t3_0)) : Option ((List Int × Int × Int) × List (List UInt8 × Bool × List UInt8) × Int × List UInt8 × Bool × List UInt8)).bind (fun (x0, x3, x4, x5) =>
  bif decide ((x3.length + [x5].length) * 40 ≤ 140737488355328) then
  rec (x0, x3 ++ [x5], w64 (x4 - 1))
  else none)
  else
  some (x0, x3)
noncomputable def spec_l12Puts.f (p0 : List Int × Int × Int) : Option (List (List UInt8 × Bool × List UInt8) × List Int × Int × Int) :=
  (spec_l1Below.f p0 4).bind fun (t1_0, t1_1) =>
  (lp spec_l12Puts.l0 (t1_1, ([] : List (List UInt8 × Bool × List UInt8)), t1_0)).bind (fun (x0, x3) =>
  some (x3, x0))

noncomputable def impl_copyPairs.f (p0 : List (List UInt8 × List UInt8 × Int)) : Option (List (List UInt8 × List UInt8 × Int)) :=
  bif decide ((([] : List (List UInt8 × List UInt8 × Int)).length + p0.length) * 40 ≤ 140737488355328) then
  let l1 := ([] : List (List UInt8 × List UInt8 × Int)) ++ p0
  some l1
  else none

noncomputable def impl_without.l0 (rec : (List UInt8 × List (List UInt8 × List UInt8 × Int) × List (List UInt8 × List UInt8 × Int) × Int × Int) → Option (List (List UInt8 × List UInt8 × Int))) : (List UInt8 × List (List UInt8 × List UInt8 × Int) × List (List UInt8 × List UInt8 × Int) × Int × Int) → Option (List (List UInt8 × List UInt8 × Int)) := fun (x1, x5, x8, x9, x10) =>
  bif decide (x10 < x9) then
  bif inB x10 x8.length then
  let y1 := (rdA ([], [], 0) x8 x10).1
  let y2 := ((rdA ([], [], 0) x8 x10).2).1
  let y3 := ((rdA ([], [], 0) x8 x10).2).2
  (bif !(y1 == x1) then
  bif decide ((x5.length + [(y1, y2, y3)].length) * 40 ≤ 140737488355328) then
  let l4 := x5 ++ [(y1, y2, y3)]
  some (x1, l4, x8, x9, x10)
  else none
  else
  some (x1, x5, x8, x9, x10) : Option (List UInt8 × List (List UInt8 × List UInt8 × Int) × List (List UInt8 × List UInt8 × Int) × Int × Int)).bind (fun (x1, x5, x8, x9, x10) =>
  rec (x1, x5, x8, x9, w64 (x10 + 1)))
  else none
  else
  some x5
noncomputable def impl_without.f (p0 : List (List UInt8 × List UInt8 × Int)) (p1 : List UInt8) : Option (List (List UInt8 × List UInt8 × Int)) :=
  (lp impl_without.l0 (p1, [], p0, (p0.length : Int), 0)).bind (fun x5 =>
  some x5)

noncomputable def impl_Fold.l2 (rec : (Int × List (List UInt8 × List UInt8 × Int) × (List UInt8 × Bool × List UInt8) × Int × List (List UInt8 × Bool × List UInt8) × Int × Int) → Option (Int × List (List UInt8 × List UInt8 × Int) × (List UInt8 × Bool × List UInt8) × Int × List (List UInt8 × Bool × List UInt8) × Int × Int)) : (Int × List (List UInt8 × List UInt8 × Int) × (List UInt8 × Bool × List UInt8) × Int × List (List UInt8 × Bool × List UInt8) × Int × Int) → Option (Int × List (List UInt8 × List UInt8 × Int) × (List UInt8 × Bool × List UInt8) × Int × List (List UInt8 × Bool × List UInt8) × Int × Int) := fun (x2, x7, x9, x10, x13, x14, x15) =>
  bif decide (x10 < (x7.length : Int)) then
  bif inB x10 x7.length then
  bif (Op.bytesLess ((rdA ([], [], 0) x7 x10).1) x9.1 || ((rdA ([], [], 0) x7 x10).1) == x9.1) then
  rec (x2, x7, x9, w64 (x10 + 1), x13, x14, x15)
  else
  some (x2, x7, x9, x10, x13, x14, x15)
  else none
  else
  some (x2, x7, x9, x10, x13, x14, x15)
noncomputable def impl_Fold.l0 (rec : (Int × List (List UInt8 × List UInt8 × Int) × List (List UInt8 × Bool × List UInt8) × Int × Int) → Option (List (List UInt8 × List UInt8 × Int))) : (Int × List (List UInt8 × List UInt8 × Int) × List (List UInt8 × Bool × List UInt8) × Int × Int) → Option (List (List UInt8 × List UInt8 × Int)) := fun (x2, x7, x13, x14, x15) =>
  bif decide (x15 < x14) then
  (bif inB x15 x13.length then
  let y2 := (rdA ([], false, []) x13 x15).1
  let y3 := ((rdA ([], false, []) x13 x15).2).1
  let y4 := ((rdA ([], false, []) x13 x15).2).2
  (impl_without.f x7 y2).bind fun t5 =>
  bif y3 then
  some (x2, t5, x13, x14, x15)
  else
  (lp impl_Fold.l2 (x2, t5, (y2, y3, y4), 0, x13, x14, x15)).bind (fun (x2, x7, x9, x10, x13, x14, x15) =>
  bif (decide (0 ≤ x10) && decide (x10 ≤ (x7.length : Int))) then
  (impl_copyPairs.f (x7.take x10.toNat)).bind fun t6 =>
  bif decide ((t6.length + [(x9.1, x9.2.2, x2)].length) * 40 ≤ 140737488355328) then
  let l7 := t6 ++ [(x9.1, x9.2.2, x2)]
  bif (decide (0 ≤ x10) && decide (x10 ≤ (x7.length : Int))) then
  bif decide ((l7.length + (x7.drop x10.toNat).length) * 40 ≤ 140737488355328) then
  let l8 := l7 ++ (x7.drop x10.toNat)
  some (x2, l8, x13, x14, x15)
  else none
  else none
  else none
  else none)
  else none : Option (Int × List (List UInt8 × List UInt8 × Int) × List (List UInt8 × Bool × List UInt8) × Int × Int)).bind (fun (x2, x7, x13, x14, x15) =>
  rec (x2, x7, x13, x14, w64 (x15 + 1)))
  else
  some x7
noncomputable def impl_Fold.f (p0 : List (List UInt8 × List UInt8 × Int)) (p1 : List (List UInt8 × Bool × List UInt8)) (p2 : Int) : Option (List (List UInt8 × List UInt8 × Int)) :=
  (impl_copyPairs.f p0).bind fun t1 =>
  (lp impl_Fold.l0 (p2, t1, p1, (p1.length : Int), 0)).bind (fun x7 =>
  some x7)

noncomputable def spec_OwnWrite.l0 (rec : (List UInt8 × (Bool × List (List UInt8 × Int) × List (List UInt8 × Bool × List UInt8)) × (List UInt8 × Bool × List UInt8) × Int) → Option ((List UInt8 × Bool × List UInt8) ⊕ ((List UInt8 × Bool × List UInt8) × Bool))) : (List UInt8 × (Bool × List (List UInt8 × Int) × List (List UInt8 × Bool × List UInt8)) × (List UInt8 × Bool × List UInt8) × Int) → Option ((List UInt8 × Bool × List UInt8) ⊕ ((List UInt8 × Bool × List UInt8) × Bool)) := fun (x1, x2, x4, x6) =>
  bif decide (x6 ≥ 0) then
  bif inB x6 x2.2.2.length then
  bif ((rdA ([], false, []) x2.2.2 x6).1) == x1 then
  bif inB x6 x2.2.2.length then
  let y2 := (rdA ([], false, []) x2.2.2 x6).1
  let y3 := ((rdA ([], false, []) x2.2.2 x6).2).1
  let y4 := ((rdA ([], false, []) x2.2.2 x6).2).2
  some (Sum.inr ((y2, y3, y4), true))
  else none
  else
  rec (x1, x2, x4, w64 (x6 - 1))
  else none
  else
  some (Sum.inl x4)
noncomputable def spec_OwnWrite.f (p0 : Bool × List (List UInt8 × Int) × List (List UInt8 × Bool × List UInt8)) (p1 : List UInt8) : Option ((List UInt8 × Bool × List UInt8) × Bool) :=
  let y1 := w64 ((p0.2.2.length : Int) - 1)
  (lp spec_OwnWrite.l0 (p1, p0, ([], false, []), y1)).bind (fun o5 => caseS o5 (fun x4 =>
  some (([], false, []), false)) (fun (x4, x5) =>
  some (x4, x5)))

noncomputable def impl_OwnWrite.l0 (rec : (List UInt8 × (Bool × List (List UInt8 × Int) × List (List UInt8 × Bool × List UInt8)) × (List UInt8 × Bool × List UInt8) × Int) → Option ((List UInt8 × Bool × List UInt8) ⊕ ((List UInt8 × Bool × List UInt8) × Bool))) : (List UInt8 × (Bool × List (List UInt8 × Int) × List (List UInt8 × Bool × List UInt8)) × (List UInt8 × Bool × List UInt8) × Int) → Option ((List UInt8 × Bool × List UInt8) ⊕ ((List UInt8 × Bool × List UInt8) × Bool)) := fun (x1, x2, x4, x6) =>
  bif decide (x6 ≥ 0) then
  bif inB x6 x2.2.2.length then
  bif ((rdA ([], false, []) x2.2.2 x6).1) == x1 then
  bif inB x6 x2.2.2.length then
  let y2 := (rdA ([], false, []) x2.2.2 x6).1
  let y3 := ((rdA ([], false, []) x2.2.2 x6).2).1
  let y4 := ((rdA ([], false, []) x2.2.2 x6).2).2
  some (Sum.inr ((y2, y3, y4), true))
  else none
  else
  rec (x1, x2, x4, w64 (x6 - 1))
  else none
  else
  some (Sum.inl x4)
noncomputable def impl_OwnWrite.f (p0 : Bool × List (List UInt8 × Int) × List (List UInt8 × Bool × List UInt8)) (p1 : List UInt8) : Option ((List UInt8 × Bool × List UInt8) × Bool) :=
  let y1 := w64 ((p0.2.2.length : Int) - 1)
  (lp impl_OwnWrite.l0 (p1, p0, ([], false, []), y1)).bind (fun o5 => caseS o5 (fun x4 =>
  some (([], false, []), false)) (fun (x4, x5) =>
  some (x4, x5)))

noncomputable def spec_l15Copy.f (p0 : Bool × List (List UInt8 × Int) × List (List UInt8 × Bool × List UInt8)) : Option (Bool × List (List UInt8 × Int) × List (List UInt8 × Bool × List UInt8)) :=
  bif decide ((([] : List (List UInt8 × Int)).length + p0.2.1.length) * 24 ≤ 140737488355328) then
  let l1 := ([] : List (List UInt8 × Int)) ++ p0.2.1
  bif decide ((([] : List (List UInt8 × Bool × List UInt8)).length + p0.2.2.length) * 40 ≤ 140737488355328) then
  let l2 := ([] : List (List UInt8 × Bool × List UInt8)) ++ p0.2.2
  some (p0.1, l1, l2)
  else none
  else none

noncomputable def spec_TxnRead.l0 (rec : (List UInt8 × Int × (Bool × List (List UInt8 × Int) × List (List UInt8 × Bool × List UInt8)) × (Bool × List (List UInt8 × Int) × List (List UInt8 × Bool × List UInt8)) × (Bool × List (List UInt8 × Int) × List (List UInt8 × Bool × List UInt8)) × Int) → Option ((List UInt8 × Int × (Bool × List (List UInt8 × Int) × List (List UInt8 × Bool × List UInt8)) × (Bool × List (List UInt8 × Int) × List (List UInt8 × Bool × List UInt8)) × Bool × List (List UInt8 × Int) × List (List UInt8 × Bool × List UInt8)) ⊕ ((Bool × List (List UInt8 × Int) × List (List UInt8 × Bool × List UInt8)) × Int))) : (List UInt8 × Int × (Bool × List (List UInt8 × Int) × List (List UInt8 × Bool × List UInt8)) × (Bool × List (List UInt8 × Int) × List (List UInt8 × Bool × List UInt8)) × (Bool × List (List UInt8 × Int) × List (List UInt8 × Bool × List UInt8)) × Int) → Option ((List UInt8 × Int × (Bool × List (List UInt8 × Int) × List (List UInt8 × Bool × List UInt8)) × (Bool × List (List UInt8 × Int) × List (List UInt8 × Bool × List UInt8)) × Bool × List (List UInt8 × Int) × List (List UInt8 × Bool × List UInt8)) ⊕ ((Bool × List (List UInt8 × Int) × List (List UInt8 × Bool × List UInt8)) × Int)) := fun (x1, x2, x3, x6, x8, x9) =>
  bif decide (x9 < (x3.2.1.length : Int)) then
  bif inB x9 x3.2.1.length then
  bif ((rdA ([], 0) x3.2.1 x9).1) == x1 then
  bif inB x9 x3.2.1.length then
  bif ((rdA ([], 0) x3.2.1 x9).2) != x2 then
  some (Sum.inr (x8, 7))
  else
  some (Sum.inr (x8, 0))
  else none
  else
  rec (x1, x2, x3, x6, x8, w64 (x9 + 1))
  else none
  else
  some (Sum.inl (x1, x2, x3, x6, x8))
noncomputable def spec_TxnRead.f (p0 : Bool × List (List UInt8 × Int) × List (List UInt8 × Bool × List UInt8)) (p1 : List UInt8) (p2 : Int) : Option ((Bool × List (List UInt8 × Int) × List (List UInt8 × Bool × List UInt8)) × Int) :=
  (spec_l15Copy.f p0).bind fun t1 =>
  bif !p0.1 then
  some (t1, 4)
  else
  (spec_KeyOk.f p1).bind fun t2 =>
  bif !t2 then
  some (t1, 4)
  else
  (lp spec_TxnRead.l0 (p1, p2, p0, (false, [], []), t1, 0)).bind (fun o3 => caseS o3 (fun (x1, x2, x3, x6, x8) =>
  bif decide ((x3.2.1.length : Int) ≥ 20) then
  some (x8, 5)
  else
  bif decide ((x8.2.1.length + [(x1, x2)].length) * 24 ≤ 140737488355328) then
  let l4 := x8.2.1 ++ [(x1, x2)]
  some ((x8.1, l4, x8.2.2), 0)
  else none) (fun (x6, x7) =>
  some (x6, x7)))

noncomputable def spec_Dec.l0 (rec : (Int × List UInt8 × Bool) → Option (List UInt8 × Bool)) : (Int × List UInt8 × Bool) → Option (List UInt8 × Bool) := fun (x0, x3, x4) =>
  bif x0 != 0 then
  let y2 := Int.tmod x0 10
  (bif decide (y2 < 0) then
  some (x0, x3, x4, w64 (0 - y2))
  else
  some (x0, x3, x4, y2) : Option (Int × List UInt8 × Bool × Int)).bind (fun (x0, x3, x4, x5) =>
  bif decide ((strOf [IntKind.wrap .u8 (w64 (48 + x5))]).length + x3.length ≤ 9223372036854775807) then
  let y3 := (strOf [IntKind.wrap .u8 (w64 (48 + x5))]) ++ x3
  let y4 := w64 (Int.tdiv x0 10)
  rec (y4, y3, x4)
  else none)
  else
  some (x3, x4)
noncomputable def spec_Dec.f (p0 : Int) : Option (List UInt8) :=
  bif p0 == 0 then
  some [48]
  else
  let y1 := decide (p0 < 0)
  (lp spec_Dec.l0 (p0, [], y1)).bind (fun (x3, x4) =>
  bif x4 then
  bif decide (([45] : List UInt8).length + x3.length ≤ 9223372036854775807) then
  some ([45] ++ x3)
  else none
  else
  some x3)

noncomputable def spec_l12AnyPuts.l1 (rec : ((List Int × Int × Int) × List (List UInt8 × Bool × List UInt8)) → Option ((List Int × Int × Int) × List (List UInt8 × Bool × List UInt8))) : ((List Int × Int × Int) × List (List UInt8 × Bool × List UInt8)) → Option ((List Int × Int × Int) × List (List UInt8 × Bool × List UInt8)) := fun (x0, x3) =>
  (spec_l1Below.f x0 2).bind fun (t5_0, t5_1) =>
  bif decide ((x3.length : Int) < (w64 (8 + t5_0))) then
  (spec_Dec.f (x3.length : Int)).bind fun t6 =>
  bif decide (([107] : List UInt8).length + t6.length ≤ 9223372036854775807) then
  bif decide ((x3.length + ([([107] ++ t6, false, [])] : List (List UInt8 × Bool × List UInt8)).length) * 40 ≤ 140737488355328) then
  let l7 := x3 ++ ([([107] ++ t6, false, [])] : List (List UInt8 × Bool × List UInt8))
  rec (t5_1, l7)
  else none
  else none
  else
  some (t5_1, x3)
noncomputable def spec_l12AnyPuts.f (p0 : List Int × Int × Int) : Option (List (List UInt8 × Bool × List UInt8) × List Int × Int × Int) :=
  (spec_l12Puts.f p0).bind fun (t1_0, t1_1) =>
  (spec_l1Below.f t1_1 14).bind fun (t2_0, t2_1) =>
  bif t2_0 == 0 then
  (spec_l1Pick.f t2_1 ([[], [110, 105, 110, 101, 98, 121, 116, 101, 115]] : List (List UInt8))).bind fun (t3_0, t3_1) =>
  bif decide ((t1_0.length + ([(t3_0, false, [])] : List (List UInt8 × Bool × List UInt8)).length) * 40 ≤ 140737488355328) then
  let l4 := t1_0 ++ ([(t3_0, false, [])] : List (List UInt8 × Bool × List UInt8))
  some (l4, t3_1)
  else none
  else
  bif t2_0 == 1 then
  (lp spec_l12AnyPuts.l1 (t2_1, t1_0)).bind (fun (x0, x3) =>
  some (x3, x0))
  else
  bif t2_0 == 2 then
  bif decide ((t1_0.length + [([97], true, [120])].length) * 40 ≤ 140737488355328) then
  let l8 := t1_0 ++ [([97], true, [120])]
  some (l8, t2_1)
  else none
  else
  some (t1_0, t2_1)

noncomputable def spec_NetWrites.l2 (rec : ((Bool × List (List UInt8 × Int) × List (List UInt8 × Bool × List UInt8)) × List (List UInt8 × Bool × List UInt8) × Int × Bool × Int) → Option ((Bool × List (List UInt8 × Int) × List (List UInt8 × Bool × List UInt8)) × List (List UInt8 × Bool × List UInt8) × Int × Bool)) : ((Bool × List (List UInt8 × Int) × List (List UInt8 × Bool × List UInt8)) × List (List UInt8 × Bool × List UInt8) × Int × Bool × Int) → Option ((Bool × List (List UInt8 × Int) × List (List UInt8 × Bool × List UInt8)) × List (List UInt8 × Bool × List UInt8) × Int × Bool) := fun (x1, x3, x4, x5, x6) =>
  bif decide (x6 < x4) then
  (bif x5 then
  bif inB x6 x1.2.2.length then
  bif inB x4 x1.2.2.length then
  let y1 := !(((rdA ([], false, []) x1.2.2 x6).1) == ((rdA ([], false, []) x1.2.2 x4).1))
  some (x1, x3, x4, y1, x6)
  else none
  else none
  else
  some (x1, x3, x4, false, x6) : Option ((Bool × List (List UInt8 × Int) × List (List UInt8 × Bool × List UInt8)) × List (List UInt8 × Bool × List UInt8) × Int × Bool × Int)).bind (fun (x1, x3, x4, x5, x6) =>
  rec (x1, x3, x4, x5, w64 (x6 + 1)))
  else
  some (x1, x3, x4, x5)
noncomputable def spec_NetWrites.l0 (rec : ((Bool × List (List UInt8 × Int) × List (List UInt8 × Bool × List UInt8)) × List (List UInt8 × Bool × List UInt8) × Int) → Option (List (List UInt8 × Bool × List UInt8))) : ((Bool × List (List UInt8 × Int) × List (List UInt8 × Bool × List UInt8)) × List (List UInt8 × Bool × List UInt8) × Int) → Option (List (List UInt8 × Bool × List UInt8)) := fun (x1, x3, x4) =>
  bif decide (x4 < (x1.2.2.length : Int)) then
  (lp spec_NetWrites.l2 (x1, x3, x4, true, 0)).bind (fun (x1, x3, x4, x5) =>
  (bif x5 then
  bif inB x4 x1.2.2.length then
  (spec_OwnWrite.f x1 ((rdA ([], false, []) x1.2.2 x4).1)).bind fun (t2_0, t2_1) =>
  bif decide ((x3.length + [t2_0].length) * 40 ≤ 140737488355328) then
  some (x1, x3 ++ [t2_0], x4)
  else none
  else none
  else
  some (x1, x3, x4) : Option ((Bool × List (List UInt8 × Int) × List (List UInt8 × Bool × List UInt8)) × List (List UInt8 × Bool × List UInt8) × Int)).bind (fun (x1, x3, x4) =>
  rec (x1, x3, w64 (x4 + 1))))
  else
  some x3
noncomputable def spec_NetWrites.f (p0 : Bool × List (List UInt8 × Int) × List (List UInt8 × Bool × List UInt8)) : Option (List (List UInt8 × Bool × List UInt8)) :=
  (lp spec_NetWrites.l0 (p0, ([] : List (List UInt8 × Bool × List UInt8)), 0)).bind (fun x3 =>
  some x3)

noncomputable def spec_TxnWrite.f (p0 : Bool × List (List UInt8 × Int) × List (List UInt8 × Bool × List UInt8)) (p1 : List UInt8 × Bool × List UInt8) : Option ((Bool × List (List UInt8 × Int) × List (List UInt8 × Bool × List UInt8)) × Bool) :=
  (spec_l15Copy.f p0).bind fun t1 =>
  bif !p0.1 then
  some (t1, false)
  else
  (spec_PutsOk.f [p1]).bind fun t2 =>
  bif !t2 then
  some (t1, false)
  else
  bif decide ((t1.2.2.length + [p1].length) * 40 ≤ 140737488355328) then
  let l3 := t1.2.2 ++ [p1]
  (spec_NetWrites.f (t1.1, t1.2.1, l3)).bind fun t4 =>
  bif decide ((t4.length : Int) > 8) then
  (spec_l15Copy.f p0).bind fun t5 =>
  some (t5, false)
  else
  bif decide ((l3.length : Int) > 50) then
  (spec_l15Copy.f p0).bind fun t6 =>
  some (t6, false)
  else
  some ((t1.1, t1.2.1, l3), true)
  else none

noncomputable def spec_l15Txn.l0 (rec : ((List Int × Int × Int) × (Bool × List (List UInt8 × Int) × List (List UInt8 × Bool × List UInt8)) × (Bool × List (List UInt8 × Int) × List (List UInt8 × Bool × List UInt8)) × Int) → Option ((List Int × Int × Int) × (Bool × List (List UInt8 × Int) × List (List UInt8 × Bool × List UInt8)) × Bool × List (List UInt8 × Int) × List (List UInt8 × Bool × List UInt8))) : ((List Int × Int × Int) × (Bool × List (List UInt8 × Int) × List (List UInt8 × Bool × List UInt8)) × (Bool × List (List UInt8 × Int) × List (List UInt8 × Bool × List UInt8)) × Int) → Option ((List Int × Int × Int) × (Bool × List (List UInt8 × Int) × List (List UInt8 × Bool × List UInt8)) × Bool × List (List UInt8 × Int) × List (List UInt8 × Bool × List UInt8)) := fun (x0, x2, x3, x4) =>
  bif decide (x4 > 0) then
  ((spec_l1Once.f x0 2).bind fun (t3_0, t3_1) =>
  bif t3_0 then
  (spec_l5Key.f t3_1).bind fun (t4_0, t4_1) =>
  (spec_l1Below.f t4_1 6).bind fun (t5_0, t5_1) =>
  (spec_TxnRead.f x3 t4_0 t5_0).bind fun (t6_0, t6_1) =>
  some (t5_1, x2, t6_0, x4)
  else
  (spec_l12AnyPuts.f t3_1).bind fun (t7_0, t7_1) =>
  bif decide ((t7_0.length + [([97], false, [118])].length) * 40 ≤ 140737488355328) then
  let l8 := t7_0 ++ [([97], false, [118])]
  bif inB 0 l8.length then
  (spec_TxnWrite.f x3 ((rdA ([], false, []) l8 0).1, ((rdA ([], false, []) l8 0).2))).bind fun (t9_0, t9_1) =>
  some (t7_1, x2, t9_0, x4)
  else none
  else none : Option ((List Int × Int × Int) × (Bool × List (List UInt8 × Int) × List (List UInt8 × Bool × List UInt8)) × (Bool × List (List UInt8 × Int) × List (List UInt8 × Bool × List UInt8)) × Int)).bind (fun (x0, x2, x3, x4) =>
  rec (x0, x2, x3, w64 (x4 - 1)))
  else
  some (x0, x2, x3)
noncomputable def spec_l15Txn.f (p0 : List Int × Int × Int) : Option ((Bool × List (List UInt8 × Int) × List (List UInt8 × Bool × List UInt8)) × List Int × Int × Int) :=
  (spec_l1Once.f p0 12).bind fun (t1_0, t1_1) =>
  (spec_l1Below.f t1_1 8).bind fun (t2_0, t2_1) =>
  (lp spec_l15Txn.l0 (t2_1, (false, [], []), (!t1_0, [], []), t2_0)).bind (fun (x0, x2, x3) =>
  some (x3, x0))

noncomputable def spec_Fold.l0 (rec : (List (List UInt8 × Bool × List UInt8) × Int × List (List UInt8 × List UInt8 × Int) × Int) → Option (List (List UInt8 × List UInt8 × Int))) : (List (List UInt8 × Bool × List UInt8) × Int × List (List UInt8 × List UInt8 × Int) × Int) → Option (List (List UInt8 × List UInt8 × Int)) := fun (x1, x2, x7, x8) =>
  bif decide (x8 < (x1.length : Int)) then
  bif inB x8 x1.length then
  bif inB x8 x1.length then
  bif inB x8 x1.length then
  (spec_l13Set.f x7 ((rdA ([], false, []) x1 x8).1, ((rdA ([], false, []) x1 x8).2).2, x2) (((rdA ([], false, []) x1 x8).2).1)).bind fun t2 =>
  rec (x1, x2, t2, w64 (x8 + 1))
  else none
  else none
  else none
  else
  some x7
noncomputable def spec_Fold.f (p0 : List (List UInt8 × List UInt8 × Int)) (p1 : List (List UInt8 × Bool × List UInt8)) (p2 : Int) : Option (List (List UInt8 × List UInt8 × Int)) :=
  bif decide ((([] : List (List UInt8 × List UInt8 × Int)).length + p0.length) * 40 ≤ 140737488355328) then
  let l1 := ([] : List (List UInt8 × List UInt8 × Int)) ++ p0
  (lp spec_Fold.l0 (p1, p2, l1, 0)).bind (fun x7 =>
  some x7)
  else none

noncomputable def impl_net.l2 (rec : (List (List UInt8 × Bool × List UInt8) × (List UInt8 × Bool × List UInt8) × Int × List (List UInt8 × Bool × List UInt8) × Int × Int × Int × Int) → Option (List (List UInt8 × Bool × List UInt8) × (List UInt8 × Bool × List UInt8) × Int × List (List UInt8 × Bool × List UInt8) × Int × Int)) : (List (List UInt8 × Bool × List UInt8) × (List UInt8 × Bool × List UInt8) × Int × List (List UInt8 × Bool × List UInt8) × Int × Int × Int × Int) → Option (List (List UInt8 × Bool × List UInt8) × (List UInt8 × Bool × List UInt8) × Int × List (List UInt8 × Bool × List UInt8) × Int × Int) := fun (x3, x5, x6, x9, x10, x11, x16, x17) =>
  bif decide (x17 < x16) then
  bif inB x17 x3.length then
  let y4 := (rdA ([], false, []) x3 x17).1
  let y5 := ((rdA ([], false, []) x3 x17).2).1
  let y6 := ((rdA ([], false, []) x3 x17).2).2
  (bif y4 == x5.1 then
  some (x3, x5, x17, x9, x10, x11, x16, x17)
  else
  some (x3, x5, x6, x9, x10, x11, x16, x17) : Option (List (List UInt8 × Bool × List UInt8) × (List UInt8 × Bool × List UInt8) × Int × List (List UInt8 × Bool × List UInt8) × Int × Int × Int × Int)).bind (fun (x3, x5, x6, x9, x10, x11, x16, x17) =>
  rec (x3, x5, x6, x9, x10, x11, x16, w64 (x17 + 1)))
  else none
  else
  some (x3, x5, x6, x9, x10, x11)
noncomputable def impl_net.l0 (rec : (List (List UInt8 × Bool × List UInt8) × List (List UInt8 × Bool × List UInt8) × Int × Int) → Option (List (List UInt8 × Bool × List UInt8))) : (List (List UInt8 × Bool × List UInt8) × List (List UInt8 × Bool × List UInt8) × Int × Int) → Option (List (List UInt8 × Bool × List UInt8)) := fun (x3, x9, x10, x11) =>
  bif decide (x11 < x10) then
  bif inB x11 x9.length then
  let y1 := (rdA ([], false, []) x9 x11).1
  let y2 := ((rdA ([], false, []) x9 x11).2).1
  let y3 := ((rdA ([], false, []) x9 x11).2).2
  (lp impl_net.l2 (x3, (y1, y2, y3), (-1), x9, x10, x11, (x3.length : Int), 0)).bind (fun (x3, x5, x6, x9, x10, x11) =>
  (bif decide (x6 ≥ 0) then
  bif inB x6 x3.length then
  let l7 := x3.set x6.toNat x5
  some (l7, x9, x10, x11)
  else none
  else
  bif decide ((x3.length + [x5].length) * 40 ≤ 140737488355328) then
  some (x3 ++ [x5], x9, x10, x11)
  else none : Option (List (List UInt8 × Bool × List UInt8) × List (List UInt8 × Bool × List UInt8) × Int × Int)).bind (fun (x3, x9, x10, x11) =>
  rec (x3, x9, x10, w64 (x11 + 1))))
  else none
  else
  some x3
noncomputable def impl_net.f (p0 : List (List UInt8 × Bool × List UInt8)) : Option (List (List UInt8 × Bool × List UInt8)) :=
  (lp impl_net.l0 ([], p0, (p0.length : Int), 0)).bind (fun x3 =>
  some x3)

noncomputable def impl_NetWrites.f (p0 : Bool × List (List UInt8 × Int) × List (List UInt8 × Bool × List UInt8)) : Option (List (List UInt8 × Bool × List UInt8)) :=
  (impl_net.f p0.2.2).bind fun t1 =>
  some t1

noncomputable def spec_DrawNetWrites.f (p0 : List Int) : Option (Bool × List (List UInt8 × Int) × List (List UInt8 × Bool × List UInt8)) :=
  (spec_l1New.f p0).bind fun t1 =>
  (spec_l15Txn.f t1).bind fun (t2_0, t2_1) =>
  some t2_0

noncomputable def laws_FnNets.l2 (rec : ((Bool × List (List UInt8 × Int) × List (List UInt8 × Bool × List UInt8)) × List (List UInt8 × Bool × List UInt8) × List (List UInt8 × List UInt8 × Int) × List (List UInt8 × List UInt8 × Int) × Int × Int) → Option (((Bool × List (List UInt8 × Int) × List (List UInt8 × Bool × List UInt8)) × List (List UInt8 × Bool × List UInt8) × List (List UInt8 × List UInt8 × Int) × List (List UInt8 × List UInt8 × Int) × Int) ⊕ (Bool))) : ((Bool × List (List UInt8 × Int) × List (List UInt8 × Bool × List UInt8)) × List (List UInt8 × Bool × List UInt8) × List (List UInt8 × List UInt8 × Int) × List (List UInt8 × List UInt8 × Int) × Int × Int) → Option (((Bool × List (List UInt8 × Int) × List (List UInt8 × Bool × List UInt8)) × List (List UInt8 × Bool × List UInt8) × List (List UInt8 × List UInt8 × Int) × List (List UInt8 × List UInt8 × Int) × Int) ⊕ (Bool)) := fun (x3, x4, x5, x6, x7, x10) =>
  bif decide (x10 < x7) then
  bif inB x10 x4.length then
  bif inB x7 x4.length then
  bif ((rdA ([], false, []) x4 x10).1) == ((rdA ([], false, []) x4 x7).1) then
  some (Sum.inr false)
  else
  rec (x3, x4, x5, x6, x7, w64 (x10 + 1))
  else none
  else none
  else
  some (Sum.inl (x3, x4, x5, x6, x7))
noncomputable def laws_FnNets.l0 (rec : ((Bool × List (List UInt8 × Int) × List (List UInt8 × Bool × List UInt8)) × List (List UInt8 × Bool × List UInt8) × List (List UInt8 × List UInt8 × Int) × List (List UInt8 × List UInt8 × Int) × Int) → Option (((Bool × List (List UInt8 × Int) × List (List UInt8 × Bool × List UInt8)) × List (List UInt8 × Bool × List UInt8) × List (List UInt8 × List UInt8 × Int) × List (List UInt8 × List UInt8 × Int)) ⊕ (Bool))) : ((Bool × List (List UInt8 × Int) × List (List UInt8 × Bool × List UInt8)) × List (List UInt8 × Bool × List UInt8) × List (List UInt8 × List UInt8 × Int) × List (List UInt8 × List UInt8 × Int) × Int) → Option (((Bool × List (List UInt8 × Int) × List (List UInt8 × Bool × List UInt8)) × List (List UInt8 × Bool × List UInt8) × List (List UInt8 × List UInt8 × Int) × List (List UInt8 × List UInt8 × Int)) ⊕ (Bool)) := fun (x3, x4, x5, x6, x7) =>
  bif decide (x7 < (x4.length : Int)) then
  bif inB x7 x4.length then
  (impl_OwnWrite.f x3 ((rdA ([], false, []) x4 x7).1)).bind fun (t6_0, t6_1) =>
  bif !t6_1 then
  some (Sum.inr false)
  else
  bif inB x7 x4.length then
  bif !(t6_0.1 == ((rdA ([], false, []) x4 x7).1) && (t6_0.2.1 == (((rdA ([], false, []) x4 x7).2).1) && (t6_0.2.2 == (((rdA ([], false, []) x4 x7).2).2)))) then
  some (Sum.inr false)
  else
  (lp laws_FnNets.l2 (x3, x4, x5, x6, x7, 0)).bind (fun o7 => caseS o7 (fun (x3, x4, x5, x6, x7) =>
  rec (x3, x4, x5, x6, w64 (x7 + 1))) (fun x2 =>
  some (Sum.inr x2)))
  else none
  else none
  else
  some (Sum.inl (x3, x4, x5, x6))
noncomputable def laws_FnNets.f (p0 : List Int) : Option (Bool) :=
  (laws_big.f p0).bind fun t1 =>
  bif t1 then
  some true
  else
  (spec_DrawNetWrites.f p0).bind fun t2 =>
  (impl_NetWrites.f t2).bind fun t3 =>
  (impl_Fold.f ([] : List (List UInt8 × List UInt8 × Int)) t2.2.2 3).bind fun t4 =>
  (impl_Fold.f ([] : List (List UInt8 × List UInt8 × Int)) t3 3).bind fun t5 =>
  (lp laws_FnNets.l0 (t2, t3, t4, t5, 0)).bind (fun o8 => caseS o8 (fun (x3, x4, x5, x6) =>
  (spec_SamePairs.f x5 x6).bind fun t9 =>
  bif t9 then
  (spec_Fold.f ([] : List (List UInt8 × List UInt8 × Int)) x3.2.2 3).bind fun t10 =>
  (spec_SamePairs.f x6 t10).bind fun t11 =>
  bif t11 then
  (spec_NetWrites.f x3).bind fun t12 =>
  bif (x4.length : Int) == (t12.length : Int) then
  let y13 := decide ((x4.length : Int) ≤ 8)
  some y13
  else
  some false
  else
  some false
  else
  some false) (fun x2 =>
  some x2))


end Go.Rf.G
