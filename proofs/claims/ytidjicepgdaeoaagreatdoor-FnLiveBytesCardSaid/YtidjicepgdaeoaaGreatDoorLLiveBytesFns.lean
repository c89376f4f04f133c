import Derived.Test.YtidjicepgdaeoaaGreatDoorRf5
namespace Go.Rf.G
noncomputable section
open Go Go.Rf
set_option linter.unusedVariables false
abbrev QS := (Int × List Int) × List (List UInt8 × Int × Int × Int × Int) × Int × Int × Int
abbrev QD := List (List UInt8 × List UInt8 × Int) × Int × Int × Bool
abbrev QR := Int × Int × List UInt8 × List UInt8 × Int × Int
abbrev QE := List UInt8 × Int × Int × Int × Int
abbrev QP := List UInt8 × Bool × List UInt8
abbrev QF := List UInt8 × List UInt8 × Int
abbrev QB := List UInt8
def spec_l1In.f (p0 : Int) (p1 : Int) (p2 : Int) : Option (Bool) :=
 bif decide (p0 ≥ p1) then
 let y1 := decide (p0 ≤ p2)
 some y1
 else
 some false
def spec_KeyOk.f (p0 : QB) : Option (Bool) :=
 (spec_l1In.f (p0.length : Int) 1 8).bind fun t1 =>
 some t1
def impl_in.f (p0 : Int) (p1 : Int) (p2 : Int) : Option (Bool) :=
 bif decide (p0 ≥ p1) then
 let y1 := decide (p0 ≤ p2)
 some y1
 else
 some false
def impl_KeyOk.f (p0 : QB) : Option (Bool) :=
 (impl_in.f (p0.length : Int) 1 8).bind fun t1 =>
 some t1
def spec_Dec.l0 (rec : (Int × QB × Bool) → Option (QB × Bool)) : (Int × QB × Bool) → Option (QB × Bool) := fun (x0, x3, x4) =>
 bif x0 != 0 then
 let y2 := Int.tmod x0 10
 (bif decide (y2 < 0) then
 some (x0, x3, x4, w64 (0 - y2))
 else
 some (x0, x3, x4, y2) : Option (Int × QB × Bool × Int)).bind (fun (x0, x3, x4, x5) =>
 bif decide ((strOf [IntKind.wrap .u8 (w64 (48 + x5))]).length + x3.length ≤ 9223372036854775807) then
 let y3 := (strOf [IntKind.wrap .u8 (w64 (48 + x5))]) ++ x3
 let y4 := w64 (Int.tdiv x0 10)
 rec (y4, y3, x4)
 else none)
 else
 some (x3, x4)
def spec_Dec.f (p0 : Int) : Option (QB) :=
 bif p0 == 0 then
 some [48]
 else
 let y1 := decide (p0 < 0)
 (lp spec_Dec.l0 (p0, [], y1)).bind (fun (x3, x4) =>
 bif x4 then
 bif decide (([45] : QB).length + x3.length ≤ 9223372036854775807) then
 some ([45] ++ x3)
 else none
 else
 some x3)
def spec_l3Used.l0 (rec : ((QD) × Int × Int) → Option (Int)) : ((QD) × Int × Int) → Option (Int) := fun (x1, x3, x4) =>
 bif decide (x4 < (x1.1.length : Int)) then
 bif inB x4 x1.1.length then
 let y1 := w64 (x3 + ((((rdA ([], [], 0) x1.1 x4).2).1).length : Int))
 rec (x1, y1, w64 (x4 + 1))
 else none
 else
 some x3
def spec_l3Used.f (p0 : QD) : Option (Int) :=
 (lp spec_l3Used.l0 (p0, 0, 0)).bind (fun x3 =>
 some x3)
def spec_NameOk.l0 (rec : (QB × Int) → Option ((QB) ⊕ (Bool))) : (QB × Int) → Option ((QB) ⊕ (Bool)) := fun (x0, x3) =>
 bif decide (x3 < (x0.length : Int)) then
 (bif inB x3 x0.length then
 bif decide ((bAt x0 x3) ≥ 97) then
 bif inB x3 x0.length then
 bif decide ((bAt x0 x3) ≤ 122) then
 some (Sum.inl (x0, x3))
 else
 bif inB x3 x0.length then
 bif decide ((bAt x0 x3) ≥ 48) then
 bif inB x3 x0.length then
 bif !(decide ((bAt x0 x3) ≤ 57)) then
 some (Sum.inr false)
 else
 some (Sum.inl (x0, x3))
 else none
 else
 some (Sum.inr false)
 else none
 else none
 else
 bif inB x3 x0.length then
 bif decide ((bAt x0 x3) ≥ 48) then
 bif inB x3 x0.length then
 bif !(decide ((bAt x0 x3) ≤ 57)) then
 some (Sum.inr false)
 else
 some (Sum.inl (x0, x3))
 else none
 else
 some (Sum.inr false)
 else none
 else none : Option ((QB × Int) ⊕ (Bool))).bind (fun o1 => caseS o1 (fun (x0, x3) =>
 rec (x0, w64 (x3 + 1))) (fun x2 =>
 some (Sum.inr x2)))
 else
 some (Sum.inl x0)
def spec_NameOk.f (p0 : QB) : Option (Bool) :=
 (lp spec_NameOk.l0 (p0, 0)).bind (fun o2 => caseS o2 (fun x0 =>
 (spec_l1In.f (x0.length : Int) 1 12).bind fun t3 =>
 some t3) (fun x2 =>
 some x2))
def spec_DiskOk.l0 (rec : ((QD) × Int) → Option ((Unit) ⊕ (Bool))) : ((QD) × Int) → Option ((Unit) ⊕ (Bool)) := fun (x1, x3) =>
 bif decide (x3 < (x1.1.length : Int)) then
 (bif inB x3 x1.1.length then
 (spec_NameOk.f ((rdA ([], [], 0) x1.1 x3).1)).bind fun t4 =>
 bif !t4 then
 some (Sum.inr false)
 else
 bif inB x3 x1.1.length then
 bif inB x3 x1.1.length then
 (spec_l1In.f (((rdA ([], [], 0) x1.1 x3).2).2) 0 ((((rdA ([], [], 0) x1.1 x3).2).1).length : Int)).bind fun t5 =>
 bif !t5 then
 some (Sum.inr false)
 else
 bif decide (x3 > 0) then
 bif inB x3 x1.1.length then
 bif inB (w64 (x3 - 1)) x1.1.length then
 bif (Op.bytesLess ((rdA ([], [], 0) x1.1 x3).1) ((rdA ([], [], 0) x1.1 (w64 (x3 - 1))).1) || ((rdA ([], [], 0) x1.1 x3).1) == ((rdA ([], [], 0) x1.1 (w64 (x3 - 1))).1)) then
 some (Sum.inr false)
 else
 some (Sum.inl (x1, x3))
 else none
 else none
 else
 some (Sum.inl (x1, x3))
 else none
 else none
 else none : Option (((QD) × Int) ⊕ (Bool))).bind (fun o6 => caseS o6 (fun (x1, x3) =>
 rec (x1, w64 (x3 + 1))) (fun x2 =>
 some (Sum.inr x2)))
 else
 some (Sum.inl ())
def spec_DiskOk.f (p0 : QD) : Option (Bool) :=
 bif decide ((p0.1.length : Int) > 130) then
 some false
 else
 (spec_l1In.f p0.2.1 0 100000).bind fun t1 =>
 bif !t1 then
 some false
 else
 (spec_l1In.f p0.2.2.1 (-1) 100000).bind fun t2 =>
 bif !t2 then
 some false
 else
 (spec_l3Used.f p0).bind fun t3 =>
 bif decide (t3 > p0.2.1) then
 some false
 else
 (lp spec_DiskOk.l0 (p0, 0)).bind (fun o7 => caseS o7 (fun _ =>
 some true) (fun x2 =>
 some x2))
def impl_NameOk.l0 (rec : (QB × Int) → Option ((QB) ⊕ (Bool))) : (QB × Int) → Option ((QB) ⊕ (Bool)) := fun (x0, x3) =>
 bif decide (x3 < (x0.length : Int)) then
 (bif inB x3 x0.length then
 bif decide ((bAt x0 x3) ≥ 97) then
 bif inB x3 x0.length then
 bif !(decide ((bAt x0 x3) ≤ 122)) then
 bif inB x3 x0.length then
 bif decide ((bAt x0 x3) ≥ 48) then
 bif inB x3 x0.length then
 bif !(decide ((bAt x0 x3) ≤ 57)) then
 some (Sum.inr false)
 else
 some (Sum.inl (x0, x3))
 else none
 else
 some (Sum.inr false)
 else none
 else
 some (Sum.inl (x0, x3))
 else none
 else
 bif inB x3 x0.length then
 bif decide ((bAt x0 x3) ≥ 48) then
 bif inB x3 x0.length then
 bif !(decide ((bAt x0 x3) ≤ 57)) then
 some (Sum.inr false)
 else
 some (Sum.inl (x0, x3))
 else none
 else
 some (Sum.inr false)
 else none
 else none : Option ((QB × Int) ⊕ (Bool))).bind (fun o1 => caseS o1 (fun (x0, x3) =>
 rec (x0, w64 (x3 + 1))) (fun x2 =>
 some (Sum.inr x2)))
 else
 some (Sum.inl x0)
def impl_NameOk.f (p0 : QB) : Option (Bool) :=
 (lp impl_NameOk.l0 (p0, 0)).bind (fun o2 => caseS o2 (fun x0 =>
 (impl_in.f (x0.length : Int) 1 12).bind fun t3 =>
 some t3) (fun x2 =>
 some x2))
def impl_DiskOk.l0 (rec : ((QD) × Int × List (QF) × Int × Int) → Option (((QD) × Int) ⊕ (Bool))) : ((QD) × Int × List (QF) × Int × Int) → Option (((QD) × Int) ⊕ (Bool)) := fun (x1, x3, x23, x24, x25) =>
 bif decide (x25 < x24) then
 bif inB x25 x23.length then
 let y3 := (rdA ([], [], 0) x23 x25).1
 let y4 := ((rdA ([], [], 0) x23 x25).2).1
 let y5 := ((rdA ([], [], 0) x23 x25).2).2
 ((impl_NameOk.f y3).bind fun t6 =>
 bif !t6 then
 some (Sum.inr false)
 else
 (impl_in.f y5 0 (y4.length : Int)).bind fun t7 =>
 bif !t7 then
 some (Sum.inr false)
 else
 bif decide (x25 > 0) then
 bif inB (w64 (x25 - 1)) x1.1.length then
 bif !(Op.bytesLess ((rdA ([], [], 0) x1.1 (w64 (x25 - 1))).1) y3) then
 some (Sum.inr false)
 else
 some (Sum.inl (x1, x3, (y3, y4, y5), x23, x24, x25))
 else none
 else
 some (Sum.inl (x1, x3, (y3, y4, y5), x23, x24, x25)) : Option (((QD) × Int × (QF) × List (QF) × Int × Int) ⊕ (Bool))).bind (fun o8 => caseS o8 (fun (x1, x3, x5, x23, x24, x25) =>
 let y9 := w64 (x3 + (x5.2.1.length : Int))
 rec (x1, y9, x23, x24, w64 (x25 + 1))) (fun x2 =>
 some (Sum.inr x2)))
 else none
 else
 some (Sum.inl (x1, x3))
def impl_DiskOk.f (p0 : QD) : Option (Bool) :=
 bif decide ((p0.1.length : Int) > 130) then
 some false
 else
 (impl_in.f p0.2.1 0 100000).bind fun t1 =>
 bif !t1 then
 some false
 else
 (impl_in.f p0.2.2.1 (-1) 100000).bind fun t2 =>
 bif !t2 then
 some false
 else
 (lp impl_DiskOk.l0 (p0, 0, p0.1, (p0.1.length : Int), 0)).bind (fun o10 => caseS o10 (fun (x1, x3) =>
 let y11 := decide (x3 ≤ x1.2.1)
 some y11) (fun x2 =>
 some x2))
def spec_l3Find.l0 (rec : (QB × (QD) × Int) → Option ((Unit) ⊕ (Int))) : (QB × (QD) × Int) → Option ((Unit) ⊕ (Int)) := fun (x1, x2, x5) =>
 bif decide (x5 < (x2.1.length : Int)) then
 bif inB x5 x2.1.length then
 bif ((rdA ([], [], 0) x2.1 x5).1) == x1 then
 some (Sum.inr x5)
 else
 rec (x1, x2, w64 (x5 + 1))
 else none
 else
 some (Sum.inl ())
def spec_l3Find.f (p0 : QD) (p1 : QB) : Option (Int) :=
 (lp spec_l3Find.l0 (p1, p0, 0)).bind (fun o1 => caseS o1 (fun _ =>
 some (-1)) (fun x4 =>
 some x4))
def impl_fileAt.l0 (rec : (QB × List (QF) × Int × Int) → Option ((Unit) ⊕ (Int))) : (QB × List (QF) × Int × Int) → Option ((Unit) ⊕ (Int)) := fun (x1, x8, x9, x10) =>
 bif decide (x10 < x9) then
 bif inB x10 x8.length then
 let y1 := (rdA ([], [], 0) x8 x10).1
 let y2 := ((rdA ([], [], 0) x8 x10).2).1
 let y3 := ((rdA ([], [], 0) x8 x10).2).2
 bif y1 == x1 then
 some (Sum.inr x10)
 else
 rec (x1, x8, x9, w64 (x10 + 1))
 else none
 else
 some (Sum.inl ())
def impl_fileAt.f (p0 : QD) (p1 : QB) : Option (Int) :=
 (lp impl_fileAt.l0 (p1, p0.1, (p0.1.length : Int), 0)).bind (fun o4 => caseS o4 (fun _ =>
 some (-1)) (fun x4 =>
 some x4))
def spec_Var.l0 (rec : (Int × List Int) → Option (Int × List Int)) : (Int × List Int) → Option (Int × List Int) := fun (x0, x3) =>
 bif decide (x0 ≥ 128) then
 bif decide ((x3.length + [IntKind.wrap .u8 (w64 (128 + (Int.tmod x0 128)))].length) * 1 ≤ 140737488355328) then
 let l2 := x3 ++ [IntKind.wrap .u8 (w64 (128 + (Int.tmod x0 128)))]
 let y3 := w64 (Int.tdiv x0 128)
 rec (y3, l2)
 else none
 else
 some (x0, x3)
def spec_Var.f (p0 : Int) : Option (QB) :=
 (spec_l1In.f p0 0 562949953421311).bind fun t1 =>
 bif !t1 then
 some []
 else
 (lp spec_Var.l0 (p0, ([] : List Int))).bind (fun (x0, x3) =>
 bif decide ((x3.length + [IntKind.wrap .u8 (x0)].length) * 1 ≤ 140737488355328) then
 let l4 := x3 ++ [IntKind.wrap .u8 (x0)]
 some (strOf l4)
 else none)
def spec_Fixed.l0 (rec : (Int × Int × QB × Int) → Option (Int × QB)) : (Int × Int × QB × Int) → Option (Int × QB) := fun (x0, x1, x5, x6) =>
 bif decide (x6 < x1) then
 bif decide ((strOf [IntKind.wrap .u8 (Int.tmod x0 256)]).length + x5.length ≤ 9223372036854775807) then
 let y2 := (strOf [IntKind.wrap .u8 (Int.tmod x0 256)]) ++ x5
 let y3 := w64 (Int.tdiv x0 256)
 rec (y3, x1, y2, w64 (x6 + 1))
 else none
 else
 some (x0, x5)
def spec_Fixed.f (p0 : Int) (p1 : Int) : Option (QB) :=
 (spec_l1In.f p1 1 7).bind fun t1 =>
 bif !t1 then
 some []
 else
 bif decide (p0 < 0) then
 some []
 else
 (lp spec_Fixed.l0 (p0, p1, [], 0)).bind (fun (x0, x5) =>
 bif decide (x0 > 0) then
 some []
 else
 some x5)
def spec_Crc.l2 (rec : (QB × Int × Int × Int) → Option (QB × Int × Int)) : (QB × Int × Int × Int) → Option (QB × Int × Int) := fun (x0, x3, x4, x5) =>
 bif decide (x5 < 8) then
 let y2 := w64 (Int.tdiv x3 2)
 (bif (Int.tmod x3 2) == 1 then
 let y3 := bits (fun _ a b => a ^^^ b) .i64 y2 2197175160
 some (x0, y3, x4, x5)
 else
 some (x0, y2, x4, x5) : Option (QB × Int × Int × Int)).bind (fun (x0, x3, x4, x5) =>
 rec (x0, x3, x4, w64 (x5 + 1)))
 else
 some (x0, x3, x4)
def spec_Crc.l0 (rec : (QB × Int × Int) → Option (Int)) : (QB × Int × Int) → Option (Int) := fun (x0, x3, x4) =>
 bif decide (x4 < (x0.length : Int)) then
 bif inB x4 x0.length then
 let y1 := bits (fun _ a b => a ^^^ b) .i64 x3 (w64 (bAt x0 x4))
 (lp spec_Crc.l2 (x0, y1, x4, 0)).bind (fun (x0, x3, x4) =>
 rec (x0, x3, w64 (x4 + 1)))
 else none
 else
 some x3
def spec_Crc.f (p0 : QB) : Option (Int) :=
 (lp spec_Crc.l0 (p0, 4294967295, 0)).bind (fun x3 =>
 let y4 := w64 (4294967295 - x3)
 some y4)
def spec_Frame.f (p0 : QB) : Option (QB) :=
 bif decide ((p0.length : Int) > 200) then
 some []
 else
 (spec_Var.f (p0.length : Int)).bind fun t1 =>
 bif decide (t1.length + p0.length ≤ 9223372036854775807) then
 (spec_Crc.f (t1 ++ p0)).bind fun t2 =>
 (spec_Fixed.f t2 4).bind fun t3 =>
 bif decide (t3.length + (t1 ++ p0).length ≤ 9223372036854775807) then
 let y4 := t3 ++ (t1 ++ p0)
 some y4
 else none
 else none
def spec_RecOk.f (p0 : QR) : Option (Bool) :=
 ((spec_l1In.f p0.2.1 0 1000000).bind fun t1 =>
 bif !t1 then
 some (Sum.inr false)
 else
 bif p0.2.1 == 0 then
 bif p0.1 != 5 then
 some (Sum.inr false)
 else
 some (Sum.inl p0)
 else
 some (Sum.inl p0) : Option ((QR) ⊕ (Bool))).bind (fun o2 => caseS o2 (fun x1 =>
 (bif x1.1 == 1 then
 some (x1, x1.1, x1.1 == 1)
 else
 some (x1, x1.1, x1.1 == 4) : Option ((QR) × Int × Bool)).bind (fun (x1, x18, x19) =>
 bif x19 then
 (spec_KeyOk.f x1.2.2.1).bind fun t3 =>
 bif t3 then
 bif decide ((x1.2.2.2.1.length : Int) ≤ 24) then
 bif x1.2.2.2.2.1 == 0 then
 let y4 := x1.2.2.2.2.2 == 0
 some y4
 else
 some false
 else
 some false
 else
 some false
 else
 bif x18 == 2 then
 (spec_KeyOk.f x1.2.2.1).bind fun t5 =>
 bif t5 then
 bif x1.2.2.2.1 == [] then
 bif x1.2.2.2.2.1 == 0 then
 let y6 := x1.2.2.2.2.2 == 0
 some y6
 else
 some false
 else
 some false
 else
 some false
 else
 bif x18 == 3 then
 bif x1.2.2.1 == [] then
 bif x1.2.2.2.1 == [] then
 (spec_l1In.f x1.2.2.2.2.1 0 8).bind fun t7 =>
 bif t7 then
 (spec_l1In.f x1.2.2.2.2.2 0 4294967295).bind fun t8 =>
 some t8
 else
 some false
 else
 some false
 else
 some false
 else
 bif x18 == 5 then
 bif x1.2.2.1 == [] then
 bif x1.2.2.2.1 == [] then
 (spec_l1In.f x1.2.2.2.2.1 0 20).bind fun t9 =>
 bif t9 then
 (spec_l1In.f x1.2.2.2.2.2 0 4294967295).bind fun t10 =>
 some t10
 else
 some false
 else
 some false
 else
 some false
 else
 some false)) (fun x2 =>
 some x2))
def spec_ShowRec.f (p0 : QR) : Option (QB) :=
 (spec_RecOk.f p0).bind fun t1 =>
 bif !t1 then
 some []
 else
 (spec_Var.f p0.1).bind fun t2 =>
 (spec_Var.f p0.2.1).bind fun t3 =>
 bif decide (t2.length + t3.length ≤ 9223372036854775807) then
 (bif p0.1 == 1 then
 some (p0, t2 ++ t3, p0.1, p0.1 == 1)
 else
 some (p0, t2 ++ t3, p0.1, p0.1 == 4) : Option ((QR) × QB × Int × Bool)).bind (fun (x1, x3, x15, x16) =>
 bif x16 then
 (spec_Var.f (x1.2.2.1.length : Int)).bind fun t4 =>
 bif decide (x3.length + t4.length ≤ 9223372036854775807) then
 bif decide ((x3 ++ t4).length + x1.2.2.1.length ≤ 9223372036854775807) then
 (spec_Var.f (x1.2.2.2.1.length : Int)).bind fun t5 =>
 bif decide (((x3 ++ t4) ++ x1.2.2.1).length + t5.length ≤ 9223372036854775807) then
 bif decide ((((x3 ++ t4) ++ x1.2.2.1) ++ t5).length + x1.2.2.2.1.length ≤ 9223372036854775807) then
 let y6 := (((x3 ++ t4) ++ x1.2.2.1) ++ t5) ++ x1.2.2.2.1
 some y6
 else none
 else none
 else none
 else none
 else
 bif x15 == 2 then
 (spec_Var.f (x1.2.2.1.length : Int)).bind fun t7 =>
 bif decide (x3.length + t7.length ≤ 9223372036854775807) then
 bif decide ((x3 ++ t7).length + x1.2.2.1.length ≤ 9223372036854775807) then
 let y8 := (x3 ++ t7) ++ x1.2.2.1
 some y8
 else none
 else none
 else
 (spec_Var.f x1.2.2.2.2.1).bind fun t9 =>
 bif decide (x3.length + t9.length ≤ 9223372036854775807) then
 (spec_Fixed.f x1.2.2.2.2.2 4).bind fun t10 =>
 bif decide ((x3 ++ t9).length + t10.length ≤ 9223372036854775807) then
 let y11 := (x3 ++ t9) ++ t10
 some y11
 else none
 else none)
 else none
def impl_Var.l0 (rec : (Int × List Int) → Option (Int × List Int)) : (Int × List Int) → Option (Int × List Int) := fun (x0, x3) =>
 bif decide (x0 > 127) then
 bif decide ((x3.length + [IntKind.wrap .u8 (w64 ((Int.tmod x0 128) + 128))].length) * 1 ≤ 140737488355328) then
 let l2 := x3 ++ [IntKind.wrap .u8 (w64 ((Int.tmod x0 128) + 128))]
 let y3 := w64 (Int.tdiv x0 128)
 rec (y3, l2)
 else none
 else
 some (x0, x3)
def impl_Var.f (p0 : Int) : Option (QB) :=
 (impl_in.f p0 0 562949953421311).bind fun t1 =>
 bif !t1 then
 some []
 else
 (lp impl_Var.l0 (p0, [])).bind (fun (x0, x3) =>
 bif decide ((x3.length + [IntKind.wrap .u8 (x0)].length) * 1 ≤ 140737488355328) then
 let l4 := x3 ++ [IntKind.wrap .u8 (x0)]
 some (strOf l4)
 else none)
def impl_textOf.f (p0 : QB) : Option (QB) :=
 (impl_Var.f (p0.length : Int)).bind fun t1 =>
 bif decide (t1.length + p0.length ≤ 9223372036854775807) then
 some (t1 ++ p0)
 else none
def impl_Fixed.l0 (rec : (Int × List Int × Int) → Option (List Int)) : (Int × List Int × Int) → Option (List Int) := fun (x0, x5, x6) =>
 bif decide (x6 ≥ 0) then
 bif decide (0 ≤ (w64 (8 * x6))) then
 bif decide ((x5.length + [IntKind.wrap .u8 (Int.fdiv x0 (2 ^ (min (w64 (8 * x6)).toNat 64)))].length) * 1 ≤ 140737488355328) then
 let l3 := x5 ++ [IntKind.wrap .u8 (Int.fdiv x0 (2 ^ (min (w64 (8 * x6)).toNat 64)))]
 rec (x0, l3, w64 (x6 - 1))
 else none
 else none
 else
 some x5
def impl_Fixed.f (p0 : Int) (p1 : Int) : Option (QB) :=
 (impl_in.f p1 1 7).bind fun t1 =>
 bif !t1 then
 some []
 else
 bif decide (0 ≤ (w64 (8 * p1))) then
 (impl_in.f p0 0 (w64 ((w64 (1 * 2 ^ (min (w64 (8 * p1)).toNat 64))) - 1))).bind fun t2 =>
 bif !t2 then
 some []
 else
 (lp impl_Fixed.l0 (p0, [], w64 (p1 - 1))).bind (fun x5 =>
 some (strOf x5))
 else none
def impl_RecOk.f (p0 : QR) : Option (Bool) :=
 (bif p0.1 == 1 then
 some (p0, (p0.1, p0.2.1, [], [], 0, 0), false, 1, p0.1, p0.1 == 1)
 else
 some (p0, (p0.1, p0.2.1, [], [], 0, 0), false, 1, p0.1, p0.1 == 4) : Option ((QR) × (QR) × Bool × Int × Int × Bool)).bind (fun (x1, x3, x4, x5, x12, x13) =>
 bif x13 then
 (impl_KeyOk.f x1.2.2.1).bind fun t1 =>
 bif t1 then
 let y2 := decide ((x1.2.2.2.1.length : Int) ≤ 24)
 bif y2 then
 (impl_in.f x1.2.1 x5 1000000).bind fun t3 =>
 bif t3 then
 let y4 := (x1.1 == x3.1 && (x1.2.1 == x3.2.1 && (x1.2.2.1 == x1.2.2.1 && (x1.2.2.2.1 == x1.2.2.2.1 && (x1.2.2.2.2.1 == x3.2.2.2.2.1 && (x1.2.2.2.2.2 == x3.2.2.2.2.2))))))
 some y4
 else
 some false
 else
 some false
 else
 some false
 else
 bif x12 == 2 then
 (impl_KeyOk.f x1.2.2.1).bind fun t5 =>
 bif t5 then
 (impl_in.f x1.2.1 x5 1000000).bind fun t6 =>
 bif t6 then
 let y7 := (x1.1 == x3.1 && (x1.2.1 == x3.2.1 && (x1.2.2.1 == x1.2.2.1 && (x1.2.2.2.1 == x3.2.2.2.1 && (x1.2.2.2.2.1 == x3.2.2.2.2.1 && (x1.2.2.2.2.2 == x3.2.2.2.2.2))))))
 some y7
 else
 some false
 else
 some false
 else
 bif x12 == 3 then
 (impl_in.f x1.2.2.2.2.1 0 8).bind fun t8 =>
 bif t8 then
 (impl_in.f x1.2.2.2.2.2 0 4294967295).bind fun t9 =>
 bif t9 then
 (impl_in.f x1.2.1 x5 1000000).bind fun t10 =>
 bif t10 then
 let y11 := (x1.1 == x3.1 && (x1.2.1 == x3.2.1 && (x1.2.2.1 == x3.2.2.1 && (x1.2.2.2.1 == x3.2.2.2.1 && (x1.2.2.2.2.1 == x1.2.2.2.2.1 && (x1.2.2.2.2.2 == x1.2.2.2.2.2))))))
 some y11
 else
 some false
 else
 some false
 else
 some false
 else
 bif x12 == 5 then
 (impl_in.f x1.2.2.2.2.1 0 20).bind fun t12 =>
 bif t12 then
 (impl_in.f x1.2.2.2.2.2 0 4294967295).bind fun t13 =>
 bif t13 then
 (impl_in.f x1.2.1 0 1000000).bind fun t14 =>
 bif t14 then
 let y15 := (x1.1 == x3.1 && (x1.2.1 == x3.2.1 && (x1.2.2.1 == x3.2.2.1 && (x1.2.2.2.1 == x3.2.2.2.1 && (x1.2.2.2.2.1 == x1.2.2.2.2.1 && (x1.2.2.2.2.2 == x1.2.2.2.2.2))))))
 some y15
 else
 some false
 else
 some false
 else
 some false
 else
 bif x4 then
 (impl_in.f x1.2.1 x5 1000000).bind fun t16 =>
 bif t16 then
 let y17 := (x1.1 == x3.1 && (x1.2.1 == x3.2.1 && (x1.2.2.1 == x3.2.2.1 && (x1.2.2.2.1 == x3.2.2.2.1 && (x1.2.2.2.2.1 == x3.2.2.2.2.1 && (x1.2.2.2.2.2 == x3.2.2.2.2.2))))))
 some y17
 else
 some false
 else
 some false)
def impl_Crc.l2 (rec : (QB × Int × Int × Int) → Option (QB × Int × Int)) : (QB × Int × Int × Int) → Option (QB × Int × Int) := fun (x0, x3, x4, x18) =>
 bif decide (x18 < 8) then
 let y2 := bits (fun _ a b => a &&& b) .u32 x3 1
 let y3 := Int.fdiv x3 (2 ^ (min 1 32))
 (bif y2 == 1 then
 let y4 := bits (fun _ a b => a ^^^ b) .u32 y3 2197175160
 some (x0, y4, x4, x18)
 else
 some (x0, y3, x4, x18) : Option (QB × Int × Int × Int)).bind (fun (x0, x3, x4, x18) =>
 rec (x0, x3, x4, w64 (x18 + 1)))
 else
 some (x0, x3, x4)
def impl_Crc.l0 (rec : (QB × Int × Int) → Option (Int)) : (QB × Int × Int) → Option (Int) := fun (x0, x3, x4) =>
 bif decide (x4 < (x0.length : Int)) then
 bif inB x4 x0.length then
 let y1 := bits (fun _ a b => a ^^^ b) .u32 x3 (IntKind.wrap .u32 (bAt x0 x4))
 (lp impl_Crc.l2 (x0, y1, x4, 0)).bind (fun (x0, x3, x4) =>
 rec (x0, x3, w64 (x4 + 1)))
 else none
 else
 some x3
def impl_Crc.f (p0 : QB) : Option (Int) :=
 (lp impl_Crc.l0 (p0, 4294967295, 0)).bind (fun x3 =>
 let y5 := w64 (bits (fun _ a b => a ^^^ b) .u32 4294967295 x3)
 some y5)
def impl_Frame.f (p0 : QB) : Option (QB) :=
 bif decide ((p0.length : Int) > 200) then
 some []
 else
 (impl_textOf.f p0).bind fun t1 =>
 (impl_Crc.f t1).bind fun t2 =>
 (impl_Fixed.f t2 4).bind fun t3 =>
 bif decide (t3.length + t1.length ≤ 9223372036854775807) then
 some (t3 ++ t1)
 else none
def spec_FileText.f (p0 : QD) (p1 : QB) : Option (QB × Bool) :=
 (spec_DiskOk.f p0).bind fun t1 =>
 bif !t1 then
 some ([], false)
 else
 (spec_l3Find.f p0 p1).bind fun t2 =>
 bif decide (t2 < 0) then
 some ([], false)
 else
 bif inB t2 p0.1.length then
 let y3 := ((rdA ([], [], 0) p0.1 t2).2).1
 some (y3, true)
 else none
def impl_FileText.f (p0 : QD) (p1 : QB) : Option (QB × Bool) :=
 (impl_fileAt.f p0 p1).bind fun t1 =>
 bif decide (t1 < 0) then
 some ([], false)
 else
 (impl_DiskOk.f p0).bind fun t2 =>
 bif !t2 then
 some ([], false)
 else
 bif inB t1 p0.1.length then
 let y3 := ((rdA ([], [], 0) p0.1 t1).2).1
 some (y3, true)
 else none
def spec_SegName.f (p0 : Int) : Option (QB) :=
 (spec_l1In.f p0 1 100000).bind fun t1 =>
 bif !t1 then
 some []
 else
 (spec_Dec.f p0).bind fun t2 =>
 bif decide (([115, 101, 103] : QB).length + t2.length ≤ 9223372036854775807) then
 let y3 := [115, 101, 103] ++ t2
 some y3
 else none
def impl_Dec.f (p0 : Int) : Option (QB) :=
 (strconv_Itoa.f p0).bind fun t1 =>
 some t1
def impl_named.f (p0 : QB) (p1 : Int) : Option (QB) :=
 (impl_in.f p1 1 100000).bind fun t1 =>
 bif !t1 then
 some []
 else
 (impl_Dec.f p1).bind fun t2 =>
 bif decide (p0.length + t2.length ≤ 9223372036854775807) then
 some (p0 ++ t2)
 else none
def impl_SegName.f (p0 : Int) : Option (QB) :=
 (impl_named.f [115, 101, 103] p0).bind fun t1 =>
 some t1
def spec_ReadVar.l2 (rec : (QB × Int × Int × Int) → Option (QB × Int × Int)) : (QB × Int × Int × Int) → Option (QB × Int × Int) := fun (x0, x4, x5, x6) =>
 bif decide (x6 ≥ 0) then
 bif inB x6 x0.length then
 let y1 := w64 ((w64 (x5 * 128)) + (Int.tmod (w64 (bAt x0 x6)) 128))
 rec (x0, x4, y1, w64 (x6 - 1))
 else none
 else
 some (x0, x4, x5)
def spec_ReadVar.l0 (rec : (QB × Int) → Option ((Unit) ⊕ (Int × Int))) : (QB × Int) → Option ((Unit) ⊕ (Int × Int)) := fun (x0, x4) =>
 bif decide (x4 ≤ 7) then
 bif decide (x4 ≤ (x0.length : Int)) then
 (lp spec_ReadVar.l2 (x0, x4, 0, w64 (x4 - 1))).bind (fun (x0, x4, x5) =>
 (spec_Var.f x5).bind fun t2 =>
 bif (decide (0 ≤ x4) && decide (x4 ≤ (x0.length : Int))) then
 bif t2 == (x0.take x4.toNat) then
 some (Sum.inr (x5, x4))
 else
 rec (x0, w64 (x4 + 1))
 else none)
 else
 some (Sum.inl ())
 else
 some (Sum.inl ())
def spec_ReadVar.f (p0 : QB) : Option (Int × Int) :=
 (lp spec_ReadVar.l0 (p0, 1)).bind (fun o3 => caseS o3 (fun _ =>
 some (0, 0)) (fun (x2, x3) =>
 some (x2, x3)))
def spec_Unframe.f (p0 : QB) : Option (QB × Int) :=
 bif decide ((p0.length : Int) < 5) then
 some ([], 0)
 else
 bif (decide (0 ≤ (4 : Int)) && decide (4 ≤ (p0.length : Int))) then
 (spec_ReadVar.f (p0.drop 4)).bind fun (t1_0, t1_1) =>
 bif t1_1 == 0 then
 some ([], 0)
 else
 bif decide (t1_0 > 200) then
 some ([], 0)
 else
 bif decide (t1_0 > (w64 ((w64 ((p0.length : Int) - 4)) - t1_1))) then
 some ([], 0)
 else
 bif (decide (0 ≤ w64 ((w64 (4 + t1_1)) + t1_0)) && decide (w64 ((w64 (4 + t1_1)) + t1_0) ≤ (p0.length : Int))) then
 bif (decide (0 ≤ w64 (4 + t1_1)) && decide (w64 (4 + t1_1) ≤ w64 ((w64 (4 + t1_1)) + t1_0))) then
 let y2 := (p0.take ((w64 ((w64 (4 + t1_1)) + t1_0)).toNat)).drop ((w64 (4 + t1_1)).toNat)
 bif (decide (0 ≤ w64 ((w64 (4 + t1_1)) + t1_0)) && decide (w64 ((w64 (4 + t1_1)) + t1_0) ≤ (p0.length : Int))) then
 (spec_Frame.f y2).bind fun t3 =>
 bif !((p0.take ((w64 ((w64 (4 + t1_1)) + t1_0)).toNat)) == t3) then
 some ([], 0)
 else
 let y4 := w64 ((w64 (4 + t1_1)) + t1_0)
 some (y2, y4)
 else none
 else none
 else none
 else none
def spec_l5Text.f (p0 : QB) : Option (QB × QB × Bool) :=
 (spec_ReadVar.f p0).bind fun (t1_0, t1_1) =>
 bif t1_1 == 0 then
 some ([], [], false)
 else
 bif decide (t1_0 > (w64 ((p0.length : Int) - t1_1))) then
 some ([], [], false)
 else
 bif (decide (0 ≤ w64 (t1_1 + t1_0)) && decide (w64 (t1_1 + t1_0) ≤ (p0.length : Int))) then
 bif (decide (0 ≤ t1_1) && decide (t1_1 ≤ w64 (t1_1 + t1_0))) then
 bif (decide (0 ≤ w64 (t1_1 + t1_0)) && decide (w64 (t1_1 + t1_0) ≤ (p0.length : Int))) then
 let y2 := (p0.take ((w64 (t1_1 + t1_0)).toNat)).drop t1_1.toNat
 let y3 := p0.drop ((w64 (t1_1 + t1_0)).toNat)
 some (y2, y3, true)
 else none
 else none
 else none
def spec_ReadFixed.l0 (rec : (QB × Int × Int × Int) → Option (Int)) : (QB × Int × Int × Int) → Option (Int) := fun (x0, x1, x6, x7) =>
 bif decide (x7 < x1) then
 bif inB x7 x0.length then
 let y2 := w64 ((w64 (x6 * 256)) + (w64 (bAt x0 x7)))
 rec (x0, x1, y2, w64 (x7 + 1))
 else none
 else
 some x6
def spec_ReadFixed.f (p0 : QB) (p1 : Int) : Option (Int × Bool) :=
 (spec_l1In.f p1 1 7).bind fun t1 =>
 bif !t1 then
 some (0, false)
 else
 bif decide ((p0.length : Int) < p1) then
 some (0, false)
 else
 (lp spec_ReadFixed.l0 (p0, p1, 0, 0)).bind (fun x6 =>
 some (x6, true))
def spec_ReadRec.f (p0 : QB) : Option ((QR) × Bool) :=
 (spec_ReadVar.f p0).bind fun (t1_0, t1_1) =>
 bif (decide (0 ≤ t1_1) && decide (t1_1 ≤ (p0.length : Int))) then
 (spec_ReadVar.f (p0.drop t1_1.toNat)).bind fun (t2_0, t2_1) =>
 bif t1_1 == 0 then
 some ((0, 0, [], [], 0, 0), false)
 else
 bif t2_1 == 0 then
 some ((0, 0, [], [], 0, 0), false)
 else
 bif (decide (0 ≤ w64 (t1_1 + t2_1)) && decide (w64 (t1_1 + t2_1) ≤ (p0.length : Int))) then
 let y3 := p0.drop ((w64 (t1_1 + t2_1)).toNat)
 ((bif t1_0 == 1 then
 some (p0, (0, 0, [], [], 0, 0), (t1_0, t2_0, [], [], 0, 0), y3, t1_0, t1_0 == 1)
 else
 some (p0, (0, 0, [], [], 0, 0), (t1_0, t2_0, [], [], 0, 0), y3, t1_0, t1_0 == 4) : Option (QB × (QR) × (QR) × QB × Int × Bool)).bind (fun (x0, x2, x8, x9, x50, x67) =>
 bif x67 then
 (spec_l5Text.f x9).bind fun (t4_0, t4_1, t4_2) =>
 (spec_l5Text.f t4_1).bind fun (t5_0, t5_1, t5_2) =>
 some (x0, x2, (x8.1, x8.2.1, t4_0, t5_0, x8.2.2.2.2))
 else
 (bif x50 == 2 then
 (spec_l5Text.f x9).bind fun (t6_0, t6_1, t6_2) =>
 some (x0, x2, (x8.1, x8.2.1, t6_0, x8.2.2.2))
 else
 (spec_ReadVar.f x9).bind fun (t7_0, t7_1) =>
 bif (decide (0 ≤ t7_1) && decide (t7_1 ≤ (x9.length : Int))) then
 (spec_ReadFixed.f (x9.drop t7_1.toNat) 4).bind fun (t8_0, t8_1) =>
 some (x0, x2, (x8.1, x8.2.1, x8.2.2.1, x8.2.2.2.1, t7_0, t8_0))
 else none : Option (QB × (QR) × QR)).bind (fun (x0, x2, x8) =>
 some (x0, x2, x8))) : Option (QB × (QR) × QR)).bind (fun (x0, x2, x8) =>
 (spec_ShowRec.f x8).bind fun t9 =>
 bif !(t9 == x0) then
 some ((0, 0, [], [], 0, 0), false)
 else
 bif x0 == [] then
 some ((0, 0, [], [], 0, 0), false)
 else
 some (x8, true))
 else none
 else none
def impl_ReadVar.l0 (rec : (QB × Int × Int) → Option ((Unit) ⊕ (Int × Int))) : (QB × Int × Int) → Option ((Unit) ⊕ (Int × Int)) := fun (x0, x4, x5) =>
 bif decide (x5 < 7) then
 bif decide (x5 < (x0.length : Int)) then
 bif inB x5 x0.length then
 let y1 := w64 (bAt x0 x5)
 bif decide (0 ≤ (w64 (7 * x5))) then
 let y2 := w64 (x4 + (w64 ((Int.tmod y1 128) * 2 ^ (min (w64 (7 * x5)).toNat 64))))
 bif decide (y1 ≥ 128) then
 rec (x0, y2, w64 (x5 + 1))
 else
 (bif y1 == 0 then
 bif decide (x5 > 0) then
 some (Sum.inr (0, 0))
 else
 some (Sum.inl (y2, x5))
 else
 some (Sum.inl (y2, x5)) : Option ((Int × Int) ⊕ (Int × Int))).bind (fun o3 => caseS o3 (fun (x4, x5) =>
 some (Sum.inr (x4, w64 (x5 + 1)))) (fun (x2, x3) =>
 some (Sum.inr (x2, x3))))
 else none
 else none
 else
 some (Sum.inl ())
 else
 some (Sum.inl ())
def impl_ReadVar.f (p0 : QB) : Option (Int × Int) :=
 (lp impl_ReadVar.l0 (p0, 0, 0)).bind (fun o4 => caseS o4 (fun _ =>
 some (0, 0)) (fun (x2, x3) =>
 some (x2, x3)))
def impl_Unframe.f (p0 : QB) : Option (QB × Int) :=
 bif decide ((p0.length : Int) < 4) then
 some ([], 0)
 else
 bif (decide (0 ≤ (4 : Int)) && decide (4 ≤ (p0.length : Int))) then
 (impl_ReadVar.f (p0.drop 4)).bind fun (t1_0, t1_1) =>
 bif t1_1 == 0 then
 some ([], 0)
 else
 bif decide (t1_0 > 200) then
 some ([], 0)
 else
 bif decide (t1_0 > (w64 ((w64 ((p0.length : Int) - 4)) - t1_1))) then
 some ([], 0)
 else
 bif (decide (0 ≤ w64 ((w64 (4 + t1_1)) + t1_0)) && decide (w64 ((w64 (4 + t1_1)) + t1_0) ≤ (p0.length : Int))) then
 bif (decide (0 ≤ w64 (4 + t1_1)) && decide (w64 (4 + t1_1) ≤ w64 ((w64 (4 + t1_1)) + t1_0))) then
 let y2 := (p0.take ((w64 ((w64 (4 + t1_1)) + t1_0)).toNat)).drop ((w64 (4 + t1_1)).toNat)
 (impl_Frame.f y2).bind fun t3 =>
 bif (decide (0 ≤ w64 ((w64 (4 + t1_1)) + t1_0)) && decide (w64 ((w64 (4 + t1_1)) + t1_0) ≤ (p0.length : Int))) then
 bif !(t3 == (p0.take ((w64 ((w64 (4 + t1_1)) + t1_0)).toNat))) then
 some ([], 0)
 else
 let y4 := w64 ((w64 (4 + t1_1)) + t1_0)
 some (y2, y4)
 else none
 else none
 else none
 else none
def impl_scanner_num.f (p0 : QB × Bool) : Option (Int × QB × Bool) :=
 (impl_ReadVar.f p0.1).bind fun (t1_0, t1_1) =>
 bif p0.2 then
 some (0, (p0.1, true))
 else
 bif t1_1 == 0 then
 some (0, (p0.1, true))
 else
 bif (decide (0 ≤ t1_1) && decide (t1_1 ≤ (p0.1.length : Int))) then
 let y2 := p0.1.drop t1_1.toNat
 some (t1_0, (y2, p0.2))
 else none
def impl_scanner_bytes.f (p0 : QB × Bool) (p1 : Int) : Option (QB × QB × Bool) :=
 bif p0.2 then
 some ([], (p0.1, true))
 else
 bif decide (p1 > (p0.1.length : Int)) then
 some ([], (p0.1, true))
 else
 bif (decide (0 ≤ p1) && decide (p1 ≤ (p0.1.length : Int))) then
 let y1 := p0.1.take p1.toNat
 bif (decide (0 ≤ p1) && decide (p1 ≤ (p0.1.length : Int))) then
 let y2 := p0.1.drop p1.toNat
 some (y1, (y2, p0.2))
 else none
 else none
def impl_scanner_text.f (p0 : QB × Bool) : Option (QB × QB × Bool) :=
 (impl_scanner_num.f p0).bind fun (t1_0, t1_1) =>
 (impl_scanner_bytes.f t1_1 t1_0).bind fun (t2_0, t2_1) =>
 some (t2_0, t2_1)
def impl_ReadFixed.l0 (rec : (QB × Int × Int × Int) → Option (Int)) : (QB × Int × Int × Int) → Option (Int) := fun (x0, x6, x17, x18) =>
 bif decide (x18 < x17) then
 bif inB x18 x0.length then
 let y2 := bits (fun _ a b => a ||| b) .i64 (w64 (x6 * 2 ^ (min 8 64))) (w64 (bAt x0 x18))
 rec (x0, y2, x17, w64 (x18 + 1))
 else none
 else
 some x6
def impl_ReadFixed.f (p0 : QB) (p1 : Int) : Option (Int × Bool) :=
 (impl_in.f p1 1 7).bind fun t1 =>
 bif !t1 then
 some (0, false)
 else
 bif decide ((p0.length : Int) < p1) then
 some (0, false)
 else
 (lp impl_ReadFixed.l0 (p0, 0, p1, 0)).bind (fun x6 =>
 some (x6, true))
def impl_ReadRec.f (p0 : QB) : Option ((QR) × Bool) :=
 (impl_scanner_num.f (p0, false)).bind fun (t1_0, t1_1) =>
 (impl_scanner_num.f t1_1).bind fun (t2_0, t2_1) =>
 ((bif t1_0 == 1 then
 some ((0, 0, [], [], 0, 0), t2_1, (t1_0, t2_0, [], [], 0, 0), t1_0, t1_0 == 1)
 else
 some ((0, 0, [], [], 0, 0), t2_1, (t1_0, t2_0, [], [], 0, 0), t1_0, t1_0 == 4) : Option ((QR) × (QB × Bool) × (QR) × Int × Bool)).bind (fun (x2, x4, x5, x16, x27) =>
 bif x27 then
 (impl_scanner_text.f x4).bind fun (t3_0, t3_1) =>
 (impl_scanner_text.f t3_1).bind fun (t4_0, t4_1) =>
 some (x2, t4_1, (x5.1, x5.2.1, t3_0, t4_0, x5.2.2.2.2))
 else
 (bif x16 == 2 then
 (impl_scanner_text.f x4).bind fun (t5_0, t5_1) =>
 some (x2, t5_1, (x5.1, x5.2.1, t5_0, x5.2.2.2))
 else
 (impl_scanner_num.f x4).bind fun (t6_0, t6_1) =>
 (impl_scanner_bytes.f t6_1 4).bind fun (t7_0, t7_1) =>
 (impl_ReadFixed.f t7_0 4).bind fun (t8_0, t8_1) =>
 some (x2, t7_1, (x5.1, x5.2.1, x5.2.2.1, x5.2.2.2.1, t6_0, t8_0)) : Option ((QR) × (QB × Bool) × QR)).bind (fun (x2, x4, x5) =>
 some (x2, x4, x5))) : Option ((QR) × (QB × Bool) × QR)).bind (fun (x2, x4, x5) =>
 bif x4.2 then
 some ((0, 0, [], [], 0, 0), false)
 else
 bif !(x4.1 == []) then
 some ((0, 0, [], [], 0, 0), false)
 else
 (impl_RecOk.f x5).bind fun t9 =>
 bif !t9 then
 some ((0, 0, [], [], 0, 0), false)
 else
 some (x5, true))
def spec_SegBytes.l0 (rec : ((QS) × (QD) × Int × Int) → Option (Int)) : ((QS) × (QD) × Int × Int) → Option (Int) := fun (x2, x3, x5, x6) =>
 bif decide (x6 < (x2.1.2.length : Int)) then
 bif decide (x6 < 60) then
 bif inB x6 x2.1.2.length then
 (spec_SegName.f (rdA 0 x2.1.2 x6)).bind fun t1 =>
 (spec_FileText.f x3 t1).bind fun (t2_0, t2_1) =>
 let y3 := w64 (x5 + (t2_0.length : Int))
 rec (x2, x3, y3, w64 (x6 + 1))
 else none
 else
 some x5
 else
 some x5
def spec_SegBytes.f (p0 : QS) (p1 : QD) : Option (Int) :=
 (lp spec_SegBytes.l0 (p0, p1, 0, 0)).bind (fun x5 =>
 some x5)
def impl_SegBytes.l0 (rec : ((QD) × Int × List Int × Int × Int) → Option (Int)) : ((QD) × Int × List Int × Int × Int) → Option (Int) := fun (x3, x5, x12, x13, x14) =>
 bif decide (x14 < x13) then
 bif inB x14 x12.length then
 (bif decide (x14 < 60) then
 (impl_SegName.f (rdA 0 x12 x14)).bind fun t1 =>
 (impl_FileText.f x3 t1).bind fun (t2_0, t2_1) =>
 let y3 := w64 (x5 + (t2_0.length : Int))
 some (x3, y3, x12, x13, x14)
 else
 some (x3, x5, x12, x13, x14) : Option ((QD) × Int × List Int × Int × Int)).bind (fun (x3, x5, x12, x13, x14) =>
 rec (x3, x5, x12, x13, w64 (x14 + 1)))
 else none
 else
 some x5
def impl_SegBytes.f (p0 : QS) (p1 : QD) : Option (Int) :=
 (lp impl_SegBytes.l0 (p1, 0, p0.1.2, (p0.1.2.length : Int), 0)).bind (fun x5 =>
 some x5)
def spec_l3Copy.f (p0 : QD) : Option (QD) :=
 bif decide ((([] : List (QF)).length + p0.1.length) * 40 ≤ 140737488355328) then
 let l1 := ([] : List (QF)) ++ p0.1
 some (l1, p0.2)
 else none
def impl_copyDisk.f (p0 : QD) : Option (QD) :=
 bif decide ((([] : List (QF)).length + p0.1.length) * 40 ≤ 140737488355328) then
 let l1 := ([] : List (QF)) ++ p0.1
 some (l1, p0.2)
 else none
def stringslite_HasPrefix.f (p0 : QB) (p1 : QB) : Option (Bool) :=
 bif decide ((p0.length : Int) ≥ (p1.length : Int)) then
 bif (decide (0 ≤ (p1.length : Int)) && decide ((p1.length : Int) ≤ (p0.length : Int))) then
 let y1 := (p0.take ((p1.length : Int).toNat)) == p1
 some y1
 else none
 else
 some false
def spec_l3Begin.f (p0 : QD) : Option ((QD) × Int) :=
 (spec_l3Copy.f p0).bind fun t1 =>
 (spec_DiskOk.f p0).bind fun t2 =>
 bif !t2 then
 some (t1, 5)
 else
 bif p0.2.2.2 then
 some ((t1.1, t1.2.1, t1.2.2.1, true), 1)
 else
 bif p0.2.2.1 == 0 then
 some ((t1.1, t1.2.1, t1.2.2.1, true), 1)
 else
 bif decide (p0.2.2.1 > 0) then
 let y3 := w64 (p0.2.2.1 - 1)
 some ((t1.1, t1.2.1, y3, t1.2.2.2), 0)
 else
 some (t1, 0)
def spec_Sync.f (p0 : QD) (p1 : QB) : Option ((QD) × Int) :=
 (spec_l3Begin.f p0).bind fun (t1_0, t1_1) =>
 bif t1_1 != 0 then
 some (t1_0, t1_1)
 else
 (spec_l3Find.f p0 p1).bind fun t2 =>
 bif decide (t2 < 0) then
 some (t1_0, 3)
 else
 bif inB t2 p0.1.length then
 bif inB t2 t1_0.1.length then
 let l3 := t1_0.1.set t2.toNat ((rdA ([], [], 0) t1_0.1 t2).1, ((rdA ([], [], 0) t1_0.1 t2).2).1, ((((rdA ([], [], 0) p0.1 t2).2).1).length : Int))
 some ((l3, t1_0.2), 0)
 else none
 else none
def impl_Sync_1.f (p0 : QD) (p1 : QB) : Option (Int × QD) :=
 (impl_fileAt.f p0 p1).bind fun t1 =>
 bif decide (t1 < 0) then
 some (3, p0)
 else
 bif inB t1 p0.1.length then
 bif inB t1 p0.1.length then
 let l2 := p0.1.set t1.toNat ((rdA ([], [], 0) p0.1 t1).1, ((rdA ([], [], 0) p0.1 t1).2).1, ((((rdA ([], [], 0) p0.1 t1).2).1).length : Int))
 some (0, (l2, p0.2))
 else none
 else none
def impl_step_Sync_1.f (p0 : QD) (p1 : QB) : Option ((QD) × Int) :=
 (impl_copyDisk.f p0).bind fun t1 =>
 (impl_DiskOk.f p0).bind fun t2 =>
 bif !t2 then
 some (t1, 5)
 else
 bif p0.2.2.2 then
 some ((t1.1, t1.2.1, t1.2.2.1, true), 1)
 else
 bif p0.2.2.1 == 0 then
 some ((t1.1, t1.2.1, t1.2.2.1, true), 1)
 else
 (bif decide (p0.2.2.1 > 0) then
 let y3 := w64 (t1.2.2.1 - 1)
 some (p1, ([], 0, 0, false), (t1.1, t1.2.1, y3, t1.2.2.2))
 else
 some (p1, ([], 0, 0, false), t1) : Option (QB × (QD) × QD)).bind (fun (x1, x4, x6) =>
 (impl_Sync_1.f x6 x1).bind fun (t4_0, t4_1) =>
 some (t4_1, t4_0))
def impl_Disk_drop.f (p0 : QD) (p1 : QB) : Option (QD) :=
 (impl_fileAt.f p0 p1).bind fun t1 =>
 bif decide (t1 ≥ 0) then
 bif (decide (0 ≤ t1) && decide (t1 ≤ (p0.1.length : Int))) then
 bif decide ((([] : List (QF)).length + (p0.1.take t1.toNat).length) * 40 ≤ 140737488355328) then
 bif (decide (0 ≤ w64 (t1 + 1)) && decide (w64 (t1 + 1) ≤ (p0.1.length : Int))) then
 bif decide (((([] : List (QF)) ++ (p0.1.take t1.toNat)).length + (p0.1.drop ((w64 (t1 + 1)).toNat)).length) * 40 ≤ 140737488355328) then
 let l2 := (([] : List (QF)) ++ (p0.1.take t1.toNat)) ++ (p0.1.drop ((w64 (t1 + 1)).toNat))
 some (l2, p0.2)
 else none
 else none
 else none
 else none
 else
 some p0
def impl_Remove_1.f (p0 : QD) (p1 : QB) : Option (Int × QD) :=
 (impl_fileAt.f p0 p1).bind fun t1 =>
 bif decide (t1 < 0) then
 some (3, p0)
 else
 (impl_Disk_drop.f p0 p1).bind fun t2 =>
 some (0, t2)
def impl_step_Remove_1.f (p0 : QD) (p1 : QB) : Option ((QD) × Int) :=
 (impl_copyDisk.f p0).bind fun t1 =>
 (impl_DiskOk.f p0).bind fun t2 =>
 bif !t2 then
 some (t1, 5)
 else
 bif p0.2.2.2 then
 some ((t1.1, t1.2.1, t1.2.2.1, true), 1)
 else
 bif p0.2.2.1 == 0 then
 some ((t1.1, t1.2.1, t1.2.2.1, true), 1)
 else
 (bif decide (p0.2.2.1 > 0) then
 let y3 := w64 (t1.2.2.1 - 1)
 some (p1, ([], 0, 0, false), (t1.1, t1.2.1, y3, t1.2.2.2))
 else
 some (p1, ([], 0, 0, false), t1) : Option (QB × (QD) × QD)).bind (fun (x1, x4, x6) =>
 (impl_Remove_1.f x6 x1).bind fun (t4_0, t4_1) =>
 some (t4_1, t4_0))
def impl_Truncate_1.f (p0 : QD) (p1 : QB) (p2 : Int) : Option (Int × QD) :=
 (impl_fileAt.f p0 p1).bind fun t1 =>
 bif decide (t1 < 0) then
 some (3, p0)
 else
 bif inB t1 p0.1.length then
 (impl_in.f p2 0 ((((rdA ([], [], 0) p0.1 t1).2).1).length : Int)).bind fun t2 =>
 bif !t2 then
 some (5, p0)
 else
 bif (decide (0 ≤ p2) && decide (p2 ≤ ((((rdA ([], [], 0) p0.1 t1).2).1).length : Int))) then
 let l3 := p0.1.set t1.toNat ((rdA ([], [], 0) p0.1 t1).1, (((rdA ([], [], 0) p0.1 t1).2).1).take p2.toNat, ((rdA ([], [], 0) p0.1 t1).2).2)
 let l4 := l3.set t1.toNat ((rdA ([], [], 0) l3 t1).1, ((rdA ([], [], 0) l3 t1).2).1, if p2 < ((rdA ([], [], 0) p0.1 t1).2).2 then p2 else ((rdA ([], [], 0) p0.1 t1).2).2)
 some (0, (l4, p0.2))
 else none
 else none
def impl_step_Truncate_1.f (p0 : QD) (p1 : QB × Int) : Option ((QD) × Int) :=
 (impl_copyDisk.f p0).bind fun t1 =>
 (impl_DiskOk.f p0).bind fun t2 =>
 bif !t2 then
 some (t1, 5)
 else
 bif p0.2.2.2 then
 some ((t1.1, t1.2.1, t1.2.2.1, true), 1)
 else
 bif p0.2.2.1 == 0 then
 some ((t1.1, t1.2.1, t1.2.2.1, true), 1)
 else
 (bif decide (p0.2.2.1 > 0) then
 let y3 := w64 (t1.2.2.1 - 1)
 some (p1, ([], 0, 0, false), (t1.1, t1.2.1, y3, t1.2.2.2))
 else
 some (p1, ([], 0, 0, false), t1) : Option ((QB × Int) × (QD) × QD)).bind (fun (x1, x4, x6) =>
 (impl_Truncate_1.f x6 x1.1 x1.2).bind fun (t4_0, t4_1) =>
 some (t4_1, t4_0))
def impl_used.l0 (rec : (Int × List (QF) × Int × Int) → Option (Int)) : (Int × List (QF) × Int × Int) → Option (Int) := fun (x3, x7, x8, x9) =>
 bif decide (x9 < x8) then
 bif inB x9 x7.length then
 let y1 := (rdA ([], [], 0) x7 x9).1
 let y2 := ((rdA ([], [], 0) x7 x9).2).1
 let y3 := ((rdA ([], [], 0) x7 x9).2).2
 let y4 := w64 (x3 + (y2.length : Int))
 rec (y4, x7, x8, w64 (x9 + 1))
 else none
 else
 some x3
def impl_used.f (p0 : QD) : Option (Int) :=
 (lp impl_used.l0 (0, p0.1, (p0.1.length : Int), 0)).bind (fun x3 =>
 some x3)
def impl_Append_1.f (p0 : QD) (p1 : QB) (p2 : QB) : Option (Int × QD) :=
 (impl_fileAt.f p0 p1).bind fun t1 =>
 let y2 := decide (t1 < 0)
 bif y2 then
 some (3, p0)
 else
 (impl_used.f p0).bind fun t3 =>
 let y4 := decide ((p2.length : Int) > (w64 (p0.2.1 - t3)))
 bif y4 then
 some (2, p0)
 else
 bif inB t1 p0.1.length then
 bif decide ((((rdA ([], [], 0) p0.1 t1).2).1).length + p2.length ≤ 9223372036854775807) then
 bif inB t1 p0.1.length then
 let l5 := p0.1.set t1.toNat ((rdA ([], [], 0) p0.1 t1).1, (((rdA ([], [], 0) p0.1 t1).2).1) ++ p2, ((rdA ([], [], 0) p0.1 t1).2).2)
 some (0, (l5, p0.2))
 else none
 else none
 else none
def impl_step_Append_1.f (p0 : QD) (p1 : QB × QB) : Option ((QD) × Int) :=
 (impl_copyDisk.f p0).bind fun t1 =>
 (impl_DiskOk.f p0).bind fun t2 =>
 bif !t2 then
 some (t1, 5)
 else
 bif p0.2.2.2 then
 some ((t1.1, t1.2.1, t1.2.2.1, true), 1)
 else
 bif p0.2.2.1 == 0 then
 some ((t1.1, t1.2.1, t1.2.2.1, true), 1)
 else
 (bif decide (p0.2.2.1 > 0) then
 let y3 := w64 (t1.2.2.1 - 1)
 some (p1, ([], 0, 0, false), (t1.1, t1.2.1, y3, t1.2.2.2))
 else
 some (p1, ([], 0, 0, false), t1) : Option ((QB × QB) × (QD) × QD)).bind (fun (x1, x4, x6) =>
 (impl_Append_1.f x6 x1.1 x1.2).bind fun (t4_0, t4_1) =>
 some (t4_1, t4_0))
def impl_Disk_put.l0 (rec : ((QD) × (QF) × Int) → Option ((QD) × (QF) × Int)) : ((QD) × (QF) × Int) → Option ((QD) × (QF) × Int) := fun (x0, x3, x4) =>
 bif decide (x4 < (x0.1.length : Int)) then
 bif inB x4 x0.1.length then
 bif Op.bytesLess ((rdA ([], [], 0) x0.1 x4).1) x3.1 then
 rec (x0, x3, w64 (x4 + 1))
 else
 some (x0, x3, x4)
 else none
 else
 some (x0, x3, x4)
def impl_Disk_put.f (p0 : QD) (p1 : QF) : Option (QD) :=
 (lp impl_Disk_put.l0 (p0, p1, 0)).bind (fun (x0, x3, x4) =>
 bif (decide (0 ≤ x4) && decide (x4 ≤ (x0.1.length : Int))) then
 bif decide ((([] : List (QF)).length + (x0.1.take x4.toNat).length) * 40 ≤ 140737488355328) then
 bif decide (((([] : List (QF)) ++ (x0.1.take x4.toNat)).length + [x3].length) * 40 ≤ 140737488355328) then
 let l1 := (([] : List (QF)) ++ (x0.1.take x4.toNat)) ++ [x3]
 bif (decide (0 ≤ x4) && decide (x4 ≤ (x0.1.length : Int))) then
 bif decide ((l1.length + (x0.1.drop x4.toNat).length) * 40 ≤ 140737488355328) then
 let l2 := l1 ++ (x0.1.drop x4.toNat)
 some (l2, x0.2)
 else none
 else none
 else none
 else none
 else none)
def impl_Create_1.f (p0 : QD) (p1 : QB) : Option (Int × QD) :=
 (impl_NameOk.f p1).bind fun t1 =>
 bif !t1 then
 some (5, p0)
 else
 (impl_fileAt.f p0 p1).bind fun t2 =>
 let y3 := decide (t2 ≥ 0)
 bif y3 then
 some (4, p0)
 else
 let y4 := decide ((p0.1.length : Int) ≥ 130)
 bif y4 then
 some (2, p0)
 else
 (impl_Disk_put.f p0 (p1, [], 0)).bind fun t5 =>
 some (0, t5)
def impl_step_Create_1.f (p0 : QD) (p1 : QB) : Option ((QD) × Int) :=
 (impl_copyDisk.f p0).bind fun t1 =>
 (impl_DiskOk.f p0).bind fun t2 =>
 bif !t2 then
 some (t1, 5)
 else
 bif p0.2.2.2 then
 some ((t1.1, t1.2.1, t1.2.2.1, true), 1)
 else
 bif p0.2.2.1 == 0 then
 some ((t1.1, t1.2.1, t1.2.2.1, true), 1)
 else
 (bif decide (p0.2.2.1 > 0) then
 let y3 := w64 (t1.2.2.1 - 1)
 some (p1, ([], 0, 0, false), (t1.1, t1.2.1, y3, t1.2.2.2))
 else
 some (p1, ([], 0, 0, false), t1) : Option (QB × (QD) × QD)).bind (fun (x1, x4, x6) =>
 (impl_Create_1.f x6 x1).bind fun (t4_0, t4_1) =>
 some (t4_1, t4_0))
def impl_Rename_1.f (p0 : QD) (p1 : QB) (p2 : QB) : Option (Int × QD) :=
 (impl_fileAt.f p0 p1).bind fun t1 =>
 (impl_NameOk.f p2).bind fun t2 =>
 bif !t2 then
 some (5, p0)
 else
 let y3 := decide (t1 < 0)
 bif y3 then
 some (3, p0)
 else
 bif inB t1 p0.1.length then
 let y4 := (rdA ([], [], 0) p0.1 t1).1
 let y5 := ((rdA ([], [], 0) p0.1 t1).2).1
 let y6 := ((rdA ([], [], 0) p0.1 t1).2).2
 (impl_Disk_drop.f p0 p1).bind fun t7 =>
 (impl_Disk_drop.f t7 p2).bind fun t8 =>
 (impl_Disk_put.f t8 (p2, y5, y6)).bind fun t9 =>
 some (0, t9)
 else none
def impl_step_Rename_1.f (p0 : QD) (p1 : QB × QB) : Option ((QD) × Int) :=
 (impl_copyDisk.f p0).bind fun t1 =>
 (impl_DiskOk.f p0).bind fun t2 =>
 bif !t2 then
 some (t1, 5)
 else
 bif p0.2.2.2 then
 some ((t1.1, t1.2.1, t1.2.2.1, true), 1)
 else
 bif p0.2.2.1 == 0 then
 some ((t1.1, t1.2.1, t1.2.2.1, true), 1)
 else
 (bif decide (p0.2.2.1 > 0) then
 let y3 := w64 (t1.2.2.1 - 1)
 some (p1, ([], 0, 0, false), (t1.1, t1.2.1, y3, t1.2.2.2))
 else
 some (p1, ([], 0, 0, false), t1) : Option ((QB × QB) × (QD) × QD)).bind (fun (x1, x4, x6) =>
 (impl_Rename_1.f x6 x1.1 x1.2).bind fun (t4_0, t4_1) =>
 some (t4_1, t4_0))
def impl_Sync.f (p0 : QD) (p1 : QB) : Option ((QD) × Int) :=
 (impl_step_Sync_1.f p0 p1).bind fun (t1_0, t1_1) =>
 some (t1_0, t1_1)
def spec_l3Without.f (p0 : List (QF)) (p1 : Int) : Option (List (QF)) :=
 bif (decide (0 ≤ p1) && decide (p1 ≤ (p0.length : Int))) then
 bif decide ((([] : List (QF)).length + (p0.take p1.toNat).length) * 40 ≤ 140737488355328) then
 bif (decide (0 ≤ w64 (p1 + 1)) && decide (w64 (p1 + 1) ≤ (p0.length : Int))) then
 bif decide (((([] : List (QF)) ++ (p0.take p1.toNat)).length + (p0.drop ((w64 (p1 + 1)).toNat)).length) * 40 ≤ 140737488355328) then
 let l1 := (([] : List (QF)) ++ (p0.take p1.toNat)) ++ (p0.drop ((w64 (p1 + 1)).toNat))
 some l1
 else none
 else none
 else none
 else none
def spec_Remove.f (p0 : QD) (p1 : QB) : Option ((QD) × Int) :=
 (spec_l3Begin.f p0).bind fun (t1_0, t1_1) =>
 bif t1_1 != 0 then
 some (t1_0, t1_1)
 else
 (spec_l3Find.f p0 p1).bind fun t2 =>
 bif decide (t2 < 0) then
 some (t1_0, 3)
 else
 (spec_l3Without.f t1_0.1 t2).bind fun t3 =>
 some ((t3, t1_0.2), 0)
def impl_Remove.f (p0 : QD) (p1 : QB) : Option ((QD) × Int) :=
 (impl_step_Remove_1.f p0 p1).bind fun (t1_0, t1_1) =>
 some (t1_0, t1_1)
def spec_Truncate.f (p0 : QD) (p1 : QB) (p2 : Int) : Option ((QD) × Int) :=
 (spec_l3Begin.f p0).bind fun (t1_0, t1_1) =>
 bif t1_1 != 0 then
 some (t1_0, t1_1)
 else
 (spec_l3Find.f p0 p1).bind fun t2 =>
 bif decide (t2 < 0) then
 some (t1_0, 3)
 else
 bif inB t2 p0.1.length then
 (spec_l1In.f p2 0 ((((rdA ([], [], 0) p0.1 t2).2).1).length : Int)).bind fun t3 =>
 bif !t3 then
 some (t1_0, 5)
 else
 bif inB t2 p0.1.length then
 bif (decide (0 ≤ p2) && decide (p2 ≤ ((((rdA ([], [], 0) p0.1 t2).2).1).length : Int))) then
 bif inB t2 t1_0.1.length then
 let l4 := t1_0.1.set t2.toNat ((rdA ([], [], 0) t1_0.1 t2).1, (((rdA ([], [], 0) p0.1 t2).2).1).take p2.toNat, ((rdA ([], [], 0) t1_0.1 t2).2).2)
 bif inB t2 p0.1.length then
 bif inB t2 l4.length then
 let l5 := l4.set t2.toNat ((rdA ([], [], 0) l4 t2).1, ((rdA ([], [], 0) l4 t2).2).1, if p2 < ((rdA ([], [], 0) p0.1 t2).2).2 then p2 else ((rdA ([], [], 0) p0.1 t2).2).2)
 some ((l5, t1_0.2), 0)
 else none
 else none
 else none
 else none
 else none
 else none
def impl_Truncate.f (p0 : QD) (p1 : QB) (p2 : Int) : Option ((QD) × Int) :=
 (impl_step_Truncate_1.f p0 (p1, p2)).bind fun (t1_0, t1_1) =>
 some (t1_0, t1_1)
def spec_Append.f (p0 : QD) (p1 : QB) (p2 : QB) : Option ((QD) × Int) :=
 (spec_l3Begin.f p0).bind fun (t1_0, t1_1) =>
 bif t1_1 != 0 then
 some (t1_0, t1_1)
 else
 (spec_l3Find.f p0 p1).bind fun t2 =>
 bif decide (t2 < 0) then
 some (t1_0, 3)
 else
 (spec_l3Used.f p0).bind fun t3 =>
 bif decide ((p2.length : Int) > (w64 (p0.2.1 - t3))) then
 some (t1_0, 2)
 else
 bif inB t2 p0.1.length then
 bif decide ((((rdA ([], [], 0) p0.1 t2).2).1).length + p2.length ≤ 9223372036854775807) then
 bif inB t2 t1_0.1.length then
 let l4 := t1_0.1.set t2.toNat ((rdA ([], [], 0) t1_0.1 t2).1, (((rdA ([], [], 0) p0.1 t2).2).1) ++ p2, ((rdA ([], [], 0) t1_0.1 t2).2).2)
 some ((l4, t1_0.2), 0)
 else none
 else none
 else none
def impl_Append.f (p0 : QD) (p1 : QB) (p2 : QB) : Option ((QD) × Int) :=
 (impl_step_Append_1.f p0 (p1, p2)).bind fun (t1_0, t1_1) =>
 some (t1_0, t1_1)
def spec_l3Insert.l0 (rec : (List (QF) × (QF) × List (QF) × Bool × Int) → Option ((QF) × List (QF) × Bool)) : (List (QF) × (QF) × List (QF) × Bool × Int) → Option ((QF) × List (QF) × Bool) := fun (x0, x3, x5, x6, x7) =>
 bif decide (x7 < (x0.length : Int)) then
 (bif !x6 then
 bif inB x7 x0.length then
 bif !(Op.bytesLess ((rdA ([], [], 0) x0 x7).1) x3.1 || ((rdA ([], [], 0) x0 x7).1) == x3.1) then
 bif decide ((x5.length + [x3].length) * 40 ≤ 140737488355328) then
 some (x0, x3, x5 ++ [x3], true, x7)
 else none
 else
 some (x0, x3, x5, x6, x7)
 else none
 else
 some (x0, x3, x5, x6, x7) : Option (List (QF) × (QF) × List (QF) × Bool × Int)).bind (fun (x0, x3, x5, x6, x7) =>
 bif inB x7 x0.length then
 bif decide ((x5.length + ([((rdA ([], [], 0) x0 x7).1, ((rdA ([], [], 0) x0 x7).2))] : List (QF)).length) * 40 ≤ 140737488355328) then
 let l1 := x5 ++ ([((rdA ([], [], 0) x0 x7).1, ((rdA ([], [], 0) x0 x7).2))] : List (QF))
 rec (x0, x3, l1, x6, w64 (x7 + 1))
 else none
 else none)
 else
 some (x3, x5, x6)
def spec_l3Insert.f (p0 : List (QF)) (p1 : QF) : Option (List (QF)) :=
 (lp spec_l3Insert.l0 (p0, p1, ([] : List (QF)), false, 0)).bind (fun (x3, x5, x6) =>
 bif !x6 then
 bif decide ((x5.length + [x3].length) * 40 ≤ 140737488355328) then
 some (x5 ++ [x3])
 else none
 else
 some x5)
def spec_Create.f (p0 : QD) (p1 : QB) : Option ((QD) × Int) :=
 (spec_l3Begin.f p0).bind fun (t1_0, t1_1) =>
 bif t1_1 != 0 then
 some (t1_0, t1_1)
 else
 (spec_NameOk.f p1).bind fun t2 =>
 bif !t2 then
 some (t1_0, 5)
 else
 (spec_l3Find.f p0 p1).bind fun t3 =>
 bif decide (t3 ≥ 0) then
 some (t1_0, 4)
 else
 bif decide ((p0.1.length : Int) ≥ 130) then
 some (t1_0, 2)
 else
 (spec_l3Insert.f t1_0.1 (p1, [], 0)).bind fun t4 =>
 some ((t4, t1_0.2), 0)
def impl_Create.f (p0 : QD) (p1 : QB) : Option ((QD) × Int) :=
 (impl_step_Create_1.f p0 p1).bind fun (t1_0, t1_1) =>
 some (t1_0, t1_1)
def spec_Rename.f (p0 : QD) (p1 : QB) (p2 : QB) : Option ((QD) × Int) :=
 (spec_l3Begin.f p0).bind fun (t1_0, t1_1) =>
 bif t1_1 != 0 then
 some (t1_0, t1_1)
 else
 (spec_NameOk.f p2).bind fun t2 =>
 bif !t2 then
 some (t1_0, 5)
 else
 (spec_l3Find.f p0 p1).bind fun t3 =>
 bif decide (t3 < 0) then
 some (t1_0, 3)
 else
 bif p1 == p2 then
 some (t1_0, 0)
 else
 bif inB t3 p0.1.length then
 let y4 := (rdA ([], [], 0) p0.1 t3).1
 let y5 := ((rdA ([], [], 0) p0.1 t3).2).1
 let y6 := ((rdA ([], [], 0) p0.1 t3).2).2
 (spec_l3Without.f t1_0.1 t3).bind fun t7 =>
 (spec_l3Find.f (t7, t1_0.2) p2).bind fun t8 =>
 (bif decide (t8 ≥ 0) then
 (spec_l3Without.f t7 t8).bind fun t9 =>
 some (([], 0, 0, false), (t9, t1_0.2), (p2, y5, y6))
 else
 some (([], 0, 0, false), (t7, t1_0.2), (p2, y5, y6)) : Option ((QD) × (QD) × QF)).bind (fun (x6, x8, x11) =>
 (spec_l3Insert.f x8.1 x11).bind fun t10 =>
 some ((t10, x8.2), 0))
 else none
def impl_Rename.f (p0 : QD) (p1 : QB) (p2 : QB) : Option ((QD) × Int) :=
 (impl_step_Rename_1.f p0 (p1, p2)).bind fun (t1_0, t1_1) =>
 some (t1_0, t1_1)
def laws_big.f (p0 : List Int) : Option (Bool) :=
 let y1 := decide ((p0.length : Int) > 1048576)
 some y1
def spec_l1New.l0 (rec : (List Int × Int × Int) → Option (List Int × Int)) : (List Int × Int × Int) → Option (List Int × Int) := fun (x0, x3, x4) =>
 bif decide (x4 < (x0.length : Int)) then
 bif decide (x4 < 4000) then
 bif inB x4 x0.length then
 let y2 := bits (fun _ a b => a &&& b) .i64 (w64 ((w64 ((w64 (x3 * 131)) + (w64 (rdA 0 x0 x4)))) + 7)) 1073741823
 rec (x0, y2, w64 (x4 + 1))
 else none
 else
 some (x0, x3)
 else
 some (x0, x3)
def spec_l1New.f (p0 : List Int) : Option (List Int × Int × Int) :=
 let y1 := w64 (10101 + (p0.length : Int))
 (lp spec_l1New.l0 (p0, y1, 0)).bind (fun (x0, x3) =>
 some (x0, 0, x3))
def spec_l1Byte.f (p0 : List Int × Int × Int) : Option (Int × List Int × Int × Int) :=
 let y1 := w64 ((w64 (p0.2.2 * 6364136223846793005)) + 1442695040888963407)
 let y2 := bits (fun _ a b => a &&& b) .i64 (bits (fun _ a b => a ^^^ b) .i64 (Int.fdiv y1 (2 ^ (min 33 64))) (Int.fdiv y1 (2 ^ (min 45 64)))) 255
 bif decide (p0.2.1 < (p0.1.length : Int)) then
 bif inB p0.2.1 p0.1.length then
 let y3 := bits (fun _ a b => a &&& b) .i64 (w64 (y2 + (w64 (rdA 0 p0.1 p0.2.1)))) 255
 let y4 := w64 (p0.2.1 + 1)
 some (y3, (p0.1, y4, y1))
 else none
 else
 some (y2, (p0.1, p0.2.1, y1))
def spec_l1Below.f (p0 : List Int × Int × Int) (p1 : Int) : Option (Int × List Int × Int × Int) :=
 bif decide (p1 ≤ 0) then
 some (0, p0)
 else
 bif decide (p1 ≤ 256) then
 (spec_l1Byte.f p0).bind fun (t1_0, t1_1) =>
 bif p1 != 0 then
 let y2 := Int.tmod t1_0 p1
 some (y2, t1_1)
 else none
 else
 (spec_l1Byte.f p0).bind fun (t3_0, t3_1) =>
 (spec_l1Byte.f t3_1).bind fun (t4_0, t4_1) =>
 (spec_l1Byte.f t4_1).bind fun (t5_0, t5_1) =>
 (spec_l1Byte.f t5_1).bind fun (t6_0, t6_1) =>
 bif p1 != 0 then
 let y7 := Int.tmod (w64 ((w64 ((w64 ((w64 (t3_0 * 16777216)) + (w64 (t4_0 * 65536)))) + (w64 (t5_0 * 256)))) + t6_0)) p1
 some (y7, t6_1)
 else none
def spec_l1Pick.f (p0 : List Int × Int × Int) (p1 : List (QB)) : Option (QB × List Int × Int × Int) :=
 (spec_l1Below.f p0 (p1.length : Int)).bind fun (t1_0, t1_1) =>
 bif inB t1_0 p1.length then
 let y2 := rdA [] p1 t1_0
 some (y2, t1_1)
 else none
def spec_l5Key.f (p0 : List Int × Int × Int) : Option (QB × List Int × Int × Int) :=
 (spec_l1Pick.f p0 [[97], [98], [99], [107, 101, 121], [108, 111, 110, 103, 110, 97, 109, 101]]).bind fun (t1_0, t1_1) =>
 some (t1_0, t1_1)
def spec_l1Text.l0 (rec : ((List Int × Int × Int) × List Int × Int × Int) → Option ((List Int × Int × Int) × List Int)) : ((List Int × Int × Int) × List Int × Int × Int) → Option ((List Int × Int × Int) × List Int) := fun (x0, x5, x6, x7) =>
 bif decide (x7 > 0) then
 (spec_l1Byte.f x0).bind fun (t3_0, t3_1) =>
 (bif x6 == 1 then
 let y4 := Int.tmod t3_0 2
 some (t3_1, x5, x6, x7, y4)
 else
 some (t3_1, x5, x6, x7, t3_0) : Option ((List Int × Int × Int) × List Int × Int × Int × Int)).bind (fun (x0, x5, x6, x7, x8) =>
 (bif x6 == 2 then
 let y5 := w64 (97 + (Int.tmod x8 4))
 some (x0, x5, x6, x7, y5)
 else
 some (x0, x5, x6, x7, x8) : Option ((List Int × Int × Int) × List Int × Int × Int × Int)).bind (fun (x0, x5, x6, x7, x8) =>
 bif decide ((x5.length + [IntKind.wrap .u8 (x8)].length) * 1 ≤ 140737488355328) then
 let l6 := x5 ++ [IntKind.wrap .u8 (x8)]
 rec (x0, l6, x6, w64 (x7 - 1))
 else none))
 else
 some (x0, x5)
def spec_l1Text.f (p0 : List Int × Int × Int) (p1 : Int) : Option (QB × List Int × Int × Int) :=
 (spec_l1Below.f p0 4).bind fun (t1_0, t1_1) =>
 (spec_l1Below.f t1_1 (w64 (p1 + 1))).bind fun (t2_0, t2_1) =>
 (lp spec_l1Text.l0 (t2_1, ([] : List Int), t1_0, t2_0)).bind (fun (x0, x5) =>
 some (strOf x5, x0))
def spec_l1Once.f (p0 : List Int × Int × Int) (p1 : Int) : Option (Bool × List Int × Int × Int) :=
 (spec_l1Below.f p0 p1).bind fun (t1_0, t1_1) =>
 some (t1_0 == 0, t1_1)
def spec_SumOf.l0 (rec : (List (QR) × QB × Int) → Option (QB)) : (List (QR) × QB × Int) → Option (QB) := fun (x0, x3, x4) =>
 bif decide (x4 < (x0.length : Int)) then
 bif inB x4 x0.length then
 (spec_ShowRec.f ((rdA (0, 0, [], [], 0, 0) x0 x4).1, ((rdA (0, 0, [], [], 0, 0) x0 x4).2).1, (((rdA (0, 0, [], [], 0, 0) x0 x4).2).2).1, ((((rdA (0, 0, [], [], 0, 0) x0 x4).2).2).2).1, (((((rdA (0, 0, [], [], 0, 0) x0 x4).2).2).2).2))).bind fun t1 =>
 bif decide (x3.length + t1.length ≤ 9223372036854775807) then
 rec (x0, x3 ++ t1, w64 (x4 + 1))
 else none
 else none
 else
 some x3
def spec_SumOf.f (p0 : List (QR)) : Option (Int) :=
 (lp spec_SumOf.l0 (p0, [], 0)).bind (fun x3 =>
 (spec_Crc.f x3).bind fun t2 =>
 some t2)
def spec_l9Seal.f (p0 : List (QR)) (p1 : Int) (p2 : Int) : Option (QR) :=
 (spec_SumOf.f p0).bind fun t1 =>
 let y2 := (p0.length : Int)
 some (p2, p1, [], [], y2, t1)
def impl_vars.l0 (rec : (QB × List Int × Int × Int) → Option (QB)) : (QB × List Int × Int × Int) → Option (QB) := fun (x3, x6, x7, x8) =>
 bif decide (x8 < x7) then
 bif inB x8 x6.length then
 (impl_Var.f (rdA 0 x6 x8)).bind fun t1 =>
 bif decide (x3.length + t1.length ≤ 9223372036854775807) then
 rec (x3 ++ t1, x6, x7, w64 (x8 + 1))
 else none
 else none
 else
 some x3
def impl_vars.f (p0 : List Int) : Option (QB) :=
 (lp impl_vars.l0 ([], p0, (p0.length : Int), 0)).bind (fun x3 =>
 some x3)
def impl_ShowRec.f (p0 : QR) : Option (QB) :=
 (impl_RecOk.f p0).bind fun t1 =>
 bif !t1 then
 some []
 else
 (impl_vars.f [p0.1, p0.2.1]).bind fun t2 =>
 (bif p0.1 == 1 then
 some (p0, t2, p0.1, p0.1 == 1)
 else
 some (p0, t2, p0.1, p0.1 == 4) : Option ((QR) × QB × Int × Bool)).bind (fun (x1, x3, x14, x15) =>
 bif x15 then
 (impl_textOf.f x1.2.2.1).bind fun t3 =>
 bif decide (x3.length + t3.length ≤ 9223372036854775807) then
 (impl_textOf.f x1.2.2.2.1).bind fun t4 =>
 bif decide ((x3 ++ t3).length + t4.length ≤ 9223372036854775807) then
 let y5 := (x3 ++ t3) ++ t4
 some y5
 else none
 else none
 else
 bif x14 == 2 then
 (impl_textOf.f x1.2.2.1).bind fun t6 =>
 bif decide (x3.length + t6.length ≤ 9223372036854775807) then
 some (x3 ++ t6)
 else none
 else
 (impl_Var.f x1.2.2.2.2.1).bind fun t7 =>
 bif decide (x3.length + t7.length ≤ 9223372036854775807) then
 (impl_Fixed.f x1.2.2.2.2.2 4).bind fun t8 =>
 bif decide ((x3 ++ t7).length + t8.length ≤ 9223372036854775807) then
 let y9 := (x3 ++ t7) ++ t8
 some y9
 else none
 else none)
def impl_SumOf.l0 (rec : (QB × List (QR) × Int × Int) → Option (QB)) : (QB × List (QR) × Int × Int) → Option (QB) := fun (x3, x6, x7, x8) =>
 bif decide (x8 < x7) then
 bif inB x8 x6.length then
 let y1 := (rdA (0, 0, [], [], 0, 0) x6 x8).1
 let y2 := ((rdA (0, 0, [], [], 0, 0) x6 x8).2).1
 let y3 := (((rdA (0, 0, [], [], 0, 0) x6 x8).2).2).1
 let y4 := ((((rdA (0, 0, [], [], 0, 0) x6 x8).2).2).2).1
 let y5 := (((((rdA (0, 0, [], [], 0, 0) x6 x8).2).2).2).2).1
 let y6 := (((((rdA (0, 0, [], [], 0, 0) x6 x8).2).2).2).2).2
 (impl_ShowRec.f (y1, y2, y3, y4, y5, y6)).bind fun t7 =>
 bif decide (x3.length + t7.length ≤ 9223372036854775807) then
 rec (x3 ++ t7, x6, x7, w64 (x8 + 1))
 else none
 else none
 else
 some x3
def impl_SumOf.f (p0 : List (QR)) : Option (Int) :=
 (lp impl_SumOf.l0 ([], p0, (p0.length : Int), 0)).bind (fun x3 =>
 (impl_Crc.f x3).bind fun t8 =>
 some t8)
def spec_LiveOk.l0 (rec : ((Int × List Int) × Int) → Option ((Unit) ⊕ (Bool))) : ((Int × List Int) × Int) → Option ((Unit) ⊕ (Bool)) := fun (x1, x3) =>
 bif decide (x3 < (x1.2.length : Int)) then
 (bif inB x3 x1.2.length then
 (spec_l1In.f (rdA 0 x1.2 x3) 1 (w64 (x1.1 - 1))).bind fun t3 =>
 bif !t3 then
 some (Sum.inr false)
 else
 bif decide (x3 > 0) then
 bif inB x3 x1.2.length then
 bif inB (w64 (x3 - 1)) x1.2.length then
 bif decide ((rdA 0 x1.2 x3) ≤ (rdA 0 x1.2 (w64 (x3 - 1)))) then
 some (Sum.inr false)
 else
 some (Sum.inl (x1, x3))
 else none
 else none
 else
 some (Sum.inl (x1, x3))
 else none : Option (((Int × List Int) × Int) ⊕ (Bool))).bind (fun o4 => caseS o4 (fun (x1, x3) =>
 rec (x1, w64 (x3 + 1))) (fun x2 =>
 some (Sum.inr x2)))
 else
 some (Sum.inl ())
def spec_LiveOk.f (p0 : Int × List Int) : Option (Bool) :=
 (spec_l1In.f p0.1 1 100000).bind fun t1 =>
 bif !t1 then
 some false
 else
 (spec_l1In.f (p0.2.length : Int) 1 60).bind fun t2 =>
 bif !t2 then
 some false
 else
 (lp spec_LiveOk.l0 (p0, 0)).bind (fun o5 => caseS o5 (fun _ =>
 some true) (fun x2 =>
 some x2))
def impl_LiveOk.l0 (rec : ((Int × List Int) × List Int × Int × Int) → Option ((Int × List Int) ⊕ (Bool))) : ((Int × List Int) × List Int × Int × Int) → Option ((Int × List Int) ⊕ (Bool)) := fun (x1, x6, x7, x8) =>
 bif decide (x8 < x7) then
 bif inB x8 x6.length then
 ((impl_in.f (rdA 0 x6 x8) 1 (w64 (x1.1 - 1))).bind fun t1 =>
 bif !t1 then
 some (Sum.inr false)
 else
 bif decide (x8 > 0) then
 bif inB (w64 (x8 - 1)) x1.2.length then
 bif decide ((rdA 0 x1.2 (w64 (x8 - 1))) ≥ (rdA 0 x6 x8)) then
 some (Sum.inr false)
 else
 some (Sum.inl (x1, x6, x7, x8))
 else none
 else
 some (Sum.inl (x1, x6, x7, x8)) : Option (((Int × List Int) × List Int × Int × Int) ⊕ (Bool))).bind (fun o2 => caseS o2 (fun (x1, x6, x7, x8) =>
 rec (x1, x6, x7, w64 (x8 + 1))) (fun x2 =>
 some (Sum.inr x2)))
 else none
 else
 some (Sum.inl x1)
def impl_LiveOk.f (p0 : Int × List Int) : Option (Bool) :=
 (lp impl_LiveOk.l0 (p0, p0.2, (p0.2.length : Int), 0)).bind (fun o3 => caseS o3 (fun x1 =>
 (impl_in.f x1.1 1 100000).bind fun t4 =>
 bif t4 then
 (impl_in.f (x1.2.length : Int) 1 60).bind fun t5 =>
 some t5
 else
 some false) (fun x2 =>
 some x2))
def spec_DirOk.l0 (rec : (List (QE) × Int) → Option ((Unit) ⊕ (Bool))) : (List (QE) × Int) → Option ((Unit) ⊕ (Bool)) := fun (x0, x3) =>
 bif decide (x3 < (x0.length : Int)) then
 bif inB x3 x0.length then
 let y1 := (rdA ([], 0, 0, 0, 0) x0 x3).1
 let y2 := ((rdA ([], 0, 0, 0, 0) x0 x3).2).1
 let y3 := (((rdA ([], 0, 0, 0, 0) x0 x3).2).2).1
 let y4 := ((((rdA ([], 0, 0, 0, 0) x0 x3).2).2).2).1
 let y5 := ((((rdA ([], 0, 0, 0, 0) x0 x3).2).2).2).2
 ((spec_KeyOk.f y1).bind fun t6 =>
 bif !t6 then
 some (Sum.inr false)
 else
 (spec_l1In.f y2 1 100000).bind fun t7 =>
 bif !t7 then
 some (Sum.inr false)
 else
 bif decide (y3 < 0) then
 some (Sum.inr false)
 else
 (spec_l1In.f y4 1 210).bind fun t8 =>
 bif !t8 then
 some (Sum.inr false)
 else
 (spec_l1In.f y5 1 1000000).bind fun t9 =>
 bif !t9 then
 some (Sum.inr false)
 else
 bif decide (x3 > 0) then
 bif inB (w64 (x3 - 1)) x0.length then
 bif (Op.bytesLess y1 ((rdA ([], 0, 0, 0, 0) x0 (w64 (x3 - 1))).1) || y1 == ((rdA ([], 0, 0, 0, 0) x0 (w64 (x3 - 1))).1)) then
 some (Sum.inr false)
 else
 some (Sum.inl (x0, x3))
 else none
 else
 some (Sum.inl (x0, x3)) : Option ((List (QE) × Int) ⊕ (Bool))).bind (fun o10 => caseS o10 (fun (x0, x3) =>
 rec (x0, w64 (x3 + 1))) (fun x2 =>
 some (Sum.inr x2)))
 else none
 else
 some (Sum.inl ())
def spec_DirOk.f (p0 : List (QE)) : Option (Bool) :=
 bif decide ((p0.length : Int) > 20) then
 some false
 else
 (lp spec_DirOk.l0 (p0, 0)).bind (fun o11 => caseS o11 (fun _ =>
 some true) (fun x2 =>
 some x2))
def spec_ScanRecs.l0 (rec : (QB × List (Int × Int × QR) × Int) → Option ((List (Int × Int × QR) × Int) ⊕ (List (Int × Int × QR) × Int))) : (QB × List (Int × Int × QR) × Int) → Option ((List (Int × Int × QR) × Int) ⊕ (List (Int × Int × QR) × Int)) := fun (x0, x4, x5) =>
 bif decide (x5 < (x0.length : Int)) then
 bif (decide (0 ≤ x5) && decide (x5 ≤ (x0.length : Int))) then
 (spec_Unframe.f (x0.drop x5.toNat)).bind fun (t1_0, t1_1) =>
 (spec_ReadRec.f t1_0).bind fun (t2_0, t2_1) =>
 bif t1_1 == 0 then
 some (Sum.inr (x4, x5))
 else
 bif !t2_1 then
 some (Sum.inr (x4, x5))
 else
 bif decide ((x4.length + [(x5, t1_1, t2_0)].length) * 80 ≤ 140737488355328) then
 let l3 := x4 ++ [(x5, t1_1, t2_0)]
 let y4 := w64 (x5 + t1_1)
 rec (x0, l3, y4)
 else none
 else none
 else
 some (Sum.inl (x4, x5))
def spec_ScanRecs.f (p0 : QB) : Option (List (Int × Int × QR) × Int) :=
 (lp spec_ScanRecs.l0 (p0, ([] : List (Int × Int × QR)), 0)).bind (fun o5 => caseS o5 (fun (x4, x5) =>
 some (x4, x5)) (fun (x2, x3) =>
 some (x2, x3)))
def impl_DirOk.l0 (rec : (List (QE) × List (QE) × Int × Int) → Option ((List (QE)) ⊕ (Bool))) : (List (QE) × List (QE) × Int × Int) → Option ((List (QE)) ⊕ (Bool)) := fun (x0, x5, x6, x7) =>
 bif decide (x7 < x6) then
 bif inB x7 x5.length then
 let y1 := (rdA ([], 0, 0, 0, 0) x5 x7).1
 let y2 := ((rdA ([], 0, 0, 0, 0) x5 x7).2).1
 let y3 := (((rdA ([], 0, 0, 0, 0) x5 x7).2).2).1
 let y4 := ((((rdA ([], 0, 0, 0, 0) x5 x7).2).2).2).1
 let y5 := ((((rdA ([], 0, 0, 0, 0) x5 x7).2).2).2).2
 ((impl_KeyOk.f y1).bind fun t6 =>
 bif !t6 then
 some (Sum.inr false)
 else
 (impl_in.f y2 1 100000).bind fun t7 =>
 bif !t7 then
 some (Sum.inr false)
 else
 bif decide (y3 < 0) then
 some (Sum.inr false)
 else
 (impl_in.f y4 1 210).bind fun t8 =>
 bif !t8 then
 some (Sum.inr false)
 else
 (impl_in.f y5 1 1000000).bind fun t9 =>
 bif !t9 then
 some (Sum.inr false)
 else
 bif decide (x7 > 0) then
 bif inB (w64 (x7 - 1)) x0.length then
 bif !(Op.bytesLess ((rdA ([], 0, 0, 0, 0) x0 (w64 (x7 - 1))).1) y1) then
 some (Sum.inr false)
 else
 some (Sum.inl (x0, x5, x6, x7))
 else none
 else
 some (Sum.inl (x0, x5, x6, x7)) : Option ((List (QE) × List (QE) × Int × Int) ⊕ (Bool))).bind (fun o10 => caseS o10 (fun (x0, x5, x6, x7) =>
 rec (x0, x5, x6, w64 (x7 + 1))) (fun x2 =>
 some (Sum.inr x2)))
 else none
 else
 some (Sum.inl x0)
def impl_DirOk.f (p0 : List (QE)) : Option (Bool) :=
 (lp impl_DirOk.l0 (p0, p0, (p0.length : Int), 0)).bind (fun o11 => caseS o11 (fun x0 =>
 let y12 := decide ((x0.length : Int) ≤ 20)
 some y12) (fun x2 =>
 some x2))
def impl_ScanRecs.l0 (rec : (QB × List (Int × Int × QR) × Int) → Option (List (Int × Int × QR) × Int)) : (QB × List (Int × Int × QR) × Int) → Option (List (Int × Int × QR) × Int) := fun (x0, x4, x5) =>
 bif (decide (0 ≤ x5) && decide (x5 ≤ (x0.length : Int))) then
 (impl_Unframe.f (x0.drop x5.toNat)).bind fun (t1_0, t1_1) =>
 (impl_ReadRec.f t1_0).bind fun (t2_0, t2_1) =>
 bif t1_1 == 0 then
 some (x4, x5)
 else
 bif !t2_1 then
 some (x4, x5)
 else
 bif decide ((x4.length + [(x5, t1_1, t2_0)].length) * 80 ≤ 140737488355328) then
 let l3 := x4 ++ [(x5, t1_1, t2_0)]
 let y4 := w64 (x5 + t1_1)
 rec (x0, l3, y4)
 else none
 else none
def impl_ScanRecs.f (p0 : QB) : Option (List (Int × Int × QR) × Int) :=
 (lp impl_ScanRecs.l0 (p0, [], 0)).bind (fun (x2, x3) =>
 some (x2, x3))
def spec_l11Fresh.f (p0 : QD) (p1 : QB) : Option ((QD) × Int) :=
 ((spec_l3Find.f p0 p1).bind fun t1 =>
 bif decide (t1 ≥ 0) then
 (spec_Remove.f p0 p1).bind fun (t2_0, t2_1) =>
 bif t2_1 != 0 then
 some (Sum.inr (t2_0, t2_1))
 else
 some (Sum.inl (p1, t2_0, ([], 0, 0, false)))
 else
 some (Sum.inl (p1, p0, ([], 0, 0, false))) : Option ((QB × (QD) × QD) ⊕ ((QD) × Int))).bind (fun o3 => caseS o3 (fun (x1, x2, x4) =>
 (spec_Create.f x2 x1).bind fun (t4_0, t4_1) =>
 some (t4_0, t4_1)) (fun (x4, x5) =>
 some (x4, x5)))
def spec_l11File.f (p0 : QD) (p1 : QB) (p2 : QB) : Option ((QD) × Int) :=
 (spec_l11Fresh.f p0 p1).bind fun (t1_0, t1_1) =>
 (bif t1_1 == 0 then
 (spec_Append.f t1_0 p1 p2).bind fun (t2_0, t2_1) =>
 some (p1, ([], 0, 0, false), t2_0, t2_1)
 else
 some (p1, ([], 0, 0, false), t1_0, t1_1) : Option (QB × (QD) × (QD) × Int)).bind (fun (x1, x6, x8, x9) =>
 bif x9 == 0 then
 (spec_Sync.f x8 x1).bind fun (t3_0, t3_1) =>
 some (t3_0, t3_1)
 else
 some (x8, x9))
def spec_ShowLive.l0 (rec : ((Int × List Int) × QB × Int) → Option (QB)) : ((Int × List Int) × QB × Int) → Option (QB) := fun (x1, x3, x4) =>
 bif decide (x4 < (x1.2.length : Int)) then
 bif inB x4 x1.2.length then
 (spec_Var.f (rdA 0 x1.2 x4)).bind fun t4 =>
 bif decide (x3.length + t4.length ≤ 9223372036854775807) then
 rec (x1, x3 ++ t4, w64 (x4 + 1))
 else none
 else none
 else
 some x3
def spec_ShowLive.f (p0 : Int × List Int) : Option (QB) :=
 (spec_LiveOk.f p0).bind fun t1 =>
 bif !t1 then
 some []
 else
 (spec_Var.f p0.1).bind fun t2 =>
 (spec_Var.f (p0.2.length : Int)).bind fun t3 =>
 bif decide (t2.length + t3.length ≤ 9223372036854775807) then
 (lp spec_ShowLive.l0 (p0, t2 ++ t3, 0)).bind (fun x3 =>
 (spec_Frame.f x3).bind fun t5 =>
 some t5)
 else none
def spec_l11Code.f (p0 : Int) : Option (Int) :=
 bif p0 == 0 then
 some 0
 else
 bif p0 == 1 then
 some 1
 else
 bif p0 == 2 then
 some 2
 else
 some 3
def spec_PutLive.f (p0 : QD) (p1 : Int × List Int) : Option ((QD) × Int) :=
 (spec_DiskOk.f p0).bind fun t1 =>
 bif !t1 then
 (spec_l3Copy.f p0).bind fun t2 =>
 some (t2, 4)
 else
 (spec_LiveOk.f p1).bind fun t3 =>
 bif !t3 then
 (spec_l3Copy.f p0).bind fun t4 =>
 some (t4, 4)
 else
 (spec_ShowLive.f p1).bind fun t5 =>
 (spec_l11File.f p0 [116, 101, 109, 112] t5).bind fun (t6_0, t6_1) =>
 (bif t6_1 == 0 then
 (spec_Rename.f t6_0 [116, 101, 109, 112] [108, 105, 118, 101]).bind fun (t7_0, t7_1) =>
 some (([], 0, 0, false), t7_0, t7_1)
 else
 some (([], 0, 0, false), t6_0, t6_1) : Option ((QD) × (QD) × Int)).bind (fun (x4, x6, x7) =>
 (spec_l11Code.f x7).bind fun t8 =>
 some (x6, t8))
def impl_told.f (p0 : Int) : Option (Int) :=
 bif p0 == 0 then
 some 0
 else
 bif p0 == 1 then
 some 1
 else
 bif p0 == 2 then
 some 2
 else
 some 3
def impl_worker_took_o.f (p0 : (QD) × Int) (p1 : QD) (p2 : Int) : Option ((QD) × Int) :=
 (impl_told.f p2).bind fun t1 =>
 some (p1, t1)
def impl_worker_gone.f (p0 : (QD) × Int) (p1 : QB) : Option ((QD) × Int) :=
 bif p0.2 == 0 then
 (impl_fileAt.f p0.1 p1).bind fun t1 =>
 bif decide (t1 ≥ 0) then
 (impl_Remove.f p0.1 p1).bind fun (t2_0, t2_1) =>
 (impl_worker_took_o.f p0 t2_0 t2_1).bind fun t3 =>
 some t3
 else
 some p0
 else
 some p0
def impl_worker_create.f (p0 : (QD) × Int) (p1 : QB) : Option ((QD) × Int) :=
 bif p0.2 == 0 then
 (impl_Create.f p0.1 p1).bind fun (t1_0, t1_1) =>
 (impl_worker_took_o.f p0 t1_0 t1_1).bind fun t2 =>
 some t2
 else
 some p0
def impl_worker_anew.f (p0 : (QD) × Int) (p1 : QB) : Option ((QD) × Int) :=
 (impl_worker_gone.f p0 p1).bind fun t1 =>
 (impl_worker_create.f t1 p1).bind fun t2 =>
 some t2
def impl_worker_put.f (p0 : (QD) × Int) (p1 : QB) (p2 : QB) : Option ((QD) × Int) :=
 bif p0.2 == 0 then
 (impl_Append.f p0.1 p1 p2).bind fun (t1_0, t1_1) =>
 (impl_worker_took_o.f p0 t1_0 t1_1).bind fun t2 =>
 some t2
 else
 some p0
def impl_worker_sync.f (p0 : (QD) × Int) (p1 : QB) : Option ((QD) × Int) :=
 bif p0.2 == 0 then
 (impl_Sync.f p0.1 p1).bind fun (t1_0, t1_1) =>
 (impl_worker_took_o.f p0 t1_0 t1_1).bind fun t2 =>
 some t2
 else
 some p0
def impl_worker_fileOf.f (p0 : (QD) × Int) (p1 : QB) (p2 : QB) : Option ((QD) × Int) :=
 (impl_worker_anew.f p0 p1).bind fun t1 =>
 (impl_worker_put.f t1 p1 p2).bind fun t2 =>
 (impl_worker_sync.f t2 p1).bind fun t3 =>
 some t3
def impl_ShowLive.f (p0 : Int × List Int) : Option (QB) :=
 (impl_LiveOk.f p0).bind fun t1 =>
 bif !t1 then
 some []
 else
 (impl_vars.f [p0.1, (p0.2.length : Int)]).bind fun t2 =>
 (impl_vars.f p0.2).bind fun t3 =>
 bif decide (t2.length + t3.length ≤ 9223372036854775807) then
 (impl_Frame.f (t2 ++ t3)).bind fun t4 =>
 some t4
 else none
def impl_worker_rename.f (p0 : (QD) × Int) (p1 : QB) (p2 : QB) : Option ((QD) × Int) :=
 bif p0.2 == 0 then
 (impl_Rename.f p0.1 p1 p2).bind fun (t1_0, t1_1) =>
 (impl_worker_took_o.f p0 t1_0 t1_1).bind fun t2 =>
 some t2
 else
 some p0
def impl_worker_putLive.f (p0 : (QD) × Int) (p1 : Int × List Int) : Option ((QD) × Int) :=
 (impl_ShowLive.f p1).bind fun t1 =>
 (impl_worker_fileOf.f p0 [116, 101, 109, 112] t1).bind fun t2 =>
 (impl_worker_rename.f t2 [116, 101, 109, 112] [108, 105, 118, 101]).bind fun t3 =>
 some t3
def spec_l3Name.f (p0 : List Int × Int × Int) : Option (QB × List Int × Int × Int) :=
 (spec_l1Pick.f p0 [[108, 105, 118, 101], [115, 101, 103, 49], [115, 101, 103, 50], [115, 101, 103, 51], [116, 101, 109, 112], [104, 105, 110, 116, 49], [120], [97, 57]]).bind fun (t1_0, t1_1) =>
 some (t1_0, t1_1)
def spec_DiskNew.f (p0 : Int) : Option (QD) :=
 (spec_l1In.f p0 0 100000).bind fun t1 =>
 bif !t1 then
 some ([], 0, 0, false)
 else
 some ([], p0, (-1), false)
def spec_l1PickInt.f (p0 : List Int × Int × Int) (p1 : List Int) : Option (Int × List Int × Int × Int) :=
 (spec_l1Below.f p0 (p1.length : Int)).bind fun (t1_0, t1_1) =>
 bif inB t1_0 p1.length then
 some (rdA 0 p1 t1_0, t1_1)
 else none
def impl_copyDir.f (p0 : List (QE)) : Option (List (QE)) :=
 bif decide ((([] : List (QE)).length + p0.length) * 48 ≤ 140737488355328) then
 let l1 := ([] : List (QE)) ++ p0
 some l1
 else none
def spec_DirDrop.l0 (rec : (List (QE) × QB × List (QE) × Int) → Option (List (QE))) : (List (QE) × QB × List (QE) × Int) → Option (List (QE)) := fun (x0, x1, x5, x6) =>
 bif decide (x6 < (x0.length : Int)) then
 (bif inB x6 x0.length then
 bif !(((rdA ([], 0, 0, 0, 0) x0 x6).1) == x1) then
 bif inB x6 x0.length then
 bif decide ((x5.length + ([((rdA ([], 0, 0, 0, 0) x0 x6).1, ((rdA ([], 0, 0, 0, 0) x0 x6).2).1, (((rdA ([], 0, 0, 0, 0) x0 x6).2).2).1, ((((rdA ([], 0, 0, 0, 0) x0 x6).2).2).2))] : List (QE)).length) * 48 ≤ 140737488355328) then
 let l1 := x5 ++ ([((rdA ([], 0, 0, 0, 0) x0 x6).1, ((rdA ([], 0, 0, 0, 0) x0 x6).2).1, (((rdA ([], 0, 0, 0, 0) x0 x6).2).2).1, ((((rdA ([], 0, 0, 0, 0) x0 x6).2).2).2))] : List (QE))
 some (x0, x1, l1, x6)
 else none
 else none
 else
 some (x0, x1, x5, x6)
 else none : Option (List (QE) × QB × List (QE) × Int)).bind (fun (x0, x1, x5, x6) =>
 rec (x0, x1, x5, w64 (x6 + 1)))
 else
 some x5
def spec_DirDrop.f (p0 : List (QE)) (p1 : QB) : Option (List (QE)) :=
 (lp spec_DirDrop.l0 (p0, p1, ([] : List (QE)), 0)).bind (fun x5 =>
 some x5)
def spec_DirPut.l0 (rec : (List (QE) × (QE) × List (QE) × Bool × Int) → Option ((QE) × List (QE) × Bool)) : (List (QE) × (QE) × List (QE) × Bool × Int) → Option ((QE) × List (QE) × Bool) := fun (x0, x3, x5, x6, x7) =>
 bif decide (x7 < (x0.length : Int)) then
 (bif inB x7 x0.length then
 bif ((rdA ([], 0, 0, 0, 0) x0 x7).1) == x3.1 then
 some (x0, x3, x5, x6, x7)
 else
 (bif !x6 then
 bif inB x7 x0.length then
 bif !(Op.bytesLess ((rdA ([], 0, 0, 0, 0) x0 x7).1) x3.1 || ((rdA ([], 0, 0, 0, 0) x0 x7).1) == x3.1) then
 bif decide ((x5.length + [x3].length) * 48 ≤ 140737488355328) then
 some (x0, x3, x5 ++ [x3], true, x7)
 else none
 else
 some (x0, x3, x5, x6, x7)
 else none
 else
 some (x0, x3, x5, x6, x7) : Option (List (QE) × (QE) × List (QE) × Bool × Int)).bind (fun (x0, x3, x5, x6, x7) =>
 bif inB x7 x0.length then
 bif decide ((x5.length + ([((rdA ([], 0, 0, 0, 0) x0 x7).1, ((rdA ([], 0, 0, 0, 0) x0 x7).2).1, (((rdA ([], 0, 0, 0, 0) x0 x7).2).2).1, ((((rdA ([], 0, 0, 0, 0) x0 x7).2).2).2))] : List (QE)).length) * 48 ≤ 140737488355328) then
 let l1 := x5 ++ ([((rdA ([], 0, 0, 0, 0) x0 x7).1, ((rdA ([], 0, 0, 0, 0) x0 x7).2).1, (((rdA ([], 0, 0, 0, 0) x0 x7).2).2).1, ((((rdA ([], 0, 0, 0, 0) x0 x7).2).2).2))] : List (QE))
 some (x0, x3, l1, x6, x7)
 else none
 else none)
 else none : Option (List (QE) × (QE) × List (QE) × Bool × Int)).bind (fun (x0, x3, x5, x6, x7) =>
 rec (x0, x3, x5, x6, w64 (x7 + 1)))
 else
 some (x3, x5, x6)
def spec_DirPut.f (p0 : List (QE)) (p1 : QE) : Option (List (QE)) :=
 (lp spec_DirPut.l0 (p0, p1, ([] : List (QE)), false, 0)).bind (fun (x3, x5, x6) =>
 bif !x6 then
 bif decide ((x5.length + [x3].length) * 48 ≤ 140737488355328) then
 some (x5 ++ [x3])
 else none
 else
 some x5)
def spec_l9Put.f (p0 : List (QE)) (p1 : Int × Int × Int × QR) : Option (List (QE)) :=
 bif p1.2.2.2.1 == 2 then
 (spec_DirDrop.f p0 p1.2.2.2.2.2.1).bind fun t1 =>
 some t1
 else
 (spec_DirPut.f p0 (p1.2.2.2.2.2.1, p1.1, p1.2.1, p1.2.2.1, p1.2.2.2.2.1)).bind fun t2 =>
 some t2
def impl_DirDrop.l0 (rec : (QB × List (QE) × List (QE) × Int × Int) → Option (List (QE))) : (QB × List (QE) × List (QE) × Int × Int) → Option (List (QE)) := fun (x1, x5, x8, x9, x10) =>
 bif decide (x10 < x9) then
 bif inB x10 x8.length then
 let y1 := (rdA ([], 0, 0, 0, 0) x8 x10).1
 let y2 := ((rdA ([], 0, 0, 0, 0) x8 x10).2).1
 let y3 := (((rdA ([], 0, 0, 0, 0) x8 x10).2).2).1
 let y4 := ((((rdA ([], 0, 0, 0, 0) x8 x10).2).2).2).1
 let y5 := ((((rdA ([], 0, 0, 0, 0) x8 x10).2).2).2).2
 (bif !(y1 == x1) then
 bif decide ((x5.length + [(y1, y2, y3, y4, y5)].length) * 48 ≤ 140737488355328) then
 let l6 := x5 ++ [(y1, y2, y3, y4, y5)]
 some (x1, l6, x8, x9, x10)
 else none
 else
 some (x1, x5, x8, x9, x10) : Option (QB × List (QE) × List (QE) × Int × Int)).bind (fun (x1, x5, x8, x9, x10) =>
 rec (x1, x5, x8, x9, w64 (x10 + 1)))
 else none
 else
 some x5
def impl_DirDrop.f (p0 : List (QE)) (p1 : QB) : Option (List (QE)) :=
 (lp impl_DirDrop.l0 (p1, [], p0, (p0.length : Int), 0)).bind (fun x5 =>
 some x5)
def impl_DirPut.l0 (rec : ((QE) × List (QE) × Int) → Option ((QE) × List (QE) × Int)) : ((QE) × List (QE) × Int) → Option ((QE) × List (QE) × Int) := fun (x3, x5, x6) =>
 bif decide (x6 < (x5.length : Int)) then
 bif inB x6 x5.length then
 bif (Op.bytesLess ((rdA ([], 0, 0, 0, 0) x5 x6).1) x3.1 || ((rdA ([], 0, 0, 0, 0) x5 x6).1) == x3.1) then
 rec (x3, x5, w64 (x6 + 1))
 else
 some (x3, x5, x6)
 else none
 else
 some (x3, x5, x6)
def impl_DirPut.f (p0 : List (QE)) (p1 : QE) : Option (List (QE)) :=
 (impl_DirDrop.f p0 p1.1).bind fun t1 =>
 (lp impl_DirPut.l0 (p1, t1, 0)).bind (fun (x3, x5, x6) =>
 bif (decide (0 ≤ x6) && decide (x6 ≤ (x5.length : Int))) then
 (impl_copyDir.f (x5.take x6.toNat)).bind fun t2 =>
 bif decide ((t2.length + [x3].length) * 48 ≤ 140737488355328) then
 bif (decide (0 ≤ x6) && decide (x6 ≤ (x5.length : Int))) then
 bif decide (((t2 ++ [x3]).length + (x5.drop x6.toNat).length) * 48 ≤ 140737488355328) then
 let l3 := (t2 ++ [x3]) ++ (x5.drop x6.toNat)
 some l3
 else none
 else none
 else none
 else none)
def spec_HintName.f (p0 : Int) : Option (QB) :=
 (spec_l1In.f p0 1 100000).bind fun t1 =>
 bif !t1 then
 some []
 else
 (spec_Dec.f p0).bind fun t2 =>
 bif decide (([104, 105, 110, 116] : QB).length + t2.length ≤ 9223372036854775807) then
 let y3 := [104, 105, 110, 116] ++ t2
 some y3
 else none
def spec_HintOf.l0 (rec : (Int × (Int × Int × List (QE)) × List (Int × Int × QR) × (Int × Int × List (QE)) × List (QR) × Int) → Option (((Int × Int × List (QE)) × List (Int × Int × QR) × (Int × Int × List (QE)) × List (QR)) ⊕ ((Int × Int × List (QE)) × Bool))) : (Int × (Int × Int × List (QE)) × List (Int × Int × QR) × (Int × Int × List (QE)) × List (QR) × Int) → Option (((Int × Int × List (QE)) × List (Int × Int × QR) × (Int × Int × List (QE)) × List (QR)) ⊕ ((Int × Int × List (QE)) × Bool)) := fun (x0, x4, x6, x8, x9, x10) =>
 bif decide ((w64 (x10 + 1)) < (x6.length : Int)) then
 bif inB x10 x6.length then
 let y5 := (((rdA (0, 0, 0, 0, [], [], 0, 0) x6 x10).2).2).1
 let y6 := ((((rdA (0, 0, 0, 0, [], [], 0, 0) x6 x10).2).2).2).1
 let y7 := (((((rdA (0, 0, 0, 0, [], [], 0, 0) x6 x10).2).2).2).2).1
 let y8 := ((((((rdA (0, 0, 0, 0, [], [], 0, 0) x6 x10).2).2).2).2).2).1
 let y9 := (((((((rdA (0, 0, 0, 0, [], [], 0, 0) x6 x10).2).2).2).2).2).2).1
 let y10 := (((((((rdA (0, 0, 0, 0, [], [], 0, 0) x6 x10).2).2).2).2).2).2).2
 (bif y5 != 4 then
 some (Sum.inr ((0, 0, []), false))
 else
 bif decide (y6 > x8.2.1) then
 some (Sum.inr ((0, 0, []), false))
 else
 bif decide (x10 > 0) then
 bif inB (w64 (x10 - 1)) x6.length then
 bif (Op.bytesLess y7 ((((((rdA (0, 0, 0, 0, [], [], 0, 0) x6 (w64 (x10 - 1))).2).2).2).2).1) || y7 == ((((((rdA (0, 0, 0, 0, [], [], 0, 0) x6 (w64 (x10 - 1))).2).2).2).2).1)) then
 some (Sum.inr ((0, 0, []), false))
 else
 some (Sum.inl (x0, x4, x6, x8, x9, x10, (y5, y6, y7, y8, y9, y10)))
 else none
 else
 some (Sum.inl (x0, x4, x6, x8, x9, x10, (y5, y6, y7, y8, y9, y10))) : Option ((Int × (Int × Int × List (QE)) × List (Int × Int × QR) × (Int × Int × List (QE)) × List (QR) × Int × QR) ⊕ ((Int × Int × List (QE)) × Bool))).bind (fun o11 => caseS o11 (fun (x0, x4, x6, x8, x9, x10, x11) =>
 bif decide ((x9.length + [x11].length) * 64 ≤ 140737488355328) then
 bif inB x10 x6.length then
 bif inB x10 x6.length then
 bif decide ((x8.2.2.length + ([(x11.2.2.1, x0, (rdA (0, 0, 0, 0, [], [], 0, 0) x6 x10).1, ((rdA (0, 0, 0, 0, [], [], 0, 0) x6 x10).2).1, x11.2.1)] : List (QE)).length) * 48 ≤ 140737488355328) then
 let l12 := x8.2.2 ++ ([(x11.2.2.1, x0, (rdA (0, 0, 0, 0, [], [], 0, 0) x6 x10).1, ((rdA (0, 0, 0, 0, [], [], 0, 0) x6 x10).2).1, x11.2.1)] : List (QE))
 rec (x0, x4, x6, (x8.1, x8.2.1, l12), x9 ++ [x11], w64 (x10 + 1))
 else none
 else none
 else none
 else none) (fun (x4, x5) =>
 some (Sum.inr (x4, x5))))
 else none
 else
 some (Sum.inl (x4, x6, x8, x9))
def spec_HintOf.f (p0 : Int) (p1 : QB) : Option ((Int × Int × List (QE)) × Bool) :=
 (spec_ScanRecs.f p1).bind fun (t1_0, t1_1) =>
 bif t1_1 != (p1.length : Int) then
 some ((0, 0, []), false)
 else
 bif (t1_0.length : Int) == 0 then
 some ((0, 0, []), false)
 else
 bif inB (w64 ((t1_0.length : Int) - 1)) t1_0.length then
 bif ((((rdA (0, 0, 0, 0, [], [], 0, 0) t1_0 (w64 ((t1_0.length : Int) - 1))).2).2).1) != 5 then
 some ((0, 0, []), false)
 else
 (spec_SegName.f p0).bind fun t2 =>
 bif t2 == [] then
 some ((0, 0, []), false)
 else
 bif inB (w64 ((t1_0.length : Int) - 1)) t1_0.length then
 let y3 := (p1.length : Int)
 let y4 := ((((rdA (0, 0, 0, 0, [], [], 0, 0) t1_0 (w64 ((t1_0.length : Int) - 1))).2).2).2).1
 (lp spec_HintOf.l0 (p0, (0, 0, []), t1_0, (y3, y4, []), ([] : List (QR)), 0)).bind (fun o13 => caseS o13 (fun (x4, x6, x8, x9) =>
 bif inB (w64 ((x6.length : Int) - 1)) x6.length then
 let y14 := (((rdA (0, 0, 0, 0, [], [], 0, 0) x6 (w64 ((x6.length : Int) - 1))).2).2).1
 let y15 := ((((rdA (0, 0, 0, 0, [], [], 0, 0) x6 (w64 ((x6.length : Int) - 1))).2).2).2).1
 let y16 := (((((rdA (0, 0, 0, 0, [], [], 0, 0) x6 (w64 ((x6.length : Int) - 1))).2).2).2).2).1
 let y17 := ((((((rdA (0, 0, 0, 0, [], [], 0, 0) x6 (w64 ((x6.length : Int) - 1))).2).2).2).2).2).1
 let y18 := (((((((rdA (0, 0, 0, 0, [], [], 0, 0) x6 (w64 ((x6.length : Int) - 1))).2).2).2).2).2).2).1
 let y19 := (((((((rdA (0, 0, 0, 0, [], [], 0, 0) x6 (w64 ((x6.length : Int) - 1))).2).2).2).2).2).2).2
 bif y18 != (x9.length : Int) then
 some ((0, 0, []), false)
 else
 (spec_SumOf.f x9).bind fun t20 =>
 bif y19 != t20 then
 some ((0, 0, []), false)
 else
 some (x8, true)
 else none) (fun (x4, x5) =>
 some (x4, x5)))
 else none
 else none
def spec_l10Ok.l0 (rec : ((Int × Int × List (QE)) × Int) → Option ((Unit) ⊕ (Bool))) : ((Int × Int × List (QE)) × Int) → Option ((Unit) ⊕ (Bool)) := fun (x1, x3) =>
 bif decide (x3 < (x1.2.2.length : Int)) then
 bif inB x3 x1.2.2.length then
 bif inB 0 x1.2.2.length then
 bif (((rdA ([], 0, 0, 0, 0) x1.2.2 x3).2).1) != (((rdA ([], 0, 0, 0, 0) x1.2.2 0).2).1) then
 some (Sum.inr false)
 else
 bif inB x3 x1.2.2.length then
 bif decide (((((rdA ([], 0, 0, 0, 0) x1.2.2 x3).2).2).1) > 100000) then
 some (Sum.inr false)
 else
 rec (x1, w64 (x3 + 1))
 else none
 else none
 else none
 else
 some (Sum.inl ())
def spec_l10Ok.f (p0 : Int × Int × List (QE)) : Option (Bool) :=
 (spec_l1In.f p0.1 0 100000).bind fun t1 =>
 bif !t1 then
 some false
 else
 (spec_l1In.f p0.2.1 0 1000000).bind fun t2 =>
 bif !t2 then
 some false
 else
 (spec_DirOk.f p0.2.2).bind fun t3 =>
 bif !t3 then
 some false
 else
 (lp spec_l10Ok.l0 (p0, 0)).bind (fun o4 => caseS o4 (fun _ =>
 some true) (fun x2 =>
 some x2))
def spec_ShowHint.l0 (rec : ((Int × Int × List (QE)) × QB × Int) → Option (QB)) : ((Int × Int × List (QE)) × QB × Int) → Option (QB) := fun (x1, x3, x4) =>
 bif decide (x4 < (x1.2.2.length : Int)) then
 bif inB x4 x1.2.2.length then
 let y6 := (rdA ([], 0, 0, 0, 0) x1.2.2 x4).1
 let y7 := ((rdA ([], 0, 0, 0, 0) x1.2.2 x4).2).1
 let y8 := (((rdA ([], 0, 0, 0, 0) x1.2.2 x4).2).2).1
 let y9 := ((((rdA ([], 0, 0, 0, 0) x1.2.2 x4).2).2).2).1
 let y10 := ((((rdA ([], 0, 0, 0, 0) x1.2.2 x4).2).2).2).2
 (spec_Var.f (y6.length : Int)).bind fun t11 =>
 bif decide (x3.length + t11.length ≤ 9223372036854775807) then
 bif decide ((x3 ++ t11).length + y6.length ≤ 9223372036854775807) then
 (spec_Var.f y7).bind fun t12 =>
 bif decide (((x3 ++ t11) ++ y6).length + t12.length ≤ 9223372036854775807) then
 (spec_Var.f y8).bind fun t13 =>
 bif decide ((((x3 ++ t11) ++ y6) ++ t12).length + t13.length ≤ 9223372036854775807) then
 (spec_Var.f y9).bind fun t14 =>
 bif decide (((((x3 ++ t11) ++ y6) ++ t12) ++ t13).length + t14.length ≤ 9223372036854775807) then
 (spec_Var.f y10).bind fun t15 =>
 bif decide ((((((x3 ++ t11) ++ y6) ++ t12) ++ t13) ++ t14).length + t15.length ≤ 9223372036854775807) then
 let y16 := (((((x3 ++ t11) ++ y6) ++ t12) ++ t13) ++ t14) ++ t15
 rec (x1, y16, w64 (x4 + 1))
 else none
 else none
 else none
 else none
 else none
 else none
 else none
 else
 some x3
def spec_ShowHint.f (p0 : Int × Int × List (QE)) : Option (QB) :=
 (spec_l10Ok.f p0).bind fun t1 =>
 bif !t1 then
 some []
 else
 (spec_Var.f p0.1).bind fun t2 =>
 (spec_Var.f p0.2.1).bind fun t3 =>
 bif decide (t2.length + t3.length ≤ 9223372036854775807) then
 (spec_Var.f (p0.2.2.length : Int)).bind fun t4 =>
 bif decide ((t2 ++ t3).length + t4.length ≤ 9223372036854775807) then
 let y5 := (t2 ++ t3) ++ t4
 (lp spec_ShowHint.l0 (p0, y5, 0)).bind (fun x3 =>
 (spec_Crc.f x3).bind fun t17 =>
 (spec_Fixed.f t17 4).bind fun t18 =>
 bif decide (t18.length + x3.length ≤ 9223372036854775807) then
 some (t18 ++ x3)
 else none)
 else none
 else none
def spec_l3Disk.l0 (rec : ((List Int × Int × Int) × (QD) × (QD) × Int) → Option ((List Int × Int × Int) × (QD) × QD)) : ((List Int × Int × Int) × (QD) × (QD) × Int) → Option ((List Int × Int × Int) × (QD) × QD) := fun (x0, x2, x3, x4) =>
 bif decide (x4 > 0) then
 (spec_l3Name.f x0).bind fun (t3_0, t3_1) =>
 (spec_l1Below.f t3_1 6).bind fun (t4_0, t4_1) =>
 ((bif t4_0 == 0 then
 some (t4_1, x2, x3, x4, t3_0, ([], x3.2), t4_0, t4_0 == 0)
 else
 some (t4_1, x2, x3, x4, t3_0, ([], x3.2), t4_0, t4_0 == 1) : Option ((List Int × Int × Int) × (QD) × (QD) × Int × QB × (QD) × Int × Bool)).bind (fun (x0, x2, x3, x4, x5, x6, x18, x27) =>
 bif x27 then
 (spec_Create.f x3 x5).bind fun (t5_0, t5_1) =>
 some (x0, x2, x3, x4, t5_0)
 else
 (bif x18 == 2 then
 some (x0, x2, x3, x4, x5, ([], x6.2), x18, x18 == 2)
 else
 some (x0, x2, x3, x4, x5, ([], x6.2), x18, x18 == 3) : Option ((List Int × Int × Int) × (QD) × (QD) × Int × QB × (QD) × Int × Bool)).bind (fun (x0, x2, x3, x4, x5, x6, x18, x36) =>
 bif x36 then
 (spec_l1Text.f x0 9).bind fun (t6_0, t6_1) =>
 (spec_Append.f x3 x5 t6_0).bind fun (t7_0, t7_1) =>
 some (t6_1, x2, x3, x4, t7_0)
 else
 (bif x18 == 4 then
 (spec_Sync.f x3 x5).bind fun (t8_0, t8_1) =>
 some (x0, x2, x3, x4, t8_0)
 else
 (spec_l3Name.f x0).bind fun (t9_0, t9_1) =>
 (spec_Rename.f x3 x5 t9_0).bind fun (t10_0, t10_1) =>
 some (t9_1, x2, x3, x4, t10_0) : Option ((List Int × Int × Int) × (QD) × (QD) × Int × QD)).bind (fun (x0, x2, x3, x4, x6) =>
 some (x0, x2, x3, x4, x6)))) : Option ((List Int × Int × Int) × (QD) × (QD) × Int × QD)).bind (fun (x0, x2, x3, x4, x6) =>
 rec (x0, x2, x6, w64 (x4 - 1)))
 else
 some (x0, x2, x3)
def spec_l3Disk.f (p0 : List Int × Int × Int) : Option ((QD) × List Int × Int × Int) :=
 (spec_DiskNew.f 200).bind fun t1 =>
 (spec_l1Below.f p0 12).bind fun (t2_0, t2_1) =>
 (lp spec_l3Disk.l0 (t2_1, ([], 0, 0, false), t1, t2_0)).bind (fun (x0, x2, x3) =>
 some (x3, x0))
def spec_l3Any.l1 (rec : ((List Int × Int × Int) × (QD) × (QD) × Int) → Option ((List Int × Int × Int) × (QD) × QD)) : ((List Int × Int × Int) × (QD) × (QD) × Int) → Option ((List Int × Int × Int) × (QD) × QD) := fun (x0, x2, x3, x4) =>
 (spec_l1Below.f x0 3).bind fun (t11_0, t11_1) =>
 bif decide (x4 < (w64 (129 + t11_0))) then
 bif decide ((x3.1.length : Int) < 131) then
 (spec_Dec.f (w64 (100 + x4))).bind fun t12 =>
 bif decide (([121] : QB).length + t12.length ≤ 9223372036854775807) then
 bif decide ((x3.1.length + ([([121] ++ t12, [], 0)] : List (QF)).length) * 40 ≤ 140737488355328) then
 let l13 := x3.1 ++ ([([121] ++ t12, [], 0)] : List (QF))
 rec (t11_1, x2, (l13, x3.2), w64 (x4 + 1))
 else none
 else none
 else
 some (t11_1, x2, x3)
 else
 some (t11_1, x2, x3)
def spec_l3Any.f (p0 : List Int × Int × Int) : Option ((QD) × List Int × Int × Int) :=
 (spec_l3Disk.f p0).bind fun (t1_0, t1_1) =>
 (spec_l1Below.f t1_1 14).bind fun (t2_0, t2_1) =>
 bif t2_0 == 0 then
 (spec_l1PickInt.f t2_1 [0, 1, (-2), (-1)]).bind fun (t3_0, t3_1) =>
 some ((t1_0.1, t1_0.2.1, t3_0, t1_0.2.2.2), t3_1)
 else
 bif t2_0 == 1 then
 some ((t1_0.1, t1_0.2.1, t1_0.2.2.1, true), t2_1)
 else
 bif t2_0 == 2 then
 (spec_l3Used.f t1_0).bind fun t4 =>
 (spec_l3Used.f t1_0).bind fun t5 =>
 (spec_l1PickInt.f t2_1 [(-1), 5, t4, w64 (t5 + 3), 100000, 100001]).bind fun (t6_0, t6_1) =>
 some ((t1_0.1, t6_0, t1_0.2.2), t6_1)
 else
 bif t2_0 == 3 then
 bif decide ((t1_0.1.length : Int) > 0) then
 (spec_l1Below.f t2_1 9).bind fun (t7_0, t7_1) =>
 bif inB 0 t1_0.1.length then
 let l8 := t1_0.1.set 0 ((rdA ([], [], 0) t1_0.1 0).1, ((rdA ([], [], 0) t1_0.1 0).2).1, w64 (t7_0 - 1))
 some ((l8, t1_0.2), t7_1)
 else none
 else
 some (t1_0, t2_1)
 else
 bif t2_0 == 4 then
 bif decide ((t1_0.1.length : Int) > 0) then
 (spec_l1Pick.f t2_1 ([[], [65], [122, 122], [116, 111, 111, 108, 111, 110, 103, 97, 110, 97, 109, 101, 49]] : List (QB))).bind fun (t9_0, t9_1) =>
 bif inB 0 t1_0.1.length then
 let l10 := t1_0.1.set 0 (t9_0, (rdA ([], [], 0) t1_0.1 0).2)
 some ((l10, t1_0.2), t9_1)
 else none
 else
 some (t1_0, t2_1)
 else
 bif t2_0 == 5 then
 (lp spec_l3Any.l1 (t2_1, ([], 0, 0, false), t1_0, 0)).bind (fun (x0, x2, x3) =>
 some (x3, x0))
 else
 some (t1_0, t2_1)
def spec_ReadDec.l0 (rec : (QB × Int × Int × Int) → Option (QB × Int × Int)) : (QB × Int × Int × Int) → Option (QB × Int × Int) := fun (x0, x4, x5, x6) =>
 bif decide (x6 < (x0.length : Int)) then
 bif decide (x6 < 11) then
 (bif inB x6 x0.length then
 bif decide ((bAt x0 x6) ≥ 48) then
 bif inB x6 x0.length then
 bif decide ((bAt x0 x6) ≤ 57) then
 bif inB x6 x0.length then
 let y1 := w64 ((w64 (x4 * 10)) + (w64 (IntKind.wrap .u8 ((bAt x0 x6) - 48))))
 some (x0, y1, w64 (x5 + 1), x6)
 else none
 else
 some (x0, x4, x5, x6)
 else none
 else
 some (x0, x4, x5, x6)
 else none : Option (QB × Int × Int × Int)).bind (fun (x0, x4, x5, x6) =>
 rec (x0, x4, x5, w64 (x6 + 1)))
 else
 some (x0, x4, x5)
 else
 some (x0, x4, x5)
def spec_ReadDec.f (p0 : QB) : Option (Int × Bool) :=
 (lp spec_ReadDec.l0 (p0, 0, 0, 0)).bind (fun (x0, x4, x5) =>
 (bif decide ((x0.length : Int) > 0) then
 bif inB 0 x0.length then
 bif (bAt x0 0) == 45 then
 some (x0, w64 (0 - x4), x5)
 else
 some (x0, x4, x5)
 else none
 else
 some (x0, x4, x5) : Option (QB × Int × Int)).bind (fun (x0, x4, x5) =>
 bif decide (x5 > 9) then
 some (0, false)
 else
 bif decide ((x0.length : Int) > 10) then
 some (0, false)
 else
 (spec_Dec.f x4).bind fun t2 =>
 bif !(t2 == x0) then
 some (0, false)
 else
 some (x4, true)))
def spec_IdOf.l0 (rec : (QB × Int) → Option ((Unit) ⊕ (Int × Bool))) : (QB × Int) → Option ((Unit) ⊕ (Int × Bool)) := fun (x0, x4) =>
 bif decide (x4 ≤ 4) then
 (bif decide ((x0.length : Int) > x4) then
 bif (decide (0 ≤ x4) && decide (x4 ≤ (x0.length : Int))) then
 (spec_ReadDec.f (x0.drop x4.toNat)).bind fun (t1_0, t1_1) =>
 (bif t1_1 then
 bif decide (t1_0 ≥ 1) then
 (spec_SegName.f t1_0).bind fun t2 =>
 bif t2 == x0 then
 some (Sum.inr (t1_0, true))
 else
 (spec_HintName.f t1_0).bind fun t3 =>
 bif t3 == x0 then
 some (Sum.inr (t1_0, true))
 else
 some (Sum.inl (x0, x4))
 else
 some (Sum.inl (x0, x4))
 else
 some (Sum.inl (x0, x4)) : Option ((QB × Int) ⊕ (Int × Bool))).bind (fun o4 => caseS o4 (fun (x0, x4) =>
 some (Sum.inl (x0, x4))) (fun (x2, x3) =>
 some (Sum.inr (x2, x3))))
 else none
 else
 some (Sum.inl (x0, x4)) : Option ((QB × Int) ⊕ (Int × Bool))).bind (fun o5 => caseS o5 (fun (x0, x4) =>
 rec (x0, w64 (x4 + 1))) (fun (x2, x3) =>
 some (Sum.inr (x2, x3))))
 else
 some (Sum.inl ())
def spec_IdOf.f (p0 : QB) : Option (Int × Bool) :=
 (lp spec_IdOf.l0 (p0, 3)).bind (fun o6 => caseS o6 (fun _ =>
 some (0, false)) (fun (x2, x3) =>
 some (x2, x3)))
def spec_Orphans.l2 (rec : ((QD) × (Int × List Int) × List (QB) × Int × Int × Bool × Bool × Int) → Option ((QD) × (Int × List Int) × List (QB) × Int × Bool × Bool)) : ((QD) × (Int × List Int) × List (QB) × Int × Int × Bool × Bool × Int) → Option ((QD) × (Int × List Int) × List (QB) × Int × Bool × Bool) := fun (x2, x3, x5, x6, x7, x8, x9, x10) =>
 bif decide (x10 < (x3.2.length : Int)) then
 (bif x9 then
 some (x2, x3, x5, x6, x7, x8, true, x10)
 else
 bif inB x10 x3.2.length then
 let y3 := (rdA 0 x3.2 x10) == x7
 some (x2, x3, x5, x6, x7, x8, y3, x10)
 else none : Option ((QD) × (Int × List Int) × List (QB) × Int × Int × Bool × Bool × Int)).bind (fun (x2, x3, x5, x6, x7, x8, x9, x10) =>
 rec (x2, x3, x5, x6, x7, x8, x9, w64 (x10 + 1)))
 else
 some (x2, x3, x5, x6, x8, x9)
def spec_Orphans.l0 (rec : ((QD) × (Int × List Int) × List (QB) × Int) → Option (List (QB))) : ((QD) × (Int × List Int) × List (QB) × Int) → Option (List (QB)) := fun (x2, x3, x5, x6) =>
 bif decide (x6 < (x2.1.length : Int)) then
 bif inB x6 x2.1.length then
 (spec_IdOf.f ((rdA ([], [], 0) x2.1 x6).1)).bind fun (t2_0, t2_1) =>
 (lp spec_Orphans.l2 (x2, x3, x5, x6, t2_0, t2_1, false, 0)).bind (fun (x2, x3, x5, x6, x8, x9) =>
 (bif x8 then
 bif !x9 then
 bif inB x6 x2.1.length then
 bif decide ((x5.length + ([(rdA ([], [], 0) x2.1 x6).1] : List (QB)).length) * 16 ≤ 140737488355328) then
 let l4 := x5 ++ ([(rdA ([], [], 0) x2.1 x6).1] : List (QB))
 some (x2, x3, l4, x6)
 else none
 else none
 else
 bif inB x6 x2.1.length then
 bif ((rdA ([], [], 0) x2.1 x6).1) == [116, 101, 109, 112] then
 bif inB x6 x2.1.length then
 bif decide ((x5.length + ([(rdA ([], [], 0) x2.1 x6).1] : List (QB)).length) * 16 ≤ 140737488355328) then
 let l5 := x5 ++ ([(rdA ([], [], 0) x2.1 x6).1] : List (QB))
 some (x2, x3, l5, x6)
 else none
 else none
 else
 some (x2, x3, x5, x6)
 else none
 else
 bif inB x6 x2.1.length then
 bif ((rdA ([], [], 0) x2.1 x6).1) == [116, 101, 109, 112] then
 bif inB x6 x2.1.length then
 bif decide ((x5.length + ([(rdA ([], [], 0) x2.1 x6).1] : List (QB)).length) * 16 ≤ 140737488355328) then
 let l6 := x5 ++ ([(rdA ([], [], 0) x2.1 x6).1] : List (QB))
 some (x2, x3, l6, x6)
 else none
 else none
 else
 some (x2, x3, x5, x6)
 else none : Option ((QD) × (Int × List Int) × List (QB) × Int)).bind (fun (x2, x3, x5, x6) =>
 rec (x2, x3, x5, w64 (x6 + 1))))
 else none
 else
 some x5
def spec_Orphans.f (p0 : QD) (p1 : Int × List Int) : Option (List (QB)) :=
 (spec_DiskOk.f p0).bind fun t1 =>
 bif !t1 then
 some []
 else
 (lp spec_Orphans.l0 (p0, p1, [], 0)).bind (fun x5 =>
 some x5)
def spec_l11Sweep.l0 (rec : ((QD) × (QD) × List (QB) × Int) → Option (((QD) × QD) ⊕ ((QD) × Int))) : ((QD) × (QD) × List (QB) × Int) → Option (((QD) × QD) ⊕ ((QD) × Int)) := fun (x2, x4, x6, x7) =>
 bif decide (x7 < (x6.length : Int)) then
 bif inB x7 x6.length then
 (spec_Remove.f x2 (rdA [] x6 x7)).bind fun (t2_0, t2_1) =>
 bif t2_1 != 0 then
 (spec_l11Code.f t2_1).bind fun t3 =>
 some (Sum.inr (t2_0, t3))
 else
 rec (t2_0, x4, x6, w64 (x7 + 1))
 else none
 else
 some (Sum.inl (x2, x4))
def spec_l11Sweep.f (p0 : QD) (p1 : Int × List Int) : Option ((QD) × Int) :=
 (spec_Orphans.f p0 p1).bind fun t1 =>
 (lp spec_l11Sweep.l0 (p0, ([], 0, 0, false), t1, 0)).bind (fun o4 => caseS o4 (fun (x2, x4) =>
 some (x2, 0)) (fun (x4, x5) =>
 some (x4, x5)))
def spec_l11First.f (p0 : QD) : Option ((QS) × (QD) × Int) :=
 (spec_l11Sweep.f p0 (0, [])).bind fun (t1_0, t1_1) =>
 bif t1_1 != 0 then
 some (((0, []), [], 0, 0, 0), t1_0, t1_1)
 else
 (spec_SegName.f 1).bind fun t2 =>
 (spec_Create.f t1_0 t2).bind fun (t3_0, t3_1) =>
 bif t3_1 != 0 then
 (spec_l11Code.f t3_1).bind fun t4 =>
 some (((0, []), [], 0, 0, 0), t3_0, t4)
 else
 (spec_PutLive.f t3_0 (2, [1])).bind fun (t5_0, t5_1) =>
 bif t5_1 != 0 then
 some (((0, []), [], 0, 0, 0), t5_0, t5_1)
 else
 some (((2, [1]), [], 1, 0, 0), t5_0, 0)
def spec_ReadLive.l0 (rec : (QB × (Int × List Int) × QB × Int × (Int × List Int) × Int × Int) → Option (QB × (Int × List Int) × Int × List Int)) : (QB × (Int × List Int) × QB × Int × (Int × List Int) × Int × Int) → Option (QB × (Int × List Int) × Int × List Int) := fun (x0, x2, x4, x8, x10, x11, x12) =>
 bif decide (x12 < x8) then
 bif decide (x12 < 60) then
 bif (decide (0 ≤ x11) && decide (x11 ≤ (x4.length : Int))) then
 (spec_ReadVar.f (x4.drop x11.toNat)).bind fun (t5_0, t5_1) =>
 bif decide ((x10.2.length + [t5_0].length) * 8 ≤ 140737488355328) then
 let l6 := x10.2 ++ [t5_0]
 let y7 := w64 (x11 + t5_1)
 rec (x0, x2, x4, x8, (x10.1, l6), y7, w64 (x12 + 1))
 else none
 else none
 else
 some (x0, x2, x10)
 else
 some (x0, x2, x10)
def spec_ReadLive.f (p0 : QB) : Option ((Int × List Int) × Bool) :=
 (spec_Unframe.f p0).bind fun (t1_0, t1_1) =>
 (spec_ReadVar.f t1_0).bind fun (t2_0, t2_1) =>
 bif t1_1 != (p0.length : Int) then
 some ((0, []), false)
 else
 bif t1_1 == 0 then
 some ((0, []), false)
 else
 bif t2_1 == 0 then
 some ((0, []), false)
 else
 bif (decide (0 ≤ t2_1) && decide (t2_1 ≤ (t1_0.length : Int))) then
 (spec_ReadVar.f (t1_0.drop t2_1.toNat)).bind fun (t3_0, t3_1) =>
 let y4 := w64 (t2_1 + t3_1)
 (lp spec_ReadLive.l0 (p0, (0, []), t1_0, t3_0, (t2_0, []), y4, 0)).bind (fun (x0, x2, x10) =>
 (spec_ShowLive.f x10).bind fun t8 =>
 bif !(t8 == x0) then
 some ((0, []), false)
 else
 some (x10, true))
 else none
def spec_l10Vars.l0 (rec : (QB × Int × Int × List Int × Int) → Option ((Int × List Int) ⊕ (List Int × Int))) : (QB × Int × Int × List Int × Int) → Option ((Int × List Int) ⊕ (List Int × Int)) := fun (x0, x1, x2, x8, x9) =>
 bif decide (x9 < x2) then
 bif (decide (0 ≤ x1) && decide (x1 ≤ (x0.length : Int))) then
 (spec_ReadVar.f (x0.drop x1.toNat)).bind fun (t1_0, t1_1) =>
 bif t1_1 == 0 then
 bif (x2 == x2) then
 bif (decide (0 ≤ x2) && decide (8 * x2 ≤ 140737488355328)) then
 let l2 := List.replicate x2.toNat 0
 some (Sum.inr (l2, (-1)))
 else none
 else none
 else
 bif decide ((x8.length + [t1_0].length) * 8 ≤ 140737488355328) then
 let y3 := w64 (x1 + t1_1)
 rec (x0, y3, x2, x8 ++ [t1_0], w64 (x9 + 1))
 else none
 else none
 else
 some (Sum.inl (x1, x8))
def spec_l10Vars.f (p0 : QB) (p1 : Int) (p2 : Int) : Option (List Int × Int) :=
 (lp spec_l10Vars.l0 (p0, p1, p2, ([] : List Int), 0)).bind (fun o4 => caseS o4 (fun (x1, x8) =>
 some (x8, x1)) (fun (x6, x7) =>
 some (x6, x7)))
def spec_ReadHint.l0 (rec : (QB × (Int × Int × List (QE)) × List Int × Int × (Int × Int × List (QE)) × Int) → Option ((QB × (Int × Int × List (QE)) × Int × Int × List (QE)) ⊕ ((Int × Int × List (QE)) × Bool))) : (QB × (Int × Int × List (QE)) × List Int × Int × (Int × Int × List (QE)) × Int) → Option ((QB × (Int × Int × List (QE)) × Int × Int × List (QE)) ⊕ ((Int × Int × List (QE)) × Bool)) := fun (x0, x2, x4, x5, x6, x7) =>
 bif inB 2 x4.length then
 bif decide (x7 < (rdA 0 x4 2)) then
 bif (decide (0 ≤ x5) && decide (x5 ≤ (x0.length : Int))) then
 (spec_l5Text.f (x0.drop x5.toNat)).bind fun (t2_0, t2_1, t2_2) =>
 (spec_l10Vars.f t2_1 0 4).bind fun (t3_0, t3_1) =>
 bif !t2_2 then
 some (Sum.inr ((0, 0, []), false))
 else
 bif decide (t3_1 < 0) then
 some (Sum.inr ((0, 0, []), false))
 else
 bif inB 0 t3_0.length then
 bif inB 1 t3_0.length then
 bif inB 2 t3_0.length then
 bif inB 3 t3_0.length then
 bif decide ((x6.2.2.length + [(t2_0, rdA 0 t3_0 0, rdA 0 t3_0 1, rdA 0 t3_0 2, rdA 0 t3_0 3)].length) * 48 ≤ 140737488355328) then
 let l4 := x6.2.2 ++ [(t2_0, rdA 0 t3_0 0, rdA 0 t3_0 1, rdA 0 t3_0 2, rdA 0 t3_0 3)]
 let y5 := w64 ((w64 ((x0.length : Int) - (t2_1.length : Int))) + t3_1)
 rec (x0, x2, x4, y5, (x6.1, x6.2.1, l4), w64 (x7 + 1))
 else none
 else none
 else none
 else none
 else none
 else none
 else
 some (Sum.inl (x0, x2, x6))
 else none
def spec_ReadHint.f (p0 : QB) : Option ((Int × Int × List (QE)) × Bool) :=
 bif decide ((p0.length : Int) < 4) then
 some ((0, 0, []), false)
 else
 (spec_l10Vars.f p0 4 3).bind fun (t1_0, t1_1) =>
 bif decide (t1_1 < 0) then
 some ((0, 0, []), false)
 else
 bif inB 2 t1_0.length then
 bif decide ((rdA 0 t1_0 2) > 20) then
 some ((0, 0, []), false)
 else
 bif inB 0 t1_0.length then
 bif inB 1 t1_0.length then
 (lp spec_ReadHint.l0 (p0, (0, 0, []), t1_0, t1_1, (rdA 0 t1_0 0, rdA 0 t1_0 1, []), 0)).bind (fun o6 => caseS o6 (fun (x0, x2, x6) =>
 (spec_ShowHint.f x6).bind fun t7 =>
 bif !(t7 == x0) then
 some ((0, 0, []), false)
 else
 some (x6, true)) (fun (x2, x3) =>
 some (x2, x3)))
 else none
 else none
 else none
def spec_SameDir.l0 (rec : (List (QE) × List (QE) × Int) → Option ((Unit) ⊕ (Bool))) : (List (QE) × List (QE) × Int) → Option ((Unit) ⊕ (Bool)) := fun (x0, x1, x5) =>
 bif decide (x5 < (x0.length : Int)) then
 bif inB x5 x0.length then
 bif inB x5 x1.length then
 bif !(((rdA ([], 0, 0, 0, 0) x0 x5).1) == ((rdA ([], 0, 0, 0, 0) x1 x5).1) && ((((rdA ([], 0, 0, 0, 0) x0 x5).2).1) == (((rdA ([], 0, 0, 0, 0) x1 x5).2).1) && (((((rdA ([], 0, 0, 0, 0) x0 x5).2).2).1) == ((((rdA ([], 0, 0, 0, 0) x1 x5).2).2).1) && ((((((rdA ([], 0, 0, 0, 0) x0 x5).2).2).2).1) == (((((rdA ([], 0, 0, 0, 0) x1 x5).2).2).2).1) && ((((((rdA ([], 0, 0, 0, 0) x0 x5).2).2).2).2) == (((((rdA ([], 0, 0, 0, 0) x1 x5).2).2).2).2)))))) then
 some (Sum.inr false)
 else
 rec (x0, x1, w64 (x5 + 1))
 else none
 else none
 else
 some (Sum.inl ())
def spec_SameDir.f (p0 : List (QE)) (p1 : List (QE)) : Option (Bool) :=
 bif (p0.length : Int) != (p1.length : Int) then
 some false
 else
 (lp spec_SameDir.l0 (p0, p1, 0)).bind (fun o1 => caseS o1 (fun _ =>
 some true) (fun x4 =>
 some x4))
def spec_HintFits.f (p0 : Int) (p1 : QB) (p2 : Int × Int × List (QE)) : Option (Bool) :=
 (spec_HintOf.f p0 p1).bind fun (t1_0, t1_1) =>
 bif t1_1 then
 bif t1_0.1 == p2.1 then
 bif t1_0.2.1 == p2.2.1 then
 (spec_SameDir.f t1_0.2.2 p2.2.2).bind fun t2 =>
 some t2
 else
 some false
 else
 some false
 else
 some false
def spec_l11Places.l0 (rec : (Int × List (Int × Int × Int × QR) × List (Int × Int × QR) × Int) → Option (List (Int × Int × Int × QR))) : (Int × List (Int × Int × Int × QR) × List (Int × Int × QR) × Int) → Option (List (Int × Int × Int × QR)) := fun (x0, x5, x6, x8) =>
 bif decide (x8 < (x6.length : Int)) then
 bif inB x8 x6.length then
 bif inB x8 x6.length then
 bif inB x8 x6.length then
 bif decide ((x5.length + ([(x0, (rdA (0, 0, 0, 0, [], [], 0, 0) x6 x8).1, ((rdA (0, 0, 0, 0, [], [], 0, 0) x6 x8).2).1, (((rdA (0, 0, 0, 0, [], [], 0, 0) x6 x8).2).2).1, ((((rdA (0, 0, 0, 0, [], [], 0, 0) x6 x8).2).2).2).1, (((((rdA (0, 0, 0, 0, [], [], 0, 0) x6 x8).2).2).2).2).1, ((((((rdA (0, 0, 0, 0, [], [], 0, 0) x6 x8).2).2).2).2).2).1, (((((((rdA (0, 0, 0, 0, [], [], 0, 0) x6 x8).2).2).2).2).2).2))] : List (Int × Int × Int × QR)).length) * 88 ≤ 140737488355328) then
 let l2 := x5 ++ ([(x0, (rdA (0, 0, 0, 0, [], [], 0, 0) x6 x8).1, ((rdA (0, 0, 0, 0, [], [], 0, 0) x6 x8).2).1, (((rdA (0, 0, 0, 0, [], [], 0, 0) x6 x8).2).2).1, ((((rdA (0, 0, 0, 0, [], [], 0, 0) x6 x8).2).2).2).1, (((((rdA (0, 0, 0, 0, [], [], 0, 0) x6 x8).2).2).2).2).1, ((((((rdA (0, 0, 0, 0, [], [], 0, 0) x6 x8).2).2).2).2).2).1, (((((((rdA (0, 0, 0, 0, [], [], 0, 0) x6 x8).2).2).2).2).2).2))] : List (Int × Int × Int × QR))
 rec (x0, l2, x6, w64 (x8 + 1))
 else none
 else none
 else none
 else none
 else
 some x5
def spec_l11Places.f (p0 : Int) (p1 : QB) : Option (List (Int × Int × Int × QR)) :=
 (spec_ScanRecs.f p1).bind fun (t1_0, t1_1) =>
 (lp spec_l11Places.l0 (p0, ([] : List (Int × Int × Int × QR)), t1_0, 0)).bind (fun x5 =>
 some x5)
def spec_l9Of.l0 (rec : (List (Int × Int × Int × QR) × Int × Int × List (Int × Int × Int × QR) × Int) → Option (List (Int × Int × Int × QR))) : (List (Int × Int × Int × QR) × Int × Int × List (Int × Int × Int × QR) × Int) → Option (List (Int × Int × Int × QR)) := fun (x0, x1, x2, x7, x8) =>
 bif decide (x8 < x1) then
 bif inB x8 x0.length then
 let y1 := ((((rdA (0, 0, 0, 0, 0, [], [], 0, 0) x0 x8).2).2).2).1
 let y2 := (((((rdA (0, 0, 0, 0, 0, [], [], 0, 0) x0 x8).2).2).2).2).1
 let y3 := ((((((rdA (0, 0, 0, 0, 0, [], [], 0, 0) x0 x8).2).2).2).2).2).1
 let y4 := (((((((rdA (0, 0, 0, 0, 0, [], [], 0, 0) x0 x8).2).2).2).2).2).2).1
 let y5 := ((((((((rdA (0, 0, 0, 0, 0, [], [], 0, 0) x0 x8).2).2).2).2).2).2).2).1
 let y6 := ((((((((rdA (0, 0, 0, 0, 0, [], [], 0, 0) x0 x8).2).2).2).2).2).2).2).2
 (bif y2 == x2 then
 bif y1 == 3 then
 some (x0, x1, x2, ([] : List (Int × Int × Int × QR)), x8, (y1, y2, y3, y4, y5, y6))
 else
 some (x0, x1, x2, x7, x8, (y1, y2, y3, y4, y5, y6))
 else
 some (x0, x1, x2, x7, x8, (y1, y2, y3, y4, y5, y6)) : Option (List (Int × Int × Int × QR) × Int × Int × List (Int × Int × Int × QR) × Int × QR)).bind (fun (x0, x1, x2, x7, x8, x9) =>
 (bif x9.2.1 == x2 then
 bif x9.1 == 1 then
 bif inB x8 x0.length then
 bif decide ((x7.length + ([((rdA (0, 0, 0, 0, 0, [], [], 0, 0) x0 x8).1, ((rdA (0, 0, 0, 0, 0, [], [], 0, 0) x0 x8).2).1, (((rdA (0, 0, 0, 0, 0, [], [], 0, 0) x0 x8).2).2).1, ((((rdA (0, 0, 0, 0, 0, [], [], 0, 0) x0 x8).2).2).2).1, (((((rdA (0, 0, 0, 0, 0, [], [], 0, 0) x0 x8).2).2).2).2).1, ((((((rdA (0, 0, 0, 0, 0, [], [], 0, 0) x0 x8).2).2).2).2).2).1, (((((((rdA (0, 0, 0, 0, 0, [], [], 0, 0) x0 x8).2).2).2).2).2).2).1, ((((((((rdA (0, 0, 0, 0, 0, [], [], 0, 0) x0 x8).2).2).2).2).2).2).2))] : List (Int × Int × Int × QR)).length) * 88 ≤ 140737488355328) then
 let l7 := x7 ++ ([((rdA (0, 0, 0, 0, 0, [], [], 0, 0) x0 x8).1, ((rdA (0, 0, 0, 0, 0, [], [], 0, 0) x0 x8).2).1, (((rdA (0, 0, 0, 0, 0, [], [], 0, 0) x0 x8).2).2).1, ((((rdA (0, 0, 0, 0, 0, [], [], 0, 0) x0 x8).2).2).2).1, (((((rdA (0, 0, 0, 0, 0, [], [], 0, 0) x0 x8).2).2).2).2).1, ((((((rdA (0, 0, 0, 0, 0, [], [], 0, 0) x0 x8).2).2).2).2).2).1, (((((((rdA (0, 0, 0, 0, 0, [], [], 0, 0) x0 x8).2).2).2).2).2).2).1, ((((((((rdA (0, 0, 0, 0, 0, [], [], 0, 0) x0 x8).2).2).2).2).2).2).2))] : List (Int × Int × Int × QR))
 some (x0, x1, x2, l7, x8)
 else none
 else none
 else
 bif x9.1 == 2 then
 bif inB x8 x0.length then
 bif decide ((x7.length + ([((rdA (0, 0, 0, 0, 0, [], [], 0, 0) x0 x8).1, ((rdA (0, 0, 0, 0, 0, [], [], 0, 0) x0 x8).2).1, (((rdA (0, 0, 0, 0, 0, [], [], 0, 0) x0 x8).2).2).1, ((((rdA (0, 0, 0, 0, 0, [], [], 0, 0) x0 x8).2).2).2).1, (((((rdA (0, 0, 0, 0, 0, [], [], 0, 0) x0 x8).2).2).2).2).1, ((((((rdA (0, 0, 0, 0, 0, [], [], 0, 0) x0 x8).2).2).2).2).2).1, (((((((rdA (0, 0, 0, 0, 0, [], [], 0, 0) x0 x8).2).2).2).2).2).2).1, ((((((((rdA (0, 0, 0, 0, 0, [], [], 0, 0) x0 x8).2).2).2).2).2).2).2))] : List (Int × Int × Int × QR)).length) * 88 ≤ 140737488355328) then
 let l8 := x7 ++ ([((rdA (0, 0, 0, 0, 0, [], [], 0, 0) x0 x8).1, ((rdA (0, 0, 0, 0, 0, [], [], 0, 0) x0 x8).2).1, (((rdA (0, 0, 0, 0, 0, [], [], 0, 0) x0 x8).2).2).1, ((((rdA (0, 0, 0, 0, 0, [], [], 0, 0) x0 x8).2).2).2).1, (((((rdA (0, 0, 0, 0, 0, [], [], 0, 0) x0 x8).2).2).2).2).1, ((((((rdA (0, 0, 0, 0, 0, [], [], 0, 0) x0 x8).2).2).2).2).2).1, (((((((rdA (0, 0, 0, 0, 0, [], [], 0, 0) x0 x8).2).2).2).2).2).2).1, ((((((((rdA (0, 0, 0, 0, 0, [], [], 0, 0) x0 x8).2).2).2).2).2).2).2))] : List (Int × Int × Int × QR))
 some (x0, x1, x2, l8, x8)
 else none
 else none
 else
 some (x0, x1, x2, x7, x8)
 else
 some (x0, x1, x2, x7, x8) : Option (List (Int × Int × Int × QR) × Int × Int × List (Int × Int × Int × QR) × Int)).bind (fun (x0, x1, x2, x7, x8) =>
 rec (x0, x1, x2, x7, w64 (x8 + 1))))
 else none
 else
 some x7
def spec_l9Of.f (p0 : List (Int × Int × Int × QR)) (p1 : Int) (p2 : Int) : Option (List (Int × Int × Int × QR)) :=
 (lp spec_l9Of.l0 (p0, p1, p2, ([] : List (Int × Int × Int × QR)), 0)).bind (fun x7 =>
 some x7)
def spec_l9Recs.l0 (rec : (List (Int × Int × Int × QR) × List (QR) × Int) → Option (List (QR))) : (List (Int × Int × Int × QR) × List (QR) × Int) → Option (List (QR)) := fun (x0, x3, x4) =>
 bif decide (x4 < (x0.length : Int)) then
 bif inB x4 x0.length then
 bif decide ((x3.length + ([(((((rdA (0, 0, 0, 0, 0, [], [], 0, 0) x0 x4).2).2).2).1, (((((rdA (0, 0, 0, 0, 0, [], [], 0, 0) x0 x4).2).2).2).2).1, ((((((rdA (0, 0, 0, 0, 0, [], [], 0, 0) x0 x4).2).2).2).2).2).1, (((((((rdA (0, 0, 0, 0, 0, [], [], 0, 0) x0 x4).2).2).2).2).2).2).1, ((((((((rdA (0, 0, 0, 0, 0, [], [], 0, 0) x0 x4).2).2).2).2).2).2).2))] : List (QR)).length) * 64 ≤ 140737488355328) then
 let l1 := x3 ++ ([(((((rdA (0, 0, 0, 0, 0, [], [], 0, 0) x0 x4).2).2).2).1, (((((rdA (0, 0, 0, 0, 0, [], [], 0, 0) x0 x4).2).2).2).2).1, ((((((rdA (0, 0, 0, 0, 0, [], [], 0, 0) x0 x4).2).2).2).2).2).1, (((((((rdA (0, 0, 0, 0, 0, [], [], 0, 0) x0 x4).2).2).2).2).2).2).1, ((((((((rdA (0, 0, 0, 0, 0, [], [], 0, 0) x0 x4).2).2).2).2).2).2).2))] : List (QR))
 rec (x0, l1, w64 (x4 + 1))
 else none
 else none
 else
 some x3
def spec_l9Recs.f (p0 : List (Int × Int × Int × QR)) : Option (List (QR)) :=
 (lp spec_l9Recs.l0 (p0, ([] : List (QR)), 0)).bind (fun x3 =>
 some x3)
def spec_l9Fits.f (p0 : QR) (p1 : List (Int × Int × Int × QR)) : Option (Bool) :=
 bif p0.2.2.2.2.1 == (p1.length : Int) then
 (spec_l9Recs.f p1).bind fun t1 =>
 (spec_SumOf.f t1).bind fun t2 =>
 let y3 := p0.2.2.2.2.2 == t2
 some y3
 else
 some false
def spec_l9Kept.l0 (rec : (List (Int × Int × Int × QR) × Int × List (Int × Int × Int × QR) × Int) → Option (List (Int × Int × Int × QR))) : (List (Int × Int × Int × QR) × Int × List (Int × Int × Int × QR) × Int) → Option (List (Int × Int × Int × QR)) := fun (x0, x1, x5, x6) =>
 bif decide (x6 < x1) then
 (bif inB x6 x0.length then
 bif (((((rdA (0, 0, 0, 0, 0, [], [], 0, 0) x0 x6).2).2).2).1) == 5 then
 some (x0, x1, ([] : List (Int × Int × Int × QR)), x6)
 else
 some (x0, x1, x5, x6)
 else none : Option (List (Int × Int × Int × QR) × Int × List (Int × Int × Int × QR) × Int)).bind (fun (x0, x1, x5, x6) =>
 (bif inB x6 x0.length then
 bif (((((rdA (0, 0, 0, 0, 0, [], [], 0, 0) x0 x6).2).2).2).1) == 4 then
 bif inB x6 x0.length then
 bif decide ((x5.length + ([((rdA (0, 0, 0, 0, 0, [], [], 0, 0) x0 x6).1, ((rdA (0, 0, 0, 0, 0, [], [], 0, 0) x0 x6).2).1, (((rdA (0, 0, 0, 0, 0, [], [], 0, 0) x0 x6).2).2).1, ((((rdA (0, 0, 0, 0, 0, [], [], 0, 0) x0 x6).2).2).2).1, (((((rdA (0, 0, 0, 0, 0, [], [], 0, 0) x0 x6).2).2).2).2).1, ((((((rdA (0, 0, 0, 0, 0, [], [], 0, 0) x0 x6).2).2).2).2).2).1, (((((((rdA (0, 0, 0, 0, 0, [], [], 0, 0) x0 x6).2).2).2).2).2).2).1, ((((((((rdA (0, 0, 0, 0, 0, [], [], 0, 0) x0 x6).2).2).2).2).2).2).2))] : List (Int × Int × Int × QR)).length) * 88 ≤ 140737488355328) then
 let l1 := x5 ++ ([((rdA (0, 0, 0, 0, 0, [], [], 0, 0) x0 x6).1, ((rdA (0, 0, 0, 0, 0, [], [], 0, 0) x0 x6).2).1, (((rdA (0, 0, 0, 0, 0, [], [], 0, 0) x0 x6).2).2).1, ((((rdA (0, 0, 0, 0, 0, [], [], 0, 0) x0 x6).2).2).2).1, (((((rdA (0, 0, 0, 0, 0, [], [], 0, 0) x0 x6).2).2).2).2).1, ((((((rdA (0, 0, 0, 0, 0, [], [], 0, 0) x0 x6).2).2).2).2).2).1, (((((((rdA (0, 0, 0, 0, 0, [], [], 0, 0) x0 x6).2).2).2).2).2).2).1, ((((((((rdA (0, 0, 0, 0, 0, [], [], 0, 0) x0 x6).2).2).2).2).2).2).2))] : List (Int × Int × Int × QR))
 some (x0, x1, l1, x6)
 else none
 else none
 else
 some (x0, x1, x5, x6)
 else none : Option (List (Int × Int × Int × QR) × Int × List (Int × Int × Int × QR) × Int)).bind (fun (x0, x1, x5, x6) =>
 rec (x0, x1, x5, w64 (x6 + 1))))
 else
 some x5
def spec_l9Kept.f (p0 : List (Int × Int × Int × QR)) (p1 : Int) : Option (List (Int × Int × Int × QR)) :=
 (lp spec_l9Kept.l0 (p0, p1, ([] : List (Int × Int × Int × QR)), 0)).bind (fun x5 =>
 some x5)
def spec_Regroup.l3 (rec : (List (Int × Int × Int × QR) × (List (QE) × Int × Int) × (List (QE) × Int × Int) × Int × List (Int × Int × Int × QR) × Int) → Option (List (Int × Int × Int × QR) × (List (QE) × Int × Int) × (List (QE) × Int × Int) × Int)) : (List (Int × Int × Int × QR) × (List (QE) × Int × Int) × (List (QE) × Int × Int) × Int × List (Int × Int × Int × QR) × Int) → Option (List (Int × Int × Int × QR) × (List (QE) × Int × Int) × (List (QE) × Int × Int) × Int) := fun (x1, x4, x5, x6, x8, x9) =>
 bif decide (x9 < (x8.length : Int)) then
 bif inB x9 x8.length then
 (spec_l9Put.f x5.1 ((rdA (0, 0, 0, 0, 0, [], [], 0, 0) x8 x9).1, ((rdA (0, 0, 0, 0, 0, [], [], 0, 0) x8 x9).2).1, (((rdA (0, 0, 0, 0, 0, [], [], 0, 0) x8 x9).2).2).1, ((((rdA (0, 0, 0, 0, 0, [], [], 0, 0) x8 x9).2).2).2).1, (((((rdA (0, 0, 0, 0, 0, [], [], 0, 0) x8 x9).2).2).2).2).1, ((((((rdA (0, 0, 0, 0, 0, [], [], 0, 0) x8 x9).2).2).2).2).2).1, (((((((rdA (0, 0, 0, 0, 0, [], [], 0, 0) x8 x9).2).2).2).2).2).2).1, ((((((((rdA (0, 0, 0, 0, 0, [], [], 0, 0) x8 x9).2).2).2).2).2).2).2))).bind fun t14 =>
 rec (x1, x4, (t14, x5.2), x6, x8, w64 (x9 + 1))
 else none
 else
 some (x1, x4, x5, x6)
def spec_Regroup.l0 (rec : (List (Int × Int × Int × QR) × (List (QE) × Int × Int) × (List (QE) × Int × Int) × Int) → Option (List (Int × Int × Int × QR) × (List (QE) × Int × Int) × List (QE) × Int × Int)) : (List (Int × Int × Int × QR) × (List (QE) × Int × Int) × (List (QE) × Int × Int) × Int) → Option (List (Int × Int × Int × QR) × (List (QE) × Int × Int) × List (QE) × Int × Int) := fun (x1, x4, x5, x6) =>
 bif decide (x6 < (x1.length : Int)) then
 bif x5.2.2 == 0 then
 (bif inB x6 x1.length then
 let y2 := ((((rdA (0, 0, 0, 0, 0, [], [], 0, 0) x1 x6).2).2).2).1
 let y3 := (((((rdA (0, 0, 0, 0, 0, [], [], 0, 0) x1 x6).2).2).2).2).1
 let y4 := ((((((rdA (0, 0, 0, 0, 0, [], [], 0, 0) x1 x6).2).2).2).2).2).1
 let y5 := (((((((rdA (0, 0, 0, 0, 0, [], [], 0, 0) x1 x6).2).2).2).2).2).2).1
 let y6 := ((((((((rdA (0, 0, 0, 0, 0, [], [], 0, 0) x1 x6).2).2).2).2).2).2).2).1
 let y7 := ((((((((rdA (0, 0, 0, 0, 0, [], [], 0, 0) x1 x6).2).2).2).2).2).2).2).2
 let y8 := if y3 > x5.2.1 then y3 else x5.2.1
 (bif y2 == 3 then
 (spec_l9Of.f x1 x6 y3).bind fun t9 =>
 (spec_l9Fits.f (y2, y3, y4, y5, y6, y7) t9).bind fun t10 =>
 bif !t10 then
 some (Sum.inr (x1, x4, (x5.1, y8, x5.2.2), x6))
 else
 some (Sum.inl (x1, x4, (x5.1, y8, x5.2.2), x6, t9))
 else
 bif y2 == 5 then
 (spec_l9Kept.f x1 x6).bind fun t11 =>
 (spec_l9Fits.f (y2, y3, y4, y5, y6, y7) t11).bind fun t12 =>
 bif !t12 then
 some (Sum.inr (x1, x4, (x5.1, y8, 1), x6))
 else
 some (Sum.inl (x1, x4, (x5.1, y8, x5.2.2), x6, t11))
 else
 some (Sum.inr (x1, x4, (x5.1, y8, x5.2.2), x6)) : Option ((List (Int × Int × Int × QR) × (List (QE) × Int × Int) × (List (QE) × Int × Int) × Int × List (Int × Int × Int × QR)) ⊕ (List (Int × Int × Int × QR) × (List (QE) × Int × Int) × (List (QE) × Int × Int) × Int))).bind (fun o13 => caseS o13 (fun (x1, x4, x5, x6, x8) =>
 (lp spec_Regroup.l3 (x1, x4, x5, x6, x8, 0)).bind (fun (x1, x4, x5, x6) =>
 (bif decide ((x5.1.length : Int) > 20) then
 some (x1, x4, (x5.1, x5.2.1, 2), x6)
 else
 some (x1, x4, x5, x6) : Option (List (Int × Int × Int × QR) × (List (QE) × Int × Int) × (List (QE) × Int × Int) × Int)).bind (fun (x1, x4, x5, x6) =>
 some (x1, x4, x5, x6)))) (fun (x1, x4, x5, x6) =>
 some (x1, x4, x5, x6)))
 else none : Option (List (Int × Int × Int × QR) × (List (QE) × Int × Int) × (List (QE) × Int × Int) × Int)).bind (fun (x1, x4, x5, x6) =>
 rec (x1, x4, x5, w64 (x6 + 1)))
 else
 some (x1, x4, x5)
 else
 some (x1, x4, x5)
def spec_Regroup.f (p0 : List (QE) × Int × Int) (p1 : List (Int × Int × Int × QR)) : Option (List (QE) × Int × Int) :=
 bif decide ((([] : List (QE)).length + p0.1.length) * 48 ≤ 140737488355328) then
 let l1 := ([] : List (QE)) ++ p0.1
 (lp spec_Regroup.l0 (p1, ([], 0, 0), (l1, p0.2), 0)).bind (fun (x1, x4, x5) =>
 bif x5.2.2 == 0 then
 (spec_l9Kept.f x1 (x1.length : Int)).bind fun t15 =>
 bif decide ((t15.length : Int) > 0) then
 some (x5.1, x5.2.1, 1)
 else
 some x5
 else
 some x5)
 else none
def spec_Open.l0 (rec : ((QD) × (QS) × (QD) × (QS) × (Int × List Int) × Int × Int) → Option (((QD) × (QS) × (QD) × (QS) × (Int × List Int) × Int) ⊕ ((QS) × (QD) × Int))) : ((QD) × (QS) × (QD) × (QS) × (Int × List Int) × Int × Int) → Option (((QD) × (QS) × (QD) × (QS) × (Int × List Int) × Int) ⊕ ((QS) × (QD) × Int)) := fun (x1, x2, x3, x5, x8, x9, x10) =>
 bif decide (x10 < (x8.2.length : Int)) then
 bif inB x10 x8.2.length then
 (spec_SegName.f (rdA 0 x8.2 x10)).bind fun t9 =>
 (spec_FileText.f x1 t9).bind fun (t10_0, t10_1) =>
 (spec_ScanRecs.f t10_0).bind fun (t11_0, t11_1) =>
 (bif !t10_1 then
 (spec_l3Copy.f x1).bind fun t12 =>
 some (Sum.inr (x5, t12, 3))
 else
 bif inB x10 x8.2.length then
 bif (rdA 0 x8.2 x10) != x9 then
 bif decide (t11_1 < (t10_0.length : Int)) then
 (spec_l3Copy.f x1).bind fun t13 =>
 some (Sum.inr (x5, t13, 3))
 else
 some (Sum.inl (x1, x2, x3, x5, x8, x9, x10))
 else
 some (Sum.inl (x1, x2, x3, x5, x8, x9, x10))
 else none : Option (((QD) × (QS) × (QD) × (QS) × (Int × List Int) × Int × Int) ⊕ ((QS) × (QD) × Int))).bind (fun o14 => caseS o14 (fun (x1, x2, x3, x5, x8, x9, x10) =>
 rec (x1, x2, x3, x5, x8, x9, w64 (x10 + 1))) (fun (x2, x3, x4) =>
 some (Sum.inr (x2, x3, x4))))
 else none
 else
 some (Sum.inl (x1, x2, x3, x5, x8, x9))
def spec_Open.l2 (rec : ((QS) × (QD) × (QS) × (Int × List Int) × (QD) × (QS) × (List (QE) × Int × Int) × List (Int × Int × Int × QR) × Int) → Option ((QS) × (QD) × (QS) × (Int × List Int) × (QD) × (QS) × (List (QE) × Int × Int) × List (Int × Int × Int × QR))) : ((QS) × (QD) × (QS) × (Int × List Int) × (QD) × (QS) × (List (QE) × Int × Int) × List (Int × Int × Int × QR) × Int) → Option ((QS) × (QD) × (QS) × (Int × List Int) × (QD) × (QS) × (List (QE) × Int × Int) × List (Int × Int × Int × QR)) := fun (x2, x3, x5, x8, x19, x23, x24, x25, x26) =>
 bif decide (x26 < (x8.2.length : Int)) then
 (bif inB x26 x8.2.length then
 (spec_SegName.f (rdA 0 x8.2 x26)).bind fun t27 =>
 (spec_FileText.f x19 t27).bind fun (t28_0, t28_1) =>
 bif inB x26 x8.2.length then
 (spec_HintName.f (rdA 0 x8.2 x26)).bind fun t29 =>
 (spec_FileText.f x19 t29).bind fun (t30_0, t30_1) =>
 (spec_ReadHint.f t30_0).bind fun (t31_0, t31_1) =>
 (bif x26 == 0 then
 bif t30_1 then
 bif t31_1 then
 bif inB 0 x8.2.length then
 (spec_HintFits.f (rdA 0 x8.2 0) t28_0 t31_0).bind fun t32 =>
 bif t32 then
 bif inB 0 x8.2.length then
 some (Sum.inr (x2, x3, x5, x8, x19, (x23.1, x23.2.1, x23.2.2.1, x23.2.2.2.1, rdA 0 x8.2 0), (t31_0.2.2, t31_0.2.1, x24.2.2), x25, x26))
 else none
 else
 some (Sum.inl (x2, x3, x5, x8, x19, x23, x24, x25, x26, t28_0))
 else none
 else
 some (Sum.inl (x2, x3, x5, x8, x19, x23, x24, x25, x26, t28_0))
 else
 some (Sum.inl (x2, x3, x5, x8, x19, x23, x24, x25, x26, t28_0))
 else
 some (Sum.inl (x2, x3, x5, x8, x19, x23, x24, x25, x26, t28_0)) : Option (((QS) × (QD) × (QS) × (Int × List Int) × (QD) × (QS) × (List (QE) × Int × Int) × List (Int × Int × Int × QR) × Int × QB) ⊕ ((QS) × (QD) × (QS) × (Int × List Int) × (QD) × (QS) × (List (QE) × Int × Int) × List (Int × Int × Int × QR) × Int))).bind (fun o33 => caseS o33 (fun (x2, x3, x5, x8, x19, x23, x24, x25, x26, x27) =>
 bif inB x26 x8.2.length then
 (spec_l11Places.f (rdA 0 x8.2 x26) x27).bind fun t34 =>
 bif decide ((x25.length + t34.length) * 88 ≤ 140737488355328) then
 some (x2, x3, x5, x8, x19, x23, x24, x25 ++ t34, x26)
 else none
 else none) (fun (x2, x3, x5, x8, x19, x23, x24, x25, x26) =>
 some (x2, x3, x5, x8, x19, x23, x24, x25, x26)))
 else none
 else none : Option ((QS) × (QD) × (QS) × (Int × List Int) × (QD) × (QS) × (List (QE) × Int × Int) × List (Int × Int × Int × QR) × Int)).bind (fun (x2, x3, x5, x8, x19, x23, x24, x25, x26) =>
 rec (x2, x3, x5, x8, x19, x23, x24, x25, w64 (x26 + 1)))
 else
 some (x2, x3, x5, x8, x19, x23, x24, x25)
def spec_Open.f (p0 : QD) : Option ((QS) × (QD) × Int) :=
 (spec_DiskOk.f p0).bind fun t1 =>
 bif !t1 then
 (spec_l3Copy.f p0).bind fun t2 =>
 some (((0, []), [], 0, 0, 0), t2, 4)
 else
 bif p0.2.2.2 then
 (spec_l3Copy.f p0).bind fun t3 =>
 some (((0, []), [], 0, 0, 0), t3, 1)
 else
 (spec_FileText.f p0 [108, 105, 118, 101]).bind fun (t4_0, t4_1) =>
 bif !t4_1 then
 (spec_l11First.f p0).bind fun (t5_0, t5_1, t5_2) =>
 some (t5_0, t5_1, t5_2)
 else
 (spec_ReadLive.f t4_0).bind fun (t6_0, t6_1) =>
 bif !t6_1 then
 (spec_l3Copy.f p0).bind fun t7 =>
 some (((0, []), [], 0, 0, 0), t7, 3)
 else
 bif inB (w64 ((t6_0.2.length : Int) - 1)) t6_0.2.length then
 let y8 := rdA 0 t6_0.2 (w64 ((t6_0.2.length : Int) - 1))
 (lp spec_Open.l0 (p0, ((0, []), [], 0, 0, 0), ([], 0, 0, false), ((0, []), [], 0, 0, 0), t6_0, y8, 0)).bind (fun o15 => caseS o15 (fun (x1, x2, x3, x5, x8, x9) =>
 (spec_SegName.f x9).bind fun t16 =>
 (spec_FileText.f x1 t16).bind fun (t17_0, t17_1) =>
 (spec_ScanRecs.f t17_0).bind fun (t18_0, t18_1) =>
 (spec_l3Copy.f x1).bind fun t19 =>
 (bif decide (t18_1 < (t17_0.length : Int)) then
 (spec_SegName.f x9).bind fun t20 =>
 (spec_Truncate.f t19 t20 t18_1).bind fun (t21_0, t21_1) =>
 bif t21_1 != 0 then
 (spec_l11Code.f t21_1).bind fun t22 =>
 some (Sum.inr (x5, t21_0, t22))
 else
 some (Sum.inl (x2, x3, x5, x8, x9, t18_1, t21_0))
 else
 some (Sum.inl (x2, x3, x5, x8, x9, t18_1, t19)) : Option (((QS) × (QD) × (QS) × (Int × List Int) × Int × Int × QD) ⊕ ((QS) × (QD) × Int))).bind (fun o23 => caseS o23 (fun (x2, x3, x5, x8, x9, x18, x19) =>
 (spec_SegName.f x9).bind fun t24 =>
 (spec_Sync.f x19 t24).bind fun (t25_0, t25_1) =>
 bif t25_1 != 0 then
 (spec_l11Code.f t25_1).bind fun t26 =>
 some (x5, t25_0, t26)
 else
 (lp spec_Open.l2 (x2, x3, x5, x8, t25_0, (x8, [], 0, x18, 0), ([], 0, 0), ([] : List (Int × Int × Int × QR)), 0)).bind (fun (x2, x3, x5, x8, x19, x23, x24, x25) =>
 (spec_Regroup.f x24 x25).bind fun t35 =>
 bif t35.2.2 != 0 then
 some (x5, x19, 3)
 else
 (spec_l11Sweep.f x19 x8).bind fun (t36_0, t36_1) =>
 bif t36_1 != 0 then
 some (x5, t36_0, t36_1)
 else
 let y37 := w64 (t35.2.1 + 1)
 some ((x23.1, t35.1, y37, x23.2.2.2), t36_0, 0))) (fun (x2, x3, x4) =>
 some (x2, x3, x4)))) (fun (x2, x3, x4) =>
 some (x2, x3, x4)))
 else none
def spec_SameDisk.l0 (rec : ((QD) × (QD) × Int) → Option ((Unit) ⊕ (Bool))) : ((QD) × (QD) × Int) → Option ((Unit) ⊕ (Bool)) := fun (x2, x3, x5) =>
 bif decide (x5 < (x2.1.length : Int)) then
 bif inB x5 x2.1.length then
 bif inB x5 x3.1.length then
 bif !(((rdA ([], [], 0) x2.1 x5).1) == ((rdA ([], [], 0) x3.1 x5).1) && ((((rdA ([], [], 0) x2.1 x5).2).1) == (((rdA ([], [], 0) x3.1 x5).2).1) && ((((rdA ([], [], 0) x2.1 x5).2).2) == (((rdA ([], [], 0) x3.1 x5).2).2)))) then
 some (Sum.inr false)
 else
 rec (x2, x3, w64 (x5 + 1))
 else none
 else none
 else
 some (Sum.inl ())
def spec_SameDisk.f (p0 : QD) (p1 : QD) : Option (Bool) :=
 bif (p0.1.length : Int) != (p1.1.length : Int) then
 some false
 else
 bif p0.2.1 != p1.2.1 then
 some false
 else
 bif p0.2.2.1 != p1.2.2.1 then
 some false
 else
 bif !(p0.2.2.2 == p1.2.2.2) then
 some false
 else
 (lp spec_SameDisk.l0 (p0, p1, 0)).bind (fun o1 => caseS o1 (fun _ =>
 some true) (fun x4 =>
 some x4))
def impl_HintName.f (p0 : Int) : Option (QB) :=
 (impl_named.f [104, 105, 110, 116] p0).bind fun t1 =>
 some t1
def impl_fits.l0 (rec : ((QR) × List (QR) × List (Int × Int × Int × QR) × Int × Int) → Option ((QR) × List (QR))) : ((QR) × List (QR) × List (Int × Int × Int × QR) × Int × Int) → Option ((QR) × List (QR)) := fun (x2, x5, x8, x9, x10) =>
 bif decide (x10 < x9) then
 bif inB x10 x8.length then
 let y1 := (rdA (0, 0, 0, 0, 0, [], [], 0, 0) x8 x10).1
 let y2 := ((rdA (0, 0, 0, 0, 0, [], [], 0, 0) x8 x10).2).1
 let y3 := (((rdA (0, 0, 0, 0, 0, [], [], 0, 0) x8 x10).2).2).1
 let y4 := ((((rdA (0, 0, 0, 0, 0, [], [], 0, 0) x8 x10).2).2).2).1
 let y5 := (((((rdA (0, 0, 0, 0, 0, [], [], 0, 0) x8 x10).2).2).2).2).1
 let y6 := ((((((rdA (0, 0, 0, 0, 0, [], [], 0, 0) x8 x10).2).2).2).2).2).1
 let y7 := (((((((rdA (0, 0, 0, 0, 0, [], [], 0, 0) x8 x10).2).2).2).2).2).2).1
 let y8 := ((((((((rdA (0, 0, 0, 0, 0, [], [], 0, 0) x8 x10).2).2).2).2).2).2).2).1
 let y9 := ((((((((rdA (0, 0, 0, 0, 0, [], [], 0, 0) x8 x10).2).2).2).2).2).2).2).2
 bif decide ((x5.length + [(y4, y5, y6, y7, y8, y9)].length) * 64 ≤ 140737488355328) then
 let l10 := x5 ++ [(y4, y5, y6, y7, y8, y9)]
 rec (x2, l10, x8, x9, w64 (x10 + 1))
 else none
 else none
 else
 some (x2, x5)
def impl_fits.f (p0 : QR) (p1 : List (Int × Int × Int × QR)) : Option (Bool) :=
 (lp impl_fits.l0 (p0, [], p1, (p1.length : Int), 0)).bind (fun (x2, x5) =>
 bif x2.2.2.2.2.1 == (x5.length : Int) then
 (impl_SumOf.f x5).bind fun t11 =>
 let y12 := x2.2.2.2.2.2 == t11
 some y12
 else
 some false)
def impl_placed.l0 (rec : (Int × List (Int × Int × Int × QR) × List (Int × Int × QR) × Int × Int) → Option (List (Int × Int × Int × QR))) : (Int × List (Int × Int × Int × QR) × List (Int × Int × QR) × Int × Int) → Option (List (Int × Int × Int × QR)) := fun (x0, x5, x8, x9, x10) =>
 bif decide (x10 < x9) then
 bif inB x10 x8.length then
 let y1 := (rdA (0, 0, 0, 0, [], [], 0, 0) x8 x10).1
 let y2 := ((rdA (0, 0, 0, 0, [], [], 0, 0) x8 x10).2).1
 let y3 := (((rdA (0, 0, 0, 0, [], [], 0, 0) x8 x10).2).2).1
 let y4 := ((((rdA (0, 0, 0, 0, [], [], 0, 0) x8 x10).2).2).2).1
 let y5 := (((((rdA (0, 0, 0, 0, [], [], 0, 0) x8 x10).2).2).2).2).1
 let y6 := ((((((rdA (0, 0, 0, 0, [], [], 0, 0) x8 x10).2).2).2).2).2).1
 let y7 := (((((((rdA (0, 0, 0, 0, [], [], 0, 0) x8 x10).2).2).2).2).2).2).1
 let y8 := (((((((rdA (0, 0, 0, 0, [], [], 0, 0) x8 x10).2).2).2).2).2).2).2
 bif decide ((x5.length + [(x0, y1, y2, y3, y4, y5, y6, y7, y8)].length) * 88 ≤ 140737488355328) then
 let l9 := x5 ++ [(x0, y1, y2, y3, y4, y5, y6, y7, y8)]
 rec (x0, l9, x8, x9, w64 (x10 + 1))
 else none
 else none
 else
 some x5
def impl_placed.f (p0 : Int) (p1 : List (Int × Int × QR)) : Option (List (Int × Int × Int × QR)) :=
 (lp impl_placed.l0 (p0, [], p1, (p1.length : Int), 0)).bind (fun x5 =>
 some x5)
def impl_HintOf.l0 (rec : (Int × (Int × Int × List (QE)) × List (Int × Int × QR) × (Int × Int × List (QE)) × List (Int × Int × QR) × Int × Int) → Option (((Int × Int × List (QE)) × Int × Int × List (QE)) ⊕ ((Int × Int × List (QE)) × Bool))) : (Int × (Int × Int × List (QE)) × List (Int × Int × QR) × (Int × Int × List (QE)) × List (Int × Int × QR) × Int × Int) → Option (((Int × Int × List (QE)) × Int × Int × List (QE)) ⊕ ((Int × Int × List (QE)) × Bool)) := fun (x0, x4, x6, x9, x67, x68, x69) =>
 bif decide (x69 < x68) then
 bif inB x69 x67.length then
 let y7 := (rdA (0, 0, 0, 0, [], [], 0, 0) x67 x69).1
 let y8 := ((rdA (0, 0, 0, 0, [], [], 0, 0) x67 x69).2).1
 let y9 := (((rdA (0, 0, 0, 0, [], [], 0, 0) x67 x69).2).2).1
 let y10 := ((((rdA (0, 0, 0, 0, [], [], 0, 0) x67 x69).2).2).2).1
 let y11 := (((((rdA (0, 0, 0, 0, [], [], 0, 0) x67 x69).2).2).2).2).1
 let y12 := ((((((rdA (0, 0, 0, 0, [], [], 0, 0) x67 x69).2).2).2).2).2).1
 let y13 := (((((((rdA (0, 0, 0, 0, [], [], 0, 0) x67 x69).2).2).2).2).2).2).1
 let y14 := (((((((rdA (0, 0, 0, 0, [], [], 0, 0) x67 x69).2).2).2).2).2).2).2
 (bif y9 != 4 then
 some (Sum.inr ((0, 0, []), false))
 else
 bif decide (y10 > x9.2.1) then
 some (Sum.inr ((0, 0, []), false))
 else
 bif decide (x69 > 0) then
 bif inB (w64 (x69 - 1)) x6.length then
 bif !(Op.bytesLess ((((((rdA (0, 0, 0, 0, [], [], 0, 0) x6 (w64 (x69 - 1))).2).2).2).2).1) y11) then
 some (Sum.inr ((0, 0, []), false))
 else
 some (Sum.inl (x0, x4, x6, x9, (y7, y8, y9, y10, y11, y12, y13, y14), x67, x68, x69))
 else none
 else
 some (Sum.inl (x0, x4, x6, x9, (y7, y8, y9, y10, y11, y12, y13, y14), x67, x68, x69)) : Option ((Int × (Int × Int × List (QE)) × List (Int × Int × QR) × (Int × Int × List (QE)) × (Int × Int × QR) × List (Int × Int × QR) × Int × Int) ⊕ ((Int × Int × List (QE)) × Bool))).bind (fun o15 => caseS o15 (fun (x0, x4, x6, x9, x11, x67, x68, x69) =>
 bif decide ((x9.2.2.length + [(x11.2.2.2.2.1, x0, x11.1, x11.2.1, x11.2.2.2.1)].length) * 48 ≤ 140737488355328) then
 let l16 := x9.2.2 ++ [(x11.2.2.2.2.1, x0, x11.1, x11.2.1, x11.2.2.2.1)]
 rec (x0, x4, x6, (x9.1, x9.2.1, l16), x67, x68, w64 (x69 + 1))
 else none) (fun (x4, x5) =>
 some (Sum.inr (x4, x5))))
 else none
 else
 some (Sum.inl (x4, x9))
def impl_HintOf.f (p0 : Int) (p1 : QB) : Option ((Int × Int × List (QE)) × Bool) :=
 (impl_ScanRecs.f p1).bind fun (t1_0, t1_1) =>
 let y2 := w64 ((t1_0.length : Int) - 1)
 bif decide (y2 < 0) then
 some ((0, 0, []), false)
 else
 bif t1_1 != (p1.length : Int) then
 some ((0, 0, []), false)
 else
 (impl_in.f p0 1 100000).bind fun t3 =>
 bif !t3 then
 some ((0, 0, []), false)
 else
 bif inB y2 t1_0.length then
 bif ((((rdA (0, 0, 0, 0, [], [], 0, 0) t1_0 y2).2).2).1) != 5 then
 some ((0, 0, []), false)
 else
 bif inB y2 t1_0.length then
 bif (decide (0 ≤ y2) && decide (y2 ≤ (t1_0.length : Int))) then
 (impl_placed.f p0 (t1_0.take y2.toNat)).bind fun t4 =>
 (impl_fits.f ((((rdA (0, 0, 0, 0, [], [], 0, 0) t1_0 y2).2).2).1, ((((rdA (0, 0, 0, 0, [], [], 0, 0) t1_0 y2).2).2).2).1, (((((rdA (0, 0, 0, 0, [], [], 0, 0) t1_0 y2).2).2).2).2).1, ((((((rdA (0, 0, 0, 0, [], [], 0, 0) t1_0 y2).2).2).2).2).2).1, (((((((rdA (0, 0, 0, 0, [], [], 0, 0) t1_0 y2).2).2).2).2).2).2)) t4).bind fun t5 =>
 bif !t5 then
 some ((0, 0, []), false)
 else
 bif inB y2 t1_0.length then
 let y6 := ((((rdA (0, 0, 0, 0, [], [], 0, 0) t1_0 y2).2).2).2).1
 bif (decide (0 ≤ y2) && decide (y2 ≤ (t1_0.length : Int))) then
 (lp impl_HintOf.l0 (p0, (0, 0, []), t1_0, (t1_1, y6, []), t1_0.take y2.toNat, ((t1_0.take y2.toNat).length : Int), 0)).bind (fun o17 => caseS o17 (fun (x4, x9) =>
 some (x9, true)) (fun (x4, x5) =>
 some (x4, x5)))
 else none
 else none
 else none
 else none
 else none
def impl_hintOk.l0 (rec : ((Int × Int × List (QE)) × List (QE) × Int × Int) → Option ((Int × Int × List (QE)) ⊕ (Bool))) : ((Int × Int × List (QE)) × List (QE) × Int × Int) → Option ((Int × Int × List (QE)) ⊕ (Bool)) := fun (x1, x6, x7, x8) =>
 bif decide (x8 < x7) then
 bif inB x8 x6.length then
 let y1 := (rdA ([], 0, 0, 0, 0) x6 x8).1
 let y2 := ((rdA ([], 0, 0, 0, 0) x6 x8).2).1
 let y3 := (((rdA ([], 0, 0, 0, 0) x6 x8).2).2).1
 let y4 := ((((rdA ([], 0, 0, 0, 0) x6 x8).2).2).2).1
 let y5 := ((((rdA ([], 0, 0, 0, 0) x6 x8).2).2).2).2
 bif inB 0 x1.2.2.length then
 bif y2 != (((rdA ([], 0, 0, 0, 0) x1.2.2 0).2).1) then
 some (Sum.inr false)
 else
 bif decide (y3 > 100000) then
 some (Sum.inr false)
 else
 rec (x1, x6, x7, w64 (x8 + 1))
 else none
 else none
 else
 some (Sum.inl x1)
def impl_hintOk.f (p0 : Int × Int × List (QE)) : Option (Bool) :=
 (lp impl_hintOk.l0 (p0, p0.2.2, (p0.2.2.length : Int), 0)).bind (fun o6 => caseS o6 (fun x1 =>
 (impl_in.f x1.1 0 100000).bind fun t7 =>
 bif t7 then
 (impl_in.f x1.2.1 0 1000000).bind fun t8 =>
 bif t8 then
 (impl_DirOk.f x1.2.2).bind fun t9 =>
 some t9
 else
 some false
 else
 some false) (fun x2 =>
 some x2))
def impl_ShowHint.l0 (rec : (QB × List (QE) × Int × Int) → Option (QB)) : (QB × List (QE) × Int × Int) → Option (QB) := fun (x3, x19, x20, x21) =>
 bif decide (x21 < x20) then
 bif inB x21 x19.length then
 let y3 := (rdA ([], 0, 0, 0, 0) x19 x21).1
 let y4 := ((rdA ([], 0, 0, 0, 0) x19 x21).2).1
 let y5 := (((rdA ([], 0, 0, 0, 0) x19 x21).2).2).1
 let y6 := ((((rdA ([], 0, 0, 0, 0) x19 x21).2).2).2).1
 let y7 := ((((rdA ([], 0, 0, 0, 0) x19 x21).2).2).2).2
 (impl_textOf.f y3).bind fun t8 =>
 (impl_vars.f [y4, y5, y6, y7]).bind fun t9 =>
 bif decide (t8.length + t9.length ≤ 9223372036854775807) then
 bif decide (x3.length + (t8 ++ t9).length ≤ 9223372036854775807) then
 let y10 := x3 ++ (t8 ++ t9)
 rec (y10, x19, x20, w64 (x21 + 1))
 else none
 else none
 else none
 else
 some x3
def impl_ShowHint.f (p0 : Int × Int × List (QE)) : Option (QB) :=
 (impl_hintOk.f p0).bind fun t1 =>
 bif !t1 then
 some []
 else
 (impl_vars.f [p0.1, p0.2.1, (p0.2.2.length : Int)]).bind fun t2 =>
 (lp impl_ShowHint.l0 (t2, p0.2.2, (p0.2.2.length : Int), 0)).bind (fun x3 =>
 (impl_Crc.f x3).bind fun t11 =>
 (impl_Fixed.f t11 4).bind fun t12 =>
 bif decide (t12.length + x3.length ≤ 9223372036854775807) then
 some (t12 ++ x3)
 else none)
def impl_ReadLive.l0 (rec : (QB × (Int × List Int) × Int × (QB × Bool) × (Int × List Int) × Int × Int) → Option (QB × (Int × List Int) × Int × (QB × Bool) × Int × List Int)) : (QB × (Int × List Int) × Int × (QB × Bool) × (Int × List Int) × Int × Int) → Option (QB × (Int × List Int) × Int × (QB × Bool) × Int × List Int) := fun (x0, x2, x5, x6, x7, x8, x9) =>
 bif decide (x9 < x8) then
 bif !x6.2 then
 (impl_scanner_num.f x6).bind fun (t4_0, t4_1) =>
 bif decide ((x7.2.length + [t4_0].length) * 8 ≤ 140737488355328) then
 let l5 := x7.2 ++ [t4_0]
 rec (x0, x2, x5, t4_1, (x7.1, l5), x8, w64 (x9 + 1))
 else none
 else
 some (x0, x2, x5, x6, x7)
 else
 some (x0, x2, x5, x6, x7)
def impl_ReadLive.f (p0 : QB) : Option ((Int × List Int) × Bool) :=
 (impl_Unframe.f p0).bind fun (t1_0, t1_1) =>
 (impl_scanner_num.f (t1_0, false)).bind fun (t2_0, t2_1) =>
 (impl_scanner_num.f t2_1).bind fun (t3_0, t3_1) =>
 (lp impl_ReadLive.l0 (p0, (0, []), t1_1, t3_1, (t2_0, []), t3_0, 0)).bind (fun (x0, x2, x5, x6, x7) =>
 bif x5 == 0 then
 some ((0, []), false)
 else
 bif x5 != (x0.length : Int) then
 some ((0, []), false)
 else
 bif x6.2 then
 some ((0, []), false)
 else
 bif !(x6.1 == []) then
 some ((0, []), false)
 else
 (impl_LiveOk.f x7).bind fun t6 =>
 bif !t6 then
 some ((0, []), false)
 else
 some (x7, true))
def impl_worker_scanAll.l0 (rec : (((QD) × Int) × (Int × List Int) × List (List (Int × Int × Int × QR)) × Int × List Int × Int × Int) → Option ((((QD) × Int) × List (List (Int × Int × Int × QR)) × Int) ⊕ (((QD) × Int) × List (List (Int × Int × Int × QR)) × Int × Bool))) : (((QD) × Int) × (Int × List Int) × List (List (Int × Int × Int × QR)) × Int × List Int × Int × Int) → Option ((((QD) × Int) × List (List (Int × Int × Int × QR)) × Int) ⊕ (((QD) × Int) × List (List (Int × Int × Int × QR)) × Int × Bool)) := fun (x0, x3, x7, x8, x16, x17, x18) =>
 bif decide (x18 < x17) then
 bif inB x18 x16.length then
 (impl_SegName.f (rdA 0 x16 x18)).bind fun t1 =>
 (impl_FileText.f x0.1 t1).bind fun (t2_0, t2_1) =>
 (impl_ScanRecs.f t2_0).bind fun (t3_0, t3_1) =>
 (bif !t2_1 then
 some (Sum.inr (x0, [], 0, false))
 else
 bif decide (x18 < (w64 ((x3.2.length : Int) - 1))) then
 bif t3_1 != (t2_0.length : Int) then
 some (Sum.inr (x0, [], 0, false))
 else
 some (Sum.inl (x0, x3, x7, rdA 0 x16 x18, t3_0, t3_1, x16, x17, x18))
 else
 some (Sum.inl (x0, x3, x7, rdA 0 x16 x18, t3_0, t3_1, x16, x17, x18)) : Option ((((QD) × Int) × (Int × List Int) × List (List (Int × Int × Int × QR)) × Int × List (Int × Int × QR) × Int × List Int × Int × Int) ⊕ (((QD) × Int) × List (List (Int × Int × Int × QR)) × Int × Bool))).bind (fun o4 => caseS o4 (fun (x0, x3, x7, x10, x13, x14, x16, x17, x18) =>
 (impl_placed.f x10 x13).bind fun t5 =>
 bif decide ((x7.length + [t5].length) * 24 ≤ 140737488355328) then
 rec (x0, x3, x7 ++ [t5], x14, x16, x17, w64 (x18 + 1))
 else none) (fun (x0, x4, x5, x6) =>
 some (Sum.inr (x0, x4, x5, x6))))
 else none
 else
 some (Sum.inl (x0, x7, x8))
def impl_worker_scanAll.f (p0 : (QD) × Int) (p1 : Int × List Int) : Option (List (List (Int × Int × Int × QR)) × Int × Bool × (QD) × Int) :=
 (lp impl_worker_scanAll.l0 (p0, p1, [], 0, p1.2, (p1.2.length : Int), 0)).bind (fun o6 => caseS o6 (fun (x0, x7, x8) =>
 some (x7, x8, true, x0)) (fun (x0, x4, x5, x6) =>
 some (x4, x5, x6, x0)))
def impl_ReadHint.l0 (rec : (QB × (Int × Int × List (QE)) × (QB × Bool) × (Int × Int × List (QE)) × Int × Int) → Option (QB × (Int × Int × List (QE)) × (QB × Bool) × Int × Int × List (QE))) : (QB × (Int × Int × List (QE)) × (QB × Bool) × (Int × Int × List (QE)) × Int × Int) → Option (QB × (Int × Int × List (QE)) × (QB × Bool) × Int × Int × List (QE)) := fun (x0, x2, x4, x5, x6, x7) =>
 bif decide (x7 < x6) then
 bif !x4.2 then
 (impl_scanner_text.f x4).bind fun (t5_0, t5_1) =>
 (impl_scanner_num.f t5_1).bind fun (t6_0, t6_1) =>
 (impl_scanner_num.f t6_1).bind fun (t7_0, t7_1) =>
 (impl_scanner_num.f t7_1).bind fun (t8_0, t8_1) =>
 (impl_scanner_num.f t8_1).bind fun (t9_0, t9_1) =>
 bif decide ((x5.2.2.length + [(t5_0, t6_0, t7_0, t8_0, t9_0)].length) * 48 ≤ 140737488355328) then
 let l10 := x5.2.2 ++ [(t5_0, t6_0, t7_0, t8_0, t9_0)]
 rec (x0, x2, t9_1, (x5.1, x5.2.1, l10), x6, w64 (x7 + 1))
 else none
 else
 some (x0, x2, x4, x5)
 else
 some (x0, x2, x4, x5)
def impl_ReadHint.f (p0 : QB) : Option ((Int × Int × List (QE)) × Bool) :=
 (impl_scanner_bytes.f (p0, false) 4).bind fun (t1_0, t1_1) =>
 (impl_scanner_num.f t1_1).bind fun (t2_0, t2_1) =>
 (impl_scanner_num.f t2_1).bind fun (t3_0, t3_1) =>
 (impl_scanner_num.f t3_1).bind fun (t4_0, t4_1) =>
 (lp impl_ReadHint.l0 (p0, (0, 0, []), t4_1, (t2_0, t3_0, []), t4_0, 0)).bind (fun (x0, x2, x4, x5) =>
 bif x4.2 then
 some ((0, 0, []), false)
 else
 (impl_hintOk.f x5).bind fun t11 =>
 bif !t11 then
 some ((0, 0, []), false)
 else
 (impl_ShowHint.f x5).bind fun t12 =>
 bif !(t12 == x0) then
 some ((0, 0, []), false)
 else
 some (x5, true))
def impl_SameDir.l0 (rec : (List (QE) × List (QE) × Int × Int) → Option ((Unit) ⊕ (Bool))) : (List (QE) × List (QE) × Int × Int) → Option ((Unit) ⊕ (Bool)) := fun (x0, x1, x12, x13) =>
 bif decide (x13 < x12) then
 bif inB x13 x0.length then
 bif inB x13 x1.length then
 bif !(((rdA ([], 0, 0, 0, 0) x0 x13).1) == ((rdA ([], 0, 0, 0, 0) x1 x13).1) && ((((rdA ([], 0, 0, 0, 0) x0 x13).2).1) == (((rdA ([], 0, 0, 0, 0) x1 x13).2).1) && (((((rdA ([], 0, 0, 0, 0) x0 x13).2).2).1) == ((((rdA ([], 0, 0, 0, 0) x1 x13).2).2).1) && ((((((rdA ([], 0, 0, 0, 0) x0 x13).2).2).2).1) == (((((rdA ([], 0, 0, 0, 0) x1 x13).2).2).2).1) && ((((((rdA ([], 0, 0, 0, 0) x0 x13).2).2).2).2) == (((((rdA ([], 0, 0, 0, 0) x1 x13).2).2).2).2)))))) then
 some (Sum.inr false)
 else
 rec (x0, x1, x12, w64 (x13 + 1))
 else none
 else none
 else
 some (Sum.inl ())
def impl_SameDir.f (p0 : List (QE)) (p1 : List (QE)) : Option (Bool) :=
 bif (p0.length : Int) != (p1.length : Int) then
 some false
 else
 (lp impl_SameDir.l0 (p0, p1, (p0.length : Int), 0)).bind (fun o1 => caseS o1 (fun _ =>
 some true) (fun x4 =>
 some x4))
def impl_HintFits.f (p0 : Int) (p1 : QB) (p2 : Int × Int × List (QE)) : Option (Bool) :=
 (impl_HintOf.f p0 p1).bind fun (t1_0, t1_1) =>
 bif t1_1 then
 bif t1_0.1 == p2.1 then
 bif t1_0.2.1 == p2.2.1 then
 (impl_SameDir.f t1_0.2.2 p2.2.2).bind fun t2 =>
 some t2
 else
 some false
 else
 some false
 else
 some false
def impl_worker_hinted.f (p0 : (QD) × Int) (p1 : Int) : Option ((List (QE) × Int × Int) × Bool × (QD) × Int) :=
 (impl_HintName.f p1).bind fun t1 =>
 (impl_FileText.f p0.1 t1).bind fun (t2_0, t2_1) =>
 (impl_ReadHint.f t2_0).bind fun (t3_0, t3_1) =>
 (impl_SegName.f p1).bind fun t4 =>
 (impl_FileText.f p0.1 t4).bind fun (t5_0, t5_1) =>
 bif !t2_1 then
 some (([], 0, 0), false, p0)
 else
 bif !t3_1 then
 some (([], 0, 0), false, p0)
 else
 (impl_HintFits.f p1 t5_0 t3_0).bind fun t6 =>
 bif !t6 then
 some (([], 0, 0), false, p0)
 else
 some ((t3_0.2.2, t3_0.2.1, 0), true, p0)
def impl_ownOf.l0 (rec : ((QR) × List (Int × Int × Int × QR) × List (Int × Int × Int × QR) × Int × Int) → Option (List (Int × Int × Int × QR))) : ((QR) × List (Int × Int × Int × QR) × List (Int × Int × Int × QR) × Int × Int) → Option (List (Int × Int × Int × QR)) := fun (x3, x5, x9, x10, x11) =>
 bif decide (x11 < x10) then
 bif inB x11 x9.length then
 let y1 := (rdA (0, 0, 0, 0, 0, [], [], 0, 0) x9 x11).1
 let y2 := ((rdA (0, 0, 0, 0, 0, [], [], 0, 0) x9 x11).2).1
 let y3 := (((rdA (0, 0, 0, 0, 0, [], [], 0, 0) x9 x11).2).2).1
 let y4 := ((((rdA (0, 0, 0, 0, 0, [], [], 0, 0) x9 x11).2).2).2).1
 let y5 := (((((rdA (0, 0, 0, 0, 0, [], [], 0, 0) x9 x11).2).2).2).2).1
 let y6 := ((((((rdA (0, 0, 0, 0, 0, [], [], 0, 0) x9 x11).2).2).2).2).2).1
 let y7 := (((((((rdA (0, 0, 0, 0, 0, [], [], 0, 0) x9 x11).2).2).2).2).2).2).1
 let y8 := ((((((((rdA (0, 0, 0, 0, 0, [], [], 0, 0) x9 x11).2).2).2).2).2).2).2).1
 let y9 := ((((((((rdA (0, 0, 0, 0, 0, [], [], 0, 0) x9 x11).2).2).2).2).2).2).2).2
 (bif x3.1 == 3 then
 bif y5 != x3.2.1 then
 some (x3, x5, x9, x10, x11)
 else
 (bif y4 == x3.1 then
 some (x3, [], x9, x10, x11)
 else
 (bif x3.1 == 3 then
 bif y4 == 1 then
 some (x3, x5, (y1, y2, y3, y4, y5, y6, y7, y8, y9), x9, x10, x11, true)
 else
 bif y4 == 2 then
 some (x3, x5, (y1, y2, y3, y4, y5, y6, y7, y8, y9), x9, x10, x11, y4 == 2)
 else
 bif x3.1 == 5 then
 some (x3, x5, (y1, y2, y3, y4, y5, y6, y7, y8, y9), x9, x10, x11, y4 == 4)
 else
 some (x3, x5, (y1, y2, y3, y4, y5, y6, y7, y8, y9), x9, x10, x11, false)
 else
 bif x3.1 == 5 then
 some (x3, x5, (y1, y2, y3, y4, y5, y6, y7, y8, y9), x9, x10, x11, y4 == 4)
 else
 some (x3, x5, (y1, y2, y3, y4, y5, y6, y7, y8, y9), x9, x10, x11, false) : Option ((QR) × List (Int × Int × Int × QR) × (Int × Int × Int × QR) × List (Int × Int × Int × QR) × Int × Int × Bool)).bind (fun (x3, x5, x7, x9, x10, x11, x34) =>
 bif x34 then
 bif decide ((x5.length + [x7].length) * 88 ≤ 140737488355328) then
 some (x3, x5 ++ [x7], x9, x10, x11)
 else none
 else
 some (x3, x5, x9, x10, x11)) : Option ((QR) × List (Int × Int × Int × QR) × List (Int × Int × Int × QR) × Int × Int)).bind (fun (x3, x5, x9, x10, x11) =>
 some (x3, x5, x9, x10, x11))
 else
 (bif y4 == x3.1 then
 some (x3, [], x9, x10, x11)
 else
 (bif x3.1 == 3 then
 bif y4 == 1 then
 some (x3, x5, (y1, y2, y3, y4, y5, y6, y7, y8, y9), x9, x10, x11, true)
 else
 bif y4 == 2 then
 some (x3, x5, (y1, y2, y3, y4, y5, y6, y7, y8, y9), x9, x10, x11, y4 == 2)
 else
 bif x3.1 == 5 then
 some (x3, x5, (y1, y2, y3, y4, y5, y6, y7, y8, y9), x9, x10, x11, y4 == 4)
 else
 some (x3, x5, (y1, y2, y3, y4, y5, y6, y7, y8, y9), x9, x10, x11, false)
 else
 bif x3.1 == 5 then
 some (x3, x5, (y1, y2, y3, y4, y5, y6, y7, y8, y9), x9, x10, x11, y4 == 4)
 else
 some (x3, x5, (y1, y2, y3, y4, y5, y6, y7, y8, y9), x9, x10, x11, false) : Option ((QR) × List (Int × Int × Int × QR) × (Int × Int × Int × QR) × List (Int × Int × Int × QR) × Int × Int × Bool)).bind (fun (x3, x5, x7, x9, x10, x11, x34) =>
 bif x34 then
 bif decide ((x5.length + [x7].length) * 88 ≤ 140737488355328) then
 some (x3, x5 ++ [x7], x9, x10, x11)
 else none
 else
 some (x3, x5, x9, x10, x11)) : Option ((QR) × List (Int × Int × Int × QR) × List (Int × Int × Int × QR) × Int × Int)).bind (fun (x3, x5, x9, x10, x11) =>
 some (x3, x5, x9, x10, x11)) : Option ((QR) × List (Int × Int × Int × QR) × List (Int × Int × Int × QR) × Int × Int)).bind (fun (x3, x5, x9, x10, x11) =>
 rec (x3, x5, x9, x10, w64 (x11 + 1)))
 else none
 else
 some x5
def impl_ownOf.f (p0 : List (Int × Int × Int × QR)) (p1 : QR) : Option (List (Int × Int × Int × QR)) :=
 (lp impl_ownOf.l0 (p1, [], p0, (p0.length : Int), 0)).bind (fun x5 =>
 some x5)
def impl_Group_apply.l0 (rec : ((List (QE) × Int × Int) × List (Int × Int × Int × QR) × Int × Int) → Option (List (QE) × Int × Int)) : ((List (QE) × Int × Int) × List (Int × Int × Int × QR) × Int × Int) → Option (List (QE) × Int × Int) := fun (x0, x6, x7, x8) =>
 bif decide (x8 < x7) then
 bif inB x8 x6.length then
 let y1 := (rdA (0, 0, 0, 0, 0, [], [], 0, 0) x6 x8).1
 let y2 := ((rdA (0, 0, 0, 0, 0, [], [], 0, 0) x6 x8).2).1
 let y3 := (((rdA (0, 0, 0, 0, 0, [], [], 0, 0) x6 x8).2).2).1
 let y4 := ((((rdA (0, 0, 0, 0, 0, [], [], 0, 0) x6 x8).2).2).2).1
 let y5 := (((((rdA (0, 0, 0, 0, 0, [], [], 0, 0) x6 x8).2).2).2).2).1
 let y6 := ((((((rdA (0, 0, 0, 0, 0, [], [], 0, 0) x6 x8).2).2).2).2).2).1
 let y7 := (((((((rdA (0, 0, 0, 0, 0, [], [], 0, 0) x6 x8).2).2).2).2).2).2).1
 let y8 := ((((((((rdA (0, 0, 0, 0, 0, [], [], 0, 0) x6 x8).2).2).2).2).2).2).2).1
 let y9 := ((((((((rdA (0, 0, 0, 0, 0, [], [], 0, 0) x6 x8).2).2).2).2).2).2).2).2
 (bif y4 == 2 then
 (impl_DirDrop.f x0.1 y6).bind fun t10 =>
 some ((t10, x0.2), x6, x7, x8)
 else
 (impl_DirPut.f x0.1 (y6, y1, y2, y3, y5)).bind fun t11 =>
 some ((t11, x0.2), x6, x7, x8) : Option ((List (QE) × Int × Int) × List (Int × Int × Int × QR) × Int × Int)).bind (fun (x0, x6, x7, x8) =>
 rec (x0, x6, x7, w64 (x8 + 1)))
 else none
 else
 some x0
def impl_Group_apply.f (p0 : List (QE) × Int × Int) (p1 : List (Int × Int × Int × QR)) : Option (List (QE) × Int × Int) :=
 (lp impl_Group_apply.l0 (p0, p1, (p1.length : Int), 0)).bind (fun x0 =>
 bif decide ((x0.1.length : Int) > 20) then
 some (x0.1, x0.2.1, 2)
 else
 some x0)
def impl_Regroup.l0 (rec : (List (Int × Int × Int × QR) × (List (QE) × Int × Int) × (List (QE) × Int × Int) × List (Int × Int × Int × QR) × Int × Int) → Option ((List (Int × Int × Int × QR) × (List (QE) × Int × Int) × List (QE) × Int × Int) ⊕ (List (QE) × Int × Int))) : (List (Int × Int × Int × QR) × (List (QE) × Int × Int) × (List (QE) × Int × Int) × List (Int × Int × Int × QR) × Int × Int) → Option ((List (Int × Int × Int × QR) × (List (QE) × Int × Int) × List (QE) × Int × Int) ⊕ (List (QE) × Int × Int)) := fun (x1, x4, x5, x17, x18, x19) =>
 bif decide (x19 < x18) then
 (bif inB x19 x17.length then
 let y2 := (rdA (0, 0, 0, 0, 0, [], [], 0, 0) x17 x19).1
 let y3 := ((rdA (0, 0, 0, 0, 0, [], [], 0, 0) x17 x19).2).1
 let y4 := (((rdA (0, 0, 0, 0, 0, [], [], 0, 0) x17 x19).2).2).1
 let y5 := ((((rdA (0, 0, 0, 0, 0, [], [], 0, 0) x17 x19).2).2).2).1
 let y6 := (((((rdA (0, 0, 0, 0, 0, [], [], 0, 0) x17 x19).2).2).2).2).1
 let y7 := ((((((rdA (0, 0, 0, 0, 0, [], [], 0, 0) x17 x19).2).2).2).2).2).1
 let y8 := (((((((rdA (0, 0, 0, 0, 0, [], [], 0, 0) x17 x19).2).2).2).2).2).2).1
 let y9 := ((((((((rdA (0, 0, 0, 0, 0, [], [], 0, 0) x17 x19).2).2).2).2).2).2).2).1
 let y10 := ((((((((rdA (0, 0, 0, 0, 0, [], [], 0, 0) x17 x19).2).2).2).2).2).2).2).2
 bif x5.2.2 != 0 then
 some (Sum.inr x5)
 else
 let y11 := if y6 > x5.2.1 then y6 else x5.2.1
 (bif y5 != 3 then
 bif y5 != 5 then
 some (Sum.inr (x1, x4, (x5.1, y11, x5.2.2), x17, x18, x19))
 else
 some (Sum.inl (x1, x4, (x5.1, y11, x5.2.2), x19, (y2, y3, y4, y5, y6, y7, y8, y9, y10), x17, x18, x19))
 else
 some (Sum.inl (x1, x4, (x5.1, y11, x5.2.2), x19, (y2, y3, y4, y5, y6, y7, y8, y9, y10), x17, x18, x19)) : Option ((List (Int × Int × Int × QR) × (List (QE) × Int × Int) × (List (QE) × Int × Int) × Int × (Int × Int × Int × QR) × List (Int × Int × Int × QR) × Int × Int) ⊕ (List (Int × Int × Int × QR) × (List (QE) × Int × Int) × (List (QE) × Int × Int) × List (Int × Int × Int × QR) × Int × Int))).bind (fun o12 => caseS o12 (fun (x1, x4, x5, x6, x7, x17, x18, x19) =>
 bif (decide (0 ≤ x6) && decide (x6 ≤ (x1.length : Int))) then
 (impl_ownOf.f (x1.take x6.toNat) x7.2.2.2).bind fun t13 =>
 ((impl_fits.f x7.2.2.2 t13).bind fun t14 =>
 bif t14 then
 (impl_Group_apply.f x5 t13).bind fun t15 =>
 some (x1, x4, t15, x17, x18, x19)
 else
 (let y16 := x7.2.2.2.1 == 5
 bif y16 then
 some (x1, x4, (x5.1, x5.2.1, 1), x17, x18, x19)
 else
 some (x1, x4, x5, x17, x18, x19) : Option (List (Int × Int × Int × QR) × (List (QE) × Int × Int) × (List (QE) × Int × Int) × List (Int × Int × Int × QR) × Int × Int)).bind (fun (x1, x4, x5, x17, x18, x19) =>
 some (x1, x4, x5, x17, x18, x19)) : Option (List (Int × Int × Int × QR) × (List (QE) × Int × Int) × (List (QE) × Int × Int) × List (Int × Int × Int × QR) × Int × Int)).bind (fun (x1, x4, x5, x17, x18, x19) =>
 some (Sum.inl (x1, x4, x5, x17, x18, x19)))
 else none) (fun (x1, x4, x5, x17, x18, x19) =>
 some (Sum.inl (x1, x4, x5, x17, x18, x19))))
 else none : Option ((List (Int × Int × Int × QR) × (List (QE) × Int × Int) × (List (QE) × Int × Int) × List (Int × Int × Int × QR) × Int × Int) ⊕ (List (QE) × Int × Int))).bind (fun o17 => caseS o17 (fun (x1, x4, x5, x17, x18, x19) =>
 rec (x1, x4, x5, x17, x18, w64 (x19 + 1))) (fun x4 =>
 some (Sum.inr x4)))
 else
 some (Sum.inl (x1, x4, x5))
def impl_Regroup.f (p0 : List (QE) × Int × Int) (p1 : List (Int × Int × Int × QR)) : Option (List (QE) × Int × Int) :=
 (impl_copyDir.f p0.1).bind fun t1 =>
 (lp impl_Regroup.l0 (p1, ([], 0, 0), (t1, p0.2), p1, (p1.length : Int), 0)).bind (fun o18 => caseS o18 (fun (x1, x4, x5) =>
 bif x5.2.2 == 0 then
 (impl_ownOf.f x1 (5, 0, [], [], 0, 0)).bind fun t19 =>
 bif decide ((t19.length : Int) > 0) then
 some (x5.1, x5.2.1, 1)
 else
 some x5
 else
 some x5) (fun x4 =>
 some x4))
def stringslite_CutPrefix.f (p0 : QB) (p1 : QB) : Option (QB × Bool) :=
 (stringslite_HasPrefix.f p0 p1).bind fun t1 =>
 bif !t1 then
 some (p0, false)
 else
 bif (decide (0 ≤ (p1.length : Int)) && decide ((p1.length : Int) ≤ (p0.length : Int))) then
 let y2 := p0.drop ((p1.length : Int).toNat)
 some (y2, true)
 else none
def strings_CutPrefix.f (p0 : QB) (p1 : QB) : Option (QB × Bool) :=
 (stringslite_CutPrefix.f p0 p1).bind fun (t1_0, t1_1) =>
 some (t1_0, t1_1)
def impl_ReadDec.f (p0 : QB) : Option (Int × Bool) :=
 (strconv_Atoi.f p0).bind fun (t1_0, t1_1) =>
 bif t1_1 then
 some (0, false)
 else
 (impl_Dec.f t1_0).bind fun t2 =>
 bif !(t2 == p0) then
 some (0, false)
 else
 (impl_in.f t1_0 (-999999999) 999999999).bind fun t3 =>
 bif !t3 then
 some (0, false)
 else
 some (t1_0, true)
def impl_IdOf.f (p0 : QB) : Option (Int × Bool) :=
 (strings_CutPrefix.f p0 [115, 101, 103]).bind fun (t1_0, t1_1) =>
 (bif !t1_1 then
 (strings_CutPrefix.f p0 [104, 105, 110, 116]).bind fun (t2_0, t2_1) =>
 some (t2_0, t2_1)
 else
 some (t1_0, t1_1) : Option (QB × Bool)).bind (fun (x4, x5) =>
 (impl_ReadDec.f x4).bind fun (t3_0, t3_1) =>
 bif !x5 then
 some (0, false)
 else
 bif !t3_1 then
 some (0, false)
 else
 (impl_in.f t3_0 1 100000).bind fun t4 =>
 bif !t4 then
 some (0, false)
 else
 some (t3_0, true))
def impl_hasInt.l0 (rec : (Int × List Int × Int × Int) → Option ((Unit) ⊕ (Bool))) : (Int × List Int × Int × Int) → Option ((Unit) ⊕ (Bool)) := fun (x1, x7, x8, x9) =>
 bif decide (x9 < x8) then
 bif inB x9 x7.length then
 bif (rdA 0 x7 x9) == x1 then
 some (Sum.inr true)
 else
 rec (x1, x7, x8, w64 (x9 + 1))
 else none
 else
 some (Sum.inl ())
def impl_hasInt.f (p0 : List Int) (p1 : Int) : Option (Bool) :=
 (lp impl_hasInt.l0 (p1, p0, (p0.length : Int), 0)).bind (fun o1 => caseS o1 (fun _ =>
 some false) (fun x4 =>
 some x4))
def impl_Orphans.l0 (rec : ((Int × List Int) × List (QB) × List (QF) × Int × Int) → Option (List (QB))) : ((Int × List Int) × List (QB) × List (QF) × Int × Int) → Option (List (QB)) := fun (x3, x5, x14, x15, x16) =>
 bif decide (x16 < x15) then
 bif inB x16 x14.length then
 let y2 := (rdA ([], [], 0) x14 x16).1
 let y3 := ((rdA ([], [], 0) x14 x16).2).1
 let y4 := ((rdA ([], [], 0) x14 x16).2).2
 (impl_IdOf.f y2).bind fun (t5_0, t5_1) =>
 (bif y2 == [116, 101, 109, 112] then
 bif decide ((x5.length + [y2].length) * 16 ≤ 140737488355328) then
 some (x3, x5 ++ [y2], x14, x15, x16)
 else none
 else
 bif t5_1 then
 (impl_hasInt.f x3.2 t5_0).bind fun t6 =>
 bif !t6 then
 bif decide ((x5.length + [y2].length) * 16 ≤ 140737488355328) then
 some (x3, x5 ++ [y2], x14, x15, x16)
 else none
 else
 some (x3, x5, x14, x15, x16)
 else
 some (x3, x5, x14, x15, x16) : Option ((Int × List Int) × List (QB) × List (QF) × Int × Int)).bind (fun (x3, x5, x14, x15, x16) =>
 rec (x3, x5, x14, x15, w64 (x16 + 1)))
 else none
 else
 some x5
def impl_Orphans.f (p0 : QD) (p1 : Int × List Int) : Option (List (QB)) :=
 (impl_DiskOk.f p0).bind fun t1 =>
 bif !t1 then
 some []
 else
 (lp impl_Orphans.l0 (p1, [], p0.1, (p0.1.length : Int), 0)).bind (fun x5 =>
 some x5)
def impl_worker_orphans.l0 (rec : (((QD) × Int) × List (QB) × Int × Int) → Option ((QD) × Int)) : (((QD) × Int) × List (QB) × Int × Int) → Option ((QD) × Int) := fun (x0, x11, x12, x13) =>
 bif decide (x13 < x12) then
 bif inB x13 x11.length then
 let y2 := rdA [] x11 x13
 (impl_worker_gone.f x0 y2).bind fun t3 =>
 rec (t3, x11, x12, w64 (x13 + 1))
 else none
 else
 some x0
def impl_worker_orphans.f (p0 : (QD) × Int) (p1 : Int × List Int) : Option ((QD) × Int) :=
 (impl_Orphans.f p0.1 p1).bind fun t1 =>
 (lp impl_worker_orphans.l0 (p0, t1, (t1.length : Int), 0)).bind (fun x0 =>
 some x0)
def impl_worker_found.l0 (rec : (((QD) × Int) × (QS) × (Int × List Int) × (QS) × (List (QE) × Int × Int) × List (Int × Int × Int × QR) × List (List (Int × Int × Int × QR)) × Int × Int) → Option (((QD) × Int) × (QS) × (Int × List Int) × (QS) × (List (QE) × Int × Int) × List (Int × Int × Int × QR))) : (((QD) × Int) × (QS) × (Int × List Int) × (QS) × (List (QE) × Int × Int) × List (Int × Int × Int × QR) × List (List (Int × Int × Int × QR)) × Int × Int) → Option (((QD) × Int) × (QS) × (Int × List Int) × (QS) × (List (QE) × Int × Int) × List (Int × Int × Int × QR)) := fun (x0, x4, x5, x13, x14, x16, x103, x104, x105) =>
 bif decide (x105 < x104) then
 bif inB x105 x103.length then
 bif decide ((x16.length + (rdA [] x103 x105).length) * 88 ≤ 140737488355328) then
 let l9 := x16 ++ (rdA [] x103 x105)
 rec (x0, x4, (x5.1, []), x13, x14, l9, x103, x104, w64 (x105 + 1))
 else none
 else none
 else
 some (x0, x4, (x5.1, []), x13, x14, x16)
def impl_worker_found.f (p0 : (QD) × Int) (p1 : QB) : Option ((QS) × (QD) × Int) :=
 (impl_ReadLive.f p1).bind fun (t1_0, t1_1) =>
 (impl_worker_scanAll.f p0 t1_0).bind fun (t2_0, t2_1, t2_2, t2_3) =>
 bif !t1_1 then
 some (((0, []), [], 0, 0, 0), (t2_3.1, 3))
 else
 bif !t2_2 then
 some (((0, []), [], 0, 0, 0), (t2_3.1, 3))
 else
 bif inB (w64 ((t1_0.2.length : Int) - 1)) t1_0.2.length then
 (impl_SegName.f (rdA 0 t1_0.2 (w64 ((t1_0.2.length : Int) - 1)))).bind fun t3 =>
 (impl_FileText.f t2_3.1 t3).bind fun (t4_0, t4_1) =>
 (bif (t4_0.length : Int) != t2_1 then
 (impl_Truncate.f t2_3.1 t3 t2_1).bind fun (t5_0, t5_1) =>
 (impl_worker_took_o.f t2_3 t5_0 t5_1).bind fun t6 =>
 some (t6, ((0, []), [], 0, 0, 0), t1_0, t2_0, t2_1, t3)
 else
 some (t2_3, ((0, []), [], 0, 0, 0), t1_0, t2_0, t2_1, t3) : Option (((QD) × Int) × (QS) × (Int × List Int) × List (List (Int × Int × Int × QR)) × Int × QB)).bind (fun (x0, x4, x5, x7, x8, x10) =>
 (impl_worker_sync.f x0 x10).bind fun t7 =>
 bif t7.2 != 0 then
 some (((0, []), [], 0, 0, 0), t7)
 else
 bif inB 0 x5.2.length then
 (impl_worker_hinted.f t7 (rdA 0 x5.2 0)).bind fun (t8_0, t8_1, t8_2) =>
 (bif t8_1 then
 bif inB 0 x5.2.length then
 bif (decide (0 ≤ (1 : Int)) && decide (1 ≤ (x7.length : Int))) then
 some (t8_2, x4, (x5.1, []), x7.drop 1, (x5, [], 0, x8, rdA 0 x5.2 0), t8_0)
 else none
 else none
 else
 some (t8_2, x4, (x5.1, []), x7, (x5, [], 0, x8, 0), t8_0) : Option (((QD) × Int) × (QS) × (Int × List Int) × List (List (Int × Int × Int × QR)) × (QS) × List (QE) × Int × Int)).bind (fun (x0, x4, x5, x7, x13, x14) =>
 (lp impl_worker_found.l0 (x0, x4, (x5.1, []), x13, x14, [], x7, (x7.length : Int), 0)).bind (fun (x0, x4, x5, x13, x14, x16) =>
 (impl_Regroup.f x14 x16).bind fun t10 =>
 bif t10.2.2 != 0 then
 some (((0, []), [], 0, 0, 0), (x0.1, 3))
 else
 (impl_worker_orphans.f x0 (x5.1, x13.1.2)).bind fun t11 =>
 let y12 := w64 (t10.2.1 + 1)
 some ((x13.1, t10.1, y12, x13.2.2.2), t11)))
 else none)
 else none
def impl_worker_first.f (p0 : (QD) × Int) : Option ((QS) × (QD) × Int) :=
 (impl_worker_orphans.f p0 (0, [])).bind fun t1 =>
 (impl_SegName.f 1).bind fun t2 =>
 (impl_worker_create.f t1 t2).bind fun t3 =>
 (impl_worker_putLive.f t3 (2, [1])).bind fun t4 =>
 some (((2, [1]), [], 1, 0, 0), t4)
def impl_Open.f (p0 : QD) : Option ((QS) × (QD) × Int) :=
 (impl_copyDisk.f p0).bind fun t1 =>
 (impl_DiskOk.f p0).bind fun t2 =>
 bif !t2 then
 some (((0, []), [], 0, 0, 0), t1, 4)
 else
 bif p0.2.2.2 then
 some (((0, []), [], 0, 0, 0), t1, 1)
 else
 (impl_FileText.f p0 [108, 105, 118, 101]).bind fun (t3_0, t3_1) =>
 (bif t3_1 then
 (impl_worker_found.f (t1, 0) t3_0).bind fun (t4_0, t4_1) =>
 some (((0, []), [], 0, 0, 0), ([], 0, 0, false), t4_1, t4_0)
 else
 (impl_worker_first.f (t1, 0)).bind fun (t5_0, t5_1) =>
 some (((0, []), [], 0, 0, 0), ([], 0, 0, false), t5_1, t5_0) : Option ((QS) × (QD) × ((QD) × Int) × QS)).bind (fun (x2, x3, x5, x6) =>
 bif x5.2 != 0 then
 some (((0, []), [], 0, 0, 0), x5.1, x5.2)
 else
 some (x6, x5.1, 0))
def impl_Used.f (p0 : QD) : Option (Int) :=
 (impl_DiskOk.f p0).bind fun t1 =>
 bif !t1 then
 some 0
 else
 (impl_used.f p0).bind fun t2 =>
 some t2
def spec_l7Live.l0 (rec : ((List Int × Int × Int) × (Int × List Int) × (Int × List Int) × Int × Int) → Option ((List Int × Int × Int) × (Int × List Int) × (Int × List Int) × Int)) : ((List Int × Int × Int) × (Int × List Int) × (Int × List Int) × Int × Int) → Option ((List Int × Int × Int) × (Int × List Int) × (Int × List Int) × Int) := fun (x0, x2, x3, x4, x5) =>
 bif decide (x5 > 0) then
 (spec_l1Below.f x0 3).bind fun (t3_0, t3_1) =>
 let y4 := w64 ((w64 (x4 + 1)) + t3_0)
 bif decide ((x3.2.length + [y4].length) * 8 ≤ 140737488355328) then
 rec (t3_1, x2, (x3.1, x3.2 ++ [y4]), y4, w64 (x5 - 1))
 else none
 else
 some (x0, x2, x3, x4)
def spec_l7Live.f (p0 : List Int × Int × Int) : Option ((Int × List Int) × List Int × Int × Int) :=
 (spec_l1Below.f p0 4).bind fun (t1_0, t1_1) =>
 let y2 := w64 (1 + t1_0)
 (lp spec_l7Live.l0 (t1_1, (0, []), (0, []), 0, y2)).bind (fun (x0, x2, x3, x4) =>
 (spec_l1Below.f x0 3).bind fun (t5_0, t5_1) =>
 let y6 := w64 ((w64 (x4 + 1)) + t5_0)
 some ((y6, x3.2), t5_1))
def spec_l9Places.l0 (rec : ((List Int × Int × Int) × List (Int × Int × Int × QR) × Int × Int × List (QR) × Int) → Option ((List Int × Int × Int) × List (Int × Int × Int × QR) × Int × Int × List (QR))) : ((List Int × Int × Int) × List (Int × Int × Int × QR) × Int × Int × List (QR) × Int) → Option ((List Int × Int × Int) × List (Int × Int × Int × QR) × Int × Int × List (QR)) := fun (x0, x3, x4, x5, x6, x7) =>
 bif decide (x7 > 0) then
 (spec_l5Key.f x0).bind fun (t3_0, t3_1) =>
 (spec_l1Text.f t3_1 4).bind fun (t4_0, t4_1) =>
 bif decide ((x6.length + [(4, w64 (x5 + 1), t3_0, t4_0, 0, 0)].length) * 64 ≤ 140737488355328) then
 let l5 := x6 ++ [(4, w64 (x5 + 1), t3_0, t4_0, 0, 0)]
 rec (t4_1, x3, x4, w64 (x5 + 1), l5, w64 (x7 - 1))
 else none
 else
 some (x0, x3, x4, x5, x6)
def spec_l9Places.l2 (rec : ((List Int × Int × Int) × List (Int × Int × Int × QR) × Int × Int × List (QR) × Int) → Option ((List Int × Int × Int) × List (Int × Int × Int × QR) × Int × Int × List (QR))) : ((List Int × Int × Int) × List (Int × Int × Int × QR) × Int × Int × List (QR) × Int) → Option ((List Int × Int × Int) × List (Int × Int × Int × QR) × Int × Int × List (QR)) := fun (x0, x3, x4, x5, x6, x8) =>
 bif decide (x8 < (x6.length : Int)) then
 bif inB x8 x6.length then
 bif decide ((x3.length + ([(x4, w64 (20 * (x3.length : Int)), 20, (rdA (0, 0, [], [], 0, 0) x6 x8).1, ((rdA (0, 0, [], [], 0, 0) x6 x8).2).1, (((rdA (0, 0, [], [], 0, 0) x6 x8).2).2).1, ((((rdA (0, 0, [], [], 0, 0) x6 x8).2).2).2).1, (((((rdA (0, 0, [], [], 0, 0) x6 x8).2).2).2).2))] : List (Int × Int × Int × QR)).length) * 88 ≤ 140737488355328) then
 let l6 := x3 ++ ([(x4, w64 (20 * (x3.length : Int)), 20, (rdA (0, 0, [], [], 0, 0) x6 x8).1, ((rdA (0, 0, [], [], 0, 0) x6 x8).2).1, (((rdA (0, 0, [], [], 0, 0) x6 x8).2).2).1, ((((rdA (0, 0, [], [], 0, 0) x6 x8).2).2).2).1, (((((rdA (0, 0, [], [], 0, 0) x6 x8).2).2).2).2))] : List (Int × Int × Int × QR))
 rec (x0, l6, x4, x5, x6, w64 (x8 + 1))
 else none
 else none
 else
 some (x0, x3, x4, x5, x6)
def spec_l9Places.l6 (rec : ((List Int × Int × Int) × List (Int × Int × Int × QR) × Int × Int × Int × List (QR) × Int) → Option ((List Int × Int × Int) × List (Int × Int × Int × QR) × Int × Int × Int × List (QR))) : ((List Int × Int × Int) × List (Int × Int × Int × QR) × Int × Int × Int × List (QR) × Int) → Option ((List Int × Int × Int) × List (Int × Int × Int × QR) × Int × Int × Int × List (QR)) := fun (x0, x3, x4, x5, x9, x10, x11) =>
 bif decide (x11 > 0) then
 (spec_l5Key.f x0).bind fun (t14_0, t14_1) =>
 (spec_l1Text.f t14_1 4).bind fun (t15_0, t15_1) =>
 ((spec_l1Once.f t15_1 3).bind fun (t16_0, t16_1) =>
 bif t16_0 then
 (spec_l5Key.f t16_1).bind fun (t17_0, t17_1) =>
 some (t17_1, x3, x4, x5, x9, x10, x11, (2, x5, t17_0, [], 0, 0))
 else
 some (t16_1, x3, x4, x5, x9, x10, x11, (1, x5, t14_0, t15_0, 0, 0)) : Option ((List Int × Int × Int) × List (Int × Int × Int × QR) × Int × Int × Int × List (QR) × Int × QR)).bind (fun (x0, x3, x4, x5, x9, x10, x11, x12) =>
 bif decide ((x10.length + [x12].length) * 64 ≤ 140737488355328) then
 rec (x0, x3, x4, x5, x9, x10 ++ [x12], w64 (x11 - 1))
 else none)
 else
 some (x0, x3, x4, x5, x9, x10)
def spec_l9Places.l8 (rec : ((List Int × Int × Int) × List (Int × Int × Int × QR) × Int × Int × Int × List (QR) × Int) → Option ((List Int × Int × Int) × List (Int × Int × Int × QR) × Int × Int × Int × List (QR))) : ((List Int × Int × Int) × List (Int × Int × Int × QR) × Int × Int × Int × List (QR) × Int) → Option ((List Int × Int × Int) × List (Int × Int × Int × QR) × Int × Int × Int × List (QR)) := fun (x0, x3, x4, x5, x9, x10, x13) =>
 bif decide (x13 < (x10.length : Int)) then
 bif inB x13 x10.length then
 bif decide ((x3.length + ([(x4, w64 (20 * (x3.length : Int)), 20, (rdA (0, 0, [], [], 0, 0) x10 x13).1, ((rdA (0, 0, [], [], 0, 0) x10 x13).2).1, (((rdA (0, 0, [], [], 0, 0) x10 x13).2).2).1, ((((rdA (0, 0, [], [], 0, 0) x10 x13).2).2).2).1, (((((rdA (0, 0, [], [], 0, 0) x10 x13).2).2).2).2))] : List (Int × Int × Int × QR)).length) * 88 ≤ 140737488355328) then
 let l18 := x3 ++ ([(x4, w64 (20 * (x3.length : Int)), 20, (rdA (0, 0, [], [], 0, 0) x10 x13).1, ((rdA (0, 0, [], [], 0, 0) x10 x13).2).1, (((rdA (0, 0, [], [], 0, 0) x10 x13).2).2).1, ((((rdA (0, 0, [], [], 0, 0) x10 x13).2).2).2).1, (((((rdA (0, 0, [], [], 0, 0) x10 x13).2).2).2).2))] : List (Int × Int × Int × QR))
 rec (x0, l18, x4, x5, x9, x10, w64 (x13 + 1))
 else none
 else none
 else
 some (x0, x3, x4, x5, x9, x10)
def spec_l9Places.l4 (rec : ((List Int × Int × Int) × List (Int × Int × Int × QR) × Int × Int × Int) → Option ((List Int × Int × Int) × List (Int × Int × Int × QR))) : ((List Int × Int × Int) × List (Int × Int × Int × QR) × Int × Int × Int) → Option ((List Int × Int × Int) × List (Int × Int × Int × QR)) := fun (x0, x3, x4, x5, x9) =>
 bif decide (x9 > 0) then
 ((spec_l1Below.f x0 2).bind fun (t11_0, t11_1) =>
 let y12 := w64 ((w64 (x5 + 1)) + t11_0)
 (spec_l1Below.f t11_1 4).bind fun (t13_0, t13_1) =>
 (lp spec_l9Places.l6 (t13_1, x3, x4, y12, x9, ([] : List (QR)), t13_0)).bind (fun (x0, x3, x4, x5, x9, x10) =>
 (lp spec_l9Places.l8 (x0, x3, x4, x5, x9, x10, 0)).bind (fun (x0, x3, x4, x5, x9, x10) =>
 (spec_l9Seal.f x10 x5 3).bind fun t19 =>
 (spec_l1Below.f x0 8).bind fun (t20_0, t20_1) =>
 bif t20_0 == 0 then
 some (t20_1, x3, x4, x5, x9)
 else
 (bif t20_0 == 1 then
 some (t20_1, x3, x4, x5, x9, (t19.1, t19.2.1, t19.2.2.1, t19.2.2.2.1, t19.2.2.2.2.1, 7))
 else
 some (t20_1, x3, x4, x5, x9, t19) : Option ((List Int × Int × Int) × List (Int × Int × Int × QR) × Int × Int × Int × QR)).bind (fun (x0, x3, x4, x5, x9, x14) =>
 bif decide ((x3.length + [(x4, w64 (20 * (x3.length : Int)), 20, x14)].length) * 88 ≤ 140737488355328) then
 let l21 := x3 ++ [(x4, w64 (20 * (x3.length : Int)), 20, x14)]
 ((spec_l1Once.f x0 4).bind fun (t22_0, t22_1) =>
 bif t22_0 then
 some (t22_1, l21, w64 (x4 + 1), x5, x9)
 else
 some (t22_1, l21, x4, x5, x9) : Option ((List Int × Int × Int) × List (Int × Int × Int × QR) × Int × Int × Int)).bind (fun (x0, x3, x4, x5, x9) =>
 some (x0, x3, x4, x5, x9))
 else none))) : Option ((List Int × Int × Int) × List (Int × Int × Int × QR) × Int × Int × Int)).bind (fun (x0, x3, x4, x5, x9) =>
 rec (x0, x3, x4, x5, w64 (x9 - 1)))
 else
 some (x0, x3)
def spec_l9Places.f (p0 : List Int × Int × Int) : Option (List (Int × Int × Int × QR) × List Int × Int × Int) :=
 ((spec_l1Once.f p0 3).bind fun (t1_0, t1_1) =>
 bif t1_0 then
 (spec_l1Below.f t1_1 3).bind fun (t2_0, t2_1) =>
 (lp spec_l9Places.l0 (t2_1, ([] : List (Int × Int × Int × QR)), 1, 0, ([] : List (QR)), t2_0)).bind (fun (x0, x3, x4, x5, x6) =>
 (lp spec_l9Places.l2 (x0, x3, x4, x5, x6, 0)).bind (fun (x0, x3, x4, x5, x6) =>
 ((spec_l1Once.f x0 8).bind fun (t7_0, t7_1) =>
 bif !t7_0 then
 (spec_l9Seal.f x6 x5 5).bind fun t8 =>
 bif decide ((x3.length + [(x4, w64 (20 * (x3.length : Int)), 20, t8)].length) * 88 ≤ 140737488355328) then
 let l9 := x3 ++ [(x4, w64 (20 * (x3.length : Int)), 20, t8)]
 some (t7_1, l9, x5)
 else none
 else
 some (t7_1, x3, x5) : Option ((List Int × Int × Int) × List (Int × Int × Int × QR) × Int)).bind (fun (x0, x3, x5) =>
 some (x0, x3, 2, x5))))
 else
 some (t1_1, ([] : List (Int × Int × Int × QR)), 1, 0) : Option ((List Int × Int × Int) × List (Int × Int × Int × QR) × Int × Int)).bind (fun (x0, x3, x4, x5) =>
 (spec_l1Below.f x0 5).bind fun (t10_0, t10_1) =>
 (lp spec_l9Places.l4 (t10_1, x3, x4, x5, t10_0)).bind (fun (x0, x3) =>
 some (x3, x0)))
def spec_l1Spoil.f (p0 : List Int × Int × Int) (p1 : QB) : Option (QB × List Int × Int × Int) :=
 bif (p1.length : Int) == 0 then
 (spec_l1Text.f p0 3).bind fun (t1_0, t1_1) =>
 some (t1_0, t1_1)
 else
 (spec_l1Below.f p0 (p1.length : Int)).bind fun (t2_0, t2_1) =>
 (spec_l1Below.f t2_1 4).bind fun (t3_0, t3_1) =>
 bif t3_0 == 0 then
 bif (decide (0 ≤ t2_0) && decide (t2_0 ≤ (p1.length : Int))) then
 bif (decide (0 ≤ w64 (t2_0 + 1)) && decide (w64 (t2_0 + 1) ≤ (p1.length : Int))) then
 bif decide ((p1.take t2_0.toNat).length + (p1.drop ((w64 (t2_0 + 1)).toNat)).length ≤ 9223372036854775807) then
 let y4 := (p1.take t2_0.toNat) ++ (p1.drop ((w64 (t2_0 + 1)).toNat))
 some (y4, t3_1)
 else none
 else none
 else none
 else
 bif t3_0 == 1 then
 bif (decide (0 ≤ t2_0) && decide (t2_0 ≤ (p1.length : Int))) then
 (spec_l1Byte.f t3_1).bind fun (t5_0, t5_1) =>
 bif decide ((p1.take t2_0.toNat).length + (strOf [IntKind.wrap .u8 (t5_0)]).length ≤ 9223372036854775807) then
 bif (decide (0 ≤ t2_0) && decide (t2_0 ≤ (p1.length : Int))) then
 bif decide (((p1.take t2_0.toNat) ++ (strOf [IntKind.wrap .u8 (t5_0)])).length + (p1.drop t2_0.toNat).length ≤ 9223372036854775807) then
 let y6 := ((p1.take t2_0.toNat) ++ (strOf [IntKind.wrap .u8 (t5_0)])) ++ (p1.drop t2_0.toNat)
 some (y6, t5_1)
 else none
 else none
 else none
 else none
 else
 bif t3_0 == 2 then
 bif (decide (0 ≤ t2_0) && decide (t2_0 ≤ (p1.length : Int))) then
 let y7 := p1.take t2_0.toNat
 some (y7, t3_1)
 else none
 else
 bif (decide (0 ≤ t2_0) && decide (t2_0 ≤ (p1.length : Int))) then
 bif inB t2_0 p1.length then
 (spec_l1Below.f t3_1 255).bind fun (t8_0, t8_1) =>
 bif decide ((p1.take t2_0.toNat).length + (strOf [IntKind.wrap .u8 (bits (fun _ a b => a ^^^ b) .i64 (w64 (bAt p1 t2_0)) (w64 (1 + t8_0)))]).length ≤ 9223372036854775807) then
 bif (decide (0 ≤ w64 (t2_0 + 1)) && decide (w64 (t2_0 + 1) ≤ (p1.length : Int))) then
 bif decide (((p1.take t2_0.toNat) ++ (strOf [IntKind.wrap .u8 (bits (fun _ a b => a ^^^ b) .i64 (w64 (bAt p1 t2_0)) (w64 (1 + t8_0)))])).length + (p1.drop ((w64 (t2_0 + 1)).toNat)).length ≤ 9223372036854775807) then
 let y9 := ((p1.take t2_0.toNat) ++ (strOf [IntKind.wrap .u8 (bits (fun _ a b => a ^^^ b) .i64 (w64 (bAt p1 t2_0)) (w64 (1 + t8_0)))])) ++ (p1.drop ((w64 (t2_0 + 1)).toNat))
 some (y9, t8_1)
 else none
 else none
 else none
 else none
 else none
def spec_l10Merged.l0 (rec : ((List Int × Int × Int) × QB × List (QR) × List (QB) × Int) → Option ((List Int × Int × Int) × QB × List (QR))) : ((List Int × Int × Int) × QB × List (QR) × List (QB) × Int) → Option ((List Int × Int × Int) × QB × List (QR)) := fun (x0, x3, x4, x5, x6) =>
 bif decide (x6 < (x5.length : Int)) then
 ((spec_l1Once.f x0 2).bind fun (t1_0, t1_1) =>
 bif t1_0 then
 (spec_l1Below.f t1_1 9).bind fun (t2_0, t2_1) =>
 bif inB x6 x5.length then
 (spec_l1Text.f t2_1 6).bind fun (t3_0, t3_1) =>
 let y4 := w64 (1 + t2_0)
 bif decide ((x4.length + ([(4, y4, rdA [] x5 x6, t3_0, 0, 0)] : List (QR)).length) * 64 ≤ 140737488355328) then
 let l5 := x4 ++ ([(4, y4, rdA [] x5 x6, t3_0, 0, 0)] : List (QR))
 (spec_ShowRec.f (4, y4, rdA [] x5 x6, t3_0, 0, 0)).bind fun t6 =>
 (spec_Frame.f t6).bind fun t7 =>
 bif decide (x3.length + t7.length ≤ 9223372036854775807) then
 some (t3_1, x3 ++ t7, l5, x5, x6)
 else none
 else none
 else none
 else
 some (t1_1, x3, x4, x5, x6) : Option ((List Int × Int × Int) × QB × List (QR) × List (QB) × Int)).bind (fun (x0, x3, x4, x5, x6) =>
 rec (x0, x3, x4, x5, w64 (x6 + 1)))
 else
 some (x0, x3, x4)
def spec_l10Merged.f (p0 : List Int × Int × Int) : Option (QB × List Int × Int × Int) :=
 (lp spec_l10Merged.l0 (p0, [], ([] : List (QR)), [[97], [98], [99], [107, 101, 121]], 0)).bind (fun (x0, x3, x4) =>
 (spec_l1Below.f x0 3).bind fun (t8_0, t8_1) =>
 (spec_l9Seal.f x4 (w64 (9 + t8_0)) 5).bind fun t9 =>
 ((spec_l1Once.f t8_1 10).bind fun (t10_0, t10_1) =>
 bif t10_0 then
 some (t10_1, x3, (t9.1, 2, t9.2.2))
 else
 some (t10_1, x3, t9) : Option ((List Int × Int × Int) × QB × QR)).bind (fun (x0, x3, x8) =>
 (spec_ShowRec.f x8).bind fun t11 =>
 (spec_Frame.f t11).bind fun t12 =>
 bif decide (x3.length + t12.length ≤ 9223372036854775807) then
 (spec_l1Once.f x0 8).bind fun (t13_0, t13_1) =>
 bif t13_0 then
 (spec_l1Spoil.f t13_1 (x3 ++ t12)).bind fun (t14_0, t14_1) =>
 some (t14_0, t14_1)
 else
 some (x3 ++ t12, t13_1)
 else none))
def spec_l11Disk.l2 (rec : ((List Int × Int × Int) × (QD) × (QD) × (Int × List Int) × Int × QB × List (Int × Int × Int × QR) × Int) → Option ((List Int × Int × Int) × (QD) × (QD) × (Int × List Int) × Int × QB)) : ((List Int × Int × Int) × (QD) × (QD) × (Int × List Int) × Int × QB × List (Int × Int × Int × QR) × Int) → Option ((List Int × Int × Int) × (QD) × (QD) × (Int × List Int) × Int × QB) := fun (x0, x2, x3, x4, x5, x6, x7, x8) =>
 bif decide (x8 < (x7.length : Int)) then
 bif inB x8 x7.length then
 (spec_ShowRec.f (((((rdA (0, 0, 0, 0, 0, [], [], 0, 0) x7 x8).2).2).2).1, (((((rdA (0, 0, 0, 0, 0, [], [], 0, 0) x7 x8).2).2).2).2).1, ((((((rdA (0, 0, 0, 0, 0, [], [], 0, 0) x7 x8).2).2).2).2).2).1, (((((((rdA (0, 0, 0, 0, 0, [], [], 0, 0) x7 x8).2).2).2).2).2).2).1, ((((((((rdA (0, 0, 0, 0, 0, [], [], 0, 0) x7 x8).2).2).2).2).2).2).2))).bind fun t6 =>
 (spec_Frame.f t6).bind fun t7 =>
 bif decide (x6.length + t7.length ≤ 9223372036854775807) then
 rec (x0, x2, x3, x4, x5, x6 ++ t7, x7, w64 (x8 + 1))
 else none
 else none
 else
 some (x0, x2, x3, x4, x5, x6)
def spec_l11Disk.l0 (rec : ((List Int × Int × Int) × (QD) × (QD) × (Int × List Int) × Int) → Option ((List Int × Int × Int) × (QD) × (QD) × Int × List Int)) : ((List Int × Int × Int) × (QD) × (QD) × (Int × List Int) × Int) → Option ((List Int × Int × Int) × (QD) × (QD) × Int × List Int) := fun (x0, x2, x3, x4, x5) =>
 bif decide (x5 < (x4.2.length : Int)) then
 (spec_l9Places.f x0).bind fun (t3_0, t3_1) =>
 (bif x5 == 0 then
 (spec_l1Once.f t3_1 3).bind fun (t4_0, t4_1) =>
 bif t4_0 then
 (spec_l10Merged.f t4_1).bind fun (t5_0, t5_1) =>
 some (t5_1, x2, x3, x4, x5, t5_0, [])
 else
 some (t4_1, x2, x3, x4, x5, [], t3_0)
 else
 some (t3_1, x2, x3, x4, x5, [], t3_0) : Option ((List Int × Int × Int) × (QD) × (QD) × (Int × List Int) × Int × QB × List (Int × Int × Int × QR))).bind (fun (x0, x2, x3, x4, x5, x6, x7) =>
 (lp spec_l11Disk.l2 (x0, x2, x3, x4, x5, x6, x7, 0)).bind (fun (x0, x2, x3, x4, x5, x6) =>
 ((spec_l1Once.f x0 8).bind fun (t8_0, t8_1) =>
 bif t8_0 then
 (spec_l1Spoil.f t8_1 x6).bind fun (t9_0, t9_1) =>
 some (t9_1, x2, x3, x4, x5, t9_0)
 else
 some (t8_1, x2, x3, x4, x5, x6) : Option ((List Int × Int × Int) × (QD) × (QD) × (Int × List Int) × Int × QB)).bind (fun (x0, x2, x3, x4, x5, x6) =>
 bif inB x5 x4.2.length then
 (spec_SegName.f (rdA 0 x4.2 x5)).bind fun t10 =>
 (spec_l3Insert.f x3.1 (t10, x6, (x6.length : Int))).bind fun t11 =>
 bif inB x5 x4.2.length then
 (spec_HintOf.f (rdA 0 x4.2 x5) x6).bind fun (t12_0, t12_1) =>
 (bif t12_1 then
 (spec_l1Once.f x0 3).bind fun (t13_0, t13_1) =>
 bif !t13_0 then
 (spec_ShowHint.f t12_0).bind fun t14 =>
 bif inB x5 x4.2.length then
 (spec_HintName.f (rdA 0 x4.2 x5)).bind fun t15 =>
 (spec_l3Insert.f t11 (t15, t14, (t14.length : Int))).bind fun t16 =>
 some (t13_1, x2, (t16, x3.2), x4, x5)
 else none
 else
 some (t13_1, x2, (t11, x3.2), x4, x5)
 else
 some (x0, x2, (t11, x3.2), x4, x5) : Option ((List Int × Int × Int) × (QD) × (QD) × (Int × List Int) × Int)).bind (fun (x0, x2, x3, x4, x5) =>
 rec (x0, x2, x3, x4, w64 (x5 + 1)))
 else none
 else none)))
 else
 some (x0, x2, x3, x4)
def spec_l11Disk.f (p0 : List Int × Int × Int) : Option ((QD) × List Int × Int × Int) :=
 (spec_DiskNew.f 100000).bind fun t1 =>
 (spec_l7Live.f p0).bind fun (t2_0, t2_1) =>
 (lp spec_l11Disk.l0 (t2_1, ([], 0, 0, false), t1, t2_0, 0)).bind (fun (x0, x2, x3, x4) =>
 (spec_ShowLive.f x4).bind fun t17 =>
 (spec_l1Below.f x0 12).bind fun (t18_0, t18_1) =>
 (bif t18_0 == 0 then
 (spec_l1Spoil.f t18_1 t17).bind fun (t19_0, t19_1) =>
 some (Sum.inl (t19_1, x2, x3, t19_0))
 else
 (bif t18_0 == 1 then
 (spec_l1Below.f t18_1 (x3.1.length : Int)).bind fun (t20_0, t20_1) =>
 (spec_l3Without.f x3.1 t20_0).bind fun t21 =>
 some (Sum.inl (t20_1, x2, (t21, x3.2), t17))
 else
 (bif t18_0 == 2 then
 (spec_Create.f x3 [115, 101, 103, 57, 57]).bind fun (t22_0, t22_1) =>
 some (Sum.inl (t18_1, x2, t22_0, t17))
 else
 bif t18_0 == 3 then
 some (Sum.inr (t18_1, x3))
 else
 (bif t18_0 == 4 then
 (spec_l1Below.f t18_1 6).bind fun (t23_0, t23_1) =>
 some (t23_1, x2, (x3.1, x3.2.1, t23_0, x3.2.2.2), t17)
 else
 some (t18_1, x2, x3, t17) : Option ((List Int × Int × Int) × (QD) × (QD) × QB)).bind (fun (x0, x2, x3, x12) =>
 some (Sum.inl (x0, x2, x3, x12))) : Option (((List Int × Int × Int) × (QD) × (QD) × QB) ⊕ ((List Int × Int × Int) × QD))).bind (fun o24 => caseS o24 (fun (x0, x2, x3, x12) =>
 some (Sum.inl (x0, x2, x3, x12))) (fun (x0, x2) =>
 some (Sum.inr (x0, x2)))) : Option (((List Int × Int × Int) × (QD) × (QD) × QB) ⊕ ((List Int × Int × Int) × QD))).bind (fun o25 => caseS o25 (fun (x0, x2, x3, x12) =>
 some (Sum.inl (x0, x2, x3, x12))) (fun (x0, x2) =>
 some (Sum.inr (x0, x2)))) : Option (((List Int × Int × Int) × (QD) × (QD) × QB) ⊕ ((List Int × Int × Int) × QD))).bind (fun o26 => caseS o26 (fun (x0, x2, x3, x12) =>
 (spec_l3Insert.f x3.1 ([108, 105, 118, 101], x12, (x12.length : Int))).bind fun t27 =>
 some ((t27, x3.2), x0)) (fun (x0, x2) =>
 some (x2, x0))))
def spec_DrawOpen.f (p0 : List Int) : Option (QD) :=
 (spec_l1New.f p0).bind fun t1 =>
 (spec_l1Below.f t1 5).bind fun (t2_0, t2_1) =>
 bif t2_0 == 0 then
 (spec_l3Any.f t2_1).bind fun (t3_0, t3_1) =>
 some t3_0
 else
 bif t2_0 == 1 then
 (spec_l1PickInt.f t2_1 [0, 5, 9, 50]).bind fun (t4_0, t4_1) =>
 (spec_l1PickInt.f t4_1 [(-1), (-1), 0, 1, 2, 3, 4, 5, 6]).bind fun (t5_0, t5_1) =>
 some ([], t4_0, t5_0, false)
 else
 (spec_l11Disk.f t2_1).bind fun (t6_0, t6_1) =>
 some t6_0
def laws_FnLiveBytes.l0 (rec : ((QS) × (QD) × Int × Int × Int) → Option ((QS) × (QD) × Int × Int)) : ((QS) × (QD) × Int × Int × Int) → Option ((QS) × (QD) × Int × Int) := fun (x4, x5, x10, x11, x12) =>
 bif decide (x12 < (x5.1.length : Int)) then
 bif inB x12 x5.1.length then
 (spec_IdOf.f ((rdA ([], [], 0) x5.1 x12).1)).bind fun (t7_0, t7_1) =>
 (bif !t7_1 then
 bif inB x12 x5.1.length then
 let y8 := w64 (x11 + ((((rdA ([], [], 0) x5.1 x12).2).1).length : Int))
 some (x4, x5, x10, y8, x12)
 else none
 else
 bif inB x12 x5.1.length then
 (spec_HintName.f t7_0).bind fun t9 =>
 bif ((rdA ([], [], 0) x5.1 x12).1) == t9 then
 bif inB x12 x5.1.length then
 let y10 := w64 (x11 + ((((rdA ([], [], 0) x5.1 x12).2).1).length : Int))
 some (x4, x5, x10, y10, x12)
 else none
 else
 some (x4, x5, x10, x11, x12)
 else none : Option ((QS) × (QD) × Int × Int × Int)).bind (fun (x4, x5, x10, x11, x12) =>
 rec (x4, x5, x10, x11, w64 (x12 + 1)))
 else none
 else
 some (x4, x5, x10, x11)
def laws_FnLiveBytes.f (p0 : List Int) : Option (Bool) :=
 (laws_big.f p0).bind fun t1 =>
 bif t1 then
 some true
 else
 (spec_DrawOpen.f p0).bind fun t2 =>
 (impl_Open.f t2).bind fun (t3_0, t3_1, t3_2) =>
 (spec_Open.f t2).bind fun (t4_0, t4_1, t4_2) =>
 bif t3_2 != t4_2 then
 some false
 else
 (spec_SameDisk.f t3_1 t4_1).bind fun t5 =>
 bif !t5 then
 some false
 else
 bif t3_2 != 0 then
 some true
 else
 (impl_SegBytes.f t3_0 t3_1).bind fun t6 =>
 (lp laws_FnLiveBytes.l0 (t3_0, t3_1, t6, 0, 0)).bind (fun (x4, x5, x10, x11) =>
 (impl_Used.f x5).bind fun t11 =>
 bif (w64 (x10 + x11)) == t11 then
 (spec_SegBytes.f x4 x5).bind fun t12 =>
 some (x10 == t12)
 else
 some false)
end
end Go.Rf.G
