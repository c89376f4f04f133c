/- The plain functions that the program's functions come to. Printed by gen.py; each is held against the program in the text Ev. -/
import Derived.Test.YtaeddficnnnpeaaDoorRf5
namespace Go.Rf.G
open Go Go.Rf
set_option linter.unusedVariables false

noncomputable def spec_l1In.f (p0 : Int) (p1 : Int) (p2 : Int) : Option (Bool) :=
  bif decide (p0 ≥ p1) then
  let y1 := decide (p0 ≤ p2)
  some y1
  else
  some false

noncomputable def impl_in.f (p0 : Int) (p1 : Int) (p2 : Int) : Option (Bool) :=
  bif decide (p0 ≥ p1) then
  let y1 := decide (p0 ≤ p2)
  some y1
  else
  some false

noncomputable def spec_Dec.l0 (rec : (Int × List UInt8 × Bool) → Option (List UInt8 × Bool)) : (Int × List UInt8 × Bool) → Option (List UInt8 × Bool) := fun (x0, x3, x4) =>
  bif x0 != 0 then
  let y2 := Int.tmod x0 10
  (bif decide (y2 < 0) then
  some (x0, x3, x4, w64 (0 - y2))
  else
  some (x0, x3, x4, y2) : Option (Int × List UInt8 × Bool × Int)).bind (fun (x0, x3, x4, x5) =>
  bif decide ((strOf [IntKind.wrap .u8 (w64 (48 + x5))]).length + x3.length ≤ 9223372036854775807) then
  let y3 := (strOf [IntKind.wrap .u8 (w64 (48 + x5))]) ++ x3
  let y4 := w64 (Int.tdiv x0 10)
  rec (y4, y3, x4)
  else none)
  else
  some (x3, x4)
noncomputable def spec_Dec.f (p0 : Int) : Option (List UInt8) :=
  bif p0 == 0 then
  some [48]
  else
  let y1 := decide (p0 < 0)
  (lp spec_Dec.l0 (p0, [], y1)).bind (fun (x3, x4) =>
  bif x4 then
  bif decide (([45] : List UInt8).length + x3.length ≤ 9223372036854775807) then
  some ([45] ++ x3)
  else none
  else
  some x3)

noncomputable def laws_szFile.f (p0 : List UInt8 × List UInt8 × Int) (p1 : Int) : Option (Int) :=
  let y1 := w64 (p1 - (p0.1.length : Int))
  bif decide (y1 < 0) then
  some (-1)
  else
  let y2 := w64 (y1 - (p0.2.1.length : Int))
  bif decide (y2 < 0) then
  some (-1)
  else
  some y2

noncomputable def laws_szFileS.l0 (rec : (List (List UInt8 × List UInt8 × Int) × Int × Int) → Option ((Int) ⊕ (Int))) : (List (List UInt8 × List UInt8 × Int) × Int × Int) → Option ((Int) ⊕ (Int)) := fun (x0, x1, x5) =>
  bif decide (x5 < (x0.length : Int)) then
  bif inB x5 x0.length then
  (laws_szFile.f ((rdA ([], [], 0) x0 x5).1, ((rdA ([], [], 0) x0 x5).2)) x1).bind fun t2 =>
  bif decide (t2 < 0) then
  some (Sum.inr (-1))
  else
  rec (x0, t2, w64 (x5 + 1))
  else none
  else
  some (Sum.inl x1)
noncomputable def laws_szFileS.f (p0 : List (List UInt8 × List UInt8 × Int)) (p1 : Int) : Option (Int) :=
  let y1 := w64 (p1 - (p0.length : Int))
  bif decide (y1 < 0) then
  some (-1)
  else
  (lp laws_szFileS.l0 (p0, y1, 0)).bind (fun o3 => caseS o3 (fun x1 =>
  some x1) (fun x4 =>
  some x4))

noncomputable def laws_szDisk.f (p0 : List (List UInt8 × List UInt8 × Int) × Int × Int × Bool) (p1 : Int) : Option (Int) :=
  (laws_szFileS.f p0.1 p1).bind fun t1 =>
  bif decide (t1 < 0) then
  some (-1)
  else
  some t1

noncomputable def spec_l3Used.l0 (rec : ((List (List UInt8 × List UInt8 × Int) × Int × Int × Bool) × Int × Int) → Option (Int)) : ((List (List UInt8 × List UInt8 × Int) × Int × Int × Bool) × Int × Int) → Option (Int) := fun (x1, x3, x4) =>
  bif decide (x4 < (x1.1.length : Int)) then
  bif inB x4 x1.1.length then
  let y1 := w64 (x3 + ((((rdA ([], [], 0) x1.1 x4).2).1).length : Int))
  rec (x1, y1, w64 (x4 + 1))
  else none
  else
  some x3
noncomputable def spec_l3Used.f (p0 : List (List UInt8 × List UInt8 × Int) × Int × Int × Bool) : Option (Int) :=
  (lp spec_l3Used.l0 (p0, 0, 0)).bind (fun x3 =>
  some x3)

noncomputable def spec_NameOk.l0 (rec : (List UInt8 × Int) → Option ((List UInt8) ⊕ (Bool))) : (List UInt8 × Int) → Option ((List UInt8) ⊕ (Bool)) := fun (x0, x3) =>
  bif decide (x3 < (x0.length : Int)) then
  (bif inB x3 x0.length then
  bif decide ((bAt x0 x3) ≥ 97) then
  bif inB x3 x0.length then
  bif decide ((bAt x0 x3) ≤ 122) then
  some (Sum.inl (x0, x3))
  else
  bif inB x3 x0.length then
  bif decide ((bAt x0 x3) ≥ 48) then
  bif inB x3 x0.length then
  bif !(decide ((bAt x0 x3) ≤ 57)) then
  some (Sum.inr false)
  else
  some (Sum.inl (x0, x3))
  else none
  else
  some (Sum.inr false)
  else none
  else none
  else
  bif inB x3 x0.length then
  bif decide ((bAt x0 x3) ≥ 48) then
  bif inB x3 x0.length then
  bif !(decide ((bAt x0 x3) ≤ 57)) then
  some (Sum.inr false)
  else
  some (Sum.inl (x0, x3))
  else none
  else
  some (Sum.inr false)
  else none
  else none : Option ((List UInt8 × Int) ⊕ (Bool))).bind (fun o1 => caseS o1 (fun (x0, x3) =>
  rec (x0, w64 (x3 + 1))) (fun x2 =>
  some (Sum.inr x2)))
  else
  some (Sum.inl x0)
noncomputable def spec_NameOk.f (p0 : List UInt8) : Option (Bool) :=
  (lp spec_NameOk.l0 (p0, 0)).bind (fun o2 => caseS o2 (fun x0 =>
  (spec_l1In.f (x0.length : Int) 1 12).bind fun t3 =>
  some t3) (fun x2 =>
  some x2))

noncomputable def spec_DiskOk.l0 (rec : ((List (List UInt8 × List UInt8 × Int) × Int × Int × Bool) × Int) → Option ((Unit) ⊕ (Bool))) : ((List (List UInt8 × List UInt8 × Int) × Int × Int × Bool) × Int) → Option ((Unit) ⊕ (Bool)) := fun (x1, x3) =>
  bif decide (x3 < (x1.1.length : Int)) then
  (bif inB x3 x1.1.length then
  (spec_NameOk.f ((rdA ([], [], 0) x1.1 x3).1)).bind fun t4 =>
  bif !t4 then
  some (Sum.inr false)
  else
  bif inB x3 x1.1.length then
  bif inB x3 x1.1.length then
  (spec_l1In.f (((rdA ([], [], 0) x1.1 x3).2).2) 0 ((((rdA ([], [], 0) x1.1 x3).2).1).length : Int)).bind fun t5 =>
  bif !t5 then
  some (Sum.inr false)
  else
  bif decide (x3 > 0) then
  bif inB x3 x1.1.length then
  bif inB (w64 (x3 - 1)) x1.1.length then
  bif (Op.bytesLess ((rdA ([], [], 0) x1.1 x3).1) ((rdA ([], [], 0) x1.1 (w64 (x3 - 1))).1) || ((rdA ([], [], 0) x1.1 x3).1) == ((rdA ([], [], 0) x1.1 (w64 (x3 - 1))).1)) then
  some (Sum.inr false)
  else
  some (Sum.inl (x1, x3))
  else none
  else none
  else
  some (Sum.inl (x1, x3))
  else none
  else none
  else none : Option (((List (List UInt8 × List UInt8 × Int) × Int × Int × Bool) × Int) ⊕ (Bool))).bind (fun o6 => caseS o6 (fun (x1, x3) =>
  rec (x1, w64 (x3 + 1))) (fun x2 =>
  some (Sum.inr x2)))
  else
  some (Sum.inl ())
noncomputable def spec_DiskOk.f (p0 : List (List UInt8 × List UInt8 × Int) × Int × Int × Bool) : Option (Bool) :=
  bif decide ((p0.1.length : Int) > 130) then
  some false
  else
  (spec_l1In.f p0.2.1 0 100000).bind fun t1 =>
  bif !t1 then
  some false
  else
  (spec_l1In.f p0.2.2.1 (-1) 100000).bind fun t2 =>
  bif !t2 then
  some false
  else
  (spec_l3Used.f p0).bind fun t3 =>
  bif decide (t3 > p0.2.1) then
  some false
  else
  (lp spec_DiskOk.l0 (p0, 0)).bind (fun o7 => caseS o7 (fun _ =>
  some true) (fun x2 =>
  some x2))

noncomputable def laws_toFile.f (p0 : List UInt8 × List UInt8 × Int) : Option (List UInt8 × List UInt8 × Int) :=
  some p0

noncomputable def laws_toFileS.l0 (rec : (List (List UInt8 × List UInt8 × Int) × List (List UInt8 × List UInt8 × Int) × Int) → Option (List (List UInt8 × List UInt8 × Int))) : (List (List UInt8 × List UInt8 × Int) × List (List UInt8 × List UInt8 × Int) × Int) → Option (List (List UInt8 × List UInt8 × Int)) := fun (x0, x3, x4) =>
  bif decide (x4 < (x0.length : Int)) then
  bif inB x4 x0.length then
  (laws_toFile.f ((rdA ([], [], 0) x0 x4).1, ((rdA ([], [], 0) x0 x4).2))).bind fun t2 =>
  bif inB x4 x3.length then
  let l3 := x3.set x4.toNat t2
  rec (x0, l3, w64 (x4 + 1))
  else none
  else none
  else
  some x3
noncomputable def laws_toFileS.f (p0 : List (List UInt8 × List UInt8 × Int)) : Option (List (List UInt8 × List UInt8 × Int)) :=
  bif ((p0.length : Int) == (p0.length : Int)) then
  bif (decide (0 ≤ (p0.length : Int)) && decide (40 * (p0.length : Int) ≤ 140737488355328)) then
  let l1 := List.replicate (p0.length : Int).toNat ([], [], 0)
  (lp laws_toFileS.l0 (p0, l1, 0)).bind (fun x3 =>
  some x3)
  else none
  else none

noncomputable def laws_toDisk.f (p0 : List (List UInt8 × List UInt8 × Int) × Int × Int × Bool) : Option (List (List UInt8 × List UInt8 × Int) × Int × Int × Bool) :=
  (laws_toFileS.f p0.1).bind fun t1 =>
  some (t1, p0.2)

noncomputable def impl_NameOk.l0 (rec : (List UInt8 × Int) → Option ((List UInt8) ⊕ (Bool))) : (List UInt8 × Int) → Option ((List UInt8) ⊕ (Bool)) := fun (x0, x3) =>
  bif decide (x3 < (x0.length : Int)) then
  (bif inB x3 x0.length then
  bif decide ((bAt x0 x3) ≥ 97) then
  bif inB x3 x0.length then
  bif !(decide ((bAt x0 x3) ≤ 122)) then
  bif inB x3 x0.length then
  bif decide ((bAt x0 x3) ≥ 48) then
  bif inB x3 x0.length then
  bif !(decide ((bAt x0 x3) ≤ 57)) then
  some (Sum.inr false)
  else
  some (Sum.inl (x0, x3))
  else none
  else
  some (Sum.inr false)
  else none
  else
  some (Sum.inl (x0, x3))
  else none
  else
  bif inB x3 x0.length then
  bif decide ((bAt x0 x3) ≥ 48) then
  bif inB x3 x0.length then
  bif !(decide ((bAt x0 x3) ≤ 57)) then
  some (Sum.inr false)
  else
  some (Sum.inl (x0, x3))
  else none
  else
  some (Sum.inr false)
  else none
  else none : Option ((List UInt8 × Int) ⊕ (Bool))).bind (fun o1 => caseS o1 (fun (x0, x3) =>
  rec (x0, w64 (x3 + 1))) (fun x2 =>
  some (Sum.inr x2)))
  else
  some (Sum.inl x0)
noncomputable def impl_NameOk.f (p0 : List UInt8) : Option (Bool) :=
  (lp impl_NameOk.l0 (p0, 0)).bind (fun o2 => caseS o2 (fun x0 =>
  (impl_in.f (x0.length : Int) 1 12).bind fun t3 =>
  some t3) (fun x2 =>
  some x2))

noncomputable def impl_DiskOk.l0 (rec : ((List (List UInt8 × List UInt8 × Int) × Int × Int × Bool) × Int × List (List UInt8 × List UInt8 × Int) × Int × Int) → Option (((List (List UInt8 × List UInt8 × Int) × Int × Int × Bool) × Int) ⊕ (Bool))) : ((List (List UInt8 × List UInt8 × Int) × Int × Int × Bool) × Int × List (List UInt8 × List UInt8 × Int) × Int × Int) → Option (((List (List UInt8 × List UInt8 × Int) × Int × Int × Bool) × Int) ⊕ (Bool)) := fun (x1, x3, x23, x24, x25) =>
  bif decide (x25 < x24) then
  bif inB x25 x23.length then
  let y3 := (rdA ([], [], 0) x23 x25).1
  let y4 := ((rdA ([], [], 0) x23 x25).2).1
  let y5 := ((rdA ([], [], 0) x23 x25).2).2
  ((impl_NameOk.f y3).bind fun t6 =>
  bif !t6 then
  some (Sum.inr false)
  else
  (impl_in.f y5 0 (y4.length : Int)).bind fun t7 =>
  bif !t7 then
  some (Sum.inr false)
  else
  bif decide (x25 > 0) then
  bif inB (w64 (x25 - 1)) x1.1.length then
  bif !(Op.bytesLess ((rdA ([], [], 0) x1.1 (w64 (x25 - 1))).1) y3) then
  some (Sum.inr false)
  else
  some (Sum.inl (x1, x3, (y3, y4, y5), x23, x24, x25))
  else none
  else
  some (Sum.inl (x1, x3, (y3, y4, y5), x23, x24, x25)) : Option (((List (List UInt8 × List UInt8 × Int) × Int × Int × Bool) × Int × (List UInt8 × List UInt8 × Int) × List (List UInt8 × List UInt8 × Int) × Int × Int) ⊕ (Bool))).bind (fun o8 => caseS o8 (fun (x1, x3, x5, x23, x24, x25) =>
  let y9 := w64 (x3 + (x5.2.1.length : Int))
  rec (x1, y9, x23, x24, w64 (x25 + 1))) (fun x2 =>
  some (Sum.inr x2)))
  else none
  else
  some (Sum.inl (x1, x3))
noncomputable def impl_DiskOk.f (p0 : List (List UInt8 × List UInt8 × Int) × Int × Int × Bool) : Option (Bool) :=
  bif decide ((p0.1.length : Int) > 130) then
  some false
  else
  (impl_in.f p0.2.1 0 100000).bind fun t1 =>
  bif !t1 then
  some false
  else
  (impl_in.f p0.2.2.1 (-1) 100000).bind fun t2 =>
  bif !t2 then
  some false
  else
  (lp impl_DiskOk.l0 (p0, 0, p0.1, (p0.1.length : Int), 0)).bind (fun o10 => caseS o10 (fun (x1, x3) =>
  let y11 := decide (x3 ≤ x1.2.1)
  some y11) (fun x2 =>
  some x2))

noncomputable def laws_eqFile.f (p0 : List UInt8 × List UInt8 × Int) (p1 : List UInt8 × List UInt8 × Int) : Option (Bool) :=
  bif !(p0.1 == p1.1) then
  some false
  else
  bif !(p0.2.1 == p1.2.1) then
  some false
  else
  bif p0.2.2 != p1.2.2 then
  some false
  else
  some true

noncomputable def laws_eqFileS.l0 (rec : (List (List UInt8 × List UInt8 × Int) × List (List UInt8 × List UInt8 × Int) × Int) → Option ((Unit) ⊕ (Bool))) : (List (List UInt8 × List UInt8 × Int) × List (List UInt8 × List UInt8 × Int) × Int) → Option ((Unit) ⊕ (Bool)) := fun (x0, x1, x5) =>
  bif decide (x5 < (x0.length : Int)) then
  bif inB x5 x0.length then
  bif inB x5 x1.length then
  (laws_eqFile.f ((rdA ([], [], 0) x0 x5).1, ((rdA ([], [], 0) x0 x5).2)) ((rdA ([], [], 0) x1 x5).1, ((rdA ([], [], 0) x1 x5).2))).bind fun t1 =>
  bif !t1 then
  some (Sum.inr false)
  else
  rec (x0, x1, w64 (x5 + 1))
  else none
  else none
  else
  some (Sum.inl ())
noncomputable def laws_eqFileS.f (p0 : List (List UInt8 × List UInt8 × Int)) (p1 : List (List UInt8 × List UInt8 × Int)) : Option (Bool) :=
  bif (p0.length : Int) != (p1.length : Int) then
  some false
  else
  (lp laws_eqFileS.l0 (p0, p1, 0)).bind (fun o2 => caseS o2 (fun _ =>
  some true) (fun x4 =>
  some x4))

noncomputable def laws_eqDisk.f (p0 : List (List UInt8 × List UInt8 × Int) × Int × Int × Bool) (p1 : List (List UInt8 × List UInt8 × Int) × Int × Int × Bool) : Option (Bool) :=
  (laws_eqFileS.f p0.1 p1.1).bind fun t1 =>
  bif !t1 then
  some false
  else
  bif p0.2.1 != p1.2.1 then
  some false
  else
  bif p0.2.2.1 != p1.2.2.1 then
  some false
  else
  bif !(p0.2.2.2 == p1.2.2.2) then
  some false
  else
  some true

noncomputable def laws_szEntry.f (p0 : List UInt8 × Int × Int × Int × Int) (p1 : Int) : Option (Int) :=
  let y1 := w64 (p1 - (p0.1.length : Int))
  bif decide (y1 < 0) then
  some (-1)
  else
  some y1

noncomputable def laws_szEntryS.l0 (rec : (List (List UInt8 × Int × Int × Int × Int) × Int × Int) → Option ((Int) ⊕ (Int))) : (List (List UInt8 × Int × Int × Int × Int) × Int × Int) → Option ((Int) ⊕ (Int)) := fun (x0, x1, x5) =>
  bif decide (x5 < (x0.length : Int)) then
  bif inB x5 x0.length then
  (laws_szEntry.f ((rdA ([], 0, 0, 0, 0) x0 x5).1, ((rdA ([], 0, 0, 0, 0) x0 x5).2).1, (((rdA ([], 0, 0, 0, 0) x0 x5).2).2).1, ((((rdA ([], 0, 0, 0, 0) x0 x5).2).2).2)) x1).bind fun t2 =>
  bif decide (t2 < 0) then
  some (Sum.inr (-1))
  else
  rec (x0, t2, w64 (x5 + 1))
  else none
  else
  some (Sum.inl x1)
noncomputable def laws_szEntryS.f (p0 : List (List UInt8 × Int × Int × Int × Int)) (p1 : Int) : Option (Int) :=
  let y1 := w64 (p1 - (p0.length : Int))
  bif decide (y1 < 0) then
  some (-1)
  else
  (lp laws_szEntryS.l0 (p0, y1, 0)).bind (fun o3 => caseS o3 (fun x1 =>
  some x1) (fun x4 =>
  some x4))

noncomputable def laws_toEntry.f (p0 : List UInt8 × Int × Int × Int × Int) : Option (List UInt8 × Int × Int × Int × Int) :=
  some p0

noncomputable def laws_toEntryS.l0 (rec : (List (List UInt8 × Int × Int × Int × Int) × List (List UInt8 × Int × Int × Int × Int) × Int) → Option (List (List UInt8 × Int × Int × Int × Int))) : (List (List UInt8 × Int × Int × Int × Int) × List (List UInt8 × Int × Int × Int × Int) × Int) → Option (List (List UInt8 × Int × Int × Int × Int)) := fun (x0, x3, x4) =>
  bif decide (x4 < (x0.length : Int)) then
  bif inB x4 x0.length then
  (laws_toEntry.f ((rdA ([], 0, 0, 0, 0) x0 x4).1, ((rdA ([], 0, 0, 0, 0) x0 x4).2).1, (((rdA ([], 0, 0, 0, 0) x0 x4).2).2).1, ((((rdA ([], 0, 0, 0, 0) x0 x4).2).2).2))).bind fun t2 =>
  bif inB x4 x3.length then
  let l3 := x3.set x4.toNat t2
  rec (x0, l3, w64 (x4 + 1))
  else none
  else none
  else
  some x3
noncomputable def laws_toEntryS.f (p0 : List (List UInt8 × Int × Int × Int × Int)) : Option (List (List UInt8 × Int × Int × Int × Int)) :=
  bif ((p0.length : Int) == (p0.length : Int)) then
  bif (decide (0 ≤ (p0.length : Int)) && decide (48 * (p0.length : Int) ≤ 140737488355328)) then
  let l1 := List.replicate (p0.length : Int).toNat ([], 0, 0, 0, 0)
  (lp laws_toEntryS.l0 (p0, l1, 0)).bind (fun x3 =>
  some x3)
  else none
  else none

noncomputable def laws_eqEntry.f (p0 : List UInt8 × Int × Int × Int × Int) (p1 : List UInt8 × Int × Int × Int × Int) : Option (Bool) :=
  bif !(p0.1 == p1.1) then
  some false
  else
  bif p0.2.1 != p1.2.1 then
  some false
  else
  bif p0.2.2.1 != p1.2.2.1 then
  some false
  else
  bif p0.2.2.2.1 != p1.2.2.2.1 then
  some false
  else
  bif p0.2.2.2.2 != p1.2.2.2.2 then
  some false
  else
  some true

noncomputable def laws_eqEntryS.l0 (rec : (List (List UInt8 × Int × Int × Int × Int) × List (List UInt8 × Int × Int × Int × Int) × Int) → Option ((Unit) ⊕ (Bool))) : (List (List UInt8 × Int × Int × Int × Int) × List (List UInt8 × Int × Int × Int × Int) × Int) → Option ((Unit) ⊕ (Bool)) := fun (x0, x1, x5) =>
  bif decide (x5 < (x0.length : Int)) then
  bif inB x5 x0.length then
  bif inB x5 x1.length then
  (laws_eqEntry.f ((rdA ([], 0, 0, 0, 0) x0 x5).1, ((rdA ([], 0, 0, 0, 0) x0 x5).2).1, (((rdA ([], 0, 0, 0, 0) x0 x5).2).2).1, ((((rdA ([], 0, 0, 0, 0) x0 x5).2).2).2)) ((rdA ([], 0, 0, 0, 0) x1 x5).1, ((rdA ([], 0, 0, 0, 0) x1 x5).2).1, (((rdA ([], 0, 0, 0, 0) x1 x5).2).2).1, ((((rdA ([], 0, 0, 0, 0) x1 x5).2).2).2))).bind fun t1 =>
  bif !t1 then
  some (Sum.inr false)
  else
  rec (x0, x1, w64 (x5 + 1))
  else none
  else none
  else
  some (Sum.inl ())
noncomputable def laws_eqEntryS.f (p0 : List (List UInt8 × Int × Int × Int × Int)) (p1 : List (List UInt8 × Int × Int × Int × Int)) : Option (Bool) :=
  bif (p0.length : Int) != (p1.length : Int) then
  some false
  else
  (lp laws_eqEntryS.l0 (p0, p1, 0)).bind (fun o2 => caseS o2 (fun _ =>
  some true) (fun x4 =>
  some x4))

noncomputable def spec_l3Find.l0 (rec : (List UInt8 × (List (List UInt8 × List UInt8 × Int) × Int × Int × Bool) × Int) → Option ((Unit) ⊕ (Int))) : (List UInt8 × (List (List UInt8 × List UInt8 × Int) × Int × Int × Bool) × Int) → Option ((Unit) ⊕ (Int)) := fun (x1, x2, x5) =>
  bif decide (x5 < (x2.1.length : Int)) then
  bif inB x5 x2.1.length then
  bif ((rdA ([], [], 0) x2.1 x5).1) == x1 then
  some (Sum.inr x5)
  else
  rec (x1, x2, w64 (x5 + 1))
  else none
  else
  some (Sum.inl ())
noncomputable def spec_l3Find.f (p0 : List (List UInt8 × List UInt8 × Int) × Int × Int × Bool) (p1 : List UInt8) : Option (Int) :=
  (lp spec_l3Find.l0 (p1, p0, 0)).bind (fun o1 => caseS o1 (fun _ =>
  some (-1)) (fun x4 =>
  some x4))

noncomputable def impl_fileAt.l0 (rec : (List UInt8 × List (List UInt8 × List UInt8 × Int) × Int × Int) → Option ((Unit) ⊕ (Int))) : (List UInt8 × List (List UInt8 × List UInt8 × Int) × Int × Int) → Option ((Unit) ⊕ (Int)) := fun (x1, x8, x9, x10) =>
  bif decide (x10 < x9) then
  bif inB x10 x8.length then
  let y1 := (rdA ([], [], 0) x8 x10).1
  let y2 := ((rdA ([], [], 0) x8 x10).2).1
  let y3 := ((rdA ([], [], 0) x8 x10).2).2
  bif y1 == x1 then
  some (Sum.inr x10)
  else
  rec (x1, x8, x9, w64 (x10 + 1))
  else none
  else
  some (Sum.inl ())
noncomputable def impl_fileAt.f (p0 : List (List UInt8 × List UInt8 × Int) × Int × Int × Bool) (p1 : List UInt8) : Option (Int) :=
  (lp impl_fileAt.l0 (p1, p0.1, (p0.1.length : Int), 0)).bind (fun o4 => caseS o4 (fun _ =>
  some (-1)) (fun x4 =>
  some x4))

noncomputable def spec_FileText.f (p0 : List (List UInt8 × List UInt8 × Int) × Int × Int × Bool) (p1 : List UInt8) : Option (List UInt8 × Bool) :=
  (spec_DiskOk.f p0).bind fun t1 =>
  bif !t1 then
  some ([], false)
  else
  (spec_l3Find.f p0 p1).bind fun t2 =>
  bif decide (t2 < 0) then
  some ([], false)
  else
  bif inB t2 p0.1.length then
  let y3 := ((rdA ([], [], 0) p0.1 t2).2).1
  some (y3, true)
  else none

noncomputable def impl_FileText.f (p0 : List (List UInt8 × List UInt8 × Int) × Int × Int × Bool) (p1 : List UInt8) : Option (List UInt8 × Bool) :=
  (impl_fileAt.f p0 p1).bind fun t1 =>
  bif decide (t1 < 0) then
  some ([], false)
  else
  (impl_DiskOk.f p0).bind fun t2 =>
  bif !t2 then
  some ([], false)
  else
  bif inB t1 p0.1.length then
  let y3 := ((rdA ([], [], 0) p0.1 t1).2).1
  some (y3, true)
  else none

noncomputable def laws_szIntS.f (p0 : List Int) (p1 : Int) : Option (Int) :=
  let y1 := w64 (p1 - (p0.length : Int))
  bif decide (y1 < 0) then
  some (-1)
  else
  some y1

noncomputable def laws_szLive.f (p0 : Int × List Int) (p1 : Int) : Option (Int) :=
  (laws_szIntS.f p0.2 p1).bind fun t1 =>
  bif decide (t1 < 0) then
  some (-1)
  else
  some t1

noncomputable def laws_toIntS.l0 (rec : (List Int × List Int × Int) → Option (List Int)) : (List Int × List Int × Int) → Option (List Int) := fun (x0, x3, x4) =>
  bif decide (x4 < (x0.length : Int)) then
  bif inB x4 x0.length then
  bif inB x4 x3.length then
  let l2 := x3.set x4.toNat (rdA 0 x0 x4)
  rec (x0, l2, w64 (x4 + 1))
  else none
  else none
  else
  some x3
noncomputable def laws_toIntS.f (p0 : List Int) : Option (List Int) :=
  bif ((p0.length : Int) == (p0.length : Int)) then
  bif (decide (0 ≤ (p0.length : Int)) && decide (8 * (p0.length : Int) ≤ 140737488355328)) then
  let l1 := List.replicate (p0.length : Int).toNat 0
  (lp laws_toIntS.l0 (p0, l1, 0)).bind (fun x3 =>
  some x3)
  else none
  else none

noncomputable def laws_toLive.f (p0 : Int × List Int) : Option (Int × List Int) :=
  (laws_toIntS.f p0.2).bind fun t1 =>
  some (p0.1, t1)

noncomputable def laws_eqIntS.l0 (rec : (List Int × List Int × Int) → Option ((Unit) ⊕ (Bool))) : (List Int × List Int × Int) → Option ((Unit) ⊕ (Bool)) := fun (x0, x1, x5) =>
  bif decide (x5 < (x0.length : Int)) then
  bif inB x5 x0.length then
  bif inB x5 x1.length then
  bif (rdA 0 x0 x5) != (rdA 0 x1 x5) then
  some (Sum.inr false)
  else
  rec (x0, x1, w64 (x5 + 1))
  else none
  else none
  else
  some (Sum.inl ())
noncomputable def laws_eqIntS.f (p0 : List Int) (p1 : List Int) : Option (Bool) :=
  bif (p0.length : Int) != (p1.length : Int) then
  some false
  else
  (lp laws_eqIntS.l0 (p0, p1, 0)).bind (fun o1 => caseS o1 (fun _ =>
  some true) (fun x4 =>
  some x4))

noncomputable def laws_eqLive.f (p0 : Int × List Int) (p1 : Int × List Int) : Option (Bool) :=
  bif p0.1 != p1.1 then
  some false
  else
  (laws_eqIntS.f p0.2 p1.2).bind fun t1 =>
  bif !t1 then
  some false
  else
  some true

noncomputable def laws_szStore.f (p0 : (Int × List Int) × List (List UInt8 × Int × Int × Int × Int) × Int × Int × Int) (p1 : Int) : Option (Int) :=
  (laws_szLive.f p0.1 p1).bind fun t1 =>
  bif decide (t1 < 0) then
  some (-1)
  else
  (laws_szEntryS.f p0.2.1 t1).bind fun t2 =>
  bif decide (t2 < 0) then
  some (-1)
  else
  some t2

noncomputable def spec_SegName.f (p0 : Int) : Option (List UInt8) :=
  (spec_l1In.f p0 1 100000).bind fun t1 =>
  bif !t1 then
  some []
  else
  (spec_Dec.f p0).bind fun t2 =>
  bif decide (([115, 101, 103] : List UInt8).length + t2.length ≤ 9223372036854775807) then
  let y3 := [115, 101, 103] ++ t2
  some y3
  else none

noncomputable def spec_SegBytes.l0 (rec : (((Int × List Int) × List (List UInt8 × Int × Int × Int × Int) × Int × Int × Int) × (List (List UInt8 × List UInt8 × Int) × Int × Int × Bool) × Int × Int) → Option (Int)) : (((Int × List Int) × List (List UInt8 × Int × Int × Int × Int) × Int × Int × Int) × (List (List UInt8 × List UInt8 × Int) × Int × Int × Bool) × Int × Int) → Option (Int) := fun (x2, x3, x5, x6) =>
  bif decide (x6 < (x2.1.2.length : Int)) then
  bif decide (x6 < 60) then
  bif inB x6 x2.1.2.length then
  (spec_SegName.f (rdA 0 x2.1.2 x6)).bind fun t1 =>
  (spec_FileText.f x3 t1).bind fun (t2_0, t2_1) =>
  let y3 := w64 (x5 + (t2_0.length : Int))
  rec (x2, x3, y3, w64 (x6 + 1))
  else none
  else
  some x5
  else
  some x5
noncomputable def spec_SegBytes.f (p0 : (Int × List Int) × List (List UInt8 × Int × Int × Int × Int) × Int × Int × Int) (p1 : List (List UInt8 × List UInt8 × Int) × Int × Int × Bool) : Option (Int) :=
  (lp spec_SegBytes.l0 (p0, p1, 0, 0)).bind (fun x5 =>
  some x5)

noncomputable def laws_toStore.f (p0 : (Int × List Int) × List (List UInt8 × Int × Int × Int × Int) × Int × Int × Int) : Option ((Int × List Int) × List (List UInt8 × Int × Int × Int × Int) × Int × Int × Int) :=
  (laws_toLive.f p0.1).bind fun t1 =>
  (laws_toEntryS.f p0.2.1).bind fun t2 =>
  some (t1, t2, p0.2.2)



noncomputable def impl_Dec.f (p0 : Int) : Option (List UInt8) :=
  (strconv_Itoa.f p0).bind fun t1 =>
  some t1

noncomputable def impl_named.f (p0 : List UInt8) (p1 : Int) : Option (List UInt8) :=
  (impl_in.f p1 1 100000).bind fun t1 =>
  bif !t1 then
  some []
  else
  (impl_Dec.f p1).bind fun t2 =>
  bif decide (p0.length + t2.length ≤ 9223372036854775807) then
  some (p0 ++ t2)
  else none

noncomputable def impl_SegName.f (p0 : Int) : Option (List UInt8) :=
  (impl_named.f [115, 101, 103] p0).bind fun t1 =>
  some t1

noncomputable def impl_SegBytes.l0 (rec : ((List (List UInt8 × List UInt8 × Int) × Int × Int × Bool) × Int × List Int × Int × Int) → Option (Int)) : ((List (List UInt8 × List UInt8 × Int) × Int × Int × Bool) × Int × List Int × Int × Int) → Option (Int) := fun (x3, x5, x12, x13, x14) =>
  bif decide (x14 < x13) then
  bif inB x14 x12.length then
  (bif decide (x14 < 60) then
  (impl_SegName.f (rdA 0 x12 x14)).bind fun t1 =>
  (impl_FileText.f x3 t1).bind fun (t2_0, t2_1) =>
  let y3 := w64 (x5 + (t2_0.length : Int))
  some (x3, y3, x12, x13, x14)
  else
  some (x3, x5, x12, x13, x14) : Option ((List (List UInt8 × List UInt8 × Int) × Int × Int × Bool) × Int × List Int × Int × Int)).bind (fun (x3, x5, x12, x13, x14) =>
  rec (x3, x5, x12, x13, w64 (x14 + 1)))
  else none
  else
  some x5
noncomputable def impl_SegBytes.f (p0 : (Int × List Int) × List (List UInt8 × Int × Int × Int × Int) × Int × Int × Int) (p1 : List (List UInt8 × List UInt8 × Int) × Int × Int × Bool) : Option (Int) :=
  (lp impl_SegBytes.l0 (p1, 0, p0.1.2, (p0.1.2.length : Int), 0)).bind (fun x5 =>
  some x5)

noncomputable def laws_eqStore.f (p0 : (Int × List Int) × List (List UInt8 × Int × Int × Int × Int) × Int × Int × Int) (p1 : (Int × List Int) × List (List UInt8 × Int × Int × Int × Int) × Int × Int × Int) : Option (Bool) :=
  (laws_eqLive.f p0.1 p1.1).bind fun t1 =>
  bif !t1 then
  some false
  else
  (laws_eqEntryS.f p0.2.1 p1.2.1).bind fun t2 =>
  bif !t2 then
  some false
  else
  bif p0.2.2.1 != p1.2.2.1 then
  some false
  else
  bif p0.2.2.2.1 != p1.2.2.2.1 then
  some false
  else
  bif p0.2.2.2.2 != p1.2.2.2.2 then
  some false
  else
  some true

noncomputable def laws_FnExactSegBytes.f (p0 : (Int × List Int) × List (List UInt8 × Int × Int × Int × Int) × Int × Int × Int) (p1 : List (List UInt8 × List UInt8 × Int) × Int × Int × Bool) : Option (Bool) :=
  (laws_szStore.f p0 1048576).bind fun t1 =>
  bif decide (t1 < 0) then
  some true
  else
  (laws_szDisk.f p1 t1).bind fun t2 =>
  bif decide (t2 < 0) then
  some true
  else
  (laws_toStore.f p0).bind fun t3 =>
  (laws_toDisk.f p1).bind fun t4 =>
  (spec_SegBytes.f t3 t4).bind fun t5 =>
  (laws_toStore.f p0).bind fun t6 =>
  (laws_toDisk.f p1).bind fun t7 =>
  (impl_SegBytes.f t6 t7).bind fun t8 =>
  bif t8 != t5 then
  some false
  else
  (laws_toStore.f p0).bind fun t9 =>
  (laws_eqStore.f t6 t9).bind fun t10 =>
  bif !t10 then
  some false
  else
  (laws_toDisk.f p1).bind fun t11 =>
  (laws_eqDisk.f t7 t11).bind fun t12 =>
  bif !t12 then
  some false
  else
  some true


end Go.Rf.G
