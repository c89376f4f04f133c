/- The plain functions that the program's functions come to. Printed by gen.py; each is held against the program in the text Ev. -/
import Derived.Test.YtljiidpfgfkhcabRf5
namespace Go.Rf.G
open Go Go.Rf
set_option linter.unusedVariables false

noncomputable def spec_l1In.f (p0 : Int) (p1 : Int) (p2 : Int) : Option (Bool) :=
  bif decide (p0 ≥ p1) then
  let y1 := decide (p0 ≤ p2)
  some y1
  else
  some false

noncomputable def impl_in.f (p0 : Int) (p1 : Int) (p2 : Int) : Option (Bool) :=
  bif decide (p0 ≥ p1) then
  let y1 := decide (p0 ≤ p2)
  some y1
  else
  some false

noncomputable def spec_Dec.l0 (rec : (Int × List UInt8 × Bool) → Option (List UInt8 × Bool)) : (Int × List UInt8 × Bool) → Option (List UInt8 × Bool) := fun (x0, x3, x4) =>
  bif x0 != 0 then
  let y2 := Int.tmod x0 10
  (bif decide (y2 < 0) then
  some (x0, x3, x4, w64 (0 - y2))
  else
  some (x0, x3, x4, y2) : Option (Int × List UInt8 × Bool × Int)).bind (fun (x0, x3, x4, x5) =>
  bif decide ((strOf [IntKind.wrap .u8 (w64 (48 + x5))]).length + x3.length ≤ 9223372036854775807) then
  let y3 := (strOf [IntKind.wrap .u8 (w64 (48 + x5))]) ++ x3
  let y4 := w64 (Int.tdiv x0 10)
  rec (y4, y3, x4)
  else none)
  else
  some (x3, x4)
noncomputable def spec_Dec.f (p0 : Int) : Option (List UInt8) :=
  bif p0 == 0 then
  some [48]
  else
  let y1 := decide (p0 < 0)
  (lp spec_Dec.l0 (p0, [], y1)).bind (fun (x3, x4) =>
  bif x4 then
  bif decide (([45] : List UInt8).length + x3.length ≤ 9223372036854775807) then
  some ([45] ++ x3)
  else none
  else
  some x3)

noncomputable def spec_l3Used.l0 (rec : ((List (List UInt8 × List UInt8 × Int) × Int × Int × Bool) × Int × Int) → Option (Int)) : ((List (List UInt8 × List UInt8 × Int) × Int × Int × Bool) × Int × Int) → Option (Int) := fun (x1, x3, x4) =>
  bif decide (x4 < (x1.1.length : Int)) then
  bif inB x4 x1.1.length then
  let y1 := w64 (x3 + ((((rdA ([], [], 0) x1.1 x4).2).1).length : Int))
  rec (x1, y1, w64 (x4 + 1))
  else none
  else
  some x3
noncomputable def spec_l3Used.f (p0 : List (List UInt8 × List UInt8 × Int) × Int × Int × Bool) : Option (Int) :=
  (lp spec_l3Used.l0 (p0, 0, 0)).bind (fun x3 =>
  some x3)

noncomputable def spec_NameOk.l0 (rec : (List UInt8 × Int) → Option ((List UInt8) ⊕ (Bool))) : (List UInt8 × Int) → Option ((List UInt8) ⊕ (Bool)) := fun (x0, x3) =>
  bif decide (x3 < (x0.length : Int)) then
  (bif inB x3 x0.length then
  bif decide ((bAt x0 x3) ≥ 97) then
  bif inB x3 x0.length then
  bif decide ((bAt x0 x3) ≤ 122) then
  some (Sum.inl (x0, x3))
  else
  bif inB x3 x0.length then
  bif decide ((bAt x0 x3) ≥ 48) then
  bif inB x3 x0.length then
  bif !(decide ((bAt x0 x3) ≤ 57)) then
  some (Sum.inr false)
  else
  some (Sum.inl (x0, x3))
  else none
  else
  some (Sum.inr false)
  else none
  else none
  else
  bif inB x3 x0.length then
  bif decide ((bAt x0 x3) ≥ 48) then
  bif inB x3 x0.length then
  bif !(decide ((bAt x0 x3) ≤ 57)) then
  some (Sum.inr false)
  else
  some (Sum.inl (x0, x3))
  else none
  else
  some (Sum.inr false)
  else none
  else none : Option ((List UInt8 × Int) ⊕ (Bool))).bind (fun o1 => caseS o1 (fun (x0, x3) =>
  rec (x0, w64 (x3 + 1))) (fun x2 =>
  some (Sum.inr x2)))
  else
  some (Sum.inl x0)
noncomputable def spec_NameOk.f (p0 : List UInt8) : Option (Bool) :=
  (lp spec_NameOk.l0 (p0, 0)).bind (fun o2 => caseS o2 (fun x0 =>
  (spec_l1In.f (x0.length : Int) 1 12).bind fun t3 =>
  some t3) (fun x2 =>
  some x2))

noncomputable def spec_DiskOk.l0 (rec : ((List (List UInt8 × List UInt8 × Int) × Int × Int × Bool) × Int) → Option ((Unit) ⊕ (Bool))) : ((List (List UInt8 × List UInt8 × Int) × Int × Int × Bool) × Int) → Option ((Unit) ⊕ (Bool)) := fun (x1, x3) =>
  bif decide (x3 < (x1.1.length : Int)) then
  (bif inB x3 x1.1.length then
  (spec_NameOk.f ((rdA ([], [], 0) x1.1 x3).1)).bind fun t4 =>
  bif !t4 then
  some (Sum.inr false)
  else
  bif inB x3 x1.1.length then
  bif inB x3 x1.1.length then
  (spec_l1In.f (((rdA ([], [], 0) x1.1 x3).2).2) 0 ((((rdA ([], [], 0) x1.1 x3).2).1).length : Int)).bind fun t5 =>
  bif !t5 then
  some (Sum.inr false)
  else
  bif decide (x3 > 0) then
  bif inB x3 x1.1.length then
  bif inB (w64 (x3 - 1)) x1.1.length then
  bif (Op.bytesLess ((rdA ([], [], 0) x1.1 x3).1) ((rdA ([], [], 0) x1.1 (w64 (x3 - 1))).1) || ((rdA ([], [], 0) x1.1 x3).1) == ((rdA ([], [], 0) x1.1 (w64 (x3 - 1))).1)) then
  some (Sum.inr false)
  else
  some (Sum.inl (x1, x3))
  else none
  else none
  else
  some (Sum.inl (x1, x3))
  else none
  else none
  else none : Option (((List (List UInt8 × List UInt8 × Int) × Int × Int × Bool) × Int) ⊕ (Bool))).bind (fun o6 => caseS o6 (fun (x1, x3) =>
  rec (x1, w64 (x3 + 1))) (fun x2 =>
  some (Sum.inr x2)))
  else
  some (Sum.inl ())
noncomputable def spec_DiskOk.f (p0 : List (List UInt8 × List UInt8 × Int) × Int × Int × Bool) : Option (Bool) :=
  bif decide ((p0.1.length : Int) > 130) then
  some false
  else
  (spec_l1In.f p0.2.1 0 100000).bind fun t1 =>
  bif !t1 then
  some false
  else
  (spec_l1In.f p0.2.2.1 (-1) 100000).bind fun t2 =>
  bif !t2 then
  some false
  else
  (spec_l3Used.f p0).bind fun t3 =>
  bif decide (t3 > p0.2.1) then
  some false
  else
  (lp spec_DiskOk.l0 (p0, 0)).bind (fun o7 => caseS o7 (fun _ =>
  some true) (fun x2 =>
  some x2))

noncomputable def impl_NameOk.l0 (rec : (List UInt8 × Int) → Option ((List UInt8) ⊕ (Bool))) : (List UInt8 × Int) → Option ((List UInt8) ⊕ (Bool)) := fun (x0, x3) =>
  bif decide (x3 < (x0.length : Int)) then
  (bif inB x3 x0.length then
  bif decide ((bAt x0 x3) ≥ 97) then
  bif inB x3 x0.length then
  bif !(decide ((bAt x0 x3) ≤ 122)) then
  bif inB x3 x0.length then
  bif decide ((bAt x0 x3) ≥ 48) then
  bif inB x3 x0.length then
  bif !(decide ((bAt x0 x3) ≤ 57)) then
  some (Sum.inr false)
  else
  some (Sum.inl (x0, x3))
  else none
  else
  some (Sum.inr false)
  else none
  else
  some (Sum.inl (x0, x3))
  else none
  else
  bif inB x3 x0.length then
  bif decide ((bAt x0 x3) ≥ 48) then
  bif inB x3 x0.length then
  bif !(decide ((bAt x0 x3) ≤ 57)) then
  some (Sum.inr false)
  else
  some (Sum.inl (x0, x3))
  else none
  else
  some (Sum.inr false)
  else none
  else none : Option ((List UInt8 × Int) ⊕ (Bool))).bind (fun o1 => caseS o1 (fun (x0, x3) =>
  rec (x0, w64 (x3 + 1))) (fun x2 =>
  some (Sum.inr x2)))
  else
  some (Sum.inl x0)
noncomputable def impl_NameOk.f (p0 : List UInt8) : Option (Bool) :=
  (lp impl_NameOk.l0 (p0, 0)).bind (fun o2 => caseS o2 (fun x0 =>
  (impl_in.f (x0.length : Int) 1 12).bind fun t3 =>
  some t3) (fun x2 =>
  some x2))

noncomputable def impl_DiskOk.l0 (rec : ((List (List UInt8 × List UInt8 × Int) × Int × Int × Bool) × Int × List (List UInt8 × List UInt8 × Int) × Int × Int) → Option (((List (List UInt8 × List UInt8 × Int) × Int × Int × Bool) × Int) ⊕ (Bool))) : ((List (List UInt8 × List UInt8 × Int) × Int × Int × Bool) × Int × List (List UInt8 × List UInt8 × Int) × Int × Int) → Option (((List (List UInt8 × List UInt8 × Int) × Int × Int × Bool) × Int) ⊕ (Bool)) := fun (x1, x3, x23, x24, x25) =>
  bif decide (x25 < x24) then
  bif inB x25 x23.length then
  let y3 := (rdA ([], [], 0) x23 x25).1
  let y4 := ((rdA ([], [], 0) x23 x25).2).1
  let y5 := ((rdA ([], [], 0) x23 x25).2).2
  ((impl_NameOk.f y3).bind fun t6 =>
  bif !t6 then
  some (Sum.inr false)
  else
  (impl_in.f y5 0 (y4.length : Int)).bind fun t7 =>
  bif !t7 then
  some (Sum.inr false)
  else
  bif decide (x25 > 0) then
  bif inB (w64 (x25 - 1)) x1.1.length then
  bif !(Op.bytesLess ((rdA ([], [], 0) x1.1 (w64 (x25 - 1))).1) y3) then
  some (Sum.inr false)
  else
  some (Sum.inl (x1, x3, (y3, y4, y5), x23, x24, x25))
  else none
  else
  some (Sum.inl (x1, x3, (y3, y4, y5), x23, x24, x25)) : Option (((List (List UInt8 × List UInt8 × Int) × Int × Int × Bool) × Int × (List UInt8 × List UInt8 × Int) × List (List UInt8 × List UInt8 × Int) × Int × Int) ⊕ (Bool))).bind (fun o8 => caseS o8 (fun (x1, x3, x5, x23, x24, x25) =>
  let y9 := w64 (x3 + (x5.2.1.length : Int))
  rec (x1, y9, x23, x24, w64 (x25 + 1))) (fun x2 =>
  some (Sum.inr x2)))
  else none
  else
  some (Sum.inl (x1, x3))
noncomputable def impl_DiskOk.f (p0 : List (List UInt8 × List UInt8 × Int) × Int × Int × Bool) : Option (Bool) :=
  bif decide ((p0.1.length : Int) > 130) then
  some false
  else
  (impl_in.f p0.2.1 0 100000).bind fun t1 =>
  bif !t1 then
  some false
  else
  (impl_in.f p0.2.2.1 (-1) 100000).bind fun t2 =>
  bif !t2 then
  some false
  else
  (lp impl_DiskOk.l0 (p0, 0, p0.1, (p0.1.length : Int), 0)).bind (fun o10 => caseS o10 (fun (x1, x3) =>
  let y11 := decide (x3 ≤ x1.2.1)
  some y11) (fun x2 =>
  some x2))

noncomputable def spec_l3Find.l0 (rec : (List UInt8 × (List (List UInt8 × List UInt8 × Int) × Int × Int × Bool) × Int) → Option ((Unit) ⊕ (Int))) : (List UInt8 × (List (List UInt8 × List UInt8 × Int) × Int × Int × Bool) × Int) → Option ((Unit) ⊕ (Int)) := fun (x1, x2, x5) =>
  bif decide (x5 < (x2.1.length : Int)) then
  bif inB x5 x2.1.length then
  bif ((rdA ([], [], 0) x2.1 x5).1) == x1 then
  some (Sum.inr x5)
  else
  rec (x1, x2, w64 (x5 + 1))
  else none
  else
  some (Sum.inl ())
noncomputable def spec_l3Find.f (p0 : List (List UInt8 × List UInt8 × Int) × Int × Int × Bool) (p1 : List UInt8) : Option (Int) :=
  (lp spec_l3Find.l0 (p1, p0, 0)).bind (fun o1 => caseS o1 (fun _ =>
  some (-1)) (fun x4 =>
  some x4))

noncomputable def impl_fileAt.l0 (rec : (List UInt8 × List (List UInt8 × List UInt8 × Int) × Int × Int) → Option ((Unit) ⊕ (Int))) : (List UInt8 × List (List UInt8 × List UInt8 × Int) × Int × Int) → Option ((Unit) ⊕ (Int)) := fun (x1, x8, x9, x10) =>
  bif decide (x10 < x9) then
  bif inB x10 x8.length then
  let y1 := (rdA ([], [], 0) x8 x10).1
  let y2 := ((rdA ([], [], 0) x8 x10).2).1
  let y3 := ((rdA ([], [], 0) x8 x10).2).2
  bif y1 == x1 then
  some (Sum.inr x10)
  else
  rec (x1, x8, x9, w64 (x10 + 1))
  else none
  else
  some (Sum.inl ())
noncomputable def impl_fileAt.f (p0 : List (List UInt8 × List UInt8 × Int) × Int × Int × Bool) (p1 : List UInt8) : Option (Int) :=
  (lp impl_fileAt.l0 (p1, p0.1, (p0.1.length : Int), 0)).bind (fun o4 => caseS o4 (fun _ =>
  some (-1)) (fun x4 =>
  some x4))

noncomputable def spec_FileText.f (p0 : List (List UInt8 × List UInt8 × Int) × Int × Int × Bool) (p1 : List UInt8) : Option (List UInt8 × Bool) :=
  (spec_DiskOk.f p0).bind fun t1 =>
  bif !t1 then
  some ([], false)
  else
  (spec_l3Find.f p0 p1).bind fun t2 =>
  bif decide (t2 < 0) then
  some ([], false)
  else
  bif inB t2 p0.1.length then
  let y3 := ((rdA ([], [], 0) p0.1 t2).2).1
  some (y3, true)
  else none

noncomputable def impl_FileText.f (p0 : List (List UInt8 × List UInt8 × Int) × Int × Int × Bool) (p1 : List UInt8) : Option (List UInt8 × Bool) :=
  (impl_fileAt.f p0 p1).bind fun t1 =>
  bif decide (t1 < 0) then
  some ([], false)
  else
  (impl_DiskOk.f p0).bind fun t2 =>
  bif !t2 then
  some ([], false)
  else
  bif inB t1 p0.1.length then
  let y3 := ((rdA ([], [], 0) p0.1 t1).2).1
  some (y3, true)
  else none

noncomputable def spec_l3Copy.f (p0 : List (List UInt8 × List UInt8 × Int) × Int × Int × Bool) : Option (List (List UInt8 × List UInt8 × Int) × Int × Int × Bool) :=
  bif decide ((([] : List (List UInt8 × List UInt8 × Int)).length + p0.1.length) * 40 ≤ 140737488355328) then
  let l1 := ([] : List (List UInt8 × List UInt8 × Int)) ++ p0.1
  some (l1, p0.2)
  else none

noncomputable def impl_copyDisk.f (p0 : List (List UInt8 × List UInt8 × Int) × Int × Int × Bool) : Option (List (List UInt8 × List UInt8 × Int) × Int × Int × Bool) :=
  bif decide ((([] : List (List UInt8 × List UInt8 × Int)).length + p0.1.length) * 40 ≤ 140737488355328) then
  let l1 := ([] : List (List UInt8 × List UInt8 × Int)) ++ p0.1
  some (l1, p0.2)
  else none

noncomputable def spec_l3Begin.f (p0 : List (List UInt8 × List UInt8 × Int) × Int × Int × Bool) : Option ((List (List UInt8 × List UInt8 × Int) × Int × Int × Bool) × Int) :=
  (spec_l3Copy.f p0).bind fun t1 =>
  (spec_DiskOk.f p0).bind fun t2 =>
  bif !t2 then
  some (t1, 5)
  else
  bif p0.2.2.2 then
  some ((t1.1, t1.2.1, t1.2.2.1, true), 1)
  else
  bif p0.2.2.1 == 0 then
  some ((t1.1, t1.2.1, t1.2.2.1, true), 1)
  else
  bif decide (p0.2.2.1 > 0) then
  let y3 := w64 (p0.2.2.1 - 1)
  some ((t1.1, t1.2.1, y3, t1.2.2.2), 0)
  else
  some (t1, 0)

noncomputable def spec_Sync.f (p0 : List (List UInt8 × List UInt8 × Int) × Int × Int × Bool) (p1 : List UInt8) : Option ((List (List UInt8 × List UInt8 × Int) × Int × Int × Bool) × Int) :=
  (spec_l3Begin.f p0).bind fun (t1_0, t1_1) =>
  bif t1_1 != 0 then
  some (t1_0, t1_1)
  else
  (spec_l3Find.f p0 p1).bind fun t2 =>
  bif decide (t2 < 0) then
  some (t1_0, 3)
  else
  bif inB t2 p0.1.length then
  bif inB t2 t1_0.1.length then
  let l3 := t1_0.1.set t2.toNat ((rdA ([], [], 0) t1_0.1 t2).1, ((rdA ([], [], 0) t1_0.1 t2).2).1, ((((rdA ([], [], 0) p0.1 t2).2).1).length : Int))
  some ((l3, t1_0.2), 0)
  else none
  else none

noncomputable def impl_Sync_1.f (p0 : List (List UInt8 × List UInt8 × Int) × Int × Int × Bool) (p1 : List UInt8) : Option (Int × List (List UInt8 × List UInt8 × Int) × Int × Int × Bool) :=
  (impl_fileAt.f p0 p1).bind fun t1 =>
  bif decide (t1 < 0) then
  some (3, p0)
  else
  bif inB t1 p0.1.length then
  bif inB t1 p0.1.length then
  let l2 := p0.1.set t1.toNat ((rdA ([], [], 0) p0.1 t1).1, ((rdA ([], [], 0) p0.1 t1).2).1, ((((rdA ([], [], 0) p0.1 t1).2).1).length : Int))
  some (0, (l2, p0.2))
  else none
  else none

noncomputable def impl_step_Sync_1.f (p0 : List (List UInt8 × List UInt8 × Int) × Int × Int × Bool) (p1 : List UInt8) : Option ((List (List UInt8 × List UInt8 × Int) × Int × Int × Bool) × Int) :=
  (impl_copyDisk.f p0).bind fun t1 =>
  (impl_DiskOk.f p0).bind fun t2 =>
  bif !t2 then
  some (t1, 5)
  else
  bif p0.2.2.2 then
  some ((t1.1, t1.2.1, t1.2.2.1, true), 1)
  else
  bif p0.2.2.1 == 0 then
  some ((t1.1, t1.2.1, t1.2.2.1, true), 1)
  else
  (bif decide (p0.2.2.1 > 0) then
  let y3 := w64 (t1.2.2.1 - 1)
  some (p1, ([], 0, 0, false), (t1.1, t1.2.1, y3, t1.2.2.2))
  else
  some (p1, ([], 0, 0, false), t1) : Option (List UInt8 × (List (List UInt8 × List UInt8 × Int) × Int × Int × Bool) × List (List UInt8 × List UInt8 × Int) × Int × Int × Bool)).bind (fun (x1, x4, x6) =>
  (impl_Sync_1.f x6 x1).bind fun (t4_0, t4_1) =>
  some (t4_1, t4_0))

noncomputable def impl_Disk_drop.f (p0 : List (List UInt8 × List UInt8 × Int) × Int × Int × Bool) (p1 : List UInt8) : Option (List (List UInt8 × List UInt8 × Int) × Int × Int × Bool) :=
  (impl_fileAt.f p0 p1).bind fun t1 =>
  bif decide (t1 ≥ 0) then
  bif (decide (0 ≤ t1) && decide (t1 ≤ (p0.1.length : Int))) then
  bif decide ((([] : List (List UInt8 × List UInt8 × Int)).length + (p0.1.take t1.toNat).length) * 40 ≤ 140737488355328) then
  bif (decide (0 ≤ w64 (t1 + 1)) && decide (w64 (t1 + 1) ≤ (p0.1.length : Int))) then
  bif decide (((([] : List (List UInt8 × List UInt8 × Int)) ++ (p0.1.take t1.toNat)).length + (p0.1.drop ((w64 (t1 + 1)).toNat)).length) * 40 ≤ 140737488355328) then
  let l2 := (([] : List (List UInt8 × List UInt8 × Int)) ++ (p0.1.take t1.toNat)) ++ (p0.1.drop ((w64 (t1 + 1)).toNat))
  some (l2, p0.2)
  else none
  else none
  else none
  else none
  else
  some p0

noncomputable def impl_Remove_1.f (p0 : List (List UInt8 × List UInt8 × Int) × Int × Int × Bool) (p1 : List UInt8) : Option (Int × List (List UInt8 × List UInt8 × Int) × Int × Int × Bool) :=
  (impl_fileAt.f p0 p1).bind fun t1 =>
  bif decide (t1 < 0) then
  some (3, p0)
  else
  (impl_Disk_drop.f p0 p1).bind fun t2 =>
  some (0, t2)

noncomputable def impl_step_Remove_1.f (p0 : List (List UInt8 × List UInt8 × Int) × Int × Int × Bool) (p1 : List UInt8) : Option ((List (List UInt8 × List UInt8 × Int) × Int × Int × Bool) × Int) :=
  (impl_copyDisk.f p0).bind fun t1 =>
  (impl_DiskOk.f p0).bind fun t2 =>
  bif !t2 then
  some (t1, 5)
  else
  bif p0.2.2.2 then
  some ((t1.1, t1.2.1, t1.2.2.1, true), 1)
  else
  bif p0.2.2.1 == 0 then
  some ((t1.1, t1.2.1, t1.2.2.1, true), 1)
  else
  (bif decide (p0.2.2.1 > 0) then
  let y3 := w64 (t1.2.2.1 - 1)
  some (p1, ([], 0, 0, false), (t1.1, t1.2.1, y3, t1.2.2.2))
  else
  some (p1, ([], 0, 0, false), t1) : Option (List UInt8 × (List (List UInt8 × List UInt8 × Int) × Int × Int × Bool) × List (List UInt8 × List UInt8 × Int) × Int × Int × Bool)).bind (fun (x1, x4, x6) =>
  (impl_Remove_1.f x6 x1).bind fun (t4_0, t4_1) =>
  some (t4_1, t4_0))

noncomputable def impl_Truncate_1.f (p0 : List (List UInt8 × List UInt8 × Int) × Int × Int × Bool) (p1 : List UInt8) (p2 : Int) : Option (Int × List (List UInt8 × List UInt8 × Int) × Int × Int × Bool) :=
  (impl_fileAt.f p0 p1).bind fun t1 =>
  bif decide (t1 < 0) then
  some (3, p0)
  else
  bif inB t1 p0.1.length then
  (impl_in.f p2 0 ((((rdA ([], [], 0) p0.1 t1).2).1).length : Int)).bind fun t2 =>
  bif !t2 then
  some (5, p0)
  else
  bif (decide (0 ≤ p2) && decide (p2 ≤ ((((rdA ([], [], 0) p0.1 t1).2).1).length : Int))) then
  let l3 := p0.1.set t1.toNat ((rdA ([], [], 0) p0.1 t1).1, (((rdA ([], [], 0) p0.1 t1).2).1).take p2.toNat, ((rdA ([], [], 0) p0.1 t1).2).2)
  let l4 := l3.set t1.toNat ((rdA ([], [], 0) l3 t1).1, ((rdA ([], [], 0) l3 t1).2).1, if p2 < ((rdA ([], [], 0) p0.1 t1).2).2 then p2 else ((rdA ([], [], 0) p0.1 t1).2).2)
  some (0, (l4, p0.2))
  else none
  else none

noncomputable def impl_step_Truncate_1.f (p0 : List (List UInt8 × List UInt8 × Int) × Int × Int × Bool) (p1 : List UInt8 × Int) : Option ((List (List UInt8 × List UInt8 × Int) × Int × Int × Bool) × Int) :=
  (impl_copyDisk.f p0).bind fun t1 =>
  (impl_DiskOk.f p0).bind fun t2 =>
  bif !t2 then
  some (t1, 5)
  else
  bif p0.2.2.2 then
  some ((t1.1, t1.2.1, t1.2.2.1, true), 1)
  else
  bif p0.2.2.1 == 0 then
  some ((t1.1, t1.2.1, t1.2.2.1, true), 1)
  else
  (bif decide (p0.2.2.1 > 0) then
  let y3 := w64 (t1.2.2.1 - 1)
  some (p1, ([], 0, 0, false), (t1.1, t1.2.1, y3, t1.2.2.2))
  else
  some (p1, ([], 0, 0, false), t1) : Option ((List UInt8 × Int) × (List (List UInt8 × List UInt8 × Int) × Int × Int × Bool) × List (List UInt8 × List UInt8 × Int) × Int × Int × Bool)).bind (fun (x1, x4, x6) =>
  (impl_Truncate_1.f x6 x1.1 x1.2).bind fun (t4_0, t4_1) =>
  some (t4_1, t4_0))

noncomputable def impl_used.l0 (rec : (Int × List (List UInt8 × List UInt8 × Int) × Int × Int) → Option (Int)) : (Int × List (List UInt8 × List UInt8 × Int) × Int × Int) → Option (Int) := fun (x3, x7, x8, x9) =>
  bif decide (x9 < x8) then
  bif inB x9 x7.length then
  let y1 := (rdA ([], [], 0) x7 x9).1
  let y2 := ((rdA ([], [], 0) x7 x9).2).1
  let y3 := ((rdA ([], [], 0) x7 x9).2).2
  let y4 := w64 (x3 + (y2.length : Int))
  rec (y4, x7, x8, w64 (x9 + 1))
  else none
  else
  some x3
noncomputable def impl_used.f (p0 : List (List UInt8 × List UInt8 × Int) × Int × Int × Bool) : Option (Int) :=
  (lp impl_used.l0 (0, p0.1, (p0.1.length : Int), 0)).bind (fun x3 =>
  some x3)

noncomputable def impl_Append_1.f (p0 : List (List UInt8 × List UInt8 × Int) × Int × Int × Bool) (p1 : List UInt8) (p2 : List UInt8) : Option (Int × List (List UInt8 × List UInt8 × Int) × Int × Int × Bool) :=
  (impl_fileAt.f p0 p1).bind fun t1 =>
  let y2 := decide (t1 < 0)
  bif y2 then
  some (3, p0)
  else
  (impl_used.f p0).bind fun t3 =>
  let y4 := decide ((p2.length : Int) > (w64 (p0.2.1 - t3)))
  bif y4 then
  some (2, p0)
  else
  bif inB t1 p0.1.length then
  bif decide ((((rdA ([], [], 0) p0.1 t1).2).1).length + p2.length ≤ 9223372036854775807) then
  bif inB t1 p0.1.length then
  let l5 := p0.1.set t1.toNat ((rdA ([], [], 0) p0.1 t1).1, (((rdA ([], [], 0) p0.1 t1).2).1) ++ p2, ((rdA ([], [], 0) p0.1 t1).2).2)
  some (0, (l5, p0.2))
  else none
  else none
  else none

noncomputable def impl_step_Append_1.f (p0 : List (List UInt8 × List UInt8 × Int) × Int × Int × Bool) (p1 : List UInt8 × List UInt8) : Option ((List (List UInt8 × List UInt8 × Int) × Int × Int × Bool) × Int) :=
  (impl_copyDisk.f p0).bind fun t1 =>
  (impl_DiskOk.f p0).bind fun t2 =>
  bif !t2 then
  some (t1, 5)
  else
  bif p0.2.2.2 then
  some ((t1.1, t1.2.1, t1.2.2.1, true), 1)
  else
  bif p0.2.2.1 == 0 then
  some ((t1.1, t1.2.1, t1.2.2.1, true), 1)
  else
  (bif decide (p0.2.2.1 > 0) then
  let y3 := w64 (t1.2.2.1 - 1)
  some (p1, ([], 0, 0, false), (t1.1, t1.2.1, y3, t1.2.2.2))
  else
  some (p1, ([], 0, 0, false), t1) : Option ((List UInt8 × List UInt8) × (List (List UInt8 × List UInt8 × Int) × Int × Int × Bool) × List (List UInt8 × List UInt8 × Int) × Int × Int × Bool)).bind (fun (x1, x4, x6) =>
  (impl_Append_1.f x6 x1.1 x1.2).bind fun (t4_0, t4_1) =>
  some (t4_1, t4_0))

noncomputable def impl_Disk_put.l0 (rec : ((List (List UInt8 × List UInt8 × Int) × Int × Int × Bool) × (List UInt8 × List UInt8 × Int) × Int) → Option ((List (List UInt8 × List UInt8 × Int) × Int × Int × Bool) × (List UInt8 × List UInt8 × Int) × Int)) : ((List (List UInt8 × List UInt8 × Int) × Int × Int × Bool) × (List UInt8 × List UInt8 × Int) × Int) → Option ((List (List UInt8 × List UInt8 × Int) × Int × Int × Bool) × (List UInt8 × List UInt8 × Int) × Int) := fun (x0, x3, x4) =>
  bif decide (x4 < (x0.1.length : Int)) then
  bif inB x4 x0.1.length then
  bif Op.bytesLess ((rdA ([], [], 0) x0.1 x4).1) x3.1 then
  rec (x0, x3, w64 (x4 + 1))
  else
  some (x0, x3, x4)
  else none
  else
  some (x0, x3, x4)
noncomputable def impl_Disk_put.f (p0 : List (List UInt8 × List UInt8 × Int) × Int × Int × Bool) (p1 : List UInt8 × List UInt8 × Int) : Option (List (List UInt8 × List UInt8 × Int) × Int × Int × Bool) :=
  (lp impl_Disk_put.l0 (p0, p1, 0)).bind (fun (x0, x3, x4) =>
  bif (decide (0 ≤ x4) && decide (x4 ≤ (x0.1.length : Int))) then
  bif decide ((([] : List (List UInt8 × List UInt8 × Int)).length + (x0.1.take x4.toNat).length) * 40 ≤ 140737488355328) then
  bif decide (((([] : List (List UInt8 × List UInt8 × Int)) ++ (x0.1.take x4.toNat)).length + [x3].length) * 40 ≤ 140737488355328) then
  let l1 := (([] : List (List UInt8 × List UInt8 × Int)) ++ (x0.1.take x4.toNat)) ++ [x3]
  bif (decide (0 ≤ x4) && decide (x4 ≤ (x0.1.length : Int))) then
  bif decide ((l1.length + (x0.1.drop x4.toNat).length) * 40 ≤ 140737488355328) then
  let l2 := l1 ++ (x0.1.drop x4.toNat)
  some (l2, x0.2)
  else none
  else none
  else none
  else none
  else none)

noncomputable def impl_Create_1.f (p0 : List (List UInt8 × List UInt8 × Int) × Int × Int × Bool) (p1 : List UInt8) : Option (Int × List (List UInt8 × List UInt8 × Int) × Int × Int × Bool) :=
  (impl_NameOk.f p1).bind fun t1 =>
  bif !t1 then
  some (5, p0)
  else
  (impl_fileAt.f p0 p1).bind fun t2 =>
  let y3 := decide (t2 ≥ 0)
  bif y3 then
  some (4, p0)
  else
  let y4 := decide ((p0.1.length : Int) ≥ 130)
  bif y4 then
  some (2, p0)
  else
  (impl_Disk_put.f p0 (p1, [], 0)).bind fun t5 =>
  some (0, t5)

noncomputable def impl_step_Create_1.f (p0 : List (List UInt8 × List UInt8 × Int) × Int × Int × Bool) (p1 : List UInt8) : Option ((List (List UInt8 × List UInt8 × Int) × Int × Int × Bool) × Int) :=
  (impl_copyDisk.f p0).bind fun t1 =>
  (impl_DiskOk.f p0).bind fun t2 =>
  bif !t2 then
  some (t1, 5)
  else
  bif p0.2.2.2 then
  some ((t1.1, t1.2.1, t1.2.2.1, true), 1)
  else
  bif p0.2.2.1 == 0 then
  some ((t1.1, t1.2.1, t1.2.2.1, true), 1)
  else
  (bif decide (p0.2.2.1 > 0) then
  let y3 := w64 (t1.2.2.1 - 1)
  some (p1, ([], 0, 0, false), (t1.1, t1.2.1, y3, t1.2.2.2))
  else
  some (p1, ([], 0, 0, false), t1) : Option (List UInt8 × (List (List UInt8 × List UInt8 × Int) × Int × Int × Bool) × List (List UInt8 × List UInt8 × Int) × Int × Int × Bool)).bind (fun (x1, x4, x6) =>
  (impl_Create_1.f x6 x1).bind fun (t4_0, t4_1) =>
  some (t4_1, t4_0))

noncomputable def impl_Rename_1.f (p0 : List (List UInt8 × List UInt8 × Int) × Int × Int × Bool) (p1 : List UInt8) (p2 : List UInt8) : Option (Int × List (List UInt8 × List UInt8 × Int) × Int × Int × Bool) :=
  (impl_fileAt.f p0 p1).bind fun t1 =>
  (impl_NameOk.f p2).bind fun t2 =>
  bif !t2 then
  some (5, p0)
  else
  let y3 := decide (t1 < 0)
  bif y3 then
  some (3, p0)
  else
  bif inB t1 p0.1.length then
  let y4 := (rdA ([], [], 0) p0.1 t1).1
  let y5 := ((rdA ([], [], 0) p0.1 t1).2).1
  let y6 := ((rdA ([], [], 0) p0.1 t1).2).2
  (impl_Disk_drop.f p0 p1).bind fun t7 =>
  (impl_Disk_drop.f t7 p2).bind fun t8 =>
  (impl_Disk_put.f t8 (p2, y5, y6)).bind fun t9 =>
  some (0, t9)
  else none

noncomputable def impl_step_Rename_1.f (p0 : List (List UInt8 × List UInt8 × Int) × Int × Int × Bool) (p1 : List UInt8 × List UInt8) : Option ((List (List UInt8 × List UInt8 × Int) × Int × Int × Bool) × Int) :=
  (impl_copyDisk.f p0).bind fun t1 =>
  (impl_DiskOk.f p0).bind fun t2 =>
  bif !t2 then
  some (t1, 5)
  else
  bif p0.2.2.2 then
  some ((t1.1, t1.2.1, t1.2.2.1, true), 1)
  else
  bif p0.2.2.1 == 0 then
  some ((t1.1, t1.2.1, t1.2.2.1, true), 1)
  else
  (bif decide (p0.2.2.1 > 0) then
  let y3 := w64 (t1.2.2.1 - 1)
  some (p1, ([], 0, 0, false), (t1.1, t1.2.1, y3, t1.2.2.2))
  else
  some (p1, ([], 0, 0, false), t1) : Option ((List UInt8 × List UInt8) × (List (List UInt8 × List UInt8 × Int) × Int × Int × Bool) × List (List UInt8 × List UInt8 × Int) × Int × Int × Bool)).bind (fun (x1, x4, x6) =>
  (impl_Rename_1.f x6 x1.1 x1.2).bind fun (t4_0, t4_1) =>
  some (t4_1, t4_0))

noncomputable def impl_Sync.f (p0 : List (List UInt8 × List UInt8 × Int) × Int × Int × Bool) (p1 : List UInt8) : Option ((List (List UInt8 × List UInt8 × Int) × Int × Int × Bool) × Int) :=
  (impl_step_Sync_1.f p0 p1).bind fun (t1_0, t1_1) =>
  some (t1_0, t1_1)

noncomputable def spec_l3Without.f (p0 : List (List UInt8 × List UInt8 × Int)) (p1 : Int) : Option (List (List UInt8 × List UInt8 × Int)) :=
  bif (decide (0 ≤ p1) && decide (p1 ≤ (p0.length : Int))) then
  bif decide ((([] : List (List UInt8 × List UInt8 × Int)).length + (p0.take p1.toNat).length) * 40 ≤ 140737488355328) then
  bif (decide (0 ≤ w64 (p1 + 1)) && decide (w64 (p1 + 1) ≤ (p0.length : Int))) then
  bif decide (((([] : List (List UInt8 × List UInt8 × Int)) ++ (p0.take p1.toNat)).length + (p0.drop ((w64 (p1 + 1)).toNat)).length) * 40 ≤ 140737488355328) then
  let l1 := (([] : List (List UInt8 × List UInt8 × Int)) ++ (p0.take p1.toNat)) ++ (p0.drop ((w64 (p1 + 1)).toNat))
  some l1
  else none
  else none
  else none
  else none

noncomputable def impl_Remove.f (p0 : List (List UInt8 × List UInt8 × Int) × Int × Int × Bool) (p1 : List UInt8) : Option ((List (List UInt8 × List UInt8 × Int) × Int × Int × Bool) × Int) :=
  (impl_step_Remove_1.f p0 p1).bind fun (t1_0, t1_1) =>
  some (t1_0, t1_1)

noncomputable def impl_Truncate.f (p0 : List (List UInt8 × List UInt8 × Int) × Int × Int × Bool) (p1 : List UInt8) (p2 : Int) : Option ((List (List UInt8 × List UInt8 × Int) × Int × Int × Bool) × Int) :=
  (impl_step_Truncate_1.f p0 (p1, p2)).bind fun (t1_0, t1_1) =>
  some (t1_0, t1_1)

noncomputable def spec_Append.f (p0 : List (List UInt8 × List UInt8 × Int) × Int × Int × Bool) (p1 : List UInt8) (p2 : List UInt8) : Option ((List (List UInt8 × List UInt8 × Int) × Int × Int × Bool) × Int) :=
  (spec_l3Begin.f p0).bind fun (t1_0, t1_1) =>
  bif t1_1 != 0 then
  some (t1_0, t1_1)
  else
  (spec_l3Find.f p0 p1).bind fun t2 =>
  bif decide (t2 < 0) then
  some (t1_0, 3)
  else
  (spec_l3Used.f p0).bind fun t3 =>
  bif decide ((p2.length : Int) > (w64 (p0.2.1 - t3))) then
  some (t1_0, 2)
  else
  bif inB t2 p0.1.length then
  bif decide ((((rdA ([], [], 0) p0.1 t2).2).1).length + p2.length ≤ 9223372036854775807) then
  bif inB t2 t1_0.1.length then
  let l4 := t1_0.1.set t2.toNat ((rdA ([], [], 0) t1_0.1 t2).1, (((rdA ([], [], 0) p0.1 t2).2).1) ++ p2, ((rdA ([], [], 0) t1_0.1 t2).2).2)
  some ((l4, t1_0.2), 0)
  else none
  else none
  else none

noncomputable def impl_Append.f (p0 : List (List UInt8 × List UInt8 × Int) × Int × Int × Bool) (p1 : List UInt8) (p2 : List UInt8) : Option ((List (List UInt8 × List UInt8 × Int) × Int × Int × Bool) × Int) :=
  (impl_step_Append_1.f p0 (p1, p2)).bind fun (t1_0, t1_1) =>
  some (t1_0, t1_1)

noncomputable def spec_l3Insert.l0 (rec : (List (List UInt8 × List UInt8 × Int) × (List UInt8 × List UInt8 × Int) × List (List UInt8 × List UInt8 × Int) × Bool × Int) → Option ((List UInt8 × List UInt8 × Int) × List (List UInt8 × List UInt8 × Int) × Bool)) : (List (List UInt8 × List UInt8 × Int) × (List UInt8 × List UInt8 × Int) × List (List UInt8 × List UInt8 × Int) × Bool × Int) → Option ((List UInt8 × List UInt8 × Int) × List (List UInt8 × List UInt8 × Int) × Bool) := fun (x0, x3, x5, x6, x7) =>
  bif decide (x7 < (x0.length : Int)) then
  (bif !x6 then
  bif inB x7 x0.length then
  bif !(Op.bytesLess ((rdA ([], [], 0) x0 x7).1) x3.1 || ((rdA ([], [], 0) x0 x7).1) == x3.1) then
  bif decide ((x5.length + [x3].length) * 40 ≤ 140737488355328) then
  some (x0, x3, x5 ++ [x3], true, x7)
  else none
  else
  some (x0, x3, x5, x6, x7)
  else none
  else
  some (x0, x3, x5, x6, x7) : Option (List (List UInt8 × List UInt8 × Int) × (List UInt8 × List UInt8 × Int) × List (List UInt8 × List UInt8 × Int) × Bool × Int)).bind (fun (x0, x3, x5, x6, x7) =>
  bif inB x7 x0.length then
  bif decide ((x5.length + ([((rdA ([], [], 0) x0 x7).1, ((rdA ([], [], 0) x0 x7).2))] : List (List UInt8 × List UInt8 × Int)).length) * 40 ≤ 140737488355328) then
  let l1 := x5 ++ ([((rdA ([], [], 0) x0 x7).1, ((rdA ([], [], 0) x0 x7).2))] : List (List UInt8 × List UInt8 × Int))
  rec (x0, x3, l1, x6, w64 (x7 + 1))
  else none
  else none)
  else
  some (x3, x5, x6)
noncomputable def spec_l3Insert.f (p0 : List (List UInt8 × List UInt8 × Int)) (p1 : List UInt8 × List UInt8 × Int) : Option (List (List UInt8 × List UInt8 × Int)) :=
  (lp spec_l3Insert.l0 (p0, p1, ([] : List (List UInt8 × List UInt8 × Int)), false, 0)).bind (fun (x3, x5, x6) =>
  bif !x6 then
  bif decide ((x5.length + [x3].length) * 40 ≤ 140737488355328) then
  some (x5 ++ [x3])
  else none
  else
  some x5)

noncomputable def spec_Create.f (p0 : List (List UInt8 × List UInt8 × Int) × Int × Int × Bool) (p1 : List UInt8) : Option ((List (List UInt8 × List UInt8 × Int) × Int × Int × Bool) × Int) :=
  (spec_l3Begin.f p0).bind fun (t1_0, t1_1) =>
  bif t1_1 != 0 then
  some (t1_0, t1_1)
  else
  (spec_NameOk.f p1).bind fun t2 =>
  bif !t2 then
  some (t1_0, 5)
  else
  (spec_l3Find.f p0 p1).bind fun t3 =>
  bif decide (t3 ≥ 0) then
  some (t1_0, 4)
  else
  bif decide ((p0.1.length : Int) ≥ 130) then
  some (t1_0, 2)
  else
  (spec_l3Insert.f t1_0.1 (p1, [], 0)).bind fun t4 =>
  some ((t4, t1_0.2), 0)

noncomputable def impl_Create.f (p0 : List (List UInt8 × List UInt8 × Int) × Int × Int × Bool) (p1 : List UInt8) : Option ((List (List UInt8 × List UInt8 × Int) × Int × Int × Bool) × Int) :=
  (impl_step_Create_1.f p0 p1).bind fun (t1_0, t1_1) =>
  some (t1_0, t1_1)

noncomputable def spec_Rename.f (p0 : List (List UInt8 × List UInt8 × Int) × Int × Int × Bool) (p1 : List UInt8) (p2 : List UInt8) : Option ((List (List UInt8 × List UInt8 × Int) × Int × Int × Bool) × Int) :=
  (spec_l3Begin.f p0).bind fun (t1_0, t1_1) =>
  bif t1_1 != 0 then
  some (t1_0, t1_1)
  else
  (spec_NameOk.f p2).bind fun t2 =>
  bif !t2 then
  some (t1_0, 5)
  else
  (spec_l3Find.f p0 p1).bind fun t3 =>
  bif decide (t3 < 0) then
  some (t1_0, 3)
  else
  bif p1 == p2 then
  some (t1_0, 0)
  else
  bif inB t3 p0.1.length then
  let y4 := (rdA ([], [], 0) p0.1 t3).1
  let y5 := ((rdA ([], [], 0) p0.1 t3).2).1
  let y6 := ((rdA ([], [], 0) p0.1 t3).2).2
  (spec_l3Without.f t1_0.1 t3).bind fun t7 =>
  (spec_l3Find.f (t7, t1_0.2) p2).bind fun t8 =>
  (bif decide (t8 ≥ 0) then
  (spec_l3Without.f t7 t8).bind fun t9 =>
  some (([], 0, 0, false), (t9, t1_0.2), (p2, y5, y6))
  else
  some (([], 0, 0, false), (t7, t1_0.2), (p2, y5, y6)) : Option ((List (List UInt8 × List UInt8 × Int) × Int × Int × Bool) × (List (List UInt8 × List UInt8 × Int) × Int × Int × Bool) × List UInt8 × List UInt8 × Int)).bind (fun (x6, x8, x11) =>
  (spec_l3Insert.f x8.1 x11).bind fun t10 =>
  some ((t10, x8.2), 0))
  else none

noncomputable def impl_Rename.f (p0 : List (List UInt8 × List UInt8 × Int) × Int × Int × Bool) (p1 : List UInt8) (p2 : List UInt8) : Option ((List (List UInt8 × List UInt8 × Int) × Int × Int × Bool) × Int) :=
  (impl_step_Rename_1.f p0 (p1, p2)).bind fun (t1_0, t1_1) =>
  some (t1_0, t1_1)

noncomputable def laws_big.f (p0 : List Int) : Option (Bool) :=
  let y1 := decide ((p0.length : Int) > 1048576)
  some y1

noncomputable def spec_l1New.l0 (rec : (List Int × Int × Int) → Option (List Int × Int)) : (List Int × Int × Int) → Option (List Int × Int) := fun (x0, x3, x4) =>
  bif decide (x4 < (x0.length : Int)) then
  bif decide (x4 < 4000) then
  bif inB x4 x0.length then
  let y2 := bits (fun _ a b => a &&& b) .i64 (w64 ((w64 ((w64 (x3 * 131)) + (w64 (rdA 0 x0 x4)))) + 7)) 1073741823
  rec (x0, y2, w64 (x4 + 1))
  else none
  else
  some (x0, x3)
  else
  some (x0, x3)
noncomputable def spec_l1New.f (p0 : List Int) : Option (List Int × Int × Int) :=
  let y1 := w64 (10101 + (p0.length : Int))
  (lp spec_l1New.l0 (p0, y1, 0)).bind (fun (x0, x3) =>
  some (x0, 0, x3))

noncomputable def spec_l1Byte.f (p0 : List Int × Int × Int) : Option (Int × List Int × Int × Int) :=
  let y1 := w64 ((w64 (p0.2.2 * 6364136223846793005)) + 1442695040888963407)
  let y2 := bits (fun _ a b => a &&& b) .i64 (bits (fun _ a b => a ^^^ b) .i64 (Int.fdiv y1 (2 ^ (min 33 64))) (Int.fdiv y1 (2 ^ (min 45 64)))) 255
  bif decide (p0.2.1 < (p0.1.length : Int)) then
  bif inB p0.2.1 p0.1.length then
  let y3 := bits (fun _ a b => a &&& b) .i64 (w64 (y2 + (w64 (rdA 0 p0.1 p0.2.1)))) 255
  let y4 := w64 (p0.2.1 + 1)
  some (y3, (p0.1, y4, y1))
  else none
  else
  some (y2, (p0.1, p0.2.1, y1))

noncomputable def spec_l1Below.f (p0 : List Int × Int × Int) (p1 : Int) : Option (Int × List Int × Int × Int) :=
  bif decide (p1 ≤ 0) then
  some (0, p0)
  else
  bif decide (p1 ≤ 256) then
  (spec_l1Byte.f p0).bind fun (t1_0, t1_1) =>
  bif p1 != 0 then
  let y2 := Int.tmod t1_0 p1
  some (y2, t1_1)
  else none
  else
  (spec_l1Byte.f p0).bind fun (t3_0, t3_1) =>
  (spec_l1Byte.f t3_1).bind fun (t4_0, t4_1) =>
  (spec_l1Byte.f t4_1).bind fun (t5_0, t5_1) =>
  (spec_l1Byte.f t5_1).bind fun (t6_0, t6_1) =>
  bif p1 != 0 then
  let y7 := Int.tmod (w64 ((w64 ((w64 ((w64 (t3_0 * 16777216)) + (w64 (t4_0 * 65536)))) + (w64 (t5_0 * 256)))) + t6_0)) p1
  some (y7, t6_1)
  else none

noncomputable def spec_l1Pick.f (p0 : List Int × Int × Int) (p1 : List (List UInt8)) : Option (List UInt8 × List Int × Int × Int) :=
  (spec_l1Below.f p0 (p1.length : Int)).bind fun (t1_0, t1_1) =>
  bif inB t1_0 p1.length then
  let y2 := rdA [] p1 t1_0
  some (y2, t1_1)
  else none

noncomputable def spec_l1Text.l0 (rec : ((List Int × Int × Int) × List Int × Int × Int) → Option ((List Int × Int × Int) × List Int)) : ((List Int × Int × Int) × List Int × Int × Int) → Option ((List Int × Int × Int) × List Int) := fun (x0, x5, x6, x7) =>
  bif decide (x7 > 0) then
  (spec_l1Byte.f x0).bind fun (t3_0, t3_1) =>
  (bif x6 == 1 then
  let y4 := Int.tmod t3_0 2
  some (t3_1, x5, x6, x7, y4)
  else
  some (t3_1, x5, x6, x7, t3_0) : Option ((List Int × Int × Int) × List Int × Int × Int × Int)).bind (fun (x0, x5, x6, x7, x8) =>
  (bif x6 == 2 then
  let y5 := w64 (97 + (Int.tmod x8 4))
  some (x0, x5, x6, x7, y5)
  else
  some (x0, x5, x6, x7, x8) : Option ((List Int × Int × Int) × List Int × Int × Int × Int)).bind (fun (x0, x5, x6, x7, x8) =>
  bif decide ((x5.length + [IntKind.wrap .u8 (x8)].length) * 1 ≤ 140737488355328) then
  let l6 := x5 ++ [IntKind.wrap .u8 (x8)]
  rec (x0, l6, x6, w64 (x7 - 1))
  else none))
  else
  some (x0, x5)
noncomputable def spec_l1Text.f (p0 : List Int × Int × Int) (p1 : Int) : Option (List UInt8 × List Int × Int × Int) :=
  (spec_l1Below.f p0 4).bind fun (t1_0, t1_1) =>
  (spec_l1Below.f t1_1 (w64 (p1 + 1))).bind fun (t2_0, t2_1) =>
  (lp spec_l1Text.l0 (t2_1, ([] : List Int), t1_0, t2_0)).bind (fun (x0, x5) =>
  some (strOf x5, x0))

noncomputable def laws_at.f (p0 : List Int) (p1 : Int) : Option (Int) :=
  bif decide (p1 < (p0.length : Int)) then
  bif inB p1 p0.length then
  let y1 := w64 (rdA 0 p0 p1)
  some y1
  else none
  else
  let y2 := Int.tmod (w64 ((w64 (p1 * 37)) + (w64 ((p0.length : Int) * 11)))) 256
  some y2

noncomputable def spec_l3Name.f (p0 : List Int × Int × Int) : Option (List UInt8 × List Int × Int × Int) :=
  (spec_l1Pick.f p0 [[108, 105, 118, 101], [115, 101, 103, 49], [115, 101, 103, 50], [115, 101, 103, 51], [116, 101, 109, 112], [104, 105, 110, 116, 49], [120], [97, 57]]).bind fun (t1_0, t1_1) =>
  some (t1_0, t1_1)

noncomputable def spec_DiskNew.f (p0 : Int) : Option (List (List UInt8 × List UInt8 × Int) × Int × Int × Bool) :=
  (spec_l1In.f p0 0 100000).bind fun t1 =>
  bif !t1 then
  some ([], 0, 0, false)
  else
  some ([], p0, (-1), false)

noncomputable def spec_l1PickInt.f (p0 : List Int × Int × Int) (p1 : List Int) : Option (Int × List Int × Int × Int) :=
  (spec_l1Below.f p0 (p1.length : Int)).bind fun (t1_0, t1_1) =>
  bif inB t1_0 p1.length then
  some (rdA 0 p1 t1_0, t1_1)
  else none

noncomputable def spec_SameDisk.l0 (rec : ((List (List UInt8 × List UInt8 × Int) × Int × Int × Bool) × (List (List UInt8 × List UInt8 × Int) × Int × Int × Bool) × Int) → Option ((Unit) ⊕ (Bool))) : ((List (List UInt8 × List UInt8 × Int) × Int × Int × Bool) × (List (List UInt8 × List UInt8 × Int) × Int × Int × Bool) × Int) → Option ((Unit) ⊕ (Bool)) := fun (x2, x3, x5) =>
  bif decide (x5 < (x2.1.length : Int)) then
  bif inB x5 x2.1.length then
  bif inB x5 x3.1.length then
  bif !(((rdA ([], [], 0) x2.1 x5).1) == ((rdA ([], [], 0) x3.1 x5).1) && ((((rdA ([], [], 0) x2.1 x5).2).1) == (((rdA ([], [], 0) x3.1 x5).2).1) && ((((rdA ([], [], 0) x2.1 x5).2).2) == (((rdA ([], [], 0) x3.1 x5).2).2)))) then
  some (Sum.inr false)
  else
  rec (x2, x3, w64 (x5 + 1))
  else none
  else none
  else
  some (Sum.inl ())
noncomputable def spec_SameDisk.f (p0 : List (List UInt8 × List UInt8 × Int) × Int × Int × Bool) (p1 : List (List UInt8 × List UInt8 × Int) × Int × Int × Bool) : Option (Bool) :=
  bif (p0.1.length : Int) != (p1.1.length : Int) then
  some false
  else
  bif p0.2.1 != p1.2.1 then
  some false
  else
  bif p0.2.2.1 != p1.2.2.1 then
  some false
  else
  bif !(p0.2.2.2 == p1.2.2.2) then
  some false
  else
  (lp spec_SameDisk.l0 (p0, p1, 0)).bind (fun o1 => caseS o1 (fun _ =>
  some true) (fun x4 =>
  some x4))

noncomputable def spec_l3Disk.l0 (rec : ((List Int × Int × Int) × (List (List UInt8 × List UInt8 × Int) × Int × Int × Bool) × (List (List UInt8 × List UInt8 × Int) × Int × Int × Bool) × Int) → Option ((List Int × Int × Int) × (List (List UInt8 × List UInt8 × Int) × Int × Int × Bool) × List (List UInt8 × List UInt8 × Int) × Int × Int × Bool)) : ((List Int × Int × Int) × (List (List UInt8 × List UInt8 × Int) × Int × Int × Bool) × (List (List UInt8 × List UInt8 × Int) × Int × Int × Bool) × Int) → Option ((List Int × Int × Int) × (List (List UInt8 × List UInt8 × Int) × Int × Int × Bool) × List (List UInt8 × List UInt8 × Int) × Int × Int × Bool) := fun (x0, x2, x3, x4) =>
  bif decide (x4 > 0) then
  (spec_l3Name.f x0).bind fun (t3_0, t3_1) =>
  (spec_l1Below.f t3_1 6).bind fun (t4_0, t4_1) =>
  ((bif t4_0 == 0 then
  some (t4_1, x2, x3, x4, t3_0, ([], x3.2), t4_0, t4_0 == 0)
  else
  some (t4_1, x2, x3, x4, t3_0, ([], x3.2), t4_0, t4_0 == 1) : Option ((List Int × Int × Int) × (List (List UInt8 × List UInt8 × Int) × Int × Int × Bool) × (List (List UInt8 × List UInt8 × Int) × Int × Int × Bool) × Int × List UInt8 × (List (List UInt8 × List UInt8 × Int) × Int × Int × Bool) × Int × Bool)).bind (fun (x0, x2, x3, x4, x5, x6, x18, x27) =>
  bif x27 then
  (spec_Create.f x3 x5).bind fun (t5_0, t5_1) =>
  some (x0, x2, x3, x4, t5_0)
  else
  (bif x18 == 2 then
  some (x0, x2, x3, x4, x5, ([], x6.2), x18, x18 == 2)
  else
  some (x0, x2, x3, x4, x5, ([], x6.2), x18, x18 == 3) : Option ((List Int × Int × Int) × (List (List UInt8 × List UInt8 × Int) × Int × Int × Bool) × (List (List UInt8 × List UInt8 × Int) × Int × Int × Bool) × Int × List UInt8 × (List (List UInt8 × List UInt8 × Int) × Int × Int × Bool) × Int × Bool)).bind (fun (x0, x2, x3, x4, x5, x6, x18, x36) =>
  bif x36 then
  (spec_l1Text.f x0 9).bind fun (t6_0, t6_1) =>
  (spec_Append.f x3 x5 t6_0).bind fun (t7_0, t7_1) =>
  some (t6_1, x2, x3, x4, t7_0)
  else
  (bif x18 == 4 then
  (spec_Sync.f x3 x5).bind fun (t8_0, t8_1) =>
  some (x0, x2, x3, x4, t8_0)
  else
  (spec_l3Name.f x0).bind fun (t9_0, t9_1) =>
  (spec_Rename.f x3 x5 t9_0).bind fun (t10_0, t10_1) =>
  some (t9_1, x2, x3, x4, t10_0) : Option ((List Int × Int × Int) × (List (List UInt8 × List UInt8 × Int) × Int × Int × Bool) × (List (List UInt8 × List UInt8 × Int) × Int × Int × Bool) × Int × List (List UInt8 × List UInt8 × Int) × Int × Int × Bool)).bind (fun (x0, x2, x3, x4, x6) =>
  some (x0, x2, x3, x4, x6)))) : Option ((List Int × Int × Int) × (List (List UInt8 × List UInt8 × Int) × Int × Int × Bool) × (List (List UInt8 × List UInt8 × Int) × Int × Int × Bool) × Int × List (List UInt8 × List UInt8 × Int) × Int × Int × Bool)).bind (fun (x0, x2, x3, x4, x6) =>
  rec (x0, x2, x6, w64 (x4 - 1)))
  else
  some (x0, x2, x3)
noncomputable def spec_l3Disk.f (p0 : List Int × Int × Int) : Option ((List (List UInt8 × List UInt8 × Int) × Int × Int × Bool) × List Int × Int × Int) :=
  (spec_DiskNew.f 200).bind fun t1 =>
  (spec_l1Below.f p0 12).bind fun (t2_0, t2_1) =>
  (lp spec_l3Disk.l0 (t2_1, ([], 0, 0, false), t1, t2_0)).bind (fun (x0, x2, x3) =>
  some (x3, x0))

noncomputable def spec_l3Any.l1 (rec : ((List Int × Int × Int) × (List (List UInt8 × List UInt8 × Int) × Int × Int × Bool) × (List (List UInt8 × List UInt8 × Int) × Int × Int × Bool) × Int) → Option ((List Int × Int × Int) × (List (List UInt8 × List UInt8 × Int) × Int × Int × Bool) × List (List UInt8 × List UInt8 × Int) × Int × Int × Bool)) : ((List Int × Int × Int) × (List (List UInt8 × List UInt8 × Int) × Int × Int × Bool) × (List (List UInt8 × List UInt8 × Int) × Int × Int × Bool) × Int) → Option ((List Int × Int × Int) × (List (List UInt8 × List UInt8 × Int) × Int × Int × Bool) × List (List UInt8 × List UInt8 × Int) × Int × Int × Bool) := fun (x0, x2, x3, x4) =>
  (spec_l1Below.f x0 3).bind fun (t11_0, t11_1) =>
  bif decide (x4 < (w64 (129 + t11_0))) then
  bif decide ((x3.1.length : Int) < 131) then
  (spec_Dec.f (w64 (100 + x4))).bind fun t12 =>
  bif decide (([121] : List UInt8).length + t12.length ≤ 9223372036854775807) then
  bif decide ((x3.1.length + ([([121] ++ t12, [], 0)] : List (List UInt8 × List UInt8 × Int)).length) * 40 ≤ 140737488355328) then
  let l13 := x3.1 ++ ([([121] ++ t12, [], 0)] : List (List UInt8 × List UInt8 × Int))
  rec (t11_1, x2, (l13, x3.2), w64 (x4 + 1))
  else none
  else none
  else
  some (t11_1, x2, x3)
  else
  some (t11_1, x2, x3)
noncomputable def spec_l3Any.f (p0 : List Int × Int × Int) : Option ((List (List UInt8 × List UInt8 × Int) × Int × Int × Bool) × List Int × Int × Int) :=
  (spec_l3Disk.f p0).bind fun (t1_0, t1_1) =>
  (spec_l1Below.f t1_1 14).bind fun (t2_0, t2_1) =>
  bif t2_0 == 0 then
  (spec_l1PickInt.f t2_1 [0, 1, (-2), (-1)]).bind fun (t3_0, t3_1) =>
  some ((t1_0.1, t1_0.2.1, t3_0, t1_0.2.2.2), t3_1)
  else
  bif t2_0 == 1 then
  some ((t1_0.1, t1_0.2.1, t1_0.2.2.1, true), t2_1)
  else
  bif t2_0 == 2 then
  (spec_l3Used.f t1_0).bind fun t4 =>
  (spec_l3Used.f t1_0).bind fun t5 =>
  (spec_l1PickInt.f t2_1 [(-1), 5, t4, w64 (t5 + 3), 100000, 100001]).bind fun (t6_0, t6_1) =>
  some ((t1_0.1, t6_0, t1_0.2.2), t6_1)
  else
  bif t2_0 == 3 then
  bif decide ((t1_0.1.length : Int) > 0) then
  (spec_l1Below.f t2_1 9).bind fun (t7_0, t7_1) =>
  bif inB 0 t1_0.1.length then
  let l8 := t1_0.1.set 0 ((rdA ([], [], 0) t1_0.1 0).1, ((rdA ([], [], 0) t1_0.1 0).2).1, w64 (t7_0 - 1))
  some ((l8, t1_0.2), t7_1)
  else none
  else
  some (t1_0, t2_1)
  else
  bif t2_0 == 4 then
  bif decide ((t1_0.1.length : Int) > 0) then
  (spec_l1Pick.f t2_1 ([[], [65], [122, 122], [116, 111, 111, 108, 111, 110, 103, 97, 110, 97, 109, 101, 49]] : List (List UInt8))).bind fun (t9_0, t9_1) =>
  bif inB 0 t1_0.1.length then
  let l10 := t1_0.1.set 0 (t9_0, (rdA ([], [], 0) t1_0.1 0).2)
  some ((l10, t1_0.2), t9_1)
  else none
  else
  some (t1_0, t2_1)
  else
  bif t2_0 == 5 then
  (lp spec_l3Any.l1 (t2_1, ([], 0, 0, false), t1_0, 0)).bind (fun (x0, x2, x3) =>
  some (x3, x0))
  else
  some (t1_0, t2_1)

noncomputable def spec_DrawAppend.f (p0 : List Int) : Option ((List (List UInt8 × List UInt8 × Int) × Int × Int × Bool) × List UInt8 × List UInt8) :=
  (spec_l1New.f p0).bind fun t1 =>
  (spec_l3Any.f t1).bind fun (t2_0, t2_1) =>
  (spec_l3Name.f t2_1).bind fun (t3_0, t3_1) =>
  (spec_l1Text.f t3_1 40).bind fun (t4_0, t4_1) =>
  some (t2_0, t3_0, t4_0)

noncomputable def laws_FnDisk.l0 (rec : (List Int × (List (List UInt8 × List UInt8 × Int) × Int × Int × Bool) × List UInt8 × List UInt8 × List UInt8 × List (List (List UInt8 × List UInt8 × Int) × Int × Int × Bool) × List Int × Int) → Option ((List (List UInt8 × List UInt8 × Int) × Int × Int × Bool) × List UInt8 × List UInt8 × List UInt8 × List (List (List UInt8 × List UInt8 × Int) × Int × Int × Bool) × List Int)) : (List Int × (List (List UInt8 × List UInt8 × Int) × Int × Int × Bool) × List UInt8 × List UInt8 × List UInt8 × List (List (List UInt8 × List UInt8 × Int) × Int × Int × Bool) × List Int × Int) → Option ((List (List UInt8 × List UInt8 × Int) × Int × Int × Bool) × List UInt8 × List UInt8 × List UInt8 × List (List (List UInt8 × List UInt8 × Int) × Int × Int × Bool) × List Int) := fun (x0, x3, x4, x5, x6, x7, x8, x9) =>
  bif decide (x9 < 6) then
  (bif x9 == 0 then
  (impl_Append.f x3 x4 x5).bind fun (t5_0, t5_1) =>
  some (x0, x3, x4, x5, x6, x7, x8, x9, t5_0, t5_1)
  else
  (bif x9 == 1 then
  (impl_Create.f x3 x4).bind fun (t6_0, t6_1) =>
  some (x0, x3, x4, x5, x6, x7, x8, x9, t6_0, t6_1)
  else
  (bif x9 == 2 then
  (impl_Sync.f x3 x4).bind fun (t7_0, t7_1) =>
  some (x0, x3, x4, x5, x6, x7, x8, x9, t7_0, t7_1)
  else
  (bif x9 == 3 then
  (impl_Rename.f x3 x4 x6).bind fun (t8_0, t8_1) =>
  some (x0, x3, x4, x5, x6, x7, x8, x9, t8_0, t8_1)
  else
  (bif x9 == 4 then
  (impl_Remove.f x3 x4).bind fun (t9_0, t9_1) =>
  some (x0, x3, x4, x5, x6, x7, x8, x9, t9_0, t9_1)
  else
  (laws_at.f x0 1).bind fun t10 =>
  (impl_Truncate.f x3 x4 (Int.tmod t10 12)).bind fun (t11_0, t11_1) =>
  some (x0, x3, x4, x5, x6, x7, x8, x9, t11_0, t11_1) : Option (List Int × (List (List UInt8 × List UInt8 × Int) × Int × Int × Bool) × List UInt8 × List UInt8 × List UInt8 × List (List (List UInt8 × List UInt8 × Int) × Int × Int × Bool) × List Int × Int × (List (List UInt8 × List UInt8 × Int) × Int × Int × Bool) × Int)).bind (fun (x0, x3, x4, x5, x6, x7, x8, x9, x10, x11) =>
  some (x0, x3, x4, x5, x6, x7, x8, x9, x10, x11)) : Option (List Int × (List (List UInt8 × List UInt8 × Int) × Int × Int × Bool) × List UInt8 × List UInt8 × List UInt8 × List (List (List UInt8 × List UInt8 × Int) × Int × Int × Bool) × List Int × Int × (List (List UInt8 × List UInt8 × Int) × Int × Int × Bool) × Int)).bind (fun (x0, x3, x4, x5, x6, x7, x8, x9, x10, x11) =>
  some (x0, x3, x4, x5, x6, x7, x8, x9, x10, x11)) : Option (List Int × (List (List UInt8 × List UInt8 × Int) × Int × Int × Bool) × List UInt8 × List UInt8 × List UInt8 × List (List (List UInt8 × List UInt8 × Int) × Int × Int × Bool) × List Int × Int × (List (List UInt8 × List UInt8 × Int) × Int × Int × Bool) × Int)).bind (fun (x0, x3, x4, x5, x6, x7, x8, x9, x10, x11) =>
  some (x0, x3, x4, x5, x6, x7, x8, x9, x10, x11)) : Option (List Int × (List (List UInt8 × List UInt8 × Int) × Int × Int × Bool) × List UInt8 × List UInt8 × List UInt8 × List (List (List UInt8 × List UInt8 × Int) × Int × Int × Bool) × List Int × Int × (List (List UInt8 × List UInt8 × Int) × Int × Int × Bool) × Int)).bind (fun (x0, x3, x4, x5, x6, x7, x8, x9, x10, x11) =>
  some (x0, x3, x4, x5, x6, x7, x8, x9, x10, x11)) : Option (List Int × (List (List UInt8 × List UInt8 × Int) × Int × Int × Bool) × List UInt8 × List UInt8 × List UInt8 × List (List (List UInt8 × List UInt8 × Int) × Int × Int × Bool) × List Int × Int × (List (List UInt8 × List UInt8 × Int) × Int × Int × Bool) × Int)).bind (fun (x0, x3, x4, x5, x6, x7, x8, x9, x10, x11) =>
  bif decide ((x7.length + [x10].length) * 48 ≤ 140737488355328) then
  bif decide ((x8.length + [x11].length) * 8 ≤ 140737488355328) then
  rec (x0, x3, x4, x5, x6, x7 ++ [x10], x8 ++ [x11], w64 (x9 + 1))
  else none
  else none)
  else
  some (x3, x4, x5, x6, x7, x8)
noncomputable def laws_FnDisk.l3 (rec : ((List (List UInt8 × List UInt8 × Int) × Int × Int × Bool) × List UInt8 × List UInt8 × List UInt8 × List (List (List UInt8 × List UInt8 × Int) × Int × Int × Bool) × List Int × Int) → Option (((List (List UInt8 × List UInt8 × Int) × Int × Int × Bool) × List UInt8 × List UInt8 × List UInt8 × List (List (List UInt8 × List UInt8 × Int) × Int × Int × Bool) × List Int) ⊕ (Bool))) : ((List (List UInt8 × List UInt8 × Int) × Int × Int × Bool) × List UInt8 × List UInt8 × List UInt8 × List (List (List UInt8 × List UInt8 × Int) × Int × Int × Bool) × List Int × Int) → Option (((List (List UInt8 × List UInt8 × Int) × Int × Int × Bool) × List UInt8 × List UInt8 × List UInt8 × List (List (List UInt8 × List UInt8 × Int) × Int × Int × Bool) × List Int) ⊕ (Bool)) := fun (x3, x4, x5, x6, x7, x8, x12) =>
  bif decide (x12 < (x7.length : Int)) then
  (bif inB x12 x7.length then
  let y12 := ((rdA ([], 0, 0, false) x7 x12).2).1
  let y13 := (((rdA ([], 0, 0, false) x7 x12).2).2).1
  let y14 := (((rdA ([], 0, 0, false) x7 x12).2).2).2
  bif inB x12 x8.length then
  bif (rdA 0 x8 x12) == 0 then
  ((spec_DiskOk.f ((rdA ([], 0, 0, false) x7 x12).1, y12, y13, y14)).bind fun t15 =>
  bif !t15 then
  some (Sum.inr false)
  else
  bif x3.2.2.2 then
  some (Sum.inr false)
  else
  bif x3.2.2.1 == 0 then
  some (Sum.inr false)
  else
  bif decide (x3.2.2.1 > 0) then
  bif y13 != (w64 (x3.2.2.1 - 1)) then
  some (Sum.inr false)
  else
  some (Sum.inl (x3, x4, x5, x6, x7, x8, x12))
  else
  some (Sum.inl (x3, x4, x5, x6, x7, x8, x12)) : Option (((List (List UInt8 × List UInt8 × Int) × Int × Int × Bool) × List UInt8 × List UInt8 × List UInt8 × List (List (List UInt8 × List UInt8 × Int) × Int × Int × Bool) × List Int × Int) ⊕ (Bool))).bind (fun o16 => caseS o16 (fun (x3, x4, x5, x6, x7, x8, x12) =>
  some (Sum.inl (x3, x4, x5, x6, x7, x8, x12))) (fun x2 =>
  some (Sum.inr x2)))
  else
  ((spec_SameDisk.f ((rdA ([], 0, 0, false) x7 x12).1, y12, x3.2.2) x3).bind fun t17 =>
  bif !t17 then
  some (Sum.inr false)
  else
  (spec_DiskOk.f x3).bind fun t18 =>
  bif t18 then
  bif x3.2.2.2 then
  bif inB x12 x8.length then
  bif (rdA 0 x8 x12) != 1 then
  some (Sum.inr false)
  else
  some (Sum.inl (x3, x4, x5, x6, x7, x8, x12))
  else none
  else
  bif x3.2.2.1 == 0 then
  bif inB x12 x8.length then
  bif (rdA 0 x8 x12) != 1 then
  some (Sum.inr false)
  else
  some (Sum.inl (x3, x4, x5, x6, x7, x8, x12))
  else none
  else
  some (Sum.inl (x3, x4, x5, x6, x7, x8, x12))
  else
  some (Sum.inl (x3, x4, x5, x6, x7, x8, x12)) : Option (((List (List UInt8 × List UInt8 × Int) × Int × Int × Bool) × List UInt8 × List UInt8 × List UInt8 × List (List (List UInt8 × List UInt8 × Int) × Int × Int × Bool) × List Int × Int) ⊕ (Bool))).bind (fun o19 => caseS o19 (fun (x3, x4, x5, x6, x7, x8, x12) =>
  some (Sum.inl (x3, x4, x5, x6, x7, x8, x12))) (fun x2 =>
  some (Sum.inr x2)))
  else none
  else none : Option (((List (List UInt8 × List UInt8 × Int) × Int × Int × Bool) × List UInt8 × List UInt8 × List UInt8 × List (List (List UInt8 × List UInt8 × Int) × Int × Int × Bool) × List Int × Int) ⊕ (Bool))).bind (fun o20 => caseS o20 (fun (x3, x4, x5, x6, x7, x8, x12) =>
  rec (x3, x4, x5, x6, x7, x8, w64 (x12 + 1))) (fun x2 =>
  some (Sum.inr x2)))
  else
  some (Sum.inl (x3, x4, x5, x6, x7, x8))
noncomputable def laws_FnDisk.f (p0 : List Int) : Option (Bool) :=
  (laws_big.f p0).bind fun t1 =>
  bif t1 then
  some true
  else
  (spec_DrawAppend.f p0).bind fun (t2_0, t2_1, t2_2) =>
  (laws_at.f p0 0).bind fun t3 =>
  bif inB (Int.tmod t3 4) [[108, 105, 118, 101], [115, 101, 103, 49], [120], [116, 101, 109, 112]].length then
  let y4 := rdA [] [[108, 105, 118, 101], [115, 101, 103, 49], [120], [116, 101, 109, 112]] (Int.tmod t3 4)
  (lp laws_FnDisk.l0 (p0, t2_0, t2_1, t2_2, y4, ([] : List (List (List UInt8 × List UInt8 × Int) × Int × Int × Bool)), ([] : List Int), 0)).bind (fun (x3, x4, x5, x6, x7, x8) =>
  (lp laws_FnDisk.l3 (x3, x4, x5, x6, x7, x8, 0)).bind (fun o21 => caseS o21 (fun (x3, x4, x5, x6, x7, x8) =>
  (spec_FileText.f x3 x4).bind fun (t22_0, t22_1) =>
  bif inB 0 x7.length then
  (impl_FileText.f ((rdA ([], 0, 0, false) x7 0).1, ((rdA ([], 0, 0, false) x7 0).2).1, (((rdA ([], 0, 0, false) x7 0).2).2)) x4).bind fun (t23_0, t23_1) =>
  bif inB 4 x7.length then
  (impl_FileText.f ((rdA ([], 0, 0, false) x7 4).1, ((rdA ([], 0, 0, false) x7 4).2).1, (((rdA ([], 0, 0, false) x7 4).2).2)) x4).bind fun (t24_0, t24_1) =>
  bif inB 3 x7.length then
  (impl_FileText.f ((rdA ([], 0, 0, false) x7 3).1, ((rdA ([], 0, 0, false) x7 3).2).1, (((rdA ([], 0, 0, false) x7 3).2).2)) x6).bind fun (t25_0, t25_1) =>
  bif inB 0 x8.length then
  bif (rdA 0 x8 0) == 0 then
  bif !t22_1 then
  some false
  else
  bif !t23_1 then
  some false
  else
  bif decide (t22_0.length + x5.length ≤ 9223372036854775807) then
  bif !(t23_0 == (t22_0 ++ x5)) then
  some false
  else
  bif inB 4 x8.length then
  bif (rdA 0 x8 4) == 0 then
  bif t24_1 then
  some false
  else
  bif inB 3 x8.length then
  bif (rdA 0 x8 3) != 0 then
  some true
  else
  bif t25_1 then
  let y26 := t25_0 == t22_0
  some y26
  else
  some false
  else none
  else
  bif inB 3 x8.length then
  bif (rdA 0 x8 3) != 0 then
  some true
  else
  bif t25_1 then
  let y27 := t25_0 == t22_0
  some y27
  else
  some false
  else none
  else none
  else none
  else
  bif inB 4 x8.length then
  bif (rdA 0 x8 4) == 0 then
  bif t24_1 then
  some false
  else
  bif inB 3 x8.length then
  bif (rdA 0 x8 3) != 0 then
  some true
  else
  bif t25_1 then
  let y28 := t25_0 == t22_0
  some y28
  else
  some false
  else none
  else
  bif inB 3 x8.length then
  bif (rdA 0 x8 3) != 0 then
  some true
  else
  bif t25_1 then
  let y29 := t25_0 == t22_0
  some y29
  else
  some false
  else none
  else none
  else none
  else none
  else none
  else none) (fun x2 =>
  some x2)))
  else none


end Go.Rf.G
