/- The plain functions that the program's functions come to. Printed by gen.py; each is held against the program in the text Ev. -/
import Derived.Test.YtaijmhaonokniaaRfA
namespace Go.Rf.G
open Go Go.Rf
set_option linter.unusedVariables false

noncomputable def laws_szPair.f (p0 : List UInt8 × List UInt8 × Int) (p1 : Int) : Option (Int) :=
  let y1 := w64 (p1 - (p0.1.length : Int))
  bif decide (y1 < 0) then
  some (-1)
  else
  let y2 := w64 (y1 - (p0.2.1.length : Int))
  bif decide (y2 < 0) then
  some (-1)
  else
  some y2

noncomputable def laws_szPairS.l0 (rec : (List (List UInt8 × List UInt8 × Int) × Int × Int) → Option ((Int) ⊕ (Int))) : (List (List UInt8 × List UInt8 × Int) × Int × Int) → Option ((Int) ⊕ (Int)) := fun (x0, x1, x5) =>
  bif decide (x5 < (x0.length : Int)) then
  bif inB x5 x0.length then
  (laws_szPair.f ((rdA ([], [], 0) x0 x5).1, ((rdA ([], [], 0) x0 x5).2)) x1).bind fun t2 =>
  bif decide (t2 < 0) then
  some (Sum.inr (-1))
  else
  rec (x0, t2, w64 (x5 + 1))
  else none
  else
  some (Sum.inl x1)
noncomputable def laws_szPairS.f (p0 : List (List UInt8 × List UInt8 × Int)) (p1 : Int) : Option (Int) :=
  let y1 := w64 (p1 - (p0.length : Int))
  bif decide (y1 < 0) then
  some (-1)
  else
  (lp laws_szPairS.l0 (p0, y1, 0)).bind (fun o3 => caseS o3 (fun x1 =>
  some x1) (fun x4 =>
  some x4))

noncomputable def spec_SamePairs.l0 (rec : (List (List UInt8 × List UInt8 × Int) × List (List UInt8 × List UInt8 × Int) × Int) → Option ((Unit) ⊕ (Bool))) : (List (List UInt8 × List UInt8 × Int) × List (List UInt8 × List UInt8 × Int) × Int) → Option ((Unit) ⊕ (Bool)) := fun (x0, x1, x5) =>
  bif decide (x5 < (x0.length : Int)) then
  bif inB x5 x0.length then
  bif inB x5 x1.length then
  bif !(((rdA ([], [], 0) x0 x5).1) == ((rdA ([], [], 0) x1 x5).1) && ((((rdA ([], [], 0) x0 x5).2).1) == (((rdA ([], [], 0) x1 x5).2).1) && ((((rdA ([], [], 0) x0 x5).2).2) == (((rdA ([], [], 0) x1 x5).2).2)))) then
  some (Sum.inr false)
  else
  rec (x0, x1, w64 (x5 + 1))
  else none
  else none
  else
  some (Sum.inl ())
noncomputable def spec_SamePairs.f (p0 : List (List UInt8 × List UInt8 × Int)) (p1 : List (List UInt8 × List UInt8 × Int)) : Option (Bool) :=
  bif (p0.length : Int) != (p1.length : Int) then
  some false
  else
  (lp spec_SamePairs.l0 (p0, p1, 0)).bind (fun o1 => caseS o1 (fun _ =>
  some true) (fun x4 =>
  some x4))

noncomputable def laws_toPair.f (p0 : List UInt8 × List UInt8 × Int) : Option (List UInt8 × List UInt8 × Int) :=
  some p0

noncomputable def laws_toPairS.l0 (rec : (List (List UInt8 × List UInt8 × Int) × List (List UInt8 × List UInt8 × Int) × Int) → Option (List (List UInt8 × List UInt8 × Int))) : (List (List UInt8 × List UInt8 × Int) × List (List UInt8 × List UInt8 × Int) × Int) → Option (List (List UInt8 × List UInt8 × Int)) := fun (x0, x3, x4) =>
  bif decide (x4 < (x0.length : Int)) then
  bif inB x4 x0.length then
  (laws_toPair.f ((rdA ([], [], 0) x0 x4).1, ((rdA ([], [], 0) x0 x4).2))).bind fun t2 =>
  bif inB x4 x3.length then
  let l3 := x3.set x4.toNat t2
  rec (x0, l3, w64 (x4 + 1))
  else none
  else none
  else
  some x3
noncomputable def laws_toPairS.f (p0 : List (List UInt8 × List UInt8 × Int)) : Option (List (List UInt8 × List UInt8 × Int)) :=
  bif ((p0.length : Int) == (p0.length : Int)) then
  bif (decide (0 ≤ (p0.length : Int)) && decide (40 * (p0.length : Int) ≤ 140737488355328)) then
  let l1 := List.replicate (p0.length : Int).toNat ([], [], 0)
  (lp laws_toPairS.l0 (p0, l1, 0)).bind (fun x3 =>
  some x3)
  else none
  else none

noncomputable def impl_SamePairs.l0 (rec : (List (List UInt8 × List UInt8 × Int) × List (List UInt8 × List UInt8 × Int) × Int × Int) → Option ((Unit) ⊕ (Bool))) : (List (List UInt8 × List UInt8 × Int) × List (List UInt8 × List UInt8 × Int) × Int × Int) → Option ((Unit) ⊕ (Bool)) := fun (x0, x1, x12, x13) =>
  bif decide (x13 < x12) then
  bif inB x13 x0.length then
  bif inB x13 x1.length then
  bif !(((rdA ([], [], 0) x0 x13).1) == ((rdA ([], [], 0) x1 x13).1) && ((((rdA ([], [], 0) x0 x13).2).1) == (((rdA ([], [], 0) x1 x13).2).1) && ((((rdA ([], [], 0) x0 x13).2).2) == (((rdA ([], [], 0) x1 x13).2).2)))) then
  some (Sum.inr false)
  else
  rec (x0, x1, x12, w64 (x13 + 1))
  else none
  else none
  else
  some (Sum.inl ())
noncomputable def impl_SamePairs.f (p0 : List (List UInt8 × List UInt8 × Int)) (p1 : List (List UInt8 × List UInt8 × Int)) : Option (Bool) :=
  bif (p0.length : Int) != (p1.length : Int) then
  some false
  else
  (lp impl_SamePairs.l0 (p0, p1, (p0.length : Int), 0)).bind (fun o1 => caseS o1 (fun _ =>
  some true) (fun x4 =>
  some x4))

noncomputable def laws_eqPair.f (p0 : List UInt8 × List UInt8 × Int) (p1 : List UInt8 × List UInt8 × Int) : Option (Bool) :=
  bif !(p0.1 == p1.1) then
  some false
  else
  bif !(p0.2.1 == p1.2.1) then
  some false
  else
  bif p0.2.2 != p1.2.2 then
  some false
  else
  some true

noncomputable def laws_eqPairS.l0 (rec : (List (List UInt8 × List UInt8 × Int) × List (List UInt8 × List UInt8 × Int) × Int) → Option ((Unit) ⊕ (Bool))) : (List (List UInt8 × List UInt8 × Int) × List (List UInt8 × List UInt8 × Int) × Int) → Option ((Unit) ⊕ (Bool)) := fun (x0, x1, x5) =>
  bif decide (x5 < (x0.length : Int)) then
  bif inB x5 x0.length then
  bif inB x5 x1.length then
  (laws_eqPair.f ((rdA ([], [], 0) x0 x5).1, ((rdA ([], [], 0) x0 x5).2)) ((rdA ([], [], 0) x1 x5).1, ((rdA ([], [], 0) x1 x5).2))).bind fun t1 =>
  bif !t1 then
  some (Sum.inr false)
  else
  rec (x0, x1, w64 (x5 + 1))
  else none
  else none
  else
  some (Sum.inl ())
noncomputable def laws_eqPairS.f (p0 : List (List UInt8 × List UInt8 × Int)) (p1 : List (List UInt8 × List UInt8 × Int)) : Option (Bool) :=
  bif (p0.length : Int) != (p1.length : Int) then
  some false
  else
  (lp laws_eqPairS.l0 (p0, p1, 0)).bind (fun o2 => caseS o2 (fun _ =>
  some true) (fun x4 =>
  some x4))

noncomputable def laws_FnExactSamePairs.f (p0 : List (List UInt8 × List UInt8 × Int)) (p1 : List (List UInt8 × List UInt8 × Int)) : Option (Bool) :=
  (laws_szPairS.f p0 1048576).bind fun t1 =>
  bif decide (t1 < 0) then
  some true
  else
  (laws_szPairS.f p1 t1).bind fun t2 =>
  bif decide (t2 < 0) then
  some true
  else
  (laws_toPairS.f p0).bind fun t3 =>
  (laws_toPairS.f p1).bind fun t4 =>
  (spec_SamePairs.f t3 t4).bind fun t5 =>
  (laws_toPairS.f p0).bind fun t6 =>
  (laws_toPairS.f p1).bind fun t7 =>
  (impl_SamePairs.f t6 t7).bind fun t8 =>
  bif !(t8 == t5) then
  some false
  else
  (laws_toPairS.f p0).bind fun t9 =>
  (laws_eqPairS.f t6 t9).bind fun t10 =>
  bif !t10 then
  some false
  else
  (laws_toPairS.f p1).bind fun t11 =>
  (laws_eqPairS.f t7 t11).bind fun t12 =>
  bif !t12 then
  some false
  else
  some true

noncomputable def laws_szPut.f (p0 : List UInt8 × Bool × List UInt8) (p1 : Int) : Option (Int) :=
  let y1 := w64 (p1 - (p0.1.length : Int))
  bif decide (y1 < 0) then
  some (-1)
  else
  let y2 := w64 (y1 - (p0.2.2.length : Int))
  bif decide (y2 < 0) then
  some (-1)
  else
  some y2

noncomputable def laws_szPutS.l0 (rec : (List (List UInt8 × Bool × List UInt8) × Int × Int) → Option ((Int) ⊕ (Int))) : (List (List UInt8 × Bool × List UInt8) × Int × Int) → Option ((Int) ⊕ (Int)) := fun (x0, x1, x5) =>
  bif decide (x5 < (x0.length : Int)) then
  bif inB x5 x0.length then
  (laws_szPut.f ((rdA ([], false, []) x0 x5).1, ((rdA ([], false, []) x0 x5).2)) x1).bind fun t2 =>
  bif decide (t2 < 0) then
  some (Sum.inr (-1))
  else
  rec (x0, t2, w64 (x5 + 1))
  else none
  else
  some (Sum.inl x1)
noncomputable def laws_szPutS.f (p0 : List (List UInt8 × Bool × List UInt8)) (p1 : Int) : Option (Int) :=
  let y1 := w64 (p1 - (p0.length : Int))
  bif decide (y1 < 0) then
  some (-1)
  else
  (lp laws_szPutS.l0 (p0, y1, 0)).bind (fun o3 => caseS o3 (fun x1 =>
  some x1) (fun x4 =>
  some x4))

noncomputable def spec_l1In.f (p0 : Int) (p1 : Int) (p2 : Int) : Option (Bool) :=
  bif decide (p0 ≥ p1) then
  let y1 := decide (p0 ≤ p2)
  some y1
  else
  some false

noncomputable def spec_KeyOk.f (p0 : List UInt8) : Option (Bool) :=
  (spec_l1In.f (p0.length : Int) 1 8).bind fun t1 =>
  some t1

noncomputable def spec_PutsOk.l0 (rec : (List (List UInt8 × Bool × List UInt8) × Int) → Option ((Unit) ⊕ (Bool))) : (List (List UInt8 × Bool × List UInt8) × Int) → Option ((Unit) ⊕ (Bool)) := fun (x0, x3) =>
  bif decide (x3 < (x0.length : Int)) then
  (bif inB x3 x0.length then
  (spec_KeyOk.f ((rdA ([], false, []) x0 x3).1)).bind fun t1 =>
  bif !t1 then
  some (Sum.inr false)
  else
  bif inB x3 x0.length then
  bif decide (((((rdA ([], false, []) x0 x3).2).2).length : Int) > 24) then
  some (Sum.inr false)
  else
  bif inB x3 x0.length then
  bif ((rdA ([], false, []) x0 x3).2).1 then
  bif inB x3 x0.length then
  bif !((((rdA ([], false, []) x0 x3).2).2) == []) then
  some (Sum.inr false)
  else
  some (Sum.inl (x0, x3))
  else none
  else
  some (Sum.inl (x0, x3))
  else none
  else none
  else none : Option ((List (List UInt8 × Bool × List UInt8) × Int) ⊕ (Bool))).bind (fun o2 => caseS o2 (fun (x0, x3) =>
  rec (x0, w64 (x3 + 1))) (fun x2 =>
  some (Sum.inr x2)))
  else
  some (Sum.inl ())
noncomputable def spec_PutsOk.f (p0 : List (List UInt8 × Bool × List UInt8)) : Option (Bool) :=
  bif decide ((p0.length : Int) > 8) then
  some false
  else
  (lp spec_PutsOk.l0 (p0, 0)).bind (fun o3 => caseS o3 (fun _ =>
  some true) (fun x2 =>
  some x2))

noncomputable def laws_toPut.f (p0 : List UInt8 × Bool × List UInt8) : Option (List UInt8 × Bool × List UInt8) :=
  some p0

noncomputable def laws_toPutS.l0 (rec : (List (List UInt8 × Bool × List UInt8) × List (List UInt8 × Bool × List UInt8) × Int) → Option (List (List UInt8 × Bool × List UInt8))) : (List (List UInt8 × Bool × List UInt8) × List (List UInt8 × Bool × List UInt8) × Int) → Option (List (List UInt8 × Bool × List UInt8)) := fun (x0, x3, x4) =>
  bif decide (x4 < (x0.length : Int)) then
  bif inB x4 x0.length then
  (laws_toPut.f ((rdA ([], false, []) x0 x4).1, ((rdA ([], false, []) x0 x4).2))).bind fun t2 =>
  bif inB x4 x3.length then
  let l3 := x3.set x4.toNat t2
  rec (x0, l3, w64 (x4 + 1))
  else none
  else none
  else
  some x3
noncomputable def laws_toPutS.f (p0 : List (List UInt8 × Bool × List UInt8)) : Option (List (List UInt8 × Bool × List UInt8)) :=
  bif ((p0.length : Int) == (p0.length : Int)) then
  bif (decide (0 ≤ (p0.length : Int)) && decide (40 * (p0.length : Int) ≤ 140737488355328)) then
  let l1 := List.replicate (p0.length : Int).toNat ([], false, [])
  (lp laws_toPutS.l0 (p0, l1, 0)).bind (fun x3 =>
  some x3)
  else none
  else none

noncomputable def impl_in.f (p0 : Int) (p1 : Int) (p2 : Int) : Option (Bool) :=
  bif decide (p0 ≥ p1) then
  let y1 := decide (p0 ≤ p2)
  some y1
  else
  some false

noncomputable def impl_KeyOk.f (p0 : List UInt8) : Option (Bool) :=
  (impl_in.f (p0.length : Int) 1 8).bind fun t1 =>
  some t1

noncomputable def impl_putOk.f (p0 : List UInt8 × Bool × List UInt8) : Option (Bool) :=
  (impl_KeyOk.f p0.1).bind fun t1 =>
  bif t1 then
  bif decide ((p0.2.2.length : Int) ≤ 24) then
  bif !p0.2.1 then
  some true
  else
  some (p0.2.2 == [])
  else
  some false
  else
  some false

noncomputable def impl_PutsOk.l0 (rec : (List (List UInt8 × Bool × List UInt8) × List (List UInt8 × Bool × List UInt8) × Int × Int) → Option ((List (List UInt8 × Bool × List UInt8)) ⊕ (Bool))) : (List (List UInt8 × Bool × List UInt8) × List (List UInt8 × Bool × List UInt8) × Int × Int) → Option ((List (List UInt8 × Bool × List UInt8)) ⊕ (Bool)) := fun (x0, x5, x6, x7) =>
  bif decide (x7 < x6) then
  bif inB x7 x5.length then
  let y1 := (rdA ([], false, []) x5 x7).1
  let y2 := ((rdA ([], false, []) x5 x7).2).1
  let y3 := ((rdA ([], false, []) x5 x7).2).2
  (impl_putOk.f (y1, y2, y3)).bind fun t4 =>
  bif !t4 then
  some (Sum.inr false)
  else
  rec (x0, x5, x6, w64 (x7 + 1))
  else none
  else
  some (Sum.inl x0)
noncomputable def impl_PutsOk.f (p0 : List (List UInt8 × Bool × List UInt8)) : Option (Bool) :=
  (lp impl_PutsOk.l0 (p0, p0, (p0.length : Int), 0)).bind (fun o5 => caseS o5 (fun x0 =>
  let y6 := decide ((x0.length : Int) ≤ 8)
  some y6) (fun x2 =>
  some x2))

noncomputable def laws_eqPut.f (p0 : List UInt8 × Bool × List UInt8) (p1 : List UInt8 × Bool × List UInt8) : Option (Bool) :=
  bif !(p0.1 == p1.1) then
  some false
  else
  bif !(p0.2.1 == p1.2.1) then
  some false
  else
  bif !(p0.2.2 == p1.2.2) then
  some false
  else
  some true

noncomputable def laws_eqPutS.l0 (rec : (List (List UInt8 × Bool × List UInt8) × List (List UInt8 × Bool × List UInt8) × Int) → Option ((Unit) ⊕ (Bool))) : (List (List UInt8 × Bool × List UInt8) × List (List UInt8 × Bool × List UInt8) × Int) → Option ((Unit) ⊕ (Bool)) := fun (x0, x1, x5) =>
  bif decide (x5 < (x0.length : Int)) then
  bif inB x5 x0.length then
  bif inB x5 x1.length then
  (laws_eqPut.f ((rdA ([], false, []) x0 x5).1, ((rdA ([], false, []) x0 x5).2)) ((rdA ([], false, []) x1 x5).1, ((rdA ([], false, []) x1 x5).2))).bind fun t1 =>
  bif !t1 then
  some (Sum.inr false)
  else
  rec (x0, x1, w64 (x5 + 1))
  else none
  else none
  else
  some (Sum.inl ())
noncomputable def laws_eqPutS.f (p0 : List (List UInt8 × Bool × List UInt8)) (p1 : List (List UInt8 × Bool × List UInt8)) : Option (Bool) :=
  bif (p0.length : Int) != (p1.length : Int) then
  some false
  else
  (lp laws_eqPutS.l0 (p0, p1, 0)).bind (fun o2 => caseS o2 (fun _ =>
  some true) (fun x4 =>
  some x4))

noncomputable def laws_FnExactPutsOk.f (p0 : List (List UInt8 × Bool × List UInt8)) : Option (Bool) :=
  (laws_szPutS.f p0 1048576).bind fun t1 =>
  bif decide (t1 < 0) then
  some true
  else
  (laws_toPutS.f p0).bind fun t2 =>
  (spec_PutsOk.f t2).bind fun t3 =>
  (laws_toPutS.f p0).bind fun t4 =>
  (impl_PutsOk.f t4).bind fun t5 =>
  bif !(t5 == t3) then
  some false
  else
  (laws_toPutS.f p0).bind fun t6 =>
  (laws_eqPutS.f t4 t6).bind fun t7 =>
  bif !t7 then
  some false
  else
  some true

noncomputable def laws_szStringS.l0 (rec : (List (List UInt8) × Int × Int) → Option ((Int) ⊕ (Int))) : (List (List UInt8) × Int × Int) → Option ((Int) ⊕ (Int)) := fun (x0, x1, x5) =>
  bif decide (x5 < (x0.length : Int)) then
  bif inB x5 x0.length then
  let y2 := w64 (x1 - ((rdA [] x0 x5).length : Int))
  bif decide (y2 < 0) then
  some (Sum.inr (-1))
  else
  rec (x0, y2, w64 (x5 + 1))
  else none
  else
  some (Sum.inl x1)
noncomputable def laws_szStringS.f (p0 : List (List UInt8)) (p1 : Int) : Option (Int) :=
  let y1 := w64 (p1 - (p0.length : Int))
  bif decide (y1 < 0) then
  some (-1)
  else
  (lp laws_szStringS.l0 (p0, y1, 0)).bind (fun o3 => caseS o3 (fun x1 =>
  some x1) (fun x4 =>
  some x4))

noncomputable def laws_szAnswer.f (p0 : Int × List UInt8 × List (List UInt8)) (p1 : Int) : Option (Int) :=
  let y1 := w64 (p1 - (p0.2.1.length : Int))
  bif decide (y1 < 0) then
  some (-1)
  else
  (laws_szStringS.f p0.2.2 y1).bind fun t2 =>
  bif decide (t2 < 0) then
  some (-1)
  else
  some t2

noncomputable def laws_szAnswerS.l0 (rec : (List (Int × List UInt8 × List (List UInt8)) × Int × Int) → Option ((Int) ⊕ (Int))) : (List (Int × List UInt8 × List (List UInt8)) × Int × Int) → Option ((Int) ⊕ (Int)) := fun (x0, x1, x5) =>
  bif decide (x5 < (x0.length : Int)) then
  bif inB x5 x0.length then
  (laws_szAnswer.f ((rdA (0, [], []) x0 x5).1, ((rdA (0, [], []) x0 x5).2)) x1).bind fun t2 =>
  bif decide (t2 < 0) then
  some (Sum.inr (-1))
  else
  rec (x0, t2, w64 (x5 + 1))
  else none
  else
  some (Sum.inl x1)
noncomputable def laws_szAnswerS.f (p0 : List (Int × List UInt8 × List (List UInt8))) (p1 : Int) : Option (Int) :=
  let y1 := w64 (p1 - (p0.length : Int))
  bif decide (y1 < 0) then
  some (-1)
  else
  (lp laws_szAnswerS.l0 (p0, y1, 0)).bind (fun o3 => caseS o3 (fun x1 =>
  some x1) (fun x4 =>
  some x4))

noncomputable def spec_l18Same.l0 (rec : ((Int × List UInt8 × List (List UInt8)) × (Int × List UInt8 × List (List UInt8)) × Int) → Option ((Unit) ⊕ (Bool))) : ((Int × List UInt8 × List (List UInt8)) × (Int × List UInt8 × List (List UInt8)) × Int) → Option ((Unit) ⊕ (Bool)) := fun (x2, x3, x5) =>
  bif decide (x5 < (x2.2.2.length : Int)) then
  bif inB x5 x2.2.2.length then
  bif inB x5 x3.2.2.length then
  bif !((rdA [] x2.2.2 x5) == (rdA [] x3.2.2 x5)) then
  some (Sum.inr false)
  else
  rec (x2, x3, w64 (x5 + 1))
  else none
  else none
  else
  some (Sum.inl ())
noncomputable def spec_l18Same.f (p0 : Int × List UInt8 × List (List UInt8)) (p1 : Int × List UInt8 × List (List UInt8)) : Option (Bool) :=
  bif p0.1 != p1.1 then
  some false
  else
  bif !(p0.2.1 == p1.2.1) then
  some false
  else
  bif (p0.2.2.length : Int) != (p1.2.2.length : Int) then
  some false
  else
  (lp spec_l18Same.l0 (p0, p1, 0)).bind (fun o1 => caseS o1 (fun _ =>
  some true) (fun x4 =>
  some x4))

noncomputable def spec_SameAnswers.l0 (rec : (List (Int × List UInt8 × List (List UInt8)) × List (Int × List UInt8 × List (List UInt8)) × Int) → Option ((Unit) ⊕ (Bool))) : (List (Int × List UInt8 × List (List UInt8)) × List (Int × List UInt8 × List (List UInt8)) × Int) → Option ((Unit) ⊕ (Bool)) := fun (x0, x1, x5) =>
  bif decide (x5 < (x0.length : Int)) then
  bif inB x5 x0.length then
  bif inB x5 x1.length then
  (spec_l18Same.f ((rdA (0, [], []) x0 x5).1, ((rdA (0, [], []) x0 x5).2)) ((rdA (0, [], []) x1 x5).1, ((rdA (0, [], []) x1 x5).2))).bind fun t1 =>
  bif !t1 then
  some (Sum.inr false)
  else
  rec (x0, x1, w64 (x5 + 1))
  else none
  else none
  else
  some (Sum.inl ())
noncomputable def spec_SameAnswers.f (p0 : List (Int × List UInt8 × List (List UInt8))) (p1 : List (Int × List UInt8 × List (List UInt8))) : Option (Bool) :=
  bif (p0.length : Int) != (p1.length : Int) then
  some false
  else
  (lp spec_SameAnswers.l0 (p0, p1, 0)).bind (fun o2 => caseS o2 (fun _ =>
  some true) (fun x4 =>
  some x4))

noncomputable def laws_toStringS.l0 (rec : (List (List UInt8) × List (List UInt8) × Int) → Option (List (List UInt8))) : (List (List UInt8) × List (List UInt8) × Int) → Option (List (List UInt8)) := fun (x0, x3, x4) =>
  bif decide (x4 < (x0.length : Int)) then
  bif inB x4 x0.length then
  bif inB x4 x3.length then
  let l2 := x3.set x4.toNat (rdA [] x0 x4)
  rec (x0, l2, w64 (x4 + 1))
  else none
  else none
  else
  some x3
noncomputable def laws_toStringS.f (p0 : List (List UInt8)) : Option (List (List UInt8)) :=
  bif ((p0.length : Int) == (p0.length : Int)) then
  bif (decide (0 ≤ (p0.length : Int)) && decide (16 * (p0.length : Int) ≤ 140737488355328)) then
  let l1 := List.replicate (p0.length : Int).toNat []
  (lp laws_toStringS.l0 (p0, l1, 0)).bind (fun x3 =>
  some x3)
  else none
  else none

noncomputable def laws_toAnswer.f (p0 : Int × List UInt8 × List (List UInt8)) : Option (Int × List UInt8 × List (List UInt8)) :=
  (laws_toStringS.f p0.2.2).bind fun t1 =>
  some (p0.1, p0.2.1, t1)

noncomputable def laws_toAnswerS.l0 (rec : (List (Int × List UInt8 × List (List UInt8)) × List (Int × List UInt8 × List (List UInt8)) × Int) → Option (List (Int × List UInt8 × List (List UInt8)))) : (List (Int × List UInt8 × List (List UInt8)) × List (Int × List UInt8 × List (List UInt8)) × Int) → Option (List (Int × List UInt8 × List (List UInt8))) := fun (x0, x3, x4) =>
  bif decide (x4 < (x0.length : Int)) then
  bif inB x4 x0.length then
  (laws_toAnswer.f ((rdA (0, [], []) x0 x4).1, ((rdA (0, [], []) x0 x4).2))).bind fun t2 =>
  bif inB x4 x3.length then
  let l3 := x3.set x4.toNat t2
  rec (x0, l3, w64 (x4 + 1))
  else none
  else none
  else
  some x3
noncomputable def laws_toAnswerS.f (p0 : List (Int × List UInt8 × List (List UInt8))) : Option (List (Int × List UInt8 × List (List UInt8))) :=
  bif ((p0.length : Int) == (p0.length : Int)) then
  bif (decide (0 ≤ (p0.length : Int)) && decide (48 * (p0.length : Int) ≤ 140737488355328)) then
  let l1 := List.replicate (p0.length : Int).toNat (0, [], [])
  (lp laws_toAnswerS.l0 (p0, l1, 0)).bind (fun x3 =>
  some x3)
  else none
  else none

noncomputable def impl_SameAnswers.l2 (rec : (List (Int × List UInt8 × List (List UInt8)) × List (Int × List UInt8 × List (List UInt8)) × Int × Int × Int × Int × Int) → Option ((List (Int × List UInt8 × List (List UInt8)) × List (Int × List UInt8 × List (List UInt8)) × Int × Int) ⊕ (Bool))) : (List (Int × List UInt8 × List (List UInt8)) × List (Int × List UInt8 × List (List UInt8)) × Int × Int × Int × Int × Int) → Option ((List (Int × List UInt8 × List (List UInt8)) × List (Int × List UInt8 × List (List UInt8)) × Int × Int) ⊕ (Bool)) := fun (x0, x1, x5, x13, x14, x61, x62) =>
  bif decide (x62 < x61) then
  bif inB x5 x0.length then
  bif inB x62 (((rdA (0, [], []) x0 x5).2).2).length then
  bif inB x5 x1.length then
  bif inB x62 (((rdA (0, [], []) x1 x5).2).2).length then
  bif !((rdA [] (((rdA (0, [], []) x0 x5).2).2) x62) == (rdA [] (((rdA (0, [], []) x1 x5).2).2) x62)) then
  some (Sum.inr false)
  else
  rec (x0, x1, x5, x13, x14, x61, w64 (x62 + 1))
  else none
  else none
  else none
  else none
  else
  some (Sum.inl (x0, x1, x13, x14))
noncomputable def impl_SameAnswers.l0 (rec : (List (Int × List UInt8 × List (List UInt8)) × List (Int × List UInt8 × List (List UInt8)) × Int × Int) → Option ((Unit) ⊕ (Bool))) : (List (Int × List UInt8 × List (List UInt8)) × List (Int × List UInt8 × List (List UInt8)) × Int × Int) → Option ((Unit) ⊕ (Bool)) := fun (x0, x1, x13, x14) =>
  bif decide (x14 < x13) then
  bif inB x14 x0.length then
  bif inB x14 x1.length then
  bif ((rdA (0, [], []) x0 x14).1) != ((rdA (0, [], []) x1 x14).1) then
  some (Sum.inr false)
  else
  bif inB x14 x0.length then
  bif inB x14 x1.length then
  bif !((((rdA (0, [], []) x0 x14).2).1) == (((rdA (0, [], []) x1 x14).2).1)) then
  some (Sum.inr false)
  else
  bif inB x14 x0.length then
  bif inB x14 x1.length then
  bif ((((rdA (0, [], []) x0 x14).2).2).length : Int) != ((((rdA (0, [], []) x1 x14).2).2).length : Int) then
  some (Sum.inr false)
  else
  bif inB x14 x0.length then
  (lp impl_SameAnswers.l2 (x0, x1, x14, x13, x14, ((((rdA (0, [], []) x0 x14).2).2).length : Int), 0)).bind (fun o1 => caseS o1 (fun (x0, x1, x13, x14) =>
  rec (x0, x1, x13, w64 (x14 + 1))) (fun x4 =>
  some (Sum.inr x4)))
  else none
  else none
  else none
  else none
  else none
  else none
  else none
  else
  some (Sum.inl ())
noncomputable def impl_SameAnswers.f (p0 : List (Int × List UInt8 × List (List UInt8))) (p1 : List (Int × List UInt8 × List (List UInt8))) : Option (Bool) :=
  bif (p0.length : Int) != (p1.length : Int) then
  some false
  else
  (lp impl_SameAnswers.l0 (p0, p1, (p0.length : Int), 0)).bind (fun o2 => caseS o2 (fun _ =>
  some true) (fun x4 =>
  some x4))

noncomputable def laws_eqStringS.l0 (rec : (List (List UInt8) × List (List UInt8) × Int) → Option ((Unit) ⊕ (Bool))) : (List (List UInt8) × List (List UInt8) × Int) → Option ((Unit) ⊕ (Bool)) := fun (x0, x1, x5) =>
  bif decide (x5 < (x0.length : Int)) then
  bif inB x5 x0.length then
  bif inB x5 x1.length then
  bif !((rdA [] x0 x5) == (rdA [] x1 x5)) then
  some (Sum.inr false)
  else
  rec (x0, x1, w64 (x5 + 1))
  else none
  else none
  else
  some (Sum.inl ())
noncomputable def laws_eqStringS.f (p0 : List (List UInt8)) (p1 : List (List UInt8)) : Option (Bool) :=
  bif (p0.length : Int) != (p1.length : Int) then
  some false
  else
  (lp laws_eqStringS.l0 (p0, p1, 0)).bind (fun o1 => caseS o1 (fun _ =>
  some true) (fun x4 =>
  some x4))

noncomputable def laws_eqAnswer.f (p0 : Int × List UInt8 × List (List UInt8)) (p1 : Int × List UInt8 × List (List UInt8)) : Option (Bool) :=
  bif p0.1 != p1.1 then
  some false
  else
  bif !(p0.2.1 == p1.2.1) then
  some false
  else
  (laws_eqStringS.f p0.2.2 p1.2.2).bind fun t1 =>
  bif !t1 then
  some false
  else
  some true

noncomputable def laws_eqAnswerS.l0 (rec : (List (Int × List UInt8 × List (List UInt8)) × List (Int × List UInt8 × List (List UInt8)) × Int) → Option ((Unit) ⊕ (Bool))) : (List (Int × List UInt8 × List (List UInt8)) × List (Int × List UInt8 × List (List UInt8)) × Int) → Option ((Unit) ⊕ (Bool)) := fun (x0, x1, x5) =>
  bif decide (x5 < (x0.length : Int)) then
  bif inB x5 x0.length then
  bif inB x5 x1.length then
  (laws_eqAnswer.f ((rdA (0, [], []) x0 x5).1, ((rdA (0, [], []) x0 x5).2)) ((rdA (0, [], []) x1 x5).1, ((rdA (0, [], []) x1 x5).2))).bind fun t1 =>
  bif !t1 then
  some (Sum.inr false)
  else
  rec (x0, x1, w64 (x5 + 1))
  else none
  else none
  else
  some (Sum.inl ())
noncomputable def laws_eqAnswerS.f (p0 : List (Int × List UInt8 × List (List UInt8))) (p1 : List (Int × List UInt8 × List (List UInt8))) : Option (Bool) :=
  bif (p0.length : Int) != (p1.length : Int) then
  some false
  else
  (lp laws_eqAnswerS.l0 (p0, p1, 0)).bind (fun o2 => caseS o2 (fun _ =>
  some true) (fun x4 =>
  some x4))

noncomputable def laws_FnExactSameAnswers.f (p0 : List (Int × List UInt8 × List (List UInt8))) (p1 : List (Int × List UInt8 × List (List UInt8))) : Option (Bool) :=
  (laws_szAnswerS.f p0 1048576).bind fun t1 =>
  bif decide (t1 < 0) then
  some true
  else
  (laws_szAnswerS.f p1 t1).bind fun t2 =>
  bif decide (t2 < 0) then
  some true
  else
  (laws_toAnswerS.f p0).bind fun t3 =>
  (laws_toAnswerS.f p1).bind fun t4 =>
  (spec_SameAnswers.f t3 t4).bind fun t5 =>
  (laws_toAnswerS.f p0).bind fun t6 =>
  (laws_toAnswerS.f p1).bind fun t7 =>
  (impl_SameAnswers.f t6 t7).bind fun t8 =>
  bif !(t8 == t5) then
  some false
  else
  (laws_toAnswerS.f p0).bind fun t9 =>
  (laws_eqAnswerS.f t6 t9).bind fun t10 =>
  bif !t10 then
  some false
  else
  (laws_toAnswerS.f p1).bind fun t11 =>
  (laws_eqAnswerS.f t7 t11).bind fun t12 =>
  bif !t12 then
  some false
  else
  some true

noncomputable def laws_big.f (p0 : List Int) : Option (Bool) :=
  let y1 := decide ((p0.length : Int) > 1048576)
  some y1

noncomputable def spec_l1New.l0 (rec : (List Int × Int × Int) → Option (List Int × Int)) : (List Int × Int × Int) → Option (List Int × Int) := fun (x0, x3, x4) =>
  bif decide (x4 < (x0.length : Int)) then
  bif decide (x4 < 4000) then
  bif inB x4 x0.length then
  let y2 := bits (fun _ a b => a &&& b) .i64 (w64 ((w64 ((w64 (x3 * 131)) + (w64 (rdA 0 x0 x4)))) + 7)) 1073741823
  rec (x0, y2, w64 (x4 + 1))
  else none
  else
  some (x0, x3)
  else
  some (x0, x3)
noncomputable def spec_l1New.f (p0 : List Int) : Option (List Int × Int × Int) :=
  let y1 := w64 (10101 + (p0.length : Int))
  (lp spec_l1New.l0 (p0, y1, 0)).bind (fun (x0, x3) =>
  some (x0, 0, x3))

noncomputable def spec_l1Byte.f (p0 : List Int × Int × Int) : Option (Int × List Int × Int × Int) :=
  let y1 := w64 ((w64 (p0.2.2 * 6364136223846793005)) + 1442695040888963407)
  let y2 := bits (fun _ a b => a &&& b) .i64 (bits (fun _ a b => a ^^^ b) .i64 (Int.fdiv y1 (2 ^ (min 33 64))) (Int.fdiv y1 (2 ^ (min 45 64)))) 255
  bif decide (p0.2.1 < (p0.1.length : Int)) then
  bif inB p0.2.1 p0.1.length then
  let y3 := bits (fun _ a b => a &&& b) .i64 (w64 (y2 + (w64 (rdA 0 p0.1 p0.2.1)))) 255
  let y4 := w64 (p0.2.1 + 1)
  some (y3, (p0.1, y4, y1))
  else none
  else
  some (y2, (p0.1, p0.2.1, y1))

noncomputable def spec_l1Below.f (p0 : List Int × Int × Int) (p1 : Int) : Option (Int × List Int × Int × Int) :=
  bif decide (p1 ≤ 0) then
  some (0, p0)
  else
  bif decide (p1 ≤ 256) then
  (spec_l1Byte.f p0).bind fun (t1_0, t1_1) =>
  bif p1 != 0 then
  let y2 := Int.tmod t1_0 p1
  some (y2, t1_1)
  else none
  else
  (spec_l1Byte.f p0).bind fun (t3_0, t3_1) =>
  (spec_l1Byte.f t3_1).bind fun (t4_0, t4_1) =>
  (spec_l1Byte.f t4_1).bind fun (t5_0, t5_1) =>
  (spec_l1Byte.f t5_1).bind fun (t6_0, t6_1) =>
  bif p1 != 0 then
  let y7 := Int.tmod (w64 ((w64 ((w64 ((w64 (t3_0 * 16777216)) + (w64 (t4_0 * 65536)))) + (w64 (t5_0 * 256)))) + t6_0)) p1
  some (y7, t6_1)
  else none

noncomputable def spec_l1Pick.f (p0 : List Int × Int × Int) (p1 : List (List UInt8)) : Option (List UInt8 × List Int × Int × Int) :=
  (spec_l1Below.f p0 (p1.length : Int)).bind fun (t1_0, t1_1) =>
  bif inB t1_0 p1.length then
  let y2 := rdA [] p1 t1_0
  some (y2, t1_1)
  else none

noncomputable def spec_l5Key.f (p0 : List Int × Int × Int) : Option (List UInt8 × List Int × Int × Int) :=
  (spec_l1Pick.f p0 [[97], [98], [99], [107, 101, 121], [108, 111, 110, 103, 110, 97, 109, 101]]).bind fun (t1_0, t1_1) =>
  some (t1_0, t1_1)

noncomputable def spec_l13Set.l0 (rec : (List (List UInt8 × List UInt8 × Int) × (List UInt8 × List UInt8 × Int) × List (List UInt8 × List UInt8 × Int) × Bool × Int) → Option ((List UInt8 × List UInt8 × Int) × List (List UInt8 × List UInt8 × Int) × Bool)) : (List (List UInt8 × List UInt8 × Int) × (List UInt8 × List UInt8 × Int) × List (List UInt8 × List UInt8 × Int) × Bool × Int) → Option ((List UInt8 × List UInt8 × Int) × List (List UInt8 × List UInt8 × Int) × Bool) := fun (x0, x4, x7, x8, x9) =>
  bif decide (x9 < (x0.length : Int)) then
  (bif inB x9 x0.length then
  bif ((rdA ([], [], 0) x0 x9).1) == x4.1 then
  some (x0, x4, x7, x8, x9)
  else
  (bif !x8 then
  bif inB x9 x0.length then
  bif !(Op.bytesLess ((rdA ([], [], 0) x0 x9).1) x4.1 || ((rdA ([], [], 0) x0 x9).1) == x4.1) then
  bif decide ((x7.length + [x4].length) * 40 ≤ 140737488355328) then
  some (x0, x4, x7 ++ [x4], true, x9)
  else none
  else
  some (x0, x4, x7, x8, x9)
  else none
  else
  some (x0, x4, x7, x8, x9) : Option (List (List UInt8 × List UInt8 × Int) × (List UInt8 × List UInt8 × Int) × List (List UInt8 × List UInt8 × Int) × Bool × Int)).bind (fun (x0, x4, x7, x8, x9) =>
  bif inB x9 x0.length then
  bif decide ((x7.length + ([((rdA ([], [], 0) x0 x9).1, ((rdA ([], [], 0) x0 x9).2))] : List (List UInt8 × List UInt8 × Int)).length) * 40 ≤ 140737488355328) then
  let l1 := x7 ++ ([((rdA ([], [], 0) x0 x9).1, ((rdA ([], [], 0) x0 x9).2))] : List (List UInt8 × List UInt8 × Int))
  some (x0, x4, l1, x8, x9)
  else none
  else none)
  else none : Option (List (List UInt8 × List UInt8 × Int) × (List UInt8 × List UInt8 × Int) × List (List UInt8 × List UInt8 × Int) × Bool × Int)).bind (fun (x0, x4, x7, x8, x9) =>
  rec (x0, x4, x7, x8, w64 (x9 + 1)))
  else
  some (x4, x7, x8)
noncomputable def spec_l13Set.f (p0 : List (List UInt8 × List UInt8 × Int)) (p1 : List UInt8 × List UInt8 × Int) (p2 : Bool) : Option (List (List UInt8 × List UInt8 × Int)) :=
  (lp spec_l13Set.l0 (p0, p1, ([] : List (List UInt8 × List UInt8 × Int)), p2, 0)).bind (fun (x4, x7, x8) =>
  bif !x8 then
  bif decide ((x7.length + [x4].length) * 40 ≤ 140737488355328) then
  some (x7 ++ [x4])
  else none
  else
  some x7)

noncomputable def spec_l1Text.l0 (rec : ((List Int × Int × Int) × List Int × Int × Int) → Option ((List Int × Int × Int) × List Int)) : ((List Int × Int × Int) × List Int × Int × Int) → Option ((List Int × Int × Int) × List Int) := fun (x0, x5, x6, x7) =>
  bif decide (x7 > 0) then
  (spec_l1Byte.f x0).bind fun (t3_0, t3_1) =>
  (bif x6 == 1 then
  let y4 := Int.tmod t3_0 2
  some (t3_1, x5, x6, x7, y4)
  else
  some (t3_1, x5, x6, x7, t3_0) : Option ((List Int × Int × Int) × List Int × Int × Int × Int)).bind (fun (x0, x5, x6, x7, x8) =>
  (bif x6 == 2 then
  let y5 := w64 (97 + (Int.tmod x8 4))
  some (x0, x5, x6, x7, y5)
  else
  some (x0, x5, x6, x7, x8) : Option ((List Int × Int × Int) × List Int × Int × Int × Int)).bind (fun (x0, x5, x6, x7, x8) =>
  bif decide ((x5.length + [IntKind.wrap .u8 (x8)].length) * 1 ≤ 140737488355328) then
  let l6 := x5 ++ [IntKind.wrap .u8 (x8)]
  rec (x0, l6, x6, w64 (x7 - 1))
  else none))
  else
  some (x0, x5)
noncomputable def spec_l1Text.f (p0 : List Int × Int × Int) (p1 : Int) : Option (List UInt8 × List Int × Int × Int) :=
  (spec_l1Below.f p0 4).bind fun (t1_0, t1_1) =>
  (spec_l1Below.f t1_1 (w64 (p1 + 1))).bind fun (t2_0, t2_1) =>
  (lp spec_l1Text.l0 (t2_1, ([] : List Int), t1_0, t2_0)).bind (fun (x0, x5) =>
  some (strOf x5, x0))

noncomputable def spec_l1Once.f (p0 : List Int × Int × Int) (p1 : Int) : Option (Bool × List Int × Int × Int) :=
  (spec_l1Below.f p0 p1).bind fun (t1_0, t1_1) =>
  some (t1_0 == 0, t1_1)

noncomputable def spec_l12Puts.l0 (rec : ((List Int × Int × Int) × List (List UInt8 × Bool × List UInt8) × Int) → Option ((List Int × Int × Int) × List (List UInt8 × Bool × List UInt8))) : ((List Int × Int × Int) × List (List UInt8 × Bool × List UInt8) × Int) → Option ((List Int × Int × Int) × List (List UInt8 × Bool × List UInt8)) := fun (x0, x3, x4) =>
  bif decide (x4 > 0) then
  (spec_l5Key.f x0).bind fun (t2_0, t2_1) =>
  (spec_l1Text.f t2_1 16).bind fun (t3_0, t3_1) =>
  ((spec_l1Once.f t3_1 4).bind fun (t4_0, t4_1) =>
  bif t4_0 then
  some (t4_1, x3, x4, (t2_0, true, []))
  else
  some (t4_1, x3, x4, (t2_0, false, t3_0)) : Option ((List Int × Int × Int) × List (List UInt8 × Bool × List UInt8) × Int × List UInt8 × Bool × List UInt8)).bind (fun (x0, x3, x4, x5) =>
  bif decide ((x3.length + [x5].length) * 40 ≤ 140737488355328) then
  rec (x0, x3 ++ [x5], w64 (x4 - 1))
  else none)
  else
  some (x0, x3)
noncomputable def spec_l12Puts.f (p0 : List Int × Int × Int) : Option (List (List UInt8 × Bool × List UInt8) × List Int × Int × Int) :=
  (spec_l1Below.f p0 4).bind fun (t1_0, t1_1) =>
  (lp spec_l12Puts.l0 (t1_1, ([] : List (List UInt8 × Bool × List UInt8)), t1_0)).bind (fun (x0, x3) =>
  some (x3, x0))

noncomputable def impl_copyPairs.f (p0 : List (List UInt8 × List UInt8 × Int)) : Option (List (List UInt8 × List UInt8 × Int)) :=
  bif decide ((([] : List (List UInt8 × List UInt8 × Int)).length + p0.length) * 40 ≤ 140737488355328) then
  let l1 := ([] : List (List UInt8 × List UInt8 × Int)) ++ p0
  some l1
  else none

noncomputable def impl_without.l0 (rec : (List UInt8 × List (List UInt8 × List UInt8 × Int) × List (List UInt8 × List UInt8 × Int) × Int × Int) → Option (List (List UInt8 × List UInt8 × Int))) : (List UInt8 × List (List UInt8 × List UInt8 × Int) × List (List UInt8 × List UInt8 × Int) × Int × Int) → Option (List (List UInt8 × List UInt8 × Int)) := fun (x1, x5, x8, x9, x10) =>
  bif decide (x10 < x9) then
  bif inB x10 x8.length then
  let y1 := (rdA ([], [], 0) x8 x10).1
  let y2 := ((rdA ([], [], 0) x8 x10).2).1
  let y3 := ((rdA ([], [], 0) x8 x10).2).2
  (bif !(y1 == x1) then
  bif decide ((x5.length + [(y1, y2, y3)].length) * 40 ≤ 140737488355328) then
  let l4 := x5 ++ [(y1, y2, y3)]
  some (x1, l4, x8, x9, x10)
  else none
  else
  some (x1, x5, x8, x9, x10) : Option (List UInt8 × List (List UInt8 × List UInt8 × Int) × List (List UInt8 × List UInt8 × Int) × Int × Int)).bind (fun (x1, x5, x8, x9, x10) =>
  rec (x1, x5, x8, x9, w64 (x10 + 1)))
  else none
  else
  some x5
noncomputable def impl_without.f (p0 : List (List UInt8 × List UInt8 × Int)) (p1 : List UInt8) : Option (List (List UInt8 × List UInt8 × Int)) :=
  (lp impl_without.l0 (p1, [], p0, (p0.length : Int), 0)).bind (fun x5 =>
  some x5)

noncomputable def impl_Fold.l2 (rec : (Int × List (List UInt8 × List UInt8 × Int) × (List UInt8 × Bool × List UInt8) × Int × List (List UInt8 × Bool × List UInt8) × Int × Int) → Option (Int × List (List UInt8 × List UInt8 × Int) × (List UInt8 × Bool × List UInt8) × Int × List (List UInt8 × Bool × List UInt8) × Int × Int)) : (Int × List (List UInt8 × List UInt8 × Int) × (List UInt8 × Bool × List UInt8) × Int × List (List UInt8 × Bool × List UInt8) × Int × Int) → Option (Int × List (List UInt8 × List UInt8 × Int) × (List UInt8 × Bool × List UInt8) × Int × List (List UInt8 × Bool × List UInt8) × Int × Int) := fun (x2, x7, x9, x10, x13, x14, x15) =>
  bif decide (x10 < (x7.length : Int)) then
  bif inB x10 x7.length then
  bif (Op.bytesLess ((rdA ([], [], 0) x7 x10).1) x9.1 || ((rdA ([], [], 0) x7 x10).1) == x9.1) then
  rec (x2, x7, x9, w64 (x10 + 1), x13, x14, x15)
  else
  some (x2, x7, x9, x10, x13, x14, x15)
  else none
  else
  some (x2, x7, x9, x10, x13, x14, x15)
noncomputable def impl_Fold.l0 (rec : (Int × List (List UInt8 × List UInt8 × Int) × List (List UInt8 × Bool × List UInt8) × Int × Int) → Option (List (List UInt8 × List UInt8 × Int))) : (Int × List (List UInt8 × List UInt8 × Int) × List (List UInt8 × Bool × List UInt8) × Int × Int) → Option (List (List UInt8 × List UInt8 × Int)) := fun (x2, x7, x13, x14, x15) =>
  bif decide (x15 < x14) then
  (bif inB x15 x13.length then
  let y2 := (rdA ([], false, []) x13 x15).1
  let y3 := ((rdA ([], false, []) x13 x15).2).1
  let y4 := ((rdA ([], false, []) x13 x15).2).2
  (impl_without.f x7 y2).bind fun t5 =>
  bif y3 then
  some (x2, t5, x13, x14, x15)
  else
  (lp impl_Fold.l2 (x2, t5, (y2, y3, y4), 0, x13, x14, x15)).bind (fun (x2, x7, x9, x10, x13, x14, x15) =>
  bif (decide (0 ≤ x10) && decide (x10 ≤ (x7.length : Int))) then
  (impl_copyPairs.f (x7.take x10.toNat)).bind fun t6 =>
  bif decide ((t6.length + [(x9.1, x9.2.2, x2)].length) * 40 ≤ 140737488355328) then
  let l7 := t6 ++ [(x9.1, x9.2.2, x2)]
  bif (decide (0 ≤ x10) && decide (x10 ≤ (x7.length : Int))) then
  bif decide ((l7.length + (x7.drop x10.toNat).length) * 40 ≤ 140737488355328) then
  let l8 := l7 ++ (x7.drop x10.toNat)
  some (x2, l8, x13, x14, x15)
  else none
  else none
  else none
  else none)
  else none : Option (Int × List (List UInt8 × List UInt8 × Int) × List (List UInt8 × Bool × List UInt8) × Int × Int)).bind (fun (x2, x7, x13, x14, x15) =>
  rec (x2, x7, x13, x14, w64 (x15 + 1)))
  else
  some x7
noncomputable def impl_Fold.f (p0 : List (List UInt8 × List UInt8 × Int)) (p1 : List (List UInt8 × Bool × List UInt8)) (p2 : Int) : Option (List (List UInt8 × List UInt8 × Int)) :=
  (impl_copyPairs.f p0).bind fun t1 =>
  (lp impl_Fold.l0 (p2, t1, p1, (p1.length : Int), 0)).bind (fun x7 =>
  some x7)

noncomputable def laws_szReadRow.f (p0 : List UInt8 × Int) (p1 : Int) : Option (Int) :=
  let y1 := w64 (p1 - (p0.1.length : Int))
  bif decide (y1 < 0) then
  some (-1)
  else
  some y1

noncomputable def laws_szReadRowS.l0 (rec : (List (List UInt8 × Int) × Int × Int) → Option ((Int) ⊕ (Int))) : (List (List UInt8 × Int) × Int × Int) → Option ((Int) ⊕ (Int)) := fun (x0, x1, x5) =>
  bif decide (x5 < (x0.length : Int)) then
  bif inB x5 x0.length then
  (laws_szReadRow.f (rdA ([], 0) x0 x5) x1).bind fun t2 =>
  bif decide (t2 < 0) then
  some (Sum.inr (-1))
  else
  rec (x0, t2, w64 (x5 + 1))
  else none
  else
  some (Sum.inl x1)
noncomputable def laws_szReadRowS.f (p0 : List (List UInt8 × Int)) (p1 : Int) : Option (Int) :=
  let y1 := w64 (p1 - (p0.length : Int))
  bif decide (y1 < 0) then
  some (-1)
  else
  (lp laws_szReadRowS.l0 (p0, y1, 0)).bind (fun o3 => caseS o3 (fun x1 =>
  some x1) (fun x4 =>
  some x4))

noncomputable def laws_szTxn.f (p0 : Bool × List (List UInt8 × Int) × List (List UInt8 × Bool × List UInt8)) (p1 : Int) : Option (Int) :=
  (laws_szReadRowS.f p0.2.1 p1).bind fun t1 =>
  bif decide (t1 < 0) then
  some (-1)
  else
  (laws_szPutS.f p0.2.2 t1).bind fun t2 =>
  bif decide (t2 < 0) then
  some (-1)
  else
  some t2

noncomputable def spec_OwnWrite.l0 (rec : (List UInt8 × (Bool × List (List UInt8 × Int) × List (List UInt8 × Bool × List UInt8)) × (List UInt8 × Bool × List UInt8) × Int) → Option ((List UInt8 × Bool × List UInt8) ⊕ ((List UInt8 × Bool × List UInt8) × Bool))) : (List UInt8 × (Bool × List (List UInt8 × Int) × List (List UInt8 × Bool × List UInt8)) × (List UInt8 × Bool × List UInt8) × Int) → Option ((List UInt8 × Bool × List UInt8) ⊕ ((List UInt8 × Bool × List UInt8) × Bool)) := fun (x1, x2, x4, x6) =>
  bif decide (x6 ≥ 0) then
  bif inB x6 x2.2.2.length then
  bif ((rdA ([], false, []) x2.2.2 x6).1) == x1 then
  bif inB x6 x2.2.2.length then
  let y2 := (rdA ([], false, []) x2.2.2 x6).1
  let y3 := ((rdA ([], false, []) x2.2.2 x6).2).1
  let y4 := ((rdA ([], false, []) x2.2.2 x6).2).2
  some (Sum.inr ((y2, y3, y4), true))
  else none
  else
  rec (x1, x2, x4, w64 (x6 - 1))
  else none
  else
  some (Sum.inl x4)
noncomputable def spec_OwnWrite.f (p0 : Bool × List (List UInt8 × Int) × List (List UInt8 × Bool × List UInt8)) (p1 : List UInt8) : Option ((List UInt8 × Bool × List UInt8) × Bool) :=
  let y1 := w64 ((p0.2.2.length : Int) - 1)
  (lp spec_OwnWrite.l0 (p1, p0, ([], false, []), y1)).bind (fun o5 => caseS o5 (fun x4 =>
  some (([], false, []), false)) (fun (x4, x5) =>
  some (x4, x5)))

noncomputable def laws_toReadRow.f (p0 : List UInt8 × Int) : Option (List UInt8 × Int) :=
  some p0

noncomputable def laws_toReadRowS.l0 (rec : (List (List UInt8 × Int) × List (List UInt8 × Int) × Int) → Option (List (List UInt8 × Int))) : (List (List UInt8 × Int) × List (List UInt8 × Int) × Int) → Option (List (List UInt8 × Int)) := fun (x0, x3, x4) =>
  bif decide (x4 < (x0.length : Int)) then
  bif inB x4 x0.length then
  (laws_toReadRow.f (rdA ([], 0) x0 x4)).bind fun t2 =>
  bif inB x4 x3.length then
  let l3 := x3.set x4.toNat t2
  rec (x0, l3, w64 (x4 + 1))
  else none
  else none
  else
  some x3
noncomputable def laws_toReadRowS.f (p0 : List (List UInt8 × Int)) : Option (List (List UInt8 × Int)) :=
  bif ((p0.length : Int) == (p0.length : Int)) then
  bif (decide (0 ≤ (p0.length : Int)) && decide (24 * (p0.length : Int) ≤ 140737488355328)) then
  let l1 := List.replicate (p0.length : Int).toNat ([], 0)
  (lp laws_toReadRowS.l0 (p0, l1, 0)).bind (fun x3 =>
  some x3)
  else none
  else none

noncomputable def laws_toTxn.f (p0 : Bool × List (List UInt8 × Int) × List (List UInt8 × Bool × List UInt8)) : Option (Bool × List (List UInt8 × Int) × List (List UInt8 × Bool × List UInt8)) :=
  (laws_toReadRowS.f p0.2.1).bind fun t1 =>
  (laws_toPutS.f p0.2.2).bind fun t2 =>
  some (p0.1, t1, t2)

noncomputable def impl_OwnWrite.l0 (rec : (List UInt8 × (Bool × List (List UInt8 × Int) × List (List UInt8 × Bool × List UInt8)) × (List UInt8 × Bool × List UInt8) × Int) → Option ((List UInt8 × Bool × List UInt8) ⊕ ((List UInt8 × Bool × List UInt8) × Bool))) : (List UInt8 × (Bool × List (List UInt8 × Int) × List (List UInt8 × Bool × List UInt8)) × (List UInt8 × Bool × List UInt8) × Int) → Option ((List UInt8 × Bool × List UInt8) ⊕ ((List UInt8 × Bool × List UInt8) × Bool)) := fun (x1, x2, x4, x6) =>
  bif decide (x6 ≥ 0) then
  bif inB x6 x2.2.2.length then
  bif ((rdA ([], false, []) x2.2.2 x6).1) == x1 then
  bif inB x6 x2.2.2.length then
  let y2 := (rdA ([], false, []) x2.2.2 x6).1
  let y3 := ((rdA ([], false, []) x2.2.2 x6).2).1
  let y4 := ((rdA ([], false, []) x2.2.2 x6).2).2
  some (Sum.inr ((y2, y3, y4), true))
  else none
  else
  rec (x1, x2, x4, w64 (x6 - 1))
  else none
  else
  some (Sum.inl x4)
noncomputable def impl_OwnWrite.f (p0 : Bool × List (List UInt8 × Int) × List (List UInt8 × Bool × List UInt8)) (p1 : List UInt8) : Option ((List UInt8 × Bool × List UInt8) × Bool) :=
  let y1 := w64 ((p0.2.2.length : Int) - 1)
  (lp impl_OwnWrite.l0 (p1, p0, ([], false, []), y1)).bind (fun o5 => caseS o5 (fun x4 =>
  some (([], false, []), false)) (fun (x4, x5) =>
  some (x4, x5)))

noncomputable def laws_eqReadRow.f (p0 : List UInt8 × Int) (p1 : List UInt8 × Int) : Option (Bool) :=
  bif !(p0.1 == p1.1) then
  some false
  else
  bif p0.2 != p1.2 then
  some false
  else
  some true

noncomputable def laws_eqReadRowS.l0 (rec : (List (List UInt8 × Int) × List (List UInt8 × Int) × Int) → Option ((Unit) ⊕ (Bool))) : (List (List UInt8 × Int) × List (List UInt8 × Int) × Int) → Option ((Unit) ⊕ (Bool)) := fun (x0, x1, x5) =>
  bif decide (x5 < (x0.length : Int)) then
  bif inB x5 x0.length then
  bif inB x5 x1.length then
  (laws_eqReadRow.f (rdA ([], 0) x0 x5) (rdA ([], 0) x1 x5)).bind fun t1 =>
  bif !t1 then
  some (Sum.inr false)
  else
  rec (x0, x1, w64 (x5 + 1))
  else none
  else none
  else
  some (Sum.inl ())
noncomputable def laws_eqReadRowS.f (p0 : List (List UInt8 × Int)) (p1 : List (List UInt8 × Int)) : Option (Bool) :=
  bif (p0.length : Int) != (p1.length : Int) then
  some false
  else
  (lp laws_eqReadRowS.l0 (p0, p1, 0)).bind (fun o2 => caseS o2 (fun _ =>
  some true) (fun x4 =>
  some x4))

noncomputable def laws_eqTxn.f (p0 : Bool × List (List UInt8 × Int) × List (List UInt8 × Bool × List UInt8)) (p1 : Bool × List (List UInt8 × Int) × List (List UInt8 × Bool × List UInt8)) : Option (Bool) :=
  bif !(p0.1 == p1.1) then
  some false
  else
  (laws_eqReadRowS.f p0.2.1 p1.2.1).bind fun t1 =>
  bif !t1 then
  some false
  else
  (laws_eqPutS.f p0.2.2 p1.2.2).bind fun t2 =>
  bif !t2 then
  some false
  else
  some true

noncomputable def laws_FnExactOwnWrite.f (p0 : Bool × List (List UInt8 × Int) × List (List UInt8 × Bool × List UInt8)) (p1 : List UInt8) : Option (Bool) :=
  bif decide ((p1.length : Int) > 1048576) then
  some true
  else
  (laws_szTxn.f p0 1048576).bind fun t1 =>
  bif decide (t1 < 0) then
  some true
  else
  (laws_toTxn.f p0).bind fun t2 =>
  (spec_OwnWrite.f t2 p1).bind fun (t3_0, t3_1) =>
  (laws_toTxn.f p0).bind fun t4 =>
  (impl_OwnWrite.f t4 p1).bind fun (t5_0, t5_1) =>
  (laws_eqPut.f t5_0 t3_0).bind fun t6 =>
  bif !t6 then
  some false
  else
  bif !(t5_1 == t3_1) then
  some false
  else
  (laws_toTxn.f p0).bind fun t7 =>
  (laws_eqTxn.f t4 t7).bind fun t8 =>
  bif !t8 then
  some false
  else
  some true

noncomputable def spec_l15Copy.f (p0 : Bool × List (List UInt8 × Int) × List (List UInt8 × Bool × List UInt8)) : Option (Bool × List (List UInt8 × Int) × List (List UInt8 × Bool × List UInt8)) :=
  bif decide ((([] : List (List UInt8 × Int)).length + p0.2.1.length) * 24 ≤ 140737488355328) then
  let l1 := ([] : List (List UInt8 × Int)) ++ p0.2.1
  bif decide ((([] : List (List UInt8 × Bool × List UInt8)).length + p0.2.2.length) * 40 ≤ 140737488355328) then
  let l2 := ([] : List (List UInt8 × Bool × List UInt8)) ++ p0.2.2
  some (p0.1, l1, l2)
  else none
  else none

noncomputable def spec_TxnRead.l0 (rec : (List UInt8 × Int × (Bool × List (List UInt8 × Int) × List (List UInt8 × Bool × List UInt8)) × (Bool × List (List UInt8 × Int) × List (List UInt8 × Bool × List UInt8)) × (Bool × List (List UInt8 × Int) × List (List UInt8 × Bool × List UInt8)) × Int) → Option ((List UInt8 × Int × (Bool × List (List UInt8 × Int) × List (List UInt8 × Bool × List UInt8)) × (Bool × List (List UInt8 × Int) × List (List UInt8 × Bool × List UInt8)) × Bool × List (List UInt8 × Int) × List (List UInt8 × Bool × List UInt8)) ⊕ ((Bool × List (List UInt8 × Int) × List (List UInt8 × Bool × List UInt8)) × Int))) : (List UInt8 × Int × (Bool × List (List UInt8 × Int) × List (List UInt8 × Bool × List UInt8)) × (Bool × List (List UInt8 × Int) × List (List UInt8 × Bool × List UInt8)) × (Bool × List (List UInt8 × Int) × List (List UInt8 × Bool × List UInt8)) × Int) → Option ((List UInt8 × Int × (Bool × List (List UInt8 × Int) × List (List UInt8 × Bool × List UInt8)) × (Bool × List (List UInt8 × Int) × List (List UInt8 × Bool × List UInt8)) × Bool × List (List UInt8 × Int) × List (List UInt8 × Bool × List UInt8)) ⊕ ((Bool × List (List UInt8 × Int) × List (List UInt8 × Bool × List UInt8)) × Int)) := fun (x1, x2, x3, x6, x8, x9) =>
  bif decide (x9 < (x3.2.1.length : Int)) then
  bif inB x9 x3.2.1.length then
  bif ((rdA ([], 0) x3.2.1 x9).1) == x1 then
  bif inB x9 x3.2.1.length then
  bif ((rdA ([], 0) x3.2.1 x9).2) != x2 then
  some (Sum.inr (x8, 7))
  else
  some (Sum.inr (x8, 0))
  else none
  else
  rec (x1, x2, x3, x6, x8, w64 (x9 + 1))
  else none
  else
  some (Sum.inl (x1, x2, x3, x6, x8))
noncomputable def spec_TxnRead.f (p0 : Bool × List (List UInt8 × Int) × List (List UInt8 × Bool × List UInt8)) (p1 : List UInt8) (p2 : Int) : Option ((Bool × List (List UInt8 × Int) × List (List UInt8 × Bool × List UInt8)) × Int) :=
  (spec_l15Copy.f p0).bind fun t1 =>
  bif !p0.1 then
  some (t1, 4)
  else
  (spec_KeyOk.f p1).bind fun t2 =>
  bif !t2 then
  some (t1, 4)
  else
  (lp spec_TxnRead.l0 (p1, p2, p0, (false, [], []), t1, 0)).bind (fun o3 => caseS o3 (fun (x1, x2, x3, x6, x8) =>
  bif decide ((x3.2.1.length : Int) ≥ 20) then
  some (x8, 5)
  else
  bif decide ((x8.2.1.length + [(x1, x2)].length) * 24 ≤ 140737488355328) then
  let l4 := x8.2.1 ++ [(x1, x2)]
  some ((x8.1, l4, x8.2.2), 0)
  else none) (fun (x6, x7) =>
  some (x6, x7)))

noncomputable def spec_Dec.l0 (rec : (Int × List UInt8 × Bool) → Option (List UInt8 × Bool)) : (Int × List UInt8 × Bool) → Option (List UInt8 × Bool) := fun (x0, x3, x4) =>
  bif x0 != 0 then
  let y2 := Int.tmod x0 10
  (bif decide (y2 < 0) then
  some (x0, x3, x4, w64 (0 - y2))
  else
  some (x0, x3, x4, y2) : Option (Int × List UInt8 × Bool × Int)).bind (fun (x0, x3, x4, x5) =>
  bif decide ((strOf [IntKind.wrap .u8 (w64 (48 + x5))]).length + x3.length ≤ 9223372036854775807) then
  let y3 := (strOf [IntKind.wrap .u8 (w64 (48 + x5))]) ++ x3
  let y4 := w64 (Int.tdiv x0 10)
  rec (y4, y3, x4)
  else none)
  else
  some (x3, x4)
noncomputable def spec_Dec.f (p0 : Int) : Option (List UInt8) :=
  bif p0 == 0 then
  some [48]
  else
  let y1 := decide (p0 < 0)
  (lp spec_Dec.l0 (p0, [], y1)).bind (fun (x3, x4) =>
  bif x4 then
  bif decide (([45] : List UInt8).length + x3.length ≤ 9223372036854775807) then
  some ([45] ++ x3)
  else none
  else
  some x3)

noncomputable def spec_l12AnyPuts.l1 (rec : ((List Int × Int × Int) × List (List UInt8 × Bool × List UInt8)) → Option ((List Int × Int × Int) × List (List UInt8 × Bool × List UInt8))) : ((List Int × Int × Int) × List (List UInt8 × Bool × List UInt8)) → Option ((List Int × Int × Int) × List (List UInt8 × Bool × List UInt8)) := fun (x0, x3) =>
  (spec_l1Below.f x0 2).bind fun (t5_0, t5_1) =>
  bif decide ((x3.length : Int) < (w64 (8 + t5_0))) then
  (spec_Dec.f (x3.length : Int)).bind fun t6 =>
  bif decide (([107] : List UInt8).length + t6.length ≤ 9223372036854775807) then
  bif decide ((x3.length + ([([107] ++ t6, false, [])] : List (List UInt8 × Bool × List UInt8)).length) * 40 ≤ 140737488355328) then
  let l7 := x3 ++ ([([107] ++ t6, false, [])] : List (List UInt8 × Bool × List UInt8))
  rec (t5_1, l7)
  else none
  else none
  else
  some (t5_1, x3)
noncomputable def spec_l12AnyPuts.f (p0 : List Int × Int × Int) : Option (List (List UInt8 × Bool × List UInt8) × List Int × Int × Int) :=
  (spec_l12Puts.f p0).bind fun (t1_0, t1_1) =>
  (spec_l1Below.f t1_1 14).bind fun (t2_0, t2_1) =>
  bif t2_0 == 0 then
  (spec_l1Pick.f t2_1 ([[], [110, 105, 110, 101, 98, 121, 116, 101, 115]] : List (List UInt8))).bind fun (t3_0, t3_1) =>
  bif decide ((t1_0.length + ([(t3_0, false, [])] : List (List UInt8 × Bool × List UInt8)).length) * 40 ≤ 140737488355328) then
  let l4 := t1_0 ++ ([(t3_0, false, [])] : List (List UInt8 × Bool × List UInt8))
  some (l4, t3_1)
  else none
  else
  bif t2_0 == 1 then
  (lp spec_l12AnyPuts.l1 (t2_1, t1_0)).bind (fun (x0, x3) =>
  some (x3, x0))
  else
  bif t2_0 == 2 then
  bif decide ((t1_0.length + [([97], true, [120])].length) * 40 ≤ 140737488355328) then
  let l8 := t1_0 ++ [([97], true, [120])]
  some (l8, t2_1)
  else none
  else
  some (t1_0, t2_1)

noncomputable def spec_NetWrites.l2 (rec : ((Bool × List (List UInt8 × Int) × List (List UInt8 × Bool × List UInt8)) × List (List UInt8 × Bool × List UInt8) × Int × Bool × Int) → Option ((Bool × List (List UInt8 × Int) × List (List UInt8 × Bool × List UInt8)) × List (List UInt8 × Bool × List UInt8) × Int × Bool)) : ((Bool × List (List UInt8 × Int) × List (List UInt8 × Bool × List UInt8)) × List (List UInt8 × Bool × List UInt8) × Int × Bool × Int) → Option ((Bool × List (List UInt8 × Int) × List (List UInt8 × Bool × List UInt8)) × List (List UInt8 × Bool × List UInt8) × Int × Bool) := fun (x1, x3, x4, x5, x6) =>
  bif decide (x6 < x4) then
  (bif x5 then
  bif inB x6 x1.2.2.length then
  bif inB x4 x1.2.2.length then
  let y1 := !(((rdA ([], false, []) x1.2.2 x6).1) == ((rdA ([], false, []) x1.2.2 x4).1))
  some (x1, x3, x4, y1, x6)
  else none
  else none
  else
  some (x1, x3, x4, false, x6) : Option ((Bool × List (List UInt8 × Int) × List (List UInt8 × Bool × List UInt8)) × List (List UInt8 × Bool × List UInt8) × Int × Bool × Int)).bind (fun (x1, x3, x4, x5, x6) =>
  rec (x1, x3, x4, x5, w64 (x6 + 1)))
  else
  some (x1, x3, x4, x5)
noncomputable def spec_NetWrites.l0 (rec : ((Bool × List (List UInt8 × Int) × List (List UInt8 × Bool × List UInt8)) × List (List UInt8 × Bool × List UInt8) × Int) → Option (List (List UInt8 × Bool × List UInt8))) : ((Bool × List (List UInt8 × Int) × List (List UInt8 × Bool × List UInt8)) × List (List UInt8 × Bool × List UInt8) × Int) → Option (List (List UInt8 × Bool × List UInt8)) := fun (x1, x3, x4) =>
  bif decide (x4 < (x1.2.2.length : Int)) then
  (lp spec_NetWrites.l2 (x1, x3, x4, true, 0)).bind (fun (x1, x3, x4, x5) =>
  (bif x5 then
  bif inB x4 x1.2.2.length then
  (spec_OwnWrite.f x1 ((rdA ([], false, []) x1.2.2 x4).1)).bind fun (t2_0, t2_1) =>
  bif decide ((x3.length + [t2_0].length) * 40 ≤ 140737488355328) then
  some (x1, x3 ++ [t2_0], x4)
  else none
  else none
  else
  some (x1, x3, x4) : Option ((Bool × List (List UInt8 × Int) × List (List UInt8 × Bool × List UInt8)) × List (List UInt8 × Bool × List UInt8) × Int)).bind (fun (x1, x3, x4) =>
  rec (x1, x3, w64 (x4 + 1))))
  else
  some x3
noncomputable def spec_NetWrites.f (p0 : Bool × List (List UInt8 × Int) × List (List UInt8 × Bool × List UInt8)) : Option (List (List UInt8 × Bool × List UInt8)) :=
  (lp spec_NetWrites.l0 (p0, ([] : List (List UInt8 × Bool × List UInt8)), 0)).bind (fun x3 =>
  some x3)

noncomputable def spec_TxnWrite.f (p0 : Bool × List (List UInt8 × Int) × List (List UInt8 × Bool × List UInt8)) (p1 : List UInt8 × Bool × List UInt8) : Option ((Bool × List (List UInt8 × Int) × List (List UInt8 × Bool × List UInt8)) × Bool) :=
  (spec_l15Copy.f p0).bind fun t1 =>
  bif !p0.1 then
  some (t1, false)
  else
  (spec_PutsOk.f [p1]).bind fun t2 =>
  bif !t2 then
  some (t1, false)
  else
  bif decide ((t1.2.2.length + [p1].length) * 40 ≤ 140737488355328) then
  let l3 := t1.2.2 ++ [p1]
  (spec_NetWrites.f (t1.1, t1.2.1, l3)).bind fun t4 =>
  bif decide ((t4.length : Int) > 8) then
  (spec_l15Copy.f p0).bind fun t5 =>
  some (t5, false)
  else
  bif decide ((l3.length : Int) > 50) then
  (spec_l15Copy.f p0).bind fun t6 =>
  some (t6, false)
  else
  some ((t1.1, t1.2.1, l3), true)
  else none

noncomputable def spec_l15Txn.l0 (rec : ((List Int × Int × Int) × (Bool × List (List UInt8 × Int) × List (List UInt8 × Bool × List UInt8)) × (Bool × List (List UInt8 × Int) × List (List UInt8 × Bool × List UInt8)) × Int) → Option ((List Int × Int × Int) × (Bool × List (List UInt8 × Int) × List (List UInt8 × Bool × List UInt8)) × Bool × List (List UInt8 × Int) × List (List UInt8 × Bool × List UInt8))) : ((List Int × Int × Int) × (Bool × List (List UInt8 × Int) × List (List UInt8 × Bool × List UInt8)) × (Bool × List (List UInt8 × Int) × List (List UInt8 × Bool × List UInt8)) × Int) → Option ((List Int × Int × Int) × (Bool × List (List UInt8 × Int) × List (List UInt8 × Bool × List UInt8)) × Bool × List (List UInt8 × Int) × List (List UInt8 × Bool × List UInt8)) := fun (x0, x2, x3, x4) =>
  bif decide (x4 > 0) then
  ((spec_l1Once.f x0 2).bind fun (t3_0, t3_1) =>
  bif t3_0 then
  (spec_l5Key.f t3_1).bind fun (t4_0, t4_1) =>
  (spec_l1Below.f t4_1 6).bind fun (t5_0, t5_1) =>
  (spec_TxnRead.f x3 t4_0 t5_0).bind fun (t6_0, t6_1) =>
  some (t5_1, x2, t6_0, x4)
  else
  (spec_l12AnyPuts.f t3_1).bind fun (t7_0, t7_1) =>
  bif decide ((t7_0.length + [([97], false, [118])].length) * 40 ≤ 140737488355328) then
  let l8 := t7_0 ++ [([97], false, [118])]
  bif inB 0 l8.length then
  (spec_TxnWrite.f x3 ((rdA ([], false, []) l8 0).1, ((rdA ([], false, []) l8 0).2))).bind fun (t9_0, t9_1) =>
  some (t7_1, x2, t9_0, x4)
  else none
  else none : Option ((List Int × Int × Int) × (Bool × List (List UInt8 × Int) × List (List UInt8 × Bool × List UInt8)) × (Bool × List (List UInt8 × Int) × List (List UInt8 × Bool × List UInt8)) × Int)).bind (fun (x0, x2, x3, x4) =>
  rec (x0, x2, x3, w64 (x4 - 1)))
  else
  some (x0, x2, x3)
noncomputable def spec_l15Txn.f (p0 : List Int × Int × Int) : Option ((Bool × List (List UInt8 × Int) × List (List UInt8 × Bool × List UInt8)) × List Int × Int × Int) :=
  (spec_l1Once.f p0 12).bind fun (t1_0, t1_1) =>
  (spec_l1Below.f t1_1 8).bind fun (t2_0, t2_1) =>
  (lp spec_l15Txn.l0 (t2_1, (false, [], []), (!t1_0, [], []), t2_0)).bind (fun (x0, x2, x3) =>
  some (x3, x0))

noncomputable def spec_DrawTxnRead.f (p0 : List Int) : Option ((Bool × List (List UInt8 × Int) × List (List UInt8 × Bool × List UInt8)) × List UInt8 × Int) :=
  (spec_l1New.f p0).bind fun t1 =>
  (spec_l15Txn.f t1).bind fun (t2_0, t2_1) =>
  (spec_l5Key.f t2_1).bind fun (t3_0, t3_1) =>
  ((spec_l1Once.f t3_1 12).bind fun (t4_0, t4_1) =>
  bif t4_0 then
  some ((false, [], []), t4_1, t2_0, [])
  else
  some ((false, [], []), t4_1, t2_0, t3_0) : Option ((Bool × List (List UInt8 × Int) × List (List UInt8 × Bool × List UInt8)) × (List Int × Int × Int) × (Bool × List (List UInt8 × Int) × List (List UInt8 × Bool × List UInt8)) × List UInt8)).bind (fun (x2, x5, x6, x7) =>
  (spec_l1Below.f x5 6).bind fun (t5_0, t5_1) =>
  some (x6, x7, t5_0))

noncomputable def impl_copyPuts.f (p0 : List (List UInt8 × Bool × List UInt8)) : Option (List (List UInt8 × Bool × List UInt8)) :=
  bif decide ((([] : List (List UInt8 × Bool × List UInt8)).length + p0.length) * 40 ≤ 140737488355328) then
  let l1 := ([] : List (List UInt8 × Bool × List UInt8)) ++ p0
  some l1
  else none

noncomputable def impl_copyTxn.f (p0 : Bool × List (List UInt8 × Int) × List (List UInt8 × Bool × List UInt8)) : Option (Bool × List (List UInt8 × Int) × List (List UInt8 × Bool × List UInt8)) :=
  bif decide ((([] : List (List UInt8 × Int)).length + p0.2.1.length) * 24 ≤ 140737488355328) then
  let l1 := ([] : List (List UInt8 × Int)) ++ p0.2.1
  (impl_copyPuts.f p0.2.2).bind fun t2 =>
  some (p0.1, l1, t2)
  else none

noncomputable def impl_TxnRead.l0 (rec : (List UInt8 × Int × (Bool × List (List UInt8 × Int) × List (List UInt8 × Bool × List UInt8)) × (Bool × List (List UInt8 × Int) × List (List UInt8 × Bool × List UInt8)) × (Bool × List (List UInt8 × Int) × List (List UInt8 × Bool × List UInt8)) × Bool × List (List UInt8 × Int) × Int × Int) → Option ((List UInt8 × Int × (Bool × List (List UInt8 × Int) × List (List UInt8 × Bool × List UInt8)) × (Bool × List (List UInt8 × Int) × List (List UInt8 × Bool × List UInt8)) × (Bool × List (List UInt8 × Int) × List (List UInt8 × Bool × List UInt8)) × Bool) ⊕ ((Bool × List (List UInt8 × Int) × List (List UInt8 × Bool × List UInt8)) × Int))) : (List UInt8 × Int × (Bool × List (List UInt8 × Int) × List (List UInt8 × Bool × List UInt8)) × (Bool × List (List UInt8 × Int) × List (List UInt8 × Bool × List UInt8)) × (Bool × List (List UInt8 × Int) × List (List UInt8 × Bool × List UInt8)) × Bool × List (List UInt8 × Int) × Int × Int) → Option ((List UInt8 × Int × (Bool × List (List UInt8 × Int) × List (List UInt8 × Bool × List UInt8)) × (Bool × List (List UInt8 × Int) × List (List UInt8 × Bool × List UInt8)) × (Bool × List (List UInt8 × Int) × List (List UInt8 × Bool × List UInt8)) × Bool) ⊕ ((Bool × List (List UInt8 × Int) × List (List UInt8 × Bool × List UInt8)) × Int)) := fun (x1, x2, x3, x6, x8, x9, x24, x25, x26) =>
  bif decide (x26 < x25) then
  (bif inB x26 x24.length then
  let y3 := (rdA ([], 0) x24 x26).1
  let y4 := (rdA ([], 0) x24 x26).2
  bif !(y3 == x1) then
  some (Sum.inl (x1, x2, x3, x6, x8, x9, x24, x25, x26))
  else
  bif y4 != x2 then
  some (Sum.inr (x8, 7))
  else
  some (Sum.inl (x1, x2, x3, x6, x8, true, x24, x25, x26))
  else none : Option ((List UInt8 × Int × (Bool × List (List UInt8 × Int) × List (List UInt8 × Bool × List UInt8)) × (Bool × List (List UInt8 × Int) × List (List UInt8 × Bool × List UInt8)) × (Bool × List (List UInt8 × Int) × List (List UInt8 × Bool × List UInt8)) × Bool × List (List UInt8 × Int) × Int × Int) ⊕ ((Bool × List (List UInt8 × Int) × List (List UInt8 × Bool × List UInt8)) × Int))).bind (fun o5 => caseS o5 (fun (x1, x2, x3, x6, x8, x9, x24, x25, x26) =>
  rec (x1, x2, x3, x6, x8, x9, x24, x25, w64 (x26 + 1))) (fun (x6, x7) =>
  some (Sum.inr (x6, x7))))
  else
  some (Sum.inl (x1, x2, x3, x6, x8, x9))
noncomputable def impl_TxnRead.f (p0 : Bool × List (List UInt8 × Int) × List (List UInt8 × Bool × List UInt8)) (p1 : List UInt8) (p2 : Int) : Option ((Bool × List (List UInt8 × Int) × List (List UInt8 × Bool × List UInt8)) × Int) :=
  (impl_copyTxn.f p0).bind fun t1 =>
  bif !p0.1 then
  some (t1, 4)
  else
  (impl_KeyOk.f p1).bind fun t2 =>
  bif !t2 then
  some (t1, 4)
  else
  (lp impl_TxnRead.l0 (p1, p2, p0, (false, [], []), t1, false, p0.2.1, (p0.2.1.length : Int), 0)).bind (fun o6 => caseS o6 (fun (x1, x2, x3, x6, x8, x9) =>
  bif x9 then
  some (x8, 0)
  else
  bif decide ((x3.2.1.length : Int) ≥ 20) then
  some (x8, 5)
  else
  bif decide ((x8.2.1.length + [(x1, x2)].length) * 24 ≤ 140737488355328) then
  let l7 := x8.2.1 ++ [(x1, x2)]
  some ((x8.1, l7, x8.2.2), 0)
  else none) (fun (x6, x7) =>
  some (x6, x7)))

noncomputable def laws_FnRows.f (p0 : List Int) : Option (Bool) :=
  (laws_big.f p0).bind fun t1 =>
  bif t1 then
  some true
  else
  (spec_DrawTxnRead.f p0).bind fun (t2_0, t2_1, t2_2) =>
  (impl_TxnRead.f t2_0 t2_1 t2_2).bind fun (t3_0, t3_1) =>
  (spec_TxnRead.f t2_0 t2_1 t2_2).bind fun (t4_0, t4_1) =>
  bif t3_1 != t4_1 then
  some false
  else
  bif t3_1 != 0 then
  let y5 := (t3_0.2.1.length : Int) == (t2_0.2.1.length : Int)
  some y5
  else
  (impl_TxnRead.f t3_0 t2_1 t2_2).bind fun (t6_0, t6_1) =>
  (impl_TxnRead.f t3_0 t2_1 (w64 (t2_2 + 1))).bind fun (t7_0, t7_1) =>
  bif t6_1 == 0 then
  bif (t6_0.2.1.length : Int) == (t3_0.2.1.length : Int) then
  bif t7_1 == 7 then
  let y8 := (t3_0.2.2.length : Int) == (t2_0.2.2.length : Int)
  some y8
  else
  some false
  else
  some false
  else
  some false

noncomputable def spec_Fold.l0 (rec : (List (List UInt8 × Bool × List UInt8) × Int × List (List UInt8 × List UInt8 × Int) × Int) → Option (List (List UInt8 × List UInt8 × Int))) : (List (List UInt8 × Bool × List UInt8) × Int × List (List UInt8 × List UInt8 × Int) × Int) → Option (List (List UInt8 × List UInt8 × Int)) := fun (x1, x2, x7, x8) =>
  bif decide (x8 < (x1.length : Int)) then
  bif inB x8 x1.length then
  bif inB x8 x1.length then
  bif inB x8 x1.length then
  (spec_l13Set.f x7 ((rdA ([], false, []) x1 x8).1, ((rdA ([], false, []) x1 x8).2).2, x2) (((rdA ([], false, []) x1 x8).2).1)).bind fun t2 =>
  rec (x1, x2, t2, w64 (x8 + 1))
  else none
  else none
  else none
  else
  some x7
noncomputable def spec_Fold.f (p0 : List (List UInt8 × List UInt8 × Int)) (p1 : List (List UInt8 × Bool × List UInt8)) (p2 : Int) : Option (List (List UInt8 × List UInt8 × Int)) :=
  bif decide ((([] : List (List UInt8 × List UInt8 × Int)).length + p0.length) * 40 ≤ 140737488355328) then
  let l1 := ([] : List (List UInt8 × List UInt8 × Int)) ++ p0
  (lp spec_Fold.l0 (p1, p2, l1, 0)).bind (fun x7 =>
  some x7)
  else none

noncomputable def laws_markText.l0 (rec : (Int × List UInt8) → Option (List UInt8)) : (Int × List UInt8) → Option (List UInt8) := fun (x0, x3) =>
  bif decide (x0 > 0) then
  bif decide ((strOf [IntKind.wrap .u8 (w64 (48 + (Int.tmod x0 10)))]).length + x3.length ≤ 9223372036854775807) then
  let y1 := (strOf [IntKind.wrap .u8 (w64 (48 + (Int.tmod x0 10)))]) ++ x3
  let y2 := w64 (Int.tdiv x0 10)
  rec (y2, y1)
  else none
  else
  some x3
noncomputable def laws_markText.f (p0 : Int) : Option (List UInt8) :=
  bif decide (p0 ≤ 0) then
  some [109, 48]
  else
  (lp laws_markText.l0 (p0, [])).bind (fun x3 =>
  bif decide (([109] : List UInt8).length + x3.length ≤ 9223372036854775807) then
  some ([109] ++ x3)
  else none)

noncomputable def laws_markPairS.l0 (rec : (List (List UInt8 × List UInt8 × Int) × Int × Int) → Option (List (List UInt8 × List UInt8 × Int) × Int)) : (List (List UInt8 × List UInt8 × Int) × Int × Int) → Option (List (List UInt8 × List UInt8 × Int) × Int) := fun (x0, x1, x5) =>
  bif decide (x5 < (x0.length : Int)) then
  (laws_markText.f x1).bind fun t1 =>
  bif inB x5 x0.length then
  let l2 := x0.set x5.toNat (t1, (rdA ([], [], 0) x0 x5).2)
  (laws_markText.f (w64 (x1 + 1))).bind fun t3 =>
  bif inB x5 l2.length then
  let l4 := l2.set x5.toNat ((rdA ([], [], 0) l2 x5).1, t3, ((rdA ([], [], 0) l2 x5).2).2)
  let y5 := w64 ((w64 (x1 + 1)) + 1)
  bif inB x5 l4.length then
  let l6 := l4.set x5.toNat ((rdA ([], [], 0) l4 x5).1, ((rdA ([], [], 0) l4 x5).2).1, y5)
  rec (l6, w64 (y5 + 1), w64 (x5 + 1))
  else none
  else none
  else none
  else
  some (x0, x1)
noncomputable def laws_markPairS.f (p0 : List (List UInt8 × List UInt8 × Int)) (p1 : Int) : Option (Int × List (List UInt8 × List UInt8 × Int)) :=
  (lp laws_markPairS.l0 (p0, p1, 0)).bind (fun (x0, x1) =>
  some (x1, x0))

noncomputable def laws_markPutS.l0 (rec : (List (List UInt8 × Bool × List UInt8) × Int × Int) → Option (List (List UInt8 × Bool × List UInt8) × Int)) : (List (List UInt8 × Bool × List UInt8) × Int × Int) → Option (List (List UInt8 × Bool × List UInt8) × Int) := fun (x0, x1, x5) =>
  bif decide (x5 < (x0.length : Int)) then
  (laws_markText.f x1).bind fun t1 =>
  bif inB x5 x0.length then
  let l2 := x0.set x5.toNat (t1, (rdA ([], false, []) x0 x5).2)
  bif inB x5 l2.length then
  let l3 := l2.set x5.toNat ((rdA ([], false, []) l2 x5).1, (Int.tmod (w64 (x1 + 1)) 3) == 0, ((rdA ([], false, []) l2 x5).2).2)
  let y4 := w64 ((w64 (x1 + 1)) + 1)
  (laws_markText.f y4).bind fun t5 =>
  bif inB x5 l3.length then
  let l6 := l3.set x5.toNat ((rdA ([], false, []) l3 x5).1, ((rdA ([], false, []) l3 x5).2).1, t5)
  rec (l6, w64 (y4 + 1), w64 (x5 + 1))
  else none
  else none
  else none
  else
  some (x0, x1)
noncomputable def laws_markPutS.f (p0 : List (List UInt8 × Bool × List UInt8)) (p1 : Int) : Option (Int × List (List UInt8 × Bool × List UInt8)) :=
  (lp laws_markPutS.l0 (p0, p1, 0)).bind (fun (x0, x1) =>
  some (x1, x0))

noncomputable def laws_heldPairS.l0 (rec : (List (List UInt8 × List UInt8 × Int) × Int × Int) → Option ((Int) ⊕ (Int))) : (List (List UInt8 × List UInt8 × Int) × Int × Int) → Option ((Int) ⊕ (Int)) := fun (x0, x1, x5) =>
  bif decide (x5 < (x0.length : Int)) then
  bif inB x5 x0.length then
  (laws_markText.f x1).bind fun t1 =>
  bif !(((rdA ([], [], 0) x0 x5).1) == t1) then
  some (Sum.inr (-1))
  else
  bif inB x5 x0.length then
  (laws_markText.f (w64 (x1 + 1))).bind fun t2 =>
  bif !((((rdA ([], [], 0) x0 x5).2).1) == t2) then
  some (Sum.inr (-1))
  else
  let y3 := w64 ((w64 (x1 + 1)) + 1)
  bif inB x5 x0.length then
  bif (((rdA ([], [], 0) x0 x5).2).2) != y3 then
  some (Sum.inr (-1))
  else
  rec (x0, w64 (y3 + 1), w64 (x5 + 1))
  else none
  else none
  else none
  else
  some (Sum.inl x1)
noncomputable def laws_heldPairS.f (p0 : List (List UInt8 × List UInt8 × Int)) (p1 : Int) : Option (Int) :=
  (lp laws_heldPairS.l0 (p0, p1, 0)).bind (fun o4 => caseS o4 (fun x1 =>
  some x1) (fun x4 =>
  some x4))

noncomputable def laws_FnExactFold.f (p0 : List (List UInt8 × List UInt8 × Int)) (p1 : List (List UInt8 × Bool × List UInt8)) (p2 : Int) : Option (Bool) :=
  (laws_szPairS.f p0 1048576).bind fun t1 =>
  bif decide (t1 < 0) then
  some true
  else
  (laws_szPutS.f p1 t1).bind fun t2 =>
  bif decide (t2 < 0) then
  some true
  else
  (laws_toPairS.f p0).bind fun t3 =>
  (laws_toPutS.f p1).bind fun t4 =>
  (spec_Fold.f t3 t4 p2).bind fun t5 =>
  (laws_toPairS.f p0).bind fun t6 =>
  (laws_toPutS.f p1).bind fun t7 =>
  (impl_Fold.f t6 t7 p2).bind fun t8 =>
  (laws_eqPairS.f t8 t5).bind fun t9 =>
  bif !t9 then
  some false
  else
  (laws_toPairS.f p0).bind fun t10 =>
  (laws_eqPairS.f t6 t10).bind fun t11 =>
  bif !t11 then
  some false
  else
  (laws_toPutS.f p1).bind fun t12 =>
  (laws_eqPutS.f t7 t12).bind fun t13 =>
  bif !t13 then
  some false
  else
  (laws_markPairS.f t6 1).bind fun (t14_0, t14_1) =>
  (laws_markPutS.f t7 t14_0).bind fun (t15_0, t15_1) =>
  bif decide (t15_0 < 0) then
  some false
  else
  (laws_eqPairS.f t8 t5).bind fun t16 =>
  bif !t16 then
  some false
  else
  (laws_markPairS.f t8 1).bind fun (t17_0, t17_1) =>
  (laws_heldPairS.f t17_1 1).bind fun t18 =>
  bif decide (t18 < 0) then
  some false
  else
  bif t18 != t17_0 then
  some false
  else
  (laws_toPairS.f p0).bind fun t19 =>
  (laws_toPutS.f p1).bind fun t20 =>
  (impl_Fold.f t19 t20 p2).bind fun t21 =>
  (laws_eqPairS.f t21 t5).bind fun t22 =>
  bif !t22 then
  some false
  else
  (laws_heldPairS.f t17_1 1).bind fun t23 =>
  bif decide (t23 < 0) then
  some false
  else
  bif t23 != t17_0 then
  some false
  else
  some true

noncomputable def laws_szFile.f (p0 : List UInt8 × List UInt8 × Int) (p1 : Int) : Option (Int) :=
  let y1 := w64 (p1 - (p0.1.length : Int))
  bif decide (y1 < 0) then
  some (-1)
  else
  let y2 := w64 (y1 - (p0.2.1.length : Int))
  bif decide (y2 < 0) then
  some (-1)
  else
  some y2

noncomputable def laws_szFileS.l0 (rec : (List (List UInt8 × List UInt8 × Int) × Int × Int) → Option ((Int) ⊕ (Int))) : (List (List UInt8 × List UInt8 × Int) × Int × Int) → Option ((Int) ⊕ (Int)) := fun (x0, x1, x5) =>
  bif decide (x5 < (x0.length : Int)) then
  bif inB x5 x0.length then
  (laws_szFile.f ((rdA ([], [], 0) x0 x5).1, ((rdA ([], [], 0) x0 x5).2)) x1).bind fun t2 =>
  bif decide (t2 < 0) then
  some (Sum.inr (-1))
  else
  rec (x0, t2, w64 (x5 + 1))
  else none
  else
  some (Sum.inl x1)
noncomputable def laws_szFileS.f (p0 : List (List UInt8 × List UInt8 × Int)) (p1 : Int) : Option (Int) :=
  let y1 := w64 (p1 - (p0.length : Int))
  bif decide (y1 < 0) then
  some (-1)
  else
  (lp laws_szFileS.l0 (p0, y1, 0)).bind (fun o3 => caseS o3 (fun x1 =>
  some x1) (fun x4 =>
  some x4))

noncomputable def laws_szDisk.f (p0 : List (List UInt8 × List UInt8 × Int) × Int × Int × Bool) (p1 : Int) : Option (Int) :=
  (laws_szFileS.f p0.1 p1).bind fun t1 =>
  bif decide (t1 < 0) then
  some (-1)
  else
  some t1

noncomputable def spec_l3Copy.f (p0 : List (List UInt8 × List UInt8 × Int) × Int × Int × Bool) : Option (List (List UInt8 × List UInt8 × Int) × Int × Int × Bool) :=
  bif decide ((([] : List (List UInt8 × List UInt8 × Int)).length + p0.1.length) * 40 ≤ 140737488355328) then
  let l1 := ([] : List (List UInt8 × List UInt8 × Int)) ++ p0.1
  some (l1, p0.2)
  else none

noncomputable def spec_l3Used.l0 (rec : ((List (List UInt8 × List UInt8 × Int) × Int × Int × Bool) × Int × Int) → Option (Int)) : ((List (List UInt8 × List UInt8 × Int) × Int × Int × Bool) × Int × Int) → Option (Int) := fun (x1, x3, x4) =>
  bif decide (x4 < (x1.1.length : Int)) then
  bif inB x4 x1.1.length then
  let y1 := w64 (x3 + ((((rdA ([], [], 0) x1.1 x4).2).1).length : Int))
  rec (x1, y1, w64 (x4 + 1))
  else none
  else
  some x3
noncomputable def spec_l3Used.f (p0 : List (List UInt8 × List UInt8 × Int) × Int × Int × Bool) : Option (Int) :=
  (lp spec_l3Used.l0 (p0, 0, 0)).bind (fun x3 =>
  some x3)

noncomputable def spec_NameOk.l0 (rec : (List UInt8 × Int) → Option ((List UInt8) ⊕ (Bool))) : (List UInt8 × Int) → Option ((List UInt8) ⊕ (Bool)) := fun (x0, x3) =>
  bif decide (x3 < (x0.length : Int)) then
  (bif inB x3 x0.length then
  bif decide ((bAt x0 x3) ≥ 97) then
  bif inB x3 x0.length then
  bif decide ((bAt x0 x3) ≤ 122) then
  some (Sum.inl (x0, x3))
  else
  bif inB x3 x0.length then
  bif decide ((bAt x0 x3) ≥ 48) then
  bif inB x3 x0.length then
  bif !(decide ((bAt x0 x3) ≤ 57)) then
  some (Sum.inr false)
  else
  some (Sum.inl (x0, x3))
  else none
  else
  some (Sum.inr false)
  else none
  else none
  else
  bif inB x3 x0.length then
  bif decide ((bAt x0 x3) ≥ 48) then
  bif inB x3 x0.length then
  bif !(decide ((bAt x0 x3) ≤ 57)) then
  some (Sum.inr false)
  else
  some (Sum.inl (x0, x3))
  else none
  else
  some (Sum.inr false)
  else none
  else none : Option ((List UInt8 × Int) ⊕ (Bool))).bind (fun o1 => caseS o1 (fun (x0, x3) =>
  rec (x0, w64 (x3 + 1))) (fun x2 =>
  some (Sum.inr x2)))
  else
  some (Sum.inl x0)
noncomputable def spec_NameOk.f (p0 : List UInt8) : Option (Bool) :=
  (lp spec_NameOk.l0 (p0, 0)).bind (fun o2 => caseS o2 (fun x0 =>
  (spec_l1In.f (x0.length : Int) 1 12).bind fun t3 =>
  some t3) (fun x2 =>
  some x2))

noncomputable def spec_DiskOk.l0 (rec : ((List (List UInt8 × List UInt8 × Int) × Int × Int × Bool) × Int) → Option ((Unit) ⊕ (Bool))) : ((List (List UInt8 × List UInt8 × Int) × Int × Int × Bool) × Int) → Option ((Unit) ⊕ (Bool)) := fun (x1, x3) =>
  bif decide (x3 < (x1.1.length : Int)) then
  (bif inB x3 x1.1.length then
  (spec_NameOk.f ((rdA ([], [], 0) x1.1 x3).1)).bind fun t4 =>
  bif !t4 then
  some (Sum.inr false)
  else
  bif inB x3 x1.1.length then
  bif inB x3 x1.1.length then
  (spec_l1In.f (((rdA ([], [], 0) x1.1 x3).2).2) 0 ((((rdA ([], [], 0) x1.1 x3).2).1).length : Int)).bind fun t5 =>
  bif !t5 then
  some (Sum.inr false)
  else
  bif decide (x3 > 0) then
  bif inB x3 x1.1.length then
  bif inB (w64 (x3 - 1)) x1.1.length then
  bif (Op.bytesLess ((rdA ([], [], 0) x1.1 x3).1) ((rdA ([], [], 0) x1.1 (w64 (x3 - 1))).1) || ((rdA ([], [], 0) x1.1 x3).1) == ((rdA ([], [], 0) x1.1 (w64 (x3 - 1))).1)) then
  some (Sum.inr false)
  else
  some (Sum.inl (x1, x3))
  else none
  else none
  else
  some (Sum.inl (x1, x3))
  else none
  else none
  else none : Option (((List (List UInt8 × List UInt8 × Int) × Int × Int × Bool) × Int) ⊕ (Bool))).bind (fun o6 => caseS o6 (fun (x1, x3) =>
  rec (x1, w64 (x3 + 1))) (fun x2 =>
  some (Sum.inr x2)))
  else
  some (Sum.inl ())
noncomputable def spec_DiskOk.f (p0 : List (List UInt8 × List UInt8 × Int) × Int × Int × Bool) : Option (Bool) :=
  bif decide ((p0.1.length : Int) > 130) then
  some false
  else
  (spec_l1In.f p0.2.1 0 100000).bind fun t1 =>
  bif !t1 then
  some false
  else
  (spec_l1In.f p0.2.2.1 (-1) 100000).bind fun t2 =>
  bif !t2 then
  some false
  else
  (spec_l3Used.f p0).bind fun t3 =>
  bif decide (t3 > p0.2.1) then
  some false
  else
  (lp spec_DiskOk.l0 (p0, 0)).bind (fun o7 => caseS o7 (fun _ =>
  some true) (fun x2 =>
  some x2))

noncomputable def spec_DropHints.l0 (rec : ((List (List UInt8 × List UInt8 × Int) × Int × Int × Bool) × (List (List UInt8 × List UInt8 × Int) × Int × Int × Bool) × (List (List UInt8 × List UInt8 × Int) × Int × Int × Bool) × Int) → Option ((List (List UInt8 × List UInt8 × Int) × Int × Int × Bool) × List (List UInt8 × List UInt8 × Int) × Int × Int × Bool)) : ((List (List UInt8 × List UInt8 × Int) × Int × Int × Bool) × (List (List UInt8 × List UInt8 × Int) × Int × Int × Bool) × (List (List UInt8 × List UInt8 × Int) × Int × Int × Bool) × Int) → Option ((List (List UInt8 × List UInt8 × Int) × Int × Int × Bool) × List (List UInt8 × List UInt8 × Int) × Int × Int × Bool) := fun (x1, x2, x3, x4) =>
  bif decide (x4 < (x1.1.length : Int)) then
  (bif inB x4 x1.1.length then
  bif decide ((((rdA ([], [], 0) x1.1 x4).1).length : Int) < 4) then
  bif inB x4 x1.1.length then
  bif decide ((x3.1.length + ([((rdA ([], [], 0) x1.1 x4).1, ((rdA ([], [], 0) x1.1 x4).2))] : List (List UInt8 × List UInt8 × Int)).length) * 40 ≤ 140737488355328) then
  let l3 := x3.1 ++ ([((rdA ([], [], 0) x1.1 x4).1, ((rdA ([], [], 0) x1.1 x4).2))] : List (List UInt8 × List UInt8 × Int))
  some (x1, x2, (l3, x3.2), x4)
  else none
  else none
  else
  bif inB x4 x1.1.length then
  bif (decide (0 ≤ (4 : Int)) && decide (4 ≤ (((rdA ([], [], 0) x1.1 x4).1).length : Int))) then
  bif !((((rdA ([], [], 0) x1.1 x4).1).take 4) == [104, 105, 110, 116]) then
  bif inB x4 x1.1.length then
  bif decide ((x3.1.length + ([((rdA ([], [], 0) x1.1 x4).1, ((rdA ([], [], 0) x1.1 x4).2))] : List (List UInt8 × List UInt8 × Int)).length) * 40 ≤ 140737488355328) then
  let l4 := x3.1 ++ ([((rdA ([], [], 0) x1.1 x4).1, ((rdA ([], [], 0) x1.1 x4).2))] : List (List UInt8 × List UInt8 × Int))
  some (x1, x2, (l4, x3.2), x4)
  else none
  else none
  else
  some (x1, x2, x3, x4)
  else none
  else none
  else none : Option ((List (List UInt8 × List UInt8 × Int) × Int × Int × Bool) × (List (List UInt8 × List UInt8 × Int) × Int × Int × Bool) × (List (List UInt8 × List UInt8 × Int) × Int × Int × Bool) × Int)).bind (fun (x1, x2, x3, x4) =>
  rec (x1, x2, x3, w64 (x4 + 1)))
  else
  some (x2, x3)
noncomputable def spec_DropHints.f (p0 : List (List UInt8 × List UInt8 × Int) × Int × Int × Bool) : Option (List (List UInt8 × List UInt8 × Int) × Int × Int × Bool) :=
  (spec_l3Copy.f p0).bind fun t1 =>
  (spec_DiskOk.f p0).bind fun t2 =>
  bif !t2 then
  some t1
  else
  (lp spec_DropHints.l0 (p0, ([], 0, 0, false), (([] : List (List UInt8 × List UInt8 × Int)), t1.2), 0)).bind (fun (x2, x3) =>
  some x3)

noncomputable def laws_toFile.f (p0 : List UInt8 × List UInt8 × Int) : Option (List UInt8 × List UInt8 × Int) :=
  some p0

noncomputable def laws_toFileS.l0 (rec : (List (List UInt8 × List UInt8 × Int) × List (List UInt8 × List UInt8 × Int) × Int) → Option (List (List UInt8 × List UInt8 × Int))) : (List (List UInt8 × List UInt8 × Int) × List (List UInt8 × List UInt8 × Int) × Int) → Option (List (List UInt8 × List UInt8 × Int)) := fun (x0, x3, x4) =>
  bif decide (x4 < (x0.length : Int)) then
  bif inB x4 x0.length then
  (laws_toFile.f ((rdA ([], [], 0) x0 x4).1, ((rdA ([], [], 0) x0 x4).2))).bind fun t2 =>
  bif inB x4 x3.length then
  let l3 := x3.set x4.toNat t2
  rec (x0, l3, w64 (x4 + 1))
  else none
  else none
  else
  some x3
noncomputable def laws_toFileS.f (p0 : List (List UInt8 × List UInt8 × Int)) : Option (List (List UInt8 × List UInt8 × Int)) :=
  bif ((p0.length : Int) == (p0.length : Int)) then
  bif (decide (0 ≤ (p0.length : Int)) && decide (40 * (p0.length : Int) ≤ 140737488355328)) then
  let l1 := List.replicate (p0.length : Int).toNat ([], [], 0)
  (lp laws_toFileS.l0 (p0, l1, 0)).bind (fun x3 =>
  some x3)
  else none
  else none

noncomputable def laws_toDisk.f (p0 : List (List UInt8 × List UInt8 × Int) × Int × Int × Bool) : Option (List (List UInt8 × List UInt8 × Int) × Int × Int × Bool) :=
  (laws_toFileS.f p0.1).bind fun t1 =>
  some (t1, p0.2)

noncomputable def impl_copyDisk.f (p0 : List (List UInt8 × List UInt8 × Int) × Int × Int × Bool) : Option (List (List UInt8 × List UInt8 × Int) × Int × Int × Bool) :=
  bif decide ((([] : List (List UInt8 × List UInt8 × Int)).length + p0.1.length) * 40 ≤ 140737488355328) then
  let l1 := ([] : List (List UInt8 × List UInt8 × Int)) ++ p0.1
  some (l1, p0.2)
  else none

noncomputable def impl_NameOk.l0 (rec : (List UInt8 × Int) → Option ((List UInt8) ⊕ (Bool))) : (List UInt8 × Int) → Option ((List UInt8) ⊕ (Bool)) := fun (x0, x3) =>
  bif decide (x3 < (x0.length : Int)) then
  (bif inB x3 x0.length then
  bif decide ((bAt x0 x3) ≥ 97) then
  bif inB x3 x0.length then
  bif !(decide ((bAt x0 x3) ≤ 122)) then
  bif inB x3 x0.length then
  bif decide ((bAt x0 x3) ≥ 48) then
  bif inB x3 x0.length then
  bif !(decide ((bAt x0 x3) ≤ 57)) then
  some (Sum.inr false)
  else
  some (Sum.inl (x0, x3))
  else none
  else
  some (Sum.inr false)
  else none
  else
  some (Sum.inl (x0, x3))
  else none
  else
  bif inB x3 x0.length then
  bif decide ((bAt x0 x3) ≥ 48) then
  bif inB x3 x0.length then
  bif !(decide ((bAt x0 x3) ≤ 57)) then
  some (Sum.inr false)
  else
  some (Sum.inl (x0, x3))
  else none
  else
  some (Sum.inr false)
  else none
  else none : Option ((List UInt8 × Int) ⊕ (Bool))).bind (fun o1 => caseS o1 (fun (x0, x3) =>
  rec (x0, w64 (x3 + 1))) (fun x2 =>
  some (Sum.inr x2)))
  else
  some (Sum.inl x0)
noncomputable def impl_NameOk.f (p0 : List UInt8) : Option (Bool) :=
  (lp impl_NameOk.l0 (p0, 0)).bind (fun o2 => caseS o2 (fun x0 =>
  (impl_in.f (x0.length : Int) 1 12).bind fun t3 =>
  some t3) (fun x2 =>
  some x2))

noncomputable def impl_DiskOk.l0 (rec : ((List (List UInt8 × List UInt8 × Int) × Int × Int × Bool) × Int × List (List UInt8 × List UInt8 × Int) × Int × Int) → Option (((List (List UInt8 × List UInt8 × Int) × Int × Int × Bool) × Int) ⊕ (Bool))) : ((List (List UInt8 × List UInt8 × Int) × Int × Int × Bool) × Int × List (List UInt8 × List UInt8 × Int) × Int × Int) → Option (((List (List UInt8 × List UInt8 × Int) × Int × Int × Bool) × Int) ⊕ (Bool)) := fun (x1, x3, x23, x24, x25) =>
  bif decide (x25 < x24) then
  bif inB x25 x23.length then
  let y3 := (rdA ([], [], 0) x23 x25).1
  let y4 := ((rdA ([], [], 0) x23 x25).2).1
  let y5 := ((rdA ([], [], 0) x23 x25).2).2
  ((impl_NameOk.f y3).bind fun t6 =>
  bif !t6 then
  some (Sum.inr false)
  else
  (impl_in.f y5 0 (y4.length : Int)).bind fun t7 =>
  bif !t7 then
  some (Sum.inr false)
  else
  bif decide (x25 > 0) then
  bif inB (w64 (x25 - 1)) x1.1.length then
  bif !(Op.bytesLess ((rdA ([], [], 0) x1.1 (w64 (x25 - 1))).1) y3) then
  some (Sum.inr false)
  else
  some (Sum.inl (x1, x3, (y3, y4, y5), x23, x24, x25))
  else none
  else
  some (Sum.inl (x1, x3, (y3, y4, y5), x23, x24, x25)) : Option (((List (List UInt8 × List UInt8 × Int) × Int × Int × Bool) × Int × (List UInt8 × List UInt8 × Int) × List (List UInt8 × List UInt8 × Int) × Int × Int) ⊕ (Bool))).bind (fun o8 => caseS o8 (fun (x1, x3, x5, x23, x24, x25) =>
  let y9 := w64 (x3 + (x5.2.1.length : Int))
  rec (x1, y9, x23, x24, w64 (x25 + 1))) (fun x2 =>
  some (Sum.inr x2)))
  else none
  else
  some (Sum.inl (x1, x3))
noncomputable def impl_DiskOk.f (p0 : List (List UInt8 × List UInt8 × Int) × Int × Int × Bool) : Option (Bool) :=
  bif decide ((p0.1.length : Int) > 130) then
  some false
  else
  (impl_in.f p0.2.1 0 100000).bind fun t1 =>
  bif !t1 then
  some false
  else
  (impl_in.f p0.2.2.1 (-1) 100000).bind fun t2 =>
  bif !t2 then
  some false
  else
  (lp impl_DiskOk.l0 (p0, 0, p0.1, (p0.1.length : Int), 0)).bind (fun o10 => caseS o10 (fun (x1, x3) =>
  let y11 := decide (x3 ≤ x1.2.1)
  some y11) (fun x2 =>
  some x2))

noncomputable def stringslite_HasPrefix.f (p0 : List UInt8) (p1 : List UInt8) : Option (Bool) :=
  bif decide ((p0.length : Int) ≥ (p1.length : Int)) then
  bif (decide (0 ≤ (p1.length : Int)) && decide ((p1.length : Int) ≤ (p0.length : Int))) then
  let y1 := (p0.take ((p1.length : Int).toNat)) == p1
  some y1
  else none
  else
  some false

noncomputable def strings_HasPrefix.f (p0 : List UInt8) (p1 : List UInt8) : Option (Bool) :=
  (stringslite_HasPrefix.f p0 p1).bind fun t1 =>
  some t1

noncomputable def impl_DropHints.l0 (rec : ((List (List UInt8 × List UInt8 × Int) × Int × Int × Bool) × (List (List UInt8 × List UInt8 × Int) × Int × Int × Bool) × List (List UInt8 × List UInt8 × Int) × Int × Int) → Option ((List (List UInt8 × List UInt8 × Int) × Int × Int × Bool) × List (List UInt8 × List UInt8 × Int) × Int × Int × Bool)) : ((List (List UInt8 × List UInt8 × Int) × Int × Int × Bool) × (List (List UInt8 × List UInt8 × Int) × Int × Int × Bool) × List (List UInt8 × List UInt8 × Int) × Int × Int) → Option ((List (List UInt8 × List UInt8 × Int) × Int × Int × Bool) × List (List UInt8 × List UInt8 × Int) × Int × Int × Bool) := fun (x2, x3, x14, x15, x16) =>
  bif decide (x16 < x15) then
  bif inB x16 x14.length then
  let y3 := (rdA ([], [], 0) x14 x16).1
  let y4 := ((rdA ([], [], 0) x14 x16).2).1
  let y5 := ((rdA ([], [], 0) x14 x16).2).2
  ((strings_HasPrefix.f y3 [104, 105, 110, 116]).bind fun t6 =>
  bif !t6 then
  bif decide ((x3.1.length + [(y3, y4, y5)].length) * 40 ≤ 140737488355328) then
  let l7 := x3.1 ++ [(y3, y4, y5)]
  some (x2, (l7, x3.2), x14, x15, x16)
  else none
  else
  some (x2, x3, x14, x15, x16) : Option ((List (List UInt8 × List UInt8 × Int) × Int × Int × Bool) × (List (List UInt8 × List UInt8 × Int) × Int × Int × Bool) × List (List UInt8 × List UInt8 × Int) × Int × Int)).bind (fun (x2, x3, x14, x15, x16) =>
  rec (x2, x3, x14, x15, w64 (x16 + 1)))
  else none
  else
  some (x2, x3)
noncomputable def impl_DropHints.f (p0 : List (List UInt8 × List UInt8 × Int) × Int × Int × Bool) : Option (List (List UInt8 × List UInt8 × Int) × Int × Int × Bool) :=
  (impl_copyDisk.f p0).bind fun t1 =>
  (impl_DiskOk.f p0).bind fun t2 =>
  bif !t2 then
  some t1
  else
  (lp impl_DropHints.l0 (([], 0, 0, false), ([], t1.2), p0.1, (p0.1.length : Int), 0)).bind (fun (x2, x3) =>
  some x3)

noncomputable def laws_eqFile.f (p0 : List UInt8 × List UInt8 × Int) (p1 : List UInt8 × List UInt8 × Int) : Option (Bool) :=
  bif !(p0.1 == p1.1) then
  some false
  else
  bif !(p0.2.1 == p1.2.1) then
  some false
  else
  bif p0.2.2 != p1.2.2 then
  some false
  else
  some true

noncomputable def laws_eqFileS.l0 (rec : (List (List UInt8 × List UInt8 × Int) × List (List UInt8 × List UInt8 × Int) × Int) → Option ((Unit) ⊕ (Bool))) : (List (List UInt8 × List UInt8 × Int) × List (List UInt8 × List UInt8 × Int) × Int) → Option ((Unit) ⊕ (Bool)) := fun (x0, x1, x5) =>
  bif decide (x5 < (x0.length : Int)) then
  bif inB x5 x0.length then
  bif inB x5 x1.length then
  (laws_eqFile.f ((rdA ([], [], 0) x0 x5).1, ((rdA ([], [], 0) x0 x5).2)) ((rdA ([], [], 0) x1 x5).1, ((rdA ([], [], 0) x1 x5).2))).bind fun t1 =>
  bif !t1 then
  some (Sum.inr false)
  else
  rec (x0, x1, w64 (x5 + 1))
  else none
  else none
  else
  some (Sum.inl ())
noncomputable def laws_eqFileS.f (p0 : List (List UInt8 × List UInt8 × Int)) (p1 : List (List UInt8 × List UInt8 × Int)) : Option (Bool) :=
  bif (p0.length : Int) != (p1.length : Int) then
  some false
  else
  (lp laws_eqFileS.l0 (p0, p1, 0)).bind (fun o2 => caseS o2 (fun _ =>
  some true) (fun x4 =>
  some x4))

noncomputable def laws_eqDisk.f (p0 : List (List UInt8 × List UInt8 × Int) × Int × Int × Bool) (p1 : List (List UInt8 × List UInt8 × Int) × Int × Int × Bool) : Option (Bool) :=
  (laws_eqFileS.f p0.1 p1.1).bind fun t1 =>
  bif !t1 then
  some false
  else
  bif p0.2.1 != p1.2.1 then
  some false
  else
  bif p0.2.2.1 != p1.2.2.1 then
  some false
  else
  bif !(p0.2.2.2 == p1.2.2.2) then
  some false
  else
  some true

noncomputable def laws_markFileS.l0 (rec : (List (List UInt8 × List UInt8 × Int) × Int × Int) → Option (List (List UInt8 × List UInt8 × Int) × Int)) : (List (List UInt8 × List UInt8 × Int) × Int × Int) → Option (List (List UInt8 × List UInt8 × Int) × Int) := fun (x0, x1, x5) =>
  bif decide (x5 < (x0.length : Int)) then
  (laws_markText.f x1).bind fun t1 =>
  bif inB x5 x0.length then
  let l2 := x0.set x5.toNat (t1, (rdA ([], [], 0) x0 x5).2)
  (laws_markText.f (w64 (x1 + 1))).bind fun t3 =>
  bif inB x5 l2.length then
  let l4 := l2.set x5.toNat ((rdA ([], [], 0) l2 x5).1, t3, ((rdA ([], [], 0) l2 x5).2).2)
  let y5 := w64 ((w64 (x1 + 1)) + 1)
  bif inB x5 l4.length then
  let l6 := l4.set x5.toNat ((rdA ([], [], 0) l4 x5).1, ((rdA ([], [], 0) l4 x5).2).1, y5)
  rec (l6, w64 (y5 + 1), w64 (x5 + 1))
  else none
  else none
  else none
  else
  some (x0, x1)
noncomputable def laws_markFileS.f (p0 : List (List UInt8 × List UInt8 × Int)) (p1 : Int) : Option (Int × List (List UInt8 × List UInt8 × Int)) :=
  (lp laws_markFileS.l0 (p0, p1, 0)).bind (fun (x0, x1) =>
  some (x1, x0))

noncomputable def laws_markDisk.f (p0 : List (List UInt8 × List UInt8 × Int) × Int × Int × Bool) (p1 : Int) : Option (Int × List (List UInt8 × List UInt8 × Int) × Int × Int × Bool) :=
  (laws_markFileS.f p0.1 p1).bind fun (t1_0, t1_1) =>
  some (t1_0, (t1_1, p0.2))

noncomputable def laws_heldFileS.l0 (rec : (List (List UInt8 × List UInt8 × Int) × Int × Int) → Option ((Int) ⊕ (Int))) : (List (List UInt8 × List UInt8 × Int) × Int × Int) → Option ((Int) ⊕ (Int)) := fun (x0, x1, x5) =>
  bif decide (x5 < (x0.length : Int)) then
  bif inB x5 x0.length then
  (laws_markText.f x1).bind fun t1 =>
  bif !(((rdA ([], [], 0) x0 x5).1) == t1) then
  some (Sum.inr (-1))
  else
  bif inB x5 x0.length then
  (laws_markText.f (w64 (x1 + 1))).bind fun t2 =>
  bif !((((rdA ([], [], 0) x0 x5).2).1) == t2) then
  some (Sum.inr (-1))
  else
  let y3 := w64 ((w64 (x1 + 1)) + 1)
  bif inB x5 x0.length then
  bif (((rdA ([], [], 0) x0 x5).2).2) != y3 then
  some (Sum.inr (-1))
  else
  rec (x0, w64 (y3 + 1), w64 (x5 + 1))
  else none
  else none
  else none
  else
  some (Sum.inl x1)
noncomputable def laws_heldFileS.f (p0 : List (List UInt8 × List UInt8 × Int)) (p1 : Int) : Option (Int) :=
  (lp laws_heldFileS.l0 (p0, p1, 0)).bind (fun o4 => caseS o4 (fun x1 =>
  some x1) (fun x4 =>
  some x4))

noncomputable def laws_heldDisk.f (p0 : List (List UInt8 × List UInt8 × Int) × Int × Int × Bool) (p1 : Int) : Option (Int) :=
  (laws_heldFileS.f p0.1 p1).bind fun t1 =>
  bif decide (t1 < 0) then
  some (-1)
  else
  some t1

noncomputable def laws_FnExactDropHints.f (p0 : List (List UInt8 × List UInt8 × Int) × Int × Int × Bool) : Option (Bool) :=
  (laws_szDisk.f p0 1048576).bind fun t1 =>
  bif decide (t1 < 0) then
  some true
  else
  (laws_toDisk.f p0).bind fun t2 =>
  (spec_DropHints.f t2).bind fun t3 =>
  (laws_toDisk.f p0).bind fun t4 =>
  (impl_DropHints.f t4).bind fun t5 =>
  (laws_eqDisk.f t5 t3).bind fun t6 =>
  bif !t6 then
  some false
  else
  (laws_toDisk.f p0).bind fun t7 =>
  (laws_eqDisk.f t4 t7).bind fun t8 =>
  bif !t8 then
  some false
  else
  (laws_markDisk.f t4 1).bind fun (t9_0, t9_1) =>
  bif decide (t9_0 < 0) then
  some false
  else
  (laws_eqDisk.f t5 t3).bind fun t10 =>
  bif !t10 then
  some false
  else
  (laws_markDisk.f t5 1).bind fun (t11_0, t11_1) =>
  (laws_heldDisk.f (t11_1.1, t5.2) 1).bind fun t12 =>
  bif decide (t12 < 0) then
  some false
  else
  bif t12 != t11_0 then
  some false
  else
  (laws_toDisk.f p0).bind fun t13 =>
  (impl_DropHints.f t13).bind fun t14 =>
  (laws_eqDisk.f t14 t3).bind fun t15 =>
  bif !t15 then
  some false
  else
  (laws_heldDisk.f (t11_1.1, t5.2) 1).bind fun t16 =>
  bif decide (t16 < 0) then
  some false
  else
  bif t16 != t11_0 then
  some false
  else
  some true

noncomputable def impl_net.l2 (rec : (List (List UInt8 × Bool × List UInt8) × (List UInt8 × Bool × List UInt8) × Int × List (List UInt8 × Bool × List UInt8) × Int × Int × Int × Int) → Option (List (List UInt8 × Bool × List UInt8) × (List UInt8 × Bool × List UInt8) × Int × List (List UInt8 × Bool × List UInt8) × Int × Int)) : (List (List UInt8 × Bool × List UInt8) × (List UInt8 × Bool × List UInt8) × Int × List (List UInt8 × Bool × List UInt8) × Int × Int × Int × Int) → Option (List (List UInt8 × Bool × List UInt8) × (List UInt8 × Bool × List UInt8) × Int × List (List UInt8 × Bool × List UInt8) × Int × Int) := fun (x3, x5, x6, x9, x10, x11, x16, x17) =>
  bif decide (x17 < x16) then
  bif inB x17 x3.length then
  let y4 := (rdA ([], false, []) x3 x17).1
  let y5 := ((rdA ([], false, []) x3 x17).2).1
  let y6 := ((rdA ([], false, []) x3 x17).2).2
  (bif y4 == x5.1 then
  some (x3, x5, x17, x9, x10, x11, x16, x17)
  else
  some (x3, x5, x6, x9, x10, x11, x16, x17) : Option (List (List UInt8 × Bool × List UInt8) × (List UInt8 × Bool × List UInt8) × Int × List (List UInt8 × Bool × List UInt8) × Int × Int × Int × Int)).bind (fun (x3, x5, x6, x9, x10, x11, x16, x17) =>
  rec (x3, x5, x6, x9, x10, x11, x16, w64 (x17 + 1)))
  else none
  else
  some (x3, x5, x6, x9, x10, x11)
noncomputable def impl_net.l0 (rec : (List (List UInt8 × Bool × List UInt8) × List (List UInt8 × Bool × List UInt8) × Int × Int) → Option (List (List UInt8 × Bool × List UInt8))) : (List (List UInt8 × Bool × List UInt8) × List (List UInt8 × Bool × List UInt8) × Int × Int) → Option (List (List UInt8 × Bool × List UInt8)) := fun (x3, x9, x10, x11) =>
  bif decide (x11 < x10) then
  bif inB x11 x9.length then
  let y1 := (rdA ([], false, []) x9 x11).1
  let y2 := ((rdA ([], false, []) x9 x11).2).1
  let y3 := ((rdA ([], false, []) x9 x11).2).2
  (lp impl_net.l2 (x3, (y1, y2, y3), (-1), x9, x10, x11, (x3.length : Int), 0)).bind (fun (x3, x5, x6, x9, x10, x11) =>
  (bif decide (x6 ≥ 0) then
  bif inB x6 x3.length then
  let l7 := x3.set x6.toNat x5
  some (l7, x9, x10, x11)
  else none
  else
  bif decide ((x3.length + [x5].length) * 40 ≤ 140737488355328) then
  some (x3 ++ [x5], x9, x10, x11)
  else none : Option (List (List UInt8 × Bool × List UInt8) × List (List UInt8 × Bool × List UInt8) × Int × Int)).bind (fun (x3, x9, x10, x11) =>
  rec (x3, x9, x10, w64 (x11 + 1))))
  else none
  else
  some x3
noncomputable def impl_net.f (p0 : List (List UInt8 × Bool × List UInt8)) : Option (List (List UInt8 × Bool × List UInt8)) :=
  (lp impl_net.l0 ([], p0, (p0.length : Int), 0)).bind (fun x3 =>
  some x3)

noncomputable def impl_NetWrites.f (p0 : Bool × List (List UInt8 × Int) × List (List UInt8 × Bool × List UInt8)) : Option (List (List UInt8 × Bool × List UInt8)) :=
  (impl_net.f p0.2.2).bind fun t1 =>
  some t1

noncomputable def laws_markReadRowS.l0 (rec : (List (List UInt8 × Int) × Int × Int) → Option (List (List UInt8 × Int) × Int)) : (List (List UInt8 × Int) × Int × Int) → Option (List (List UInt8 × Int) × Int) := fun (x0, x1, x5) =>
  bif decide (x5 < (x0.length : Int)) then
  (laws_markText.f x1).bind fun t1 =>
  bif inB x5 x0.length then
  let l2 := x0.set x5.toNat (t1, (rdA ([], 0) x0 x5).2)
  bif inB x5 l2.length then
  let l3 := l2.set x5.toNat ((rdA ([], 0) l2 x5).1, w64 (x1 + 1))
  let y4 := w64 ((w64 (x1 + 1)) + 1)
  rec (l3, y4, w64 (x5 + 1))
  else none
  else none
  else
  some (x0, x1)
noncomputable def laws_markReadRowS.f (p0 : List (List UInt8 × Int)) (p1 : Int) : Option (Int × List (List UInt8 × Int)) :=
  (lp laws_markReadRowS.l0 (p0, p1, 0)).bind (fun (x0, x1) =>
  some (x1, x0))

noncomputable def laws_markTxn.f (p0 : Bool × List (List UInt8 × Int) × List (List UInt8 × Bool × List UInt8)) (p1 : Int) : Option (Int × Bool × List (List UInt8 × Int) × List (List UInt8 × Bool × List UInt8)) :=
  (laws_markReadRowS.f p0.2.1 p1).bind fun (t1_0, t1_1) =>
  (laws_markPutS.f p0.2.2 t1_0).bind fun (t2_0, t2_1) =>
  some (t2_0, (p0.1, t1_1, t2_1))

noncomputable def laws_heldPutS.l0 (rec : (List (List UInt8 × Bool × List UInt8) × Int × Int) → Option ((Int) ⊕ (Int))) : (List (List UInt8 × Bool × List UInt8) × Int × Int) → Option ((Int) ⊕ (Int)) := fun (x0, x1, x5) =>
  bif decide (x5 < (x0.length : Int)) then
  bif inB x5 x0.length then
  (laws_markText.f x1).bind fun t1 =>
  bif !(((rdA ([], false, []) x0 x5).1) == t1) then
  some (Sum.inr (-1))
  else
  bif inB x5 x0.length then
  bif !((((rdA ([], false, []) x0 x5).2).1) == ((Int.tmod (w64 (x1 + 1)) 3) == 0)) then
  some (Sum.inr (-1))
  else
  let y2 := w64 ((w64 (x1 + 1)) + 1)
  bif inB x5 x0.length then
  (laws_markText.f y2).bind fun t3 =>
  bif !((((rdA ([], false, []) x0 x5).2).2) == t3) then
  some (Sum.inr (-1))
  else
  rec (x0, w64 (y2 + 1), w64 (x5 + 1))
  else none
  else none
  else none
  else
  some (Sum.inl x1)
noncomputable def laws_heldPutS.f (p0 : List (List UInt8 × Bool × List UInt8)) (p1 : Int) : Option (Int) :=
  (lp laws_heldPutS.l0 (p0, p1, 0)).bind (fun o4 => caseS o4 (fun x1 =>
  some x1) (fun x4 =>
  some x4))

noncomputable def laws_FnExactNetWrites.f (p0 : Bool × List (List UInt8 × Int) × List (List UInt8 × Bool × List UInt8)) : Option (Bool) :=
  (laws_szTxn.f p0 1048576).bind fun t1 =>
  bif decide (t1 < 0) then
  some true
  else
  (laws_toTxn.f p0).bind fun t2 =>
  (spec_NetWrites.f t2).bind fun t3 =>
  (laws_toTxn.f p0).bind fun t4 =>
  (impl_NetWrites.f t4).bind fun t5 =>
  (laws_eqPutS.f t5 t3).bind fun t6 =>
  bif !t6 then
  some false
  else
  (laws_toTxn.f p0).bind fun t7 =>
  (laws_eqTxn.f t4 t7).bind fun t8 =>
  bif !t8 then
  some false
  else
  (laws_markTxn.f t4 1).bind fun (t9_0, t9_1) =>
  bif decide (t9_0 < 0) then
  some false
  else
  (laws_eqPutS.f t5 t3).bind fun t10 =>
  bif !t10 then
  some false
  else
  (laws_markPutS.f t5 1).bind fun (t11_0, t11_1) =>
  (laws_heldPutS.f t11_1 1).bind fun t12 =>
  bif decide (t12 < 0) then
  some false
  else
  bif t12 != t11_0 then
  some false
  else
  (laws_toTxn.f p0).bind fun t13 =>
  (impl_NetWrites.f t13).bind fun t14 =>
  (laws_eqPutS.f t14 t3).bind fun t15 =>
  bif !t15 then
  some false
  else
  (laws_heldPutS.f t11_1 1).bind fun t16 =>
  bif decide (t16 < 0) then
  some false
  else
  bif t16 != t11_0 then
  some false
  else
  some true

noncomputable def laws_eqTxnS.l0 (rec : (List (Bool × List (List UInt8 × Int) × List (List UInt8 × Bool × List UInt8)) × List (Bool × List (List UInt8 × Int) × List (List UInt8 × Bool × List UInt8)) × Int) → Option ((Unit) ⊕ (Bool))) : (List (Bool × List (List UInt8 × Int) × List (List UInt8 × Bool × List UInt8)) × List (Bool × List (List UInt8 × Int) × List (List UInt8 × Bool × List UInt8)) × Int) → Option ((Unit) ⊕ (Bool)) := fun (x0, x1, x5) =>
  bif decide (x5 < (x0.length : Int)) then
  bif inB x5 x0.length then
  bif inB x5 x1.length then
  (laws_eqTxn.f ((rdA (false, [], []) x0 x5).1, ((rdA (false, [], []) x0 x5).2)) ((rdA (false, [], []) x1 x5).1, ((rdA (false, [], []) x1 x5).2))).bind fun t1 =>
  bif !t1 then
  some (Sum.inr false)
  else
  rec (x0, x1, w64 (x5 + 1))
  else none
  else none
  else
  some (Sum.inl ())
noncomputable def laws_eqTxnS.f (p0 : List (Bool × List (List UInt8 × Int) × List (List UInt8 × Bool × List UInt8))) (p1 : List (Bool × List (List UInt8 × Int) × List (List UInt8 × Bool × List UInt8))) : Option (Bool) :=
  bif (p0.length : Int) != (p1.length : Int) then
  some false
  else
  (lp laws_eqTxnS.l0 (p0, p1, 0)).bind (fun o2 => caseS o2 (fun _ =>
  some true) (fun x4 =>
  some x4))

noncomputable def laws_eqModel.f (p0 : Bool × List (List UInt8 × List UInt8 × Int) × Int × List (Bool × List (List UInt8 × Int) × List (List UInt8 × Bool × List UInt8))) (p1 : Bool × List (List UInt8 × List UInt8 × Int) × Int × List (Bool × List (List UInt8 × Int) × List (List UInt8 × Bool × List UInt8))) : Option (Bool) :=
  bif !(p0.1 == p1.1) then
  some false
  else
  (laws_eqPairS.f p0.2.1 p1.2.1).bind fun t1 =>
  bif !t1 then
  some false
  else
  bif p0.2.2.1 != p1.2.2.1 then
  some false
  else
  (laws_eqTxnS.f p0.2.2.2 p1.2.2.2).bind fun t2 =>
  bif !t2 then
  some false
  else
  some true

noncomputable def laws_heldReadRowS.l0 (rec : (List (List UInt8 × Int) × Int × Int) → Option ((Int) ⊕ (Int))) : (List (List UInt8 × Int) × Int × Int) → Option ((Int) ⊕ (Int)) := fun (x0, x1, x5) =>
  bif decide (x5 < (x0.length : Int)) then
  bif inB x5 x0.length then
  (laws_markText.f x1).bind fun t1 =>
  bif !(((rdA ([], 0) x0 x5).1) == t1) then
  some (Sum.inr (-1))
  else
  bif inB x5 x0.length then
  bif ((rdA ([], 0) x0 x5).2) != (w64 (x1 + 1)) then
  some (Sum.inr (-1))
  else
  let y2 := w64 ((w64 (x1 + 1)) + 1)
  rec (x0, y2, w64 (x5 + 1))
  else none
  else none
  else
  some (Sum.inl x1)
noncomputable def laws_heldReadRowS.f (p0 : List (List UInt8 × Int)) (p1 : Int) : Option (Int) :=
  (lp laws_heldReadRowS.l0 (p0, p1, 0)).bind (fun o3 => caseS o3 (fun x1 =>
  some x1) (fun x4 =>
  some x4))

noncomputable def laws_szEntry.f (p0 : List UInt8 × Int × Int × Int × Int) (p1 : Int) : Option (Int) :=
  let y1 := w64 (p1 - (p0.1.length : Int))
  bif decide (y1 < 0) then
  some (-1)
  else
  some y1

noncomputable def laws_szEntryS.l0 (rec : (List (List UInt8 × Int × Int × Int × Int) × Int × Int) → Option ((Int) ⊕ (Int))) : (List (List UInt8 × Int × Int × Int × Int) × Int × Int) → Option ((Int) ⊕ (Int)) := fun (x0, x1, x5) =>
  bif decide (x5 < (x0.length : Int)) then
  bif inB x5 x0.length then
  (laws_szEntry.f ((rdA ([], 0, 0, 0, 0) x0 x5).1, ((rdA ([], 0, 0, 0, 0) x0 x5).2).1, (((rdA ([], 0, 0, 0, 0) x0 x5).2).2).1, ((((rdA ([], 0, 0, 0, 0) x0 x5).2).2).2)) x1).bind fun t2 =>
  bif decide (t2 < 0) then
  some (Sum.inr (-1))
  else
  rec (x0, t2, w64 (x5 + 1))
  else none
  else
  some (Sum.inl x1)
noncomputable def laws_szEntryS.f (p0 : List (List UInt8 × Int × Int × Int × Int)) (p1 : Int) : Option (Int) :=
  let y1 := w64 (p1 - (p0.length : Int))
  bif decide (y1 < 0) then
  some (-1)
  else
  (lp laws_szEntryS.l0 (p0, y1, 0)).bind (fun o3 => caseS o3 (fun x1 =>
  some x1) (fun x4 =>
  some x4))

noncomputable def spec_DirGet.l0 (rec : (List (List UInt8 × Int × Int × Int × Int) × List UInt8 × (List UInt8 × Int × Int × Int × Int) × Int) → Option ((List UInt8 × Int × Int × Int × Int) ⊕ ((List UInt8 × Int × Int × Int × Int) × Bool))) : (List (List UInt8 × Int × Int × Int × Int) × List UInt8 × (List UInt8 × Int × Int × Int × Int) × Int) → Option ((List UInt8 × Int × Int × Int × Int) ⊕ ((List UInt8 × Int × Int × Int × Int) × Bool)) := fun (x0, x1, x4, x6) =>
  bif decide (x6 < (x0.length : Int)) then
  bif inB x6 x0.length then
  bif ((rdA ([], 0, 0, 0, 0) x0 x6).1) == x1 then
  bif inB x6 x0.length then
  let y1 := (rdA ([], 0, 0, 0, 0) x0 x6).1
  let y2 := ((rdA ([], 0, 0, 0, 0) x0 x6).2).1
  let y3 := (((rdA ([], 0, 0, 0, 0) x0 x6).2).2).1
  let y4 := ((((rdA ([], 0, 0, 0, 0) x0 x6).2).2).2).1
  let y5 := ((((rdA ([], 0, 0, 0, 0) x0 x6).2).2).2).2
  some (Sum.inr ((y1, y2, y3, y4, y5), true))
  else none
  else
  rec (x0, x1, x4, w64 (x6 + 1))
  else none
  else
  some (Sum.inl x4)
noncomputable def spec_DirGet.f (p0 : List (List UInt8 × Int × Int × Int × Int)) (p1 : List UInt8) : Option ((List UInt8 × Int × Int × Int × Int) × Bool) :=
  (lp spec_DirGet.l0 (p0, p1, ([], 0, 0, 0, 0), 0)).bind (fun o6 => caseS o6 (fun x4 =>
  some (([], 0, 0, 0, 0), false)) (fun (x4, x5) =>
  some (x4, x5)))

noncomputable def spec_Valid.l0 (rec : (List (List UInt8 × Int × Int × Int × Int) × (Bool × List (List UInt8 × Int) × List (List UInt8 × Bool × List UInt8)) × Int) → Option ((Unit) ⊕ (Bool))) : (List (List UInt8 × Int × Int × Int × Int) × (Bool × List (List UInt8 × Int) × List (List UInt8 × Bool × List UInt8)) × Int) → Option ((Unit) ⊕ (Bool)) := fun (x1, x2, x5) =>
  bif decide (x5 < (x2.2.1.length : Int)) then
  bif inB x5 x2.2.1.length then
  (spec_DirGet.f x1 ((rdA ([], 0) x2.2.1 x5).1)).bind fun (t1_0, t1_1) =>
  bif inB x5 x2.2.1.length then
  bif t1_0.2.2.2.2 != ((rdA ([], 0) x2.2.1 x5).2) then
  some (Sum.inr false)
  else
  rec (x1, x2, w64 (x5 + 1))
  else none
  else none
  else
  some (Sum.inl ())
noncomputable def spec_Valid.f (p0 : Bool × List (List UInt8 × Int) × List (List UInt8 × Bool × List UInt8)) (p1 : List (List UInt8 × Int × Int × Int × Int)) : Option (Bool) :=
  (lp spec_Valid.l0 (p1, p0, 0)).bind (fun o2 => caseS o2 (fun _ =>
  some true) (fun x4 =>
  some x4))

noncomputable def laws_toEntry.f (p0 : List UInt8 × Int × Int × Int × Int) : Option (List UInt8 × Int × Int × Int × Int) :=
  some p0

noncomputable def laws_toEntryS.l0 (rec : (List (List UInt8 × Int × Int × Int × Int) × List (List UInt8 × Int × Int × Int × Int) × Int) → Option (List (List UInt8 × Int × Int × Int × Int))) : (List (List UInt8 × Int × Int × Int × Int) × List (List UInt8 × Int × Int × Int × Int) × Int) → Option (List (List UInt8 × Int × Int × Int × Int)) := fun (x0, x3, x4) =>
  bif decide (x4 < (x0.length : Int)) then
  bif inB x4 x0.length then
  (laws_toEntry.f ((rdA ([], 0, 0, 0, 0) x0 x4).1, ((rdA ([], 0, 0, 0, 0) x0 x4).2).1, (((rdA ([], 0, 0, 0, 0) x0 x4).2).2).1, ((((rdA ([], 0, 0, 0, 0) x0 x4).2).2).2))).bind fun t2 =>
  bif inB x4 x3.length then
  let l3 := x3.set x4.toNat t2
  rec (x0, l3, w64 (x4 + 1))
  else none
  else none
  else
  some x3
noncomputable def laws_toEntryS.f (p0 : List (List UInt8 × Int × Int × Int × Int)) : Option (List (List UInt8 × Int × Int × Int × Int)) :=
  bif ((p0.length : Int) == (p0.length : Int)) then
  bif (decide (0 ≤ (p0.length : Int)) && decide (48 * (p0.length : Int) ≤ 140737488355328)) then
  let l1 := List.replicate (p0.length : Int).toNat ([], 0, 0, 0, 0)
  (lp laws_toEntryS.l0 (p0, l1, 0)).bind (fun x3 =>
  some x3)
  else none
  else none

noncomputable def impl_DirGet.l0 (rec : (List UInt8 × (List UInt8 × Int × Int × Int × Int) × List (List UInt8 × Int × Int × Int × Int) × Int × Int) → Option ((List UInt8 × Int × Int × Int × Int) ⊕ ((List UInt8 × Int × Int × Int × Int) × Bool))) : (List UInt8 × (List UInt8 × Int × Int × Int × Int) × List (List UInt8 × Int × Int × Int × Int) × Int × Int) → Option ((List UInt8 × Int × Int × Int × Int) ⊕ ((List UInt8 × Int × Int × Int × Int) × Bool)) := fun (x1, x4, x8, x9, x10) =>
  bif decide (x10 < x9) then
  bif inB x10 x8.length then
  let y1 := (rdA ([], 0, 0, 0, 0) x8 x10).1
  let y2 := ((rdA ([], 0, 0, 0, 0) x8 x10).2).1
  let y3 := (((rdA ([], 0, 0, 0, 0) x8 x10).2).2).1
  let y4 := ((((rdA ([], 0, 0, 0, 0) x8 x10).2).2).2).1
  let y5 := ((((rdA ([], 0, 0, 0, 0) x8 x10).2).2).2).2
  bif y1 == x1 then
  some (Sum.inr ((y1, y2, y3, y4, y5), true))
  else
  rec (x1, x4, x8, x9, w64 (x10 + 1))
  else none
  else
  some (Sum.inl x4)
noncomputable def impl_DirGet.f (p0 : List (List UInt8 × Int × Int × Int × Int)) (p1 : List UInt8) : Option ((List UInt8 × Int × Int × Int × Int) × Bool) :=
  (lp impl_DirGet.l0 (p1, ([], 0, 0, 0, 0), p0, (p0.length : Int), 0)).bind (fun o6 => caseS o6 (fun x4 =>
  some (([], 0, 0, 0, 0), false)) (fun (x4, x5) =>
  some (x4, x5)))

noncomputable def impl_Valid.l0 (rec : (List (List UInt8 × Int × Int × Int × Int) × List (List UInt8 × Int) × Int × Int) → Option ((Unit) ⊕ (Bool))) : (List (List UInt8 × Int × Int × Int × Int) × List (List UInt8 × Int) × Int × Int) → Option ((Unit) ⊕ (Bool)) := fun (x1, x10, x11, x12) =>
  bif decide (x12 < x11) then
  bif inB x12 x10.length then
  let y1 := (rdA ([], 0) x10 x12).1
  let y2 := (rdA ([], 0) x10 x12).2
  (impl_DirGet.f x1 y1).bind fun (t3_0, t3_1) =>
  bif t3_0.2.2.2.2 != y2 then
  some (Sum.inr false)
  else
  rec (x1, x10, x11, w64 (x12 + 1))
  else none
  else
  some (Sum.inl ())
noncomputable def impl_Valid.f (p0 : Bool × List (List UInt8 × Int) × List (List UInt8 × Bool × List UInt8)) (p1 : List (List UInt8 × Int × Int × Int × Int)) : Option (Bool) :=
  (lp impl_Valid.l0 (p1, p0.2.1, (p0.2.1.length : Int), 0)).bind (fun o4 => caseS o4 (fun _ =>
  some true) (fun x4 =>
  some x4))

noncomputable def laws_eqEntry.f (p0 : List UInt8 × Int × Int × Int × Int) (p1 : List UInt8 × Int × Int × Int × Int) : Option (Bool) :=
  bif !(p0.1 == p1.1) then
  some false
  else
  bif p0.2.1 != p1.2.1 then
  some false
  else
  bif p0.2.2.1 != p1.2.2.1 then
  some false
  else
  bif p0.2.2.2.1 != p1.2.2.2.1 then
  some false
  else
  bif p0.2.2.2.2 != p1.2.2.2.2 then
  some false
  else
  some true

noncomputable def laws_eqEntryS.l0 (rec : (List (List UInt8 × Int × Int × Int × Int) × List (List UInt8 × Int × Int × Int × Int) × Int) → Option ((Unit) ⊕ (Bool))) : (List (List UInt8 × Int × Int × Int × Int) × List (List UInt8 × Int × Int × Int × Int) × Int) → Option ((Unit) ⊕ (Bool)) := fun (x0, x1, x5) =>
  bif decide (x5 < (x0.length : Int)) then
  bif inB x5 x0.length then
  bif inB x5 x1.length then
  (laws_eqEntry.f ((rdA ([], 0, 0, 0, 0) x0 x5).1, ((rdA ([], 0, 0, 0, 0) x0 x5).2).1, (((rdA ([], 0, 0, 0, 0) x0 x5).2).2).1, ((((rdA ([], 0, 0, 0, 0) x0 x5).2).2).2)) ((rdA ([], 0, 0, 0, 0) x1 x5).1, ((rdA ([], 0, 0, 0, 0) x1 x5).2).1, (((rdA ([], 0, 0, 0, 0) x1 x5).2).2).1, ((((rdA ([], 0, 0, 0, 0) x1 x5).2).2).2))).bind fun t1 =>
  bif !t1 then
  some (Sum.inr false)
  else
  rec (x0, x1, w64 (x5 + 1))
  else none
  else none
  else
  some (Sum.inl ())
noncomputable def laws_eqEntryS.f (p0 : List (List UInt8 × Int × Int × Int × Int)) (p1 : List (List UInt8 × Int × Int × Int × Int)) : Option (Bool) :=
  bif (p0.length : Int) != (p1.length : Int) then
  some false
  else
  (lp laws_eqEntryS.l0 (p0, p1, 0)).bind (fun o2 => caseS o2 (fun _ =>
  some true) (fun x4 =>
  some x4))

noncomputable def laws_FnExactValid.f (p0 : Bool × List (List UInt8 × Int) × List (List UInt8 × Bool × List UInt8)) (p1 : List (List UInt8 × Int × Int × Int × Int)) : Option (Bool) :=
  (laws_szTxn.f p0 1048576).bind fun t1 =>
  bif decide (t1 < 0) then
  some true
  else
  (laws_szEntryS.f p1 t1).bind fun t2 =>
  bif decide (t2 < 0) then
  some true
  else
  (laws_toTxn.f p0).bind fun t3 =>
  (laws_toEntryS.f p1).bind fun t4 =>
  (spec_Valid.f t3 t4).bind fun t5 =>
  (laws_toTxn.f p0).bind fun t6 =>
  (laws_toEntryS.f p1).bind fun t7 =>
  (impl_Valid.f t6 t7).bind fun t8 =>
  bif !(t8 == t5) then
  some false
  else
  (laws_toTxn.f p0).bind fun t9 =>
  (laws_eqTxn.f t6 t9).bind fun t10 =>
  bif !t10 then
  some false
  else
  (laws_toEntryS.f p1).bind fun t11 =>
  (laws_eqEntryS.f t7 t11).bind fun t12 =>
  bif !t12 then
  some false
  else
  some true

noncomputable def spec_l3Begin.f (p0 : List (List UInt8 × List UInt8 × Int) × Int × Int × Bool) : Option ((List (List UInt8 × List UInt8 × Int) × Int × Int × Bool) × Int) :=
  (spec_l3Copy.f p0).bind fun t1 =>
  (spec_DiskOk.f p0).bind fun t2 =>
  bif !t2 then
  some (t1, 5)
  else
  bif p0.2.2.2 then
  some ((t1.1, t1.2.1, t1.2.2.1, true), 1)
  else
  bif p0.2.2.1 == 0 then
  some ((t1.1, t1.2.1, t1.2.2.1, true), 1)
  else
  bif decide (p0.2.2.1 > 0) then
  let y3 := w64 (p0.2.2.1 - 1)
  some ((t1.1, t1.2.1, y3, t1.2.2.2), 0)
  else
  some (t1, 0)

noncomputable def spec_l3Find.l0 (rec : (List UInt8 × (List (List UInt8 × List UInt8 × Int) × Int × Int × Bool) × Int) → Option ((Unit) ⊕ (Int))) : (List UInt8 × (List (List UInt8 × List UInt8 × Int) × Int × Int × Bool) × Int) → Option ((Unit) ⊕ (Int)) := fun (x1, x2, x5) =>
  bif decide (x5 < (x2.1.length : Int)) then
  bif inB x5 x2.1.length then
  bif ((rdA ([], [], 0) x2.1 x5).1) == x1 then
  some (Sum.inr x5)
  else
  rec (x1, x2, w64 (x5 + 1))
  else none
  else
  some (Sum.inl ())
noncomputable def spec_l3Find.f (p0 : List (List UInt8 × List UInt8 × Int) × Int × Int × Bool) (p1 : List UInt8) : Option (Int) :=
  (lp spec_l3Find.l0 (p1, p0, 0)).bind (fun o1 => caseS o1 (fun _ =>
  some (-1)) (fun x4 =>
  some x4))

noncomputable def spec_Sync.f (p0 : List (List UInt8 × List UInt8 × Int) × Int × Int × Bool) (p1 : List UInt8) : Option ((List (List UInt8 × List UInt8 × Int) × Int × Int × Bool) × Int) :=
  (spec_l3Begin.f p0).bind fun (t1_0, t1_1) =>
  bif t1_1 != 0 then
  some (t1_0, t1_1)
  else
  (spec_l3Find.f p0 p1).bind fun t2 =>
  bif decide (t2 < 0) then
  some (t1_0, 3)
  else
  bif inB t2 p0.1.length then
  bif inB t2 t1_0.1.length then
  let l3 := t1_0.1.set t2.toNat ((rdA ([], [], 0) t1_0.1 t2).1, ((rdA ([], [], 0) t1_0.1 t2).2).1, ((((rdA ([], [], 0) p0.1 t2).2).1).length : Int))
  some ((l3, t1_0.2), 0)
  else none
  else none

noncomputable def impl_fileAt.l0 (rec : (List UInt8 × List (List UInt8 × List UInt8 × Int) × Int × Int) → Option ((Unit) ⊕ (Int))) : (List UInt8 × List (List UInt8 × List UInt8 × Int) × Int × Int) → Option ((Unit) ⊕ (Int)) := fun (x1, x8, x9, x10) =>
  bif decide (x10 < x9) then
  bif inB x10 x8.length then
  let y1 := (rdA ([], [], 0) x8 x10).1
  let y2 := ((rdA ([], [], 0) x8 x10).2).1
  let y3 := ((rdA ([], [], 0) x8 x10).2).2
  bif y1 == x1 then
  some (Sum.inr x10)
  else
  rec (x1, x8, x9, w64 (x10 + 1))
  else none
  else
  some (Sum.inl ())
noncomputable def impl_fileAt.f (p0 : List (List UInt8 × List UInt8 × Int) × Int × Int × Bool) (p1 : List UInt8) : Option (Int) :=
  (lp impl_fileAt.l0 (p1, p0.1, (p0.1.length : Int), 0)).bind (fun o4 => caseS o4 (fun _ =>
  some (-1)) (fun x4 =>
  some x4))

noncomputable def impl_Sync_1.f (p0 : List (List UInt8 × List UInt8 × Int) × Int × Int × Bool) (p1 : List UInt8) : Option (Int × List (List UInt8 × List UInt8 × Int) × Int × Int × Bool) :=
  (impl_fileAt.f p0 p1).bind fun t1 =>
  bif decide (t1 < 0) then
  some (3, p0)
  else
  bif inB t1 p0.1.length then
  bif inB t1 p0.1.length then
  let l2 := p0.1.set t1.toNat ((rdA ([], [], 0) p0.1 t1).1, ((rdA ([], [], 0) p0.1 t1).2).1, ((((rdA ([], [], 0) p0.1 t1).2).1).length : Int))
  some (0, (l2, p0.2))
  else none
  else none

noncomputable def impl_step_Sync_1.f (p0 : List (List UInt8 × List UInt8 × Int) × Int × Int × Bool) (p1 : List UInt8) : Option ((List (List UInt8 × List UInt8 × Int) × Int × Int × Bool) × Int) :=
  (impl_copyDisk.f p0).bind fun t1 =>
  (impl_DiskOk.f p0).bind fun t2 =>
  bif !t2 then
  some (t1, 5)
  else
  bif p0.2.2.2 then
  some ((t1.1, t1.2.1, t1.2.2.1, true), 1)
  else
  bif p0.2.2.1 == 0 then
  some ((t1.1, t1.2.1, t1.2.2.1, true), 1)
  else
  (bif decide (p0.2.2.1 > 0) then
  let y3 := w64 (t1.2.2.1 - 1)
  some (p1, ([], 0, 0, false), (t1.1, t1.2.1, y3, t1.2.2.2))
  else
  some (p1, ([], 0, 0, false), t1) : Option (List UInt8 × (List (List UInt8 × List UInt8 × Int) × Int × Int × Bool) × List (List UInt8 × List UInt8 × Int) × Int × Int × Bool)).bind (fun (x1, x4, x6) =>
  (impl_Sync_1.f x6 x1).bind fun (t4_0, t4_1) =>
  some (t4_1, t4_0))

noncomputable def impl_Disk_drop.f (p0 : List (List UInt8 × List UInt8 × Int) × Int × Int × Bool) (p1 : List UInt8) : Option (List (List UInt8 × List UInt8 × Int) × Int × Int × Bool) :=
  (impl_fileAt.f p0 p1).bind fun t1 =>
  bif decide (t1 ≥ 0) then
  bif (decide (0 ≤ t1) && decide (t1 ≤ (p0.1.length : Int))) then
  bif decide ((([] : List (List UInt8 × List UInt8 × Int)).length + (p0.1.take t1.toNat).length) * 40 ≤ 140737488355328) then
  bif (decide (0 ≤ w64 (t1 + 1)) && decide (w64 (t1 + 1) ≤ (p0.1.length : Int))) then
  bif decide (((([] : List (List UInt8 × List UInt8 × Int)) ++ (p0.1.take t1.toNat)).length + (p0.1.drop ((w64 (t1 + 1)).toNat)).length) * 40 ≤ 140737488355328) then
  let l2 := (([] : List (List UInt8 × List UInt8 × Int)) ++ (p0.1.take t1.toNat)) ++ (p0.1.drop ((w64 (t1 + 1)).toNat))
  some (l2, p0.2)
  else none
  else none
  else none
  else none
  else
  some p0

noncomputable def impl_Remove_1.f (p0 : List (List UInt8 × List UInt8 × Int) × Int × Int × Bool) (p1 : List UInt8) : Option (Int × List (List UInt8 × List UInt8 × Int) × Int × Int × Bool) :=
  (impl_fileAt.f p0 p1).bind fun t1 =>
  bif decide (t1 < 0) then
  some (3, p0)
  else
  (impl_Disk_drop.f p0 p1).bind fun t2 =>
  some (0, t2)

noncomputable def impl_step_Remove_1.f (p0 : List (List UInt8 × List UInt8 × Int) × Int × Int × Bool) (p1 : List UInt8) : Option ((List (List UInt8 × List UInt8 × Int) × Int × Int × Bool) × Int) :=
  (impl_copyDisk.f p0).bind fun t1 =>
  (impl_DiskOk.f p0).bind fun t2 =>
  bif !t2 then
  some (t1, 5)
  else
  bif p0.2.2.2 then
  some ((t1.1, t1.2.1, t1.2.2.1, true), 1)
  else
  bif p0.2.2.1 == 0 then
  some ((t1.1, t1.2.1, t1.2.2.1, true), 1)
  else
  (bif decide (p0.2.2.1 > 0) then
  let y3 := w64 (t1.2.2.1 - 1)
  some (p1, ([], 0, 0, false), (t1.1, t1.2.1, y3, t1.2.2.2))
  else
  some (p1, ([], 0, 0, false), t1) : Option (List UInt8 × (List (List UInt8 × List UInt8 × Int) × Int × Int × Bool) × List (List UInt8 × List UInt8 × Int) × Int × Int × Bool)).bind (fun (x1, x4, x6) =>
  (impl_Remove_1.f x6 x1).bind fun (t4_0, t4_1) =>
  some (t4_1, t4_0))

noncomputable def impl_Truncate_1.f (p0 : List (List UInt8 × List UInt8 × Int) × Int × Int × Bool) (p1 : List UInt8) (p2 : Int) : Option (Int × List (List UInt8 × List UInt8 × Int) × Int × Int × Bool) :=
  (impl_fileAt.f p0 p1).bind fun t1 =>
  bif decide (t1 < 0) then
  some (3, p0)
  else
  bif inB t1 p0.1.length then
  (impl_in.f p2 0 ((((rdA ([], [], 0) p0.1 t1).2).1).length : Int)).bind fun t2 =>
  bif !t2 then
  some (5, p0)
  else
  bif (decide (0 ≤ p2) && decide (p2 ≤ ((((rdA ([], [], 0) p0.1 t1).2).1).length : Int))) then
  let l3 := p0.1.set t1.toNat ((rdA ([], [], 0) p0.1 t1).1, (((rdA ([], [], 0) p0.1 t1).2).1).take p2.toNat, ((rdA ([], [], 0) p0.1 t1).2).2)
  let l4 := l3.set t1.toNat ((rdA ([], [], 0) l3 t1).1, ((rdA ([], [], 0) l3 t1).2).1, if p2 < ((rdA ([], [], 0) p0.1 t1).2).2 then p2 else ((rdA ([], [], 0) p0.1 t1).2).2)
  some (0, (l4, p0.2))
  else none
  else none

noncomputable def impl_step_Truncate_1.f (p0 : List (List UInt8 × List UInt8 × Int) × Int × Int × Bool) (p1 : List UInt8 × Int) : Option ((List (List UInt8 × List UInt8 × Int) × Int × Int × Bool) × Int) :=
  (impl_copyDisk.f p0).bind fun t1 =>
  (impl_DiskOk.f p0).bind fun t2 =>
  bif !t2 then
  some (t1, 5)
  else
  bif p0.2.2.2 then
  some ((t1.1, t1.2.1, t1.2.2.1, true), 1)
  else
  bif p0.2.2.1 == 0 then
  some ((t1.1, t1.2.1, t1.2.2.1, true), 1)
  else
  (bif decide (p0.2.2.1 > 0) then
  let y3 := w64 (t1.2.2.1 - 1)
  some (p1, ([], 0, 0, false), (t1.1, t1.2.1, y3, t1.2.2.2))
  else
  some (p1, ([], 0, 0, false), t1) : Option ((List UInt8 × Int) × (List (List UInt8 × List UInt8 × Int) × Int × Int × Bool) × List (List UInt8 × List UInt8 × Int) × Int × Int × Bool)).bind (fun (x1, x4, x6) =>
  (impl_Truncate_1.f x6 x1.1 x1.2).bind fun (t4_0, t4_1) =>
  some (t4_1, t4_0))

noncomputable def impl_used.l0 (rec : (Int × List (List UInt8 × List UInt8 × Int) × Int × Int) → Option (Int)) : (Int × List (List UInt8 × List UInt8 × Int) × Int × Int) → Option (Int) := fun (x3, x7, x8, x9) =>
  bif decide (x9 < x8) then
  bif inB x9 x7.length then
  let y1 := (rdA ([], [], 0) x7 x9).1
  let y2 := ((rdA ([], [], 0) x7 x9).2).1
  let y3 := ((rdA ([], [], 0) x7 x9).2).2
  let y4 := w64 (x3 + (y2.length : Int))
  rec (y4, x7, x8, w64 (x9 + 1))
  else none
  else
  some x3
noncomputable def impl_used.f (p0 : List (List UInt8 × List UInt8 × Int) × Int × Int × Bool) : Option (Int) :=
  (lp impl_used.l0 (0, p0.1, (p0.1.length : Int), 0)).bind (fun x3 =>
  some x3)

noncomputable def impl_Append_1.f (p0 : List (List UInt8 × List UInt8 × Int) × Int × Int × Bool) (p1 : List UInt8) (p2 : List UInt8) : Option (Int × List (List UInt8 × List UInt8 × Int) × Int × Int × Bool) :=
  (impl_fileAt.f p0 p1).bind fun t1 =>
  let y2 := decide (t1 < 0)
  bif y2 then
  some (3, p0)
  else
  (impl_used.f p0).bind fun t3 =>
  let y4 := decide ((p2.length : Int) > (w64 (p0.2.1 - t3)))
  bif y4 then
  some (2, p0)
  else
  bif inB t1 p0.1.length then
  bif decide ((((rdA ([], [], 0) p0.1 t1).2).1).length + p2.length ≤ 9223372036854775807) then
  bif inB t1 p0.1.length then
  let l5 := p0.1.set t1.toNat ((rdA ([], [], 0) p0.1 t1).1, (((rdA ([], [], 0) p0.1 t1).2).1) ++ p2, ((rdA ([], [], 0) p0.1 t1).2).2)
  some (0, (l5, p0.2))
  else none
  else none
  else none

noncomputable def impl_step_Append_1.f (p0 : List (List UInt8 × List UInt8 × Int) × Int × Int × Bool) (p1 : List UInt8 × List UInt8) : Option ((List (List UInt8 × List UInt8 × Int) × Int × Int × Bool) × Int) :=
  (impl_copyDisk.f p0).bind fun t1 =>
  (impl_DiskOk.f p0).bind fun t2 =>
  bif !t2 then
  some (t1, 5)
  else
  bif p0.2.2.2 then
  some ((t1.1, t1.2.1, t1.2.2.1, true), 1)
  else
  bif p0.2.2.1 == 0 then
  some ((t1.1, t1.2.1, t1.2.2.1, true), 1)
  else
  (bif decide (p0.2.2.1 > 0) then
  let y3 := w64 (t1.2.2.1 - 1)
  some (p1, ([], 0, 0, false), (t1.1, t1.2.1, y3, t1.2.2.2))
  else
  some (p1, ([], 0, 0, false), t1) : Option ((List UInt8 × List UInt8) × (List (List UInt8 × List UInt8 × Int) × Int × Int × Bool) × List (List UInt8 × List UInt8 × Int) × Int × Int × Bool)).bind (fun (x1, x4, x6) =>
  (impl_Append_1.f x6 x1.1 x1.2).bind fun (t4_0, t4_1) =>
  some (t4_1, t4_0))

noncomputable def impl_Disk_put.l0 (rec : ((List (List UInt8 × List UInt8 × Int) × Int × Int × Bool) × (List UInt8 × List UInt8 × Int) × Int) → Option ((List (List UInt8 × List UInt8 × Int) × Int × Int × Bool) × (List UInt8 × List UInt8 × Int) × Int)) : ((List (List UInt8 × List UInt8 × Int) × Int × Int × Bool) × (List UInt8 × List UInt8 × Int) × Int) → Option ((List (List UInt8 × List UInt8 × Int) × Int × Int × Bool) × (List UInt8 × List UInt8 × Int) × Int) := fun (x0, x3, x4) =>
  bif decide (x4 < (x0.1.length : Int)) then
  bif inB x4 x0.1.length then
  bif Op.bytesLess ((rdA ([], [], 0) x0.1 x4).1) x3.1 then
  rec (x0, x3, w64 (x4 + 1))
  else
  some (x0, x3, x4)
  else none
  else
  some (x0, x3, x4)
noncomputable def impl_Disk_put.f (p0 : List (List UInt8 × List UInt8 × Int) × Int × Int × Bool) (p1 : List UInt8 × List UInt8 × Int) : Option (List (List UInt8 × List UInt8 × Int) × Int × Int × Bool) :=
  (lp impl_Disk_put.l0 (p0, p1, 0)).bind (fun (x0, x3, x4) =>
  bif (decide (0 ≤ x4) && decide (x4 ≤ (x0.1.length : Int))) then
  bif decide ((([] : List (List UInt8 × List UInt8 × Int)).length + (x0.1.take x4.toNat).length) * 40 ≤ 140737488355328) then
  bif decide (((([] : List (List UInt8 × List UInt8 × Int)) ++ (x0.1.take x4.toNat)).length + [x3].length) * 40 ≤ 140737488355328) then
  let l1 := (([] : List (List UInt8 × List UInt8 × Int)) ++ (x0.1.take x4.toNat)) ++ [x3]
  bif (decide (0 ≤ x4) && decide (x4 ≤ (x0.1.length : Int))) then
  bif decide ((l1.length + (x0.1.drop x4.toNat).length) * 40 ≤ 140737488355328) then
  let l2 := l1 ++ (x0.1.drop x4.toNat)
  some (l2, x0.2)
  else none
  else none
  else none
  else none
  else none)

noncomputable def impl_Create_1.f (p0 : List (List UInt8 × List UInt8 × Int) × Int × Int × Bool) (p1 : List UInt8) : Option (Int × List (List UInt8 × List UInt8 × Int) × Int × Int × Bool) :=
  (impl_NameOk.f p1).bind fun t1 =>
  bif !t1 then
  some (5, p0)
  else
  (impl_fileAt.f p0 p1).bind fun t2 =>
  let y3 := decide (t2 ≥ 0)
  bif y3 then
  some (4, p0)
  else
  let y4 := decide ((p0.1.length : Int) ≥ 130)
  bif y4 then
  some (2, p0)
  else
  (impl_Disk_put.f p0 (p1, [], 0)).bind fun t5 =>
  some (0, t5)

noncomputable def impl_step_Create_1.f (p0 : List (List UInt8 × List UInt8 × Int) × Int × Int × Bool) (p1 : List UInt8) : Option ((List (List UInt8 × List UInt8 × Int) × Int × Int × Bool) × Int) :=
  (impl_copyDisk.f p0).bind fun t1 =>
  (impl_DiskOk.f p0).bind fun t2 =>
  bif !t2 then
  some (t1, 5)
  else
  bif p0.2.2.2 then
  some ((t1.1, t1.2.1, t1.2.2.1, true), 1)
  else
  bif p0.2.2.1 == 0 then
  some ((t1.1, t1.2.1, t1.2.2.1, true), 1)
  else
  (bif decide (p0.2.2.1 > 0) then
  let y3 := w64 (t1.2.2.1 - 1)
  some (p1, ([], 0, 0, false), (t1.1, t1.2.1, y3, t1.2.2.2))
  else
  some (p1, ([], 0, 0, false), t1) : Option (List UInt8 × (List (List UInt8 × List UInt8 × Int) × Int × Int × Bool) × List (List UInt8 × List UInt8 × Int) × Int × Int × Bool)).bind (fun (x1, x4, x6) =>
  (impl_Create_1.f x6 x1).bind fun (t4_0, t4_1) =>
  some (t4_1, t4_0))

noncomputable def impl_Rename_1.f (p0 : List (List UInt8 × List UInt8 × Int) × Int × Int × Bool) (p1 : List UInt8) (p2 : List UInt8) : Option (Int × List (List UInt8 × List UInt8 × Int) × Int × Int × Bool) :=
  (impl_fileAt.f p0 p1).bind fun t1 =>
  (impl_NameOk.f p2).bind fun t2 =>
  bif !t2 then
  some (5, p0)
  else
  let y3 := decide (t1 < 0)
  bif y3 then
  some (3, p0)
  else
  bif inB t1 p0.1.length then
  let y4 := (rdA ([], [], 0) p0.1 t1).1
  let y5 := ((rdA ([], [], 0) p0.1 t1).2).1
  let y6 := ((rdA ([], [], 0) p0.1 t1).2).2
  (impl_Disk_drop.f p0 p1).bind fun t7 =>
  (impl_Disk_drop.f t7 p2).bind fun t8 =>
  (impl_Disk_put.f t8 (p2, y5, y6)).bind fun t9 =>
  some (0, t9)
  else none

noncomputable def impl_step_Rename_1.f (p0 : List (List UInt8 × List UInt8 × Int) × Int × Int × Bool) (p1 : List UInt8 × List UInt8) : Option ((List (List UInt8 × List UInt8 × Int) × Int × Int × Bool) × Int) :=
  (impl_copyDisk.f p0).bind fun t1 =>
  (impl_DiskOk.f p0).bind fun t2 =>
  bif !t2 then
  some (t1, 5)
  else
  bif p0.2.2.2 then
  some ((t1.1, t1.2.1, t1.2.2.1, true), 1)
  else
  bif p0.2.2.1 == 0 then
  some ((t1.1, t1.2.1, t1.2.2.1, true), 1)
  else
  (bif decide (p0.2.2.1 > 0) then
  let y3 := w64 (t1.2.2.1 - 1)
  some (p1, ([], 0, 0, false), (t1.1, t1.2.1, y3, t1.2.2.2))
  else
  some (p1, ([], 0, 0, false), t1) : Option ((List UInt8 × List UInt8) × (List (List UInt8 × List UInt8 × Int) × Int × Int × Bool) × List (List UInt8 × List UInt8 × Int) × Int × Int × Bool)).bind (fun (x1, x4, x6) =>
  (impl_Rename_1.f x6 x1.1 x1.2).bind fun (t4_0, t4_1) =>
  some (t4_1, t4_0))

noncomputable def impl_Sync.f (p0 : List (List UInt8 × List UInt8 × Int) × Int × Int × Bool) (p1 : List UInt8) : Option ((List (List UInt8 × List UInt8 × Int) × Int × Int × Bool) × Int) :=
  (impl_step_Sync_1.f p0 p1).bind fun (t1_0, t1_1) =>
  some (t1_0, t1_1)

noncomputable def laws_FnExactSync.f (p0 : List (List UInt8 × List UInt8 × Int) × Int × Int × Bool) (p1 : List UInt8) : Option (Bool) :=
  bif decide ((p1.length : Int) > 1048576) then
  some true
  else
  (laws_szDisk.f p0 1048576).bind fun t1 =>
  bif decide (t1 < 0) then
  some true
  else
  (laws_toDisk.f p0).bind fun t2 =>
  (spec_Sync.f t2 p1).bind fun (t3_0, t3_1) =>
  (laws_toDisk.f p0).bind fun t4 =>
  (impl_Sync.f t4 p1).bind fun (t5_0, t5_1) =>
  (laws_eqDisk.f t5_0 t3_0).bind fun t6 =>
  bif !t6 then
  some false
  else
  bif t5_1 != t3_1 then
  some false
  else
  (laws_toDisk.f p0).bind fun t7 =>
  (laws_eqDisk.f t4 t7).bind fun t8 =>
  bif !t8 then
  some false
  else
  (laws_markDisk.f t4 1).bind fun (t9_0, t9_1) =>
  bif decide (t9_0 < 0) then
  some false
  else
  (laws_eqDisk.f t5_0 t3_0).bind fun t10 =>
  bif !t10 then
  some false
  else
  bif t5_1 != t3_1 then
  some false
  else
  (laws_markDisk.f t5_0 1).bind fun (t11_0, t11_1) =>
  (laws_heldDisk.f (t11_1.1, t5_0.2) 1).bind fun t12 =>
  bif decide (t12 < 0) then
  some false
  else
  bif t12 != t11_0 then
  some false
  else
  (laws_toDisk.f p0).bind fun t13 =>
  (impl_Sync.f t13 p1).bind fun (t14_0, t14_1) =>
  (laws_eqDisk.f t14_0 t3_0).bind fun t15 =>
  bif !t15 then
  some false
  else
  bif t14_1 != t3_1 then
  some false
  else
  (laws_heldDisk.f (t11_1.1, t5_0.2) 1).bind fun t16 =>
  bif decide (t16 < 0) then
  some false
  else
  bif t16 != t11_0 then
  some false
  else
  some true

noncomputable def spec_DrawNetWrites.f (p0 : List Int) : Option (Bool × List (List UInt8 × Int) × List (List UInt8 × Bool × List UInt8)) :=
  (spec_l1New.f p0).bind fun t1 =>
  (spec_l15Txn.f t1).bind fun (t2_0, t2_1) =>
  some t2_0

noncomputable def spec_l14Keep.f (p0 : List UInt8 × List UInt8 × Int) : Option (Int × Int × List UInt8 × List UInt8 × Int × Int) :=
  some (4, p0.2.2, p0.1, p0.2.1, 0, 0)

noncomputable def spec_Var.l0 (rec : (Int × List Int) → Option (Int × List Int)) : (Int × List Int) → Option (Int × List Int) := fun (x0, x3) =>
  bif decide (x0 ≥ 128) then
  bif decide ((x3.length + [IntKind.wrap .u8 (w64 (128 + (Int.tmod x0 128)))].length) * 1 ≤ 140737488355328) then
  let l2 := x3 ++ [IntKind.wrap .u8 (w64 (128 + (Int.tmod x0 128)))]
  let y3 := w64 (Int.tdiv x0 128)
  rec (y3, l2)
  else none
  else
  some (x0, x3)
noncomputable def spec_Var.f (p0 : Int) : Option (List UInt8) :=
  (spec_l1In.f p0 0 562949953421311).bind fun t1 =>
  bif !t1 then
  some []
  else
  (lp spec_Var.l0 (p0, ([] : List Int))).bind (fun (x0, x3) =>
  bif decide ((x3.length + [IntKind.wrap .u8 (x0)].length) * 1 ≤ 140737488355328) then
  let l4 := x3 ++ [IntKind.wrap .u8 (x0)]
  some (strOf l4)
  else none)

noncomputable def spec_Fixed.l0 (rec : (Int × Int × List UInt8 × Int) → Option (Int × List UInt8)) : (Int × Int × List UInt8 × Int) → Option (Int × List UInt8) := fun (x0, x1, x5, x6) =>
  bif decide (x6 < x1) then
  bif decide ((strOf [IntKind.wrap .u8 (Int.tmod x0 256)]).length + x5.length ≤ 9223372036854775807) then
  let y2 := (strOf [IntKind.wrap .u8 (Int.tmod x0 256)]) ++ x5
  let y3 := w64 (Int.tdiv x0 256)
  rec (y3, x1, y2, w64 (x6 + 1))
  else none
  else
  some (x0, x5)
noncomputable def spec_Fixed.f (p0 : Int) (p1 : Int) : Option (List UInt8) :=
  (spec_l1In.f p1 1 7).bind fun t1 =>
  bif !t1 then
  some []
  else
  bif decide (p0 < 0) then
  some []
  else
  (lp spec_Fixed.l0 (p0, p1, [], 0)).bind (fun (x0, x5) =>
  bif decide (x0 > 0) then
  some []
  else
  some x5)

noncomputable def spec_Crc.l2 (rec : (List UInt8 × Int × Int × Int) → Option (List UInt8 × Int × Int)) : (List UInt8 × Int × Int × Int) → Option (List UInt8 × Int × Int) := fun (x0, x3, x4, x5) =>
  bif decide (x5 < 8) then
  let y2 := w64 (Int.tdiv x3 2)
  (bif (Int.tmod x3 2) == 1 then
  let y3 := bits (fun _ a b => a ^^^ b) .i64 y2 2197175160
  some (x0, y3, x4, x5)
  else
  some (x0, y2, x4, x5) : Option (List UInt8 × Int × Int × Int)).bind (fun (x0, x3, x4, x5) =>
  rec (x0, x3, x4, w64 (x5 + 1)))
  else
  some (x0, x3, x4)
noncomputable def spec_Crc.l0 (rec : (List UInt8 × Int × Int) → Option (Int)) : (List UInt8 × Int × Int) → Option (Int) := fun (x0, x3, x4) =>
  bif decide (x4 < (x0.length : Int)) then
  bif inB x4 x0.length then
  let y1 := bits (fun _ a b => a ^^^ b) .i64 x3 (w64 (bAt x0 x4))
  (lp spec_Crc.l2 (x0, y1, x4, 0)).bind (fun (x0, x3, x4) =>
  rec (x0, x3, w64 (x4 + 1)))
  else none
  else
  some x3
noncomputable def spec_Crc.f (p0 : List UInt8) : Option (Int) :=
  (lp spec_Crc.l0 (p0, 4294967295, 0)).bind (fun x3 =>
  let y4 := w64 (4294967295 - x3)
  some y4)

noncomputable def spec_Frame.f (p0 : List UInt8) : Option (List UInt8) :=
  bif decide ((p0.length : Int) > 200) then
  some []
  else
  (spec_Var.f (p0.length : Int)).bind fun t1 =>
  bif decide (t1.length + p0.length ≤ 9223372036854775807) then
  (spec_Crc.f (t1 ++ p0)).bind fun t2 =>
  (spec_Fixed.f t2 4).bind fun t3 =>
  bif decide (t3.length + (t1 ++ p0).length ≤ 9223372036854775807) then
  let y4 := t3 ++ (t1 ++ p0)
  some y4
  else none
  else none

noncomputable def spec_RecOk.f (p0 : Int × Int × List UInt8 × List UInt8 × Int × Int) : Option (Bool) :=
  ((spec_l1In.f p0.2.1 0 1000000).bind fun t1 =>
  bif !t1 then
  some (Sum.inr false)
  else
  bif p0.2.1 == 0 then
  bif p0.1 != 5 then
  some (Sum.inr false)
  else
  some (Sum.inl p0)
  else
  some (Sum.inl p0) : Option ((Int × Int × List UInt8 × List UInt8 × Int × Int) ⊕ (Bool))).bind (fun o2 => caseS o2 (fun x1 =>
  (bif x1.1 == 1 then
  some (x1, x1.1, x1.1 == 1)
  else
  some (x1, x1.1, x1.1 == 4) : Option ((Int × Int × List UInt8 × List UInt8 × Int × Int) × Int × Bool)).bind (fun (x1, x18, x19) =>
  bif x19 then
  (spec_KeyOk.f x1.2.2.1).bind fun t3 =>
  bif t3 then
  bif decide ((x1.2.2.2.1.length : Int) ≤ 24) then
  bif x1.2.2.2.2.1 == 0 then
  let y4 := x1.2.2.2.2.2 == 0
  some y4
  else
  some false
  else
  some false
  else
  some false
  else
  bif x18 == 2 then
  (spec_KeyOk.f x1.2.2.1).bind fun t5 =>
  bif t5 then
  bif x1.2.2.2.1 == [] then
  bif x1.2.2.2.2.1 == 0 then
  let y6 := x1.2.2.2.2.2 == 0
  some y6
  else
  some false
  else
  some false
  else
  some false
  else
  bif x18 == 3 then
  bif x1.2.2.1 == [] then
  bif x1.2.2.2.1 == [] then
  (spec_l1In.f x1.2.2.2.2.1 0 8).bind fun t7 =>
  bif t7 then
  (spec_l1In.f x1.2.2.2.2.2 0 4294967295).bind fun t8 =>
  some t8
  else
  some false
  else
  some false
  else
  some false
  else
  bif x18 == 5 then
  bif x1.2.2.1 == [] then
  bif x1.2.2.2.1 == [] then
  (spec_l1In.f x1.2.2.2.2.1 0 20).bind fun t9 =>
  bif t9 then
  (spec_l1In.f x1.2.2.2.2.2 0 4294967295).bind fun t10 =>
  some t10
  else
  some false
  else
  some false
  else
  some false
  else
  some false)) (fun x2 =>
  some x2))

noncomputable def spec_ShowRec.f (p0 : Int × Int × List UInt8 × List UInt8 × Int × Int) : Option (List UInt8) :=
  (spec_RecOk.f p0).bind fun t1 =>
  bif !t1 then
  some []
  else
  (spec_Var.f p0.1).bind fun t2 =>
  (spec_Var.f p0.2.1).bind fun t3 =>
  bif decide (t2.length + t3.length ≤ 9223372036854775807) then
  (bif p0.1 == 1 then
  some (p0, t2 ++ t3, p0.1, p0.1 == 1)
  else
  some (p0, t2 ++ t3, p0.1, p0.1 == 4) : Option ((Int × Int × List UInt8 × List UInt8 × Int × Int) × List UInt8 × Int × Bool)).bind (fun (x1, x3, x15, x16) =>
  bif x16 then
  (spec_Var.f (x1.2.2.1.length : Int)).bind fun t4 =>
  bif decide (x3.length + t4.length ≤ 9223372036854775807) then
  bif decide ((x3 ++ t4).length + x1.2.2.1.length ≤ 9223372036854775807) then
  (spec_Var.f (x1.2.2.2.1.length : Int)).bind fun t5 =>
  bif decide (((x3 ++ t4) ++ x1.2.2.1).length + t5.length ≤ 9223372036854775807) then
  bif decide ((((x3 ++ t4) ++ x1.2.2.1) ++ t5).length + x1.2.2.2.1.length ≤ 9223372036854775807) then
  let y6 := (((x3 ++ t4) ++ x1.2.2.1) ++ t5) ++ x1.2.2.2.1
  some y6
  else none
  else none
  else none
  else none
  else
  bif x15 == 2 then
  (spec_Var.f (x1.2.2.1.length : Int)).bind fun t7 =>
  bif decide (x3.length + t7.length ≤ 9223372036854775807) then
  bif decide ((x3 ++ t7).length + x1.2.2.1.length ≤ 9223372036854775807) then
  let y8 := (x3 ++ t7) ++ x1.2.2.1
  some y8
  else none
  else none
  else
  (spec_Var.f x1.2.2.2.2.1).bind fun t9 =>
  bif decide (x3.length + t9.length ≤ 9223372036854775807) then
  (spec_Fixed.f x1.2.2.2.2.2 4).bind fun t10 =>
  bif decide ((x3 ++ t9).length + t10.length ≤ 9223372036854775807) then
  let y11 := (x3 ++ t9) ++ t10
  some y11
  else none
  else none)
  else none

noncomputable def spec_SumOf.l0 (rec : (List (Int × Int × List UInt8 × List UInt8 × Int × Int) × List UInt8 × Int) → Option (List UInt8)) : (List (Int × Int × List UInt8 × List UInt8 × Int × Int) × List UInt8 × Int) → Option (List UInt8) := fun (x0, x3, x4) =>
  bif decide (x4 < (x0.length : Int)) then
  bif inB x4 x0.length then
  (spec_ShowRec.f ((rdA (0, 0, [], [], 0, 0) x0 x4).1, ((rdA (0, 0, [], [], 0, 0) x0 x4).2).1, (((rdA (0, 0, [], [], 0, 0) x0 x4).2).2).1, ((((rdA (0, 0, [], [], 0, 0) x0 x4).2).2).2).1, (((((rdA (0, 0, [], [], 0, 0) x0 x4).2).2).2).2))).bind fun t1 =>
  bif decide (x3.length + t1.length ≤ 9223372036854775807) then
  rec (x0, x3 ++ t1, w64 (x4 + 1))
  else none
  else none
  else
  some x3
noncomputable def spec_SumOf.f (p0 : List (Int × Int × List UInt8 × List UInt8 × Int × Int)) : Option (Int) :=
  (lp spec_SumOf.l0 (p0, [], 0)).bind (fun x3 =>
  (spec_Crc.f x3).bind fun t2 =>
  some t2)

noncomputable def spec_l9Seal.f (p0 : List (Int × Int × List UInt8 × List UInt8 × Int × Int)) (p1 : Int) (p2 : Int) : Option (Int × Int × List UInt8 × List UInt8 × Int × Int) :=
  (spec_SumOf.f p0).bind fun t1 =>
  let y2 := (p0.length : Int)
  some (p2, p1, [], [], y2, t1)

noncomputable def spec_MergedSize.l0 (rec : (List (List UInt8 × List UInt8 × Int) × Int × List (Int × Int × List UInt8 × List UInt8 × Int × Int) × Int × Int) → Option (Int × List (Int × Int × List UInt8 × List UInt8 × Int × Int) × Int)) : (List (List UInt8 × List UInt8 × Int) × Int × List (Int × Int × List UInt8 × List UInt8 × Int × Int) × Int × Int) → Option (Int × List (Int × Int × List UInt8 × List UInt8 × Int × Int) × Int) := fun (x0, x1, x5, x6, x7) =>
  bif decide (x7 < (x0.length : Int)) then
  bif inB x7 x0.length then
  (spec_l14Keep.f ((rdA ([], [], 0) x0 x7).1, ((rdA ([], [], 0) x0 x7).2))).bind fun t1 =>
  bif decide ((x5.length + [t1].length) * 64 ≤ 140737488355328) then
  (spec_ShowRec.f t1).bind fun t2 =>
  (spec_Frame.f t2).bind fun t3 =>
  let y4 := w64 (x6 + (t3.length : Int))
  rec (x0, x1, x5 ++ [t1], y4, w64 (x7 + 1))
  else none
  else none
  else
  some (x1, x5, x6)
noncomputable def spec_MergedSize.f (p0 : List (List UInt8 × List UInt8 × Int)) (p1 : Int) : Option (Int) :=
  (lp spec_MergedSize.l0 (p0, p1, ([] : List (Int × Int × List UInt8 × List UInt8 × Int × Int)), 0, 0)).bind (fun (x1, x5, x6) =>
  (spec_l9Seal.f x5 x1 5).bind fun t5 =>
  (spec_ShowRec.f t5).bind fun t6 =>
  (spec_Frame.f t6).bind fun t7 =>
  let y8 := w64 (x6 + (t7.length : Int))
  some y8)

noncomputable def impl_Var.l0 (rec : (Int × List Int) → Option (Int × List Int)) : (Int × List Int) → Option (Int × List Int) := fun (x0, x3) =>
  bif decide (x0 > 127) then
  bif decide ((x3.length + [IntKind.wrap .u8 (w64 ((Int.tmod x0 128) + 128))].length) * 1 ≤ 140737488355328) then
  let l2 := x3 ++ [IntKind.wrap .u8 (w64 ((Int.tmod x0 128) + 128))]
  let y3 := w64 (Int.tdiv x0 128)
  rec (y3, l2)
  else none
  else
  some (x0, x3)
noncomputable def impl_Var.f (p0 : Int) : Option (List UInt8) :=
  (impl_in.f p0 0 562949953421311).bind fun t1 =>
  bif !t1 then
  some []
  else
  (lp impl_Var.l0 (p0, [])).bind (fun (x0, x3) =>
  bif decide ((x3.length + [IntKind.wrap .u8 (x0)].length) * 1 ≤ 140737488355328) then
  let l4 := x3 ++ [IntKind.wrap .u8 (x0)]
  some (strOf l4)
  else none)

noncomputable def impl_textOf.f (p0 : List UInt8) : Option (List UInt8) :=
  (impl_Var.f (p0.length : Int)).bind fun t1 =>
  bif decide (t1.length + p0.length ≤ 9223372036854775807) then
  some (t1 ++ p0)
  else none

noncomputable def impl_Fixed.l0 (rec : (Int × List Int × Int) → Option (List Int)) : (Int × List Int × Int) → Option (List Int) := fun (x0, x5, x6) =>
  bif decide (x6 ≥ 0) then
  bif decide (0 ≤ (w64 (8 * x6))) then
  bif decide ((x5.length + [IntKind.wrap .u8 (Int.fdiv x0 (2 ^ (min (w64 (8 * x6)).toNat 64)))].length) * 1 ≤ 140737488355328) then
  let l3 := x5 ++ [IntKind.wrap .u8 (Int.fdiv x0 (2 ^ (min (w64 (8 * x6)).toNat 64)))]
  rec (x0, l3, w64 (x6 - 1))
  else none
  else none
  else
  some x5
noncomputable def impl_Fixed.f (p0 : Int) (p1 : Int) : Option (List UInt8) :=
  (impl_in.f p1 1 7).bind fun t1 =>
  bif !t1 then
  some []
  else
  bif decide (0 ≤ (w64 (8 * p1))) then
  (impl_in.f p0 0 (w64 ((w64 (1 * 2 ^ (min (w64 (8 * p1)).toNat 64))) - 1))).bind fun t2 =>
  bif !t2 then
  some []
  else
  (lp impl_Fixed.l0 (p0, [], w64 (p1 - 1))).bind (fun x5 =>
  some (strOf x5))
  else none

noncomputable def impl_RecOk.f (p0 : Int × Int × List UInt8 × List UInt8 × Int × Int) : Option (Bool) :=
  (bif p0.1 == 1 then
  some (p0, (p0.1, p0.2.1, [], [], 0, 0), false, 1, p0.1, p0.1 == 1)
  else
  some (p0, (p0.1, p0.2.1, [], [], 0, 0), false, 1, p0.1, p0.1 == 4) : Option ((Int × Int × List UInt8 × List UInt8 × Int × Int) × (Int × Int × List UInt8 × List UInt8 × Int × Int) × Bool × Int × Int × Bool)).bind (fun (x1, x3, x4, x5, x12, x13) =>
  bif x13 then
  (impl_KeyOk.f x1.2.2.1).bind fun t1 =>
  bif t1 then
  let y2 := decide ((x1.2.2.2.1.length : Int) ≤ 24)
  bif y2 then
  (impl_in.f x1.2.1 x5 1000000).bind fun t3 =>
  bif t3 then
  let y4 := (x1.1 == x3.1 && (x1.2.1 == x3.2.1 && (x1.2.2.1 == x1.2.2.1 && (x1.2.2.2.1 == x1.2.2.2.1 && (x1.2.2.2.2.1 == x3.2.2.2.2.1 && (x1.2.2.2.2.2 == x3.2.2.2.2.2))))))
  some y4
  else
  some false
  else
  some false
  else
  some false
  else
  bif x12 == 2 then
  (impl_KeyOk.f x1.2.2.1).bind fun t5 =>
  bif t5 then
  (impl_in.f x1.2.1 x5 1000000).bind fun t6 =>
  bif t6 then
  let y7 := (x1.1 == x3.1 && (x1.2.1 == x3.2.1 && (x1.2.2.1 == x1.2.2.1 && (x1.2.2.2.1 == x3.2.2.2.1 && (x1.2.2.2.2.1 == x3.2.2.2.2.1 && (x1.2.2.2.2.2 == x3.2.2.2.2.2))))))
  some y7
  else
  some false
  else
  some false
  else
  bif x12 == 3 then
  (impl_in.f x1.2.2.2.2.1 0 8).bind fun t8 =>
  bif t8 then
  (impl_in.f x1.2.2.2.2.2 0 4294967295).bind fun t9 =>
  bif t9 then
  (impl_in.f x1.2.1 x5 1000000).bind fun t10 =>
  bif t10 then
  let y11 := (x1.1 == x3.1 && (x1.2.1 == x3.2.1 && (x1.2.2.1 == x3.2.2.1 && (x1.2.2.2.1 == x3.2.2.2.1 && (x1.2.2.2.2.1 == x1.2.2.2.2.1 && (x1.2.2.2.2.2 == x1.2.2.2.2.2))))))
  some y11
  else
  some false
  else
  some false
  else
  some false
  else
  bif x12 == 5 then
  (impl_in.f x1.2.2.2.2.1 0 20).bind fun t12 =>
  bif t12 then
  (impl_in.f x1.2.2.2.2.2 0 4294967295).bind fun t13 =>
  bif t13 then
  (impl_in.f x1.2.1 0 1000000).bind fun t14 =>
  bif t14 then
  let y15 := (x1.1 == x3.1 && (x1.2.1 == x3.2.1 && (x1.2.2.1 == x3.2.2.1 && (x1.2.2.2.1 == x3.2.2.2.1 && (x1.2.2.2.2.1 == x1.2.2.2.2.1 && (x1.2.2.2.2.2 == x1.2.2.2.2.2))))))
  some y15
  else
  some false
  else
  some false
  else
  some false
  else
  bif x4 then
  (impl_in.f x1.2.1 x5 1000000).bind fun t16 =>
  bif t16 then
  let y17 := (x1.1 == x3.1 && (x1.2.1 == x3.2.1 && (x1.2.2.1 == x3.2.2.1 && (x1.2.2.2.1 == x3.2.2.2.1 && (x1.2.2.2.2.1 == x3.2.2.2.2.1 && (x1.2.2.2.2.2 == x3.2.2.2.2.2))))))
  some y17
  else
  some false
  else
  some false)

noncomputable def impl_vars.l0 (rec : (List UInt8 × List Int × Int × Int) → Option (List UInt8)) : (List UInt8 × List Int × Int × Int) → Option (List UInt8) := fun (x3, x6, x7, x8) =>
  bif decide (x8 < x7) then
  bif inB x8 x6.length then
  (impl_Var.f (rdA 0 x6 x8)).bind fun t1 =>
  bif decide (x3.length + t1.length ≤ 9223372036854775807) then
  rec (x3 ++ t1, x6, x7, w64 (x8 + 1))
  else none
  else none
  else
  some x3
noncomputable def impl_vars.f (p0 : List Int) : Option (List UInt8) :=
  (lp impl_vars.l0 ([], p0, (p0.length : Int), 0)).bind (fun x3 =>
  some x3)

noncomputable def impl_ShowRec.f (p0 : Int × Int × List UInt8 × List UInt8 × Int × Int) : Option (List UInt8) :=
  (impl_RecOk.f p0).bind fun t1 =>
  bif !t1 then
  some []
  else
  (impl_vars.f [p0.1, p0.2.1]).bind fun t2 =>
  (bif p0.1 == 1 then
  some (p0, t2, p0.1, p0.1 == 1)
  else
  some (p0, t2, p0.1, p0.1 == 4) : Option ((Int × Int × List UInt8 × List UInt8 × Int × Int) × List UInt8 × Int × Bool)).bind (fun (x1, x3, x14, x15) =>
  bif x15 then
  (impl_textOf.f x1.2.2.1).bind fun t3 =>
  bif decide (x3.length + t3.length ≤ 9223372036854775807) then
  (impl_textOf.f x1.2.2.2.1).bind fun t4 =>
  bif decide ((x3 ++ t3).length + t4.length ≤ 9223372036854775807) then
  let y5 := (x3 ++ t3) ++ t4
  some y5
  else none
  else none
  else
  bif x14 == 2 then
  (impl_textOf.f x1.2.2.1).bind fun t6 =>
  bif decide (x3.length + t6.length ≤ 9223372036854775807) then
  some (x3 ++ t6)
  else none
  else
  (impl_Var.f x1.2.2.2.2.1).bind fun t7 =>
  bif decide (x3.length + t7.length ≤ 9223372036854775807) then
  (impl_Fixed.f x1.2.2.2.2.2 4).bind fun t8 =>
  bif decide ((x3 ++ t7).length + t8.length ≤ 9223372036854775807) then
  let y9 := (x3 ++ t7) ++ t8
  some y9
  else none
  else none)

noncomputable def impl_Crc.l2 (rec : (List UInt8 × Int × Int × Int) → Option (List UInt8 × Int × Int)) : (List UInt8 × Int × Int × Int) → Option (List UInt8 × Int × Int) := fun (x0, x3, x4, x18) =>
  bif decide (x18 < 8) then
  let y2 := bits (fun _ a b => a &&& b) .u32 x3 1
  let y3 := Int.fdiv x3 (2 ^ (min 1 32))
  (bif y2 == 1 then
  let y4 := bits (fun _ a b => a ^^^ b) .u32 y3 2197175160
  some (x0, y4, x4, x18)
  else
  some (x0, y3, x4, x18) : Option (List UInt8 × Int × Int × Int)).bind (fun (x0, x3, x4, x18) =>
  rec (x0, x3, x4, w64 (x18 + 1)))
  else
  some (x0, x3, x4)
noncomputable def impl_Crc.l0 (rec : (List UInt8 × Int × Int) → Option (Int)) : (List UInt8 × Int × Int) → Option (Int) := fun (x0, x3, x4) =>
  bif decide (x4 < (x0.length : Int)) then
  bif inB x4 x0.length then
  let y1 := bits (fun _ a b => a ^^^ b) .u32 x3 (IntKind.wrap .u32 (bAt x0 x4))
  (lp impl_Crc.l2 (x0, y1, x4, 0)).bind (fun (x0, x3, x4) =>
  rec (x0, x3, w64 (x4 + 1)))
  else none
  else
  some x3
noncomputable def impl_Crc.f (p0 : List UInt8) : Option (Int) :=
  (lp impl_Crc.l0 (p0, 4294967295, 0)).bind (fun x3 =>
  let y5 := w64 (bits (fun _ a b => a ^^^ b) .u32 4294967295 x3)
  some y5)

noncomputable def impl_SumOf.l0 (rec : (List UInt8 × List (Int × Int × List UInt8 × List UInt8 × Int × Int) × Int × Int) → Option (List UInt8)) : (List UInt8 × List (Int × Int × List UInt8 × List UInt8 × Int × Int) × Int × Int) → Option (List UInt8) := fun (x3, x6, x7, x8) =>
  bif decide (x8 < x7) then
  bif inB x8 x6.length then
  let y1 := (rdA (0, 0, [], [], 0, 0) x6 x8).1
  let y2 := ((rdA (0, 0, [], [], 0, 0) x6 x8).2).1
  let y3 := (((rdA (0, 0, [], [], 0, 0) x6 x8).2).2).1
  let y4 := ((((rdA (0, 0, [], [], 0, 0) x6 x8).2).2).2).1
  let y5 := (((((rdA (0, 0, [], [], 0, 0) x6 x8).2).2).2).2).1
  let y6 := (((((rdA (0, 0, [], [], 0, 0) x6 x8).2).2).2).2).2
  (impl_ShowRec.f (y1, y2, y3, y4, y5, y6)).bind fun t7 =>
  bif decide (x3.length + t7.length ≤ 9223372036854775807) then
  rec (x3 ++ t7, x6, x7, w64 (x8 + 1))
  else none
  else none
  else
  some x3
noncomputable def impl_SumOf.f (p0 : List (Int × Int × List UInt8 × List UInt8 × Int × Int)) : Option (Int) :=
  (lp impl_SumOf.l0 ([], p0, (p0.length : Int), 0)).bind (fun x3 =>
  (impl_Crc.f x3).bind fun t8 =>
  some t8)

noncomputable def impl_keeps.l0 (rec : (List (List UInt8 × List UInt8 × Int) × Int × List (Int × Int × List UInt8 × List UInt8 × Int × Int) × List (List UInt8 × List UInt8 × Int) × Int × Int) → Option (List (List UInt8 × List UInt8 × Int) × Int × List (Int × Int × List UInt8 × List UInt8 × Int × Int))) : (List (List UInt8 × List UInt8 × Int) × Int × List (Int × Int × List UInt8 × List UInt8 × Int × Int) × List (List UInt8 × List UInt8 × Int) × Int × Int) → Option (List (List UInt8 × List UInt8 × Int) × Int × List (Int × Int × List UInt8 × List UInt8 × Int × Int)) := fun (x0, x1, x5, x8, x9, x10) =>
  bif decide (x10 < x9) then
  bif inB x10 x8.length then
  let y1 := (rdA ([], [], 0) x8 x10).1
  let y2 := ((rdA ([], [], 0) x8 x10).2).1
  let y3 := ((rdA ([], [], 0) x8 x10).2).2
  bif decide ((x5.length + [(4, y3, y1, y2, 0, 0)].length) * 64 ≤ 140737488355328) then
  let l4 := x5 ++ [(4, y3, y1, y2, 0, 0)]
  rec (x0, x1, l4, x8, x9, w64 (x10 + 1))
  else none
  else none
  else
  some (x0, x1, x5)
noncomputable def impl_keeps.f (p0 : List (List UInt8 × List UInt8 × Int)) (p1 : Int) : Option (List (Int × Int × List UInt8 × List UInt8 × Int × Int)) :=
  (lp impl_keeps.l0 (p0, p1, [], p0, (p0.length : Int), 0)).bind (fun (x0, x1, x5) =>
  (impl_SumOf.f x5).bind fun t5 =>
  bif decide ((x5.length + ([(5, x1, [], [], (x0.length : Int), t5)] : List (Int × Int × List UInt8 × List UInt8 × Int × Int)).length) * 64 ≤ 140737488355328) then
  let l6 := x5 ++ ([(5, x1, [], [], (x0.length : Int), t5)] : List (Int × Int × List UInt8 × List UInt8 × Int × Int))
  some l6
  else none)

noncomputable def impl_Frame.f (p0 : List UInt8) : Option (List UInt8) :=
  bif decide ((p0.length : Int) > 200) then
  some []
  else
  (impl_textOf.f p0).bind fun t1 =>
  (impl_Crc.f t1).bind fun t2 =>
  (impl_Fixed.f t2 4).bind fun t3 =>
  bif decide (t3.length + t1.length ≤ 9223372036854775807) then
  some (t3 ++ t1)
  else none

noncomputable def impl_MergedSize.l0 (rec : (Int × List (Int × Int × List UInt8 × List UInt8 × Int × Int) × Int × Int) → Option (Int)) : (Int × List (Int × Int × List UInt8 × List UInt8 × Int × Int) × Int × Int) → Option (Int) := fun (x5, x10, x11, x12) =>
  bif decide (x12 < x11) then
  bif inB x12 x10.length then
  let y2 := (rdA (0, 0, [], [], 0, 0) x10 x12).1
  let y3 := ((rdA (0, 0, [], [], 0, 0) x10 x12).2).1
  let y4 := (((rdA (0, 0, [], [], 0, 0) x10 x12).2).2).1
  let y5 := ((((rdA (0, 0, [], [], 0, 0) x10 x12).2).2).2).1
  let y6 := (((((rdA (0, 0, [], [], 0, 0) x10 x12).2).2).2).2).1
  let y7 := (((((rdA (0, 0, [], [], 0, 0) x10 x12).2).2).2).2).2
  (impl_ShowRec.f (y2, y3, y4, y5, y6, y7)).bind fun t8 =>
  (impl_Frame.f t8).bind fun t9 =>
  let y10 := w64 (x5 + (t9.length : Int))
  rec (y10, x10, x11, w64 (x12 + 1))
  else none
  else
  some x5
noncomputable def impl_MergedSize.f (p0 : List (List UInt8 × List UInt8 × Int)) (p1 : Int) : Option (Int) :=
  (impl_keeps.f p0 p1).bind fun t1 =>
  (lp impl_MergedSize.l0 (0, t1, (t1.length : Int), 0)).bind (fun x5 =>
  some x5)

noncomputable def laws_FnExactMergedSize.f (p0 : List (List UInt8 × List UInt8 × Int)) (p1 : Int) : Option (Bool) :=
  (laws_szPairS.f p0 1048576).bind fun t1 =>
  bif decide (t1 < 0) then
  some true
  else
  (laws_toPairS.f p0).bind fun t2 =>
  (spec_MergedSize.f t2 p1).bind fun t3 =>
  (laws_toPairS.f p0).bind fun t4 =>
  (impl_MergedSize.f t4 p1).bind fun t5 =>
  bif t5 != t3 then
  some false
  else
  (laws_toPairS.f p0).bind fun t6 =>
  (laws_eqPairS.f t4 t6).bind fun t7 =>
  bif !t7 then
  some false
  else
  some true

noncomputable def spec_l3Without.f (p0 : List (List UInt8 × List UInt8 × Int)) (p1 : Int) : Option (List (List UInt8 × List UInt8 × Int)) :=
  bif (decide (0 ≤ p1) && decide (p1 ≤ (p0.length : Int))) then
  bif decide ((([] : List (List UInt8 × List UInt8 × Int)).length + (p0.take p1.toNat).length) * 40 ≤ 140737488355328) then
  bif (decide (0 ≤ w64 (p1 + 1)) && decide (w64 (p1 + 1) ≤ (p0.length : Int))) then
  bif decide (((([] : List (List UInt8 × List UInt8 × Int)) ++ (p0.take p1.toNat)).length + (p0.drop ((w64 (p1 + 1)).toNat)).length) * 40 ≤ 140737488355328) then
  let l1 := (([] : List (List UInt8 × List UInt8 × Int)) ++ (p0.take p1.toNat)) ++ (p0.drop ((w64 (p1 + 1)).toNat))
  some l1
  else none
  else none
  else none
  else none

noncomputable def spec_Remove.f (p0 : List (List UInt8 × List UInt8 × Int) × Int × Int × Bool) (p1 : List UInt8) : Option ((List (List UInt8 × List UInt8 × Int) × Int × Int × Bool) × Int) :=
  (spec_l3Begin.f p0).bind fun (t1_0, t1_1) =>
  bif t1_1 != 0 then
  some (t1_0, t1_1)
  else
  (spec_l3Find.f p0 p1).bind fun t2 =>
  bif decide (t2 < 0) then
  some (t1_0, 3)
  else
  (spec_l3Without.f t1_0.1 t2).bind fun t3 =>
  some ((t3, t1_0.2), 0)

noncomputable def impl_Remove.f (p0 : List (List UInt8 × List UInt8 × Int) × Int × Int × Bool) (p1 : List UInt8) : Option ((List (List UInt8 × List UInt8 × Int) × Int × Int × Bool) × Int) :=
  (impl_step_Remove_1.f p0 p1).bind fun (t1_0, t1_1) =>
  some (t1_0, t1_1)

noncomputable def laws_FnExactRemove.f (p0 : List (List UInt8 × List UInt8 × Int) × Int × Int × Bool) (p1 : List UInt8) : Option (Bool) :=
  bif decide ((p1.length : Int) > 1048576) then
  some true
  else
  (laws_szDisk.f p0 1048576).bind fun t1 =>
  bif decide (t1 < 0) then
  some true
  else
  (laws_toDisk.f p0).bind fun t2 =>
  (spec_Remove.f t2 p1).bind fun (t3_0, t3_1) =>
  (laws_toDisk.f p0).bind fun t4 =>
  (impl_Remove.f t4 p1).bind fun (t5_0, t5_1) =>
  (laws_eqDisk.f t5_0 t3_0).bind fun t6 =>
  bif !t6 then
  some false
  else
  bif t5_1 != t3_1 then
  some false
  else
  (laws_toDisk.f p0).bind fun t7 =>
  (laws_eqDisk.f t4 t7).bind fun t8 =>
  bif !t8 then
  some false
  else
  (laws_markDisk.f t4 1).bind fun (t9_0, t9_1) =>
  bif decide (t9_0 < 0) then
  some false
  else
  (laws_eqDisk.f t5_0 t3_0).bind fun t10 =>
  bif !t10 then
  some false
  else
  bif t5_1 != t3_1 then
  some false
  else
  (laws_markDisk.f t5_0 1).bind fun (t11_0, t11_1) =>
  (laws_heldDisk.f (t11_1.1, t5_0.2) 1).bind fun t12 =>
  bif decide (t12 < 0) then
  some false
  else
  bif t12 != t11_0 then
  some false
  else
  (laws_toDisk.f p0).bind fun t13 =>
  (impl_Remove.f t13 p1).bind fun (t14_0, t14_1) =>
  (laws_eqDisk.f t14_0 t3_0).bind fun t15 =>
  bif !t15 then
  some false
  else
  bif t14_1 != t3_1 then
  some false
  else
  (laws_heldDisk.f (t11_1.1, t5_0.2) 1).bind fun t16 =>
  bif decide (t16 < 0) then
  some false
  else
  bif t16 != t11_0 then
  some false
  else
  some true

noncomputable def spec_Truncate.f (p0 : List (List UInt8 × List UInt8 × Int) × Int × Int × Bool) (p1 : List UInt8) (p2 : Int) : Option ((List (List UInt8 × List UInt8 × Int) × Int × Int × Bool) × Int) :=
  (spec_l3Begin.f p0).bind fun (t1_0, t1_1) =>
  bif t1_1 != 0 then
  some (t1_0, t1_1)
  else
  (spec_l3Find.f p0 p1).bind fun t2 =>
  bif decide (t2 < 0) then
  some (t1_0, 3)
  else
  bif inB t2 p0.1.length then
  (spec_l1In.f p2 0 ((((rdA ([], [], 0) p0.1 t2).2).1).length : Int)).bind fun t3 =>
  bif !t3 then
  some (t1_0, 5)
  else
  bif inB t2 p0.1.length then
  bif (decide (0 ≤ p2) && decide (p2 ≤ ((((rdA ([], [], 0) p0.1 t2).2).1).length : Int))) then
  bif inB t2 t1_0.1.length then
  let l4 := t1_0.1.set t2.toNat ((rdA ([], [], 0) t1_0.1 t2).1, (((rdA ([], [], 0) p0.1 t2).2).1).take p2.toNat, ((rdA ([], [], 0) t1_0.1 t2).2).2)
  bif inB t2 p0.1.length then
  bif inB t2 l4.length then
  let l5 := l4.set t2.toNat ((rdA ([], [], 0) l4 t2).1, ((rdA ([], [], 0) l4 t2).2).1, if p2 < ((rdA ([], [], 0) p0.1 t2).2).2 then p2 else ((rdA ([], [], 0) p0.1 t2).2).2)
  some ((l5, t1_0.2), 0)
  else none
  else none
  else none
  else none
  else none
  else none

noncomputable def impl_Truncate.f (p0 : List (List UInt8 × List UInt8 × Int) × Int × Int × Bool) (p1 : List UInt8) (p2 : Int) : Option ((List (List UInt8 × List UInt8 × Int) × Int × Int × Bool) × Int) :=
  (impl_step_Truncate_1.f p0 (p1, p2)).bind fun (t1_0, t1_1) =>
  some (t1_0, t1_1)

noncomputable def laws_FnExactTruncate.f (p0 : List (List UInt8 × List UInt8 × Int) × Int × Int × Bool) (p1 : List UInt8) (p2 : Int) : Option (Bool) :=
  bif decide ((p1.length : Int) > 1048576) then
  some true
  else
  (laws_szDisk.f p0 1048576).bind fun t1 =>
  bif decide (t1 < 0) then
  some true
  else
  (laws_toDisk.f p0).bind fun t2 =>
  (spec_Truncate.f t2 p1 p2).bind fun (t3_0, t3_1) =>
  (laws_toDisk.f p0).bind fun t4 =>
  (impl_Truncate.f t4 p1 p2).bind fun (t5_0, t5_1) =>
  (laws_eqDisk.f t5_0 t3_0).bind fun t6 =>
  bif !t6 then
  some false
  else
  bif t5_1 != t3_1 then
  some false
  else
  (laws_toDisk.f p0).bind fun t7 =>
  (laws_eqDisk.f t4 t7).bind fun t8 =>
  bif !t8 then
  some false
  else
  (laws_markDisk.f t4 1).bind fun (t9_0, t9_1) =>
  bif decide (t9_0 < 0) then
  some false
  else
  (laws_eqDisk.f t5_0 t3_0).bind fun t10 =>
  bif !t10 then
  some false
  else
  bif t5_1 != t3_1 then
  some false
  else
  (laws_markDisk.f t5_0 1).bind fun (t11_0, t11_1) =>
  (laws_heldDisk.f (t11_1.1, t5_0.2) 1).bind fun t12 =>
  bif decide (t12 < 0) then
  some false
  else
  bif t12 != t11_0 then
  some false
  else
  (laws_toDisk.f p0).bind fun t13 =>
  (impl_Truncate.f t13 p1 p2).bind fun (t14_0, t14_1) =>
  (laws_eqDisk.f t14_0 t3_0).bind fun t15 =>
  bif !t15 then
  some false
  else
  bif t14_1 != t3_1 then
  some false
  else
  (laws_heldDisk.f (t11_1.1, t5_0.2) 1).bind fun t16 =>
  bif decide (t16 < 0) then
  some false
  else
  bif t16 != t11_0 then
  some false
  else
  some true

noncomputable def laws_heldTxn.f (p0 : Bool × List (List UInt8 × Int) × List (List UInt8 × Bool × List UInt8)) (p1 : Int) : Option (Int) :=
  (laws_heldReadRowS.f p0.2.1 p1).bind fun t1 =>
  bif decide (t1 < 0) then
  some (-1)
  else
  (laws_heldPutS.f p0.2.2 t1).bind fun t2 =>
  bif decide (t2 < 0) then
  some (-1)
  else
  some t2

noncomputable def spec_Append.f (p0 : List (List UInt8 × List UInt8 × Int) × Int × Int × Bool) (p1 : List UInt8) (p2 : List UInt8) : Option ((List (List UInt8 × List UInt8 × Int) × Int × Int × Bool) × Int) :=
  (spec_l3Begin.f p0).bind fun (t1_0, t1_1) =>
  bif t1_1 != 0 then
  some (t1_0, t1_1)
  else
  (spec_l3Find.f p0 p1).bind fun t2 =>
  bif decide (t2 < 0) then
  some (t1_0, 3)
  else
  (spec_l3Used.f p0).bind fun t3 =>
  bif decide ((p2.length : Int) > (w64 (p0.2.1 - t3))) then
  some (t1_0, 2)
  else
  bif inB t2 p0.1.length then
  bif decide ((((rdA ([], [], 0) p0.1 t2).2).1).length + p2.length ≤ 9223372036854775807) then
  bif inB t2 t1_0.1.length then
  let l4 := t1_0.1.set t2.toNat ((rdA ([], [], 0) t1_0.1 t2).1, (((rdA ([], [], 0) p0.1 t2).2).1) ++ p2, ((rdA ([], [], 0) t1_0.1 t2).2).2)
  some ((l4, t1_0.2), 0)
  else none
  else none
  else none

noncomputable def impl_Append.f (p0 : List (List UInt8 × List UInt8 × Int) × Int × Int × Bool) (p1 : List UInt8) (p2 : List UInt8) : Option ((List (List UInt8 × List UInt8 × Int) × Int × Int × Bool) × Int) :=
  (impl_step_Append_1.f p0 (p1, p2)).bind fun (t1_0, t1_1) =>
  some (t1_0, t1_1)

noncomputable def laws_FnExactAppend.f (p0 : List (List UInt8 × List UInt8 × Int) × Int × Int × Bool) (p1 : List UInt8) (p2 : List UInt8) : Option (Bool) :=
  bif decide ((p1.length : Int) > 1048576) then
  some true
  else
  bif decide ((p2.length : Int) > 1048576) then
  some true
  else
  (laws_szDisk.f p0 1048576).bind fun t1 =>
  bif decide (t1 < 0) then
  some true
  else
  (laws_toDisk.f p0).bind fun t2 =>
  (spec_Append.f t2 p1 p2).bind fun (t3_0, t3_1) =>
  (laws_toDisk.f p0).bind fun t4 =>
  (impl_Append.f t4 p1 p2).bind fun (t5_0, t5_1) =>
  (laws_eqDisk.f t5_0 t3_0).bind fun t6 =>
  bif !t6 then
  some false
  else
  bif t5_1 != t3_1 then
  some false
  else
  (laws_toDisk.f p0).bind fun t7 =>
  (laws_eqDisk.f t4 t7).bind fun t8 =>
  bif !t8 then
  some false
  else
  (laws_markDisk.f t4 1).bind fun (t9_0, t9_1) =>
  bif decide (t9_0 < 0) then
  some false
  else
  (laws_eqDisk.f t5_0 t3_0).bind fun t10 =>
  bif !t10 then
  some false
  else
  bif t5_1 != t3_1 then
  some false
  else
  (laws_markDisk.f t5_0 1).bind fun (t11_0, t11_1) =>
  (laws_heldDisk.f (t11_1.1, t5_0.2) 1).bind fun t12 =>
  bif decide (t12 < 0) then
  some false
  else
  bif t12 != t11_0 then
  some false
  else
  (laws_toDisk.f p0).bind fun t13 =>
  (impl_Append.f t13 p1 p2).bind fun (t14_0, t14_1) =>
  (laws_eqDisk.f t14_0 t3_0).bind fun t15 =>
  bif !t15 then
  some false
  else
  bif t14_1 != t3_1 then
  some false
  else
  (laws_heldDisk.f (t11_1.1, t5_0.2) 1).bind fun t16 =>
  bif decide (t16 < 0) then
  some false
  else
  bif t16 != t11_0 then
  some false
  else
  some true

noncomputable def spec_l3Insert.l0 (rec : (List (List UInt8 × List UInt8 × Int) × (List UInt8 × List UInt8 × Int) × List (List UInt8 × List UInt8 × Int) × Bool × Int) → Option ((List UInt8 × List UInt8 × Int) × List (List UInt8 × List UInt8 × Int) × Bool)) : (List (List UInt8 × List UInt8 × Int) × (List UInt8 × List UInt8 × Int) × List (List UInt8 × List UInt8 × Int) × Bool × Int) → Option ((List UInt8 × List UInt8 × Int) × List (List UInt8 × List UInt8 × Int) × Bool) := fun (x0, x3, x5, x6, x7) =>
  bif decide (x7 < (x0.length : Int)) then
  (bif !x6 then
  bif inB x7 x0.length then
  bif !(Op.bytesLess ((rdA ([], [], 0) x0 x7).1) x3.1 || ((rdA ([], [], 0) x0 x7).1) == x3.1) then
  bif decide ((x5.length + [x3].length) * 40 ≤ 140737488355328) then
  some (x0, x3, x5 ++ [x3], true, x7)
  else none
  else
  some (x0, x3, x5, x6, x7)
  else none
  else
  some (x0, x3, x5, x6, x7) : Option (List (List UInt8 × List UInt8 × Int) × (List UInt8 × List UInt8 × Int) × List (List UInt8 × List UInt8 × Int) × Bool × Int)).bind (fun (x0, x3, x5, x6, x7) =>
  bif inB x7 x0.length then
  bif decide ((x5.length + ([((rdA ([], [], 0) x0 x7).1, ((rdA ([], [], 0) x0 x7).2))] : List (List UInt8 × List UInt8 × Int)).length) * 40 ≤ 140737488355328) then
  let l1 := x5 ++ ([((rdA ([], [], 0) x0 x7).1, ((rdA ([], [], 0) x0 x7).2))] : List (List UInt8 × List UInt8 × Int))
  rec (x0, x3, l1, x6, w64 (x7 + 1))
  else none
  else none)
  else
  some (x3, x5, x6)
noncomputable def spec_l3Insert.f (p0 : List (List UInt8 × List UInt8 × Int)) (p1 : List UInt8 × List UInt8 × Int) : Option (List (List UInt8 × List UInt8 × Int)) :=
  (lp spec_l3Insert.l0 (p0, p1, ([] : List (List UInt8 × List UInt8 × Int)), false, 0)).bind (fun (x3, x5, x6) =>
  bif !x6 then
  bif decide ((x5.length + [x3].length) * 40 ≤ 140737488355328) then
  some (x5 ++ [x3])
  else none
  else
  some x5)

noncomputable def spec_Create.f (p0 : List (List UInt8 × List UInt8 × Int) × Int × Int × Bool) (p1 : List UInt8) : Option ((List (List UInt8 × List UInt8 × Int) × Int × Int × Bool) × Int) :=
  (spec_l3Begin.f p0).bind fun (t1_0, t1_1) =>
  bif t1_1 != 0 then
  some (t1_0, t1_1)
  else
  (spec_NameOk.f p1).bind fun t2 =>
  bif !t2 then
  some (t1_0, 5)
  else
  (spec_l3Find.f p0 p1).bind fun t3 =>
  bif decide (t3 ≥ 0) then
  some (t1_0, 4)
  else
  bif decide ((p0.1.length : Int) ≥ 130) then
  some (t1_0, 2)
  else
  (spec_l3Insert.f t1_0.1 (p1, [], 0)).bind fun t4 =>
  some ((t4, t1_0.2), 0)

noncomputable def impl_Create.f (p0 : List (List UInt8 × List UInt8 × Int) × Int × Int × Bool) (p1 : List UInt8) : Option ((List (List UInt8 × List UInt8 × Int) × Int × Int × Bool) × Int) :=
  (impl_step_Create_1.f p0 p1).bind fun (t1_0, t1_1) =>
  some (t1_0, t1_1)

noncomputable def laws_FnExactCreate.f (p0 : List (List UInt8 × List UInt8 × Int) × Int × Int × Bool) (p1 : List UInt8) : Option (Bool) :=
  bif decide ((p1.length : Int) > 1048576) then
  some true
  else
  (laws_szDisk.f p0 1048576).bind fun t1 =>
  bif decide (t1 < 0) then
  some true
  else
  (laws_toDisk.f p0).bind fun t2 =>
  (spec_Create.f t2 p1).bind fun (t3_0, t3_1) =>
  (laws_toDisk.f p0).bind fun t4 =>
  (impl_Create.f t4 p1).bind fun (t5_0, t5_1) =>
  (laws_eqDisk.f t5_0 t3_0).bind fun t6 =>
  bif !t6 then
  some false
  else
  bif t5_1 != t3_1 then
  some false
  else
  (laws_toDisk.f p0).bind fun t7 =>
  (laws_eqDisk.f t4 t7).bind fun t8 =>
  bif !t8 then
  some false
  else
  (laws_markDisk.f t4 1).bind fun (t9_0, t9_1) =>
  bif decide (t9_0 < 0) then
  some false
  else
  (laws_eqDisk.f t5_0 t3_0).bind fun t10 =>
  bif !t10 then
  some false
  else
  bif t5_1 != t3_1 then
  some false
  else
  (laws_markDisk.f t5_0 1).bind fun (t11_0, t11_1) =>
  (laws_heldDisk.f (t11_1.1, t5_0.2) 1).bind fun t12 =>
  bif decide (t12 < 0) then
  some false
  else
  bif t12 != t11_0 then
  some false
  else
  (laws_toDisk.f p0).bind fun t13 =>
  (impl_Create.f t13 p1).bind fun (t14_0, t14_1) =>
  (laws_eqDisk.f t14_0 t3_0).bind fun t15 =>
  bif !t15 then
  some false
  else
  bif t14_1 != t3_1 then
  some false
  else
  (laws_heldDisk.f (t11_1.1, t5_0.2) 1).bind fun t16 =>
  bif decide (t16 < 0) then
  some false
  else
  bif t16 != t11_0 then
  some false
  else
  some true

noncomputable def laws_szAck.f (p0 : Int × List (List UInt8 × Bool × List UInt8)) (p1 : Int) : Option (Int) :=
  (laws_szPutS.f p0.2 p1).bind fun t1 =>
  bif decide (t1 < 0) then
  some (-1)
  else
  some t1

noncomputable def laws_szAckS.l0 (rec : (List (Int × List (List UInt8 × Bool × List UInt8)) × Int × Int) → Option ((Int) ⊕ (Int))) : (List (Int × List (List UInt8 × Bool × List UInt8)) × Int × Int) → Option ((Int) ⊕ (Int)) := fun (x0, x1, x5) =>
  bif decide (x5 < (x0.length : Int)) then
  bif inB x5 x0.length then
  (laws_szAck.f (rdA (0, []) x0 x5) x1).bind fun t2 =>
  bif decide (t2 < 0) then
  some (Sum.inr (-1))
  else
  rec (x0, t2, w64 (x5 + 1))
  else none
  else
  some (Sum.inl x1)
noncomputable def laws_szAckS.f (p0 : List (Int × List (List UInt8 × Bool × List UInt8))) (p1 : Int) : Option (Int) :=
  let y1 := w64 (p1 - (p0.length : Int))
  bif decide (y1 < 0) then
  some (-1)
  else
  (lp laws_szAckS.l0 (p0, y1, 0)).bind (fun o3 => caseS o3 (fun x1 =>
  some x1) (fun x4 =>
  some x4))

noncomputable def laws_toAck.f (p0 : Int × List (List UInt8 × Bool × List UInt8)) : Option (Int × List (List UInt8 × Bool × List UInt8)) :=
  (laws_toPutS.f p0.2).bind fun t1 =>
  some (p0.1, t1)

noncomputable def laws_toAckS.l0 (rec : (List (Int × List (List UInt8 × Bool × List UInt8)) × List (Int × List (List UInt8 × Bool × List UInt8)) × Int) → Option (List (Int × List (List UInt8 × Bool × List UInt8)))) : (List (Int × List (List UInt8 × Bool × List UInt8)) × List (Int × List (List UInt8 × Bool × List UInt8)) × Int) → Option (List (Int × List (List UInt8 × Bool × List UInt8))) := fun (x0, x3, x4) =>
  bif decide (x4 < (x0.length : Int)) then
  bif inB x4 x0.length then
  (laws_toAck.f (rdA (0, []) x0 x4)).bind fun t2 =>
  bif inB x4 x3.length then
  let l3 := x3.set x4.toNat t2
  rec (x0, l3, w64 (x4 + 1))
  else none
  else none
  else
  some x3
noncomputable def laws_toAckS.f (p0 : List (Int × List (List UInt8 × Bool × List UInt8))) : Option (List (Int × List (List UInt8 × Bool × List UInt8))) :=
  bif ((p0.length : Int) == (p0.length : Int)) then
  bif (decide (0 ≤ (p0.length : Int)) && decide (32 * (p0.length : Int) ≤ 140737488355328)) then
  let l1 := List.replicate (p0.length : Int).toNat (0, [])
  (lp laws_toAckS.l0 (p0, l1, 0)).bind (fun x3 =>
  some x3)
  else none
  else none

noncomputable def laws_eqAck.f (p0 : Int × List (List UInt8 × Bool × List UInt8)) (p1 : Int × List (List UInt8 × Bool × List UInt8)) : Option (Bool) :=
  bif p0.1 != p1.1 then
  some false
  else
  (laws_eqPutS.f p0.2 p1.2).bind fun t1 =>
  bif !t1 then
  some false
  else
  some true

noncomputable def laws_eqAckS.l0 (rec : (List (Int × List (List UInt8 × Bool × List UInt8)) × List (Int × List (List UInt8 × Bool × List UInt8)) × Int) → Option ((Unit) ⊕ (Bool))) : (List (Int × List (List UInt8 × Bool × List UInt8)) × List (Int × List (List UInt8 × Bool × List UInt8)) × Int) → Option ((Unit) ⊕ (Bool)) := fun (x0, x1, x5) =>
  bif decide (x5 < (x0.length : Int)) then
  bif inB x5 x0.length then
  bif inB x5 x1.length then
  (laws_eqAck.f (rdA (0, []) x0 x5) (rdA (0, []) x1 x5)).bind fun t1 =>
  bif !t1 then
  some (Sum.inr false)
  else
  rec (x0, x1, w64 (x5 + 1))
  else none
  else none
  else
  some (Sum.inl ())
noncomputable def laws_eqAckS.f (p0 : List (Int × List (List UInt8 × Bool × List UInt8))) (p1 : List (Int × List (List UInt8 × Bool × List UInt8))) : Option (Bool) :=
  bif (p0.length : Int) != (p1.length : Int) then
  some false
  else
  (lp laws_eqAckS.l0 (p0, p1, 0)).bind (fun o2 => caseS o2 (fun _ =>
  some true) (fun x4 =>
  some x4))

noncomputable def impl_TxnWrite.f (p0 : Bool × List (List UInt8 × Int) × List (List UInt8 × Bool × List UInt8)) (p1 : List UInt8 × Bool × List UInt8) : Option ((Bool × List (List UInt8 × Int) × List (List UInt8 × Bool × List UInt8)) × Bool) :=
  (impl_copyTxn.f p0).bind fun t1 =>
  bif decide ((t1.2.2.length + [p1].length) * 40 ≤ 140737488355328) then
  let l2 := t1.2.2 ++ [p1]
  bif !p0.1 then
  (impl_copyTxn.f p0).bind fun t3 =>
  some (t3, false)
  else
  (impl_putOk.f p1).bind fun t4 =>
  bif !t4 then
  (impl_copyTxn.f p0).bind fun t5 =>
  some (t5, false)
  else
  (impl_NetWrites.f (t1.1, t1.2.1, l2)).bind fun t6 =>
  bif decide ((t6.length : Int) > 8) then
  (impl_copyTxn.f p0).bind fun t7 =>
  some (t7, false)
  else
  bif decide ((l2.length : Int) > 50) then
  (impl_copyTxn.f p0).bind fun t8 =>
  some (t8, false)
  else
  some ((t1.1, t1.2.1, l2), true)
  else none

noncomputable def laws_FnExactTxnWrite.f (p0 : Bool × List (List UInt8 × Int) × List (List UInt8 × Bool × List UInt8)) (p1 : List UInt8 × Bool × List UInt8) : Option (Bool) :=
  (laws_szTxn.f p0 1048576).bind fun t1 =>
  bif decide (t1 < 0) then
  some true
  else
  (laws_szPut.f p1 t1).bind fun t2 =>
  bif decide (t2 < 0) then
  some true
  else
  (laws_toTxn.f p0).bind fun t3 =>
  (laws_toPut.f p1).bind fun t4 =>
  (spec_TxnWrite.f t3 t4).bind fun (t5_0, t5_1) =>
  (laws_toTxn.f p0).bind fun t6 =>
  (laws_toPut.f p1).bind fun t7 =>
  (impl_TxnWrite.f t6 t7).bind fun (t8_0, t8_1) =>
  (laws_eqTxn.f t8_0 t5_0).bind fun t9 =>
  bif !t9 then
  some false
  else
  bif !(t8_1 == t5_1) then
  some false
  else
  (laws_toTxn.f p0).bind fun t10 =>
  (laws_eqTxn.f t6 t10).bind fun t11 =>
  bif !t11 then
  some false
  else
  (laws_markTxn.f t6 1).bind fun (t12_0, t12_1) =>
  bif decide (t12_0 < 0) then
  some false
  else
  (laws_eqTxn.f t8_0 t5_0).bind fun t13 =>
  bif !t13 then
  some false
  else
  bif !(t8_1 == t5_1) then
  some false
  else
  (laws_markTxn.f t8_0 1).bind fun (t14_0, t14_1) =>
  (laws_heldTxn.f (t8_0.1, t14_1.2) 1).bind fun t15 =>
  bif decide (t15 < 0) then
  some false
  else
  bif t15 != t14_0 then
  some false
  else
  (laws_toTxn.f p0).bind fun t16 =>
  (laws_toPut.f p1).bind fun t17 =>
  (impl_TxnWrite.f t16 t17).bind fun (t18_0, t18_1) =>
  (laws_eqTxn.f t18_0 t5_0).bind fun t19 =>
  bif !t19 then
  some false
  else
  bif !(t18_1 == t5_1) then
  some false
  else
  (laws_heldTxn.f (t8_0.1, t14_1.2) 1).bind fun t20 =>
  bif decide (t20 < 0) then
  some false
  else
  bif t20 != t14_0 then
  some false
  else
  some true

noncomputable def spec_Rename.f (p0 : List (List UInt8 × List UInt8 × Int) × Int × Int × Bool) (p1 : List UInt8) (p2 : List UInt8) : Option ((List (List UInt8 × List UInt8 × Int) × Int × Int × Bool) × Int) :=
  (spec_l3Begin.f p0).bind fun (t1_0, t1_1) =>
  bif t1_1 != 0 then
  some (t1_0, t1_1)
  else
  (spec_NameOk.f p2).bind fun t2 =>
  bif !t2 then
  some (t1_0, 5)
  else
  (spec_l3Find.f p0 p1).bind fun t3 =>
  bif decide (t3 < 0) then
  some (t1_0, 3)
  else
  bif p1 == p2 then
  some (t1_0, 0)
  else
  bif inB t3 p0.1.length then
  let y4 := (rdA ([], [], 0) p0.1 t3).1
  let y5 := ((rdA ([], [], 0) p0.1 t3).2).1
  let y6 := ((rdA ([], [], 0) p0.1 t3).2).2
  (spec_l3Without.f t1_0.1 t3).bind fun t7 =>
  (spec_l3Find.f (t7, t1_0.2) p2).bind fun t8 =>
  (bif decide (t8 ≥ 0) then
  (spec_l3Without.f t7 t8).bind fun t9 =>
  some (([], 0, 0, false), (t9, t1_0.2), (p2, y5, y6))
  else
  some (([], 0, 0, false), (t7, t1_0.2), (p2, y5, y6)) : Option ((List (List UInt8 × List UInt8 × Int) × Int × Int × Bool) × (List (List UInt8 × List UInt8 × Int) × Int × Int × Bool) × List UInt8 × List UInt8 × Int)).bind (fun (x6, x8, x11) =>
  (spec_l3Insert.f x8.1 x11).bind fun t10 =>
  some ((t10, x8.2), 0))
  else none

noncomputable def impl_Rename.f (p0 : List (List UInt8 × List UInt8 × Int) × Int × Int × Bool) (p1 : List UInt8) (p2 : List UInt8) : Option ((List (List UInt8 × List UInt8 × Int) × Int × Int × Bool) × Int) :=
  (impl_step_Rename_1.f p0 (p1, p2)).bind fun (t1_0, t1_1) =>
  some (t1_0, t1_1)

noncomputable def laws_FnExactRename.f (p0 : List (List UInt8 × List UInt8 × Int) × Int × Int × Bool) (p1 : List UInt8) (p2 : List UInt8) : Option (Bool) :=
  bif decide ((p1.length : Int) > 1048576) then
  some true
  else
  bif decide ((p2.length : Int) > 1048576) then
  some true
  else
  (laws_szDisk.f p0 1048576).bind fun t1 =>
  bif decide (t1 < 0) then
  some true
  else
  (laws_toDisk.f p0).bind fun t2 =>
  (spec_Rename.f t2 p1 p2).bind fun (t3_0, t3_1) =>
  (laws_toDisk.f p0).bind fun t4 =>
  (impl_Rename.f t4 p1 p2).bind fun (t5_0, t5_1) =>
  (laws_eqDisk.f t5_0 t3_0).bind fun t6 =>
  bif !t6 then
  some false
  else
  bif t5_1 != t3_1 then
  some false
  else
  (laws_toDisk.f p0).bind fun t7 =>
  (laws_eqDisk.f t4 t7).bind fun t8 =>
  bif !t8 then
  some false
  else
  (laws_markDisk.f t4 1).bind fun (t9_0, t9_1) =>
  bif decide (t9_0 < 0) then
  some false
  else
  (laws_eqDisk.f t5_0 t3_0).bind fun t10 =>
  bif !t10 then
  some false
  else
  bif t5_1 != t3_1 then
  some false
  else
  (laws_markDisk.f t5_0 1).bind fun (t11_0, t11_1) =>
  (laws_heldDisk.f (t11_1.1, t5_0.2) 1).bind fun t12 =>
  bif decide (t12 < 0) then
  some false
  else
  bif t12 != t11_0 then
  some false
  else
  (laws_toDisk.f p0).bind fun t13 =>
  (impl_Rename.f t13 p1 p2).bind fun (t14_0, t14_1) =>
  (laws_eqDisk.f t14_0 t3_0).bind fun t15 =>
  bif !t15 then
  some false
  else
  bif t14_1 != t3_1 then
  some false
  else
  (laws_heldDisk.f (t11_1.1, t5_0.2) 1).bind fun t16 =>
  bif decide (t16 < 0) then
  some false
  else
  bif t16 != t11_0 then
  some false
  else
  some true

end Go.Rf.G
