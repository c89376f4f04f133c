import Derived.Test.YtaijadchooalpaaRf5
open Option renaming bind_some→bS
open List renaming length_append→lA,append_assoc→aA,mem_cons_of_mem→mC,mem_append→mA,mem_append_right→mR,mem_append_left→mL,mem_cons→mc,drop_eq_getElem_cons→dG,length_take→lT,length_drop→lD,mem_map→mM,length_map→lM,length_cons→lC,length_nil→lN,getElem_mem→gM,map_append→mp,mem_singleton→mZ,nodup_append→κ1,mem_cons_self→κ2,append_nil→κ3,flatMap_append→κ5,nodup_cons→κ9,range'→κA,take_append_drop→κB,map_cons→κD,cons_append→κF
open Bool renaming and_eq_true→bA,eq_false_or_eq_true→bE,not_true→nZ,not_false→nF,true_and→tA,not_not→nn,or_eq_false_iff→κ4
open Int renaming toNat_natCast→tN,ofNat_lt→oL
open Nat renaming eq_of_beq_eq_true→κ0,le_of_ble_eq_true→κ6,lt_of_lt_of_le→κ7,lt_or_ge→κ8,le_refl→κE
open Array renaming length_toList→κC
set_option linter.unusedVariables false
set_option linter.unusedSimpArgs false
namespace Go.Rf.G
noncomputable section
open Go Go.Rf
abbrev QS:=(Int×List Int)×List (List UInt8×Int×Int×Int×Int)×Int×Int×Int
abbrev QD:=List (List UInt8×List UInt8×Int)×Int×Int×Bool
abbrev QR:=Int×Int×List UInt8×List UInt8×Int×Int
abbrev QE:=List UInt8×Int×Int×Int×Int
abbrev QP:=List UInt8×Bool×List UInt8
abbrev QF:=List UInt8×List UInt8×Int
abbrev QB:=List UInt8
abbrev QT:=Bool×List (QB×Int)×List (QP)
abbrev QL:=List (Int×Int×Int×QR)
abbrev QN:=Bool×(QS)×(QD)×List (QT)
abbrev QC:=List Int×Int×Int
abbrev QA:=Int×QB×List (QB)
def ψM.f:Option (Bool×List (QF)×Int×List (QT)):=
 let l1:=List.replicate 3 (false,[],[])
 some (true,[],1,l1)
def ψ3.f (p0:QF) (p1:QF):Option (Bool):=
 bif !(p0.1==p1.1) then
 some false
 else
 bif !(p0.2.1==p1.2.1) then
 some false
 else
 bif p0.2.2 != p1.2.2 then
 some false
 else
 some true
def ψ4.l0 (rec:(List (QF)×List (QF)×Int)→Option ((Unit) ⊕ (Bool))):(List (QF)×List (QF)×Int)→Option ((Unit) ⊕ (Bool)):=fun (x0,x1,x5)=>
 bif decide (x5<(x0.length:Int)) then
 bif inB x5 x0.length then
 bif inB x5 x1.length then
 (ψ3.f ((rdA ([],[],0) x0 x5).1,((rdA ([],[],0) x0 x5).2)) ((rdA ([],[],0) x1 x5).1,((rdA ([],[],0) x1 x5).2))).bind fun t1=>
 bif !t1 then
 some (Sum.inr false)
 else
 rec (x0,x1,w64 (x5+1))
 else none
 else none
 else
 some (Sum.inl ())
def ψ4.f (p0:List (QF)) (p1:List (QF)):Option (Bool):=
 bif (p0.length:Int) != (p1.length:Int) then
 some false
 else
 (lp ψ4.l0 (p0,p1,0)).bind (fun o2=>φi o2 (fun _=>
 some true) (fun x4=>
 some x4))
def ψ5.f (p0:QP) (p1:QP):Option (Bool):=
 bif !(p0.1==p1.1) then
 some false
 else
 bif !(p0.2.1==p1.2.1) then
 some false
 else
 bif !(p0.2.2==p1.2.2) then
 some false
 else
 some true
def ψ6.l0 (rec:(List (QP)×List (QP)×Int)→Option ((Unit) ⊕ (Bool))):(List (QP)×List (QP)×Int)→Option ((Unit) ⊕ (Bool)):=fun (x0,x1,x5)=>
 bif decide (x5<(x0.length:Int)) then
 bif inB x5 x0.length then
 bif inB x5 x1.length then
 (ψ5.f ((rdA ([],false,[]) x0 x5).1,((rdA ([],false,[]) x0 x5).2)) ((rdA ([],false,[]) x1 x5).1,((rdA ([],false,[]) x1 x5).2))).bind fun t1=>
 bif !t1 then
 some (Sum.inr false)
 else
 rec (x0,x1,w64 (x5+1))
 else none
 else none
 else
 some (Sum.inl ())
def ψ6.f (p0:List (QP)) (p1:List (QP)):Option (Bool):=
 bif (p0.length:Int) != (p1.length:Int) then
 some false
 else
 (lp ψ6.l0 (p0,p1,0)).bind (fun o2=>φi o2 (fun _=>
 some true) (fun x4=>
 some x4))
def ψ7.f (p0:QB×Int) (p1:QB×Int):Option (Bool):=
 bif !(p0.1==p1.1) then
 some false
 else
 bif p0.2 != p1.2 then
 some false
 else
 some true
def ψ8.l0 (rec:(List (QB×Int)×List (QB×Int)×Int)→Option ((Unit) ⊕ (Bool))):(List (QB×Int)×List (QB×Int)×Int)→Option ((Unit) ⊕ (Bool)):=fun (x0,x1,x5)=>
 bif decide (x5<(x0.length:Int)) then
 bif inB x5 x0.length then
 bif inB x5 x1.length then
 (ψ7.f (rdA ([],0) x0 x5) (rdA ([],0) x1 x5)).bind fun t1=>
 bif !t1 then
 some (Sum.inr false)
 else
 rec (x0,x1,w64 (x5+1))
 else none
 else none
 else
 some (Sum.inl ())
def ψ8.f (p0:List (QB×Int)) (p1:List (QB×Int)):Option (Bool):=
 bif (p0.length:Int) != (p1.length:Int) then
 some false
 else
 (lp ψ8.l0 (p0,p1,0)).bind (fun o2=>φi o2 (fun _=>
 some true) (fun x4=>
 some x4))
def ψ9.f (p0:QT) (p1:QT):Option (Bool):=
 bif !(p0.1==p1.1) then
 some false
 else
 (ψ8.f p0.2.1 p1.2.1).bind fun t1=>
 bif !t1 then
 some false
 else
 (ψ6.f p0.2.2 p1.2.2).bind fun t2=>
 bif !t2 then
 some false
 else
 some true
def ψK.l0 (rec:(Int×QB)→Option (QB)):(Int×QB)→Option (QB):=fun (x0,x3)=>
 bif decide (x0 > 0) then
 bif decide ((φ12 [IntKind.wrap .u8 (w64 (48+(Int.tmod x0 10)))]).length+x3.length≤9223372036854775807) then
 let y1:=(φ12 [IntKind.wrap .u8 (w64 (48+(Int.tmod x0 10)))])++x3
 let y2:=w64 (Int.tdiv x0 10)
 rec (y2,y1)
 else none
 else
 some x3
def ψK.f (p0:Int):Option (QB):=
 bif decide (p0≤0) then
 some [109,48]
 else
 (lp ψK.l0 (p0,[])).bind (fun x3=>
 bif decide (([109]:QB).length+x3.length≤9223372036854775807) then
 some ([109]++x3)
 else none)
def ψH.l0 (rec:(List (QF)×Int×Int)→Option (List (QF)×Int)):(List (QF)×Int×Int)→Option (List (QF)×Int):=fun (x0,x1,x5)=>
 bif decide (x5<(x0.length:Int)) then
 (ψK.f x1).bind fun t1=>
 bif inB x5 x0.length then
 let l2:=x0.set x5.toNat (t1,(rdA ([],[],0) x0 x5).2)
 (ψK.f (w64 (x1+1))).bind fun t3=>
 bif inB x5 l2.length then
 let l4:=l2.set x5.toNat ((rdA ([],[],0) l2 x5).1,t3,((rdA ([],[],0) l2 x5).2).2)
 let y5:=w64 ((w64 (x1+1))+1)
 bif inB x5 l4.length then
 let l6:=l4.set x5.toNat ((rdA ([],[],0) l4 x5).1,((rdA ([],[],0) l4 x5).2).1,y5)
 rec (l6,w64 (y5+1),w64 (x5+1))
 else none
 else none
 else none
 else
 some (x0,x1)
def ψH.f (p0:List (QF)) (p1:Int):Option (Int×List (QF)):=
 (lp ψH.l0 (p0,p1,0)).bind (fun (x0,x1)=>
 some (x1,x0))
def ψI.l0 (rec:(List (QP)×Int×Int)→Option (List (QP)×Int)):(List (QP)×Int×Int)→Option (List (QP)×Int):=fun (x0,x1,x5)=>
 bif decide (x5<(x0.length:Int)) then
 (ψK.f x1).bind fun t1=>
 bif inB x5 x0.length then
 let l2:=x0.set x5.toNat (t1,(rdA ([],false,[]) x0 x5).2)
 bif inB x5 l2.length then
 let l3:=l2.set x5.toNat ((rdA ([],false,[]) l2 x5).1,(Int.tmod (w64 (x1+1)) 3)==0,((rdA ([],false,[]) l2 x5).2).2)
 let y4:=w64 ((w64 (x1+1))+1)
 (ψK.f y4).bind fun t5=>
 bif inB x5 l3.length then
 let l6:=l3.set x5.toNat ((rdA ([],false,[]) l3 x5).1,((rdA ([],false,[]) l3 x5).2).1,t5)
 rec (l6,w64 (y4+1),w64 (x5+1))
 else none
 else none
 else none
 else
 some (x0,x1)
def ψI.f (p0:List (QP)) (p1:Int):Option (Int×List (QP)):=
 (lp ψI.l0 (p0,p1,0)).bind (fun (x0,x1)=>
 some (x1,x0))
def ψC.l0 (rec:(List (QF)×Int×Int)→Option ((Int) ⊕ (Int))):(List (QF)×Int×Int)→Option ((Int) ⊕ (Int)):=fun (x0,x1,x5)=>
 bif decide (x5<(x0.length:Int)) then
 bif inB x5 x0.length then
 (ψK.f x1).bind fun t1=>
 bif !(((rdA ([],[],0) x0 x5).1)==t1) then
 some (Sum.inr (-1))
 else
 bif inB x5 x0.length then
 (ψK.f (w64 (x1+1))).bind fun t2=>
 bif !((((rdA ([],[],0) x0 x5).2).1)==t2) then
 some (Sum.inr (-1))
 else
 let y3:=w64 ((w64 (x1+1))+1)
 bif inB x5 x0.length then
 bif (((rdA ([],[],0) x0 x5).2).2) != y3 then
 some (Sum.inr (-1))
 else
 rec (x0,w64 (y3+1),w64 (x5+1))
 else none
 else none
 else none
 else
 some (Sum.inl x1)
def ψC.f (p0:List (QF)) (p1:Int):Option (Int):=
 (lp ψC.l0 (p0,p1,0)).bind (fun o4=>φi o4 (fun x1=>
 some x1) (fun x4=>
 some x4))
def ψJ.l0 (rec:(List (QB×Int)×Int×Int)→Option (List (QB×Int)×Int)):(List (QB×Int)×Int×Int)→Option (List (QB×Int)×Int):=fun (x0,x1,x5)=>
 bif decide (x5<(x0.length:Int)) then
 (ψK.f x1).bind fun t1=>
 bif inB x5 x0.length then
 let l2:=x0.set x5.toNat (t1,(rdA ([],0) x0 x5).2)
 bif inB x5 l2.length then
 let l3:=l2.set x5.toNat ((rdA ([],0) l2 x5).1,w64 (x1+1))
 let y4:=w64 ((w64 (x1+1))+1)
 rec (l3,y4,w64 (x5+1))
 else none
 else none
 else
 some (x0,x1)
def ψJ.f (p0:List (QB×Int)) (p1:Int):Option (Int×List (QB×Int)):=
 (lp ψJ.l0 (p0,p1,0)).bind (fun (x0,x1)=>
 some (x1,x0))
def ψD.l0 (rec:(List (QP)×Int×Int)→Option ((Int) ⊕ (Int))):(List (QP)×Int×Int)→Option ((Int) ⊕ (Int)):=fun (x0,x1,x5)=>
 bif decide (x5<(x0.length:Int)) then
 bif inB x5 x0.length then
 (ψK.f x1).bind fun t1=>
 bif !(((rdA ([],false,[]) x0 x5).1)==t1) then
 some (Sum.inr (-1))
 else
 bif inB x5 x0.length then
 bif !((((rdA ([],false,[]) x0 x5).2).1)==((Int.tmod (w64 (x1+1)) 3)==0)) then
 some (Sum.inr (-1))
 else
 let y2:=w64 ((w64 (x1+1))+1)
 bif inB x5 x0.length then
 (ψK.f y2).bind fun t3=>
 bif !((((rdA ([],false,[]) x0 x5).2).2)==t3) then
 some (Sum.inr (-1))
 else
 rec (x0,w64 (y2+1),w64 (x5+1))
 else none
 else none
 else none
 else
 some (Sum.inl x1)
def ψD.f (p0:List (QP)) (p1:Int):Option (Int):=
 (lp ψD.l0 (p0,p1,0)).bind (fun o4=>φi o4 (fun x1=>
 some x1) (fun x4=>
 some x4))
def ψA.l0 (rec:(List (QT)×List (QT)×Int)→Option ((Unit) ⊕ (Bool))):(List (QT)×List (QT)×Int)→Option ((Unit) ⊕ (Bool)):=fun (x0,x1,x5)=>
 bif decide (x5<(x0.length:Int)) then
 bif inB x5 x0.length then
 bif inB x5 x1.length then
 (ψ9.f ((rdA (false,[],[]) x0 x5).1,((rdA (false,[],[]) x0 x5).2)) ((rdA (false,[],[]) x1 x5).1,((rdA (false,[],[]) x1 x5).2))).bind fun t1=>
 bif !t1 then
 some (Sum.inr false)
 else
 rec (x0,x1,w64 (x5+1))
 else none
 else none
 else
 some (Sum.inl ())
def ψA.f (p0:List (QT)) (p1:List (QT)):Option (Bool):=
 bif (p0.length:Int) != (p1.length:Int) then
 some false
 else
 (lp ψA.l0 (p0,p1,0)).bind (fun o2=>φi o2 (fun _=>
 some true) (fun x4=>
 some x4))
def ψ2.f (p0:Bool×List (QF)×Int×List (QT)) (p1:Bool×List (QF)×Int×List (QT)):Option (Bool):=
 bif !(p0.1==p1.1) then
 some false
 else
 (ψ4.f p0.2.1 p1.2.1).bind fun t1=>
 bif !t1 then
 some false
 else
 bif p0.2.2.1 != p1.2.2.1 then
 some false
 else
 (ψA.f p0.2.2.2 p1.2.2.2).bind fun t2=>
 bif !t2 then
 some false
 else
 some true
def ψE.l0 (rec:(List (QB×Int)×Int×Int)→Option ((Int) ⊕ (Int))):(List (QB×Int)×Int×Int)→Option ((Int) ⊕ (Int)):=fun (x0,x1,x5)=>
 bif decide (x5<(x0.length:Int)) then
 bif inB x5 x0.length then
 (ψK.f x1).bind fun t1=>
 bif !(((rdA ([],0) x0 x5).1)==t1) then
 some (Sum.inr (-1))
 else
 bif inB x5 x0.length then
 bif ((rdA ([],0) x0 x5).2) != (w64 (x1+1)) then
 some (Sum.inr (-1))
 else
 let y2:=w64 ((w64 (x1+1))+1)
 rec (x0,y2,w64 (x5+1))
 else none
 else none
 else
 some (Sum.inl x1)
def ψE.f (p0:List (QB×Int)) (p1:Int):Option (Int):=
 (lp ψE.l0 (p0,p1,0)).bind (fun o3=>φi o3 (fun x1=>
 some x1) (fun x4=>
 some x4))
def ψ0.f:Option (Bool×List (QF)×Int×List (QT)):=
 let l1:=List.replicate 3 (false,[],[])
 some (true,[],1,l1)
def ψL.l0 (rec:(List (QT)×Int×Int)→Option (List (QT)×Int)):(List (QT)×Int×Int)→Option (List (QT)×Int):=fun (x0,x1,x5)=>
 bif decide (x5<(x0.length:Int)) then
 bif inB x5 x0.length then
 let l1:=x0.set x5.toNat ((Int.tmod x1 3)==0,(rdA (false,[],[]) x0 x5).2)
 bif inB x5 l1.length then
 (ψJ.f (((rdA (false,[],[]) l1 x5).2).1) (w64 (x1+1))).bind fun (t2_0,t2_1)=>
 let l3:=l1.set x5.toNat ((rdA (false,[],[]) l1 x5).1,t2_1,((rdA (false,[],[]) l1 x5).2).2)
 bif inB x5 l3.length then
 (ψI.f (((rdA (false,[],[]) l3 x5).2).2) t2_0).bind fun (t4_0,t4_1)=>
 let l5:=l3.set x5.toNat ((rdA (false,[],[]) l3 x5).1,((rdA (false,[],[]) l3 x5).2).1,t4_1)
 rec (l5,t4_0,w64 (x5+1))
 else none
 else none
 else none
 else
 some (x0,x1)
def ψL.f (p0:List (QT)) (p1:Int):Option (Int×List (QT)):=
 (lp ψL.l0 (p0,p1,0)).bind (fun (x0,x1)=>
 some (x1,x0))
def ψG.f (p0:Bool×List (QF)×Int×List (QT)) (p1:Int):Option (Int×Bool×List (QF)×Int×List (QT)):=
 (ψH.f p0.2.1 p1).bind fun (t1_0,t1_1)=>
 (ψL.f p0.2.2.2 t1_0).bind fun (t2_0,t2_1)=>
 some (t2_0,(p0.1,t1_1,p0.2.2.1,t2_1))
def ψF.l0 (rec:(List (QT)×Int×Int)→Option ((Int) ⊕ (Int))):(List (QT)×Int×Int)→Option ((Int) ⊕ (Int)):=fun (x0,x1,x5)=>
 bif decide (x5<(x0.length:Int)) then
 bif inB x5 x0.length then
 bif !(((rdA (false,[],[]) x0 x5).1)==((Int.tmod x1 3)==0)) then
 some (Sum.inr (-1))
 else
 bif inB x5 x0.length then
 (ψE.f (((rdA (false,[],[]) x0 x5).2).1) (w64 (x1+1))).bind fun t1=>
 bif decide (t1<0) then
 some (Sum.inr (-1))
 else
 bif inB x5 x0.length then
 (ψD.f (((rdA (false,[],[]) x0 x5).2).2) t1).bind fun t2=>
 bif decide (t2<0) then
 some (Sum.inr (-1))
 else
 rec (x0,t2,w64 (x5+1))
 else none
 else none
 else none
 else
 some (Sum.inl x1)
def ψF.f (p0:List (QT)) (p1:Int):Option (Int):=
 (lp ψF.l0 (p0,p1,0)).bind (fun o3=>φi o3 (fun x1=>
 some x1) (fun x4=>
 some x4))
def ψB.f (p0:Bool×List (QF)×Int×List (QT)) (p1:Int):Option (Int):=
 (ψC.f p0.2.1 p1).bind fun t1=>
 bif decide (t1<0) then
 some (-1)
 else
 (ψF.f p0.2.2.2 t1).bind fun t2=>
 bif decide (t2<0) then
 some (-1)
 else
 some t2
def ψ1.f:Option (Bool):=
 (ψM.f).bind fun t1=>
 (ψ0.f).bind fun t2=>
 (ψ2.f t2 t1).bind fun t3=>
 bif !t3 then
 some false
 else
 (ψG.f t2 1).bind fun (t4_0,t4_1)=>
 (ψB.f (t2.1,t4_1.2.1,t2.2.2.1,t4_1.2.2.2) 1).bind fun t5=>
 bif decide (t5<0) then
 some false
 else
 bif t5 != t4_0 then
 some false
 else
 (ψ0.f).bind fun t6=>
 (ψ2.f t6 t1).bind fun t7=>
 bif !t7 then
 some false
 else
 (ψB.f (t2.1,t4_1.2.1,t2.2.2.1,t4_1.2.2.2) 1).bind fun t8=>
 bif decide (t8<0) then
 some false
 else
 bif t8 != t4_0 then
 some false
 else
 some true
end
end Go.Rf.G
