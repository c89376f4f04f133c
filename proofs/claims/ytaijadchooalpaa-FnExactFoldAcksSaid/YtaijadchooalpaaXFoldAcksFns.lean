import Derived.Test.YtaijadchooalpaaRf5
open Option renaming bind_some→bS
open List renaming length_append→lA,append_assoc→aA,mem_cons_of_mem→mC,mem_append→mA,mem_append_right→mR,mem_append_left→mL,mem_cons→mc,drop_eq_getElem_cons→dG,length_take→lT,length_drop→lD,mem_map→mM,length_map→lM,length_cons→lC,length_nil→lN,getElem_mem→gM,map_append→mp,mem_singleton→mZ,nodup_append→κ1,mem_cons_self→κ2,append_nil→κ3,flatMap_append→κ6,nodup_cons→κ9,range'→κB,take_append_drop→κC,take_succ_eq_append_getElem→κE,map_cons→κF,cons_append→κG
open Bool renaming and_eq_true→bA,eq_false_or_eq_true→bE,not_true→nZ,not_false→nF,true_and→tA,not_not→nn,or_eq_false_iff→κ4
open Int renaming toNat_natCast→tN,ofNat_lt→oL
open Nat renaming eq_of_beq_eq_true→κ0,lt_or_ge→κ5,le_of_ble_eq_true→κ7,lt_of_lt_of_le→κ8,le_refl→κA
open Array renaming length_toList→κD
set_option linter.unusedVariables false
set_option linter.unusedSimpArgs false
namespace Go.Rf.G
noncomputable section
open Go Go.Rf
abbrev QS:=(Int×List Int)×List (List UInt8×Int×Int×Int×Int)×Int×Int×Int
abbrev QD:=List (List UInt8×List UInt8×Int)×Int×Int×Bool
abbrev QR:=Int×Int×List UInt8×List UInt8×Int×Int
abbrev QE:=List UInt8×Int×Int×Int×Int
abbrev QP:=List UInt8×Bool×List UInt8
abbrev QF:=List UInt8×List UInt8×Int
abbrev QB:=List UInt8
abbrev QT:=Bool×List (QB×Int)×List (QP)
abbrev QL:=List (Int×Int×Int×QR)
abbrev QN:=Bool×(QS)×(QD)×List (QT)
abbrev QC:=List Int×Int×Int
abbrev QA:=Int×QB×List (QB)
def ψU.l0 (rec:(List (QF)×(QF)×List (QF)×Bool×Int)→Option ((QF)×List (QF)×Bool)):(List (QF)×(QF)×List (QF)×Bool×Int)→Option ((QF)×List (QF)×Bool):=fun (x0,x4,x7,x8,x9)=>
 bif decide (x9<(x0.length:Int)) then
 (bif inB x9 x0.length then
 bif ((rdA ([],[],0) x0 x9).1)==x4.1 then
 some (x0,x4,x7,x8,x9)
 else
 (bif !x8 then
 bif inB x9 x0.length then
 bif !(Op.bytesLess ((rdA ([],[],0) x0 x9).1) x4.1 || ((rdA ([],[],0) x0 x9).1)==x4.1) then
 bif decide ((x7.length+[x4].length) * 40≤140737488355328) then
 some (x0,x4,x7++[x4],true,x9)
 else none
 else
 some (x0,x4,x7,x8,x9)
 else none
 else
 some (x0,x4,x7,x8,x9):Option (List (QF)×(QF)×List (QF)×Bool×Int)).bind (fun (x0,x4,x7,x8,x9)=>
 bif inB x9 x0.length then
 bif decide ((x7.length+([((rdA ([],[],0) x0 x9).1,((rdA ([],[],0) x0 x9).2))]:List (QF)).length) * 40≤140737488355328) then
 let l1:=x7++([((rdA ([],[],0) x0 x9).1,((rdA ([],[],0) x0 x9).2))]:List (QF))
 some (x0,x4,l1,x8,x9)
 else none
 else none)
 else none:Option (List (QF)×(QF)×List (QF)×Bool×Int)).bind (fun (x0,x4,x7,x8,x9)=>
 rec (x0,x4,x7,x8,w64 (x9+1)))
 else
 some (x4,x7,x8)
def ψU.f (p0:List (QF)) (p1:QF) (p2:Bool):Option (List (QF)):=
 (lp ψU.l0 (p0,p1,([]:List (QF)),p2,0)).bind (fun (x4,x7,x8)=>
 bif !x8 then
 bif decide ((x7.length+[x4].length) * 40≤140737488355328) then
 some (x7++[x4])
 else none
 else
 some x7)
def ψS.l0 (rec:(List (QP)×Int×List (QF)×Int)→Option (List (QF))):(List (QP)×Int×List (QF)×Int)→Option (List (QF)):=fun (x1,x2,x7,x8)=>
 bif decide (x8<(x1.length:Int)) then
 bif inB x8 x1.length then
 bif inB x8 x1.length then
 bif inB x8 x1.length then
 (ψU.f x7 ((rdA ([],false,[]) x1 x8).1,((rdA ([],false,[]) x1 x8).2).2,x2) (((rdA ([],false,[]) x1 x8).2).1)).bind fun t2=>
 rec (x1,x2,t2,w64 (x8+1))
 else none
 else none
 else none
 else
 some x7
def ψS.f (p0:List (QF)) (p1:List (QP)) (p2:Int):Option (List (QF)):=
 bif decide ((([]:List (QF)).length+p0.length) * 40≤140737488355328) then
 let l1:=([]:List (QF))++p0
 (lp ψS.l0 (p1,p2,l1,0)).bind (fun x7=>
 some x7)
 else none
def ψ7.f (p0:QF) (p1:QF):Option (Bool):=
 bif !(p0.1==p1.1) then
 some false
 else
 bif !(p0.2.1==p1.2.1) then
 some false
 else
 bif p0.2.2 != p1.2.2 then
 some false
 else
 some true
def ψI.f (p0:QF) (p1:Int):Option (Int):=
 let y1:=w64 (p1 - (p0.1.length:Int))
 bif decide (y1<0) then
 some (-1)
 else
 let y2:=w64 (y1 - (p0.2.1.length:Int))
 bif decide (y2<0) then
 some (-1)
 else
 some y2
def ψJ.l0 (rec:(List (QF)×Int×Int)→Option ((Int) ⊕ (Int))):(List (QF)×Int×Int)→Option ((Int) ⊕ (Int)):=fun (x0,x1,x5)=>
 bif decide (x5<(x0.length:Int)) then
 bif inB x5 x0.length then
 (ψI.f ((rdA ([],[],0) x0 x5).1,((rdA ([],[],0) x0 x5).2)) x1).bind fun t2=>
 bif decide (t2<0) then
 some (Sum.inr (-1))
 else
 rec (x0,t2,w64 (x5+1))
 else none
 else
 some (Sum.inl x1)
def ψJ.f (p0:List (QF)) (p1:Int):Option (Int):=
 let y1:=w64 (p1 - (p0.length:Int))
 bif decide (y1<0) then
 some (-1)
 else
 (lp ψJ.l0 (p0,y1,0)).bind (fun o3=>φx o3 (fun x1=>
 some x1) (fun x4=>
 some x4))
def ψO.f (p0:QF):Option (QF):=
 some p0
def ψP.l0 (rec:(List (QF)×List (QF)×Int)→Option (List (QF))):(List (QF)×List (QF)×Int)→Option (List (QF)):=fun (x0,x3,x4)=>
 bif decide (x4<(x0.length:Int)) then
 bif inB x4 x0.length then
 (ψO.f ((rdA ([],[],0) x0 x4).1,((rdA ([],[],0) x0 x4).2))).bind fun t2=>
 bif inB x4 x3.length then
 let l3:=x3.set x4.toNat t2
 rec (x0,l3,w64 (x4+1))
 else none
 else none
 else
 some x3
def ψP.f (p0:List (QF)):Option (List (QF)):=
 bif ((p0.length:Int)==(p0.length:Int)) then
 bif (decide (0≤(p0.length:Int)) && decide (40 * (p0.length:Int)≤140737488355328)) then
 let l1:=List.replicate (p0.length:Int).toNat ([],[],0)
 (lp ψP.l0 (p0,l1,0)).bind (fun x3=>
 some x3)
 else none
 else none
def ψ8.l0 (rec:(List (QF)×List (QF)×Int)→Option ((Unit) ⊕ (Bool))):(List (QF)×List (QF)×Int)→Option ((Unit) ⊕ (Bool)):=fun (x0,x1,x5)=>
 bif decide (x5<(x0.length:Int)) then
 bif inB x5 x0.length then
 bif inB x5 x1.length then
 (ψ7.f ((rdA ([],[],0) x0 x5).1,((rdA ([],[],0) x0 x5).2)) ((rdA ([],[],0) x1 x5).1,((rdA ([],[],0) x1 x5).2))).bind fun t1=>
 bif !t1 then
 some (Sum.inr false)
 else
 rec (x0,x1,w64 (x5+1))
 else none
 else none
 else
 some (Sum.inl ())
def ψ8.f (p0:List (QF)) (p1:List (QF)):Option (Bool):=
 bif (p0.length:Int) != (p1.length:Int) then
 some false
 else
 (lp ψ8.l0 (p0,p1,0)).bind (fun o2=>φx o2 (fun _=>
 some true) (fun x4=>
 some x4))
def ψK.f (p0:QP) (p1:Int):Option (Int):=
 let y1:=w64 (p1 - (p0.1.length:Int))
 bif decide (y1<0) then
 some (-1)
 else
 let y2:=w64 (y1 - (p0.2.2.length:Int))
 bif decide (y2<0) then
 some (-1)
 else
 some y2
def ψL.l0 (rec:(List (QP)×Int×Int)→Option ((Int) ⊕ (Int))):(List (QP)×Int×Int)→Option ((Int) ⊕ (Int)):=fun (x0,x1,x5)=>
 bif decide (x5<(x0.length:Int)) then
 bif inB x5 x0.length then
 (ψK.f ((rdA ([],false,[]) x0 x5).1,((rdA ([],false,[]) x0 x5).2)) x1).bind fun t2=>
 bif decide (t2<0) then
 some (Sum.inr (-1))
 else
 rec (x0,t2,w64 (x5+1))
 else none
 else
 some (Sum.inl x1)
def ψL.f (p0:List (QP)) (p1:Int):Option (Int):=
 let y1:=w64 (p1 - (p0.length:Int))
 bif decide (y1<0) then
 some (-1)
 else
 (lp ψL.l0 (p0,y1,0)).bind (fun o3=>φx o3 (fun x1=>
 some x1) (fun x4=>
 some x4))
def ψQ.f (p0:QP):Option (QP):=
 some p0
def ψR.l0 (rec:(List (QP)×List (QP)×Int)→Option (List (QP))):(List (QP)×List (QP)×Int)→Option (List (QP)):=fun (x0,x3,x4)=>
 bif decide (x4<(x0.length:Int)) then
 bif inB x4 x0.length then
 (ψQ.f ((rdA ([],false,[]) x0 x4).1,((rdA ([],false,[]) x0 x4).2))).bind fun t2=>
 bif inB x4 x3.length then
 let l3:=x3.set x4.toNat t2
 rec (x0,l3,w64 (x4+1))
 else none
 else none
 else
 some x3
def ψR.f (p0:List (QP)):Option (List (QP)):=
 bif ((p0.length:Int)==(p0.length:Int)) then
 bif (decide (0≤(p0.length:Int)) && decide (40 * (p0.length:Int)≤140737488355328)) then
 let l1:=List.replicate (p0.length:Int).toNat ([],false,[])
 (lp ψR.l0 (p0,l1,0)).bind (fun x3=>
 some x3)
 else none
 else none
def ψ9.f (p0:QP) (p1:QP):Option (Bool):=
 bif !(p0.1==p1.1) then
 some false
 else
 bif !(p0.2.1==p1.2.1) then
 some false
 else
 bif !(p0.2.2==p1.2.2) then
 some false
 else
 some true
def ψA.l0 (rec:(List (QP)×List (QP)×Int)→Option ((Unit) ⊕ (Bool))):(List (QP)×List (QP)×Int)→Option ((Unit) ⊕ (Bool)):=fun (x0,x1,x5)=>
 bif decide (x5<(x0.length:Int)) then
 bif inB x5 x0.length then
 bif inB x5 x1.length then
 (ψ9.f ((rdA ([],false,[]) x0 x5).1,((rdA ([],false,[]) x0 x5).2)) ((rdA ([],false,[]) x1 x5).1,((rdA ([],false,[]) x1 x5).2))).bind fun t1=>
 bif !t1 then
 some (Sum.inr false)
 else
 rec (x0,x1,w64 (x5+1))
 else none
 else none
 else
 some (Sum.inl ())
def ψA.f (p0:List (QP)) (p1:List (QP)):Option (Bool):=
 bif (p0.length:Int) != (p1.length:Int) then
 some false
 else
 (lp ψA.l0 (p0,p1,0)).bind (fun o2=>φx o2 (fun _=>
 some true) (fun x4=>
 some x4))
def ψ2.f (p0:List (QF)):Option (List (QF)):=
 bif decide ((([]:List (QF)).length+p0.length) * 40≤140737488355328) then
 let l1:=([]:List (QF))++p0
 some l1
 else none
def ψ3.l0 (rec:(QB×List (QF)×List (QF)×Int×Int)→Option (List (QF))):(QB×List (QF)×List (QF)×Int×Int)→Option (List (QF)):=fun (x1,x5,x8,x9,x10)=>
 bif decide (x10<x9) then
 bif inB x10 x8.length then
 let y1:=(rdA ([],[],0) x8 x10).1
 let y2:=((rdA ([],[],0) x8 x10).2).1
 let y3:=((rdA ([],[],0) x8 x10).2).2
 (bif !(y1==x1) then
 bif decide ((x5.length+[(y1,y2,y3)].length) * 40≤140737488355328) then
 let l4:=x5++[(y1,y2,y3)]
 some (x1,l4,x8,x9,x10)
 else none
 else
 some (x1,x5,x8,x9,x10):Option (QB×List (QF)×List (QF)×Int×Int)).bind (fun (x1,x5,x8,x9,x10)=>
 rec (x1,x5,x8,x9,w64 (x10+1)))
 else none
 else
 some x5
def ψ3.f (p0:List (QF)) (p1:QB):Option (List (QF)):=
 (lp ψ3.l0 (p1,[],p0,(p0.length:Int),0)).bind (fun x5=>
 some x5)
def ψ0.l2 (rec:(Int×List (QF)×(QP)×Int×List (QP)×Int×Int)→Option (Int×List (QF)×(QP)×Int×List (QP)×Int×Int)):(Int×List (QF)×(QP)×Int×List (QP)×Int×Int)→Option (Int×List (QF)×(QP)×Int×List (QP)×Int×Int):=fun (x2,x7,x9,x10,x13,x14,x15)=>
 bif decide (x10<(x7.length:Int)) then
 bif inB x10 x7.length then
 bif (Op.bytesLess ((rdA ([],[],0) x7 x10).1) x9.1 || ((rdA ([],[],0) x7 x10).1)==x9.1) then
 rec (x2,x7,x9,w64 (x10+1),x13,x14,x15)
 else
 some (x2,x7,x9,x10,x13,x14,x15)
 else none
 else
 some (x2,x7,x9,x10,x13,x14,x15)
def ψ0.l0 (rec:(Int×List (QF)×List (QP)×Int×Int)→Option (List (QF))):(Int×List (QF)×List (QP)×Int×Int)→Option (List (QF)):=fun (x2,x7,x13,x14,x15)=>
 bif decide (x15<x14) then
 (bif inB x15 x13.length then
 let y2:=(rdA ([],false,[]) x13 x15).1
 let y3:=((rdA ([],false,[]) x13 x15).2).1
 let y4:=((rdA ([],false,[]) x13 x15).2).2
 (ψ3.f x7 y2).bind fun t5=>
 bif y3 then
 some (x2,t5,x13,x14,x15)
 else
 (lp ψ0.l2 (x2,t5,(y2,y3,y4),0,x13,x14,x15)).bind (fun (x2,x7,x9,x10,x13,x14,x15)=>
 bif (decide (0≤x10) && decide (x10≤(x7.length:Int))) then
 (ψ2.f (x7.take x10.toNat)).bind fun t6=>
 bif decide ((t6.length+[(x9.1,x9.2.2,x2)].length) * 40≤140737488355328) then
 let l7:=t6++[(x9.1,x9.2.2,x2)]
 bif (decide (0≤x10) && decide (x10≤(x7.length:Int))) then
 bif decide ((l7.length+(x7.drop x10.toNat).length) * 40≤140737488355328) then
 let l8:=l7++(x7.drop x10.toNat)
 some (x2,l8,x13,x14,x15)
 else none
 else none
 else none
 else none)
 else none:Option (Int×List (QF)×List (QP)×Int×Int)).bind (fun (x2,x7,x13,x14,x15)=>
 rec (x2,x7,x13,x14,w64 (x15+1)))
 else
 some x7
def ψ0.f (p0:List (QF)) (p1:List (QP)) (p2:Int):Option (List (QF)):=
 (ψ2.f p0).bind fun t1=>
 (lp ψ0.l0 (p2,t1,p1,(p1.length:Int),0)).bind (fun x7=>
 some x7)
def ψF.l0 (rec:(Int×QB)→Option (QB)):(Int×QB)→Option (QB):=fun (x0,x3)=>
 bif decide (x0 > 0) then
 bif decide ((φ18 [IntKind.wrap .u8 (w64 (48+(Int.tmod x0 10)))]).length+x3.length≤9223372036854775807) then
 let y1:=(φ18 [IntKind.wrap .u8 (w64 (48+(Int.tmod x0 10)))])++x3
 let y2:=w64 (Int.tdiv x0 10)
 rec (y2,y1)
 else none
 else
 some x3
def ψF.f (p0:Int):Option (QB):=
 bif decide (p0≤0) then
 some [109,48]
 else
 (lp ψF.l0 (p0,[])).bind (fun x3=>
 bif decide (([109]:QB).length+x3.length≤9223372036854775807) then
 some ([109]++x3)
 else none)
def ψD.l0 (rec:(List (QF)×Int×Int)→Option (List (QF)×Int)):(List (QF)×Int×Int)→Option (List (QF)×Int):=fun (x0,x1,x5)=>
 bif decide (x5<(x0.length:Int)) then
 (ψF.f x1).bind fun t1=>
 bif inB x5 x0.length then
 let l2:=x0.set x5.toNat (t1,(rdA ([],[],0) x0 x5).2)
 (ψF.f (w64 (x1+1))).bind fun t3=>
 bif inB x5 l2.length then
 let l4:=l2.set x5.toNat ((rdA ([],[],0) l2 x5).1,t3,((rdA ([],[],0) l2 x5).2).2)
 let y5:=w64 ((w64 (x1+1))+1)
 bif inB x5 l4.length then
 let l6:=l4.set x5.toNat ((rdA ([],[],0) l4 x5).1,((rdA ([],[],0) l4 x5).2).1,y5)
 rec (l6,w64 (y5+1),w64 (x5+1))
 else none
 else none
 else none
 else
 some (x0,x1)
def ψD.f (p0:List (QF)) (p1:Int):Option (Int×List (QF)):=
 (lp ψD.l0 (p0,p1,0)).bind (fun (x0,x1)=>
 some (x1,x0))
def ψE.l0 (rec:(List (QP)×Int×Int)→Option (List (QP)×Int)):(List (QP)×Int×Int)→Option (List (QP)×Int):=fun (x0,x1,x5)=>
 bif decide (x5<(x0.length:Int)) then
 (ψF.f x1).bind fun t1=>
 bif inB x5 x0.length then
 let l2:=x0.set x5.toNat (t1,(rdA ([],false,[]) x0 x5).2)
 bif inB x5 l2.length then
 let l3:=l2.set x5.toNat ((rdA ([],false,[]) l2 x5).1,(Int.tmod (w64 (x1+1)) 3)==0,((rdA ([],false,[]) l2 x5).2).2)
 let y4:=w64 ((w64 (x1+1))+1)
 (ψF.f y4).bind fun t5=>
 bif inB x5 l3.length then
 let l6:=l3.set x5.toNat ((rdA ([],false,[]) l3 x5).1,((rdA ([],false,[]) l3 x5).2).1,t5)
 rec (l6,w64 (y4+1),w64 (x5+1))
 else none
 else none
 else none
 else
 some (x0,x1)
def ψE.f (p0:List (QP)) (p1:Int):Option (Int×List (QP)):=
 (lp ψE.l0 (p0,p1,0)).bind (fun (x0,x1)=>
 some (x1,x0))
def ψB.l0 (rec:(List (QF)×Int×Int)→Option ((Int) ⊕ (Int))):(List (QF)×Int×Int)→Option ((Int) ⊕ (Int)):=fun (x0,x1,x5)=>
 bif decide (x5<(x0.length:Int)) then
 bif inB x5 x0.length then
 (ψF.f x1).bind fun t1=>
 bif !(((rdA ([],[],0) x0 x5).1)==t1) then
 some (Sum.inr (-1))
 else
 bif inB x5 x0.length then
 (ψF.f (w64 (x1+1))).bind fun t2=>
 bif !((((rdA ([],[],0) x0 x5).2).1)==t2) then
 some (Sum.inr (-1))
 else
 let y3:=w64 ((w64 (x1+1))+1)
 bif inB x5 x0.length then
 bif (((rdA ([],[],0) x0 x5).2).2) != y3 then
 some (Sum.inr (-1))
 else
 rec (x0,w64 (y3+1),w64 (x5+1))
 else none
 else none
 else none
 else
 some (Sum.inl x1)
def ψB.f (p0:List (QF)) (p1:Int):Option (Int):=
 (lp ψB.l0 (p0,p1,0)).bind (fun o4=>φx o4 (fun x1=>
 some x1) (fun x4=>
 some x4))
def ψG.f (p0:Int×List (QP)) (p1:Int):Option (Int):=
 (ψL.f p0.2 p1).bind fun t1=>
 bif decide (t1<0) then
 some (-1)
 else
 some t1
def ψH.l0 (rec:(List (Int×List (QP))×Int×Int)→Option ((Int) ⊕ (Int))):(List (Int×List (QP))×Int×Int)→Option ((Int) ⊕ (Int)):=fun (x0,x1,x5)=>
 bif decide (x5<(x0.length:Int)) then
 bif inB x5 x0.length then
 (ψG.f (rdA (0,[]) x0 x5) x1).bind fun t2=>
 bif decide (t2<0) then
 some (Sum.inr (-1))
 else
 rec (x0,t2,w64 (x5+1))
 else none
 else
 some (Sum.inl x1)
def ψH.f (p0:List (Int×List (QP))) (p1:Int):Option (Int):=
 let y1:=w64 (p1 - (p0.length:Int))
 bif decide (y1<0) then
 some (-1)
 else
 (lp ψH.l0 (p0,y1,0)).bind (fun o3=>φx o3 (fun x1=>
 some x1) (fun x4=>
 some x4))
def ψM.f (p0:Int×List (QP)):Option (Int×List (QP)):=
 (ψR.f p0.2).bind fun t1=>
 some (p0.1,t1)
def ψN.l0 (rec:(List (Int×List (QP))×List (Int×List (QP))×Int)→Option (List (Int×List (QP)))):(List (Int×List (QP))×List (Int×List (QP))×Int)→Option (List (Int×List (QP))):=fun (x0,x3,x4)=>
 bif decide (x4<(x0.length:Int)) then
 bif inB x4 x0.length then
 (ψM.f (rdA (0,[]) x0 x4)).bind fun t2=>
 bif inB x4 x3.length then
 let l3:=x3.set x4.toNat t2
 rec (x0,l3,w64 (x4+1))
 else none
 else none
 else
 some x3
def ψN.f (p0:List (Int×List (QP))):Option (List (Int×List (QP))):=
 bif ((p0.length:Int)==(p0.length:Int)) then
 bif (decide (0≤(p0.length:Int)) && decide (32 * (p0.length:Int)≤140737488355328)) then
 let l1:=List.replicate (p0.length:Int).toNat (0,[])
 (lp ψN.l0 (p0,l1,0)).bind (fun x3=>
 some x3)
 else none
 else none
def ψ5.f (p0:Int×List (QP)) (p1:Int×List (QP)):Option (Bool):=
 bif p0.1 != p1.1 then
 some false
 else
 (ψA.f p0.2 p1.2).bind fun t1=>
 bif !t1 then
 some false
 else
 some true
def ψ6.l0 (rec:(List (Int×List (QP))×List (Int×List (QP))×Int)→Option ((Unit) ⊕ (Bool))):(List (Int×List (QP))×List (Int×List (QP))×Int)→Option ((Unit) ⊕ (Bool)):=fun (x0,x1,x5)=>
 bif decide (x5<(x0.length:Int)) then
 bif inB x5 x0.length then
 bif inB x5 x1.length then
 (ψ5.f (rdA (0,[]) x0 x5) (rdA (0,[]) x1 x5)).bind fun t1=>
 bif !t1 then
 some (Sum.inr false)
 else
 rec (x0,x1,w64 (x5+1))
 else none
 else none
 else
 some (Sum.inl ())
def ψ6.f (p0:List (Int×List (QP))) (p1:List (Int×List (QP))):Option (Bool):=
 bif (p0.length:Int) != (p1.length:Int) then
 some false
 else
 (lp ψ6.l0 (p0,p1,0)).bind (fun o2=>φx o2 (fun _=>
 some true) (fun x4=>
 some x4))
def ψ1.l0 (rec:(List (QF)×List (Int×List (QP))×Int×Int)→Option (List (QF))):(List (QF)×List (Int×List (QP))×Int×Int)→Option (List (QF)):=fun (x5,x10,x11,x12)=>
 bif decide (x12<x11) then
 bif inB x12 x10.length then
 let y2:=(rdA (0,[]) x10 x12).1
 (ψ0.f x5 ((rdA (0,[]) x10 x12).2) y2).bind fun t3=>
 rec (t3,x10,x11,w64 (x12+1))
 else none
 else
 some x5
def ψ1.f (p0:List (QF)) (p1:List (Int×List (QP))):Option (List (QF)):=
 (ψ2.f p0).bind fun t1=>
 (lp ψ1.l0 (t1,p1,(p1.length:Int),0)).bind (fun x5=>
 some x5)
def ψT.l0 (rec:(List (Int×List (QP))×List (QF)×Int)→Option (List (QF))):(List (Int×List (QP))×List (QF)×Int)→Option (List (QF)):=fun (x1,x5,x6)=>
 bif decide (x6<(x1.length:Int)) then
 bif inB x6 x1.length then
 bif inB x6 x1.length then
 (ψS.f x5 ((rdA (0,[]) x1 x6).2) ((rdA (0,[]) x1 x6).1)).bind fun t2=>
 rec (x1,t2,w64 (x6+1))
 else none
 else none
 else
 some x5
def ψT.f (p0:List (QF)) (p1:List (Int×List (QP))):Option (List (QF)):=
 bif decide ((([]:List (QF)).length+p0.length) * 40≤140737488355328) then
 let l1:=([]:List (QF))++p0
 (lp ψT.l0 (p1,l1,0)).bind (fun x5=>
 some x5)
 else none
def ψC.l0 (rec:(List (Int×List (QP))×Int×Int)→Option (List (Int×List (QP))×Int)):(List (Int×List (QP))×Int×Int)→Option (List (Int×List (QP))×Int):=fun (x0,x1,x5)=>
 bif decide (x5<(x0.length:Int)) then
 bif inB x5 x0.length then
 let l1:=x0.set x5.toNat (x1,(rdA (0,[]) x0 x5).2)
 bif inB x5 l1.length then
 (ψE.f ((rdA (0,[]) l1 x5).2) (w64 (x1+1))).bind fun (t2_0,t2_1)=>
 let l3:=l1.set x5.toNat ((rdA (0,[]) l1 x5).1,t2_1)
 rec (l3,t2_0,w64 (x5+1))
 else none
 else none
 else
 some (x0,x1)
def ψC.f (p0:List (Int×List (QP))) (p1:Int):Option (Int×List (Int×List (QP))):=
 (lp ψC.l0 (p0,p1,0)).bind (fun (x0,x1)=>
 some (x1,x0))
def ψ4.f (p0:List (QF)) (p1:List (Int×List (QP))):Option (Bool):=
 (ψJ.f p0 1048576).bind fun t1=>
 bif decide (t1<0) then
 some true
 else
 (ψH.f p1 t1).bind fun t2=>
 bif decide (t2<0) then
 some true
 else
 (ψP.f p0).bind fun t3=>
 (ψN.f p1).bind fun t4=>
 (ψT.f t3 t4).bind fun t5=>
 (ψP.f p0).bind fun t6=>
 (ψN.f p1).bind fun t7=>
 (ψ1.f t6 t7).bind fun t8=>
 (ψ8.f t8 t5).bind fun t9=>
 bif !t9 then
 some false
 else
 (ψP.f p0).bind fun t10=>
 (ψ8.f t6 t10).bind fun t11=>
 bif !t11 then
 some false
 else
 (ψN.f p1).bind fun t12=>
 (ψ6.f t7 t12).bind fun t13=>
 bif !t13 then
 some false
 else
 (ψD.f t6 1).bind fun (t14_0,t14_1)=>
 (ψC.f t7 t14_0).bind fun (t15_0,t15_1)=>
 bif decide (t15_0<0) then
 some false
 else
 (ψ8.f t8 t5).bind fun t16=>
 bif !t16 then
 some false
 else
 (ψD.f t8 1).bind fun (t17_0,t17_1)=>
 (ψB.f t17_1 1).bind fun t18=>
 bif decide (t18<0) then
 some false
 else
 bif t18 != t17_0 then
 some false
 else
 (ψP.f p0).bind fun t19=>
 (ψN.f p1).bind fun t20=>
 (ψ1.f t19 t20).bind fun t21=>
 (ψ8.f t21 t5).bind fun t22=>
 bif !t22 then
 some false
 else
 (ψB.f t17_1 1).bind fun t23=>
 bif decide (t23<0) then
 some false
 else
 bif t23 != t17_0 then
 some false
 else
 some true
end
end Go.Rf.G
