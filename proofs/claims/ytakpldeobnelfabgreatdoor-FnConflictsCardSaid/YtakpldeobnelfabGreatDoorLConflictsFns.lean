import Derived.Test.YtakpldeobnelfabGreatDoorLConflictsFns1
open Option renaming bind_some→bS
open List renaming length_append→lA,append_assoc→aA,mem_cons_of_mem→mC,mem_append→mA,mem_append_right→mR,mem_append_left→mL,mem_cons→mc,drop_eq_getElem_cons→dG,length_take→lT,length_drop→lD,mem_map→mM,length_map→lM,length_cons→lC,length_nil→lN,getElem_mem→gM,map_append→mp,mem_singleton→mZ
open Bool renaming and_eq_true→bA,eq_false_or_eq_true→bE,not_true→nZ,not_false→nF,true_and→tA,not_not→nn
open Int renaming toNat_natCast→tN,ofNat_lt→oL
namespace Go.Rf.G
noncomputable section
open Go Go.Rf
set_option linter.unusedVariables false
def ψ2M.f (p0:List Int):Option ((QN)×Int×Int×QF):=
 (ψ3g.f p0).bind fun t1=>
 (ψ3Z.f t1).bind fun (t2_0,t2_1)=>
 (ψ3b.f t2_1).bind fun (t3_0,t3_1)=>
 (ψ3d.f t3_1 14).bind fun (t4_0,t4_1)=>
 bif t4_0==0 then
 (ψ3j.f t4_1 [0,5,40,(-1),100000,9223372036854775807]).bind fun (t5_0,t5_1)=>
 some (t2_0,(11,0,[],[],t5_0))
 else
 bif t4_0==1 then
 (ψ3d.f t4_1 4).bind fun (t6_0,t6_1)=>
 some ((t2_0.1,t2_0.2.1,(t2_0.2.2.1.1,t2_0.2.2.1.2.1,t6_0,t2_0.2.2.1.2.2.2),t2_0.2.2.2),t3_0)
 else
 bif t4_0==2 then
 (ψ3d.f t4_1 (w64 ((t2_0.2.2.2.length:Int)+1))).bind fun (t7_0,t7_1)=>
 bif (decide (0≤t7_0) && decide (t7_0≤(t2_0.2.2.2.length:Int))) then
 some ((t2_0.1,t2_0.2.1,t2_0.2.2.1,t2_0.2.2.2.take t7_0.toNat),t3_0)
 else none
 else
 some (t2_0,t3_0)
def ψ2O.f (p0:QN):Option (List (QF)×Int):=
 bif !p0.1 then
 some (([]:List (QF)),6)
 else
 (ψ2N.f p0.2.1 p0.2.2.1).bind fun (t1_0,t1_1)=>
 some (t1_0,t1_1)
def ψI.f (p0:QN) (p1:Int×Int×QF):Option ((QN)×QA):=
 (ψ1F.f p0).bind fun t1=>
 (ψL.f t1 p1).bind fun (t2_0,t2_1)=>
 some (t2_1,t2_0)
def ψG.f (p0:QN):Option (List (QF)×Int):=
 bif !p0.1 then
 some ([],6)
 else
 (ψF.f p0.2.1 p0.2.2.1).bind fun (t1_0,t1_1)=>
 some (t1_0,t1_1)
def ψ28.f (p0:List Int):Option (Bool):=
 (ψ29.f p0).bind fun t1=>
 bif t1 then
 some true
 else
 (ψ2M.f p0).bind fun (t2_0,t2_1)=>
 bif !t2_0.1 then
 some true
 else
 bif decide (t2_1.2.1<0) then
 some true
 else
 bif decide (t2_1.2.1≥(t2_0.2.2.2.length:Int)) then
 some true
 else
 bif inB t2_1.2.1 t2_0.2.2.2.length then
 bif !((rdA (false,[],[]) t2_0.2.2.2 t2_1.2.1).1) then
 some true
 else
 bif decide (t2_0.2.2.1.2.2.1≥0) then
 some true
 else
 bif t2_0.2.2.1.2.2.2 then
 some true
 else
 bif inB t2_1.2.1 t2_0.2.2.2.length then
 let y3:=(rdA (false,[],[]) t2_0.2.2.2 t2_1.2.1).1
 (ψ3A.f (y3,((rdA (false,[],[]) t2_0.2.2.2 t2_1.2.1).2)) t2_0.2.1.2.1).bind fun t4=>
 (ψ2O.f t2_0).bind fun (t5_0,t5_1)=>
 (ψI.f t2_0 (5,t2_1.2)).bind fun (t6_0,t6_1)=>
 (ψG.f t6_0).bind fun (t7_0,t7_1)=>
 (bif (t6_1.1==7)==t4 then
 some (Sum.inr false)
 else
 bif ((((rdA (false,[],[]) t2_0.2.2.2 t2_1.2.1).2).1).length:Int)==0 then
 bif t6_1.1==7 then
 some (Sum.inr false)
 else
 bif (t6_0.2.2.2.length:Int) != (t2_0.2.2.2.length:Int) then
 some (Sum.inr false)
 else
 bif inB t2_1.2.1 t6_0.2.2.2.length then
 bif (rdA (false,[],[]) t6_0.2.2.2 t2_1.2.1).1 then
 some (Sum.inr false)
 else
 some (Sum.inl (t2_0,(y3,((rdA (false,[],[]) t2_0.2.2.2 t2_1.2.1).2)),t5_0,t5_1,t6_1,t7_0,t7_1))
 else none
 else
 bif (t6_0.2.2.2.length:Int) != (t2_0.2.2.2.length:Int) then
 some (Sum.inr false)
 else
 bif inB t2_1.2.1 t6_0.2.2.2.length then
 bif (rdA (false,[],[]) t6_0.2.2.2 t2_1.2.1).1 then
 some (Sum.inr false)
 else
 some (Sum.inl (t2_0,(y3,((rdA (false,[],[]) t2_0.2.2.2 t2_1.2.1).2)),t5_0,t5_1,t6_1,t7_0,t7_1))
 else none:Option (((QN)×(QT)×List (QF)×Int×(QA)×List (QF)×Int) ⊕ (Bool))).bind (fun o8=>φK o8 (fun (x3,x5,x7,x8,x10,x11,x12)=>
 bif x10.1==0 then
 bif x8==0 then
 bif x12==0 then
 (ψ2e.f x5).bind fun t9=>
 (ψ2T.f x7 t9 x3.2.1.2.2.1).bind fun t10=>
 (ψ2w.f x11 t10).bind fun t11=>
 some t11
 else
 some false
 else
 bif x8==x12 then
 (ψ2w.f x7 x11).bind fun t12=>
 some t12
 else
 some false
 else
 bif x8==x12 then
 (ψ2w.f x7 x11).bind fun t13=>
 some t13
 else
 some false) (fun x2=>
 some x2))
 else none
 else none
end
end Go.Rf.G
