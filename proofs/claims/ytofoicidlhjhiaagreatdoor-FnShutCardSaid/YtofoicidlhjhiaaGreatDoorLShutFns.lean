import Derived.Test.YtofoicidlhjhiaaGreatDoorLShutFns1
open Option renaming bind_some→bS
open List renaming length_append→lA,append_assoc→aA,mem_cons_of_mem→mC,mem_append→mA,mem_append_right→mR,mem_append_left→mL,mem_cons→mc,drop_eq_getElem_cons→dG,length_take→lT,length_drop→lD,mem_map→mM,length_map→lM,length_cons→lC,length_nil→lN,getElem_mem→gM,map_append→mp,mem_singleton→mZ,mem_cons_self→κ1,take_succ_eq_append_getElem→κ3,length_singleton→κ5,append_nil→κ6,map_cons→κ8,nil_append→κA,drop_zero→κB,take_append_drop→κD,cons_append→κG,foldl_cons→κH,replicate→κI,flatMap_append→κK,nodup_append→κM,all_eq_true→κN,drop_left→κO,take_length→κQ,nodup_cons→κS,range'→κU,pairwise_cons→κZ,not_mem_nil→κc,flatten_cons→κd,foldl_append→κe
open Bool renaming and_eq_true→bA,eq_false_or_eq_true→bE,not_true→nZ,not_false→nF,true_and→tA,not_not→nn,false_eq_true→κ0,true_eq_false→κ7,false_and→κF,or_eq_false_iff→κJ,not_eq_true'→κL,and_true→κP,false_or→κR,or_eq_true→κY
open Int renaming toNat_natCast→tN,ofNat_lt→oL,le_refl→κT
open Nat renaming lt_or_ge→κ2,zero_le→κ4,le_refl→κ9,eq_of_beq_eq_true→κC,lt_of_lt_of_le→κE,zero_add→κV,pow_succ→κW,pow_le_pow_right→κX,mod_eq_of_lt→κb
open Array renaming length_toList→κa
set_option linter.unusedVariables false
set_option linter.unusedSimpArgs false
namespace Go.Rf.G
noncomputable section
open Go Go.Rf
def ψI.f (p0:QN) (p1:Int×Int×QF):Option ((QN)×QA):=
 (ψ1F.f p0).bind fun t1=>
 (ψL.f t1 p1).bind fun (t2_0,t2_1)=>
 some (t2_1,t2_0)
def ψG.f (p0:QN):Option (List (QF)×Int):=
 bif !p0.1 then
 some ([],6)
 else
 (ψF.f p0.2.1 p0.2.2.1).bind fun (t1_0,t1_1)=>
 some (t1_0,t1_1)
def ψ28.l0 (rec:(List (QF)×Int×(QN)×(QA)×(QN)×(QA)×List (QF)×Int×Int)→Option ((List (QF)×Int×(QN)×(QA)×(QN)×(QA)×List (QF)×Int) ⊕ (Bool))):(List (QF)×Int×(QN)×(QA)×(QN)×(QA)×List (QF)×Int×Int)→Option ((List (QF)×Int×(QN)×(QA)×(QN)×(QA)×List (QF)×Int) ⊕ (Bool)):=fun (x5,x6,x7,x8,x11,x12,x13,x14,x15)=>
 bif decide (x15<(x11.2.2.2.length:Int)) then
 bif inB x15 x11.2.2.2.length then
 bif (rdA (false,[],[]) x11.2.2.2 x15).1 then
 some (Sum.inr false)
 else
 rec (x5,x6,x7,x8,x11,x12,x13,x14,w64 (x15+1))
 else none
 else
 some (Sum.inl (x5,x6,x7,x8,x11,x12,x13,x14))
def ψ28.f (p0:List Int):Option (Bool):=
 (ψ29.f p0).bind fun t1=>
 bif t1 then
 some true
 else
 (ψ2M.f p0).bind fun (t2_0,t2_1)=>
 bif !t2_0.1 then
 some true
 else
 bif decide (t2_0.2.2.1.2.2.1≥0) then
 some true
 else
 bif t2_0.2.2.1.2.2.2 then
 some true
 else
 (ψ2O.f t2_0).bind fun (t3_0,t3_1)=>
 (ψI.f t2_0 (9,0,[],[],0)).bind fun (t4_0,t4_1)=>
 (ψI.f t4_0 t2_1).bind fun (t5_0,t5_1)=>
 (ψI.f t4_0 (10,0,[],[],0)).bind fun (t6_0,t6_1)=>
 (ψG.f t6_0).bind fun (t7_0,t7_1)=>
 (bif t2_1.1 != 10 then
 bif t2_1.1 != 11 then
 bif t5_1.1 != 6 then
 some (Sum.inr false)
 else
 bif t5_0.1 then
 some (Sum.inr false)
 else
 (ψ2v.f t5_0.2.2.1 t4_0.2.2.1).bind fun t8=>
 bif !t8 then
 some (Sum.inr false)
 else
 some (Sum.inl (t3_0,t3_1,t4_0,t4_1,t6_0,t6_1,t7_0,t7_1))
 else
 some (Sum.inl (t3_0,t3_1,t4_0,t4_1,t6_0,t6_1,t7_0,t7_1))
 else
 some (Sum.inl (t3_0,t3_1,t4_0,t4_1,t6_0,t6_1,t7_0,t7_1)):Option ((List (QF)×Int×(QN)×(QA)×(QN)×(QA)×List (QF)×Int) ⊕ (Bool))).bind (fun o9=>φM o9 (fun (x5,x6,x7,x8,x11,x12,x13,x14)=>
 (lp ψ28.l0 (x5,x6,x7,x8,x11,x12,x13,x14,0)).bind (fun o10=>φM o10 (fun (x5,x6,x7,x8,x11,x12,x13,x14)=>
 bif x8.1==0 then
 bif !x7.1 then
 bif x12.1==0 then
 bif x11.1 then
 bif (x11.2.2.2.length:Int)==3 then
 bif x6==x14 then
 (ψ2w.f x5 x13).bind fun t11=>
 some t11
 else
 some false
 else
 some false
 else
 some false
 else
 some false
 else
 some false
 else
 some false) (fun x2=>
 some x2))) (fun x2=>
 some x2))
end
end Go.Rf.G
