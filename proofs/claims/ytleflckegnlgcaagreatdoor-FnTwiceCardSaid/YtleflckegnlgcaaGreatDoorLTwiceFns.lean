import Derived.Test.YtleflckegnlgcaaGreatDoorRf5
open Option renaming bind_some→bS
open List renaming length_append→lA,append_assoc→aA,mem_cons_of_mem→mC,mem_append→mA,mem_append_right→mR,mem_append_left→mL,mem_cons→mc,drop_eq_getElem_cons→dG,length_take→lT,length_drop→lD,mem_map→mM,length_map→lM,length_cons→lC,length_nil→lN,getElem_mem→gM,map_append→mp,mem_singleton→mZ,mem_cons_self→κ0,take_succ_eq_append_getElem→κ3,map_cons→κ6,append_nil→κ7,nil_append→κ9,length_singleton→κA,drop_zero→κC,take_append_drop→κE,cons_append→κF,flatMap_append→κJ,replicate→κK,nodup_append→κL,foldl_cons→κO,drop_left→κP,nodup_cons→κQ,range'→κR,all_eq_true→κT,foldl_append→κU,take_length→κW,pairwise_cons→κY,mem_or_eq_of_mem_set→κd,pairwise_append→κe,mem_of_mem_take→κf
open Bool renaming and_eq_true→bA,eq_false_or_eq_true→bE,not_true→nZ,not_false→nF,true_and→tA,not_not→nn,false_eq_true→κ2,true_eq_false→κ8,false_and→κD,or_eq_false_iff→κI,and_true→κM,not_eq_true'→κN,false_or→κS,or_eq_true→κX
open Int renaming toNat_natCast→tN,ofNat_lt→oL,le_refl→κH
open Nat renaming lt_or_ge→κ1,zero_le→κ4,le_refl→κ5,eq_of_beq_eq_true→κB,lt_of_lt_of_le→κG,zero_add→κV,le_trans→κZ,pow_succ→κa,mod_eq_of_lt→κc
open Array renaming length_toList→κb
set_option linter.unusedVariables false
set_option linter.unusedSimpArgs false
namespace Go.Rf.G
noncomputable section
open Go Go.Rf
abbrev QS:=(Int×List Int)×List (List UInt8×Int×Int×Int×Int)×Int×Int×Int
abbrev QD:=List (List UInt8×List UInt8×Int)×Int×Int×Bool
abbrev QR:=Int×Int×List UInt8×List UInt8×Int×Int
abbrev QE:=List UInt8×Int×Int×Int×Int
abbrev QP:=List UInt8×Bool×List UInt8
abbrev QF:=List UInt8×List UInt8×Int
abbrev QB:=List UInt8
abbrev QT:=Bool×List (QB×Int)×List (QP)
abbrev QL:=List (Int×Int×Int×QR)
abbrev QN:=Bool×(QS)×(QD)×List (QT)
abbrev QC:=List Int×Int×Int
abbrev QA:=Int×QB×List (QB)
def ψ2F.f (p0:List Int):Option (Bool):=
 let y1:=decide ((p0.length:Int) > 1048576)
 some y1
def ψ38.l0 (rec:(QC)→Option (List Int×Int)):(QC)→Option (List Int×Int):=fun (x0,x3,x4)=>
 bif decide (x4<(x0.length:Int)) then
 bif decide (x4<4000) then
 bif inB x4 x0.length then
 let y2:=bits (fun _ a b=>a &&& b) .i64 (w64 ((w64 ((w64 (x3 * 131))+(w64 (rdA 0 x0 x4))))+7)) 1073741823
 rec (x0,y2,w64 (x4+1))
 else none
 else
 some (x0,x3)
 else
 some (x0,x3)
def ψ38.f (p0:List Int):Option (QC):=
 let y1:=w64 (10101+(p0.length:Int))
 (lp ψ38.l0 (p0,y1,0)).bind (fun (x0,x3)=>
 some (x0,0,x3))
def ψ36.f (p0:QC):Option (Int×QC):=
 let y1:=w64 ((w64 (p0.2.2 * 6364136223846793005))+1442695040888963407)
 let y2:=bits (fun _ a b=>a &&& b) .i64 (bits (fun _ a b=>a ^^^ b) .i64 (Int.fdiv y1 (2 ^ (min 33 64))) (Int.fdiv y1 (2 ^ (min 45 64)))) 255
 bif decide (p0.2.1<(p0.1.length:Int)) then
 bif inB p0.2.1 p0.1.length then
 let y3:=bits (fun _ a b=>a &&& b) .i64 (w64 (y2+(w64 (rdA 0 p0.1 p0.2.1)))) 255
 let y4:=w64 (p0.2.1+1)
 some (y3,(p0.1,y4,y1))
 else none
 else
 some (y2,(p0.1,p0.2.1,y1))
def ψ35.f (p0:QC) (p1:Int):Option (Int×QC):=
 bif decide (p1≤0) then
 some (0,p0)
 else
 bif decide (p1≤256) then
 (ψ36.f p0).bind fun (t1_0,t1_1)=>
 bif p1 != 0 then
 let y2:=Int.tmod t1_0 p1
 some (y2,t1_1)
 else none
 else
 (ψ36.f p0).bind fun (t3_0,t3_1)=>
 (ψ36.f t3_1).bind fun (t4_0,t4_1)=>
 (ψ36.f t4_1).bind fun (t5_0,t5_1)=>
 (ψ36.f t5_1).bind fun (t6_0,t6_1)=>
 bif p1 != 0 then
 let y7:=Int.tmod (w64 ((w64 ((w64 ((w64 (t3_0 * 16777216))+(w64 (t4_0 * 65536))))+(w64 (t5_0 * 256))))+t6_0)) p1
 some (y7,t6_1)
 else none
def ψ39.f (p0:QC) (p1:Int):Option (Bool×QC):=
 (ψ35.f p0 p1).bind fun (t1_0,t1_1)=>
 some (t1_0==0,t1_1)
def ψ37.f (p0:Int) (p1:Int) (p2:Int):Option (Bool):=
 bif decide (p0≥p1) then
 let y1:=decide (p0≤p2)
 some y1
 else
 some false
def ψ3B.f (p0:QC) (p1:List Int):Option (Int×QC):=
 (ψ35.f p0 (p1.length:Int)).bind fun (t1_0,t1_1)=>
 bif inB t1_0 p1.length then
 some (rdA 0 p1 t1_0,t1_1)
 else none
def ψ3A.f (p0:QC) (p1:List (QB)):Option (QB×QC):=
 (ψ35.f p0 (p1.length:Int)).bind fun (t1_0,t1_1)=>
 bif inB t1_0 p1.length then
 let y2:=rdA [] p1 t1_0
 some (y2,t1_1)
 else none
def ψ3J.f (p0:QC):Option (QB×QC):=
 (ψ3A.f p0 [[97],[98],[99],[107,101,121],[108,111,110,103,110,97,109,101]]).bind fun (t1_0,t1_1)=>
 some (t1_0,t1_1)
def ψ3C.l0 (rec:((QC)×QC)→Option ((QC)×List Int)):((QC)×QC)→Option ((QC)×List Int):=fun (x0,x5,x6,x7)=>
 bif decide (x7 > 0) then
 (ψ36.f x0).bind fun (t3_0,t3_1)=>
 (bif x6==1 then
 let y4:=Int.tmod t3_0 2
 some (t3_1,x5,x6,x7,y4)
 else
 some (t3_1,x5,x6,x7,t3_0):Option ((QC)×List Int×Int×Int×Int)).bind (fun (x0,x5,x6,x7,x8)=>
 (bif x6==2 then
 let y5:=w64 (97+(Int.tmod x8 4))
 some (x0,x5,x6,x7,y5)
 else
 some (x0,x5,x6,x7,x8):Option ((QC)×List Int×Int×Int×Int)).bind (fun (x0,x5,x6,x7,x8)=>
 bif decide ((x5.length+[IntKind.wrap .u8 (x8)].length) * 1≤140737488355328) then
 let l6:=x5++[IntKind.wrap .u8 (x8)]
 rec (x0,l6,x6,w64 (x7 - 1))
 else none))
 else
 some (x0,x5)
def ψ3C.f (p0:QC) (p1:Int):Option (QB×QC):=
 (ψ35.f p0 4).bind fun (t1_0,t1_1)=>
 (ψ35.f t1_1 (w64 (p1+1))).bind fun (t2_0,t2_1)=>
 (lp ψ3C.l0 (t2_1,([]:List Int),t1_0,t2_0)).bind (fun (x0,x5)=>
 some (φ1U x5,x0))
def ψ33.f (p0:QC):Option ((Int×Int×QF)×QC):=
 (ψ3B.f p0 [1,2,2,3,3,3,4,5,5,6,7,8,1,5]).bind fun (t1_0,t1_1)=>
 (ψ35.f t1_1 3).bind fun (t2_0,t2_1)=>
 ((bif t1_0==2 then
 some (t2_1,(0,0,[],[],0),(t1_0,t2_0,[],[],0),t1_0,t1_0==2)
 else
 some (t2_1,(0,0,[],[],0),(t1_0,t2_0,[],[],0),t1_0,t1_0==4):Option ((QC)×(Int×Int×QF)×(Int×Int×QF)×Int×Bool)).bind (fun (x0,x2,x3,x11,x12)=>
 bif x12 then
 (ψ3J.f x0).bind fun (t3_0,t3_1)=>
 some (t3_1,x2,(x3.1,x3.2.1,t3_0,x3.2.2.2))
 else
 (bif x11==3 then
 (ψ3J.f x0).bind fun (t4_0,t4_1)=>
 (ψ3C.f t4_1 12).bind fun (t5_0,t5_1)=>
 some (t5_1,x2,(x3.1,x3.2.1,t4_0,t5_0,x3.2.2.2.2))
 else
 some (x0,x2,x3):Option ((QC)×(Int×Int×QF)×Int×Int×QF)).bind (fun (x0,x2,x3)=>
 some (x0,x2,x3))):Option ((QC)×(Int×Int×QF)×Int×Int×QF)).bind (fun (x0,x2,x3)=>
 (ψ35.f x0 40).bind fun (t6_0,t6_1)=>
 bif t6_0==0 then
 some ((9,0,[],[],0),t6_1)
 else
 (bif t6_0==1 then
 some (t6_1,x2,x3,t6_0,t6_0==1)
 else
 some (t6_1,x2,x3,t6_0,t6_0==2):Option ((QC)×(Int×Int×QF)×(Int×Int×QF)×Int×Bool)).bind (fun (x0,x2,x3,x27,x31)=>
 bif x31 then
 some ((10,0,[],[],0),x0)
 else
 bif x27==3 then
 (ψ3B.f x0 [(-1),3]).bind fun (t7_0,t7_1)=>
 some ((x3.1,t7_0,x3.2.2),t7_1)
 else
 bif x27==4 then
 (ψ3A.f x0 ([[],[110,105,110,101,98,121,116,101,115]]:List (QB))).bind fun (t8_0,t8_1)=>
 some ((x3.1,x3.2.1,t8_0,x3.2.2.2),t8_1)
 else
 bif x27==5 then
 (ψ3B.f x0 [0,12]).bind fun (t9_0,t9_1)=>
 some ((t9_0,x3.2),t9_1)
 else
 some (x3,x0)))
def ψ34.l0 (rec:((QC)×List (Int×Int×QF)×List Bool×Int)→Option ((QC)×List (Int×Int×QF))):((QC)×List (Int×Int×QF)×List Bool×Int)→Option ((QC)×List (Int×Int×QF)):=fun (x0,x5,x6,x7)=>
 bif decide (x7 > 0) then
 (ψ33.f x0).bind fun (t3_0,t3_1)=>
 (bif decide (t3_0.1≤6) then
 (ψ37.f t3_0.2.1 0 2).bind fun t4=>
 bif t4 then
 (bif inB t3_0.2.1 x6.length then
 bif !(rdA false x6 t3_0.2.1) then
 (ψ39.f t3_1 8).bind fun (t5_0,t5_1)=>
 bif !t5_0 then
 some (t5_1,x5,x6,x7,(1,t3_0.2.1,[],[],0))
 else
 some (t5_1,x5,x6,x7,t3_0)
 else
 some (t3_1,x5,x6,x7,t3_0)
 else none:Option ((QC)×List (Int×Int×QF)×List Bool×Int×Int×Int×QF)).bind (fun (x0,x5,x6,x7,x8)=>
 (bif inB x8.2.1 x6.length then
 bif rdA false x6 x8.2.1 then
 bif x8.1==1 then
 (ψ39.f x0 8).bind fun (t6_0,t6_1)=>
 bif !t6_0 then
 some (t6_1,x5,x6,x7,(5,x8.2))
 else
 some (t6_1,x5,x6,x7,x8)
 else
 some (x0,x5,x6,x7,x8)
 else
 some (x0,x5,x6,x7,x8)
 else none:Option ((QC)×List (Int×Int×QF)×List Bool×Int×Int×Int×QF)).bind (fun (x0,x5,x6,x7,x8)=>
 bif x8.1 != 5 then
 bif inB x8.2.1 x6.length then
 let l7:=x6.set x8.2.1.toNat (x8.1 != 6)
 some (x0,x5,l7,x7,x8)
 else none
 else
 bif inB x8.2.1 x6.length then
 let l8:=x6.set x8.2.1.toNat false
 some (x0,x5,l8,x7,x8)
 else none))
 else
 some (t3_1,x5,x6,x7,t3_0)
 else
 some (t3_1,x5,x6,x7,t3_0):Option ((QC)×List (Int×Int×QF)×List Bool×Int×Int×Int×QF)).bind (fun (x0,x5,x6,x7,x8)=>
 (bif x8.1==9 then
 let l9:=κK 3 false
 bif decide ((x5.length+[x8].length) * 56≤140737488355328) then
 some (x0,x5++[x8],l9,x7,(10,0,[],[],0))
 else none
 else
 some (x0,x5,x6,x7,x8):Option ((QC)×List (Int×Int×QF)×List Bool×Int×Int×Int×QF)).bind (fun (x0,x5,x6,x7,x8)=>
 bif decide ((x5.length+[x8].length) * 56≤140737488355328) then
 rec (x0,x5++[x8],x6,w64 (x7 - 1))
 else none))
 else
 some (x0,x5)
def ψ34.f (p0:QC) (p1:Int):Option (List (Int×Int×QF)×QC):=
 let l1:=κK 3 false
 (ψ35.f p0 (w64 (p1+1))).bind fun (t2_0,t2_1)=>
 (lp ψ34.l0 (t2_1,([]:List (Int×Int×QF)),l1,t2_0)).bind (fun (x0,x5)=>
 some (x5,x0))
def ψ2O.f (p0:List Int):Option (List (Int×Int×QF)):=
 (ψ38.f p0).bind fun t1=>
 (ψ34.f t1 60).bind fun (t2_0,t2_1)=>
 some t2_0
def ψ1W.f (p0:Int) (p1:Int) (p2:Int):Option (Bool):=
 bif decide (p0≥p1) then
 let y1:=decide (p0≤p2)
 some y1
 else
 some false
def ψa.l0 (rec:(QB×Int)→Option ((QB) ⊕ (Bool))):(QB×Int)→Option ((QB) ⊕ (Bool)):=fun (x0,x3)=>
 bif decide (x3<(x0.length:Int)) then
 (bif inB x3 x0.length then
 bif decide ((bAt x0 x3)≥97) then
 bif inB x3 x0.length then
 bif !(decide ((bAt x0 x3)≤122)) then
 bif inB x3 x0.length then
 bif decide ((bAt x0 x3)≥48) then
 bif inB x3 x0.length then
 bif !(decide ((bAt x0 x3)≤57)) then
 some (Sum.inr false)
 else
 some (Sum.inl (x0,x3))
 else none
 else
 some (Sum.inr false)
 else none
 else
 some (Sum.inl (x0,x3))
 else none
 else
 bif inB x3 x0.length then
 bif decide ((bAt x0 x3)≥48) then
 bif inB x3 x0.length then
 bif !(decide ((bAt x0 x3)≤57)) then
 some (Sum.inr false)
 else
 some (Sum.inl (x0,x3))
 else none
 else
 some (Sum.inr false)
 else none
 else none:Option ((QB×Int) ⊕ (Bool))).bind (fun o1=>φU o1 (fun (x0,x3)=>
 rec (x0,w64 (x3+1))) (fun x2=>
 some (Sum.inr x2)))
 else
 some (Sum.inl x0)
def ψa.f (p0:QB):Option (Bool):=
 (lp ψa.l0 (p0,0)).bind (fun o2=>φU o2 (fun x0=>
 (ψ1W.f (x0.length:Int) 1 12).bind fun t3=>
 some t3) (fun x2=>
 some x2))
def ψD.l0 (rec:((QD)×Int×List (QF)×Int×Int)→Option (((QD)×Int) ⊕ (Bool))):((QD)×Int×List (QF)×Int×Int)→Option (((QD)×Int) ⊕ (Bool)):=fun (x1,x3,x23,x24,x25)=>
 bif decide (x25<x24) then
 bif inB x25 x23.length then
 let y3:=(rdA ([],[],0) x23 x25).1
 let y4:=((rdA ([],[],0) x23 x25).2).1
 let y5:=((rdA ([],[],0) x23 x25).2).2
 ((ψa.f y3).bind fun t6=>
 bif !t6 then
 some (Sum.inr false)
 else
 (ψ1W.f y5 0 (y4.length:Int)).bind fun t7=>
 bif !t7 then
 some (Sum.inr false)
 else
 bif decide (x25 > 0) then
 bif inB (w64 (x25 - 1)) x1.1.length then
 bif !(Op.bytesLess ((rdA ([],[],0) x1.1 (w64 (x25 - 1))).1) y3) then
 some (Sum.inr false)
 else
 some (Sum.inl (x1,x3,(y3,y4,y5),x23,x24,x25))
 else none
 else
 some (Sum.inl (x1,x3,(y3,y4,y5),x23,x24,x25)):Option (((QD)×Int×(QF)×List (QF)×Int×Int) ⊕ (Bool))).bind (fun o8=>φU o8 (fun (x1,x3,x5,x23,x24,x25)=>
 let y9:=w64 (x3+(x5.2.1.length:Int))
 rec (x1,y9,x23,x24,w64 (x25+1))) (fun x2=>
 some (Sum.inr x2)))
 else none
 else
 some (Sum.inl (x1,x3))
def ψD.f (p0:QD):Option (Bool):=
 bif decide ((p0.1.length:Int) > 130) then
 some false
 else
 (ψ1W.f p0.2.1 0 100000).bind fun t1=>
 bif !t1 then
 some false
 else
 (ψ1W.f p0.2.2.1 (-1) 100000).bind fun t2=>
 bif !t2 then
 some false
 else
 (lp ψD.l0 (p0,0,p0.1,(p0.1.length:Int),0)).bind (fun o10=>φU o10 (fun (x1,x3)=>
 let y11:=decide (x3≤x1.2.1)
 some y11) (fun x2=>
 some x2))
def ψ1J.f (p0:QD):Option (QD):=
 bif decide ((([]:List (QF)).length+p0.1.length) * 40≤140737488355328) then
 let l1:=([]:List (QF))++p0.1
 some (l1,p0.2)
 else none
def ψ1S.l0 (rec:(QB×List (QF)×Int×Int)→Option ((Unit) ⊕ (Int))):(QB×List (QF)×Int×Int)→Option ((Unit) ⊕ (Int)):=fun (x1,x8,x9,x10)=>
 bif decide (x10<x9) then
 bif inB x10 x8.length then
 let y1:=(rdA ([],[],0) x8 x10).1
 let y2:=((rdA ([],[],0) x8 x10).2).1
 let y3:=((rdA ([],[],0) x8 x10).2).2
 bif y1==x1 then
 some (Sum.inr x10)
 else
 rec (x1,x8,x9,w64 (x10+1))
 else none
 else
 some (Sum.inl ())
def ψ1S.f (p0:QD) (p1:QB):Option (Int):=
 (lp ψ1S.l0 (p1,p0.1,(p0.1.length:Int),0)).bind (fun o4=>φU o4 (fun _=>
 some (-1)) (fun x4=>
 some x4))
def ψO.f (p0:QD) (p1:QB):Option (QB×Bool):=
 (ψ1S.f p0 p1).bind fun t1=>
 bif decide (t1<0) then
 some ([],false)
 else
 (ψD.f p0).bind fun t2=>
 bif !t2 then
 some ([],false)
 else
 bif inB t1 p0.1.length then
 let y3:=((rdA ([],[],0) p0.1 t1).2).1
 some (y3,true)
 else none
def ψ6.f (p0:Int):Option (QB):=
 (strconv_Itoa.f p0).bind fun t1=>
 some t1
def ψ1Z.f (p0:QB) (p1:Int):Option (QB):=
 (ψ1W.f p1 1 100000).bind fun t1=>
 bif !t1 then
 some []
 else
 (ψ6.f p1).bind fun t2=>
 bif decide (p0.length+t2.length≤9223372036854775807) then
 some (p0++t2)
 else none
def ψx.f (p0:Int):Option (QB):=
 (ψ1Z.f [115,101,103] p0).bind fun t1=>
 some t1
def ψm.l0 (rec:(QB×Int×Int)→Option ((Unit) ⊕ (Int×Int))):(QB×Int×Int)→Option ((Unit) ⊕ (Int×Int)):=fun (x0,x4,x5)=>
 bif decide (x5<7) then
 bif decide (x5<(x0.length:Int)) then
 bif inB x5 x0.length then
 let y1:=w64 (bAt x0 x5)
 bif decide (0≤(w64 (7 * x5))) then
 let y2:=w64 (x4+(w64 ((Int.tmod y1 128) * 2 ^ (min (w64 (7 * x5)).toNat 64))))
 bif decide (y1≥128) then
 rec (x0,y2,w64 (x5+1))
 else
 (bif y1==0 then
 bif decide (x5 > 0) then
 some (Sum.inr (0,0))
 else
 some (Sum.inl (y2,x5))
 else
 some (Sum.inl (y2,x5)):Option ((Int×Int) ⊕ (Int×Int))).bind (fun o3=>φU o3 (fun (x4,x5)=>
 some (Sum.inr (x4,w64 (x5+1)))) (fun (x2,x3)=>
 some (Sum.inr (x2,x3))))
 else none
 else none
 else
 some (Sum.inl ())
 else
 some (Sum.inl ())
def ψm.f (p0:QB):Option (Int×Int):=
 (lp ψm.l0 (p0,0,0)).bind (fun o4=>φU o4 (fun _=>
 some (0,0)) (fun (x2,x3)=>
 some (x2,x3)))
def ψ1G.l0 (rec:(Int×List Int)→Option (Int×List Int)):(Int×List Int)→Option (Int×List Int):=fun (x0,x3)=>
 bif decide (x0 > 127) then
 bif decide ((x3.length+[IntKind.wrap .u8 (w64 ((Int.tmod x0 128)+128))].length) * 1≤140737488355328) then
 let l2:=x3++[IntKind.wrap .u8 (w64 ((Int.tmod x0 128)+128))]
 let y3:=w64 (Int.tdiv x0 128)
 rec (y3,l2)
 else none
 else
 some (x0,x3)
def ψ1G.f (p0:Int):Option (QB):=
 (ψ1W.f p0 0 562949953421311).bind fun t1=>
 bif !t1 then
 some []
 else
 (lp ψ1G.l0 (p0,[])).bind (fun (x0,x3)=>
 bif decide ((x3.length+[IntKind.wrap .u8 (x0)].length) * 1≤140737488355328) then
 let l4:=x3++[IntKind.wrap .u8 (x0)]
 some (φ1U l4)
 else none)
def ψ1r.f (p0:QB):Option (QB):=
 (ψ1G.f (p0.length:Int)).bind fun t1=>
 bif decide (t1.length+p0.length≤9223372036854775807) then
 some (t1++p0)
 else none
def ψP.l0 (rec:(Int×List Int×Int)→Option (List Int)):(Int×List Int×Int)→Option (List Int):=fun (x0,x5,x6)=>
 bif decide (x6≥0) then
 bif decide (0≤(w64 (8 * x6))) then
 bif decide ((x5.length+[IntKind.wrap .u8 (Int.fdiv x0 (2 ^ (min (w64 (8 * x6)).toNat 64)))].length) * 1≤140737488355328) then
 let l3:=x5++[IntKind.wrap .u8 (Int.fdiv x0 (2 ^ (min (w64 (8 * x6)).toNat 64)))]
 rec (x0,l3,w64 (x6 - 1))
 else none
 else none
 else
 some x5
def ψP.f (p0:Int) (p1:Int):Option (QB):=
 (ψ1W.f p1 1 7).bind fun t1=>
 bif !t1 then
 some []
 else
 bif decide (0≤(w64 (8 * p1))) then
 (ψ1W.f p0 0 (w64 ((w64 (1 * 2 ^ (min (w64 (8 * p1)).toNat 64))) - 1))).bind fun t2=>
 bif !t2 then
 some []
 else
 (lp ψP.l0 (p0,[],w64 (p1 - 1))).bind (fun x5=>
 some (φ1U x5))
 else none
def ψ3.l2 (rec:(QB×Int×Int×Int)→Option (QB×Int×Int)):(QB×Int×Int×Int)→Option (QB×Int×Int):=fun (x0,x3,x4,x18)=>
 bif decide (x18<8) then
 let y2:=bits (fun _ a b=>a &&& b) .u32 x3 1
 let y3:=Int.fdiv x3 (2 ^ (min 1 32))
 (bif y2==1 then
 let y4:=bits (fun _ a b=>a ^^^ b) .u32 y3 2197175160
 some (x0,y4,x4,x18)
 else
 some (x0,y3,x4,x18):Option (QB×Int×Int×Int)).bind (fun (x0,x3,x4,x18)=>
 rec (x0,x3,x4,w64 (x18+1)))
 else
 some (x0,x3,x4)
def ψ3.l0 (rec:(QB×Int×Int)→Option (Int)):(QB×Int×Int)→Option (Int):=fun (x0,x3,x4)=>
 bif decide (x4<(x0.length:Int)) then
 bif inB x4 x0.length then
 let y1:=bits (fun _ a b=>a ^^^ b) .u32 x3 (IntKind.wrap .u32 (bAt x0 x4))
 (lp ψ3.l2 (x0,y1,x4,0)).bind (fun (x0,x3,x4)=>
 rec (x0,x3,w64 (x4+1)))
 else none
 else
 some x3
def ψ3.f (p0:QB):Option (Int):=
 (lp ψ3.l0 (p0,4294967295,0)).bind (fun x3=>
 let y5:=w64 (bits (fun _ a b=>a ^^^ b) .u32 4294967295 x3)
 some y5)
def ψQ.f (p0:QB):Option (QB):=
 bif decide ((p0.length:Int) > 200) then
 some []
 else
 (ψ1r.f p0).bind fun t1=>
 (ψ3.f t1).bind fun t2=>
 (ψP.f t2 4).bind fun t3=>
 bif decide (t3.length+t1.length≤9223372036854775807) then
 some (t3++t1)
 else none
def ψ1E.f (p0:QB):Option (QB×Int):=
 bif decide ((p0.length:Int)<4) then
 some ([],0)
 else
 bif (decide (0≤(4:Int)) && decide (4≤(p0.length:Int))) then
 (ψm.f (p0.drop 4)).bind fun (t1_0,t1_1)=>
 bif t1_1==0 then
 some ([],0)
 else
 bif decide (t1_0 > 200) then
 some ([],0)
 else
 bif decide (t1_0 > (w64 ((w64 ((p0.length:Int) - 4)) - t1_1))) then
 some ([],0)
 else
 bif (decide (0≤w64 ((w64 (4+t1_1))+t1_0)) && decide (w64 ((w64 (4+t1_1))+t1_0)≤(p0.length:Int))) then
 bif (decide (0≤w64 (4+t1_1)) && decide (w64 (4+t1_1)≤w64 ((w64 (4+t1_1))+t1_0))) then
 let y2:=(p0.take ((w64 ((w64 (4+t1_1))+t1_0)).toNat)).drop ((w64 (4+t1_1)).toNat)
 (ψQ.f y2).bind fun t3=>
 bif (decide (0≤w64 ((w64 (4+t1_1))+t1_0)) && decide (w64 ((w64 (4+t1_1))+t1_0)≤(p0.length:Int))) then
 bif !(t3==(p0.take ((w64 ((w64 (4+t1_1))+t1_0)).toNat))) then
 some ([],0)
 else
 let y4:=w64 ((w64 (4+t1_1))+t1_0)
 some (y2,y4)
 else none
 else none
 else none
 else none
def ψY.l0 (rec:((Int×List Int)×QC)→Option ((Int×List Int) ⊕ (Bool))):((Int×List Int)×QC)→Option ((Int×List Int) ⊕ (Bool)):=fun (x1,x6,x7,x8)=>
 bif decide (x8<x7) then
 bif inB x8 x6.length then
 ((ψ1W.f (rdA 0 x6 x8) 1 (w64 (x1.1 - 1))).bind fun t1=>
 bif !t1 then
 some (Sum.inr false)
 else
 bif decide (x8 > 0) then
 bif inB (w64 (x8 - 1)) x1.2.length then
 bif decide ((rdA 0 x1.2 (w64 (x8 - 1)))≥(rdA 0 x6 x8)) then
 some (Sum.inr false)
 else
 some (Sum.inl (x1,x6,x7,x8))
 else none
 else
 some (Sum.inl (x1,x6,x7,x8)):Option (((Int×List Int)×QC) ⊕ (Bool))).bind (fun o2=>φU o2 (fun (x1,x6,x7,x8)=>
 rec (x1,x6,x7,w64 (x8+1))) (fun x2=>
 some (Sum.inr x2)))
 else none
 else
 some (Sum.inl x1)
def ψY.f (p0:Int×List Int):Option (Bool):=
 (lp ψY.l0 (p0,p0.2,(p0.2.length:Int),0)).bind (fun o3=>φU o3 (fun x1=>
 (ψ1W.f x1.1 1 100000).bind fun t4=>
 bif t4 then
 (ψ1W.f (x1.2.length:Int) 1 60).bind fun t5=>
 some t5
 else
 some false) (fun x2=>
 some x2))
def ψ1j.f (p0:QB×Bool):Option (Int×QB×Bool):=
 (ψm.f p0.1).bind fun (t1_0,t1_1)=>
 bif p0.2 then
 some (0,(p0.1,true))
 else
 bif t1_1==0 then
 some (0,(p0.1,true))
 else
 bif (decide (0≤t1_1) && decide (t1_1≤(p0.1.length:Int))) then
 let y2:=p0.1.drop t1_1.toNat
 some (t1_0,(y2,p0.2))
 else none
def ψk.l0 (rec:(QB×(Int×List Int)×Int×(QB×Bool)×(Int×List Int)×Int×Int)→Option (QB×(Int×List Int)×Int×(QB×Bool)×Int×List Int)):(QB×(Int×List Int)×Int×(QB×Bool)×(Int×List Int)×Int×Int)→Option (QB×(Int×List Int)×Int×(QB×Bool)×Int×List Int):=fun (x0,x2,x5,x6,x7,x8,x9)=>
 bif decide (x9<x8) then
 bif !x6.2 then
 (ψ1j.f x6).bind fun (t4_0,t4_1)=>
 bif decide ((x7.2.length+[t4_0].length) * 8≤140737488355328) then
 let l5:=x7.2++[t4_0]
 rec (x0,x2,x5,t4_1,(x7.1,l5),x8,w64 (x9+1))
 else none
 else
 some (x0,x2,x5,x6,x7)
 else
 some (x0,x2,x5,x6,x7)
def ψk.f (p0:QB):Option ((Int×List Int)×Bool):=
 (ψ1E.f p0).bind fun (t1_0,t1_1)=>
 (ψ1j.f (t1_0,false)).bind fun (t2_0,t2_1)=>
 (ψ1j.f t2_1).bind fun (t3_0,t3_1)=>
 (lp ψk.l0 (p0,(0,[]),t1_1,t3_1,(t2_0,[]),t3_0,0)).bind (fun (x0,x2,x5,x6,x7)=>
 bif x5==0 then
 some ((0,[]),false)
 else
 bif x5 != (x0.length:Int) then
 some ((0,[]),false)
 else
 bif x6.2 then
 some ((0,[]),false)
 else
 bif !(x6.1==[]) then
 some ((0,[]),false)
 else
 (ψY.f x7).bind fun t6=>
 bif !t6 then
 some ((0,[]),false)
 else
 some (x7,true))
def ψ1i.f (p0:QB×Bool) (p1:Int):Option (QB×QB×Bool):=
 bif p0.2 then
 some ([],(p0.1,true))
 else
 bif decide (p1 > (p0.1.length:Int)) then
 some ([],(p0.1,true))
 else
 bif (decide (0≤p1) && decide (p1≤(p0.1.length:Int))) then
 let y1:=p0.1.take p1.toNat
 bif (decide (0≤p1) && decide (p1≤(p0.1.length:Int))) then
 let y2:=p0.1.drop p1.toNat
 some (y1,(y2,p0.2))
 else none
 else none
def ψ1k.f (p0:QB×Bool):Option (QB×QB×Bool):=
 (ψ1j.f p0).bind fun (t1_0,t1_1)=>
 (ψ1i.f t1_1 t1_0).bind fun (t2_0,t2_1)=>
 some (t2_0,t2_1)
def ψi.l0 (rec:(QB×Int×Int×Int)→Option (Int)):(QB×Int×Int×Int)→Option (Int):=fun (x0,x6,x17,x18)=>
 bif decide (x18<x17) then
 bif inB x18 x0.length then
 let y2:=bits (fun _ a b=>a ||| b) .i64 (w64 (x6 * 2 ^ (min 8 64))) (w64 (bAt x0 x18))
 rec (x0,y2,x17,w64 (x18+1))
 else none
 else
 some x6
def ψi.f (p0:QB) (p1:Int):Option (Int×Bool):=
 (ψ1W.f p1 1 7).bind fun t1=>
 bif !t1 then
 some (0,false)
 else
 bif decide ((p0.length:Int)<p1) then
 some (0,false)
 else
 (lp ψi.l0 (p0,0,p1,0)).bind (fun x6=>
 some (x6,true))
def ψX.f (p0:QB):Option (Bool):=
 (ψ1W.f (p0.length:Int) 1 8).bind fun t1=>
 some t1
def ψo.f (p0:QR):Option (Bool):=
 (bif p0.1==1 then
 some (p0,(p0.1,p0.2.1,[],[],0,0),false,1,p0.1,p0.1==1)
 else
 some (p0,(p0.1,p0.2.1,[],[],0,0),false,1,p0.1,p0.1==4):Option ((QR)×(QR)×Bool×Int×Int×Bool)).bind (fun (x1,x3,x4,x5,x12,x13)=>
 bif x13 then
 (ψX.f x1.2.2.1).bind fun t1=>
 bif t1 then
 let y2:=decide ((x1.2.2.2.1.length:Int)≤24)
 bif y2 then
 (ψ1W.f x1.2.1 x5 1000000).bind fun t3=>
 bif t3 then
 let y4:=(x1.1==x3.1 && (x1.2.1==x3.2.1 && (x1.2.2.1==x1.2.2.1 && (x1.2.2.2.1==x1.2.2.2.1 && (x1.2.2.2.2.1==x3.2.2.2.2.1 && (x1.2.2.2.2.2==x3.2.2.2.2.2))))))
 some y4
 else
 some false
 else
 some false
 else
 some false
 else
 bif x12==2 then
 (ψX.f x1.2.2.1).bind fun t5=>
 bif t5 then
 (ψ1W.f x1.2.1 x5 1000000).bind fun t6=>
 bif t6 then
 let y7:=(x1.1==x3.1 && (x1.2.1==x3.2.1 && (x1.2.2.1==x1.2.2.1 && (x1.2.2.2.1==x3.2.2.2.1 && (x1.2.2.2.2.1==x3.2.2.2.2.1 && (x1.2.2.2.2.2==x3.2.2.2.2.2))))))
 some y7
 else
 some false
 else
 some false
 else
 bif x12==3 then
 (ψ1W.f x1.2.2.2.2.1 0 8).bind fun t8=>
 bif t8 then
 (ψ1W.f x1.2.2.2.2.2 0 4294967295).bind fun t9=>
 bif t9 then
 (ψ1W.f x1.2.1 x5 1000000).bind fun t10=>
 bif t10 then
 let y11:=(x1.1==x3.1 && (x1.2.1==x3.2.1 && (x1.2.2.1==x3.2.2.1 && (x1.2.2.2.1==x3.2.2.2.1 && (x1.2.2.2.2.1==x1.2.2.2.2.1 && (x1.2.2.2.2.2==x1.2.2.2.2.2))))))
 some y11
 else
 some false
 else
 some false
 else
 some false
 else
 bif x12==5 then
 (ψ1W.f x1.2.2.2.2.1 0 20).bind fun t12=>
 bif t12 then
 (ψ1W.f x1.2.2.2.2.2 0 4294967295).bind fun t13=>
 bif t13 then
 (ψ1W.f x1.2.1 0 1000000).bind fun t14=>
 bif t14 then
 let y15:=(x1.1==x3.1 && (x1.2.1==x3.2.1 && (x1.2.2.1==x3.2.2.1 && (x1.2.2.2.1==x3.2.2.2.1 && (x1.2.2.2.2.1==x1.2.2.2.2.1 && (x1.2.2.2.2.2==x1.2.2.2.2.2))))))
 some y15
 else
 some false
 else
 some false
 else
 some false
 else
 bif x4 then
 (ψ1W.f x1.2.1 x5 1000000).bind fun t16=>
 bif t16 then
 let y17:=(x1.1==x3.1 && (x1.2.1==x3.2.1 && (x1.2.2.1==x3.2.2.1 && (x1.2.2.2.1==x3.2.2.2.1 && (x1.2.2.2.2.1==x3.2.2.2.2.1 && (x1.2.2.2.2.2==x3.2.2.2.2.2))))))
 some y17
 else
 some false
 else
 some false)
def ψl.f (p0:QB):Option ((QR)×Bool):=
 (ψ1j.f (p0,false)).bind fun (t1_0,t1_1)=>
 (ψ1j.f t1_1).bind fun (t2_0,t2_1)=>
 ((bif t1_0==1 then
 some ((0,0,[],[],0,0),t2_1,(t1_0,t2_0,[],[],0,0),t1_0,t1_0==1)
 else
 some ((0,0,[],[],0,0),t2_1,(t1_0,t2_0,[],[],0,0),t1_0,t1_0==4):Option ((QR)×(QB×Bool)×(QR)×Int×Bool)).bind (fun (x2,x4,x5,x16,x27)=>
 bif x27 then
 (ψ1k.f x4).bind fun (t3_0,t3_1)=>
 (ψ1k.f t3_1).bind fun (t4_0,t4_1)=>
 some (x2,t4_1,(x5.1,x5.2.1,t3_0,t4_0,x5.2.2.2.2))
 else
 (bif x16==2 then
 (ψ1k.f x4).bind fun (t5_0,t5_1)=>
 some (x2,t5_1,(x5.1,x5.2.1,t5_0,x5.2.2.2))
 else
 (ψ1j.f x4).bind fun (t6_0,t6_1)=>
 (ψ1i.f t6_1 4).bind fun (t7_0,t7_1)=>
 (ψi.f t7_0 4).bind fun (t8_0,t8_1)=>
 some (x2,t7_1,(x5.1,x5.2.1,x5.2.2.1,x5.2.2.2.1,t6_0,t8_0)):Option ((QR)×(QB×Bool)×QR)).bind (fun (x2,x4,x5)=>
 some (x2,x4,x5))):Option ((QR)×(QB×Bool)×QR)).bind (fun (x2,x4,x5)=>
 bif x4.2 then
 some ((0,0,[],[],0,0),false)
 else
 bif !(x4.1==[]) then
 some ((0,0,[],[],0,0),false)
 else
 (ψo.f x5).bind fun t9=>
 bif !t9 then
 some ((0,0,[],[],0,0),false)
 else
 some (x5,true))
def ψw.l0 (rec:(QB×List (Int×Int×QR)×Int)→Option (List (Int×Int×QR)×Int)):(QB×List (Int×Int×QR)×Int)→Option (List (Int×Int×QR)×Int):=fun (x0,x4,x5)=>
 bif (decide (0≤x5) && decide (x5≤(x0.length:Int))) then
 (ψ1E.f (x0.drop x5.toNat)).bind fun (t1_0,t1_1)=>
 (ψl.f t1_0).bind fun (t2_0,t2_1)=>
 bif t1_1==0 then
 some (x4,x5)
 else
 bif !t2_1 then
 some (x4,x5)
 else
 bif decide ((x4.length+[(x5,t1_1,t2_0)].length) * 80≤140737488355328) then
 let l3:=x4++[(x5,t1_1,t2_0)]
 let y4:=w64 (x5+t1_1)
 rec (x0,l3,y4)
 else none
 else none
def ψw.f (p0:QB):Option (List (Int×Int×QR)×Int):=
 (lp ψw.l0 (p0,[],0)).bind (fun (x2,x3)=>
 some (x2,x3))
def ψ1e.l0 (rec:(Int×List (Int×Int×Int×QR)×List (Int×Int×QR)×Int×Int)→Option (QL)):(Int×List (Int×Int×Int×QR)×List (Int×Int×QR)×Int×Int)→Option (QL):=fun (x0,x5,x8,x9,x10)=>
 bif decide (x10<x9) then
 bif inB x10 x8.length then
 let y1:=(rdA (0,0,0,0,[],[],0,0) x8 x10).1
 let y2:=((rdA (0,0,0,0,[],[],0,0) x8 x10).2).1
 let y3:=(((rdA (0,0,0,0,[],[],0,0) x8 x10).2).2).1
 let y4:=((((rdA (0,0,0,0,[],[],0,0) x8 x10).2).2).2).1
 let y5:=(((((rdA (0,0,0,0,[],[],0,0) x8 x10).2).2).2).2).1
 let y6:=((((((rdA (0,0,0,0,[],[],0,0) x8 x10).2).2).2).2).2).1
 let y7:=(((((((rdA (0,0,0,0,[],[],0,0) x8 x10).2).2).2).2).2).2).1
 let y8:=(((((((rdA (0,0,0,0,[],[],0,0) x8 x10).2).2).2).2).2).2).2
 bif decide ((x5.length+[(x0,y1,y2,y3,y4,y5,y6,y7,y8)].length) * 88≤140737488355328) then
 let l9:=x5++[(x0,y1,y2,y3,y4,y5,y6,y7,y8)]
 rec (x0,l9,x8,x9,w64 (x10+1))
 else none
 else none
 else
 some x5
def ψ1e.f (p0:Int) (p1:List (Int×Int×QR)):Option (QL):=
 (lp ψ1e.l0 (p0,[],p1,(p1.length:Int),0)).bind (fun x5=>
 some x5)
def ψ28.l0 (rec:(((QD)×Int)×(Int×List Int)×List (QL)×Int×QC)→Option ((((QD)×Int)×List (QL)×Int) ⊕ (((QD)×Int)×List (QL)×Int×Bool))):(((QD)×Int)×(Int×List Int)×List (QL)×Int×QC)→Option ((((QD)×Int)×List (QL)×Int) ⊕ (((QD)×Int)×List (QL)×Int×Bool)):=fun (x0,x3,x7,x8,x16,x17,x18)=>
 bif decide (x18<x17) then
 bif inB x18 x16.length then
 (ψx.f (rdA 0 x16 x18)).bind fun t1=>
 (ψO.f x0.1 t1).bind fun (t2_0,t2_1)=>
 (ψw.f t2_0).bind fun (t3_0,t3_1)=>
 (bif !t2_1 then
 some (Sum.inr (x0,[],0,false))
 else
 bif decide (x18<(w64 ((x3.2.length:Int) - 1))) then
 bif t3_1 != (t2_0.length:Int) then
 some (Sum.inr (x0,[],0,false))
 else
 some (Sum.inl (x0,x3,x7,rdA 0 x16 x18,t3_0,t3_1,x16,x17,x18))
 else
 some (Sum.inl (x0,x3,x7,rdA 0 x16 x18,t3_0,t3_1,x16,x17,x18)):Option ((((QD)×Int)×(Int×List Int)×List (QL)×Int×List (Int×Int×QR)×Int×QC) ⊕ (((QD)×Int)×List (QL)×Int×Bool))).bind (fun o4=>φU o4 (fun (x0,x3,x7,x10,x13,x14,x16,x17,x18)=>
 (ψ1e.f x10 x13).bind fun t5=>
 bif decide ((x7.length+[t5].length) * 24≤140737488355328) then
 rec (x0,x3,x7++[t5],x14,x16,x17,w64 (x18+1))
 else none) (fun (x0,x4,x5,x6)=>
 some (Sum.inr (x0,x4,x5,x6))))
 else none
 else
 some (Sum.inl (x0,x7,x8))
def ψ28.f (p0:(QD)×Int) (p1:Int×List Int):Option (List (QL)×Int×Bool×(QD)×Int):=
 (lp ψ28.l0 (p0,p1,[],0,p1.2,(p1.2.length:Int),0)).bind (fun o6=>φU o6 (fun (x0,x7,x8)=>
 some (x7,x8,true,x0)) (fun (x0,x4,x5,x6)=>
 some (x4,x5,x6,x0)))
def ψ1s.f (p0:Int):Option (Int):=
 bif p0==0 then
 some 0
 else
 bif p0==1 then
 some 1
 else
 bif p0==2 then
 some 2
 else
 some 3
def ψ2A.f (p0:(QD)×Int) (p1:QD) (p2:Int):Option ((QD)×Int):=
 (ψ1s.f p2).bind fun t1=>
 some (p1,t1)
def ψ1B.f (p0:QD) (p1:QB) (p2:Int):Option (Int×QD):=
 (ψ1S.f p0 p1).bind fun t1=>
 bif decide (t1<0) then
 some (3,p0)
 else
 bif inB t1 p0.1.length then
 (ψ1W.f p2 0 ((((rdA ([],[],0) p0.1 t1).2).1).length:Int)).bind fun t2=>
 bif !t2 then
 some (5,p0)
 else
 bif (decide (0≤p2) && decide (p2≤((((rdA ([],[],0) p0.1 t1).2).1).length:Int))) then
 let l3:=p0.1.set t1.toNat ((rdA ([],[],0) p0.1 t1).1,(((rdA ([],[],0) p0.1 t1).2).1).take p2.toNat,((rdA ([],[],0) p0.1 t1).2).2)
 let l4:=l3.set t1.toNat ((rdA ([],[],0) l3 t1).1,((rdA ([],[],0) l3 t1).2).1,if p2<((rdA ([],[],0) p0.1 t1).2).2 then p2 else ((rdA ([],[],0) p0.1 t1).2).2)
 some (0,(l4,p0.2))
 else none
 else none
def ψ1q.f (p0:QD) (p1:QB×Int):Option ((QD)×Int):=
 (ψ1J.f p0).bind fun t1=>
 (ψD.f p0).bind fun t2=>
 bif !t2 then
 some (t1,5)
 else
 bif p0.2.2.2 then
 some ((t1.1,t1.2.1,t1.2.2.1,true),1)
 else
 bif p0.2.2.1==0 then
 some ((t1.1,t1.2.1,t1.2.2.1,true),1)
 else
 (bif decide (p0.2.2.1 > 0) then
 let y3:=w64 (t1.2.2.1 - 1)
 some (p1,([],0,0,false),(t1.1,t1.2.1,y3,t1.2.2.2))
 else
 some (p1,([],0,0,false),t1):Option ((QB×Int)×(QD)×QD)).bind (fun (x1,x4,x6)=>
 (ψ1B.f x6 x1.1 x1.2).bind fun (t4_0,t4_1)=>
 some (t4_1,t4_0))
def ψ19.f (p0:QD) (p1:QB):Option (Int×QD):=
 (ψ1S.f p0 p1).bind fun t1=>
 bif decide (t1<0) then
 some (3,p0)
 else
 bif inB t1 p0.1.length then
 bif inB t1 p0.1.length then
 let l2:=p0.1.set t1.toNat ((rdA ([],[],0) p0.1 t1).1,((rdA ([],[],0) p0.1 t1).2).1,((((rdA ([],[],0) p0.1 t1).2).1).length:Int))
 some (0,(l2,p0.2))
 else none
 else none
def ψ1p.f (p0:QD) (p1:QB):Option ((QD)×Int):=
 (ψ1J.f p0).bind fun t1=>
 (ψD.f p0).bind fun t2=>
 bif !t2 then
 some (t1,5)
 else
 bif p0.2.2.2 then
 some ((t1.1,t1.2.1,t1.2.2.1,true),1)
 else
 bif p0.2.2.1==0 then
 some ((t1.1,t1.2.1,t1.2.2.1,true),1)
 else
 (bif decide (p0.2.2.1 > 0) then
 let y3:=w64 (t1.2.2.1 - 1)
 some (p1,([],0,0,false),(t1.1,t1.2.1,y3,t1.2.2.2))
 else
 some (p1,([],0,0,false),t1):Option (QB×(QD)×QD)).bind (fun (x1,x4,x6)=>
 (ψ19.f x6 x1).bind fun (t4_0,t4_1)=>
 some (t4_1,t4_0))
def ψE.f (p0:QD) (p1:QB):Option (QD):=
 (ψ1S.f p0 p1).bind fun t1=>
 bif decide (t1≥0) then
 bif (decide (0≤t1) && decide (t1≤(p0.1.length:Int))) then
 bif decide ((([]:List (QF)).length+(p0.1.take t1.toNat).length) * 40≤140737488355328) then
 bif (decide (0≤w64 (t1+1)) && decide (w64 (t1+1)≤(p0.1.length:Int))) then
 bif decide (((([]:List (QF))++(p0.1.take t1.toNat)).length+(p0.1.drop ((w64 (t1+1)).toNat)).length) * 40≤140737488355328) then
 let l2:=(([]:List (QF))++(p0.1.take t1.toNat))++(p0.1.drop ((w64 (t1+1)).toNat))
 some (l2,p0.2)
 else none
 else none
 else none
 else none
 else
 some p0
def ψr.f (p0:QD) (p1:QB):Option (Int×QD):=
 (ψ1S.f p0 p1).bind fun t1=>
 bif decide (t1<0) then
 some (3,p0)
 else
 (ψE.f p0 p1).bind fun t2=>
 some (0,t2)
def ψ1n.f (p0:QD) (p1:QB):Option ((QD)×Int):=
 (ψ1J.f p0).bind fun t1=>
 (ψD.f p0).bind fun t2=>
 bif !t2 then
 some (t1,5)
 else
 bif p0.2.2.2 then
 some ((t1.1,t1.2.1,t1.2.2.1,true),1)
 else
 bif p0.2.2.1==0 then
 some ((t1.1,t1.2.1,t1.2.2.1,true),1)
 else
 (bif decide (p0.2.2.1 > 0) then
 let y3:=w64 (t1.2.2.1 - 1)
 some (p1,([],0,0,false),(t1.1,t1.2.1,y3,t1.2.2.2))
 else
 some (p1,([],0,0,false),t1):Option (QB×(QD)×QD)).bind (fun (x1,x4,x6)=>
 (ψr.f x6 x1).bind fun (t4_0,t4_1)=>
 some (t4_1,t4_0))
def ψF.l0 (rec:((QD)×(QF)×Int)→Option ((QD)×(QF)×Int)):((QD)×(QF)×Int)→Option ((QD)×(QF)×Int):=fun (x0,x3,x4)=>
 bif decide (x4<(x0.1.length:Int)) then
 bif inB x4 x0.1.length then
 bif Op.bytesLess ((rdA ([],[],0) x0.1 x4).1) x3.1 then
 rec (x0,x3,w64 (x4+1))
 else
 some (x0,x3,x4)
 else none
 else
 some (x0,x3,x4)
def ψF.f (p0:QD) (p1:QF):Option (QD):=
 (lp ψF.l0 (p0,p1,0)).bind (fun (x0,x3,x4)=>
 bif (decide (0≤x4) && decide (x4≤(x0.1.length:Int))) then
 bif decide ((([]:List (QF)).length+(x0.1.take x4.toNat).length) * 40≤140737488355328) then
 bif decide (((([]:List (QF))++(x0.1.take x4.toNat)).length+[x3].length) * 40≤140737488355328) then
 let l1:=(([]:List (QF))++(x0.1.take x4.toNat))++[x3]
 bif (decide (0≤x4) && decide (x4≤(x0.1.length:Int))) then
 bif decide ((l1.length+(x0.1.drop x4.toNat).length) * 40≤140737488355328) then
 let l2:=l1++(x0.1.drop x4.toNat)
 some (l2,x0.2)
 else none
 else none
 else none
 else none
 else none)
def ψ5.f (p0:QD) (p1:QB):Option (Int×QD):=
 (ψa.f p1).bind fun t1=>
 bif !t1 then
 some (5,p0)
 else
 (ψ1S.f p0 p1).bind fun t2=>
 let y3:=decide (t2≥0)
 bif y3 then
 some (4,p0)
 else
 let y4:=decide ((p0.1.length:Int)≥130)
 bif y4 then
 some (2,p0)
 else
 (ψF.f p0 (p1,[],0)).bind fun t5=>
 some (0,t5)
def ψ1m.f (p0:QD) (p1:QB):Option ((QD)×Int):=
 (ψ1J.f p0).bind fun t1=>
 (ψD.f p0).bind fun t2=>
 bif !t2 then
 some (t1,5)
 else
 bif p0.2.2.2 then
 some ((t1.1,t1.2.1,t1.2.2.1,true),1)
 else
 bif p0.2.2.1==0 then
 some ((t1.1,t1.2.1,t1.2.2.1,true),1)
 else
 (bif decide (p0.2.2.1 > 0) then
 let y3:=w64 (t1.2.2.1 - 1)
 some (p1,([],0,0,false),(t1.1,t1.2.1,y3,t1.2.2.2))
 else
 some (p1,([],0,0,false),t1):Option (QB×(QD)×QD)).bind (fun (x1,x4,x6)=>
 (ψ5.f x6 x1).bind fun (t4_0,t4_1)=>
 some (t4_1,t4_0))
def ψ1u.l0 (rec:(Int×List (QF)×Int×Int)→Option (Int)):(Int×List (QF)×Int×Int)→Option (Int):=fun (x3,x7,x8,x9)=>
 bif decide (x9<x8) then
 bif inB x9 x7.length then
 let y1:=(rdA ([],[],0) x7 x9).1
 let y2:=((rdA ([],[],0) x7 x9).2).1
 let y3:=((rdA ([],[],0) x7 x9).2).2
 let y4:=w64 (x3+(y2.length:Int))
 rec (y4,x7,x8,w64 (x9+1))
 else none
 else
 some x3
def ψ1u.f (p0:QD):Option (Int):=
 (lp ψ1u.l0 (0,p0.1,(p0.1.length:Int),0)).bind (fun x3=>
 some x3)
def ψ1.f (p0:QD) (p1:QB) (p2:QB):Option (Int×QD):=
 (ψ1S.f p0 p1).bind fun t1=>
 let y2:=decide (t1<0)
 bif y2 then
 some (3,p0)
 else
 (ψ1u.f p0).bind fun t3=>
 let y4:=decide ((p2.length:Int) > (w64 (p0.2.1 - t3)))
 bif y4 then
 some (2,p0)
 else
 bif inB t1 p0.1.length then
 bif decide ((((rdA ([],[],0) p0.1 t1).2).1).length+p2.length≤9223372036854775807) then
 bif inB t1 p0.1.length then
 let l5:=p0.1.set t1.toNat ((rdA ([],[],0) p0.1 t1).1,(((rdA ([],[],0) p0.1 t1).2).1)++p2,((rdA ([],[],0) p0.1 t1).2).2)
 some (0,(l5,p0.2))
 else none
 else none
 else none
def ψ1l.f (p0:QD) (p1:QB×QB):Option ((QD)×Int):=
 (ψ1J.f p0).bind fun t1=>
 (ψD.f p0).bind fun t2=>
 bif !t2 then
 some (t1,5)
 else
 bif p0.2.2.2 then
 some ((t1.1,t1.2.1,t1.2.2.1,true),1)
 else
 bif p0.2.2.1==0 then
 some ((t1.1,t1.2.1,t1.2.2.1,true),1)
 else
 (bif decide (p0.2.2.1 > 0) then
 let y3:=w64 (t1.2.2.1 - 1)
 some (p1,([],0,0,false),(t1.1,t1.2.1,y3,t1.2.2.2))
 else
 some (p1,([],0,0,false),t1):Option ((QB×QB)×(QD)×QD)).bind (fun (x1,x4,x6)=>
 (ψ1.f x6 x1.1 x1.2).bind fun (t4_0,t4_1)=>
 some (t4_1,t4_0))
def ψt.f (p0:QD) (p1:QB) (p2:QB):Option (Int×QD):=
 (ψ1S.f p0 p1).bind fun t1=>
 (ψa.f p2).bind fun t2=>
 bif !t2 then
 some (5,p0)
 else
 let y3:=decide (t1<0)
 bif y3 then
 some (3,p0)
 else
 bif inB t1 p0.1.length then
 let y4:=(rdA ([],[],0) p0.1 t1).1
 let y5:=((rdA ([],[],0) p0.1 t1).2).1
 let y6:=((rdA ([],[],0) p0.1 t1).2).2
 (ψE.f p0 p1).bind fun t7=>
 (ψE.f t7 p2).bind fun t8=>
 (ψF.f t8 (p2,y5,y6)).bind fun t9=>
 some (0,t9)
 else none
def ψ1o.f (p0:QD) (p1:QB×QB):Option ((QD)×Int):=
 (ψ1J.f p0).bind fun t1=>
 (ψD.f p0).bind fun t2=>
 bif !t2 then
 some (t1,5)
 else
 bif p0.2.2.2 then
 some ((t1.1,t1.2.1,t1.2.2.1,true),1)
 else
 bif p0.2.2.1==0 then
 some ((t1.1,t1.2.1,t1.2.2.1,true),1)
 else
 (bif decide (p0.2.2.1 > 0) then
 let y3:=w64 (t1.2.2.1 - 1)
 some (p1,([],0,0,false),(t1.1,t1.2.1,y3,t1.2.2.2))
 else
 some (p1,([],0,0,false),t1):Option ((QB×QB)×(QD)×QD)).bind (fun (x1,x4,x6)=>
 (ψt.f x6 x1.1 x1.2).bind fun (t4_0,t4_1)=>
 some (t4_1,t4_0))
def ψ1A.f (p0:QD) (p1:QB) (p2:Int):Option ((QD)×Int):=
 (ψ1q.f p0 (p1,p2)).bind fun (t1_0,t1_1)=>
 some (t1_0,t1_1)
def ψ18.f (p0:QD) (p1:QB):Option ((QD)×Int):=
 (ψ1p.f p0 p1).bind fun (t1_0,t1_1)=>
 some (t1_0,t1_1)
def ψ29.f (p0:(QD)×Int) (p1:QB):Option ((QD)×Int):=
 bif p0.2==0 then
 (ψ18.f p0.1 p1).bind fun (t1_0,t1_1)=>
 (ψ2A.f p0 t1_0 t1_1).bind fun t2=>
 some t2
 else
 some p0
def ψU.f (p0:Int):Option (QB):=
 (ψ1Z.f [104,105,110,116] p0).bind fun t1=>
 some t1
def ψA.l0 (rec:(List (QE)×List (QE)×Int×Int)→Option ((List (QE)) ⊕ (Bool))):(List (QE)×List (QE)×Int×Int)→Option ((List (QE)) ⊕ (Bool)):=fun (x0,x5,x6,x7)=>
 bif decide (x7<x6) then
 bif inB x7 x5.length then
 let y1:=(rdA ([],0,0,0,0) x5 x7).1
 let y2:=((rdA ([],0,0,0,0) x5 x7).2).1
 let y3:=(((rdA ([],0,0,0,0) x5 x7).2).2).1
 let y4:=((((rdA ([],0,0,0,0) x5 x7).2).2).2).1
 let y5:=((((rdA ([],0,0,0,0) x5 x7).2).2).2).2
 ((ψX.f y1).bind fun t6=>
 bif !t6 then
 some (Sum.inr false)
 else
 (ψ1W.f y2 1 100000).bind fun t7=>
 bif !t7 then
 some (Sum.inr false)
 else
 bif decide (y3<0) then
 some (Sum.inr false)
 else
 (ψ1W.f y4 1 210).bind fun t8=>
 bif !t8 then
 some (Sum.inr false)
 else
 (ψ1W.f y5 1 1000000).bind fun t9=>
 bif !t9 then
 some (Sum.inr false)
 else
 bif decide (x7 > 0) then
 bif inB (w64 (x7 - 1)) x0.length then
 bif !(Op.bytesLess ((rdA ([],0,0,0,0) x0 (w64 (x7 - 1))).1) y1) then
 some (Sum.inr false)
 else
 some (Sum.inl (x0,x5,x6,x7))
 else none
 else
 some (Sum.inl (x0,x5,x6,x7)):Option ((List (QE)×List (QE)×Int×Int) ⊕ (Bool))).bind (fun o10=>φU o10 (fun (x0,x5,x6,x7)=>
 rec (x0,x5,x6,w64 (x7+1))) (fun x2=>
 some (Sum.inr x2)))
 else none
 else
 some (Sum.inl x0)
def ψA.f (p0:List (QE)):Option (Bool):=
 (lp ψA.l0 (p0,p0,(p0.length:Int),0)).bind (fun o11=>φU o11 (fun x0=>
 let y12:=decide ((x0.length:Int)≤20)
 some y12) (fun x2=>
 some x2))
def ψ1V.l0 (rec:((Int×Int×List (QE))×List (QE)×Int×Int)→Option ((Int×Int×List (QE)) ⊕ (Bool))):((Int×Int×List (QE))×List (QE)×Int×Int)→Option ((Int×Int×List (QE)) ⊕ (Bool)):=fun (x1,x6,x7,x8)=>
 bif decide (x8<x7) then
 bif inB x8 x6.length then
 let y1:=(rdA ([],0,0,0,0) x6 x8).1
 let y2:=((rdA ([],0,0,0,0) x6 x8).2).1
 let y3:=(((rdA ([],0,0,0,0) x6 x8).2).2).1
 let y4:=((((rdA ([],0,0,0,0) x6 x8).2).2).2).1
 let y5:=((((rdA ([],0,0,0,0) x6 x8).2).2).2).2
 bif inB 0 x1.2.2.length then
 bif y2 != (((rdA ([],0,0,0,0) x1.2.2 0).2).1) then
 some (Sum.inr false)
 else
 bif decide (y3 > 100000) then
 some (Sum.inr false)
 else
 rec (x1,x6,x7,w64 (x8+1))
 else none
 else none
 else
 some (Sum.inl x1)
def ψ1V.f (p0:Int×Int×List (QE)):Option (Bool):=
 (lp ψ1V.l0 (p0,p0.2.2,(p0.2.2.length:Int),0)).bind (fun o6=>φU o6 (fun x1=>
 (ψ1W.f x1.1 0 100000).bind fun t7=>
 bif t7 then
 (ψ1W.f x1.2.1 0 1000000).bind fun t8=>
 bif t8 then
 (ψA.f x1.2.2).bind fun t9=>
 some t9
 else
 some false
 else
 some false) (fun x2=>
 some x2))
def ψ1v.l0 (rec:(QB×QC)→Option (QB)):(QB×QC)→Option (QB):=fun (x3,x6,x7,x8)=>
 bif decide (x8<x7) then
 bif inB x8 x6.length then
 (ψ1G.f (rdA 0 x6 x8)).bind fun t1=>
 bif decide (x3.length+t1.length≤9223372036854775807) then
 rec (x3++t1,x6,x7,w64 (x8+1))
 else none
 else none
 else
 some x3
def ψ1v.f (p0:List Int):Option (QB):=
 (lp ψ1v.l0 ([],p0,(p0.length:Int),0)).bind (fun x3=>
 some x3)
def ψy.l0 (rec:(QB×List (QE)×Int×Int)→Option (QB)):(QB×List (QE)×Int×Int)→Option (QB):=fun (x3,x19,x20,x21)=>
 bif decide (x21<x20) then
 bif inB x21 x19.length then
 let y3:=(rdA ([],0,0,0,0) x19 x21).1
 let y4:=((rdA ([],0,0,0,0) x19 x21).2).1
 let y5:=(((rdA ([],0,0,0,0) x19 x21).2).2).1
 let y6:=((((rdA ([],0,0,0,0) x19 x21).2).2).2).1
 let y7:=((((rdA ([],0,0,0,0) x19 x21).2).2).2).2
 (ψ1r.f y3).bind fun t8=>
 (ψ1v.f [y4,y5,y6,y7]).bind fun t9=>
 bif decide (t8.length+t9.length≤9223372036854775807) then
 bif decide (x3.length+(t8++t9).length≤9223372036854775807) then
 let y10:=x3++(t8++t9)
 rec (y10,x19,x20,w64 (x21+1))
 else none
 else none
 else none
 else
 some x3
def ψy.f (p0:Int×Int×List (QE)):Option (QB):=
 (ψ1V.f p0).bind fun t1=>
 bif !t1 then
 some []
 else
 (ψ1v.f [p0.1,p0.2.1,(p0.2.2.length:Int)]).bind fun t2=>
 (lp ψy.l0 (t2,p0.2.2,(p0.2.2.length:Int),0)).bind (fun x3=>
 (ψ3.f x3).bind fun t11=>
 (ψP.f t11 4).bind fun t12=>
 bif decide (t12.length+x3.length≤9223372036854775807) then
 some (t12++x3)
 else none)
def ψj.l0 (rec:(QB×(Int×Int×List (QE))×(QB×Bool)×(Int×Int×List (QE))×Int×Int)→Option (QB×(Int×Int×List (QE))×(QB×Bool)×Int×Int×List (QE))):(QB×(Int×Int×List (QE))×(QB×Bool)×(Int×Int×List (QE))×Int×Int)→Option (QB×(Int×Int×List (QE))×(QB×Bool)×Int×Int×List (QE)):=fun (x0,x2,x4,x5,x6,x7)=>
 bif decide (x7<x6) then
 bif !x4.2 then
 (ψ1k.f x4).bind fun (t5_0,t5_1)=>
 (ψ1j.f t5_1).bind fun (t6_0,t6_1)=>
 (ψ1j.f t6_1).bind fun (t7_0,t7_1)=>
 (ψ1j.f t7_1).bind fun (t8_0,t8_1)=>
 (ψ1j.f t8_1).bind fun (t9_0,t9_1)=>
 bif decide ((x5.2.2.length+[(t5_0,t6_0,t7_0,t8_0,t9_0)].length) * 48≤140737488355328) then
 let l10:=x5.2.2++[(t5_0,t6_0,t7_0,t8_0,t9_0)]
 rec (x0,x2,t9_1,(x5.1,x5.2.1,l10),x6,w64 (x7+1))
 else none
 else
 some (x0,x2,x4,x5)
 else
 some (x0,x2,x4,x5)
def ψj.f (p0:QB):Option ((Int×Int×List (QE))×Bool):=
 (ψ1i.f (p0,false) 4).bind fun (t1_0,t1_1)=>
 (ψ1j.f t1_1).bind fun (t2_0,t2_1)=>
 (ψ1j.f t2_1).bind fun (t3_0,t3_1)=>
 (ψ1j.f t3_1).bind fun (t4_0,t4_1)=>
 (lp ψj.l0 (p0,(0,0,[]),t4_1,(t2_0,t3_0,[]),t4_0,0)).bind (fun (x0,x2,x4,x5)=>
 bif x4.2 then
 some ((0,0,[]),false)
 else
 (ψ1V.f x5).bind fun t11=>
 bif !t11 then
 some ((0,0,[]),false)
 else
 (ψy.f x5).bind fun t12=>
 bif !(t12==x0) then
 some ((0,0,[]),false)
 else
 some (x5,true))
def ψ10.f (p0:QR):Option (QB):=
 (ψo.f p0).bind fun t1=>
 bif !t1 then
 some []
 else
 (ψ1v.f [p0.1,p0.2.1]).bind fun t2=>
 (bif p0.1==1 then
 some (p0,t2,p0.1,p0.1==1)
 else
 some (p0,t2,p0.1,p0.1==4):Option ((QR)×QB×Int×Bool)).bind (fun (x1,x3,x14,x15)=>
 bif x15 then
 (ψ1r.f x1.2.2.1).bind fun t3=>
 bif decide (x3.length+t3.length≤9223372036854775807) then
 (ψ1r.f x1.2.2.2.1).bind fun t4=>
 bif decide ((x3++t3).length+t4.length≤9223372036854775807) then
 let y5:=(x3++t3)++t4
 some y5
 else none
 else none
 else
 bif x14==2 then
 (ψ1r.f x1.2.2.1).bind fun t6=>
 bif decide (x3.length+t6.length≤9223372036854775807) then
 some (x3++t6)
 else none
 else
 (ψ1G.f x1.2.2.2.2.1).bind fun t7=>
 bif decide (x3.length+t7.length≤9223372036854775807) then
 (ψP.f x1.2.2.2.2.2 4).bind fun t8=>
 bif decide ((x3++t7).length+t8.length≤9223372036854775807) then
 let y9:=(x3++t7)++t8
 some y9
 else none
 else none)
def ψ17.l0 (rec:(QB×List (QR)×Int×Int)→Option (QB)):(QB×List (QR)×Int×Int)→Option (QB):=fun (x3,x6,x7,x8)=>
 bif decide (x8<x7) then
 bif inB x8 x6.length then
 let y1:=(rdA (0,0,[],[],0,0) x6 x8).1
 let y2:=((rdA (0,0,[],[],0,0) x6 x8).2).1
 let y3:=(((rdA (0,0,[],[],0,0) x6 x8).2).2).1
 let y4:=((((rdA (0,0,[],[],0,0) x6 x8).2).2).2).1
 let y5:=(((((rdA (0,0,[],[],0,0) x6 x8).2).2).2).2).1
 let y6:=(((((rdA (0,0,[],[],0,0) x6 x8).2).2).2).2).2
 (ψ10.f (y1,y2,y3,y4,y5,y6)).bind fun t7=>
 bif decide (x3.length+t7.length≤9223372036854775807) then
 rec (x3++t7,x6,x7,w64 (x8+1))
 else none
 else none
 else
 some x3
def ψ17.f (p0:List (QR)):Option (Int):=
 (lp ψ17.l0 ([],p0,(p0.length:Int),0)).bind (fun x3=>
 (ψ3.f x3).bind fun t8=>
 some t8)
def ψ1T.l0 (rec:((QR)×List (QR)×List (Int×Int×Int×QR)×Int×Int)→Option ((QR)×List (QR))):((QR)×List (QR)×List (Int×Int×Int×QR)×Int×Int)→Option ((QR)×List (QR)):=fun (x2,x5,x8,x9,x10)=>
 bif decide (x10<x9) then
 bif inB x10 x8.length then
 let y1:=(rdA (0,0,0,0,0,[],[],0,0) x8 x10).1
 let y2:=((rdA (0,0,0,0,0,[],[],0,0) x8 x10).2).1
 let y3:=(((rdA (0,0,0,0,0,[],[],0,0) x8 x10).2).2).1
 let y4:=((((rdA (0,0,0,0,0,[],[],0,0) x8 x10).2).2).2).1
 let y5:=(((((rdA (0,0,0,0,0,[],[],0,0) x8 x10).2).2).2).2).1
 let y6:=((((((rdA (0,0,0,0,0,[],[],0,0) x8 x10).2).2).2).2).2).1
 let y7:=(((((((rdA (0,0,0,0,0,[],[],0,0) x8 x10).2).2).2).2).2).2).1
 let y8:=((((((((rdA (0,0,0,0,0,[],[],0,0) x8 x10).2).2).2).2).2).2).2).1
 let y9:=((((((((rdA (0,0,0,0,0,[],[],0,0) x8 x10).2).2).2).2).2).2).2).2
 bif decide ((x5.length+[(y4,y5,y6,y7,y8,y9)].length) * 64≤140737488355328) then
 let l10:=x5++[(y4,y5,y6,y7,y8,y9)]
 rec (x2,l10,x8,x9,w64 (x10+1))
 else none
 else none
 else
 some (x2,x5)
def ψ1T.f (p0:QR) (p1:QL):Option (Bool):=
 (lp ψ1T.l0 (p0,[],p1,(p1.length:Int),0)).bind (fun (x2,x5)=>
 bif x2.2.2.2.2.1==(x5.length:Int) then
 (ψ17.f x5).bind fun t11=>
 let y12:=x2.2.2.2.2.2==t11
 some y12
 else
 some false)
def ψV.l0 (rec:(Int×(Int×Int×List (QE))×List (Int×Int×QR)×(Int×Int×List (QE))×List (Int×Int×QR)×Int×Int)→Option (((Int×Int×List (QE))×Int×Int×List (QE)) ⊕ ((Int×Int×List (QE))×Bool))):(Int×(Int×Int×List (QE))×List (Int×Int×QR)×(Int×Int×List (QE))×List (Int×Int×QR)×Int×Int)→Option (((Int×Int×List (QE))×Int×Int×List (QE)) ⊕ ((Int×Int×List (QE))×Bool)):=fun (x0,x4,x6,x9,x67,x68,x69)=>
 bif decide (x69<x68) then
 bif inB x69 x67.length then
 let y7:=(rdA (0,0,0,0,[],[],0,0) x67 x69).1
 let y8:=((rdA (0,0,0,0,[],[],0,0) x67 x69).2).1
 let y9:=(((rdA (0,0,0,0,[],[],0,0) x67 x69).2).2).1
 let y10:=((((rdA (0,0,0,0,[],[],0,0) x67 x69).2).2).2).1
 let y11:=(((((rdA (0,0,0,0,[],[],0,0) x67 x69).2).2).2).2).1
 let y12:=((((((rdA (0,0,0,0,[],[],0,0) x67 x69).2).2).2).2).2).1
 let y13:=(((((((rdA (0,0,0,0,[],[],0,0) x67 x69).2).2).2).2).2).2).1
 let y14:=(((((((rdA (0,0,0,0,[],[],0,0) x67 x69).2).2).2).2).2).2).2
 (bif y9 != 4 then
 some (Sum.inr ((0,0,[]),false))
 else
 bif decide (y10 > x9.2.1) then
 some (Sum.inr ((0,0,[]),false))
 else
 bif decide (x69 > 0) then
 bif inB (w64 (x69 - 1)) x6.length then
 bif !(Op.bytesLess ((((((rdA (0,0,0,0,[],[],0,0) x6 (w64 (x69 - 1))).2).2).2).2).1) y11) then
 some (Sum.inr ((0,0,[]),false))
 else
 some (Sum.inl (x0,x4,x6,x9,(y7,y8,y9,y10,y11,y12,y13,y14),x67,x68,x69))
 else none
 else
 some (Sum.inl (x0,x4,x6,x9,(y7,y8,y9,y10,y11,y12,y13,y14),x67,x68,x69)):Option ((Int×(Int×Int×List (QE))×List (Int×Int×QR)×(Int×Int×List (QE))×(Int×Int×QR)×List (Int×Int×QR)×Int×Int) ⊕ ((Int×Int×List (QE))×Bool))).bind (fun o15=>φU o15 (fun (x0,x4,x6,x9,x11,x67,x68,x69)=>
 bif decide ((x9.2.2.length+[(x11.2.2.2.2.1,x0,x11.1,x11.2.1,x11.2.2.2.1)].length) * 48≤140737488355328) then
 let l16:=x9.2.2++[(x11.2.2.2.2.1,x0,x11.1,x11.2.1,x11.2.2.2.1)]
 rec (x0,x4,x6,(x9.1,x9.2.1,l16),x67,x68,w64 (x69+1))
 else none) (fun (x4,x5)=>
 some (Sum.inr (x4,x5))))
 else none
 else
 some (Sum.inl (x4,x9))
def ψV.f (p0:Int) (p1:QB):Option ((Int×Int×List (QE))×Bool):=
 (ψw.f p1).bind fun (t1_0,t1_1)=>
 let y2:=w64 ((t1_0.length:Int) - 1)
 bif decide (y2<0) then
 some ((0,0,[]),false)
 else
 bif t1_1 != (p1.length:Int) then
 some ((0,0,[]),false)
 else
 (ψ1W.f p0 1 100000).bind fun t3=>
 bif !t3 then
 some ((0,0,[]),false)
 else
 bif inB y2 t1_0.length then
 bif ((((rdA (0,0,0,0,[],[],0,0) t1_0 y2).2).2).1) != 5 then
 some ((0,0,[]),false)
 else
 bif inB y2 t1_0.length then
 bif (decide (0≤y2) && decide (y2≤(t1_0.length:Int))) then
 (ψ1e.f p0 (t1_0.take y2.toNat)).bind fun t4=>
 (ψ1T.f ((((rdA (0,0,0,0,[],[],0,0) t1_0 y2).2).2).1,((((rdA (0,0,0,0,[],[],0,0) t1_0 y2).2).2).2).1,(((((rdA (0,0,0,0,[],[],0,0) t1_0 y2).2).2).2).2).1,((((((rdA (0,0,0,0,[],[],0,0) t1_0 y2).2).2).2).2).2).1,(((((((rdA (0,0,0,0,[],[],0,0) t1_0 y2).2).2).2).2).2).2)) t4).bind fun t5=>
 bif !t5 then
 some ((0,0,[]),false)
 else
 bif inB y2 t1_0.length then
 let y6:=((((rdA (0,0,0,0,[],[],0,0) t1_0 y2).2).2).2).1
 bif (decide (0≤y2) && decide (y2≤(t1_0.length:Int))) then
 (lp ψV.l0 (p0,(0,0,[]),t1_0,(t1_1,y6,[]),t1_0.take y2.toNat,((t1_0.take y2.toNat).length:Int),0)).bind (fun o17=>φU o17 (fun (x4,x9)=>
 some (x9,true)) (fun (x4,x5)=>
 some (x4,x5)))
 else none
 else none
 else none
 else none
 else none
def ψv.l0 (rec:(List (QE)×List (QE)×Int×Int)→Option ((Unit) ⊕ (Bool))):(List (QE)×List (QE)×Int×Int)→Option ((Unit) ⊕ (Bool)):=fun (x0,x1,x12,x13)=>
 bif decide (x13<x12) then
 bif inB x13 x0.length then
 bif inB x13 x1.length then
 bif !(((rdA ([],0,0,0,0) x0 x13).1)==((rdA ([],0,0,0,0) x1 x13).1) && ((((rdA ([],0,0,0,0) x0 x13).2).1)==(((rdA ([],0,0,0,0) x1 x13).2).1) && (((((rdA ([],0,0,0,0) x0 x13).2).2).1)==((((rdA ([],0,0,0,0) x1 x13).2).2).1) && ((((((rdA ([],0,0,0,0) x0 x13).2).2).2).1)==(((((rdA ([],0,0,0,0) x1 x13).2).2).2).1) && ((((((rdA ([],0,0,0,0) x0 x13).2).2).2).2)==(((((rdA ([],0,0,0,0) x1 x13).2).2).2).2)))))) then
 some (Sum.inr false)
 else
 rec (x0,x1,x12,w64 (x13+1))
 else none
 else none
 else
 some (Sum.inl ())
def ψv.f (p0:List (QE)) (p1:List (QE)):Option (Bool):=
 bif (p0.length:Int) != (p1.length:Int) then
 some false
 else
 (lp ψv.l0 (p0,p1,(p0.length:Int),0)).bind (fun o1=>φU o1 (fun _=>
 some true) (fun x4=>
 some x4))
def ψT.f (p0:Int) (p1:QB) (p2:Int×Int×List (QE)):Option (Bool):=
 (ψV.f p0 p1).bind fun (t1_0,t1_1)=>
 bif t1_1 then
 bif t1_0.1==p2.1 then
 bif t1_0.2.1==p2.2.1 then
 (ψv.f t1_0.2.2 p2.2.2).bind fun t2=>
 some t2
 else
 some false
 else
 some false
 else
 some false
def ψ23.f (p0:(QD)×Int) (p1:Int):Option ((List (QE)×Int×Int)×Bool×(QD)×Int):=
 (ψU.f p1).bind fun t1=>
 (ψO.f p0.1 t1).bind fun (t2_0,t2_1)=>
 (ψj.f t2_0).bind fun (t3_0,t3_1)=>
 (ψx.f p1).bind fun t4=>
 (ψO.f p0.1 t4).bind fun (t5_0,t5_1)=>
 bif !t2_1 then
 some (([],0,0),false,p0)
 else
 bif !t3_1 then
 some (([],0,0),false,p0)
 else
 (ψT.f p1 t5_0 t3_0).bind fun t6=>
 bif !t6 then
 some (([],0,0),false,p0)
 else
 some ((t3_0.2.2,t3_0.2.1,0),true,p0)
def ψ1I.f (p0:List (QE)):Option (List (QE)):=
 bif decide ((([]:List (QE)).length+p0.length) * 48≤140737488355328) then
 let l1:=([]:List (QE))++p0
 some l1
 else none
def ψ1d.l0 (rec:((QR)×List (Int×Int×Int×QR)×List (Int×Int×Int×QR)×Int×Int)→Option (QL)):((QR)×List (Int×Int×Int×QR)×List (Int×Int×Int×QR)×Int×Int)→Option (QL):=fun (x3,x5,x9,x10,x11)=>
 bif decide (x11<x10) then
 bif inB x11 x9.length then
 let y1:=(rdA (0,0,0,0,0,[],[],0,0) x9 x11).1
 let y2:=((rdA (0,0,0,0,0,[],[],0,0) x9 x11).2).1
 let y3:=(((rdA (0,0,0,0,0,[],[],0,0) x9 x11).2).2).1
 let y4:=((((rdA (0,0,0,0,0,[],[],0,0) x9 x11).2).2).2).1
 let y5:=(((((rdA (0,0,0,0,0,[],[],0,0) x9 x11).2).2).2).2).1
 let y6:=((((((rdA (0,0,0,0,0,[],[],0,0) x9 x11).2).2).2).2).2).1
 let y7:=(((((((rdA (0,0,0,0,0,[],[],0,0) x9 x11).2).2).2).2).2).2).1
 let y8:=((((((((rdA (0,0,0,0,0,[],[],0,0) x9 x11).2).2).2).2).2).2).2).1
 let y9:=((((((((rdA (0,0,0,0,0,[],[],0,0) x9 x11).2).2).2).2).2).2).2).2
 (bif x3.1==3 then
 bif y5 != x3.2.1 then
 some (x3,x5,x9,x10,x11)
 else
 (bif y4==x3.1 then
 some (x3,[],x9,x10,x11)
 else
 (bif x3.1==3 then
 bif y4==1 then
 some (x3,x5,(y1,y2,y3,y4,y5,y6,y7,y8,y9),x9,x10,x11,true)
 else
 bif y4==2 then
 some (x3,x5,(y1,y2,y3,y4,y5,y6,y7,y8,y9),x9,x10,x11,y4==2)
 else
 bif x3.1==5 then
 some (x3,x5,(y1,y2,y3,y4,y5,y6,y7,y8,y9),x9,x10,x11,y4==4)
 else
 some (x3,x5,(y1,y2,y3,y4,y5,y6,y7,y8,y9),x9,x10,x11,false)
 else
 bif x3.1==5 then
 some (x3,x5,(y1,y2,y3,y4,y5,y6,y7,y8,y9),x9,x10,x11,y4==4)
 else
 some (x3,x5,(y1,y2,y3,y4,y5,y6,y7,y8,y9),x9,x10,x11,false):Option ((QR)×List (Int×Int×Int×QR)×(Int×Int×Int×QR)×List (Int×Int×Int×QR)×Int×Int×Bool)).bind (fun (x3,x5,x7,x9,x10,x11,x34)=>
 bif x34 then
 bif decide ((x5.length+[x7].length) * 88≤140737488355328) then
 some (x3,x5++[x7],x9,x10,x11)
 else none
 else
 some (x3,x5,x9,x10,x11)):Option ((QR)×List (Int×Int×Int×QR)×List (Int×Int×Int×QR)×Int×Int)).bind (fun (x3,x5,x9,x10,x11)=>
 some (x3,x5,x9,x10,x11))
 else
 (bif y4==x3.1 then
 some (x3,[],x9,x10,x11)
 else
 (bif x3.1==3 then
 bif y4==1 then
 some (x3,x5,(y1,y2,y3,y4,y5,y6,y7,y8,y9),x9,x10,x11,true)
 else
 bif y4==2 then
 some (x3,x5,(y1,y2,y3,y4,y5,y6,y7,y8,y9),x9,x10,x11,y4==2)
 else
 bif x3.1==5 then
 some (x3,x5,(y1,y2,y3,y4,y5,y6,y7,y8,y9),x9,x10,x11,y4==4)
 else
 some (x3,x5,(y1,y2,y3,y4,y5,y6,y7,y8,y9),x9,x10,x11,false)
 else
 bif x3.1==5 then
 some (x3,x5,(y1,y2,y3,y4,y5,y6,y7,y8,y9),x9,x10,x11,y4==4)
 else
 some (x3,x5,(y1,y2,y3,y4,y5,y6,y7,y8,y9),x9,x10,x11,false):Option ((QR)×List (Int×Int×Int×QR)×(Int×Int×Int×QR)×List (Int×Int×Int×QR)×Int×Int×Bool)).bind (fun (x3,x5,x7,x9,x10,x11,x34)=>
 bif x34 then
 bif decide ((x5.length+[x7].length) * 88≤140737488355328) then
 some (x3,x5++[x7],x9,x10,x11)
 else none
 else
 some (x3,x5,x9,x10,x11)):Option ((QR)×List (Int×Int×Int×QR)×List (Int×Int×Int×QR)×Int×Int)).bind (fun (x3,x5,x9,x10,x11)=>
 some (x3,x5,x9,x10,x11)):Option ((QR)×List (Int×Int×Int×QR)×List (Int×Int×Int×QR)×Int×Int)).bind (fun (x3,x5,x9,x10,x11)=>
 rec (x3,x5,x9,x10,w64 (x11+1)))
 else none
 else
 some x5
def ψ1d.f (p0:QL) (p1:QR):Option (QL):=
 (lp ψ1d.l0 (p1,[],p0,(p0.length:Int),0)).bind (fun x5=>
 some x5)
def ψ7.l0 (rec:(QB×List (QE)×List (QE)×Int×Int)→Option (List (QE))):(QB×List (QE)×List (QE)×Int×Int)→Option (List (QE)):=fun (x1,x5,x8,x9,x10)=>
 bif decide (x10<x9) then
 bif inB x10 x8.length then
 let y1:=(rdA ([],0,0,0,0) x8 x10).1
 let y2:=((rdA ([],0,0,0,0) x8 x10).2).1
 let y3:=(((rdA ([],0,0,0,0) x8 x10).2).2).1
 let y4:=((((rdA ([],0,0,0,0) x8 x10).2).2).2).1
 let y5:=((((rdA ([],0,0,0,0) x8 x10).2).2).2).2
 (bif !(y1==x1) then
 bif decide ((x5.length+[(y1,y2,y3,y4,y5)].length) * 48≤140737488355328) then
 let l6:=x5++[(y1,y2,y3,y4,y5)]
 some (x1,l6,x8,x9,x10)
 else none
 else
 some (x1,x5,x8,x9,x10):Option (QB×List (QE)×List (QE)×Int×Int)).bind (fun (x1,x5,x8,x9,x10)=>
 rec (x1,x5,x8,x9,w64 (x10+1)))
 else none
 else
 some x5
def ψ7.f (p0:List (QE)) (p1:QB):Option (List (QE)):=
 (lp ψ7.l0 (p1,[],p0,(p0.length:Int),0)).bind (fun x5=>
 some x5)
def ψB.l0 (rec:((QE)×List (QE)×Int)→Option ((QE)×List (QE)×Int)):((QE)×List (QE)×Int)→Option ((QE)×List (QE)×Int):=fun (x3,x5,x6)=>
 bif decide (x6<(x5.length:Int)) then
 bif inB x6 x5.length then
 bif (Op.bytesLess ((rdA ([],0,0,0,0) x5 x6).1) x3.1 || ((rdA ([],0,0,0,0) x5 x6).1)==x3.1) then
 rec (x3,x5,w64 (x6+1))
 else
 some (x3,x5,x6)
 else none
 else
 some (x3,x5,x6)
def ψB.f (p0:List (QE)) (p1:QE):Option (List (QE)):=
 (ψ7.f p0 p1.1).bind fun t1=>
 (lp ψB.l0 (p1,t1,0)).bind (fun (x3,x5,x6)=>
 bif (decide (0≤x6) && decide (x6≤(x5.length:Int))) then
 (ψ1I.f (x5.take x6.toNat)).bind fun t2=>
 bif decide ((t2.length+[x3].length) * 48≤140737488355328) then
 bif (decide (0≤x6) && decide (x6≤(x5.length:Int))) then
 bif decide (((t2++[x3]).length+(x5.drop x6.toNat).length) * 48≤140737488355328) then
 let l3:=(t2++[x3])++(x5.drop x6.toNat)
 some l3
 else none
 else none
 else none
 else none)
def ψS.l0 (rec:((List (QE)×Int×Int)×List (Int×Int×Int×QR)×Int×Int)→Option (List (QE)×Int×Int)):((List (QE)×Int×Int)×List (Int×Int×Int×QR)×Int×Int)→Option (List (QE)×Int×Int):=fun (x0,x6,x7,x8)=>
 bif decide (x8<x7) then
 bif inB x8 x6.length then
 let y1:=(rdA (0,0,0,0,0,[],[],0,0) x6 x8).1
 let y2:=((rdA (0,0,0,0,0,[],[],0,0) x6 x8).2).1
 let y3:=(((rdA (0,0,0,0,0,[],[],0,0) x6 x8).2).2).1
 let y4:=((((rdA (0,0,0,0,0,[],[],0,0) x6 x8).2).2).2).1
 let y5:=(((((rdA (0,0,0,0,0,[],[],0,0) x6 x8).2).2).2).2).1
 let y6:=((((((rdA (0,0,0,0,0,[],[],0,0) x6 x8).2).2).2).2).2).1
 let y7:=(((((((rdA (0,0,0,0,0,[],[],0,0) x6 x8).2).2).2).2).2).2).1
 let y8:=((((((((rdA (0,0,0,0,0,[],[],0,0) x6 x8).2).2).2).2).2).2).2).1
 let y9:=((((((((rdA (0,0,0,0,0,[],[],0,0) x6 x8).2).2).2).2).2).2).2).2
 (bif y4==2 then
 (ψ7.f x0.1 y6).bind fun t10=>
 some ((t10,x0.2),x6,x7,x8)
 else
 (ψB.f x0.1 (y6,y1,y2,y3,y5)).bind fun t11=>
 some ((t11,x0.2),x6,x7,x8):Option ((List (QE)×Int×Int)×List (Int×Int×Int×QR)×Int×Int)).bind (fun (x0,x6,x7,x8)=>
 rec (x0,x6,x7,w64 (x8+1)))
 else none
 else
 some x0
def ψS.f (p0:List (QE)×Int×Int) (p1:QL):Option (List (QE)×Int×Int):=
 (lp ψS.l0 (p0,p1,(p1.length:Int),0)).bind (fun x0=>
 bif decide ((x0.1.length:Int) > 20) then
 some (x0.1,x0.2.1,2)
 else
 some x0)
def ψp.l0 (rec:(List (Int×Int×Int×QR)×(List (QE)×Int×Int)×(List (QE)×Int×Int)×List (Int×Int×Int×QR)×Int×Int)→Option ((List (Int×Int×Int×QR)×(List (QE)×Int×Int)×List (QE)×Int×Int) ⊕ (List (QE)×Int×Int))):(List (Int×Int×Int×QR)×(List (QE)×Int×Int)×(List (QE)×Int×Int)×List (Int×Int×Int×QR)×Int×Int)→Option ((List (Int×Int×Int×QR)×(List (QE)×Int×Int)×List (QE)×Int×Int) ⊕ (List (QE)×Int×Int)):=fun (x1,x4,x5,x17,x18,x19)=>
 bif decide (x19<x18) then
 (bif inB x19 x17.length then
 let y2:=(rdA (0,0,0,0,0,[],[],0,0) x17 x19).1
 let y3:=((rdA (0,0,0,0,0,[],[],0,0) x17 x19).2).1
 let y4:=(((rdA (0,0,0,0,0,[],[],0,0) x17 x19).2).2).1
 let y5:=((((rdA (0,0,0,0,0,[],[],0,0) x17 x19).2).2).2).1
 let y6:=(((((rdA (0,0,0,0,0,[],[],0,0) x17 x19).2).2).2).2).1
 let y7:=((((((rdA (0,0,0,0,0,[],[],0,0) x17 x19).2).2).2).2).2).1
 let y8:=(((((((rdA (0,0,0,0,0,[],[],0,0) x17 x19).2).2).2).2).2).2).1
 let y9:=((((((((rdA (0,0,0,0,0,[],[],0,0) x17 x19).2).2).2).2).2).2).2).1
 let y10:=((((((((rdA (0,0,0,0,0,[],[],0,0) x17 x19).2).2).2).2).2).2).2).2
 bif x5.2.2 != 0 then
 some (Sum.inr x5)
 else
 let y11:=if y6 > x5.2.1 then y6 else x5.2.1
 (bif y5 != 3 then
 bif y5 != 5 then
 some (Sum.inr (x1,x4,(x5.1,y11,x5.2.2),x17,x18,x19))
 else
 some (Sum.inl (x1,x4,(x5.1,y11,x5.2.2),x19,(y2,y3,y4,y5,y6,y7,y8,y9,y10),x17,x18,x19))
 else
 some (Sum.inl (x1,x4,(x5.1,y11,x5.2.2),x19,(y2,y3,y4,y5,y6,y7,y8,y9,y10),x17,x18,x19)):Option ((List (Int×Int×Int×QR)×(List (QE)×Int×Int)×(List (QE)×Int×Int)×Int×(Int×Int×Int×QR)×List (Int×Int×Int×QR)×Int×Int) ⊕ (List (Int×Int×Int×QR)×(List (QE)×Int×Int)×(List (QE)×Int×Int)×List (Int×Int×Int×QR)×Int×Int))).bind (fun o12=>φU o12 (fun (x1,x4,x5,x6,x7,x17,x18,x19)=>
 bif (decide (0≤x6) && decide (x6≤(x1.length:Int))) then
 (ψ1d.f (x1.take x6.toNat) x7.2.2.2).bind fun t13=>
 ((ψ1T.f x7.2.2.2 t13).bind fun t14=>
 bif t14 then
 (ψS.f x5 t13).bind fun t15=>
 some (x1,x4,t15,x17,x18,x19)
 else
 (let y16:=x7.2.2.2.1==5
 bif y16 then
 some (x1,x4,(x5.1,x5.2.1,1),x17,x18,x19)
 else
 some (x1,x4,x5,x17,x18,x19):Option (List (Int×Int×Int×QR)×(List (QE)×Int×Int)×(List (QE)×Int×Int)×List (Int×Int×Int×QR)×Int×Int)).bind (fun (x1,x4,x5,x17,x18,x19)=>
 some (x1,x4,x5,x17,x18,x19)):Option (List (Int×Int×Int×QR)×(List (QE)×Int×Int)×(List (QE)×Int×Int)×List (Int×Int×Int×QR)×Int×Int)).bind (fun (x1,x4,x5,x17,x18,x19)=>
 some (Sum.inl (x1,x4,x5,x17,x18,x19)))
 else none) (fun (x1,x4,x5,x17,x18,x19)=>
 some (Sum.inl (x1,x4,x5,x17,x18,x19))))
 else none:Option ((List (Int×Int×Int×QR)×(List (QE)×Int×Int)×(List (QE)×Int×Int)×List (Int×Int×Int×QR)×Int×Int) ⊕ (List (QE)×Int×Int))).bind (fun o17=>φU o17 (fun (x1,x4,x5,x17,x18,x19)=>
 rec (x1,x4,x5,x17,x18,w64 (x19+1))) (fun x4=>
 some (Sum.inr x4)))
 else
 some (Sum.inl (x1,x4,x5))
def ψp.f (p0:List (QE)×Int×Int) (p1:QL):Option (List (QE)×Int×Int):=
 (ψ1I.f p0.1).bind fun t1=>
 (lp ψp.l0 (p1,([],0,0),(t1,p0.2),p1,(p1.length:Int),0)).bind (fun o18=>φU o18 (fun (x1,x4,x5)=>
 bif x5.2.2==0 then
 (ψ1d.f x1 (5,0,[],[],0,0)).bind fun t19=>
 bif decide ((t19.length:Int) > 0) then
 some (x5.1,x5.2.1,1)
 else
 some x5
 else
 some x5) (fun x4=>
 some x4))
def ψq.f (p0:QD) (p1:QB):Option ((QD)×Int):=
 (ψ1n.f p0 p1).bind fun (t1_0,t1_1)=>
 some (t1_0,t1_1)
def ψ22.f (p0:(QD)×Int) (p1:QB):Option ((QD)×Int):=
 bif p0.2==0 then
 (ψ1S.f p0.1 p1).bind fun t1=>
 bif decide (t1≥0) then
 (ψq.f p0.1 p1).bind fun (t2_0,t2_1)=>
 (ψ2A.f p0 t2_0 t2_1).bind fun t3=>
 some t3
 else
 some p0
 else
 some p0
def ψ3O.f (p0:QB) (p1:QB):Option (Bool):=
 bif decide ((p0.length:Int)≥(p1.length:Int)) then
 bif (decide (0≤(p1.length:Int)) && decide ((p1.length:Int)≤(p0.length:Int))) then
 let y1:=(p0.take ((p1.length:Int).toNat))==p1
 some y1
 else none
 else
 some false
def ψ3N.f (p0:QB) (p1:QB):Option (QB×Bool):=
 (ψ3O.f p0 p1).bind fun t1=>
 bif !t1 then
 some (p0,false)
 else
 bif (decide (0≤(p1.length:Int)) && decide ((p1.length:Int)≤(p0.length:Int))) then
 let y2:=p0.drop ((p1.length:Int).toNat)
 some (y2,true)
 else none
def ψ3M.f (p0:QB) (p1:QB):Option (QB×Bool):=
 (ψ3N.f p0 p1).bind fun (t1_0,t1_1)=>
 some (t1_0,t1_1)
def ψh.f (p0:QB):Option (Int×Bool):=
 (strconv_Atoi.f p0).bind fun (t1_0,t1_1)=>
 bif t1_1 then
 some (0,false)
 else
 (ψ6.f t1_0).bind fun t2=>
 bif !(t2==p0) then
 some (0,false)
 else
 (ψ1W.f t1_0 (-999999999) 999999999).bind fun t3=>
 bif !t3 then
 some (0,false)
 else
 some (t1_0,true)
def ψW.f (p0:QB):Option (Int×Bool):=
 (ψ3M.f p0 [115,101,103]).bind fun (t1_0,t1_1)=>
 (bif !t1_1 then
 (ψ3M.f p0 [104,105,110,116]).bind fun (t2_0,t2_1)=>
 some (t2_0,t2_1)
 else
 some (t1_0,t1_1):Option (QB×Bool)).bind (fun (x4,x5)=>
 (ψh.f x4).bind fun (t3_0,t3_1)=>
 bif !x5 then
 some (0,false)
 else
 bif !t3_1 then
 some (0,false)
 else
 (ψ1W.f t3_0 1 100000).bind fun t4=>
 bif !t4 then
 some (0,false)
 else
 some (t3_0,true))
def ψ1U.l0 (rec:(Int×QC)→Option ((Unit) ⊕ (Bool))):(Int×QC)→Option ((Unit) ⊕ (Bool)):=fun (x1,x7,x8,x9)=>
 bif decide (x9<x8) then
 bif inB x9 x7.length then
 bif (rdA 0 x7 x9)==x1 then
 some (Sum.inr true)
 else
 rec (x1,x7,x8,w64 (x9+1))
 else none
 else
 some (Sum.inl ())
def ψ1U.f (p0:List Int) (p1:Int):Option (Bool):=
 (lp ψ1U.l0 (p1,p0,(p0.length:Int),0)).bind (fun o1=>φU o1 (fun _=>
 some false) (fun x4=>
 some x4))
def ψd.l0 (rec:((Int×List Int)×List (QB)×List (QF)×Int×Int)→Option (List (QB))):((Int×List Int)×List (QB)×List (QF)×Int×Int)→Option (List (QB)):=fun (x3,x5,x14,x15,x16)=>
 bif decide (x16<x15) then
 bif inB x16 x14.length then
 let y2:=(rdA ([],[],0) x14 x16).1
 let y3:=((rdA ([],[],0) x14 x16).2).1
 let y4:=((rdA ([],[],0) x14 x16).2).2
 (ψW.f y2).bind fun (t5_0,t5_1)=>
 (bif y2==[116,101,109,112] then
 bif decide ((x5.length+[y2].length) * 16≤140737488355328) then
 some (x3,x5++[y2],x14,x15,x16)
 else none
 else
 bif t5_1 then
 (ψ1U.f x3.2 t5_0).bind fun t6=>
 bif !t6 then
 bif decide ((x5.length+[y2].length) * 16≤140737488355328) then
 some (x3,x5++[y2],x14,x15,x16)
 else none
 else
 some (x3,x5,x14,x15,x16)
 else
 some (x3,x5,x14,x15,x16):Option ((Int×List Int)×List (QB)×List (QF)×Int×Int)).bind (fun (x3,x5,x14,x15,x16)=>
 rec (x3,x5,x14,x15,w64 (x16+1)))
 else none
 else
 some x5
def ψd.f (p0:QD) (p1:Int×List Int):Option (List (QB)):=
 (ψD.f p0).bind fun t1=>
 bif !t1 then
 some []
 else
 (lp ψd.l0 (p1,[],p0.1,(p0.1.length:Int),0)).bind (fun x5=>
 some x5)
def ψ24.l0 (rec:(((QD)×Int)×List (QB)×Int×Int)→Option ((QD)×Int)):(((QD)×Int)×List (QB)×Int×Int)→Option ((QD)×Int):=fun (x0,x11,x12,x13)=>
 bif decide (x13<x12) then
 bif inB x13 x11.length then
 let y2:=rdA [] x11 x13
 (ψ22.f x0 y2).bind fun t3=>
 rec (t3,x11,x12,w64 (x13+1))
 else none
 else
 some x0
def ψ24.f (p0:(QD)×Int) (p1:Int×List Int):Option ((QD)×Int):=
 (ψd.f p0.1 p1).bind fun t1=>
 (lp ψ24.l0 (p0,t1,(t1.length:Int),0)).bind (fun x0=>
 some x0)
def ψ21.l0 (rec:(((QD)×Int)×(QS)×(Int×List Int)×(QS)×(List (QE)×Int×Int)×List (Int×Int×Int×QR)×List (QL)×Int×Int)→Option (((QD)×Int)×(QS)×(Int×List Int)×(QS)×(List (QE)×Int×Int)×QL)):(((QD)×Int)×(QS)×(Int×List Int)×(QS)×(List (QE)×Int×Int)×List (Int×Int×Int×QR)×List (QL)×Int×Int)→Option (((QD)×Int)×(QS)×(Int×List Int)×(QS)×(List (QE)×Int×Int)×QL):=fun (x0,x4,x5,x13,x14,x16,x103,x104,x105)=>
 bif decide (x105<x104) then
 bif inB x105 x103.length then
 bif decide ((x16.length+(rdA [] x103 x105).length) * 88≤140737488355328) then
 let l9:=x16++(rdA [] x103 x105)
 rec (x0,x4,(x5.1,[]),x13,x14,l9,x103,x104,w64 (x105+1))
 else none
 else none
 else
 some (x0,x4,(x5.1,[]),x13,x14,x16)
def ψ21.f (p0:(QD)×Int) (p1:QB):Option ((QS)×(QD)×Int):=
 (ψk.f p1).bind fun (t1_0,t1_1)=>
 (ψ28.f p0 t1_0).bind fun (t2_0,t2_1,t2_2,t2_3)=>
 bif !t1_1 then
 some (((0,[]),[],0,0,0),(t2_3.1,3))
 else
 bif !t2_2 then
 some (((0,[]),[],0,0,0),(t2_3.1,3))
 else
 bif inB (w64 ((t1_0.2.length:Int) - 1)) t1_0.2.length then
 (ψx.f (rdA 0 t1_0.2 (w64 ((t1_0.2.length:Int) - 1)))).bind fun t3=>
 (ψO.f t2_3.1 t3).bind fun (t4_0,t4_1)=>
 (bif (t4_0.length:Int) != t2_1 then
 (ψ1A.f t2_3.1 t3 t2_1).bind fun (t5_0,t5_1)=>
 (ψ2A.f t2_3 t5_0 t5_1).bind fun t6=>
 some (t6,((0,[]),[],0,0,0),t1_0,t2_0,t2_1,t3)
 else
 some (t2_3,((0,[]),[],0,0,0),t1_0,t2_0,t2_1,t3):Option (((QD)×Int)×(QS)×(Int×List Int)×List (QL)×Int×QB)).bind (fun (x0,x4,x5,x7,x8,x10)=>
 (ψ29.f x0 x10).bind fun t7=>
 bif t7.2 != 0 then
 some (((0,[]),[],0,0,0),t7)
 else
 bif inB 0 x5.2.length then
 (ψ23.f t7 (rdA 0 x5.2 0)).bind fun (t8_0,t8_1,t8_2)=>
 (bif t8_1 then
 bif inB 0 x5.2.length then
 bif (decide (0≤(1:Int)) && decide (1≤(x7.length:Int))) then
 some (t8_2,x4,(x5.1,[]),x7.drop 1,(x5,[],0,x8,rdA 0 x5.2 0),t8_0)
 else none
 else none
 else
 some (t8_2,x4,(x5.1,[]),x7,(x5,[],0,x8,0),t8_0):Option (((QD)×Int)×(QS)×(Int×List Int)×List (QL)×(QS)×List (QE)×Int×Int)).bind (fun (x0,x4,x5,x7,x13,x14)=>
 (lp ψ21.l0 (x0,x4,(x5.1,[]),x13,x14,[],x7,(x7.length:Int),0)).bind (fun (x0,x4,x5,x13,x14,x16)=>
 (ψp.f x14 x16).bind fun t10=>
 bif t10.2.2 != 0 then
 some (((0,[]),[],0,0,0),(x0.1,3))
 else
 (ψ24.f x0 (x5.1,x13.1.2)).bind fun t11=>
 let y12:=w64 (t10.2.1+1)
 some ((x13.1,t10.1,y12,x13.2.2.2),t11)))
 else none)
 else none
def ψ4.f (p0:QD) (p1:QB):Option ((QD)×Int):=
 (ψ1m.f p0 p1).bind fun (t1_0,t1_1)=>
 some (t1_0,t1_1)
def ψ1y.f (p0:(QD)×Int) (p1:QB):Option ((QD)×Int):=
 bif p0.2==0 then
 (ψ4.f p0.1 p1).bind fun (t1_0,t1_1)=>
 (ψ2A.f p0 t1_0 t1_1).bind fun t2=>
 some t2
 else
 some p0
def ψ1w.f (p0:(QD)×Int) (p1:QB):Option ((QD)×Int):=
 (ψ22.f p0 p1).bind fun t1=>
 (ψ1y.f t1 p1).bind fun t2=>
 some t2
def ψ0.f (p0:QD) (p1:QB) (p2:QB):Option ((QD)×Int):=
 (ψ1l.f p0 (p1,p2)).bind fun (t1_0,t1_1)=>
 some (t1_0,t1_1)
def ψ25.f (p0:(QD)×Int) (p1:QB) (p2:QB):Option ((QD)×Int):=
 bif p0.2==0 then
 (ψ0.f p0.1 p1 p2).bind fun (t1_0,t1_1)=>
 (ψ2A.f p0 t1_0 t1_1).bind fun t2=>
 some t2
 else
 some p0
def ψ1z.f (p0:(QD)×Int) (p1:QB) (p2:QB):Option ((QD)×Int):=
 (ψ1w.f p0 p1).bind fun t1=>
 (ψ25.f t1 p1 p2).bind fun t2=>
 (ψ29.f t2 p1).bind fun t3=>
 some t3
def ψz.f (p0:Int×List Int):Option (QB):=
 (ψY.f p0).bind fun t1=>
 bif !t1 then
 some []
 else
 (ψ1v.f [p0.1,(p0.2.length:Int)]).bind fun t2=>
 (ψ1v.f p0.2).bind fun t3=>
 bif decide (t2.length+t3.length≤9223372036854775807) then
 (ψQ.f (t2++t3)).bind fun t4=>
 some t4
 else none
def ψs.f (p0:QD) (p1:QB) (p2:QB):Option ((QD)×Int):=
 (ψ1o.f p0 (p1,p2)).bind fun (t1_0,t1_1)=>
 some (t1_0,t1_1)
def ψ27.f (p0:(QD)×Int) (p1:QB) (p2:QB):Option ((QD)×Int):=
 bif p0.2==0 then
 (ψs.f p0.1 p1 p2).bind fun (t1_0,t1_1)=>
 (ψ2A.f p0 t1_0 t1_1).bind fun t2=>
 some t2
 else
 some p0
def ψ26.f (p0:(QD)×Int) (p1:Int×List Int):Option ((QD)×Int):=
 (ψz.f p1).bind fun t1=>
 (ψ1z.f p0 [116,101,109,112] t1).bind fun t2=>
 (ψ27.f t2 [116,101,109,112] [108,105,118,101]).bind fun t3=>
 some t3
def ψ20.f (p0:(QD)×Int):Option ((QS)×(QD)×Int):=
 (ψ24.f p0 (0,[])).bind fun t1=>
 (ψx.f 1).bind fun t2=>
 (ψ1y.f t1 t2).bind fun t3=>
 (ψ26.f t3 (2,[1])).bind fun t4=>
 some (((2,[1]),[],1,0,0),t4)
def ψc.f (p0:QD):Option ((QS)×(QD)×Int):=
 (ψ1J.f p0).bind fun t1=>
 (ψD.f p0).bind fun t2=>
 bif !t2 then
 some (((0,[]),[],0,0,0),t1,4)
 else
 bif p0.2.2.2 then
 some (((0,[]),[],0,0,0),t1,1)
 else
 (ψO.f p0 [108,105,118,101]).bind fun (t3_0,t3_1)=>
 (bif t3_1 then
 (ψ21.f (t1,0) t3_0).bind fun (t4_0,t4_1)=>
 some (((0,[]),[],0,0,0),([],0,0,false),t4_1,t4_0)
 else
 (ψ20.f (t1,0)).bind fun (t5_0,t5_1)=>
 some (((0,[]),[],0,0,0),([],0,0,false),t5_1,t5_0):Option ((QS)×(QD)×((QD)×Int)×QS)).bind (fun (x2,x3,x5,x6)=>
 bif x5.2 != 0 then
 some (((0,[]),[],0,0,0),x5.1,x5.2)
 else
 some (x6,x5.1,0))
def ψH.f (p0:QD):Option ((QN)×Int):=
 (ψc.f p0).bind fun (t1_0,t1_1,t1_2)=>
 let l2:=κK 3 (false,[],[])
 some ((t1_2==0,t1_0,t1_1,l2),t1_2)
def ψ1H.f (p0:QD) (p1:Int):Option (QD):=
 (ψ1J.f p0).bind fun t1=>
 (ψD.f p0).bind fun t2=>
 bif t2 then
 (ψ1W.f p1 (-1) 100000).bind fun t3=>
 bif t3 then
 some (t1.1,t1.2.1,p1,false)
 else
 some t1
 else
 some t1
def ψC.f (p0:Int):Option (QD):=
 (ψ1W.f p0 0 100000).bind fun t1=>
 bif !t1 then
 some ([],0,0,false)
 else
 some ([],p0,(-1),false)
def ψ1L.f (p0:Int×List Int):Option (Int×List Int):=
 bif decide ((([]:List Int).length+p0.2.length) * 8≤140737488355328) then
 let l1:=([]:List Int)++p0.2
 some (p0.1,l1)
 else none
def ψ1N.f (p0:QS):Option (QS):=
 (ψ1L.f p0.1).bind fun t1=>
 (ψ1I.f p0.2.1).bind fun t2=>
 some (t1,t2,p0.2.2)
def ψ1M.f (p0:List (QP)):Option (List (QP)):=
 bif decide ((([]:List (QP)).length+p0.length) * 40≤140737488355328) then
 let l1:=([]:List (QP))++p0
 some l1
 else none
def ψ1O.f (p0:QT):Option (QT):=
 bif decide ((([]:List (QB×Int)).length+p0.2.1.length) * 24≤140737488355328) then
 let l1:=([]:List (QB×Int))++p0.2.1
 (ψ1M.f p0.2.2).bind fun t2=>
 some (p0.1,l1,t2)
 else none
def ψ1P.l0 (rec:(List (QT)×List (QT)×Int×Int)→Option (List (QT))):(List (QT)×List (QT)×Int×Int)→Option (List (QT)):=fun (x3,x6,x7,x8)=>
 bif decide (x8<x7) then
 bif inB x8 x6.length then
 let y1:=(rdA (false,[],[]) x6 x8).1
 (ψ1O.f (y1,((rdA (false,[],[]) x6 x8).2))).bind fun t2=>
 bif decide ((x3.length+[t2].length) * 56≤140737488355328) then
 rec (x3++[t2],x6,x7,w64 (x8+1))
 else none
 else none
 else
 some x3
def ψ1P.f (p0:List (QT)):Option (List (QT)):=
 (lp ψ1P.l0 ([],p0,(p0.length:Int),0)).bind (fun x3=>
 some x3)
def ψ1K.f (p0:QN):Option (QN):=
 (ψ1N.f p0.2.1).bind fun t1=>
 (ψ1J.f p0.2.2.1).bind fun t2=>
 (ψ1P.f p0.2.2.2).bind fun t3=>
 some (p0.1,t1,t2,t3)
def ψ9.l0 (rec:(List (QB)×List (QE)×Int×Int)→Option (List (QB))):(List (QB)×List (QE)×Int×Int)→Option (List (QB)):=fun (x3,x6,x7,x8)=>
 bif decide (x8<x7) then
 bif inB x8 x6.length then
 let y1:=(rdA ([],0,0,0,0) x6 x8).1
 let y2:=((rdA ([],0,0,0,0) x6 x8).2).1
 let y3:=(((rdA ([],0,0,0,0) x6 x8).2).2).1
 let y4:=((((rdA ([],0,0,0,0) x6 x8).2).2).2).1
 let y5:=((((rdA ([],0,0,0,0) x6 x8).2).2).2).2
 bif decide ((x3.length+[y1].length) * 16≤140737488355328) then
 rec (x3++[y1],x6,x7,w64 (x8+1))
 else none
 else none
 else
 some x3
def ψ9.f (p0:List (QE)):Option (List (QB)):=
 (lp ψ9.l0 ([],p0,(p0.length:Int),0)).bind (fun x3=>
 some x3)
def ψ8.l0 (rec:(QB×(QE)×List (QE)×Int×Int)→Option ((QE) ⊕ ((QE)×Bool))):(QB×(QE)×List (QE)×Int×Int)→Option ((QE) ⊕ ((QE)×Bool)):=fun (x1,x4,x8,x9,x10)=>
 bif decide (x10<x9) then
 bif inB x10 x8.length then
 let y1:=(rdA ([],0,0,0,0) x8 x10).1
 let y2:=((rdA ([],0,0,0,0) x8 x10).2).1
 let y3:=(((rdA ([],0,0,0,0) x8 x10).2).2).1
 let y4:=((((rdA ([],0,0,0,0) x8 x10).2).2).2).1
 let y5:=((((rdA ([],0,0,0,0) x8 x10).2).2).2).2
 bif y1==x1 then
 some (Sum.inr ((y1,y2,y3,y4,y5),true))
 else
 rec (x1,x4,x8,x9,w64 (x10+1))
 else none
 else
 some (Sum.inl x4)
def ψ8.f (p0:List (QE)) (p1:QB):Option ((QE)×Bool):=
 (lp ψ8.l0 (p1,([],0,0,0,0),p0,(p0.length:Int),0)).bind (fun o6=>φU o6 (fun x4=>
 some (([],0,0,0,0),false)) (fun (x4,x5)=>
 some (x4,x5)))
def ψn.f (p0:QB) (p1:Int) (p2:Int):Option ((QR)×Bool):=
 (ψ1W.f p1 0 (p0.length:Int)).bind fun t1=>
 bif !t1 then
 some ((0,0,[],[],0,0),false)
 else
 (ψ1W.f p2 0 (w64 ((p0.length:Int) - p1))).bind fun t2=>
 bif !t2 then
 some ((0,0,[],[],0,0),false)
 else
 bif (decide (0≤w64 (p1+p2)) && decide (w64 (p1+p2)≤(p0.length:Int))) then
 bif (decide (0≤p1) && decide (p1≤w64 (p1+p2))) then
 (ψ1E.f ((p0.take ((w64 (p1+p2)).toNat)).drop p1.toNat)).bind fun (t3_0,t3_1)=>
 bif t3_1==0 then
 some ((0,0,[],[],0,0),false)
 else
 bif t3_1 != p2 then
 some ((0,0,[],[],0,0),false)
 else
 (ψl.f t3_0).bind fun (t4_0,t4_1)=>
 some (t4_0,t4_1)
 else none
 else none
def ψR.f (p0:QS) (p1:QD) (p2:QB):Option ((QF)×Int):=
 (ψ8.f p0.2.1 p2).bind fun (t1_0,t1_1)=>
 bif !t1_1 then
 some (([],[],0),8)
 else
 (ψx.f t1_0.2.1).bind fun t2=>
 (ψO.f p1 t2).bind fun (t3_0,t3_1)=>
 (ψn.f t3_0 t1_0.2.2.1 t1_0.2.2.2.1).bind fun (t4_0,t4_1)=>
 bif !t4_1 then
 some (([],[],0),3)
 else
 bif t4_0.1 != 1 then
 bif t4_0.1 != 4 then
 some (([],[],0),3)
 else
 bif !(t4_0.2.2.1==p2) then
 some (([],[],0),3)
 else
 some ((t4_0.2.2.1,t4_0.2.2.2.1,t4_0.2.1),0)
 else
 bif !(t4_0.2.2.1==p2) then
 some (([],[],0),3)
 else
 some ((t4_0.2.2.1,t4_0.2.2.2.1,t4_0.2.1),0)
def ψG.l0 (rec:((QS)×(QD)×List (QF)×List (QB)×Int×Int)→Option ((List (QF)) ⊕ (List (QF)×Int))):((QS)×(QD)×List (QF)×List (QB)×Int×Int)→Option ((List (QF)) ⊕ (List (QF)×Int)):=fun (x2,x3,x6,x13,x14,x15)=>
 bif decide (x15<x14) then
 bif inB x15 x13.length then
 let y2:=rdA [] x13 x15
 (ψR.f x2 x3 y2).bind fun (t3_0,t3_1)=>
 bif t3_1 != 0 then
 some (Sum.inr ([],t3_1))
 else
 bif decide ((x6.length+[t3_0].length) * 40≤140737488355328) then
 rec (x2,x3,x6++[t3_0],x13,x14,w64 (x15+1))
 else none
 else none
 else
 some (Sum.inl x6)
def ψG.f (p0:QS) (p1:QD):Option (List (QF)×Int):=
 (ψ9.f p0.2.1).bind fun t1=>
 (lp ψG.l0 (p0,p1,[],t1,(t1.length:Int),0)).bind (fun o4=>φU o4 (fun x6=>
 some (x6,0)) (fun (x4,x5)=>
 some (x4,x5)))
def ψ11.l0 (rec:((QS)×(QD)×QC)→Option (((QS)×QD) ⊕ (Bool))):((QS)×(QD)×QC)→Option (((QS)×QD) ⊕ (Bool)):=fun (x2,x3,x40,x41,x42)=>
 bif decide (x42<x41) then
 bif inB x42 x40.length then
 (ψx.f (rdA 0 x40 x42)).bind fun t5=>
 (ψO.f x3 t5).bind fun (t6_0,t6_1)=>
 (ψw.f t6_0).bind fun (t7_0,t7_1)=>
 (bif !t6_1 then
 some (Sum.inr false)
 else
 bif t7_1 != (t6_0.length:Int) then
 some (Sum.inr false)
 else
 bif x42==(w64 ((x2.1.2.length:Int) - 1)) then
 bif x2.2.2.2.1 != t7_1 then
 some (Sum.inr false)
 else
 some (Sum.inl (x2,x3,x40,x41,x42))
 else
 some (Sum.inl (x2,x3,x40,x41,x42)):Option (((QS)×(QD)×QC) ⊕ (Bool))).bind (fun o8=>φU o8 (fun (x2,x3,x40,x41,x42)=>
 rec (x2,x3,x40,x41,w64 (x42+1))) (fun x4=>
 some (Sum.inr x4)))
 else none
 else
 some (Sum.inl (x2,x3))
def ψ11.l2 (rec:((QS)×(QD)×List (QE)×Int×Int)→Option ((Unit) ⊕ (Bool))):((QS)×(QD)×List (QE)×Int×Int)→Option ((Unit) ⊕ (Bool)):=fun (x2,x3,x84,x85,x86)=>
 bif decide (x86<x85) then
 bif inB x86 x84.length then
 let y10:=(rdA ([],0,0,0,0) x84 x86).1
 let y11:=((rdA ([],0,0,0,0) x84 x86).2).1
 let y12:=(((rdA ([],0,0,0,0) x84 x86).2).2).1
 let y13:=((((rdA ([],0,0,0,0) x84 x86).2).2).2).1
 let y14:=((((rdA ([],0,0,0,0) x84 x86).2).2).2).2
 (ψx.f y11).bind fun t15=>
 (ψO.f x3 t15).bind fun (t16_0,t16_1)=>
 (ψn.f t16_0 y12 y13).bind fun (t17_0,t17_1)=>
 (bif !t17_1 then
 some (Sum.inr false)
 else
 bif t17_0.1 != 1 then
 bif t17_0.1 != 4 then
 some (Sum.inr false)
 else
 bif !(t17_0.2.2.1==y10) then
 some (Sum.inr false)
 else
 bif t17_0.2.1 != y14 then
 some (Sum.inr false)
 else
 bif decide (y14≥x2.2.2.1) then
 some (Sum.inr false)
 else
 some (Sum.inl (x2,x3,x84,x85,x86))
 else
 bif !(t17_0.2.2.1==y10) then
 some (Sum.inr false)
 else
 bif t17_0.2.1 != y14 then
 some (Sum.inr false)
 else
 bif decide (y14≥x2.2.2.1) then
 some (Sum.inr false)
 else
 some (Sum.inl (x2,x3,x84,x85,x86)):Option (((QS)×(QD)×List (QE)×Int×Int) ⊕ (Bool))).bind (fun o18=>φU o18 (fun (x2,x3,x84,x85,x86)=>
 rec (x2,x3,x84,x85,w64 (x86+1))) (fun x4=>
 some (Sum.inr x4)))
 else none
 else
 some (Sum.inl ())
def ψ11.f (p0:QS) (p1:QD):Option (Bool):=
 (ψD.f p1).bind fun t1=>
 bif !t1 then
 some false
 else
 (ψY.f p0.1).bind fun t2=>
 bif !t2 then
 some false
 else
 (ψA.f p0.2.1).bind fun t3=>
 bif !t3 then
 some false
 else
 (ψ1W.f p0.2.2.1 1 1000001).bind fun t4=>
 bif !t4 then
 some false
 else
 (lp ψ11.l0 (p0,p1,p0.1.2,(p0.1.2.length:Int),0)).bind (fun o9=>φU o9 (fun (x2,x3)=>
 (lp ψ11.l2 (x2,x3,x2.2.1,(x2.2.1.length:Int),0)).bind (fun o19=>φU o19 (fun _=>
 some true) (fun x4=>
 some x4))) (fun x4=>
 some x4))
def ψ2C.l0 (rec:(((QD)×Int)×Int×List (QE)×Int×List (QR)×Int×Int)→Option (((QD)×Int)×Int×List (QE))):(((QD)×Int)×Int×List (QE)×Int×List (QR)×Int×Int)→Option (((QD)×Int)×Int×List (QE)):=fun (x0,x1,x7,x8,x16,x17,x18)=>
 bif decide (x18<x17) then
 bif inB x18 x16.length then
 let y3:=(rdA (0,0,[],[],0,0) x16 x18).1
 let y4:=((rdA (0,0,[],[],0,0) x16 x18).2).1
 let y5:=(((rdA (0,0,[],[],0,0) x16 x18).2).2).1
 let y6:=((((rdA (0,0,[],[],0,0) x16 x18).2).2).2).1
 let y7:=(((((rdA (0,0,[],[],0,0) x16 x18).2).2).2).2).1
 let y8:=(((((rdA (0,0,[],[],0,0) x16 x18).2).2).2).2).2
 (ψ10.f (y3,y4,y5,y6,y7,y8)).bind fun t9=>
 (ψQ.f t9).bind fun t10=>
 (ψx.f x1).bind fun t11=>
 (ψ25.f x0 t11 t10).bind fun t12=>
 (bif y3==4 then
 bif decide ((x7.length+[(y5,x1,x8,(t10.length:Int),y4)].length) * 48≤140737488355328) then
 let l13:=x7++[(y5,x1,x8,(t10.length:Int),y4)]
 some (t12,x1,l13,x8,t10,x16,x17,x18)
 else none
 else
 some (t12,x1,x7,x8,t10,x16,x17,x18):Option (((QD)×Int)×Int×List (QE)×Int×QB×List (QR)×Int×Int)).bind (fun (x0,x1,x7,x8,x11,x16,x17,x18)=>
 let y14:=w64 (x8+(x11.length:Int))
 rec (x0,x1,x7,y14,x16,x17,w64 (x18+1)))
 else none
 else
 some (x0,x1,x7)
def ψ2C.f (p0:(QD)×Int) (p1:Int) (p2:List (QR)):Option (List (QE)×(QD)×Int):=
 (ψx.f p1).bind fun t1=>
 (ψ1w.f p0 t1).bind fun t2=>
 (lp ψ2C.l0 (t2,p1,[],0,p2,(p2.length:Int),0)).bind (fun (x0,x1,x7)=>
 (ψx.f x1).bind fun t15=>
 (ψ29.f x0 t15).bind fun t16=>
 (ψx.f (w64 (x1+1))).bind fun t17=>
 (ψ1w.f t16 t17).bind fun t18=>
 some (x7,t18))
def ψ1X.l0 (rec:(List (QF)×Int×List (QR)×List (QF)×Int×Int)→Option (List (QF)×Int×List (QR))):(List (QF)×Int×List (QR)×List (QF)×Int×Int)→Option (List (QF)×Int×List (QR)):=fun (x0,x1,x5,x8,x9,x10)=>
 bif decide (x10<x9) then
 bif inB x10 x8.length then
 let y1:=(rdA ([],[],0) x8 x10).1
 let y2:=((rdA ([],[],0) x8 x10).2).1
 let y3:=((rdA ([],[],0) x8 x10).2).2
 bif decide ((x5.length+[(4,y3,y1,y2,0,0)].length) * 64≤140737488355328) then
 let l4:=x5++[(4,y3,y1,y2,0,0)]
 rec (x0,x1,l4,x8,x9,w64 (x10+1))
 else none
 else none
 else
 some (x0,x1,x5)
def ψ1X.f (p0:List (QF)) (p1:Int):Option (List (QR)):=
 (lp ψ1X.l0 (p0,p1,[],p0,(p0.length:Int),0)).bind (fun (x0,x1,x5)=>
 (ψ17.f x5).bind fun t5=>
 bif decide ((x5.length+([(5,x1,[],[],(x0.length:Int),t5)]:List (QR)).length) * 64≤140737488355328) then
 let l6:=x5++([(5,x1,[],[],(x0.length:Int),t5)]:List (QR))
 some l6
 else none)
def ψ2B.f (p0:(QD)×Int) (p1:Int):Option ((QD)×Int):=
 bif p0.2 != 0 then
 some p0
 else
 (ψx.f p1).bind fun t1=>
 (ψO.f p0.1 t1).bind fun (t2_0,t2_1)=>
 (ψV.f p1 t2_0).bind fun (t3_0,t3_1)=>
 (ψU.f p1).bind fun t4=>
 (ψy.f t3_0).bind fun t5=>
 (ψ1z.f p0 t4 t5).bind fun t6=>
 bif t6.2==2 then
 (ψU.f p1).bind fun t7=>
 (ψ22.f (t6.1,0) t7).bind fun t8=>
 some t8
 else
 some t6
def ψ1x.l0 (rec:(((QD)×Int)×((QD)×Int)×List (QB)×Int×Int)→Option (((QD)×Int)×(QD)×Int)):(((QD)×Int)×((QD)×Int)×List (QB)×Int×Int)→Option (((QD)×Int)×(QD)×Int):=fun (x0,x4,x18,x19,x20)=>
 bif decide (x20<x19) then
 bif inB x20 x18.length then
 let y1:=rdA [] x18 x20
 (ψ22.f x4 y1).bind fun t2=>
 rec ((([],x0.1.2),x0.2),t2,x18,x19,w64 (x20+1))
 else none
 else
 some ((([],x0.1.2),x0.2),x4)
def ψ1x.f (p0:(QD)×Int) (p1:List (QB)):Option ((QD)×Int):=
 bif p0.2 != 2 then
 some p0
 else
 (lp ψ1x.l0 ((([],p0.1.2),p0.2),(p0.1,0),p1,(p1.length:Int),0)).bind (fun (x0,x4)=>
 bif x4.2 != 0 then
 some x4
 else
 some (x4.1,x0.2))
def ψ15.l0 (rec:((QS)×((QD)×Int)×QC)→Option ((QS)×(QD)×Int)):((QS)×((QD)×Int)×QC)→Option ((QS)×(QD)×Int):=fun (x0,x1,x85,x86,x87)=>
 bif decide (x87<x86) then
 bif inB x87 x85.length then
 (ψx.f (rdA 0 x85 x87)).bind fun t11=>
 (ψ22.f x1 t11).bind fun t12=>
 (ψU.f (rdA 0 x85 x87)).bind fun t13=>
 (ψ22.f t12 t13).bind fun t14=>
 rec (x0,t14,x85,x86,w64 (x87+1))
 else none
 else
 some (x0,x1)
def ψ15.f (p0:QS) (p1:(QD)×Int) (p2:List (QF)):Option ((QS)×(QD)×Int):=
 let y1:=w64 (p0.1.1+2)
 (ψ1X.f p2 (w64 (p0.2.2.1 - 1))).bind fun t2=>
 (ψ2C.f p1 p0.1.1 t2).bind fun (t3_0,t3_1)=>
 (ψ2B.f t3_1 p0.1.1).bind fun t4=>
 let y5:=w64 (p0.1.1+2)
 (bif t4.2==0 then
 (ψ26.f t4 (y5,[p0.1.1,w64 (p0.1.1+1)])).bind fun t6=>
 some (((y1,p0.1.2),p0.2),t6,p0.1.1,t3_0,(y5,[p0.1.1,w64 (p0.1.1+1)]))
 else
 some (((y1,p0.1.2),p0.2),t4,p0.1.1,t3_0,(y5,[p0.1.1,w64 (p0.1.1+1)])):Option ((QS)×((QD)×Int)×Int×List (QE)×Int×List Int)).bind (fun (x0,x1,x6,x7,x8)=>
 bif x1.2 != 0 then
 (ψx.f x6).bind fun t7=>
 (ψx.f (w64 (x6+1))).bind fun t8=>
 (ψU.f x6).bind fun t9=>
 (ψ1x.f x1 [[116,101,109,112],t7,t8,t9]).bind fun t10=>
 some (x0,t10)
 else
 (lp ψ15.l0 ((x8,x7,x0.2.2.1,0,0),x1,x0.1.2,(x0.1.2.length:Int),0)).bind (fun (x0,x1)=>
 some (x0,x1)))
def ψZ.f (p0:QS) (p1:QD):Option ((QS)×(QD)×Int):=
 (ψ1N.f p0).bind fun t1=>
 (ψ1J.f p1).bind fun t2=>
 (ψG.f p0 p1).bind fun (t3_0,t3_1)=>
 (ψ11.f p0 p1).bind fun t4=>
 bif !t4 then
 some (t1,t2,4)
 else
 let y5:=decide ((w64 (p0.1.1+2)) > 100000)
 bif y5 then
 some (t1,t2,5)
 else
 bif t3_1 != 0 then
 some (t1,t2,t3_1)
 else
 (ψ15.f t1 (t2,0) t3_0).bind fun (t6_0,t6_1)=>
 some (t6_0,t6_1.1,t6_1.2)
def ψ1a.l2 (rec:(List (QP)×(QP)×Int×List (QP)×Int×Int×Int×Int)→Option (List (QP)×(QP)×Int×List (QP)×Int×Int)):(List (QP)×(QP)×Int×List (QP)×Int×Int×Int×Int)→Option (List (QP)×(QP)×Int×List (QP)×Int×Int):=fun (x3,x5,x6,x9,x10,x11,x16,x17)=>
 bif decide (x17<x16) then
 bif inB x17 x3.length then
 let y4:=(rdA ([],false,[]) x3 x17).1
 let y5:=((rdA ([],false,[]) x3 x17).2).1
 let y6:=((rdA ([],false,[]) x3 x17).2).2
 (bif y4==x5.1 then
 some (x3,x5,x17,x9,x10,x11,x16,x17)
 else
 some (x3,x5,x6,x9,x10,x11,x16,x17):Option (List (QP)×(QP)×Int×List (QP)×Int×Int×Int×Int)).bind (fun (x3,x5,x6,x9,x10,x11,x16,x17)=>
 rec (x3,x5,x6,x9,x10,x11,x16,w64 (x17+1)))
 else none
 else
 some (x3,x5,x6,x9,x10,x11)
def ψ1a.l0 (rec:(List (QP)×List (QP)×Int×Int)→Option (List (QP))):(List (QP)×List (QP)×Int×Int)→Option (List (QP)):=fun (x3,x9,x10,x11)=>
 bif decide (x11<x10) then
 bif inB x11 x9.length then
 let y1:=(rdA ([],false,[]) x9 x11).1
 let y2:=((rdA ([],false,[]) x9 x11).2).1
 let y3:=((rdA ([],false,[]) x9 x11).2).2
 (lp ψ1a.l2 (x3,(y1,y2,y3),(-1),x9,x10,x11,(x3.length:Int),0)).bind (fun (x3,x5,x6,x9,x10,x11)=>
 (bif decide (x6≥0) then
 bif inB x6 x3.length then
 let l7:=x3.set x6.toNat x5
 some (l7,x9,x10,x11)
 else none
 else
 bif decide ((x3.length+[x5].length) * 40≤140737488355328) then
 some (x3++[x5],x9,x10,x11)
 else none:Option (List (QP)×List (QP)×Int×Int)).bind (fun (x3,x9,x10,x11)=>
 rec (x3,x9,x10,w64 (x11+1))))
 else none
 else
 some x3
def ψ1a.f (p0:List (QP)):Option (List (QP)):=
 (lp ψ1a.l0 ([],p0,(p0.length:Int),0)).bind (fun x3=>
 some x3)
def ψb.f (p0:QT):Option (List (QP)):=
 (ψ1a.f p0.2.2).bind fun t1=>
 some t1
def ψ1t.f (p0:List (QT)) (p1:Int×Int×QF):Option (Bool):=
 (ψ1W.f p1.1 1 6).bind fun t1=>
 bif t1 then
 (ψ1W.f p1.2.1 0 (w64 ((p0.length:Int) - 1))).bind fun t2=>
 bif t2 then
 bif inB p1.2.1 p0.length then
 let y3:=((rdA (false,[],[]) p0 p1.2.1).1)==(p1.1 != 1)
 some y3
 else none
 else
 some false
 else
 some false
def ψe.l0 (rec:(QB×(QT)×(QP)×Int)→Option ((QP) ⊕ ((QP)×Bool))):(QB×(QT)×(QP)×Int)→Option ((QP) ⊕ ((QP)×Bool)):=fun (x1,x2,x4,x6)=>
 bif decide (x6≥0) then
 bif inB x6 x2.2.2.length then
 bif ((rdA ([],false,[]) x2.2.2 x6).1)==x1 then
 bif inB x6 x2.2.2.length then
 let y2:=(rdA ([],false,[]) x2.2.2 x6).1
 let y3:=((rdA ([],false,[]) x2.2.2 x6).2).1
 let y4:=((rdA ([],false,[]) x2.2.2 x6).2).2
 some (Sum.inr ((y2,y3,y4),true))
 else none
 else
 rec (x1,x2,x4,w64 (x6 - 1))
 else none
 else
 some (Sum.inl x4)
def ψe.f (p0:QT) (p1:QB):Option ((QP)×Bool):=
 let y1:=w64 ((p0.2.2.length:Int) - 1)
 (lp ψe.l0 (p1,p0,([],false,[]),y1)).bind (fun o5=>φU o5 (fun x4=>
 some (([],false,[]),false)) (fun (x4,x5)=>
 some (x4,x5)))
def ψ1c.f (p0:QT) (p1:QB):Option ((QA)×Bool):=
 (ψe.f p0 p1).bind fun (t1_0,t1_1)=>
 bif !t1_1 then
 some ((0,[],[]),false)
 else
 bif t1_0.2.1 then
 some ((8,[],[]),true)
 else
 some ((0,t1_0.2.2,[]),true)
def ψ1C.l0 (rec:(QB×Int×(QT)×(QT)×(QT)×Bool×List (QB×Int)×Int×Int)→Option ((QB×Int×(QT)×(QT)×(QT)×Bool) ⊕ ((QT)×Int))):(QB×Int×(QT)×(QT)×(QT)×Bool×List (QB×Int)×Int×Int)→Option ((QB×Int×(QT)×(QT)×(QT)×Bool) ⊕ ((QT)×Int)):=fun (x1,x2,x3,x6,x8,x9,x24,x25,x26)=>
 bif decide (x26<x25) then
 (bif inB x26 x24.length then
 let y3:=(rdA ([],0) x24 x26).1
 let y4:=(rdA ([],0) x24 x26).2
 bif !(y3==x1) then
 some (Sum.inl (x1,x2,x3,x6,x8,x9,x24,x25,x26))
 else
 bif y4 != x2 then
 some (Sum.inr (x8,7))
 else
 some (Sum.inl (x1,x2,x3,x6,x8,true,x24,x25,x26))
 else none:Option ((QB×Int×(QT)×(QT)×(QT)×Bool×List (QB×Int)×Int×Int) ⊕ ((QT)×Int))).bind (fun o5=>φU o5 (fun (x1,x2,x3,x6,x8,x9,x24,x25,x26)=>
 rec (x1,x2,x3,x6,x8,x9,x24,x25,w64 (x26+1))) (fun (x6,x7)=>
 some (Sum.inr (x6,x7))))
 else
 some (Sum.inl (x1,x2,x3,x6,x8,x9))
def ψ1C.f (p0:QT) (p1:QB) (p2:Int):Option ((QT)×Int):=
 (ψ1O.f p0).bind fun t1=>
 bif !p0.1 then
 some (t1,4)
 else
 (ψX.f p1).bind fun t2=>
 bif !t2 then
 some (t1,4)
 else
 (lp ψ1C.l0 (p1,p2,p0,(false,[],[]),t1,false,p0.2.1,(p0.2.1.length:Int),0)).bind (fun o6=>φU o6 (fun (x1,x2,x3,x6,x8,x9)=>
 bif x9 then
 some (x8,0)
 else
 bif decide ((x3.2.1.length:Int)≥20) then
 some (x8,5)
 else
 bif decide ((x8.2.1.length+[(x1,x2)].length) * 24≤140737488355328) then
 let l7:=x8.2.1++[(x1,x2)]
 some ((x8.1,l7,x8.2.2),0)
 else none) (fun (x6,x7)=>
 some (x6,x7)))
def ψ1g.f (p0:QT) (p1:QB) (p2:QF) (p3:Int):Option ((QT)×QA):=
 (ψ1C.f p0 p1 p2.2.2).bind fun (t1_0,t1_1)=>
 bif t1_1 != 0 then
 some (t1_0,(t1_1,[],[]))
 else
 some (t1_0,(p3,p2.2.1,[]))
def ψI.f (p0:QN) (p1:Int×Int×QF):Option ((QA)×QN):=
 bif inB p1.2.1 p0.2.2.2.length then
 (ψX.f p1.2.2.1).bind fun t1=>
 bif !t1 then
 some ((4,[],[]),p0)
 else
 (ψ1c.f ((rdA (false,[],[]) p0.2.2.2 p1.2.1).1,((rdA (false,[],[]) p0.2.2.2 p1.2.1).2)) p1.2.2.1).bind fun (t2_0,t2_1)=>
 bif t2_1 then
 some (t2_0,p0)
 else
 (ψR.f p0.2.1 p0.2.2.1 p1.2.2.1).bind fun (t3_0,t3_1)=>
 bif t3_1==3 then
 some ((t3_1,[],[]),p0)
 else
 (ψ1g.f ((rdA (false,[],[]) p0.2.2.2 p1.2.1).1,((rdA (false,[],[]) p0.2.2.2 p1.2.1).2)) p1.2.2.1 t3_0 t3_1).bind fun (t4_0,t4_1)=>
 let l5:=p0.2.2.2.set p1.2.1.toNat t4_0
 some (t4_1,(p0.1,p0.2.1,p0.2.2.1,l5))
 else none
def ψJ.f (p0:(QN)×List (QA)×List (Int×List (QP))×List (QP)) (p1:Int×Int×QF):Option ((QA)×(QN)×List (QA)×List (Int×List (QP))×List (QP)):=
 bif inB p1.2.1 p0.1.2.2.2.length then
 (ψX.f p1.2.2.1).bind fun t1=>
 bif !t1 then
 some ((4,[],[]),p0)
 else
 (ψ1c.f ((rdA (false,[],[]) p0.1.2.2.2 p1.2.1).1,((rdA (false,[],[]) p0.1.2.2.2 p1.2.1).2)) p1.2.2.1).bind fun (t2_0,t2_1)=>
 bif t2_1 then
 some (t2_0,p0)
 else
 (ψR.f p0.1.2.1 p0.1.2.2.1 p1.2.2.1).bind fun (t3_0,t3_1)=>
 bif t3_1==3 then
 some ((t3_1,[],[]),p0)
 else
 (ψ1g.f ((rdA (false,[],[]) p0.1.2.2.2 p1.2.1).1,((rdA (false,[],[]) p0.1.2.2.2 p1.2.1).2)) p1.2.2.1 t3_0 t3_1).bind fun (t4_0,t4_1)=>
 let l5:=p0.1.2.2.2.set p1.2.1.toNat t4_0
 some (t4_1,((p0.1.1,p0.1.2.1,p0.1.2.2.1,l5),p0.2))
 else none
def ψ1f.f (p0:QP):Option (Bool):=
 (ψX.f p0.1).bind fun t1=>
 bif t1 then
 bif decide ((p0.2.2.length:Int)≤24) then
 bif !p0.2.1 then
 some true
 else
 some (p0.2.2==[])
 else
 some false
 else
 some false
def ψ1D.f (p0:QT) (p1:QP):Option ((QT)×Bool):=
 (ψ1O.f p0).bind fun t1=>
 bif decide ((t1.2.2.length+[p1].length) * 40≤140737488355328) then
 let l2:=t1.2.2++[p1]
 bif !p0.1 then
 (ψ1O.f p0).bind fun t3=>
 some (t3,false)
 else
 (ψ1f.f p1).bind fun t4=>
 bif !t4 then
 (ψ1O.f p0).bind fun t5=>
 some (t5,false)
 else
 (ψb.f (t1.1,t1.2.1,l2)).bind fun t6=>
 bif decide ((t6.length:Int) > 8) then
 (ψ1O.f p0).bind fun t7=>
 some (t7,false)
 else
 bif decide ((l2.length:Int) > 50) then
 (ψ1O.f p0).bind fun t8=>
 some (t8,false)
 else
 some ((t1.1,t1.2.1,l2),true)
 else none
def ψ2D.f (p0:QT) (p1:Int×Int×QF):Option ((QT)×QA):=
 (ψ1D.f p0 (p1.2.2.1,p1.1==4,p1.2.2.2.1)).bind fun (t1_0,t1_1)=>
 (ψ1f.f (p1.2.2.1,p1.1==4,p1.2.2.2.1)).bind fun t2=>
 bif !t2 then
 some (t1_0,(4,[],[]))
 else
 bif !t1_1 then
 some (t1_0,(5,[],[]))
 else
 some (t1_0,(0,[],[]))
def ψ1F.l0 (rec:(List (QE)×List (QB×Int)×Int×Int)→Option ((Unit) ⊕ (Bool))):(List (QE)×List (QB×Int)×Int×Int)→Option ((Unit) ⊕ (Bool)):=fun (x1,x10,x11,x12)=>
 bif decide (x12<x11) then
 bif inB x12 x10.length then
 let y1:=(rdA ([],0) x10 x12).1
 let y2:=(rdA ([],0) x10 x12).2
 (ψ8.f x1 y1).bind fun (t3_0,t3_1)=>
 bif t3_0.2.2.2.2 != y2 then
 some (Sum.inr false)
 else
 rec (x1,x10,x11,w64 (x12+1))
 else none
 else
 some (Sum.inl ())
def ψ1F.f (p0:QT) (p1:List (QE)):Option (Bool):=
 (lp ψ1F.l0 (p1,p0.2.1,(p0.2.1.length:Int),0)).bind (fun o4=>φU o4 (fun _=>
 some true) (fun x4=>
 some x4))
def ψg.l0 (rec:(List (QP)×List (QP)×Int×Int)→Option ((List (QP)) ⊕ (Bool))):(List (QP)×List (QP)×Int×Int)→Option ((List (QP)) ⊕ (Bool)):=fun (x0,x5,x6,x7)=>
 bif decide (x7<x6) then
 bif inB x7 x5.length then
 let y1:=(rdA ([],false,[]) x5 x7).1
 let y2:=((rdA ([],false,[]) x5 x7).2).1
 let y3:=((rdA ([],false,[]) x5 x7).2).2
 (ψ1f.f (y1,y2,y3)).bind fun t4=>
 bif !t4 then
 some (Sum.inr false)
 else
 rec (x0,x5,x6,w64 (x7+1))
 else none
 else
 some (Sum.inl x0)
def ψg.f (p0:List (QP)):Option (Bool):=
 (lp ψg.l0 (p0,p0,(p0.length:Int),0)).bind (fun o5=>φU o5 (fun x0=>
 let y6:=decide ((x0.length:Int)≤8)
 some y6) (fun x2=>
 some x2))
def ψ1R.l0 (rec:(List (QE)×List (QE)×List (QP)×Int×Int)→Option (List (QE))):(List (QE)×List (QE)×List (QP)×Int×Int)→Option (List (QE)):=fun (x0,x2,x9,x10,x11)=>
 bif decide (x11<x10) then
 bif inB x11 x9.length then
 let y1:=(rdA ([],false,[]) x9 x11).1
 let y2:=((rdA ([],false,[]) x9 x11).2).1
 let y3:=((rdA ([],false,[]) x9 x11).2).2
 (bif y2 then
 (ψ7.f x0 y1).bind fun t4=>
 some (t4,x2,x9,x10,x11)
 else
 bif inB x11 x2.length then
 (ψB.f x0 ((rdA ([],0,0,0,0) x2 x11).1,((rdA ([],0,0,0,0) x2 x11).2).1,(((rdA ([],0,0,0,0) x2 x11).2).2).1,((((rdA ([],0,0,0,0) x2 x11).2).2).2))).bind fun t5=>
 some (t5,x2,x9,x10,x11)
 else none:Option (List (QE)×List (QE)×List (QP)×Int×Int)).bind (fun (x0,x2,x9,x10,x11)=>
 rec (x0,x2,x9,x10,w64 (x11+1)))
 else none
 else
 some x0
def ψ1R.f (p0:List (QE)) (p1:List (QP)) (p2:List (QE)):Option (List (QE)):=
 (lp ψ1R.l0 (p0,p2,p1,(p1.length:Int),0)).bind (fun x0=>
 some x0)
def ψ1Q.l0 (rec:(List (QE)×List (QE)×List (QP)×Int×Int)→Option (List (QE))):(List (QE)×List (QE)×List (QP)×Int×Int)→Option (List (QE)):=fun (x0,x2,x9,x10,x11)=>
 bif decide (x11<x10) then
 bif inB x11 x9.length then
 let y1:=(rdA ([],false,[]) x9 x11).1
 let y2:=((rdA ([],false,[]) x9 x11).2).1
 let y3:=((rdA ([],false,[]) x9 x11).2).2
 (bif y2 then
 (ψ7.f x0 y1).bind fun t4=>
 some (t4,x2,x9,x10,x11)
 else
 bif inB x11 x2.length then
 (ψB.f x0 ((rdA ([],0,0,0,0) x2 x11).1,((rdA ([],0,0,0,0) x2 x11).2).1,(((rdA ([],0,0,0,0) x2 x11).2).2).1,((((rdA ([],0,0,0,0) x2 x11).2).2).2))).bind fun t5=>
 some (t5,x2,x9,x10,x11)
 else none:Option (List (QE)×List (QE)×List (QP)×Int×Int)).bind (fun (x0,x2,x9,x10,x11)=>
 rec (x0,x2,x9,x10,w64 (x11+1)))
 else none
 else
 some x0
def ψ1Q.f (p0:List (QE)) (p1:List (QP)) (p2:List (QE)):Option (List (QE)):=
 (lp ψ1Q.l0 (p0,p2,p1,(p1.length:Int),0)).bind (fun x0=>
 some x0)
def ψ1Y.l0 (rec:(List (QE)×List (QP)×List (QE)×List (QP)×Int×Int)→Option (List (QE)×List (QP)×List (QE))):(List (QE)×List (QP)×List (QE)×List (QP)×Int×Int)→Option (List (QE)×List (QP)×List (QE)):=fun (x0,x1,x5,x8,x9,x10)=>
 bif decide (x10<x9) then
 bif inB x10 x8.length then
 let y1:=(rdA ([],false,[]) x8 x10).1
 let y2:=((rdA ([],false,[]) x8 x10).2).1
 let y3:=((rdA ([],false,[]) x8 x10).2).2
 bif decide ((x5.length+[(y1,0,0,0,0)].length) * 48≤140737488355328) then
 let l4:=x5++[(y1,0,0,0,0)]
 rec (x0,x1,l4,x8,x9,w64 (x10+1))
 else none
 else none
 else
 some (x0,x1,x5)
def ψ1Y.f (p0:List (QE)) (p1:List (QP)):Option (Int):=
 (lp ψ1Y.l0 (p0,p1,[],p1,(p1.length:Int),0)).bind (fun (x0,x1,x5)=>
 (ψ1Q.f x0 x1 x5).bind fun t5=>
 let y6:=(t5.length:Int)
 some y6)
def ψ1h.l0 (rec:(List (QP)×Int×List (QR)×List (QP)×Int×Int)→Option (List (QP)×Int×List (QR))):(List (QP)×Int×List (QR)×List (QP)×Int×Int)→Option (List (QP)×Int×List (QR)):=fun (x0,x1,x5,x8,x9,x10)=>
 bif decide (x10<x9) then
 bif inB x10 x8.length then
 let y1:=(rdA ([],false,[]) x8 x10).1
 let y2:=((rdA ([],false,[]) x8 x10).2).1
 let y3:=((rdA ([],false,[]) x8 x10).2).2
 (bif y2 then
 bif decide ((x5.length+([(2,x1,y1,[],0,0)]:List (QR)).length) * 64≤140737488355328) then
 let l4:=x5++([(2,x1,y1,[],0,0)]:List (QR))
 some (x0,x1,l4,x8,x9,x10)
 else none
 else
 bif decide ((x5.length+[(1,x1,y1,y3,0,0)].length) * 64≤140737488355328) then
 let l5:=x5++[(1,x1,y1,y3,0,0)]
 some (x0,x1,l5,x8,x9,x10)
 else none:Option (List (QP)×Int×List (QR)×List (QP)×Int×Int)).bind (fun (x0,x1,x5,x8,x9,x10)=>
 rec (x0,x1,x5,x8,x9,w64 (x10+1)))
 else none
 else
 some (x0,x1,x5)
def ψ1h.f (p0:List (QP)) (p1:Int):Option (List (QR)):=
 (lp ψ1h.l0 (p0,p1,[],p0,(p0.length:Int),0)).bind (fun (x0,x1,x5)=>
 (ψ17.f x5).bind fun t6=>
 bif decide ((x5.length+([(3,x1,[],[],(x0.length:Int),t6)]:List (QR)).length) * 64≤140737488355328) then
 let l7:=x5++([(3,x1,[],[],(x0.length:Int),t6)]:List (QR))
 some l7
 else none)
def ψ12.f (p0:QS):Option (QB×QS):=
 bif inB (w64 ((p0.1.2.length:Int) - 1)) p0.1.2.length then
 (ψx.f (rdA 0 p0.1.2 (w64 ((p0.1.2.length:Int) - 1)))).bind fun t1=>
 some (t1,p0)
 else none
def ψ16.f (p0:QS) (p1:(QD)×Int):Option ((QS)×(QD)×Int):=
 bif decide ((p0.1.2.length:Int)≥60) then
 some (p0,(p1.1,5))
 else
 bif decide (p0.1.1≥100000) then
 some (p0,(p1.1,5))
 else
 (ψ12.f p0).bind fun (t1_0,t1_1)=>
 (ψ29.f p1 t1_0).bind fun t2=>
 bif t2.2 != 0 then
 some (t1_1,t2)
 else
 let y3:=w64 (t1_1.1.1+1)
 (ψx.f t1_1.1.1).bind fun t4=>
 (ψ1w.f t2 t4).bind fun t5=>
 bif t5.2 != 0 then
 some (((y3,t1_1.1.2),t1_1.2),t5)
 else
 (ψ1L.f (y3,t1_1.1.2)).bind fun t6=>
 bif decide ((t6.2.length+[t1_1.1.1].length) * 8≤140737488355328) then
 let l7:=t6.2++[t1_1.1.1]
 (ψ26.f t5 (t6.1,l7)).bind fun t8=>
 bif t8.2 != 0 then
 (ψx.f t1_1.1.1).bind fun t9=>
 (ψ1x.f t8 [[116,101,109,112],t9]).bind fun t10=>
 some (((y3,t1_1.1.2),t1_1.2),t10)
 else
 some (((t6.1,l7),t1_1.2.1,t1_1.2.2.1,0,t1_1.2.2.2.2),t8)
 else none
def ψ13.f (p0:QS) (p1:(QD)×Int) (p2:QR):Option ((QE)×(QS)×(QD)×Int):=
 (ψ10.f p2).bind fun t1=>
 (ψQ.f t1).bind fun t2=>
 (bif decide (p0.2.2.2.1 > 0) then
 bif decide ((w64 (p0.2.2.2.1+(t2.length:Int))) > 200) then
 (ψ16.f p0 p1).bind fun (t3_0,t3_1)=>
 some (t3_0,t3_1,p2,([],0,0,0,0),t2)
 else
 some (p0,p1,p2,([],0,0,0,0),t2)
 else
 some (p0,p1,p2,([],0,0,0,0),t2):Option ((QS)×((QD)×Int)×(QR)×(QE)×QB)).bind (fun (x0,x1,x5,x6,x7)=>
 bif x1.2 != 0 then
 some (([],0,0,0,0),x0,x1)
 else
 bif inB (w64 ((x0.1.2.length:Int) - 1)) x0.1.2.length then
 let y4:=rdA 0 x0.1.2 (w64 ((x0.1.2.length:Int) - 1))
 let y5:=(x7.length:Int)
 (ψ12.f x0).bind fun (t6_0,t6_1)=>
 (ψ25.f x1 t6_0 x7).bind fun t7=>
 bif t7.2==0 then
 let y8:=w64 (t6_1.2.2.2.1+(x7.length:Int))
 some ((x5.2.2.1,y4,x0.2.2.2.1,y5,x5.2.1),(t6_1.1,t6_1.2.1,t6_1.2.2.1,y8,t6_1.2.2.2.2),t7)
 else
 some ((x5.2.2.1,y4,x0.2.2.2.1,y5,x5.2.1),t6_1,t7)
 else none)
def ψ14.l0 (rec:((QS)×((QD)×Int)×List (QP)×List (QE)×List (QR)×Int×Int)→Option (((QS)×((QD)×Int)×List (QP)×List (QE)) ⊕ ((QS)×(QD)×Int))):((QS)×((QD)×Int)×List (QP)×List (QE)×List (QR)×Int×Int)→Option (((QS)×((QD)×Int)×List (QP)×List (QE)) ⊕ ((QS)×(QD)×Int)):=fun (x0,x1,x2,x7,x24,x25,x26)=>
 bif decide (x26<x25) then
 bif inB x26 x24.length then
 let y3:=(rdA (0,0,[],[],0,0) x24 x26).1
 let y4:=((rdA (0,0,[],[],0,0) x24 x26).2).1
 let y5:=(((rdA (0,0,[],[],0,0) x24 x26).2).2).1
 let y6:=((((rdA (0,0,[],[],0,0) x24 x26).2).2).2).1
 let y7:=(((((rdA (0,0,[],[],0,0) x24 x26).2).2).2).2).1
 let y8:=(((((rdA (0,0,[],[],0,0) x24 x26).2).2).2).2).2
 (ψ13.f x0 x1 (y3,y4,y5,y6,y7,y8)).bind fun (t9_0,t9_1,t9_2)=>
 bif t9_2.2 != 0 then
 some (Sum.inr (t9_1,t9_2))
 else
 bif decide ((x7.length+[t9_0].length) * 48≤140737488355328) then
 rec (t9_1,t9_2,x2,x7++[t9_0],x24,x25,w64 (x26+1))
 else none
 else none
 else
 some (Sum.inl (x0,x1,x2,x7))
def ψ14.f (p0:QS) (p1:(QD)×Int) (p2:List (QP)):Option ((QS)×(QD)×Int):=
 let y1:=w64 (p0.2.2.1+1)
 (ψ1h.f p2 p0.2.2.1).bind fun t2=>
 (lp ψ14.l0 ((p0.1,p0.2.1,y1,p0.2.2.2),p1,p2,[],t2,(t2.length:Int),0)).bind (fun o10=>φU o10 (fun (x0,x1,x2,x7)=>
 (ψ12.f x0).bind fun (t11_0,t11_1)=>
 (ψ29.f x1 t11_0).bind fun t12=>
 bif t12.2==0 then
 (ψ1R.f t11_1.2.1 x2 x7).bind fun t13=>
 some ((t11_1.1,t13,t11_1.2.2),t12)
 else
 some (t11_1,t12)) (fun (x0,x1)=>
 some (x0,x1)))
def ψ2.f (p0:QS) (p1:QD) (p2:List (QP)):Option ((QS)×(QD)×Int):=
 (ψ1N.f p0).bind fun t1=>
 (ψ1J.f p1).bind fun t2=>
 (ψ11.f p0 p1).bind fun t3=>
 bif !t3 then
 some (t1,t2,4)
 else
 (ψg.f p2).bind fun t4=>
 bif !t4 then
 some (t1,t2,4)
 else
 let y5:=(p2.length:Int)==0
 bif y5 then
 some (t1,t2,0)
 else
 (ψ1Y.f p0.2.1 p2).bind fun t6=>
 bif decide (t6 > 20) then
 some (t1,t2,5)
 else
 let y7:=decide (p0.2.2.1 > 1000000)
 bif y7 then
 some (t1,t2,5)
 else
 (ψ14.f t1 (t2,0) p2).bind fun (t8_0,t8_1)=>
 some (t8_0,t8_1.1,t8_1.2)
def ψK.f (p0:QN) (p1:Int×Int×QF):Option ((QA)×QN):=
 (ψ1t.f p0.2.2.2 p1).bind fun t1=>
 bif !t1 then
 some ((4,[],[]),p0)
 else
 bif inB p1.2.1 p0.2.2.2.length then
 bif p1.1==1 then
 let l2:=p0.2.2.2.set p1.2.1.toNat (true,[],[])
 some ((0,[],[]),(p0.1,p0.2.1,p0.2.2.1,l2))
 else
 bif p1.1==6 then
 let l3:=p0.2.2.2.set p1.2.1.toNat (false,[],[])
 some ((0,[],[]),(p0.1,p0.2.1,p0.2.2.1,l3))
 else
 bif p1.1==2 then
 (ψI.f p0 p1).bind fun (t4_0,t4_1)=>
 some (t4_0,t4_1)
 else
 bif p1.1==3 then
 bif p1.1==3 then
 (ψ2D.f ((rdA (false,[],[]) p0.2.2.2 p1.2.1).1,((rdA (false,[],[]) p0.2.2.2 p1.2.1).2)) p1).bind fun (t5_0,t5_1)=>
 let l6:=p0.2.2.2.set p1.2.1.toNat t5_0
 some (t5_1,(p0.1,p0.2.1,p0.2.2.1,l6))
 else
 bif p1.1==5 then
 let y7:=(rdA (false,[],[]) p0.2.2.2 p1.2.1).1
 let l8:=p0.2.2.2.set p1.2.1.toNat (false,[],[])
 (ψ1F.f (y7,((rdA (false,[],[]) p0.2.2.2 p1.2.1).2)) p0.2.1.2.1).bind fun t9=>
 bif !t9 then
 some ((7,[],[]),(p0.1,p0.2.1,p0.2.2.1,l8))
 else
 (ψb.f (y7,((rdA (false,[],[]) p0.2.2.2 p1.2.1).2))).bind fun t10=>
 (ψ2.f p0.2.1 p0.2.2.1 t10).bind fun (t11_0,t11_1,t11_2)=>
 some ((t11_2,[],[]),(p0.1,t11_0,t11_1,l8))
 else
 some ((0,[],[]),p0)
 else
 bif p1.1==4 then
 (ψ2D.f ((rdA (false,[],[]) p0.2.2.2 p1.2.1).1,((rdA (false,[],[]) p0.2.2.2 p1.2.1).2)) p1).bind fun (t12_0,t12_1)=>
 let l13:=p0.2.2.2.set p1.2.1.toNat t12_0
 some (t12_1,(p0.1,p0.2.1,p0.2.2.1,l13))
 else
 bif p1.1==5 then
 let y14:=(rdA (false,[],[]) p0.2.2.2 p1.2.1).1
 let l15:=p0.2.2.2.set p1.2.1.toNat (false,[],[])
 (ψ1F.f (y14,((rdA (false,[],[]) p0.2.2.2 p1.2.1).2)) p0.2.1.2.1).bind fun t16=>
 bif !t16 then
 some ((7,[],[]),(p0.1,p0.2.1,p0.2.2.1,l15))
 else
 (ψb.f (y14,((rdA (false,[],[]) p0.2.2.2 p1.2.1).2))).bind fun t17=>
 (ψ2.f p0.2.1 p0.2.2.1 t17).bind fun (t18_0,t18_1,t18_2)=>
 some ((t18_2,[],[]),(p0.1,t18_0,t18_1,l15))
 else
 some ((0,[],[]),p0)
 else none
def ψL.f (p0:(QN)×List (QA)×List (Int×List (QP))×List (QP)) (p1:Int×Int×QF):Option ((QA)×(QN)×List (QA)×List (Int×List (QP))×List (QP)):=
 (ψ1t.f p0.1.2.2.2 p1).bind fun t1=>
 bif !t1 then
 some ((4,[],[]),p0)
 else
 bif inB p1.2.1 p0.1.2.2.2.length then
 bif p1.1==1 then
 let l2:=p0.1.2.2.2.set p1.2.1.toNat (true,[],[])
 some ((0,[],[]),((p0.1.1,p0.1.2.1,p0.1.2.2.1,l2),p0.2))
 else
 bif p1.1==6 then
 let l3:=p0.1.2.2.2.set p1.2.1.toNat (false,[],[])
 some ((0,[],[]),((p0.1.1,p0.1.2.1,p0.1.2.2.1,l3),p0.2))
 else
 bif p1.1==2 then
 (ψJ.f p0 p1).bind fun (t4_0,t4_1)=>
 some (t4_0,t4_1)
 else
 bif p1.1==3 then
 bif p1.1==3 then
 (ψ2D.f ((rdA (false,[],[]) p0.1.2.2.2 p1.2.1).1,((rdA (false,[],[]) p0.1.2.2.2 p1.2.1).2)) p1).bind fun (t5_0,t5_1)=>
 let l6:=p0.1.2.2.2.set p1.2.1.toNat t5_0
 some (t5_1,((p0.1.1,p0.1.2.1,p0.1.2.2.1,l6),p0.2))
 else
 bif p1.1==5 then
 let y7:=(rdA (false,[],[]) p0.1.2.2.2 p1.2.1).1
 let l8:=p0.1.2.2.2.set p1.2.1.toNat (false,[],[])
 (ψ1F.f (y7,((rdA (false,[],[]) p0.1.2.2.2 p1.2.1).2)) p0.1.2.1.2.1).bind fun t9=>
 bif !t9 then
 some ((7,[],[]),((p0.1.1,p0.1.2.1,p0.1.2.2.1,l8),p0.2))
 else
 (ψb.f (y7,((rdA (false,[],[]) p0.1.2.2.2 p1.2.1).2))).bind fun t10=>
 (ψ2.f p0.1.2.1 p0.1.2.2.1 t10).bind fun (t11_0,t11_1,t11_2)=>
 some ((t11_2,[],[]),((p0.1.1,t11_0,t11_1,l8),p0.2))
 else
 some ((0,[],[]),p0)
 else
 bif p1.1==4 then
 (ψ2D.f ((rdA (false,[],[]) p0.1.2.2.2 p1.2.1).1,((rdA (false,[],[]) p0.1.2.2.2 p1.2.1).2)) p1).bind fun (t12_0,t12_1)=>
 let l13:=p0.1.2.2.2.set p1.2.1.toNat t12_0
 some (t12_1,((p0.1.1,p0.1.2.1,p0.1.2.2.1,l13),p0.2))
 else
 bif p1.1==5 then
 let y14:=(rdA (false,[],[]) p0.1.2.2.2 p1.2.1).1
 let l15:=p0.1.2.2.2.set p1.2.1.toNat (false,[],[])
 (ψ1F.f (y14,((rdA (false,[],[]) p0.1.2.2.2 p1.2.1).2)) p0.1.2.1.2.1).bind fun t16=>
 bif !t16 then
 some ((7,[],[]),((p0.1.1,p0.1.2.1,p0.1.2.2.1,l15),p0.2))
 else
 (ψb.f (y14,((rdA (false,[],[]) p0.1.2.2.2 p1.2.1).2))).bind fun t17=>
 (ψ2.f p0.1.2.1 p0.1.2.2.1 t17).bind fun (t18_0,t18_1,t18_2)=>
 some ((t18_2,[],[]),((p0.1.1,t18_0,t18_1,l15),p0.2))
 else
 some ((0,[],[]),p0)
 else none
def ψM.f (p0:QN) (p1:Int×Int×QF):Option ((QA)×QN):=
 bif p1.1==10 then
 bif p0.1 then
 some ((4,[],[]),p0)
 else
 bif p1.1==10 then
 (ψH.f p0.2.2.1).bind fun (t1_0,t1_1)=>
 some ((t1_1,[],[]),t1_0)
 else
 bif p1.1==11 then
 (ψ1u.f p0.2.2.1).bind fun t2=>
 (ψD.f p0.2.2.1).bind fun t3=>
 bif !t3 then
 some ((4,[],[]),p0)
 else
 (ψ1W.f p1.2.2.2.2 0 (w64 (100000 - t2))).bind fun t4=>
 bif !t4 then
 some ((4,[],[]),p0)
 else
 let y5:=w64 (t2+p1.2.2.2.2)
 some ((0,[],[]),(p0.1,p0.2.1,(p0.2.2.1.1,y5,p0.2.2.1.2.2),p0.2.2.2))
 else
 bif !p0.1 then
 some ((6,[],[]),p0)
 else
 bif p1.1==7 then
 (ψZ.f p0.2.1 p0.2.2.1).bind fun (t6_0,t6_1,t6_2)=>
 some ((t6_2,[],[]),(p0.1,t6_0,t6_1,p0.2.2.2))
 else
 bif p1.1==8 then
 (ψ9.f p0.2.1.2.1).bind fun t7=>
 some ((0,[],t7),p0)
 else
 bif p1.1==9 then
 let l8:=κK 3 (false,[],[])
 some ((0,[],[]),(false,((0,[]),[],0,0,0),p0.2.2.1,l8))
 else
 (ψK.f p0 p1).bind fun (t9_0,t9_1)=>
 some (t9_0,t9_1)
 else
 bif p1.1==10 then
 (ψH.f p0.2.2.1).bind fun (t10_0,t10_1)=>
 some ((t10_1,[],[]),t10_0)
 else
 bif p1.1==11 then
 (ψ1u.f p0.2.2.1).bind fun t11=>
 (ψD.f p0.2.2.1).bind fun t12=>
 bif !t12 then
 some ((4,[],[]),p0)
 else
 (ψ1W.f p1.2.2.2.2 0 (w64 (100000 - t11))).bind fun t13=>
 bif !t13 then
 some ((4,[],[]),p0)
 else
 let y14:=w64 (t11+p1.2.2.2.2)
 some ((0,[],[]),(p0.1,p0.2.1,(p0.2.2.1.1,y14,p0.2.2.1.2.2),p0.2.2.2))
 else
 bif !p0.1 then
 some ((6,[],[]),p0)
 else
 bif p1.1==7 then
 (ψZ.f p0.2.1 p0.2.2.1).bind fun (t15_0,t15_1,t15_2)=>
 some ((t15_2,[],[]),(p0.1,t15_0,t15_1,p0.2.2.2))
 else
 bif p1.1==8 then
 (ψ9.f p0.2.1.2.1).bind fun t16=>
 some ((0,[],t16),p0)
 else
 bif p1.1==9 then
 let l17:=κK 3 (false,[],[])
 some ((0,[],[]),(false,((0,[]),[],0,0,0),p0.2.2.1,l17))
 else
 (ψK.f p0 p1).bind fun (t18_0,t18_1)=>
 some (t18_0,t18_1)
def ψN.f (p0:(QN)×List (QA)×List (Int×List (QP))×List (QP)) (p1:Int×Int×QF):Option ((QA)×(QN)×List (QA)×List (Int×List (QP))×List (QP)):=
 bif p1.1==10 then
 bif p0.1.1 then
 some ((4,[],[]),p0)
 else
 bif p1.1==10 then
 (ψH.f p0.1.2.2.1).bind fun (t1_0,t1_1)=>
 some ((t1_1,[],[]),(t1_0,p0.2))
 else
 bif p1.1==11 then
 (ψ1u.f p0.1.2.2.1).bind fun t2=>
 (ψD.f p0.1.2.2.1).bind fun t3=>
 bif !t3 then
 some ((4,[],[]),p0)
 else
 (ψ1W.f p1.2.2.2.2 0 (w64 (100000 - t2))).bind fun t4=>
 bif !t4 then
 some ((4,[],[]),p0)
 else
 let y5:=w64 (t2+p1.2.2.2.2)
 some ((0,[],[]),((p0.1.1,p0.1.2.1,(p0.1.2.2.1.1,y5,p0.1.2.2.1.2.2),p0.1.2.2.2),p0.2))
 else
 bif !p0.1.1 then
 some ((6,[],[]),p0)
 else
 bif p1.1==7 then
 (ψZ.f p0.1.2.1 p0.1.2.2.1).bind fun (t6_0,t6_1,t6_2)=>
 some ((t6_2,[],[]),((p0.1.1,t6_0,t6_1,p0.1.2.2.2),p0.2))
 else
 bif p1.1==8 then
 (ψ9.f p0.1.2.1.2.1).bind fun t7=>
 some ((0,[],t7),p0)
 else
 bif p1.1==9 then
 let l8:=κK 3 (false,[],[])
 some ((0,[],[]),((false,((0,[]),[],0,0,0),p0.1.2.2.1,l8),p0.2))
 else
 (ψL.f p0 p1).bind fun (t9_0,t9_1)=>
 some (t9_0,t9_1)
 else
 bif p1.1==10 then
 (ψH.f p0.1.2.2.1).bind fun (t10_0,t10_1)=>
 some ((t10_1,[],[]),(t10_0,p0.2))
 else
 bif p1.1==11 then
 (ψ1u.f p0.1.2.2.1).bind fun t11=>
 (ψD.f p0.1.2.2.1).bind fun t12=>
 bif !t12 then
 some ((4,[],[]),p0)
 else
 (ψ1W.f p1.2.2.2.2 0 (w64 (100000 - t11))).bind fun t13=>
 bif !t13 then
 some ((4,[],[]),p0)
 else
 let y14:=w64 (t11+p1.2.2.2.2)
 some ((0,[],[]),((p0.1.1,p0.1.2.1,(p0.1.2.2.1.1,y14,p0.1.2.2.1.2.2),p0.1.2.2.2),p0.2))
 else
 bif !p0.1.1 then
 some ((6,[],[]),p0)
 else
 bif p1.1==7 then
 (ψZ.f p0.1.2.1 p0.1.2.2.1).bind fun (t15_0,t15_1,t15_2)=>
 some ((t15_2,[],[]),((p0.1.1,t15_0,t15_1,p0.1.2.2.2),p0.2))
 else
 bif p1.1==8 then
 (ψ9.f p0.1.2.1.2.1).bind fun t16=>
 some ((0,[],t16),p0)
 else
 bif p1.1==9 then
 let l17:=κK 3 (false,[],[])
 some ((0,[],[]),((false,((0,[]),[],0,0,0),p0.1.2.2.1,l17),p0.2))
 else
 (ψL.f p0 p1).bind fun (t18_0,t18_1)=>
 some (t18_0,t18_1)
def ψ1b.f (p0:QN) (p1:Int×Int×QF):Option (List (QP)):=
 bif p1.1 != 5 then
 some []
 else
 bif !p0.1 then
 some []
 else
 (ψ1W.f p1.2.1 0 (w64 ((p0.2.2.2.length:Int) - 1))).bind fun t1=>
 bif !t1 then
 some []
 else
 bif inB p1.2.1 p0.2.2.2.length then
 bif !((rdA (false,[],[]) p0.2.2.2 p1.2.1).1) then
 some []
 else
 bif inB p1.2.1 p0.2.2.2.length then
 (ψb.f ((rdA (false,[],[]) p0.2.2.2 p1.2.1).1,((rdA (false,[],[]) p0.2.2.2 p1.2.1).2))).bind fun t2=>
 some t2
 else none
 else none
def ψu.l0 (rec:(((QN)×List (QA)×List (Int×List (QP))×List (QP))×((QN)×List (QA)×List (Int×List (QP))×List (QP))×List (Int×Int×QF)×Int×Int)→Option (((QN)×List (QA)×List (Int×List (QP))×List (QP))×(QN)×List (QA)×List (Int×List (QP))×List (QP))):(((QN)×List (QA)×List (Int×List (QP))×List (QP))×((QN)×List (QA)×List (Int×List (QP))×List (QP))×List (Int×Int×QF)×Int×Int)→Option (((QN)×List (QA)×List (Int×List (QP))×List (QP))×(QN)×List (QA)×List (Int×List (QP))×List (QP)):=fun (x4,x5,x14,x15,x16)=>
 bif decide (x16<x15) then
 bif inB x16 x14.length then
 let y2:=(rdA (0,0,[],[],0) x14 x16).1
 let y3:=((rdA (0,0,[],[],0) x14 x16).2).1
 let y4:=(((rdA (0,0,[],[],0) x14 x16).2).2).1
 let y5:=((((rdA (0,0,[],[],0) x14 x16).2).2).2).1
 let y6:=((((rdA (0,0,[],[],0) x14 x16).2).2).2).2
 bif decide (x16≥300) then
 some (x4,x5)
 else
 (ψ1b.f x5.1 (y2,y3,y4,y5,y6)).bind fun t7=>
 (ψN.f x5 (y2,y3,y4,y5,y6)).bind fun (t8_0,t8_1)=>
 bif decide ((t8_1.2.1.length+[t8_0].length) * 48≤140737488355328) then
 let l9:=t8_1.2.1++[t8_0]
 bif t8_0.1==1 then
 some (x4,(t8_1.1,l9,t8_1.2.2.1,t7))
 else
 (bif t8_0.1==0 then
 bif decide ((t7.length:Int) > 0) then
 bif decide ((t8_1.2.2.1.length+[(x5.1.2.1.2.2.1,t7)].length) * 32≤140737488355328) then
 let l10:=t8_1.2.2.1++[(x5.1.2.1.2.2.1,t7)]
 some (x4,(t8_1.1,l9,l10,t8_1.2.2.2),x14,x15,x16)
 else none
 else
 some (x4,(t8_1.1,l9,t8_1.2.2),x14,x15,x16)
 else
 some (x4,(t8_1.1,l9,t8_1.2.2),x14,x15,x16):Option (((QN)×List (QA)×List (Int×List (QP))×List (QP))×((QN)×List (QA)×List (Int×List (QP))×List (QP))×List (Int×Int×QF)×Int×Int)).bind (fun (x4,x5,x14,x15,x16)=>
 rec (x4,x5,x14,x15,w64 (x16+1)))
 else none
 else none
 else
 some (x4,x5)
def ψu.f (p0:QN) (p1:List (Int×Int×QF)):Option ((QN)×List (QA)×List (Int×List (QP))×List (QP)):=
 (ψ1K.f p0).bind fun t1=>
 (lp ψu.l0 (((false,((0,[]),[],0,0,0),([],0,0,false),[]),[],[],[]),(t1,[],[],[]),p1,(p1.length:Int),0)).bind (fun (x4,x5)=>
 some x5)
def ψf.f (p0:Int×Int×List (Int×Int×QF)):Option ((QN)×List (QA)×List (Int×List (QP))×List (QP)):=
 (ψ1W.f p0.1 0 100000).bind fun t1=>
 bif !t1 then
 some ((false,((0,[]),[],0,0,0),([],0,0,false),[]),[],[],[])
 else
 (ψ1W.f p0.2.1 (-1) 100000).bind fun t2=>
 bif !t2 then
 some ((false,((0,[]),[],0,0,0),([],0,0,false),[]),[],[],[])
 else
 (ψC.f p0.1).bind fun t3=>
 (ψ1H.f t3 p0.2.1).bind fun t4=>
 (ψH.f t4).bind fun (t5_0,t5_1)=>
 bif t5_1 != 0 then
 some (t5_0,[],[],[])
 else
 (ψu.f t5_0 p0.2.2).bind fun t6=>
 some t6
def ψ2G.f (p0:List (Int×Int×QF)):Option (Int×Int×List (Int×Int×QF)):=
 some (100000,(-1),p0)
def ψ3H.l0 (rec:((QD)×Int×Int)→Option (Int)):((QD)×Int×Int)→Option (Int):=fun (x1,x3,x4)=>
 bif decide (x4<(x1.1.length:Int)) then
 bif inB x4 x1.1.length then
 let y1:=w64 (x3+((((rdA ([],[],0) x1.1 x4).2).1).length:Int))
 rec (x1,y1,w64 (x4+1))
 else none
 else
 some x3
def ψ3H.f (p0:QD):Option (Int):=
 (lp ψ3H.l0 (p0,0,0)).bind (fun x3=>
 some x3)
def ψ2Z.l0 (rec:(QB×Int)→Option ((QB) ⊕ (Bool))):(QB×Int)→Option ((QB) ⊕ (Bool)):=fun (x0,x3)=>
 bif decide (x3<(x0.length:Int)) then
 (bif inB x3 x0.length then
 bif decide ((bAt x0 x3)≥97) then
 bif inB x3 x0.length then
 bif decide ((bAt x0 x3)≤122) then
 some (Sum.inl (x0,x3))
 else
 bif inB x3 x0.length then
 bif decide ((bAt x0 x3)≥48) then
 bif inB x3 x0.length then
 bif !(decide ((bAt x0 x3)≤57)) then
 some (Sum.inr false)
 else
 some (Sum.inl (x0,x3))
 else none
 else
 some (Sum.inr false)
 else none
 else none
 else
 bif inB x3 x0.length then
 bif decide ((bAt x0 x3)≥48) then
 bif inB x3 x0.length then
 bif !(decide ((bAt x0 x3)≤57)) then
 some (Sum.inr false)
 else
 some (Sum.inl (x0,x3))
 else none
 else
 some (Sum.inr false)
 else none
 else none:Option ((QB×Int) ⊕ (Bool))).bind (fun o1=>φU o1 (fun (x0,x3)=>
 rec (x0,w64 (x3+1))) (fun x2=>
 some (Sum.inr x2)))
 else
 some (Sum.inl x0)
def ψ2Z.f (p0:QB):Option (Bool):=
 (lp ψ2Z.l0 (p0,0)).bind (fun o2=>φU o2 (fun x0=>
 (ψ37.f (x0.length:Int) 1 12).bind fun t3=>
 some t3) (fun x2=>
 some x2))
def ψ2N.l0 (rec:((QD)×Int)→Option ((Unit) ⊕ (Bool))):((QD)×Int)→Option ((Unit) ⊕ (Bool)):=fun (x1,x3)=>
 bif decide (x3<(x1.1.length:Int)) then
 (bif inB x3 x1.1.length then
 (ψ2Z.f ((rdA ([],[],0) x1.1 x3).1)).bind fun t4=>
 bif !t4 then
 some (Sum.inr false)
 else
 bif inB x3 x1.1.length then
 bif inB x3 x1.1.length then
 (ψ37.f (((rdA ([],[],0) x1.1 x3).2).2) 0 ((((rdA ([],[],0) x1.1 x3).2).1).length:Int)).bind fun t5=>
 bif !t5 then
 some (Sum.inr false)
 else
 bif decide (x3 > 0) then
 bif inB x3 x1.1.length then
 bif inB (w64 (x3 - 1)) x1.1.length then
 bif (Op.bytesLess ((rdA ([],[],0) x1.1 x3).1) ((rdA ([],[],0) x1.1 (w64 (x3 - 1))).1) || ((rdA ([],[],0) x1.1 x3).1)==((rdA ([],[],0) x1.1 (w64 (x3 - 1))).1)) then
 some (Sum.inr false)
 else
 some (Sum.inl (x1,x3))
 else none
 else none
 else
 some (Sum.inl (x1,x3))
 else none
 else none
 else none:Option (((QD)×Int) ⊕ (Bool))).bind (fun o6=>φU o6 (fun (x1,x3)=>
 rec (x1,w64 (x3+1))) (fun x2=>
 some (Sum.inr x2)))
 else
 some (Sum.inl ())
def ψ2N.f (p0:QD):Option (Bool):=
 bif decide ((p0.1.length:Int) > 130) then
 some false
 else
 (ψ37.f p0.2.1 0 100000).bind fun t1=>
 bif !t1 then
 some false
 else
 (ψ37.f p0.2.2.1 (-1) 100000).bind fun t2=>
 bif !t2 then
 some false
 else
 (ψ3H.f p0).bind fun t3=>
 bif decide (t3 > p0.2.1) then
 some false
 else
 (lp ψ2N.l0 (p0,0)).bind (fun o7=>φU o7 (fun _=>
 some true) (fun x2=>
 some x2))
def ψ2X.l0 (rec:((Int×List Int)×Int)→Option ((Unit) ⊕ (Bool))):((Int×List Int)×Int)→Option ((Unit) ⊕ (Bool)):=fun (x1,x3)=>
 bif decide (x3<(x1.2.length:Int)) then
 (bif inB x3 x1.2.length then
 (ψ37.f (rdA 0 x1.2 x3) 1 (w64 (x1.1 - 1))).bind fun t3=>
 bif !t3 then
 some (Sum.inr false)
 else
 bif decide (x3 > 0) then
 bif inB x3 x1.2.length then
 bif inB (w64 (x3 - 1)) x1.2.length then
 bif decide ((rdA 0 x1.2 x3)≤(rdA 0 x1.2 (w64 (x3 - 1)))) then
 some (Sum.inr false)
 else
 some (Sum.inl (x1,x3))
 else none
 else none
 else
 some (Sum.inl (x1,x3))
 else none:Option (((Int×List Int)×Int) ⊕ (Bool))).bind (fun o4=>φU o4 (fun (x1,x3)=>
 rec (x1,w64 (x3+1))) (fun x2=>
 some (Sum.inr x2)))
 else
 some (Sum.inl ())
def ψ2X.f (p0:Int×List Int):Option (Bool):=
 (ψ37.f p0.1 1 100000).bind fun t1=>
 bif !t1 then
 some false
 else
 (ψ37.f (p0.2.length:Int) 1 60).bind fun t2=>
 bif !t2 then
 some false
 else
 (lp ψ2X.l0 (p0,0)).bind (fun o5=>φU o5 (fun _=>
 some true) (fun x2=>
 some x2))
def ψ2W.f (p0:QB):Option (Bool):=
 (ψ37.f (p0.length:Int) 1 8).bind fun t1=>
 some t1
def ψ2M.l0 (rec:(List (QE)×Int)→Option ((Unit) ⊕ (Bool))):(List (QE)×Int)→Option ((Unit) ⊕ (Bool)):=fun (x0,x3)=>
 bif decide (x3<(x0.length:Int)) then
 bif inB x3 x0.length then
 let y1:=(rdA ([],0,0,0,0) x0 x3).1
 let y2:=((rdA ([],0,0,0,0) x0 x3).2).1
 let y3:=(((rdA ([],0,0,0,0) x0 x3).2).2).1
 let y4:=((((rdA ([],0,0,0,0) x0 x3).2).2).2).1
 let y5:=((((rdA ([],0,0,0,0) x0 x3).2).2).2).2
 ((ψ2W.f y1).bind fun t6=>
 bif !t6 then
 some (Sum.inr false)
 else
 (ψ37.f y2 1 100000).bind fun t7=>
 bif !t7 then
 some (Sum.inr false)
 else
 bif decide (y3<0) then
 some (Sum.inr false)
 else
 (ψ37.f y4 1 210).bind fun t8=>
 bif !t8 then
 some (Sum.inr false)
 else
 (ψ37.f y5 1 1000000).bind fun t9=>
 bif !t9 then
 some (Sum.inr false)
 else
 bif decide (x3 > 0) then
 bif inB (w64 (x3 - 1)) x0.length then
 bif (Op.bytesLess y1 ((rdA ([],0,0,0,0) x0 (w64 (x3 - 1))).1) || y1==((rdA ([],0,0,0,0) x0 (w64 (x3 - 1))).1)) then
 some (Sum.inr false)
 else
 some (Sum.inl (x0,x3))
 else none
 else
 some (Sum.inl (x0,x3)):Option ((List (QE)×Int) ⊕ (Bool))).bind (fun o10=>φU o10 (fun (x0,x3)=>
 rec (x0,w64 (x3+1))) (fun x2=>
 some (Sum.inr x2)))
 else none
 else
 some (Sum.inl ())
def ψ2M.f (p0:List (QE)):Option (Bool):=
 bif decide ((p0.length:Int) > 20) then
 some false
 else
 (lp ψ2M.l0 (p0,0)).bind (fun o11=>φU o11 (fun _=>
 some true) (fun x2=>
 some x2))
def ψ3F.l0 (rec:(QB×(QD)×Int)→Option ((Unit) ⊕ (Int))):(QB×(QD)×Int)→Option ((Unit) ⊕ (Int)):=fun (x1,x2,x5)=>
 bif decide (x5<(x2.1.length:Int)) then
 bif inB x5 x2.1.length then
 bif ((rdA ([],[],0) x2.1 x5).1)==x1 then
 some (Sum.inr x5)
 else
 rec (x1,x2,w64 (x5+1))
 else none
 else
 some (Sum.inl ())
def ψ3F.f (p0:QD) (p1:QB):Option (Int):=
 (lp ψ3F.l0 (p1,p0,0)).bind (fun o1=>φU o1 (fun _=>
 some (-1)) (fun x4=>
 some x4))
def ψ2Q.f (p0:QD) (p1:QB):Option (QB×Bool):=
 (ψ2N.f p0).bind fun t1=>
 bif !t1 then
 some ([],false)
 else
 (ψ3F.f p0 p1).bind fun t2=>
 bif decide (t2<0) then
 some ([],false)
 else
 bif inB t2 p0.1.length then
 let y3:=((rdA ([],[],0) p0.1 t2).2).1
 some (y3,true)
 else none
def ψ2K.l0 (rec:(Int×QB×Bool)→Option (QB×Bool)):(Int×QB×Bool)→Option (QB×Bool):=fun (x0,x3,x4)=>
 bif x0 != 0 then
 let y2:=Int.tmod x0 10
 (bif decide (y2<0) then
 some (x0,x3,x4,w64 (0 - y2))
 else
 some (x0,x3,x4,y2):Option (Int×QB×Bool×Int)).bind (fun (x0,x3,x4,x5)=>
 bif decide ((φ1U [IntKind.wrap .u8 (w64 (48+x5))]).length+x3.length≤9223372036854775807) then
 let y3:=(φ1U [IntKind.wrap .u8 (w64 (48+x5))])++x3
 let y4:=w64 (Int.tdiv x0 10)
 rec (y4,y3,x4)
 else none)
 else
 some (x3,x4)
def ψ2K.f (p0:Int):Option (QB):=
 bif p0==0 then
 some [48]
 else
 let y1:=decide (p0<0)
 (lp ψ2K.l0 (p0,[],y1)).bind (fun (x3,x4)=>
 bif x4 then
 bif decide (([45]:QB).length+x3.length≤9223372036854775807) then
 some ([45]++x3)
 else none
 else
 some x3)
def ψ2k.f (p0:Int):Option (QB):=
 (ψ37.f p0 1 100000).bind fun t1=>
 bif !t1 then
 some []
 else
 (ψ2K.f p0).bind fun t2=>
 bif decide (([115,101,103]:QB).length+t2.length≤9223372036854775807) then
 let y3:=[115,101,103]++t2
 some y3
 else none
def ψ2s.l0 (rec:(Int×List Int)→Option (Int×List Int)):(Int×List Int)→Option (Int×List Int):=fun (x0,x3)=>
 bif decide (x0≥128) then
 bif decide ((x3.length+[IntKind.wrap .u8 (w64 (128+(Int.tmod x0 128)))].length) * 1≤140737488355328) then
 let l2:=x3++[IntKind.wrap .u8 (w64 (128+(Int.tmod x0 128)))]
 let y3:=w64 (Int.tdiv x0 128)
 rec (y3,l2)
 else none
 else
 some (x0,x3)
def ψ2s.f (p0:Int):Option (QB):=
 (ψ37.f p0 0 562949953421311).bind fun t1=>
 bif !t1 then
 some []
 else
 (lp ψ2s.l0 (p0,([]:List Int))).bind (fun (x0,x3)=>
 bif decide ((x3.length+[IntKind.wrap .u8 (x0)].length) * 1≤140737488355328) then
 let l4:=x3++[IntKind.wrap .u8 (x0)]
 some (φ1U l4)
 else none)
def ψ2e.l2 (rec:(QB×Int×Int×Int)→Option (QB×Int×Int)):(QB×Int×Int×Int)→Option (QB×Int×Int):=fun (x0,x4,x5,x6)=>
 bif decide (x6≥0) then
 bif inB x6 x0.length then
 let y1:=w64 ((w64 (x5 * 128))+(Int.tmod (w64 (bAt x0 x6)) 128))
 rec (x0,x4,y1,w64 (x6 - 1))
 else none
 else
 some (x0,x4,x5)
def ψ2e.l0 (rec:(QB×Int)→Option ((Unit) ⊕ (Int×Int))):(QB×Int)→Option ((Unit) ⊕ (Int×Int)):=fun (x0,x4)=>
 bif decide (x4≤7) then
 bif decide (x4≤(x0.length:Int)) then
 (lp ψ2e.l2 (x0,x4,0,w64 (x4 - 1))).bind (fun (x0,x4,x5)=>
 (ψ2s.f x5).bind fun t2=>
 bif (decide (0≤x4) && decide (x4≤(x0.length:Int))) then
 bif t2==(x0.take x4.toNat) then
 some (Sum.inr (x5,x4))
 else
 rec (x0,w64 (x4+1))
 else none)
 else
 some (Sum.inl ())
 else
 some (Sum.inl ())
def ψ2e.f (p0:QB):Option (Int×Int):=
 (lp ψ2e.l0 (p0,1)).bind (fun o3=>φU o3 (fun _=>
 some (0,0)) (fun (x2,x3)=>
 some (x2,x3)))
def ψ2R.l0 (rec:(Int×Int×QB×Int)→Option (Int×QB)):(Int×Int×QB×Int)→Option (Int×QB):=fun (x0,x1,x5,x6)=>
 bif decide (x6<x1) then
 bif decide ((φ1U [IntKind.wrap .u8 (Int.tmod x0 256)]).length+x5.length≤9223372036854775807) then
 let y2:=(φ1U [IntKind.wrap .u8 (Int.tmod x0 256)])++x5
 let y3:=w64 (Int.tdiv x0 256)
 rec (y3,x1,y2,w64 (x6+1))
 else none
 else
 some (x0,x5)
def ψ2R.f (p0:Int) (p1:Int):Option (QB):=
 (ψ37.f p1 1 7).bind fun t1=>
 bif !t1 then
 some []
 else
 bif decide (p0<0) then
 some []
 else
 (lp ψ2R.l0 (p0,p1,[],0)).bind (fun (x0,x5)=>
 bif decide (x0 > 0) then
 some []
 else
 some x5)
def ψ2I.l2 (rec:(QB×Int×Int×Int)→Option (QB×Int×Int)):(QB×Int×Int×Int)→Option (QB×Int×Int):=fun (x0,x3,x4,x5)=>
 bif decide (x5<8) then
 let y2:=w64 (Int.tdiv x3 2)
 (bif (Int.tmod x3 2)==1 then
 let y3:=bits (fun _ a b=>a ^^^ b) .i64 y2 2197175160
 some (x0,y3,x4,x5)
 else
 some (x0,y2,x4,x5):Option (QB×Int×Int×Int)).bind (fun (x0,x3,x4,x5)=>
 rec (x0,x3,x4,w64 (x5+1)))
 else
 some (x0,x3,x4)
def ψ2I.l0 (rec:(QB×Int×Int)→Option (Int)):(QB×Int×Int)→Option (Int):=fun (x0,x3,x4)=>
 bif decide (x4<(x0.length:Int)) then
 bif inB x4 x0.length then
 let y1:=bits (fun _ a b=>a ^^^ b) .i64 x3 (w64 (bAt x0 x4))
 (lp ψ2I.l2 (x0,y1,x4,0)).bind (fun (x0,x3,x4)=>
 rec (x0,x3,w64 (x4+1)))
 else none
 else
 some x3
def ψ2I.f (p0:QB):Option (Int):=
 (lp ψ2I.l0 (p0,4294967295,0)).bind (fun x3=>
 let y4:=w64 (4294967295 - x3)
 some y4)
def ψ2S.f (p0:QB):Option (QB):=
 bif decide ((p0.length:Int) > 200) then
 some []
 else
 (ψ2s.f (p0.length:Int)).bind fun t1=>
 bif decide (t1.length+p0.length≤9223372036854775807) then
 (ψ2I.f (t1++p0)).bind fun t2=>
 (ψ2R.f t2 4).bind fun t3=>
 bif decide (t3.length+(t1++p0).length≤9223372036854775807) then
 let y4:=t3++(t1++p0)
 some y4
 else none
 else none
def ψ2r.f (p0:QB):Option (QB×Int):=
 bif decide ((p0.length:Int)<5) then
 some ([],0)
 else
 bif (decide (0≤(4:Int)) && decide (4≤(p0.length:Int))) then
 (ψ2e.f (p0.drop 4)).bind fun (t1_0,t1_1)=>
 bif t1_1==0 then
 some ([],0)
 else
 bif decide (t1_0 > 200) then
 some ([],0)
 else
 bif decide (t1_0 > (w64 ((w64 ((p0.length:Int) - 4)) - t1_1))) then
 some ([],0)
 else
 bif (decide (0≤w64 ((w64 (4+t1_1))+t1_0)) && decide (w64 ((w64 (4+t1_1))+t1_0)≤(p0.length:Int))) then
 bif (decide (0≤w64 (4+t1_1)) && decide (w64 (4+t1_1)≤w64 ((w64 (4+t1_1))+t1_0))) then
 let y2:=(p0.take ((w64 ((w64 (4+t1_1))+t1_0)).toNat)).drop ((w64 (4+t1_1)).toNat)
 bif (decide (0≤w64 ((w64 (4+t1_1))+t1_0)) && decide (w64 ((w64 (4+t1_1))+t1_0)≤(p0.length:Int))) then
 (ψ2S.f y2).bind fun t3=>
 bif !((p0.take ((w64 ((w64 (4+t1_1))+t1_0)).toNat))==t3) then
 some ([],0)
 else
 let y4:=w64 ((w64 (4+t1_1))+t1_0)
 some (y2,y4)
 else none
 else none
 else none
 else none
def ψ3K.f (p0:QB):Option (QB×QB×Bool):=
 (ψ2e.f p0).bind fun (t1_0,t1_1)=>
 bif t1_1==0 then
 some ([],[],false)
 else
 bif decide (t1_0 > (w64 ((p0.length:Int) - t1_1))) then
 some ([],[],false)
 else
 bif (decide (0≤w64 (t1_1+t1_0)) && decide (w64 (t1_1+t1_0)≤(p0.length:Int))) then
 bif (decide (0≤t1_1) && decide (t1_1≤w64 (t1_1+t1_0))) then
 bif (decide (0≤w64 (t1_1+t1_0)) && decide (w64 (t1_1+t1_0)≤(p0.length:Int))) then
 let y2:=(p0.take ((w64 (t1_1+t1_0)).toNat)).drop t1_1.toNat
 let y3:=p0.drop ((w64 (t1_1+t1_0)).toNat)
 some (y2,y3,true)
 else none
 else none
 else none
def ψ2b.l0 (rec:(QB×Int×Int×Int)→Option (Int)):(QB×Int×Int×Int)→Option (Int):=fun (x0,x1,x6,x7)=>
 bif decide (x7<x1) then
 bif inB x7 x0.length then
 let y2:=w64 ((w64 (x6 * 256))+(w64 (bAt x0 x7)))
 rec (x0,x1,y2,w64 (x7+1))
 else none
 else
 some x6
def ψ2b.f (p0:QB) (p1:Int):Option (Int×Bool):=
 (ψ37.f p1 1 7).bind fun t1=>
 bif !t1 then
 some (0,false)
 else
 bif decide ((p0.length:Int)<p1) then
 some (0,false)
 else
 (lp ψ2b.l0 (p0,p1,0,0)).bind (fun x6=>
 some (x6,true))
def ψ2g.f (p0:QR):Option (Bool):=
 ((ψ37.f p0.2.1 0 1000000).bind fun t1=>
 bif !t1 then
 some (Sum.inr false)
 else
 bif p0.2.1==0 then
 bif p0.1 != 5 then
 some (Sum.inr false)
 else
 some (Sum.inl p0)
 else
 some (Sum.inl p0):Option ((QR) ⊕ (Bool))).bind (fun o2=>φU o2 (fun x1=>
 (bif x1.1==1 then
 some (x1,x1.1,x1.1==1)
 else
 some (x1,x1.1,x1.1==4):Option ((QR)×Int×Bool)).bind (fun (x1,x18,x19)=>
 bif x19 then
 (ψ2W.f x1.2.2.1).bind fun t3=>
 bif t3 then
 bif decide ((x1.2.2.2.1.length:Int)≤24) then
 bif x1.2.2.2.2.1==0 then
 let y4:=x1.2.2.2.2.2==0
 some y4
 else
 some false
 else
 some false
 else
 some false
 else
 bif x18==2 then
 (ψ2W.f x1.2.2.1).bind fun t5=>
 bif t5 then
 bif x1.2.2.2.1==[] then
 bif x1.2.2.2.2.1==0 then
 let y6:=x1.2.2.2.2.2==0
 some y6
 else
 some false
 else
 some false
 else
 some false
 else
 bif x18==3 then
 bif x1.2.2.1==[] then
 bif x1.2.2.2.1==[] then
 (ψ37.f x1.2.2.2.2.1 0 8).bind fun t7=>
 bif t7 then
 (ψ37.f x1.2.2.2.2.2 0 4294967295).bind fun t8=>
 some t8
 else
 some false
 else
 some false
 else
 some false
 else
 bif x18==5 then
 bif x1.2.2.1==[] then
 bif x1.2.2.2.1==[] then
 (ψ37.f x1.2.2.2.2.1 0 20).bind fun t9=>
 bif t9 then
 (ψ37.f x1.2.2.2.2.2 0 4294967295).bind fun t10=>
 some t10
 else
 some false
 else
 some false
 else
 some false
 else
 some false)) (fun x2=>
 some x2))
def ψ2n.f (p0:QR):Option (QB):=
 (ψ2g.f p0).bind fun t1=>
 bif !t1 then
 some []
 else
 (ψ2s.f p0.1).bind fun t2=>
 (ψ2s.f p0.2.1).bind fun t3=>
 bif decide (t2.length+t3.length≤9223372036854775807) then
 (bif p0.1==1 then
 some (p0,t2++t3,p0.1,p0.1==1)
 else
 some (p0,t2++t3,p0.1,p0.1==4):Option ((QR)×QB×Int×Bool)).bind (fun (x1,x3,x15,x16)=>
 bif x16 then
 (ψ2s.f (x1.2.2.1.length:Int)).bind fun t4=>
 bif decide (x3.length+t4.length≤9223372036854775807) then
 bif decide ((x3++t4).length+x1.2.2.1.length≤9223372036854775807) then
 (ψ2s.f (x1.2.2.2.1.length:Int)).bind fun t5=>
 bif decide (((x3++t4)++x1.2.2.1).length+t5.length≤9223372036854775807) then
 bif decide ((((x3++t4)++x1.2.2.1)++t5).length+x1.2.2.2.1.length≤9223372036854775807) then
 let y6:=(((x3++t4)++x1.2.2.1)++t5)++x1.2.2.2.1
 some y6
 else none
 else none
 else none
 else none
 else
 bif x15==2 then
 (ψ2s.f (x1.2.2.1.length:Int)).bind fun t7=>
 bif decide (x3.length+t7.length≤9223372036854775807) then
 bif decide ((x3++t7).length+x1.2.2.1.length≤9223372036854775807) then
 let y8:=(x3++t7)++x1.2.2.1
 some y8
 else none
 else none
 else
 (ψ2s.f x1.2.2.2.2.1).bind fun t9=>
 bif decide (x3.length+t9.length≤9223372036854775807) then
 (ψ2R.f x1.2.2.2.2.2 4).bind fun t10=>
 bif decide ((x3++t9).length+t10.length≤9223372036854775807) then
 let y11:=(x3++t9)++t10
 some y11
 else none
 else none)
 else none
def ψ2d.f (p0:QB):Option ((QR)×Bool):=
 (ψ2e.f p0).bind fun (t1_0,t1_1)=>
 bif (decide (0≤t1_1) && decide (t1_1≤(p0.length:Int))) then
 (ψ2e.f (p0.drop t1_1.toNat)).bind fun (t2_0,t2_1)=>
 bif t1_1==0 then
 some ((0,0,[],[],0,0),false)
 else
 bif t2_1==0 then
 some ((0,0,[],[],0,0),false)
 else
 bif (decide (0≤w64 (t1_1+t2_1)) && decide (w64 (t1_1+t2_1)≤(p0.length:Int))) then
 let y3:=p0.drop ((w64 (t1_1+t2_1)).toNat)
 ((bif t1_0==1 then
 some (p0,(0,0,[],[],0,0),(t1_0,t2_0,[],[],0,0),y3,t1_0,t1_0==1)
 else
 some (p0,(0,0,[],[],0,0),(t1_0,t2_0,[],[],0,0),y3,t1_0,t1_0==4):Option (QB×(QR)×(QR)×QB×Int×Bool)).bind (fun (x0,x2,x8,x9,x50,x67)=>
 bif x67 then
 (ψ3K.f x9).bind fun (t4_0,t4_1,t4_2)=>
 (ψ3K.f t4_1).bind fun (t5_0,t5_1,t5_2)=>
 some (x0,x2,(x8.1,x8.2.1,t4_0,t5_0,x8.2.2.2.2))
 else
 (bif x50==2 then
 (ψ3K.f x9).bind fun (t6_0,t6_1,t6_2)=>
 some (x0,x2,(x8.1,x8.2.1,t6_0,x8.2.2.2))
 else
 (ψ2e.f x9).bind fun (t7_0,t7_1)=>
 bif (decide (0≤t7_1) && decide (t7_1≤(x9.length:Int))) then
 (ψ2b.f (x9.drop t7_1.toNat) 4).bind fun (t8_0,t8_1)=>
 some (x0,x2,(x8.1,x8.2.1,x8.2.2.1,x8.2.2.2.1,t7_0,t8_0))
 else none:Option (QB×(QR)×QR)).bind (fun (x0,x2,x8)=>
 some (x0,x2,x8))):Option (QB×(QR)×QR)).bind (fun (x0,x2,x8)=>
 (ψ2n.f x8).bind fun t9=>
 bif !(t9==x0) then
 some ((0,0,[],[],0,0),false)
 else
 bif x0==[] then
 some ((0,0,[],[],0,0),false)
 else
 some (x8,true))
 else none
 else none
def ψ2j.l0 (rec:(QB×List (Int×Int×QR)×Int)→Option ((List (Int×Int×QR)×Int) ⊕ (List (Int×Int×QR)×Int))):(QB×List (Int×Int×QR)×Int)→Option ((List (Int×Int×QR)×Int) ⊕ (List (Int×Int×QR)×Int)):=fun (x0,x4,x5)=>
 bif decide (x5<(x0.length:Int)) then
 bif (decide (0≤x5) && decide (x5≤(x0.length:Int))) then
 (ψ2r.f (x0.drop x5.toNat)).bind fun (t1_0,t1_1)=>
 (ψ2d.f t1_0).bind fun (t2_0,t2_1)=>
 bif t1_1==0 then
 some (Sum.inr (x4,x5))
 else
 bif !t2_1 then
 some (Sum.inr (x4,x5))
 else
 bif decide ((x4.length+[(x5,t1_1,t2_0)].length) * 80≤140737488355328) then
 let l3:=x4++[(x5,t1_1,t2_0)]
 let y4:=w64 (x5+t1_1)
 rec (x0,l3,y4)
 else none
 else none
 else
 some (Sum.inl (x4,x5))
def ψ2j.f (p0:QB):Option (List (Int×Int×QR)×Int):=
 (lp ψ2j.l0 (p0,([]:List (Int×Int×QR)),0)).bind (fun o5=>φU o5 (fun (x4,x5)=>
 some (x4,x5)) (fun (x2,x3)=>
 some (x2,x3)))
def ψ2f.f (p0:QB) (p1:Int) (p2:Int):Option ((QR)×Bool):=
 (ψ37.f p1 0 (p0.length:Int)).bind fun t1=>
 bif !t1 then
 some ((0,0,[],[],0,0),false)
 else
 (ψ37.f p2 1 (w64 ((p0.length:Int) - p1))).bind fun t2=>
 bif !t2 then
 some ((0,0,[],[],0,0),false)
 else
 bif (decide (0≤w64 (p1+p2)) && decide (w64 (p1+p2)≤(p0.length:Int))) then
 bif (decide (0≤p1) && decide (p1≤w64 (p1+p2))) then
 (ψ2r.f ((p0.take ((w64 (p1+p2)).toNat)).drop p1.toNat)).bind fun (t3_0,t3_1)=>
 (ψ2d.f t3_0).bind fun (t4_0,t4_1)=>
 bif t3_1 != p2 then
 some ((0,0,[],[],0,0),false)
 else
 bif !t4_1 then
 some ((0,0,[],[],0,0),false)
 else
 some (t4_0,true)
 else none
 else none
def ψ2o.l0 (rec:((QS)×(QD)×Int)→Option (((QS)×QD) ⊕ (Bool))):((QS)×(QD)×Int)→Option (((QS)×QD) ⊕ (Bool)):=fun (x2,x3,x5)=>
 bif decide (x5<(x2.1.2.length:Int)) then
 bif inB x5 x2.1.2.length then
 (ψ2k.f (rdA 0 x2.1.2 x5)).bind fun t5=>
 (ψ2Q.f x3 t5).bind fun (t6_0,t6_1)=>
 (ψ2j.f t6_0).bind fun (t7_0,t7_1)=>
 (bif !t6_1 then
 some (Sum.inr false)
 else
 bif decide (t7_1<(t6_0.length:Int)) then
 some (Sum.inr false)
 else
 bif (w64 (x5+1))==(x2.1.2.length:Int) then
 bif x2.2.2.2.1 != (t6_0.length:Int) then
 some (Sum.inr false)
 else
 some (Sum.inl (x2,x3,x5))
 else
 some (Sum.inl (x2,x3,x5)):Option (((QS)×(QD)×Int) ⊕ (Bool))).bind (fun o8=>φU o8 (fun (x2,x3,x5)=>
 rec (x2,x3,w64 (x5+1))) (fun x4=>
 some (Sum.inr x4)))
 else none
 else
 some (Sum.inl (x2,x3))
def ψ2o.l2 (rec:((QS)×(QD)×Int)→Option ((Unit) ⊕ (Bool))):((QS)×(QD)×Int)→Option ((Unit) ⊕ (Bool)):=fun (x2,x3,x10)=>
 bif decide (x10<(x2.2.1.length:Int)) then
 bif inB x10 x2.2.1.length then
 let y10:=(rdA ([],0,0,0,0) x2.2.1 x10).1
 let y11:=((rdA ([],0,0,0,0) x2.2.1 x10).2).1
 let y12:=(((rdA ([],0,0,0,0) x2.2.1 x10).2).2).1
 let y13:=((((rdA ([],0,0,0,0) x2.2.1 x10).2).2).2).1
 let y14:=((((rdA ([],0,0,0,0) x2.2.1 x10).2).2).2).2
 (ψ2k.f y11).bind fun t15=>
 (ψ2Q.f x3 t15).bind fun (t16_0,t16_1)=>
 (ψ2f.f t16_0 y12 y13).bind fun (t17_0,t17_1)=>
 (bif !t17_1 then
 some (Sum.inr false)
 else
 bif !(t17_0.2.2.1==y10) then
 some (Sum.inr false)
 else
 bif t17_0.2.1 != y14 then
 some (Sum.inr false)
 else
 bif t17_0.1 != 1 then
 bif t17_0.1 != 4 then
 some (Sum.inr false)
 else
 bif decide (y14≥x2.2.2.1) then
 some (Sum.inr false)
 else
 some (Sum.inl (x2,x3,x10))
 else
 bif decide (y14≥x2.2.2.1) then
 some (Sum.inr false)
 else
 some (Sum.inl (x2,x3,x10)):Option (((QS)×(QD)×Int) ⊕ (Bool))).bind (fun o18=>φU o18 (fun (x2,x3,x10)=>
 rec (x2,x3,w64 (x10+1))) (fun x4=>
 some (Sum.inr x4)))
 else none
 else
 some (Sum.inl ())
def ψ2o.f (p0:QS) (p1:QD):Option (Bool):=
 (ψ2N.f p1).bind fun t1=>
 bif !t1 then
 some false
 else
 (ψ2X.f p0.1).bind fun t2=>
 bif !t2 then
 some false
 else
 (ψ2M.f p0.2.1).bind fun t3=>
 bif !t3 then
 some false
 else
 (ψ37.f p0.2.2.1 1 1000001).bind fun t4=>
 bif !t4 then
 some false
 else
 (lp ψ2o.l0 (p0,p1,0)).bind (fun o9=>φU o9 (fun (x2,x3)=>
 (lp ψ2o.l2 (x2,x3,0)).bind (fun o19=>φU o19 (fun _=>
 some true) (fun x4=>
 some x4))) (fun x4=>
 some x4))
def ψ2E.l2 (rec:(List (Int×Int×QF)×((QN)×List (QA)×List (Int×List (QP))×List (QP))×Int×Int)→Option ((List (Int×Int×QF)×((QN)×List (QA)×List (Int×List (QP))×List (QP))×Int) ⊕ (Bool))):(List (Int×Int×QF)×((QN)×List (QA)×List (Int×List (QP))×List (QP))×Int×Int)→Option ((List (Int×Int×QF)×((QN)×List (QA)×List (Int×List (QP))×List (QP))×Int) ⊕ (Bool)):=fun (x3,x4,x5,x6)=>
 bif decide (x6≥0) then
 (bif inB x6 x3.length then
 bif ((rdA (0,0,[],[],0) x3 x6).1)==9 then
 some (Sum.inr (Sum.inl (x3,x4,x5)))
 else
 bif inB x6 x3.length then
 bif inB x5 x3.length then
 bif (((rdA (0,0,[],[],0) x3 x6).2).1) != (((rdA (0,0,[],[],0) x3 x5).2).1) then
 some (Sum.inl (x3,x4,x5,x6))
 else
 bif inB x6 x3.length then
 bif decide (((rdA (0,0,[],[],0) x3 x6).1) > 6) then
 some (Sum.inl (x3,x4,x5,x6))
 else
 (bif inB x6 x3.length then
 bif ((rdA (0,0,[],[],0) x3 x6).1) != 2 then
 bif inB x6 x3.length then
 bif ((rdA (0,0,[],[],0) x3 x6).1) != 3 then
 bif inB x6 x3.length then
 bif ((rdA (0,0,[],[],0) x3 x6).1) != 4 then
 some (Sum.inr (x3,x4,x5))
 else
 bif inB x6 x3.length then
 bif inB x5 x3.length then
 bif ((((rdA (0,0,[],[],0) x3 x6).2).2).1)==((((rdA (0,0,[],[],0) x3 x5).2).2).1) then
 some (Sum.inr (x3,x4,x5))
 else
 some (Sum.inl (x3,x4,x5,x6))
 else none
 else none
 else none
 else
 bif inB x6 x3.length then
 bif inB x5 x3.length then
 bif ((((rdA (0,0,[],[],0) x3 x6).2).2).1)==((((rdA (0,0,[],[],0) x3 x5).2).2).1) then
 some (Sum.inr (x3,x4,x5))
 else
 some (Sum.inl (x3,x4,x5,x6))
 else none
 else none
 else none
 else
 some (Sum.inl (x3,x4,x5,x6))
 else none:Option ((List (Int×Int×QF)×((QN)×List (QA)×List (Int×List (QP))×List (QP))×Int×Int) ⊕ (List (Int×Int×QF)×((QN)×List (QA)×List (Int×List (QP))×List (QP))×Int))).bind (fun o5=>φU o5 (fun (x3,x4,x5,x6)=>
 (bif inB x6 x3.length then
 bif ((rdA (0,0,[],[],0) x3 x6).1)==2 then
 bif inB x6 x3.length then
 bif inB x5 x3.length then
 bif ((((rdA (0,0,[],[],0) x3 x6).2).2).1)==((((rdA (0,0,[],[],0) x3 x5).2).2).1) then
 bif inB x5 x4.2.1.length then
 let y6:=(rdA (0,[],[]) x4.2.1 x5).1
 let y7:=((rdA (0,[],[]) x4.2.1 x5).2).1
 bif inB x6 x4.2.1.length then
 let y8:=(rdA (0,[],[]) x4.2.1 x6).1
 let y9:=((rdA (0,[],[]) x4.2.1 x6).2).1
 (bif y6 != 7 then
 bif y8 != 7 then
 bif y6 != y8 then
 some (Sum.inr false)
 else
 bif !(y7==y9) then
 some (Sum.inr false)
 else
 some (Sum.inl (x3,x4,x5))
 else
 some (Sum.inl (x3,x4,x5))
 else
 some (Sum.inl (x3,x4,x5)):Option ((List (Int×Int×QF)×((QN)×List (QA)×List (Int×List (QP))×List (QP))×Int) ⊕ (Bool))).bind (fun o10=>φU o10 (fun (x3,x4,x5)=>
 some (Sum.inr (Sum.inl (x3,x4,x5)))) (fun x2=>
 some (Sum.inr (Sum.inr x2))))
 else none
 else none
 else
 some (Sum.inl (x3,x4,x5,x6))
 else none
 else none
 else
 some (Sum.inl (x3,x4,x5,x6))
 else none:Option ((List (Int×Int×QF)×((QN)×List (QA)×List (Int×List (QP))×List (QP))×Int×Int) ⊕ ((List (Int×Int×QF)×((QN)×List (QA)×List (Int×List (QP))×List (QP))×Int) ⊕ (Bool)))).bind (fun o11=>φU o11 (fun (x3,x4,x5,x6)=>
 some (Sum.inl (x3,x4,x5,x6))) (fun o12=>φU o12 (fun (x3,x4,x5)=>
 some (Sum.inr (Sum.inl (x3,x4,x5)))) (fun x2=>
 some (Sum.inr (Sum.inr x2)))))) (fun (x3,x4,x5)=>
 some (Sum.inr (Sum.inl (x3,x4,x5)))))
 else none
 else none
 else none
 else none:Option ((List (Int×Int×QF)×((QN)×List (QA)×List (Int×List (QP))×List (QP))×Int×Int) ⊕ ((List (Int×Int×QF)×((QN)×List (QA)×List (Int×List (QP))×List (QP))×Int) ⊕ (Bool)))).bind (fun o13=>φU o13 (fun (x3,x4,x5,x6)=>
 rec (x3,x4,x5,w64 (x6 - 1))) (fun o14=>φU o14 (fun (x3,x4,x5)=>
 some (Sum.inl (x3,x4,x5))) (fun x2=>
 some (Sum.inr x2))))
 else
 some (Sum.inl (x3,x4,x5))
def ψ2E.l0 (rec:(List (Int×Int×QF)×((QN)×List (QA)×List (Int×List (QP))×List (QP))×Int)→Option ((Unit) ⊕ (Bool))):(List (Int×Int×QF)×((QN)×List (QA)×List (Int×List (QP))×List (QP))×Int)→Option ((Unit) ⊕ (Bool)):=fun (x3,x4,x5)=>
 bif decide (x5<(x3.length:Int)) then
 (bif inB x5 x3.length then
 bif ((rdA (0,0,[],[],0) x3 x5).1) != 2 then
 some (Sum.inl (x3,x4,x5))
 else
 (lp ψ2E.l2 (x3,x4,x5,w64 (x5 - 1))).bind (fun o15=>φU o15 (fun (x3,x4,x5)=>
 some (Sum.inl (x3,x4,x5))) (fun x2=>
 some (Sum.inr x2)))
 else none:Option ((List (Int×Int×QF)×((QN)×List (QA)×List (Int×List (QP))×List (QP))×Int) ⊕ (Bool))).bind (fun o16=>φU o16 (fun (x3,x4,x5)=>
 rec (x3,x4,w64 (x5+1))) (fun x2=>
 some (Sum.inr x2)))
 else
 some (Sum.inl ())
def ψ2E.f (p0:List Int):Option (Bool):=
 (ψ2F.f p0).bind fun t1=>
 bif t1 then
 some true
 else
 (ψ2O.f p0).bind fun t2=>
 (bif decide ((t2.length:Int) > 80) then
 bif (decide (0≤(80:Int)) && decide (80≤(t2.length:Int))) then
 some (t2.take 80)
 else none
 else
 some t2:Option (List (Int×Int×QF))).bind (fun x3=>
 (ψ2G.f x3).bind fun t3=>
 (ψf.f t3).bind fun t4=>
 bif (t4.2.1.length:Int) != (x3.length:Int) then
 some false
 else
 (lp ψ2E.l0 (x3,t4,0)).bind (fun o17=>φU o17 (fun _=>
 some true) (fun x2=>
 some x2)))
def ψ2L.l0 (rec:(List (QE)×QB×(QE)×Int)→Option ((QE) ⊕ ((QE)×Bool))):(List (QE)×QB×(QE)×Int)→Option ((QE) ⊕ ((QE)×Bool)):=fun (x0,x1,x4,x6)=>
 bif decide (x6<(x0.length:Int)) then
 bif inB x6 x0.length then
 bif ((rdA ([],0,0,0,0) x0 x6).1)==x1 then
 bif inB x6 x0.length then
 let y1:=(rdA ([],0,0,0,0) x0 x6).1
 let y2:=((rdA ([],0,0,0,0) x0 x6).2).1
 let y3:=(((rdA ([],0,0,0,0) x0 x6).2).2).1
 let y4:=((((rdA ([],0,0,0,0) x0 x6).2).2).2).1
 let y5:=((((rdA ([],0,0,0,0) x0 x6).2).2).2).2
 some (Sum.inr ((y1,y2,y3,y4,y5),true))
 else none
 else
 rec (x0,x1,x4,w64 (x6+1))
 else none
 else
 some (Sum.inl x4)
def ψ2L.f (p0:List (QE)) (p1:QB):Option ((QE)×Bool):=
 (lp ψ2L.l0 (p0,p1,([],0,0,0,0),0)).bind (fun o6=>φU o6 (fun x4=>
 some (([],0,0,0,0),false)) (fun (x4,x5)=>
 some (x4,x5)))
def ψ2T.f (p0:QS) (p1:QD) (p2:QB):Option ((QF)×Int):=
 (ψ2L.f p0.2.1 p2).bind fun (t1_0,t1_1)=>
 bif !t1_1 then
 some (([],[],0),8)
 else
 (ψ2k.f t1_0.2.1).bind fun t2=>
 (ψ2Q.f p1 t2).bind fun (t3_0,t3_1)=>
 (ψ2f.f t3_0 t1_0.2.2.1 t1_0.2.2.2.1).bind fun (t4_0,t4_1)=>
 bif !t3_1 then
 some (([],[],0),3)
 else
 bif !t4_1 then
 some (([],[],0),3)
 else
 bif !(t4_0.2.2.1==p2) then
 some (([],[],0),3)
 else
 bif t4_0.1 != 1 then
 bif t4_0.1 != 4 then
 some (([],[],0),3)
 else
 some ((p2,t4_0.2.2.2.1,t4_0.2.1),0)
 else
 some ((p2,t4_0.2.2.2.1,t4_0.2.1),0)
def ψ3E.f (p0:QD):Option (QD):=
 bif decide ((([]:List (QF)).length+p0.1.length) * 40≤140737488355328) then
 let l1:=([]:List (QF))++p0.1
 some (l1,p0.2)
 else none
def ψ3D.f (p0:QD):Option ((QD)×Int):=
 (ψ3E.f p0).bind fun t1=>
 (ψ2N.f p0).bind fun t2=>
 bif !t2 then
 some (t1,5)
 else
 bif p0.2.2.2 then
 some ((t1.1,t1.2.1,t1.2.2.1,true),1)
 else
 bif p0.2.2.1==0 then
 some ((t1.1,t1.2.1,t1.2.2.1,true),1)
 else
 bif decide (p0.2.2.1 > 0) then
 let y3:=w64 (p0.2.2.1 - 1)
 some ((t1.1,t1.2.1,y3,t1.2.2.2),0)
 else
 some (t1,0)
def ψ2q.f (p0:QD) (p1:QB):Option ((QD)×Int):=
 (ψ3D.f p0).bind fun (t1_0,t1_1)=>
 bif t1_1 != 0 then
 some (t1_0,t1_1)
 else
 (ψ3F.f p0 p1).bind fun t2=>
 bif decide (t2<0) then
 some (t1_0,3)
 else
 bif inB t2 p0.1.length then
 bif inB t2 t1_0.1.length then
 let l3:=t1_0.1.set t2.toNat ((rdA ([],[],0) t1_0.1 t2).1,((rdA ([],[],0) t1_0.1 t2).2).1,((((rdA ([],[],0) p0.1 t2).2).1).length:Int))
 some ((l3,t1_0.2),0)
 else none
 else none
def ψ3I.f (p0:List (QF)) (p1:Int):Option (List (QF)):=
 bif (decide (0≤p1) && decide (p1≤(p0.length:Int))) then
 bif decide ((([]:List (QF)).length+(p0.take p1.toNat).length) * 40≤140737488355328) then
 bif (decide (0≤w64 (p1+1)) && decide (w64 (p1+1)≤(p0.length:Int))) then
 bif decide (((([]:List (QF))++(p0.take p1.toNat)).length+(p0.drop ((w64 (p1+1)).toNat)).length) * 40≤140737488355328) then
 let l1:=(([]:List (QF))++(p0.take p1.toNat))++(p0.drop ((w64 (p1+1)).toNat))
 some l1
 else none
 else none
 else none
 else none
def ψ2h.f (p0:QD) (p1:QB):Option ((QD)×Int):=
 (ψ3D.f p0).bind fun (t1_0,t1_1)=>
 bif t1_1 != 0 then
 some (t1_0,t1_1)
 else
 (ψ3F.f p0 p1).bind fun t2=>
 bif decide (t2<0) then
 some (t1_0,3)
 else
 (ψ3I.f t1_0.1 t2).bind fun t3=>
 some ((t3,t1_0.2),0)
def ψ2H.f (p0:QD) (p1:QB) (p2:QB):Option ((QD)×Int):=
 (ψ3D.f p0).bind fun (t1_0,t1_1)=>
 bif t1_1 != 0 then
 some (t1_0,t1_1)
 else
 (ψ3F.f p0 p1).bind fun t2=>
 bif decide (t2<0) then
 some (t1_0,3)
 else
 (ψ3H.f p0).bind fun t3=>
 bif decide ((p2.length:Int) > (w64 (p0.2.1 - t3))) then
 some (t1_0,2)
 else
 bif inB t2 p0.1.length then
 bif decide ((((rdA ([],[],0) p0.1 t2).2).1).length+p2.length≤9223372036854775807) then
 bif inB t2 t1_0.1.length then
 let l4:=t1_0.1.set t2.toNat ((rdA ([],[],0) t1_0.1 t2).1,(((rdA ([],[],0) p0.1 t2).2).1)++p2,((rdA ([],[],0) t1_0.1 t2).2).2)
 some ((l4,t1_0.2),0)
 else none
 else none
 else none
def ψ3G.l0 (rec:(List (QF)×(QF)×List (QF)×Bool×Int)→Option ((QF)×List (QF)×Bool)):(List (QF)×(QF)×List (QF)×Bool×Int)→Option ((QF)×List (QF)×Bool):=fun (x0,x3,x5,x6,x7)=>
 bif decide (x7<(x0.length:Int)) then
 (bif !x6 then
 bif inB x7 x0.length then
 bif !(Op.bytesLess ((rdA ([],[],0) x0 x7).1) x3.1 || ((rdA ([],[],0) x0 x7).1)==x3.1) then
 bif decide ((x5.length+[x3].length) * 40≤140737488355328) then
 some (x0,x3,x5++[x3],true,x7)
 else none
 else
 some (x0,x3,x5,x6,x7)
 else none
 else
 some (x0,x3,x5,x6,x7):Option (List (QF)×(QF)×List (QF)×Bool×Int)).bind (fun (x0,x3,x5,x6,x7)=>
 bif inB x7 x0.length then
 bif decide ((x5.length+([((rdA ([],[],0) x0 x7).1,((rdA ([],[],0) x0 x7).2))]:List (QF)).length) * 40≤140737488355328) then
 let l1:=x5++([((rdA ([],[],0) x0 x7).1,((rdA ([],[],0) x0 x7).2))]:List (QF))
 rec (x0,x3,l1,x6,w64 (x7+1))
 else none
 else none)
 else
 some (x3,x5,x6)
def ψ3G.f (p0:List (QF)) (p1:QF):Option (List (QF)):=
 (lp ψ3G.l0 (p0,p1,([]:List (QF)),false,0)).bind (fun (x3,x5,x6)=>
 bif !x6 then
 bif decide ((x5.length+[x3].length) * 40≤140737488355328) then
 some (x5++[x3])
 else none
 else
 some x5)
def ψ2J.f (p0:QD) (p1:QB):Option ((QD)×Int):=
 (ψ3D.f p0).bind fun (t1_0,t1_1)=>
 bif t1_1 != 0 then
 some (t1_0,t1_1)
 else
 (ψ2Z.f p1).bind fun t2=>
 bif !t2 then
 some (t1_0,5)
 else
 (ψ3F.f p0 p1).bind fun t3=>
 bif decide (t3≥0) then
 some (t1_0,4)
 else
 bif decide ((p0.1.length:Int)≥130) then
 some (t1_0,2)
 else
 (ψ3G.f t1_0.1 (p1,[],0)).bind fun t4=>
 some ((t4,t1_0.2),0)
def ψ2i.f (p0:QD) (p1:QB) (p2:QB):Option ((QD)×Int):=
 (ψ3D.f p0).bind fun (t1_0,t1_1)=>
 bif t1_1 != 0 then
 some (t1_0,t1_1)
 else
 (ψ2Z.f p2).bind fun t2=>
 bif !t2 then
 some (t1_0,5)
 else
 (ψ3F.f p0 p1).bind fun t3=>
 bif decide (t3<0) then
 some (t1_0,3)
 else
 bif p1==p2 then
 some (t1_0,0)
 else
 bif inB t3 p0.1.length then
 let y4:=(rdA ([],[],0) p0.1 t3).1
 let y5:=((rdA ([],[],0) p0.1 t3).2).1
 let y6:=((rdA ([],[],0) p0.1 t3).2).2
 (ψ3I.f t1_0.1 t3).bind fun t7=>
 (ψ3F.f (t7,t1_0.2) p2).bind fun t8=>
 (bif decide (t8≥0) then
 (ψ3I.f t7 t8).bind fun t9=>
 some (([],0,0,false),(t9,t1_0.2),(p2,y5,y6))
 else
 some (([],0,0,false),(t7,t1_0.2),(p2,y5,y6)):Option ((QD)×(QD)×QF)).bind (fun (x6,x8,x11)=>
 (ψ3G.f x8.1 x11).bind fun t10=>
 some ((t10,x8.2),0))
 else none
def ψ30.f (p0:QF):Option (QR):=
 some (4,p0.2.2,p0.1,p0.2.1,0,0)
def ψ2p.l0 (rec:(List (QR)×QB×Int)→Option (QB)):(List (QR)×QB×Int)→Option (QB):=fun (x0,x3,x4)=>
 bif decide (x4<(x0.length:Int)) then
 bif inB x4 x0.length then
 (ψ2n.f ((rdA (0,0,[],[],0,0) x0 x4).1,((rdA (0,0,[],[],0,0) x0 x4).2).1,(((rdA (0,0,[],[],0,0) x0 x4).2).2).1,((((rdA (0,0,[],[],0,0) x0 x4).2).2).2).1,(((((rdA (0,0,[],[],0,0) x0 x4).2).2).2).2))).bind fun t1=>
 bif decide (x3.length+t1.length≤9223372036854775807) then
 rec (x0,x3++t1,w64 (x4+1))
 else none
 else none
 else
 some x3
def ψ2p.f (p0:List (QR)):Option (Int):=
 (lp ψ2p.l0 (p0,[],0)).bind (fun x3=>
 (ψ2I.f x3).bind fun t2=>
 some t2)
def ψ3L.f (p0:List (QR)) (p1:Int) (p2:Int):Option (QR):=
 (ψ2p.f p0).bind fun t1=>
 let y2:=(p0.length:Int)
 some (p2,p1,[],[],y2,t1)
def ψ2w.f (p0:QD) (p1:QB):Option ((QD)×Int):=
 ((ψ3F.f p0 p1).bind fun t1=>
 bif decide (t1≥0) then
 (ψ2h.f p0 p1).bind fun (t2_0,t2_1)=>
 bif t2_1 != 0 then
 some (Sum.inr (t2_0,t2_1))
 else
 some (Sum.inl (p1,t2_0,([],0,0,false)))
 else
 some (Sum.inl (p1,p0,([],0,0,false))):Option ((QB×(QD)×QD) ⊕ ((QD)×Int))).bind (fun o3=>φU o3 (fun (x1,x2,x4)=>
 (ψ2J.f x2 x1).bind fun (t4_0,t4_1)=>
 some (t4_0,t4_1)) (fun (x4,x5)=>
 some (x4,x5)))
def ψ2v.f (p0:QD) (p1:QB) (p2:QB):Option ((QD)×Int):=
 (ψ2w.f p0 p1).bind fun (t1_0,t1_1)=>
 (bif t1_1==0 then
 (ψ2H.f t1_0 p1 p2).bind fun (t2_0,t2_1)=>
 some (p1,([],0,0,false),t2_0,t2_1)
 else
 some (p1,([],0,0,false),t1_0,t1_1):Option (QB×(QD)×(QD)×Int)).bind (fun (x1,x6,x8,x9)=>
 bif x9==0 then
 (ψ2q.f x8 x1).bind fun (t3_0,t3_1)=>
 some (t3_0,t3_1)
 else
 some (x8,x9))
def ψ2m.l0 (rec:((Int×List Int)×QB×Int)→Option (QB)):((Int×List Int)×QB×Int)→Option (QB):=fun (x1,x3,x4)=>
 bif decide (x4<(x1.2.length:Int)) then
 bif inB x4 x1.2.length then
 (ψ2s.f (rdA 0 x1.2 x4)).bind fun t4=>
 bif decide (x3.length+t4.length≤9223372036854775807) then
 rec (x1,x3++t4,w64 (x4+1))
 else none
 else none
 else
 some x3
def ψ2m.f (p0:Int×List Int):Option (QB):=
 (ψ2X.f p0).bind fun t1=>
 bif !t1 then
 some []
 else
 (ψ2s.f p0.1).bind fun t2=>
 (ψ2s.f (p0.2.length:Int)).bind fun t3=>
 bif decide (t2.length+t3.length≤9223372036854775807) then
 (lp ψ2m.l0 (p0,t2++t3,0)).bind (fun x3=>
 (ψ2S.f x3).bind fun t5=>
 some t5)
 else none
def ψ2u.f (p0:Int):Option (Int):=
 bif p0==0 then
 some 0
 else
 bif p0==1 then
 some 1
 else
 bif p0==2 then
 some 2
 else
 some 3
def ψ2a.f (p0:QD) (p1:Int×List Int):Option ((QD)×Int):=
 (ψ2N.f p0).bind fun t1=>
 bif !t1 then
 (ψ3E.f p0).bind fun t2=>
 some (t2,4)
 else
 (ψ2X.f p1).bind fun t3=>
 bif !t3 then
 (ψ3E.f p0).bind fun t4=>
 some (t4,4)
 else
 (ψ2m.f p1).bind fun t5=>
 (ψ2v.f p0 [116,101,109,112] t5).bind fun (t6_0,t6_1)=>
 (bif t6_1==0 then
 (ψ2i.f t6_0 [116,101,109,112] [108,105,118,101]).bind fun (t7_0,t7_1)=>
 some (([],0,0,false),t7_0,t7_1)
 else
 some (([],0,0,false),t6_0,t6_1):Option ((QD)×(QD)×Int)).bind (fun (x4,x6,x7)=>
 (ψ2u.f x7).bind fun t8=>
 some (x6,t8))
def ψ2U.f (p0:Int):Option (QB):=
 (ψ37.f p0 1 100000).bind fun t1=>
 bif !t1 then
 some []
 else
 (ψ2K.f p0).bind fun t2=>
 bif decide (([104,105,110,116]:QB).length+t2.length≤9223372036854775807) then
 let y3:=[104,105,110,116]++t2
 some y3
 else none
def ψ2V.l0 (rec:(Int×(Int×Int×List (QE))×List (Int×Int×QR)×(Int×Int×List (QE))×List (QR)×Int)→Option (((Int×Int×List (QE))×List (Int×Int×QR)×(Int×Int×List (QE))×List (QR)) ⊕ ((Int×Int×List (QE))×Bool))):(Int×(Int×Int×List (QE))×List (Int×Int×QR)×(Int×Int×List (QE))×List (QR)×Int)→Option (((Int×Int×List (QE))×List (Int×Int×QR)×(Int×Int×List (QE))×List (QR)) ⊕ ((Int×Int×List (QE))×Bool)):=fun (x0,x4,x6,x8,x9,x10)=>
 bif decide ((w64 (x10+1))<(x6.length:Int)) then
 bif inB x10 x6.length then
 let y5:=(((rdA (0,0,0,0,[],[],0,0) x6 x10).2).2).1
 let y6:=((((rdA (0,0,0,0,[],[],0,0) x6 x10).2).2).2).1
 let y7:=(((((rdA (0,0,0,0,[],[],0,0) x6 x10).2).2).2).2).1
 let y8:=((((((rdA (0,0,0,0,[],[],0,0) x6 x10).2).2).2).2).2).1
 let y9:=(((((((rdA (0,0,0,0,[],[],0,0) x6 x10).2).2).2).2).2).2).1
 let y10:=(((((((rdA (0,0,0,0,[],[],0,0) x6 x10).2).2).2).2).2).2).2
 (bif y5 != 4 then
 some (Sum.inr ((0,0,[]),false))
 else
 bif decide (y6 > x8.2.1) then
 some (Sum.inr ((0,0,[]),false))
 else
 bif decide (x10 > 0) then
 bif inB (w64 (x10 - 1)) x6.length then
 bif (Op.bytesLess y7 ((((((rdA (0,0,0,0,[],[],0,0) x6 (w64 (x10 - 1))).2).2).2).2).1) || y7==((((((rdA (0,0,0,0,[],[],0,0) x6 (w64 (x10 - 1))).2).2).2).2).1)) then
 some (Sum.inr ((0,0,[]),false))
 else
 some (Sum.inl (x0,x4,x6,x8,x9,x10,(y5,y6,y7,y8,y9,y10)))
 else none
 else
 some (Sum.inl (x0,x4,x6,x8,x9,x10,(y5,y6,y7,y8,y9,y10))):Option ((Int×(Int×Int×List (QE))×List (Int×Int×QR)×(Int×Int×List (QE))×List (QR)×Int×QR) ⊕ ((Int×Int×List (QE))×Bool))).bind (fun o11=>φU o11 (fun (x0,x4,x6,x8,x9,x10,x11)=>
 bif decide ((x9.length+[x11].length) * 64≤140737488355328) then
 bif inB x10 x6.length then
 bif inB x10 x6.length then
 bif decide ((x8.2.2.length+([(x11.2.2.1,x0,(rdA (0,0,0,0,[],[],0,0) x6 x10).1,((rdA (0,0,0,0,[],[],0,0) x6 x10).2).1,x11.2.1)]:List (QE)).length) * 48≤140737488355328) then
 let l12:=x8.2.2++([(x11.2.2.1,x0,(rdA (0,0,0,0,[],[],0,0) x6 x10).1,((rdA (0,0,0,0,[],[],0,0) x6 x10).2).1,x11.2.1)]:List (QE))
 rec (x0,x4,x6,(x8.1,x8.2.1,l12),x9++[x11],w64 (x10+1))
 else none
 else none
 else none
 else none) (fun (x4,x5)=>
 some (Sum.inr (x4,x5))))
 else none
 else
 some (Sum.inl (x4,x6,x8,x9))
def ψ2V.f (p0:Int) (p1:QB):Option ((Int×Int×List (QE))×Bool):=
 (ψ2j.f p1).bind fun (t1_0,t1_1)=>
 bif t1_1 != (p1.length:Int) then
 some ((0,0,[]),false)
 else
 bif (t1_0.length:Int)==0 then
 some ((0,0,[]),false)
 else
 bif inB (w64 ((t1_0.length:Int) - 1)) t1_0.length then
 bif ((((rdA (0,0,0,0,[],[],0,0) t1_0 (w64 ((t1_0.length:Int) - 1))).2).2).1) != 5 then
 some ((0,0,[]),false)
 else
 (ψ2k.f p0).bind fun t2=>
 bif t2==[] then
 some ((0,0,[]),false)
 else
 bif inB (w64 ((t1_0.length:Int) - 1)) t1_0.length then
 let y3:=(p1.length:Int)
 let y4:=((((rdA (0,0,0,0,[],[],0,0) t1_0 (w64 ((t1_0.length:Int) - 1))).2).2).2).1
 (lp ψ2V.l0 (p0,(0,0,[]),t1_0,(y3,y4,[]),([]:List (QR)),0)).bind (fun o13=>φU o13 (fun (x4,x6,x8,x9)=>
 bif inB (w64 ((x6.length:Int) - 1)) x6.length then
 let y14:=(((rdA (0,0,0,0,[],[],0,0) x6 (w64 ((x6.length:Int) - 1))).2).2).1
 let y15:=((((rdA (0,0,0,0,[],[],0,0) x6 (w64 ((x6.length:Int) - 1))).2).2).2).1
 let y16:=(((((rdA (0,0,0,0,[],[],0,0) x6 (w64 ((x6.length:Int) - 1))).2).2).2).2).1
 let y17:=((((((rdA (0,0,0,0,[],[],0,0) x6 (w64 ((x6.length:Int) - 1))).2).2).2).2).2).1
 let y18:=(((((((rdA (0,0,0,0,[],[],0,0) x6 (w64 ((x6.length:Int) - 1))).2).2).2).2).2).2).1
 let y19:=(((((((rdA (0,0,0,0,[],[],0,0) x6 (w64 ((x6.length:Int) - 1))).2).2).2).2).2).2).2
 bif y18 != (x9.length:Int) then
 some ((0,0,[]),false)
 else
 (ψ2p.f x9).bind fun t20=>
 bif y19 != t20 then
 some ((0,0,[]),false)
 else
 some (x8,true)
 else none) (fun (x4,x5)=>
 some (x4,x5)))
 else none
 else none
def ψ2t.l0 (rec:((Int×Int×List (QE))×Int)→Option ((Unit) ⊕ (Bool))):((Int×Int×List (QE))×Int)→Option ((Unit) ⊕ (Bool)):=fun (x1,x3)=>
 bif decide (x3<(x1.2.2.length:Int)) then
 bif inB x3 x1.2.2.length then
 bif inB 0 x1.2.2.length then
 bif (((rdA ([],0,0,0,0) x1.2.2 x3).2).1) != (((rdA ([],0,0,0,0) x1.2.2 0).2).1) then
 some (Sum.inr false)
 else
 bif inB x3 x1.2.2.length then
 bif decide (((((rdA ([],0,0,0,0) x1.2.2 x3).2).2).1) > 100000) then
 some (Sum.inr false)
 else
 rec (x1,w64 (x3+1))
 else none
 else none
 else none
 else
 some (Sum.inl ())
def ψ2t.f (p0:Int×Int×List (QE)):Option (Bool):=
 (ψ37.f p0.1 0 100000).bind fun t1=>
 bif !t1 then
 some false
 else
 (ψ37.f p0.2.1 0 1000000).bind fun t2=>
 bif !t2 then
 some false
 else
 (ψ2M.f p0.2.2).bind fun t3=>
 bif !t3 then
 some false
 else
 (lp ψ2t.l0 (p0,0)).bind (fun o4=>φU o4 (fun _=>
 some true) (fun x2=>
 some x2))
def ψ2l.l0 (rec:((Int×Int×List (QE))×QB×Int)→Option (QB)):((Int×Int×List (QE))×QB×Int)→Option (QB):=fun (x1,x3,x4)=>
 bif decide (x4<(x1.2.2.length:Int)) then
 bif inB x4 x1.2.2.length then
 let y6:=(rdA ([],0,0,0,0) x1.2.2 x4).1
 let y7:=((rdA ([],0,0,0,0) x1.2.2 x4).2).1
 let y8:=(((rdA ([],0,0,0,0) x1.2.2 x4).2).2).1
 let y9:=((((rdA ([],0,0,0,0) x1.2.2 x4).2).2).2).1
 let y10:=((((rdA ([],0,0,0,0) x1.2.2 x4).2).2).2).2
 (ψ2s.f (y6.length:Int)).bind fun t11=>
 bif decide (x3.length+t11.length≤9223372036854775807) then
 bif decide ((x3++t11).length+y6.length≤9223372036854775807) then
 (ψ2s.f y7).bind fun t12=>
 bif decide (((x3++t11)++y6).length+t12.length≤9223372036854775807) then
 (ψ2s.f y8).bind fun t13=>
 bif decide ((((x3++t11)++y6)++t12).length+t13.length≤9223372036854775807) then
 (ψ2s.f y9).bind fun t14=>
 bif decide (((((x3++t11)++y6)++t12)++t13).length+t14.length≤9223372036854775807) then
 (ψ2s.f y10).bind fun t15=>
 bif decide ((((((x3++t11)++y6)++t12)++t13)++t14).length+t15.length≤9223372036854775807) then
 let y16:=(((((x3++t11)++y6)++t12)++t13)++t14)++t15
 rec (x1,y16,w64 (x4+1))
 else none
 else none
 else none
 else none
 else none
 else none
 else none
 else
 some x3
def ψ2l.f (p0:Int×Int×List (QE)):Option (QB):=
 (ψ2t.f p0).bind fun t1=>
 bif !t1 then
 some []
 else
 (ψ2s.f p0.1).bind fun t2=>
 (ψ2s.f p0.2.1).bind fun t3=>
 bif decide (t2.length+t3.length≤9223372036854775807) then
 (ψ2s.f (p0.2.2.length:Int)).bind fun t4=>
 bif decide ((t2++t3).length+t4.length≤9223372036854775807) then
 let y5:=(t2++t3)++t4
 (lp ψ2l.l0 (p0,y5,0)).bind (fun x3=>
 (ψ2I.f x3).bind fun t17=>
 (ψ2R.f t17 4).bind fun t18=>
 bif decide (t18.length+x3.length≤9223372036854775807) then
 some (t18++x3)
 else none)
 else none
 else none
def ψ2c.l0 (rec:(QB×(Int×List Int)×QB×Int×(Int×List Int)×Int×Int)→Option (QB×(Int×List Int)×Int×List Int)):(QB×(Int×List Int)×QB×Int×(Int×List Int)×Int×Int)→Option (QB×(Int×List Int)×Int×List Int):=fun (x0,x2,x4,x8,x10,x11,x12)=>
 bif decide (x12<x8) then
 bif decide (x12<60) then
 bif (decide (0≤x11) && decide (x11≤(x4.length:Int))) then
 (ψ2e.f (x4.drop x11.toNat)).bind fun (t5_0,t5_1)=>
 bif decide ((x10.2.length+[t5_0].length) * 8≤140737488355328) then
 let l6:=x10.2++[t5_0]
 let y7:=w64 (x11+t5_1)
 rec (x0,x2,x4,x8,(x10.1,l6),y7,w64 (x12+1))
 else none
 else none
 else
 some (x0,x2,x10)
 else
 some (x0,x2,x10)
def ψ2c.f (p0:QB):Option ((Int×List Int)×Bool):=
 (ψ2r.f p0).bind fun (t1_0,t1_1)=>
 (ψ2e.f t1_0).bind fun (t2_0,t2_1)=>
 bif t1_1 != (p0.length:Int) then
 some ((0,[]),false)
 else
 bif t1_1==0 then
 some ((0,[]),false)
 else
 bif t2_1==0 then
 some ((0,[]),false)
 else
 bif (decide (0≤t2_1) && decide (t2_1≤(t1_0.length:Int))) then
 (ψ2e.f (t1_0.drop t2_1.toNat)).bind fun (t3_0,t3_1)=>
 let y4:=w64 (t2_1+t3_1)
 (lp ψ2c.l0 (p0,(0,[]),t1_0,t3_0,(t2_0,[]),y4,0)).bind (fun (x0,x2,x10)=>
 (ψ2m.f x10).bind fun t8=>
 bif !(t8==x0) then
 some ((0,[]),false)
 else
 some (x10,true))
 else none
def ψ2P.l0 (rec:((QS)×(QD)×List (QF)×Int)→Option ((List (QF)) ⊕ (List (QF)×Int))):((QS)×(QD)×List (QF)×Int)→Option ((List (QF)) ⊕ (List (QF)×Int)):=fun (x2,x3,x6,x7)=>
 bif decide (x7<(x2.2.1.length:Int)) then
 bif inB x7 x2.2.1.length then
 (ψ2T.f x2 x3 ((rdA ([],0,0,0,0) x2.2.1 x7).1)).bind fun (t1_0,t1_1)=>
 bif t1_1 != 0 then
 some (Sum.inr (([]:List (QF)),t1_1))
 else
 bif decide ((x6.length+[t1_0].length) * 40≤140737488355328) then
 rec (x2,x3,x6++[t1_0],w64 (x7+1))
 else none
 else none
 else
 some (Sum.inl x6)
def ψ2P.f (p0:QS) (p1:QD):Option (List (QF)×Int):=
 (lp ψ2P.l0 (p0,p1,([]:List (QF)),0)).bind (fun o2=>φU o2 (fun x6=>
 some (x6,0)) (fun (x4,x5)=>
 some (x4,x5)))
def ψ2x.f (p0:QS):Option (QS):=
 bif decide ((([]:List Int).length+p0.1.2.length) * 8≤140737488355328) then
 let l1:=([]:List Int)++p0.1.2
 bif decide ((([]:List (QE)).length+p0.2.1.length) * 48≤140737488355328) then
 let l2:=([]:List (QE))++p0.2.1
 some ((p0.1.1,l1),l2,p0.2.2)
 else none
 else none
def ψ2y.l0 (rec:(List (QB)×(QD)×(QD)×Int)→Option (((QD)×QD) ⊕ ((QD)×Int))):(List (QB)×(QD)×(QD)×Int)→Option (((QD)×QD) ⊕ ((QD)×Int)):=fun (x1,x2,x4,x6)=>
 bif decide (x6<(x1.length:Int)) then
 (bif inB x6 x1.length then
 (ψ3F.f x2 (rdA [] x1 x6)).bind fun t1=>
 bif decide (t1<0) then
 some (Sum.inl (x1,x2,x4,x6))
 else
 bif inB x6 x1.length then
 (ψ2h.f x2 (rdA [] x1 x6)).bind fun (t2_0,t2_1)=>
 bif t2_1 != 0 then
 some (Sum.inr (t2_0,t2_1))
 else
 some (Sum.inl (x1,t2_0,x4,x6))
 else none
 else none:Option ((List (QB)×(QD)×(QD)×Int) ⊕ ((QD)×Int))).bind (fun o3=>φU o3 (fun (x1,x2,x4,x6)=>
 rec (x1,x2,x4,w64 (x6+1))) (fun (x4,x5)=>
 some (Sum.inr (x4,x5))))
 else
 some (Sum.inl (x2,x4))
def ψ2y.f (p0:QD) (p1:List (QB)):Option ((QD)×Int):=
 (lp ψ2y.l0 (p1,p0,([],0,0,false),0)).bind (fun o4=>φU o4 (fun (x2,x4)=>
 some (x2,0)) (fun (x4,x5)=>
 some (x4,x5)))
def ψ32.l0 (rec:(Int×List (QF)×Int×(QD)×List (QE)×(QD)×Int×List (QR)×Int×Int)→Option (Int×Int×(QD)×List (QE)×(QD)×Int×List (QR))):(Int×List (QF)×Int×(QD)×List (QE)×(QD)×Int×List (QR)×Int×Int)→Option (Int×Int×(QD)×List (QE)×(QD)×Int×List (QR)):=fun (x1,x2,x3,x8,x11,x12,x13,x14,x15,x16)=>
 bif decide (x16<(x2.length:Int)) then
 bif x13==0 then
 bif inB x16 x2.length then
 (ψ30.f ((rdA ([],[],0) x2 x16).1,((rdA ([],[],0) x2 x16).2))).bind fun t3=>
 (ψ2n.f t3).bind fun t4=>
 (ψ2S.f t4).bind fun t5=>
 (ψ2k.f x1).bind fun t6=>
 (ψ2H.f x12 t6 t5).bind fun (t7_0,t7_1)=>
 bif decide ((x14.length+[t3].length) * 64≤140737488355328) then
 bif decide ((x11.length+[(t3.2.2.1,x1,x15,(t5.length:Int),t3.2.1)].length) * 48≤140737488355328) then
 let l8:=x11++[(t3.2.2.1,x1,x15,(t5.length:Int),t3.2.1)]
 let y9:=w64 (x15+(t5.length:Int))
 rec (x1,x2,x3,x8,l8,t7_0,t7_1,x14++[t3],y9,w64 (x16+1))
 else none
 else none
 else none
 else
 some (x1,x3,x8,x11,x12,x13,x14)
 else
 some (x1,x3,x8,x11,x12,x13,x14)
def ψ32.f (p0:QD) (p1:Int) (p2:List (QF)) (p3:Int):Option ((QD)×List (QE)×Int):=
 (ψ2k.f p1).bind fun t1=>
 (ψ2w.f p0 t1).bind fun (t2_0,t2_1)=>
 (lp ψ32.l0 (p1,p2,p3,([],0,0,false),([]:List (QE)),t2_0,t2_1,([]:List (QR)),0,0)).bind (fun (x1,x3,x8,x11,x12,x13,x14)=>
 (bif x13==0 then
 (ψ2k.f x1).bind fun t10=>
 (ψ3L.f x14 x3 5).bind fun t11=>
 (ψ2n.f t11).bind fun t12=>
 (ψ2S.f t12).bind fun t13=>
 (ψ2H.f x12 t10 t13).bind fun (t14_0,t14_1)=>
 some (x1,x8,x11,t14_0,t14_1)
 else
 some (x1,x8,x11,x12,x13):Option (Int×(QD)×List (QE)×(QD)×Int)).bind (fun (x1,x8,x11,x12,x13)=>
 (bif x13==0 then
 (ψ2k.f x1).bind fun t15=>
 (ψ2q.f x12 t15).bind fun (t16_0,t16_1)=>
 some (x8,x11,t16_0,t16_1)
 else
 some (x8,x11,x12,x13):Option ((QD)×List (QE)×(QD)×Int)).bind (fun (x8,x11,x12,x13)=>
 (ψ2u.f x13).bind fun t17=>
 some (x12,x11,t17))))
def ψ2z.f (p0:QS) (p1:QD) (p2:Int) (p3:Int):Option ((QS)×(QD)×Int):=
 bif p3 != 2 then
 some (p0,p1,p3)
 else
 (ψ2k.f p2).bind fun t1=>
 (ψ2k.f (w64 (p2+1))).bind fun t2=>
 (ψ2U.f p2).bind fun t3=>
 (ψ2y.f p1 [[116,101,109,112],t1,t2,t3]).bind fun (t4_0,t4_1)=>
 bif t4_1 != 0 then
 (ψ2u.f t4_1).bind fun t5=>
 some (p0,t4_0,t5)
 else
 some (p0,t4_0,p3)
def ψ31.l0 (rec:((QS)×(QS)×(QD)×(QD)×List Int×Int)→Option (((QS)×(QS)×(QD)×QD) ⊕ ((QS)×(QD)×Int))):((QS)×(QS)×(QD)×(QD)×List Int×Int)→Option (((QS)×(QS)×(QD)×QD) ⊕ ((QS)×(QD)×Int)):=fun (x3,x6,x7,x10,x18,x20)=>
 bif decide (x20<(x18.length:Int)) then
 bif inB x20 x18.length then
 (ψ2k.f (rdA 0 x18 x20)).bind fun t20=>
 bif inB x20 x18.length then
 (ψ2U.f (rdA 0 x18 x20)).bind fun t21=>
 (ψ2y.f x10 [t20,t21]).bind fun (t22_0,t22_1)=>
 bif t22_1 != 0 then
 (ψ2u.f t22_1).bind fun t23=>
 some (Sum.inr (x3,t22_0,t23))
 else
 rec (x3,x6,x7,t22_0,x18,w64 (x20+1))
 else none
 else none
 else
 some (Sum.inl (x3,x6,x7,x10))
def ψ31.f (p0:QS) (p1:QD) (p2:List (QF)):Option ((QS)×(QD)×Int):=
 let y1:=w64 (p0.1.1+2)
 (ψ32.f p1 p0.1.1 p2 (w64 (p0.2.2.1 - 1))).bind fun (t2_0,t2_1,t2_2)=>
 bif t2_2 != 0 then
 (ψ2z.f ((y1,p0.1.2),p0.2) t2_0 p0.1.1 t2_2).bind fun (t3_0,t3_1,t3_2)=>
 some (t3_0,t3_1,t3_2)
 else
 (ψ2k.f (w64 (p0.1.1+1))).bind fun t4=>
 (ψ2w.f t2_0 t4).bind fun (t5_0,t5_1)=>
 bif t5_1 != 0 then
 (ψ2u.f t5_1).bind fun t6=>
 (ψ2z.f ((y1,p0.1.2),p0.2) t5_0 p0.1.1 t6).bind fun (t7_0,t7_1,t7_2)=>
 some (t7_0,t7_1,t7_2)
 else
 (ψ2k.f p0.1.1).bind fun t8=>
 (ψ2Q.f t5_0 t8).bind fun (t9_0,t9_1)=>
 (ψ2V.f p0.1.1 t9_0).bind fun (t10_0,t10_1)=>
 (ψ2U.f p0.1.1).bind fun t11=>
 (ψ2l.f t10_0).bind fun t12=>
 (ψ2v.f t5_0 t11 t12).bind fun (t13_0,t13_1)=>
 (bif t13_1==2 then
 (ψ2U.f p0.1.1).bind fun t14=>
 (ψ2y.f t13_0 [t14]).bind fun (t15_0,t15_1)=>
 some (((y1,p0.1.2),p0.2),((0,[]),[],0,0,0),([],0,0,false),p0.1.1,t15_0,t2_1,t15_1)
 else
 some (((y1,p0.1.2),p0.2),((0,[]),[],0,0,0),([],0,0,false),p0.1.1,t13_0,t2_1,t13_1):Option ((QS)×(QS)×(QD)×Int×(QD)×List (QE)×Int)).bind (fun (x3,x6,x7,x9,x10,x11,x13)=>
 bif x13 != 0 then
 (ψ2u.f x13).bind fun t16=>
 some (x3,x10,t16)
 else
 bif decide ((([]:List Int).length+x3.1.2.length) * 8≤140737488355328) then
 let l17:=([]:List Int)++x3.1.2
 (ψ2a.f x10 (w64 (x9+2),[x9,w64 (x9+1)])).bind fun (t18_0,t18_1)=>
 bif t18_1 != 0 then
 (ψ2z.f x3 t18_0 x9 t18_1).bind fun (t19_0,t19_1,t19_2)=>
 some (t19_0,t19_1,t19_2)
 else
 (lp ψ31.l0 (((w64 (x9+2),[x9,w64 (x9+1)]),x11,x3.2.2.1,0,0),x6,x7,t18_0,l17,0)).bind (fun o24=>φU o24 (fun (x3,x6,x7,x10)=>
 some (x3,x10,0)) (fun (x6,x7,x8)=>
 some (x6,x7,x8)))
 else none)
def ψ2Y.f (p0:QS) (p1:QD):Option ((QS)×(QD)×Int):=
 (ψ2x.f p0).bind fun t1=>
 (ψ3E.f p1).bind fun t2=>
 (ψ2o.f p0 p1).bind fun t3=>
 bif !t3 then
 some (t1,t2,4)
 else
 bif decide ((w64 (p0.1.1+2)) > 100000) then
 some (t1,t2,5)
 else
 (ψ2P.f p0 p1).bind fun (t4_0,t4_1)=>
 bif t4_1 != 0 then
 some (t1,t2,t4_1)
 else
 (ψ31.f t1 t2 t4_0).bind fun (t5_0,t5_1,t5_2)=>
 some (t5_0,t5_1,t5_2)
end
end Go.Rf.G
