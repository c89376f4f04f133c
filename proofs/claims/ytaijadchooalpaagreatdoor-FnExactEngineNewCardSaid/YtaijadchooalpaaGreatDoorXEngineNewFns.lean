import Derived.Test.YtaijadchooalpaaGreatDoorRf5
open Option renaming bind_some→bS
open List renaming length_append→lA,append_assoc→aA,mem_cons_of_mem→mC,mem_append→mA,mem_append_right→mR,mem_append_left→mL,mem_cons→mc,drop_eq_getElem_cons→dG,length_take→lT,length_drop→lD,mem_map→mM,length_map→lM,length_cons→lC,length_nil→lN,getElem_mem→gM,map_append→mp,mem_singleton→mZ,take_succ_eq_append_getElem→κ2,length_singleton→κ3,append_nil→κ4,mem_cons_self→κ6,take_append_drop→κ9,map_cons→κC,nodup_append→κD,drop_zero→κE,nil_append→κG,flatMap_append→κH,nodup_cons→κJ,foldl_cons→κK,cons_append→κM,take_length→κN,range'→κO,drop_left→κP,replicate→κU,flatten_cons→κY
open Bool renaming and_eq_true→bA,eq_false_or_eq_true→bE,not_true→nZ,not_false→nF,true_and→tA,not_not→nn,false_eq_true→κ1,true_eq_false→κ8,or_eq_false_iff→κF,false_and→κL,and_true→κV,not_eq_true'→κX
open Int renaming toNat_natCast→tN,ofNat_lt→oL
open Nat renaming lt_or_ge→κ0,zero_le→κ5,le_refl→κ7,lt_of_lt_of_le→κA,eq_of_beq_eq_true→κB,le_of_ble_eq_true→κI,zero_add→κQ,pow_succ→κS,pow_le_pow_right→κT,mod_eq_of_lt→κW
open Array renaming length_toList→κR
set_option linter.unusedVariables false
set_option linter.unusedSimpArgs false
namespace Go.Rf.G
noncomputable section
open Go Go.Rf
abbrev QS:=(Int×List Int)×List (List UInt8×Int×Int×Int×Int)×Int×Int×Int
abbrev QD:=List (List UInt8×List UInt8×Int)×Int×Int×Bool
abbrev QR:=Int×Int×List UInt8×List UInt8×Int×Int
abbrev QE:=List UInt8×Int×Int×Int×Int
abbrev QP:=List UInt8×Bool×List UInt8
abbrev QF:=List UInt8×List UInt8×Int
abbrev QB:=List UInt8
abbrev QT:=Bool×List (QB×Int)×List (QP)
abbrev QL:=List (Int×Int×Int×QR)
abbrev QN:=Bool×(QS)×(QD)×List (QT)
abbrev QC:=List Int×Int×Int
abbrev QA:=Int×QB×List (QB)
def ψ2w.f (p0:Int) (p1:Int) (p2:Int):Option (Bool):=
 bif decide (p0≥p1) then
 let y1:=decide (p0≤p2)
 some y1
 else
 some false
def ψv.f (p0:Int) (p1:Int) (p2:Int):Option (Bool):=
 bif decide (p0≥p1) then
 let y1:=decide (p0≤p2)
 some y1
 else
 some false
def ψN.l0 (rec:(QB×Int)→Option ((QB) ⊕ (Bool))):(QB×Int)→Option ((QB) ⊕ (Bool)):=fun (x0,x3)=>
 bif decide (x3<(x0.length:Int)) then
 (bif inB x3 x0.length then
 bif decide ((bAt x0 x3)≥97) then
 bif inB x3 x0.length then
 bif !(decide ((bAt x0 x3)≤122)) then
 bif inB x3 x0.length then
 bif decide ((bAt x0 x3)≥48) then
 bif inB x3 x0.length then
 bif !(decide ((bAt x0 x3)≤57)) then
 some (Sum.inr false)
 else
 some (Sum.inl (x0,x3))
 else none
 else
 some (Sum.inr false)
 else none
 else
 some (Sum.inl (x0,x3))
 else none
 else
 bif inB x3 x0.length then
 bif decide ((bAt x0 x3)≥48) then
 bif inB x3 x0.length then
 bif !(decide ((bAt x0 x3)≤57)) then
 some (Sum.inr false)
 else
 some (Sum.inl (x0,x3))
 else none
 else
 some (Sum.inr false)
 else none
 else none:Option ((QB×Int) ⊕ (Bool))).bind (fun o1=>φF o1 (fun (x0,x3)=>
 rec (x0,w64 (x3+1))) (fun x2=>
 some (Sum.inr x2)))
 else
 some (Sum.inl x0)
def ψN.f (p0:QB):Option (Bool):=
 (lp ψN.l0 (p0,0)).bind (fun o2=>φF o2 (fun x0=>
 (ψv.f (x0.length:Int) 1 12).bind fun t3=>
 some t3) (fun x2=>
 some x2))
def ψ9.l0 (rec:((QD)×Int×List (QF)×Int×Int)→Option (((QD)×Int) ⊕ (Bool))):((QD)×Int×List (QF)×Int×Int)→Option (((QD)×Int) ⊕ (Bool)):=fun (x1,x3,x23,x24,x25)=>
 bif decide (x25<x24) then
 bif inB x25 x23.length then
 let y3:=(rdA ([],[],0) x23 x25).1
 let y4:=((rdA ([],[],0) x23 x25).2).1
 let y5:=((rdA ([],[],0) x23 x25).2).2
 ((ψN.f y3).bind fun t6=>
 bif !t6 then
 some (Sum.inr false)
 else
 (ψv.f y5 0 (y4.length:Int)).bind fun t7=>
 bif !t7 then
 some (Sum.inr false)
 else
 bif decide (x25 > 0) then
 bif inB (w64 (x25 - 1)) x1.1.length then
 bif !(Op.bytesLess ((rdA ([],[],0) x1.1 (w64 (x25 - 1))).1) y3) then
 some (Sum.inr false)
 else
 some (Sum.inl (x1,x3,(y3,y4,y5),x23,x24,x25))
 else none
 else
 some (Sum.inl (x1,x3,(y3,y4,y5),x23,x24,x25)):Option (((QD)×Int×(QF)×List (QF)×Int×Int) ⊕ (Bool))).bind (fun o8=>φF o8 (fun (x1,x3,x5,x23,x24,x25)=>
 let y9:=w64 (x3+(x5.2.1.length:Int))
 rec (x1,y9,x23,x24,w64 (x25+1))) (fun x2=>
 some (Sum.inr x2)))
 else none
 else
 some (Sum.inl (x1,x3))
def ψ9.f (p0:QD):Option (Bool):=
 bif decide ((p0.1.length:Int) > 130) then
 some false
 else
 (ψv.f p0.2.1 0 100000).bind fun t1=>
 bif !t1 then
 some false
 else
 (ψv.f p0.2.2.1 (-1) 100000).bind fun t2=>
 bif !t2 then
 some false
 else
 (lp ψ9.l0 (p0,0,p0.1,(p0.1.length:Int),0)).bind (fun o10=>φF o10 (fun (x1,x3)=>
 let y11:=decide (x3≤x1.2.1)
 some y11) (fun x2=>
 some x2))
def ψq.f (p0:QD):Option (QD):=
 bif decide ((([]:List (QF)).length+p0.1.length) * 40≤140737488355328) then
 let l1:=([]:List (QF))++p0.1
 some (l1,p0.2)
 else none
def ψr.l0 (rec:(QB×List (QF)×Int×Int)→Option ((Unit) ⊕ (Int))):(QB×List (QF)×Int×Int)→Option ((Unit) ⊕ (Int)):=fun (x1,x8,x9,x10)=>
 bif decide (x10<x9) then
 bif inB x10 x8.length then
 let y1:=(rdA ([],[],0) x8 x10).1
 let y2:=((rdA ([],[],0) x8 x10).2).1
 let y3:=((rdA ([],[],0) x8 x10).2).2
 bif y1==x1 then
 some (Sum.inr x10)
 else
 rec (x1,x8,x9,w64 (x10+1))
 else none
 else
 some (Sum.inl ())
def ψr.f (p0:QD) (p1:QB):Option (Int):=
 (lp ψr.l0 (p1,p0.1,(p0.1.length:Int),0)).bind (fun o4=>φF o4 (fun _=>
 some (-1)) (fun x4=>
 some x4))
def ψD.f (p0:QD) (p1:QB):Option (QB×Bool):=
 (ψr.f p0 p1).bind fun t1=>
 bif decide (t1<0) then
 some ([],false)
 else
 (ψ9.f p0).bind fun t2=>
 bif !t2 then
 some ([],false)
 else
 bif inB t1 p0.1.length then
 let y3:=((rdA ([],[],0) p0.1 t1).2).1
 some (y3,true)
 else none
def ψ5.f (p0:Int):Option (QB):=
 (strconv_Itoa.f p0).bind fun t1=>
 some t1
def ψw.f (p0:QB) (p1:Int):Option (QB):=
 (ψv.f p1 1 100000).bind fun t1=>
 bif !t1 then
 some []
 else
 (ψ5.f p1).bind fun t2=>
 bif decide (p0.length+t2.length≤9223372036854775807) then
 some (p0++t2)
 else none
def ψe.f (p0:Int):Option (QB):=
 (ψw.f [115,101,103] p0).bind fun t1=>
 some t1
def ψV.l0 (rec:(QB×Int×Int)→Option ((Unit) ⊕ (Int×Int))):(QB×Int×Int)→Option ((Unit) ⊕ (Int×Int)):=fun (x0,x4,x5)=>
 bif decide (x5<7) then
 bif decide (x5<(x0.length:Int)) then
 bif inB x5 x0.length then
 let y1:=w64 (bAt x0 x5)
 bif decide (0≤(w64 (7 * x5))) then
 let y2:=w64 (x4+(w64 ((Int.tmod y1 128) * 2 ^ (min (w64 (7 * x5)).toNat 64))))
 bif decide (y1≥128) then
 rec (x0,y2,w64 (x5+1))
 else
 (bif y1==0 then
 bif decide (x5 > 0) then
 some (Sum.inr (0,0))
 else
 some (Sum.inl (y2,x5))
 else
 some (Sum.inl (y2,x5)):Option ((Int×Int) ⊕ (Int×Int))).bind (fun o3=>φF o3 (fun (x4,x5)=>
 some (Sum.inr (x4,w64 (x5+1)))) (fun (x2,x3)=>
 some (Sum.inr (x2,x3))))
 else none
 else none
 else
 some (Sum.inl ())
 else
 some (Sum.inl ())
def ψV.f (p0:QB):Option (Int×Int):=
 (lp ψV.l0 (p0,0,0)).bind (fun o4=>φF o4 (fun _=>
 some (0,0)) (fun (x2,x3)=>
 some (x2,x3)))
def ψo.l0 (rec:(Int×List Int)→Option (Int×List Int)):(Int×List Int)→Option (Int×List Int):=fun (x0,x3)=>
 bif decide (x0 > 127) then
 bif decide ((x3.length+[IntKind.wrap .u8 (w64 ((Int.tmod x0 128)+128))].length) * 1≤140737488355328) then
 let l2:=x3++[IntKind.wrap .u8 (w64 ((Int.tmod x0 128)+128))]
 let y3:=w64 (Int.tdiv x0 128)
 rec (y3,l2)
 else none
 else
 some (x0,x3)
def ψo.f (p0:Int):Option (QB):=
 (ψv.f p0 0 562949953421311).bind fun t1=>
 bif !t1 then
 some []
 else
 (lp ψo.l0 (p0,[])).bind (fun (x0,x3)=>
 bif decide ((x3.length+[IntKind.wrap .u8 (x0)].length) * 1≤140737488355328) then
 let l4:=x3++[IntKind.wrap .u8 (x0)]
 some (φm l4)
 else none)
def ψ18.f (p0:QB):Option (QB):=
 (ψo.f (p0.length:Int)).bind fun t1=>
 bif decide (t1.length+p0.length≤9223372036854775807) then
 some (t1++p0)
 else none
def ψE.l0 (rec:(Int×List Int×Int)→Option (List Int)):(Int×List Int×Int)→Option (List Int):=fun (x0,x5,x6)=>
 bif decide (x6≥0) then
 bif decide (0≤(w64 (8 * x6))) then
 bif decide ((x5.length+[IntKind.wrap .u8 (Int.fdiv x0 (2 ^ (min (w64 (8 * x6)).toNat 64)))].length) * 1≤140737488355328) then
 let l3:=x5++[IntKind.wrap .u8 (Int.fdiv x0 (2 ^ (min (w64 (8 * x6)).toNat 64)))]
 rec (x0,l3,w64 (x6 - 1))
 else none
 else none
 else
 some x5
def ψE.f (p0:Int) (p1:Int):Option (QB):=
 (ψv.f p1 1 7).bind fun t1=>
 bif !t1 then
 some []
 else
 bif decide (0≤(w64 (8 * p1))) then
 (ψv.f p0 0 (w64 ((w64 (1 * 2 ^ (min (w64 (8 * p1)).toNat 64))) - 1))).bind fun t2=>
 bif !t2 then
 some []
 else
 (lp ψE.l0 (p0,[],w64 (p1 - 1))).bind (fun x5=>
 some (φm x5))
 else none
def ψ2.l2 (rec:(QB×Int×Int×Int)→Option (QB×Int×Int)):(QB×Int×Int×Int)→Option (QB×Int×Int):=fun (x0,x3,x4,x18)=>
 bif decide (x18<8) then
 let y2:=bits (fun _ a b=>a &&& b) .u32 x3 1
 let y3:=Int.fdiv x3 (2 ^ (min 1 32))
 (bif y2==1 then
 let y4:=bits (fun _ a b=>a ^^^ b) .u32 y3 2197175160
 some (x0,y4,x4,x18)
 else
 some (x0,y3,x4,x18):Option (QB×Int×Int×Int)).bind (fun (x0,x3,x4,x18)=>
 rec (x0,x3,x4,w64 (x18+1)))
 else
 some (x0,x3,x4)
def ψ2.l0 (rec:(QB×Int×Int)→Option (Int)):(QB×Int×Int)→Option (Int):=fun (x0,x3,x4)=>
 bif decide (x4<(x0.length:Int)) then
 bif inB x4 x0.length then
 let y1:=bits (fun _ a b=>a ^^^ b) .u32 x3 (IntKind.wrap .u32 (bAt x0 x4))
 (lp ψ2.l2 (x0,y1,x4,0)).bind (fun (x0,x3,x4)=>
 rec (x0,x3,w64 (x4+1)))
 else none
 else
 some x3
def ψ2.f (p0:QB):Option (Int):=
 (lp ψ2.l0 (p0,4294967295,0)).bind (fun x3=>
 let y5:=w64 (bits (fun _ a b=>a ^^^ b) .u32 4294967295 x3)
 some y5)
def ψF.f (p0:QB):Option (QB):=
 bif decide ((p0.length:Int) > 200) then
 some []
 else
 (ψ18.f p0).bind fun t1=>
 (ψ2.f t1).bind fun t2=>
 (ψE.f t2 4).bind fun t3=>
 bif decide (t3.length+t1.length≤9223372036854775807) then
 some (t3++t1)
 else none
def ψn.f (p0:QB):Option (QB×Int):=
 bif decide ((p0.length:Int)<4) then
 some ([],0)
 else
 bif (decide (0≤(4:Int)) && decide (4≤(p0.length:Int))) then
 (ψV.f (p0.drop 4)).bind fun (t1_0,t1_1)=>
 bif t1_1==0 then
 some ([],0)
 else
 bif decide (t1_0 > 200) then
 some ([],0)
 else
 bif decide (t1_0 > (w64 ((w64 ((p0.length:Int) - 4)) - t1_1))) then
 some ([],0)
 else
 bif (decide (0≤w64 ((w64 (4+t1_1))+t1_0)) && decide (w64 ((w64 (4+t1_1))+t1_0)≤(p0.length:Int))) then
 bif (decide (0≤w64 (4+t1_1)) && decide (w64 (4+t1_1)≤w64 ((w64 (4+t1_1))+t1_0))) then
 let y2:=(p0.take ((w64 ((w64 (4+t1_1))+t1_0)).toNat)).drop ((w64 (4+t1_1)).toNat)
 (ψF.f y2).bind fun t3=>
 bif (decide (0≤w64 ((w64 (4+t1_1))+t1_0)) && decide (w64 ((w64 (4+t1_1))+t1_0)≤(p0.length:Int))) then
 bif !(t3==(p0.take ((w64 ((w64 (4+t1_1))+t1_0)).toNat))) then
 some ([],0)
 else
 let y4:=w64 ((w64 (4+t1_1))+t1_0)
 some (y2,y4)
 else none
 else none
 else none
 else none
def ψM.l0 (rec:((Int×List Int)×QC)→Option ((Int×List Int) ⊕ (Bool))):((Int×List Int)×QC)→Option ((Int×List Int) ⊕ (Bool)):=fun (x1,x6,x7,x8)=>
 bif decide (x8<x7) then
 bif inB x8 x6.length then
 ((ψv.f (rdA 0 x6 x8) 1 (w64 (x1.1 - 1))).bind fun t1=>
 bif !t1 then
 some (Sum.inr false)
 else
 bif decide (x8 > 0) then
 bif inB (w64 (x8 - 1)) x1.2.length then
 bif decide ((rdA 0 x1.2 (w64 (x8 - 1)))≥(rdA 0 x6 x8)) then
 some (Sum.inr false)
 else
 some (Sum.inl (x1,x6,x7,x8))
 else none
 else
 some (Sum.inl (x1,x6,x7,x8)):Option (((Int×List Int)×QC) ⊕ (Bool))).bind (fun o2=>φF o2 (fun (x1,x6,x7,x8)=>
 rec (x1,x6,x7,w64 (x8+1))) (fun x2=>
 some (Sum.inr x2)))
 else none
 else
 some (Sum.inl x1)
def ψM.f (p0:Int×List Int):Option (Bool):=
 (lp ψM.l0 (p0,p0.2,(p0.2.length:Int),0)).bind (fun o3=>φF o3 (fun x1=>
 (ψv.f x1.1 1 100000).bind fun t4=>
 bif t4 then
 (ψv.f (x1.2.length:Int) 1 60).bind fun t5=>
 some t5
 else
 some false) (fun x2=>
 some x2))
def ψ10.f (p0:QB×Bool):Option (Int×QB×Bool):=
 (ψV.f p0.1).bind fun (t1_0,t1_1)=>
 bif p0.2 then
 some (0,(p0.1,true))
 else
 bif t1_1==0 then
 some (0,(p0.1,true))
 else
 bif (decide (0≤t1_1) && decide (t1_1≤(p0.1.length:Int))) then
 let y2:=p0.1.drop t1_1.toNat
 some (t1_0,(y2,p0.2))
 else none
def ψT.l0 (rec:(QB×(Int×List Int)×Int×(QB×Bool)×(Int×List Int)×Int×Int)→Option (QB×(Int×List Int)×Int×(QB×Bool)×Int×List Int)):(QB×(Int×List Int)×Int×(QB×Bool)×(Int×List Int)×Int×Int)→Option (QB×(Int×List Int)×Int×(QB×Bool)×Int×List Int):=fun (x0,x2,x5,x6,x7,x8,x9)=>
 bif decide (x9<x8) then
 bif !x6.2 then
 (ψ10.f x6).bind fun (t4_0,t4_1)=>
 bif decide ((x7.2.length+[t4_0].length) * 8≤140737488355328) then
 let l5:=x7.2++[t4_0]
 rec (x0,x2,x5,t4_1,(x7.1,l5),x8,w64 (x9+1))
 else none
 else
 some (x0,x2,x5,x6,x7)
 else
 some (x0,x2,x5,x6,x7)
def ψT.f (p0:QB):Option ((Int×List Int)×Bool):=
 (ψn.f p0).bind fun (t1_0,t1_1)=>
 (ψ10.f (t1_0,false)).bind fun (t2_0,t2_1)=>
 (ψ10.f t2_1).bind fun (t3_0,t3_1)=>
 (lp ψT.l0 (p0,(0,[]),t1_1,t3_1,(t2_0,[]),t3_0,0)).bind (fun (x0,x2,x5,x6,x7)=>
 bif x5==0 then
 some ((0,[]),false)
 else
 bif x5 != (x0.length:Int) then
 some ((0,[]),false)
 else
 bif x6.2 then
 some ((0,[]),false)
 else
 bif !(x6.1==[]) then
 some ((0,[]),false)
 else
 (ψM.f x7).bind fun t6=>
 bif !t6 then
 some ((0,[]),false)
 else
 some (x7,true))
def ψz.f (p0:QB×Bool) (p1:Int):Option (QB×QB×Bool):=
 bif p0.2 then
 some ([],(p0.1,true))
 else
 bif decide (p1 > (p0.1.length:Int)) then
 some ([],(p0.1,true))
 else
 bif (decide (0≤p1) && decide (p1≤(p0.1.length:Int))) then
 let y1:=p0.1.take p1.toNat
 bif (decide (0≤p1) && decide (p1≤(p0.1.length:Int))) then
 let y2:=p0.1.drop p1.toNat
 some (y1,(y2,p0.2))
 else none
 else none
def ψ11.f (p0:QB×Bool):Option (QB×QB×Bool):=
 (ψ10.f p0).bind fun (t1_0,t1_1)=>
 (ψz.f t1_1 t1_0).bind fun (t2_0,t2_1)=>
 some (t2_0,t2_1)
def ψR.l0 (rec:(QB×Int×Int×Int)→Option (Int)):(QB×Int×Int×Int)→Option (Int):=fun (x0,x6,x17,x18)=>
 bif decide (x18<x17) then
 bif inB x18 x0.length then
 let y2:=bits (fun _ a b=>a ||| b) .i64 (w64 (x6 * 2 ^ (min 8 64))) (w64 (bAt x0 x18))
 rec (x0,y2,x17,w64 (x18+1))
 else none
 else
 some x6
def ψR.f (p0:QB) (p1:Int):Option (Int×Bool):=
 (ψv.f p1 1 7).bind fun t1=>
 bif !t1 then
 some (0,false)
 else
 bif decide ((p0.length:Int)<p1) then
 some (0,false)
 else
 (lp ψR.l0 (p0,0,p1,0)).bind (fun x6=>
 some (x6,true))
def ψL.f (p0:QB):Option (Bool):=
 (ψv.f (p0.length:Int) 1 8).bind fun t1=>
 some t1
def ψW.f (p0:QR):Option (Bool):=
 (bif p0.1==1 then
 some (p0,(p0.1,p0.2.1,[],[],0,0),false,1,p0.1,p0.1==1)
 else
 some (p0,(p0.1,p0.2.1,[],[],0,0),false,1,p0.1,p0.1==4):Option ((QR)×(QR)×Bool×Int×Int×Bool)).bind (fun (x1,x3,x4,x5,x12,x13)=>
 bif x13 then
 (ψL.f x1.2.2.1).bind fun t1=>
 bif t1 then
 let y2:=decide ((x1.2.2.2.1.length:Int)≤24)
 bif y2 then
 (ψv.f x1.2.1 x5 1000000).bind fun t3=>
 bif t3 then
 let y4:=(x1.1==x3.1 && (x1.2.1==x3.2.1 && (x1.2.2.1==x1.2.2.1 && (x1.2.2.2.1==x1.2.2.2.1 && (x1.2.2.2.2.1==x3.2.2.2.2.1 && (x1.2.2.2.2.2==x3.2.2.2.2.2))))))
 some y4
 else
 some false
 else
 some false
 else
 some false
 else
 bif x12==2 then
 (ψL.f x1.2.2.1).bind fun t5=>
 bif t5 then
 (ψv.f x1.2.1 x5 1000000).bind fun t6=>
 bif t6 then
 let y7:=(x1.1==x3.1 && (x1.2.1==x3.2.1 && (x1.2.2.1==x1.2.2.1 && (x1.2.2.2.1==x3.2.2.2.1 && (x1.2.2.2.2.1==x3.2.2.2.2.1 && (x1.2.2.2.2.2==x3.2.2.2.2.2))))))
 some y7
 else
 some false
 else
 some false
 else
 bif x12==3 then
 (ψv.f x1.2.2.2.2.1 0 8).bind fun t8=>
 bif t8 then
 (ψv.f x1.2.2.2.2.2 0 4294967295).bind fun t9=>
 bif t9 then
 (ψv.f x1.2.1 x5 1000000).bind fun t10=>
 bif t10 then
 let y11:=(x1.1==x3.1 && (x1.2.1==x3.2.1 && (x1.2.2.1==x3.2.2.1 && (x1.2.2.2.1==x3.2.2.2.1 && (x1.2.2.2.2.1==x1.2.2.2.2.1 && (x1.2.2.2.2.2==x1.2.2.2.2.2))))))
 some y11
 else
 some false
 else
 some false
 else
 some false
 else
 bif x12==5 then
 (ψv.f x1.2.2.2.2.1 0 20).bind fun t12=>
 bif t12 then
 (ψv.f x1.2.2.2.2.2 0 4294967295).bind fun t13=>
 bif t13 then
 (ψv.f x1.2.1 0 1000000).bind fun t14=>
 bif t14 then
 let y15:=(x1.1==x3.1 && (x1.2.1==x3.2.1 && (x1.2.2.1==x3.2.2.1 && (x1.2.2.2.1==x3.2.2.2.1 && (x1.2.2.2.2.1==x1.2.2.2.2.1 && (x1.2.2.2.2.2==x1.2.2.2.2.2))))))
 some y15
 else
 some false
 else
 some false
 else
 some false
 else
 bif x4 then
 (ψv.f x1.2.1 x5 1000000).bind fun t16=>
 bif t16 then
 let y17:=(x1.1==x3.1 && (x1.2.1==x3.2.1 && (x1.2.2.1==x3.2.2.1 && (x1.2.2.2.1==x3.2.2.2.1 && (x1.2.2.2.2.1==x3.2.2.2.2.1 && (x1.2.2.2.2.2==x3.2.2.2.2.2))))))
 some y17
 else
 some false
 else
 some false)
def ψU.f (p0:QB):Option ((QR)×Bool):=
 (ψ10.f (p0,false)).bind fun (t1_0,t1_1)=>
 (ψ10.f t1_1).bind fun (t2_0,t2_1)=>
 ((bif t1_0==1 then
 some ((0,0,[],[],0,0),t2_1,(t1_0,t2_0,[],[],0,0),t1_0,t1_0==1)
 else
 some ((0,0,[],[],0,0),t2_1,(t1_0,t2_0,[],[],0,0),t1_0,t1_0==4):Option ((QR)×(QB×Bool)×(QR)×Int×Bool)).bind (fun (x2,x4,x5,x16,x27)=>
 bif x27 then
 (ψ11.f x4).bind fun (t3_0,t3_1)=>
 (ψ11.f t3_1).bind fun (t4_0,t4_1)=>
 some (x2,t4_1,(x5.1,x5.2.1,t3_0,t4_0,x5.2.2.2.2))
 else
 (bif x16==2 then
 (ψ11.f x4).bind fun (t5_0,t5_1)=>
 some (x2,t5_1,(x5.1,x5.2.1,t5_0,x5.2.2.2))
 else
 (ψ10.f x4).bind fun (t6_0,t6_1)=>
 (ψz.f t6_1 4).bind fun (t7_0,t7_1)=>
 (ψR.f t7_0 4).bind fun (t8_0,t8_1)=>
 some (x2,t7_1,(x5.1,x5.2.1,x5.2.2.1,x5.2.2.2.1,t6_0,t8_0)):Option ((QR)×(QB×Bool)×QR)).bind (fun (x2,x4,x5)=>
 some (x2,x4,x5))):Option ((QR)×(QB×Bool)×QR)).bind (fun (x2,x4,x5)=>
 bif x4.2 then
 some ((0,0,[],[],0,0),false)
 else
 bif !(x4.1==[]) then
 some ((0,0,[],[],0,0),false)
 else
 (ψW.f x5).bind fun t9=>
 bif !t9 then
 some ((0,0,[],[],0,0),false)
 else
 some (x5,true))
def ψd.l0 (rec:(QB×List (Int×Int×QR)×Int)→Option (List (Int×Int×QR)×Int)):(QB×List (Int×Int×QR)×Int)→Option (List (Int×Int×QR)×Int):=fun (x0,x4,x5)=>
 bif (decide (0≤x5) && decide (x5≤(x0.length:Int))) then
 (ψn.f (x0.drop x5.toNat)).bind fun (t1_0,t1_1)=>
 (ψU.f t1_0).bind fun (t2_0,t2_1)=>
 bif t1_1==0 then
 some (x4,x5)
 else
 bif !t2_1 then
 some (x4,x5)
 else
 bif decide ((x4.length+[(x5,t1_1,t2_0)].length) * 80≤140737488355328) then
 let l3:=x4++[(x5,t1_1,t2_0)]
 let y4:=w64 (x5+t1_1)
 rec (x0,l3,y4)
 else none
 else none
def ψd.f (p0:QB):Option (List (Int×Int×QR)×Int):=
 (lp ψd.l0 (p0,[],0)).bind (fun (x2,x3)=>
 some (x2,x3))
def ψy.l0 (rec:(Int×List (Int×Int×Int×QR)×List (Int×Int×QR)×Int×Int)→Option (QL)):(Int×List (Int×Int×Int×QR)×List (Int×Int×QR)×Int×Int)→Option (QL):=fun (x0,x5,x8,x9,x10)=>
 bif decide (x10<x9) then
 bif inB x10 x8.length then
 let y1:=(rdA (0,0,0,0,[],[],0,0) x8 x10).1
 let y2:=((rdA (0,0,0,0,[],[],0,0) x8 x10).2).1
 let y3:=(((rdA (0,0,0,0,[],[],0,0) x8 x10).2).2).1
 let y4:=((((rdA (0,0,0,0,[],[],0,0) x8 x10).2).2).2).1
 let y5:=(((((rdA (0,0,0,0,[],[],0,0) x8 x10).2).2).2).2).1
 let y6:=((((((rdA (0,0,0,0,[],[],0,0) x8 x10).2).2).2).2).2).1
 let y7:=(((((((rdA (0,0,0,0,[],[],0,0) x8 x10).2).2).2).2).2).2).1
 let y8:=(((((((rdA (0,0,0,0,[],[],0,0) x8 x10).2).2).2).2).2).2).2
 bif decide ((x5.length+[(x0,y1,y2,y3,y4,y5,y6,y7,y8)].length) * 88≤140737488355328) then
 let l9:=x5++[(x0,y1,y2,y3,y4,y5,y6,y7,y8)]
 rec (x0,l9,x8,x9,w64 (x10+1))
 else none
 else none
 else
 some x5
def ψy.f (p0:Int) (p1:List (Int×Int×QR)):Option (QL):=
 (lp ψy.l0 (p0,[],p1,(p1.length:Int),0)).bind (fun x5=>
 some x5)
def ψ1N.l0 (rec:(((QD)×Int)×(Int×List Int)×List (QL)×Int×QC)→Option ((((QD)×Int)×List (QL)×Int) ⊕ (((QD)×Int)×List (QL)×Int×Bool))):(((QD)×Int)×(Int×List Int)×List (QL)×Int×QC)→Option ((((QD)×Int)×List (QL)×Int) ⊕ (((QD)×Int)×List (QL)×Int×Bool)):=fun (x0,x3,x7,x8,x16,x17,x18)=>
 bif decide (x18<x17) then
 bif inB x18 x16.length then
 (ψe.f (rdA 0 x16 x18)).bind fun t1=>
 (ψD.f x0.1 t1).bind fun (t2_0,t2_1)=>
 (ψd.f t2_0).bind fun (t3_0,t3_1)=>
 (bif !t2_1 then
 some (Sum.inr (x0,[],0,false))
 else
 bif decide (x18<(w64 ((x3.2.length:Int) - 1))) then
 bif t3_1 != (t2_0.length:Int) then
 some (Sum.inr (x0,[],0,false))
 else
 some (Sum.inl (x0,x3,x7,rdA 0 x16 x18,t3_0,t3_1,x16,x17,x18))
 else
 some (Sum.inl (x0,x3,x7,rdA 0 x16 x18,t3_0,t3_1,x16,x17,x18)):Option ((((QD)×Int)×(Int×List Int)×List (QL)×Int×List (Int×Int×QR)×Int×QC) ⊕ (((QD)×Int)×List (QL)×Int×Bool))).bind (fun o4=>φF o4 (fun (x0,x3,x7,x10,x13,x14,x16,x17,x18)=>
 (ψy.f x10 x13).bind fun t5=>
 bif decide ((x7.length+[t5].length) * 24≤140737488355328) then
 rec (x0,x3,x7++[t5],x14,x16,x17,w64 (x18+1))
 else none) (fun (x0,x4,x5,x6)=>
 some (Sum.inr (x0,x4,x5,x6))))
 else none
 else
 some (Sum.inl (x0,x7,x8))
def ψ1N.f (p0:(QD)×Int) (p1:Int×List Int):Option (List (QL)×Int×Bool×(QD)×Int):=
 (lp ψ1N.l0 (p0,p1,[],0,p1.2,(p1.2.length:Int),0)).bind (fun o6=>φF o6 (fun (x0,x7,x8)=>
 some (x7,x8,true,x0)) (fun (x0,x4,x5,x6)=>
 some (x4,x5,x6,x0)))
def ψ19.f (p0:Int):Option (Int):=
 bif p0==0 then
 some 0
 else
 bif p0==1 then
 some 1
 else
 bif p0==2 then
 some 2
 else
 some 3
def ψ1P.f (p0:(QD)×Int) (p1:QD) (p2:Int):Option ((QD)×Int):=
 (ψ19.f p2).bind fun t1=>
 some (p1,t1)
def ψm.f (p0:QD) (p1:QB) (p2:Int):Option (Int×QD):=
 (ψr.f p0 p1).bind fun t1=>
 bif decide (t1<0) then
 some (3,p0)
 else
 bif inB t1 p0.1.length then
 (ψv.f p2 0 ((((rdA ([],[],0) p0.1 t1).2).1).length:Int)).bind fun t2=>
 bif !t2 then
 some (5,p0)
 else
 bif (decide (0≤p2) && decide (p2≤((((rdA ([],[],0) p0.1 t1).2).1).length:Int))) then
 let l3:=p0.1.set t1.toNat ((rdA ([],[],0) p0.1 t1).1,(((rdA ([],[],0) p0.1 t1).2).1).take p2.toNat,((rdA ([],[],0) p0.1 t1).2).2)
 let l4:=l3.set t1.toNat ((rdA ([],[],0) l3 t1).1,((rdA ([],[],0) l3 t1).2).1,if p2<((rdA ([],[],0) p0.1 t1).2).2 then p2 else ((rdA ([],[],0) p0.1 t1).2).2)
 some (0,(l4,p0.2))
 else none
 else none
def ψ17.f (p0:QD) (p1:QB×Int):Option ((QD)×Int):=
 (ψq.f p0).bind fun t1=>
 (ψ9.f p0).bind fun t2=>
 bif !t2 then
 some (t1,5)
 else
 bif p0.2.2.2 then
 some ((t1.1,t1.2.1,t1.2.2.1,true),1)
 else
 bif p0.2.2.1==0 then
 some ((t1.1,t1.2.1,t1.2.2.1,true),1)
 else
 (bif decide (p0.2.2.1 > 0) then
 let y3:=w64 (t1.2.2.1 - 1)
 some (p1,([],0,0,false),(t1.1,t1.2.1,y3,t1.2.2.2))
 else
 some (p1,([],0,0,false),t1):Option ((QB×Int)×(QD)×QD)).bind (fun (x1,x4,x6)=>
 (ψm.f x6 x1.1 x1.2).bind fun (t4_0,t4_1)=>
 some (t4_1,t4_0))
def ψk.f (p0:QD) (p1:QB):Option (Int×QD):=
 (ψr.f p0 p1).bind fun t1=>
 bif decide (t1<0) then
 some (3,p0)
 else
 bif inB t1 p0.1.length then
 bif inB t1 p0.1.length then
 let l2:=p0.1.set t1.toNat ((rdA ([],[],0) p0.1 t1).1,((rdA ([],[],0) p0.1 t1).2).1,((((rdA ([],[],0) p0.1 t1).2).1).length:Int))
 some (0,(l2,p0.2))
 else none
 else none
def ψ16.f (p0:QD) (p1:QB):Option ((QD)×Int):=
 (ψq.f p0).bind fun t1=>
 (ψ9.f p0).bind fun t2=>
 bif !t2 then
 some (t1,5)
 else
 bif p0.2.2.2 then
 some ((t1.1,t1.2.1,t1.2.2.1,true),1)
 else
 bif p0.2.2.1==0 then
 some ((t1.1,t1.2.1,t1.2.2.1,true),1)
 else
 (bif decide (p0.2.2.1 > 0) then
 let y3:=w64 (t1.2.2.1 - 1)
 some (p1,([],0,0,false),(t1.1,t1.2.1,y3,t1.2.2.2))
 else
 some (p1,([],0,0,false),t1):Option (QB×(QD)×QD)).bind (fun (x1,x4,x6)=>
 (ψk.f x6 x1).bind fun (t4_0,t4_1)=>
 some (t4_1,t4_0))
def ψA.f (p0:QD) (p1:QB):Option (QD):=
 (ψr.f p0 p1).bind fun t1=>
 bif decide (t1≥0) then
 bif (decide (0≤t1) && decide (t1≤(p0.1.length:Int))) then
 bif decide ((([]:List (QF)).length+(p0.1.take t1.toNat).length) * 40≤140737488355328) then
 bif (decide (0≤w64 (t1+1)) && decide (w64 (t1+1)≤(p0.1.length:Int))) then
 bif decide (((([]:List (QF))++(p0.1.take t1.toNat)).length+(p0.1.drop ((w64 (t1+1)).toNat)).length) * 40≤140737488355328) then
 let l2:=(([]:List (QF))++(p0.1.take t1.toNat))++(p0.1.drop ((w64 (t1+1)).toNat))
 some (l2,p0.2)
 else none
 else none
 else none
 else none
 else
 some p0
def ψZ.f (p0:QD) (p1:QB):Option (Int×QD):=
 (ψr.f p0 p1).bind fun t1=>
 bif decide (t1<0) then
 some (3,p0)
 else
 (ψA.f p0 p1).bind fun t2=>
 some (0,t2)
def ψ14.f (p0:QD) (p1:QB):Option ((QD)×Int):=
 (ψq.f p0).bind fun t1=>
 (ψ9.f p0).bind fun t2=>
 bif !t2 then
 some (t1,5)
 else
 bif p0.2.2.2 then
 some ((t1.1,t1.2.1,t1.2.2.1,true),1)
 else
 bif p0.2.2.1==0 then
 some ((t1.1,t1.2.1,t1.2.2.1,true),1)
 else
 (bif decide (p0.2.2.1 > 0) then
 let y3:=w64 (t1.2.2.1 - 1)
 some (p1,([],0,0,false),(t1.1,t1.2.1,y3,t1.2.2.2))
 else
 some (p1,([],0,0,false),t1):Option (QB×(QD)×QD)).bind (fun (x1,x4,x6)=>
 (ψZ.f x6 x1).bind fun (t4_0,t4_1)=>
 some (t4_1,t4_0))
def ψB.l0 (rec:((QD)×(QF)×Int)→Option ((QD)×(QF)×Int)):((QD)×(QF)×Int)→Option ((QD)×(QF)×Int):=fun (x0,x3,x4)=>
 bif decide (x4<(x0.1.length:Int)) then
 bif inB x4 x0.1.length then
 bif Op.bytesLess ((rdA ([],[],0) x0.1 x4).1) x3.1 then
 rec (x0,x3,w64 (x4+1))
 else
 some (x0,x3,x4)
 else none
 else
 some (x0,x3,x4)
def ψB.f (p0:QD) (p1:QF):Option (QD):=
 (lp ψB.l0 (p0,p1,0)).bind (fun (x0,x3,x4)=>
 bif (decide (0≤x4) && decide (x4≤(x0.1.length:Int))) then
 bif decide ((([]:List (QF)).length+(x0.1.take x4.toNat).length) * 40≤140737488355328) then
 bif decide (((([]:List (QF))++(x0.1.take x4.toNat)).length+[x3].length) * 40≤140737488355328) then
 let l1:=(([]:List (QF))++(x0.1.take x4.toNat))++[x3]
 bif (decide (0≤x4) && decide (x4≤(x0.1.length:Int))) then
 bif decide ((l1.length+(x0.1.drop x4.toNat).length) * 40≤140737488355328) then
 let l2:=l1++(x0.1.drop x4.toNat)
 some (l2,x0.2)
 else none
 else none
 else none
 else none
 else none)
def ψ4.f (p0:QD) (p1:QB):Option (Int×QD):=
 (ψN.f p1).bind fun t1=>
 bif !t1 then
 some (5,p0)
 else
 (ψr.f p0 p1).bind fun t2=>
 let y3:=decide (t2≥0)
 bif y3 then
 some (4,p0)
 else
 let y4:=decide ((p0.1.length:Int)≥130)
 bif y4 then
 some (2,p0)
 else
 (ψB.f p0 (p1,[],0)).bind fun t5=>
 some (0,t5)
def ψ13.f (p0:QD) (p1:QB):Option ((QD)×Int):=
 (ψq.f p0).bind fun t1=>
 (ψ9.f p0).bind fun t2=>
 bif !t2 then
 some (t1,5)
 else
 bif p0.2.2.2 then
 some ((t1.1,t1.2.1,t1.2.2.1,true),1)
 else
 bif p0.2.2.1==0 then
 some ((t1.1,t1.2.1,t1.2.2.1,true),1)
 else
 (bif decide (p0.2.2.1 > 0) then
 let y3:=w64 (t1.2.2.1 - 1)
 some (p1,([],0,0,false),(t1.1,t1.2.1,y3,t1.2.2.2))
 else
 some (p1,([],0,0,false),t1):Option (QB×(QD)×QD)).bind (fun (x1,x4,x6)=>
 (ψ4.f x6 x1).bind fun (t4_0,t4_1)=>
 some (t4_1,t4_0))
def ψ1A.l0 (rec:(Int×List (QF)×Int×Int)→Option (Int)):(Int×List (QF)×Int×Int)→Option (Int):=fun (x3,x7,x8,x9)=>
 bif decide (x9<x8) then
 bif inB x9 x7.length then
 let y1:=(rdA ([],[],0) x7 x9).1
 let y2:=((rdA ([],[],0) x7 x9).2).1
 let y3:=((rdA ([],[],0) x7 x9).2).2
 let y4:=w64 (x3+(y2.length:Int))
 rec (y4,x7,x8,w64 (x9+1))
 else none
 else
 some x3
def ψ1A.f (p0:QD):Option (Int):=
 (lp ψ1A.l0 (0,p0.1,(p0.1.length:Int),0)).bind (fun x3=>
 some x3)
def ψ1.f (p0:QD) (p1:QB) (p2:QB):Option (Int×QD):=
 (ψr.f p0 p1).bind fun t1=>
 let y2:=decide (t1<0)
 bif y2 then
 some (3,p0)
 else
 (ψ1A.f p0).bind fun t3=>
 let y4:=decide ((p2.length:Int) > (w64 (p0.2.1 - t3)))
 bif y4 then
 some (2,p0)
 else
 bif inB t1 p0.1.length then
 bif decide ((((rdA ([],[],0) p0.1 t1).2).1).length+p2.length≤9223372036854775807) then
 bif inB t1 p0.1.length then
 let l5:=p0.1.set t1.toNat ((rdA ([],[],0) p0.1 t1).1,(((rdA ([],[],0) p0.1 t1).2).1)++p2,((rdA ([],[],0) p0.1 t1).2).2)
 some (0,(l5,p0.2))
 else none
 else none
 else none
def ψ12.f (p0:QD) (p1:QB×QB):Option ((QD)×Int):=
 (ψq.f p0).bind fun t1=>
 (ψ9.f p0).bind fun t2=>
 bif !t2 then
 some (t1,5)
 else
 bif p0.2.2.2 then
 some ((t1.1,t1.2.1,t1.2.2.1,true),1)
 else
 bif p0.2.2.1==0 then
 some ((t1.1,t1.2.1,t1.2.2.1,true),1)
 else
 (bif decide (p0.2.2.1 > 0) then
 let y3:=w64 (t1.2.2.1 - 1)
 some (p1,([],0,0,false),(t1.1,t1.2.1,y3,t1.2.2.2))
 else
 some (p1,([],0,0,false),t1):Option ((QB×QB)×(QD)×QD)).bind (fun (x1,x4,x6)=>
 (ψ1.f x6 x1.1 x1.2).bind fun (t4_0,t4_1)=>
 some (t4_1,t4_0))
def ψb.f (p0:QD) (p1:QB) (p2:QB):Option (Int×QD):=
 (ψr.f p0 p1).bind fun t1=>
 (ψN.f p2).bind fun t2=>
 bif !t2 then
 some (5,p0)
 else
 let y3:=decide (t1<0)
 bif y3 then
 some (3,p0)
 else
 bif inB t1 p0.1.length then
 let y4:=(rdA ([],[],0) p0.1 t1).1
 let y5:=((rdA ([],[],0) p0.1 t1).2).1
 let y6:=((rdA ([],[],0) p0.1 t1).2).2
 (ψA.f p0 p1).bind fun t7=>
 (ψA.f t7 p2).bind fun t8=>
 (ψB.f t8 (p2,y5,y6)).bind fun t9=>
 some (0,t9)
 else none
def ψ15.f (p0:QD) (p1:QB×QB):Option ((QD)×Int):=
 (ψq.f p0).bind fun t1=>
 (ψ9.f p0).bind fun t2=>
 bif !t2 then
 some (t1,5)
 else
 bif p0.2.2.2 then
 some ((t1.1,t1.2.1,t1.2.2.1,true),1)
 else
 bif p0.2.2.1==0 then
 some ((t1.1,t1.2.1,t1.2.2.1,true),1)
 else
 (bif decide (p0.2.2.1 > 0) then
 let y3:=w64 (t1.2.2.1 - 1)
 some (p1,([],0,0,false),(t1.1,t1.2.1,y3,t1.2.2.2))
 else
 some (p1,([],0,0,false),t1):Option ((QB×QB)×(QD)×QD)).bind (fun (x1,x4,x6)=>
 (ψb.f x6 x1.1 x1.2).bind fun (t4_0,t4_1)=>
 some (t4_1,t4_0))
def ψl.f (p0:QD) (p1:QB) (p2:Int):Option ((QD)×Int):=
 (ψ17.f p0 (p1,p2)).bind fun (t1_0,t1_1)=>
 some (t1_0,t1_1)
def ψj.f (p0:QD) (p1:QB):Option ((QD)×Int):=
 (ψ16.f p0 p1).bind fun (t1_0,t1_1)=>
 some (t1_0,t1_1)
def ψ1O.f (p0:(QD)×Int) (p1:QB):Option ((QD)×Int):=
 bif p0.2==0 then
 (ψj.f p0.1 p1).bind fun (t1_0,t1_1)=>
 (ψ1P.f p0 t1_0 t1_1).bind fun t2=>
 some t2
 else
 some p0
def ψI.f (p0:Int):Option (QB):=
 (ψw.f [104,105,110,116] p0).bind fun t1=>
 some t1
def ψ7.l0 (rec:(List (QE)×List (QE)×Int×Int)→Option ((List (QE)) ⊕ (Bool))):(List (QE)×List (QE)×Int×Int)→Option ((List (QE)) ⊕ (Bool)):=fun (x0,x5,x6,x7)=>
 bif decide (x7<x6) then
 bif inB x7 x5.length then
 let y1:=(rdA ([],0,0,0,0) x5 x7).1
 let y2:=((rdA ([],0,0,0,0) x5 x7).2).1
 let y3:=(((rdA ([],0,0,0,0) x5 x7).2).2).1
 let y4:=((((rdA ([],0,0,0,0) x5 x7).2).2).2).1
 let y5:=((((rdA ([],0,0,0,0) x5 x7).2).2).2).2
 ((ψL.f y1).bind fun t6=>
 bif !t6 then
 some (Sum.inr false)
 else
 (ψv.f y2 1 100000).bind fun t7=>
 bif !t7 then
 some (Sum.inr false)
 else
 bif decide (y3<0) then
 some (Sum.inr false)
 else
 (ψv.f y4 1 210).bind fun t8=>
 bif !t8 then
 some (Sum.inr false)
 else
 (ψv.f y5 1 1000000).bind fun t9=>
 bif !t9 then
 some (Sum.inr false)
 else
 bif decide (x7 > 0) then
 bif inB (w64 (x7 - 1)) x0.length then
 bif !(Op.bytesLess ((rdA ([],0,0,0,0) x0 (w64 (x7 - 1))).1) y1) then
 some (Sum.inr false)
 else
 some (Sum.inl (x0,x5,x6,x7))
 else none
 else
 some (Sum.inl (x0,x5,x6,x7)):Option ((List (QE)×List (QE)×Int×Int) ⊕ (Bool))).bind (fun o10=>φF o10 (fun (x0,x5,x6,x7)=>
 rec (x0,x5,x6,w64 (x7+1))) (fun x2=>
 some (Sum.inr x2)))
 else none
 else
 some (Sum.inl x0)
def ψ7.f (p0:List (QE)):Option (Bool):=
 (lp ψ7.l0 (p0,p0,(p0.length:Int),0)).bind (fun o11=>φF o11 (fun x0=>
 let y12:=decide ((x0.length:Int)≤20)
 some y12) (fun x2=>
 some x2))
def ψu.l0 (rec:((Int×Int×List (QE))×List (QE)×Int×Int)→Option ((Int×Int×List (QE)) ⊕ (Bool))):((Int×Int×List (QE))×List (QE)×Int×Int)→Option ((Int×Int×List (QE)) ⊕ (Bool)):=fun (x1,x6,x7,x8)=>
 bif decide (x8<x7) then
 bif inB x8 x6.length then
 let y1:=(rdA ([],0,0,0,0) x6 x8).1
 let y2:=((rdA ([],0,0,0,0) x6 x8).2).1
 let y3:=(((rdA ([],0,0,0,0) x6 x8).2).2).1
 let y4:=((((rdA ([],0,0,0,0) x6 x8).2).2).2).1
 let y5:=((((rdA ([],0,0,0,0) x6 x8).2).2).2).2
 bif inB 0 x1.2.2.length then
 bif y2 != (((rdA ([],0,0,0,0) x1.2.2 0).2).1) then
 some (Sum.inr false)
 else
 bif decide (y3 > 100000) then
 some (Sum.inr false)
 else
 rec (x1,x6,x7,w64 (x8+1))
 else none
 else none
 else
 some (Sum.inl x1)
def ψu.f (p0:Int×Int×List (QE)):Option (Bool):=
 (lp ψu.l0 (p0,p0.2.2,(p0.2.2.length:Int),0)).bind (fun o6=>φF o6 (fun x1=>
 (ψv.f x1.1 0 100000).bind fun t7=>
 bif t7 then
 (ψv.f x1.2.1 0 1000000).bind fun t8=>
 bif t8 then
 (ψ7.f x1.2.2).bind fun t9=>
 some t9
 else
 some false
 else
 some false) (fun x2=>
 some x2))
def ψ1B.l0 (rec:(QB×QC)→Option (QB)):(QB×QC)→Option (QB):=fun (x3,x6,x7,x8)=>
 bif decide (x8<x7) then
 bif inB x8 x6.length then
 (ψo.f (rdA 0 x6 x8)).bind fun t1=>
 bif decide (x3.length+t1.length≤9223372036854775807) then
 rec (x3++t1,x6,x7,w64 (x8+1))
 else none
 else none
 else
 some x3
def ψ1B.f (p0:List Int):Option (QB):=
 (lp ψ1B.l0 ([],p0,(p0.length:Int),0)).bind (fun x3=>
 some x3)
def ψf.l0 (rec:(QB×List (QE)×Int×Int)→Option (QB)):(QB×List (QE)×Int×Int)→Option (QB):=fun (x3,x19,x20,x21)=>
 bif decide (x21<x20) then
 bif inB x21 x19.length then
 let y3:=(rdA ([],0,0,0,0) x19 x21).1
 let y4:=((rdA ([],0,0,0,0) x19 x21).2).1
 let y5:=(((rdA ([],0,0,0,0) x19 x21).2).2).1
 let y6:=((((rdA ([],0,0,0,0) x19 x21).2).2).2).1
 let y7:=((((rdA ([],0,0,0,0) x19 x21).2).2).2).2
 (ψ18.f y3).bind fun t8=>
 (ψ1B.f [y4,y5,y6,y7]).bind fun t9=>
 bif decide (t8.length+t9.length≤9223372036854775807) then
 bif decide (x3.length+(t8++t9).length≤9223372036854775807) then
 let y10:=x3++(t8++t9)
 rec (y10,x19,x20,w64 (x21+1))
 else none
 else none
 else none
 else
 some x3
def ψf.f (p0:Int×Int×List (QE)):Option (QB):=
 (ψu.f p0).bind fun t1=>
 bif !t1 then
 some []
 else
 (ψ1B.f [p0.1,p0.2.1,(p0.2.2.length:Int)]).bind fun t2=>
 (lp ψf.l0 (t2,p0.2.2,(p0.2.2.length:Int),0)).bind (fun x3=>
 (ψ2.f x3).bind fun t11=>
 (ψE.f t11 4).bind fun t12=>
 bif decide (t12.length+x3.length≤9223372036854775807) then
 some (t12++x3)
 else none)
def ψS.l0 (rec:(QB×(Int×Int×List (QE))×(QB×Bool)×(Int×Int×List (QE))×Int×Int)→Option (QB×(Int×Int×List (QE))×(QB×Bool)×Int×Int×List (QE))):(QB×(Int×Int×List (QE))×(QB×Bool)×(Int×Int×List (QE))×Int×Int)→Option (QB×(Int×Int×List (QE))×(QB×Bool)×Int×Int×List (QE)):=fun (x0,x2,x4,x5,x6,x7)=>
 bif decide (x7<x6) then
 bif !x4.2 then
 (ψ11.f x4).bind fun (t5_0,t5_1)=>
 (ψ10.f t5_1).bind fun (t6_0,t6_1)=>
 (ψ10.f t6_1).bind fun (t7_0,t7_1)=>
 (ψ10.f t7_1).bind fun (t8_0,t8_1)=>
 (ψ10.f t8_1).bind fun (t9_0,t9_1)=>
 bif decide ((x5.2.2.length+[(t5_0,t6_0,t7_0,t8_0,t9_0)].length) * 48≤140737488355328) then
 let l10:=x5.2.2++[(t5_0,t6_0,t7_0,t8_0,t9_0)]
 rec (x0,x2,t9_1,(x5.1,x5.2.1,l10),x6,w64 (x7+1))
 else none
 else
 some (x0,x2,x4,x5)
 else
 some (x0,x2,x4,x5)
def ψS.f (p0:QB):Option ((Int×Int×List (QE))×Bool):=
 (ψz.f (p0,false) 4).bind fun (t1_0,t1_1)=>
 (ψ10.f t1_1).bind fun (t2_0,t2_1)=>
 (ψ10.f t2_1).bind fun (t3_0,t3_1)=>
 (ψ10.f t3_1).bind fun (t4_0,t4_1)=>
 (lp ψS.l0 (p0,(0,0,[]),t4_1,(t2_0,t3_0,[]),t4_0,0)).bind (fun (x0,x2,x4,x5)=>
 bif x4.2 then
 some ((0,0,[]),false)
 else
 (ψu.f x5).bind fun t11=>
 bif !t11 then
 some ((0,0,[]),false)
 else
 (ψf.f x5).bind fun t12=>
 bif !(t12==x0) then
 some ((0,0,[]),false)
 else
 some (x5,true))
def ψh.f (p0:QR):Option (QB):=
 (ψW.f p0).bind fun t1=>
 bif !t1 then
 some []
 else
 (ψ1B.f [p0.1,p0.2.1]).bind fun t2=>
 (bif p0.1==1 then
 some (p0,t2,p0.1,p0.1==1)
 else
 some (p0,t2,p0.1,p0.1==4):Option ((QR)×QB×Int×Bool)).bind (fun (x1,x3,x14,x15)=>
 bif x15 then
 (ψ18.f x1.2.2.1).bind fun t3=>
 bif decide (x3.length+t3.length≤9223372036854775807) then
 (ψ18.f x1.2.2.2.1).bind fun t4=>
 bif decide ((x3++t3).length+t4.length≤9223372036854775807) then
 let y5:=(x3++t3)++t4
 some y5
 else none
 else none
 else
 bif x14==2 then
 (ψ18.f x1.2.2.1).bind fun t6=>
 bif decide (x3.length+t6.length≤9223372036854775807) then
 some (x3++t6)
 else none
 else
 (ψo.f x1.2.2.2.2.1).bind fun t7=>
 bif decide (x3.length+t7.length≤9223372036854775807) then
 (ψE.f x1.2.2.2.2.2 4).bind fun t8=>
 bif decide ((x3++t7).length+t8.length≤9223372036854775807) then
 let y9:=(x3++t7)++t8
 some y9
 else none
 else none)
def ψi.l0 (rec:(QB×List (QR)×Int×Int)→Option (QB)):(QB×List (QR)×Int×Int)→Option (QB):=fun (x3,x6,x7,x8)=>
 bif decide (x8<x7) then
 bif inB x8 x6.length then
 let y1:=(rdA (0,0,[],[],0,0) x6 x8).1
 let y2:=((rdA (0,0,[],[],0,0) x6 x8).2).1
 let y3:=(((rdA (0,0,[],[],0,0) x6 x8).2).2).1
 let y4:=((((rdA (0,0,[],[],0,0) x6 x8).2).2).2).1
 let y5:=(((((rdA (0,0,[],[],0,0) x6 x8).2).2).2).2).1
 let y6:=(((((rdA (0,0,[],[],0,0) x6 x8).2).2).2).2).2
 (ψh.f (y1,y2,y3,y4,y5,y6)).bind fun t7=>
 bif decide (x3.length+t7.length≤9223372036854775807) then
 rec (x3++t7,x6,x7,w64 (x8+1))
 else none
 else none
 else
 some x3
def ψi.f (p0:List (QR)):Option (Int):=
 (lp ψi.l0 ([],p0,(p0.length:Int),0)).bind (fun x3=>
 (ψ2.f x3).bind fun t8=>
 some t8)
def ψs.l0 (rec:((QR)×List (QR)×List (Int×Int×Int×QR)×Int×Int)→Option ((QR)×List (QR))):((QR)×List (QR)×List (Int×Int×Int×QR)×Int×Int)→Option ((QR)×List (QR)):=fun (x2,x5,x8,x9,x10)=>
 bif decide (x10<x9) then
 bif inB x10 x8.length then
 let y1:=(rdA (0,0,0,0,0,[],[],0,0) x8 x10).1
 let y2:=((rdA (0,0,0,0,0,[],[],0,0) x8 x10).2).1
 let y3:=(((rdA (0,0,0,0,0,[],[],0,0) x8 x10).2).2).1
 let y4:=((((rdA (0,0,0,0,0,[],[],0,0) x8 x10).2).2).2).1
 let y5:=(((((rdA (0,0,0,0,0,[],[],0,0) x8 x10).2).2).2).2).1
 let y6:=((((((rdA (0,0,0,0,0,[],[],0,0) x8 x10).2).2).2).2).2).1
 let y7:=(((((((rdA (0,0,0,0,0,[],[],0,0) x8 x10).2).2).2).2).2).2).1
 let y8:=((((((((rdA (0,0,0,0,0,[],[],0,0) x8 x10).2).2).2).2).2).2).2).1
 let y9:=((((((((rdA (0,0,0,0,0,[],[],0,0) x8 x10).2).2).2).2).2).2).2).2
 bif decide ((x5.length+[(y4,y5,y6,y7,y8,y9)].length) * 64≤140737488355328) then
 let l10:=x5++[(y4,y5,y6,y7,y8,y9)]
 rec (x2,l10,x8,x9,w64 (x10+1))
 else none
 else none
 else
 some (x2,x5)
def ψs.f (p0:QR) (p1:QL):Option (Bool):=
 (lp ψs.l0 (p0,[],p1,(p1.length:Int),0)).bind (fun (x2,x5)=>
 bif x2.2.2.2.2.1==(x5.length:Int) then
 (ψi.f x5).bind fun t11=>
 let y12:=x2.2.2.2.2.2==t11
 some y12
 else
 some false)
def ψJ.l0 (rec:(Int×(Int×Int×List (QE))×List (Int×Int×QR)×(Int×Int×List (QE))×List (Int×Int×QR)×Int×Int)→Option (((Int×Int×List (QE))×Int×Int×List (QE)) ⊕ ((Int×Int×List (QE))×Bool))):(Int×(Int×Int×List (QE))×List (Int×Int×QR)×(Int×Int×List (QE))×List (Int×Int×QR)×Int×Int)→Option (((Int×Int×List (QE))×Int×Int×List (QE)) ⊕ ((Int×Int×List (QE))×Bool)):=fun (x0,x4,x6,x9,x67,x68,x69)=>
 bif decide (x69<x68) then
 bif inB x69 x67.length then
 let y7:=(rdA (0,0,0,0,[],[],0,0) x67 x69).1
 let y8:=((rdA (0,0,0,0,[],[],0,0) x67 x69).2).1
 let y9:=(((rdA (0,0,0,0,[],[],0,0) x67 x69).2).2).1
 let y10:=((((rdA (0,0,0,0,[],[],0,0) x67 x69).2).2).2).1
 let y11:=(((((rdA (0,0,0,0,[],[],0,0) x67 x69).2).2).2).2).1
 let y12:=((((((rdA (0,0,0,0,[],[],0,0) x67 x69).2).2).2).2).2).1
 let y13:=(((((((rdA (0,0,0,0,[],[],0,0) x67 x69).2).2).2).2).2).2).1
 let y14:=(((((((rdA (0,0,0,0,[],[],0,0) x67 x69).2).2).2).2).2).2).2
 (bif y9 != 4 then
 some (Sum.inr ((0,0,[]),false))
 else
 bif decide (y10 > x9.2.1) then
 some (Sum.inr ((0,0,[]),false))
 else
 bif decide (x69 > 0) then
 bif inB (w64 (x69 - 1)) x6.length then
 bif !(Op.bytesLess ((((((rdA (0,0,0,0,[],[],0,0) x6 (w64 (x69 - 1))).2).2).2).2).1) y11) then
 some (Sum.inr ((0,0,[]),false))
 else
 some (Sum.inl (x0,x4,x6,x9,(y7,y8,y9,y10,y11,y12,y13,y14),x67,x68,x69))
 else none
 else
 some (Sum.inl (x0,x4,x6,x9,(y7,y8,y9,y10,y11,y12,y13,y14),x67,x68,x69)):Option ((Int×(Int×Int×List (QE))×List (Int×Int×QR)×(Int×Int×List (QE))×(Int×Int×QR)×List (Int×Int×QR)×Int×Int) ⊕ ((Int×Int×List (QE))×Bool))).bind (fun o15=>φF o15 (fun (x0,x4,x6,x9,x11,x67,x68,x69)=>
 bif decide ((x9.2.2.length+[(x11.2.2.2.2.1,x0,x11.1,x11.2.1,x11.2.2.2.1)].length) * 48≤140737488355328) then
 let l16:=x9.2.2++[(x11.2.2.2.2.1,x0,x11.1,x11.2.1,x11.2.2.2.1)]
 rec (x0,x4,x6,(x9.1,x9.2.1,l16),x67,x68,w64 (x69+1))
 else none) (fun (x4,x5)=>
 some (Sum.inr (x4,x5))))
 else none
 else
 some (Sum.inl (x4,x9))
def ψJ.f (p0:Int) (p1:QB):Option ((Int×Int×List (QE))×Bool):=
 (ψd.f p1).bind fun (t1_0,t1_1)=>
 let y2:=w64 ((t1_0.length:Int) - 1)
 bif decide (y2<0) then
 some ((0,0,[]),false)
 else
 bif t1_1 != (p1.length:Int) then
 some ((0,0,[]),false)
 else
 (ψv.f p0 1 100000).bind fun t3=>
 bif !t3 then
 some ((0,0,[]),false)
 else
 bif inB y2 t1_0.length then
 bif ((((rdA (0,0,0,0,[],[],0,0) t1_0 y2).2).2).1) != 5 then
 some ((0,0,[]),false)
 else
 bif inB y2 t1_0.length then
 bif (decide (0≤y2) && decide (y2≤(t1_0.length:Int))) then
 (ψy.f p0 (t1_0.take y2.toNat)).bind fun t4=>
 (ψs.f ((((rdA (0,0,0,0,[],[],0,0) t1_0 y2).2).2).1,((((rdA (0,0,0,0,[],[],0,0) t1_0 y2).2).2).2).1,(((((rdA (0,0,0,0,[],[],0,0) t1_0 y2).2).2).2).2).1,((((((rdA (0,0,0,0,[],[],0,0) t1_0 y2).2).2).2).2).2).1,(((((((rdA (0,0,0,0,[],[],0,0) t1_0 y2).2).2).2).2).2).2)) t4).bind fun t5=>
 bif !t5 then
 some ((0,0,[]),false)
 else
 bif inB y2 t1_0.length then
 let y6:=((((rdA (0,0,0,0,[],[],0,0) t1_0 y2).2).2).2).1
 bif (decide (0≤y2) && decide (y2≤(t1_0.length:Int))) then
 (lp ψJ.l0 (p0,(0,0,[]),t1_0,(t1_1,y6,[]),t1_0.take y2.toNat,((t1_0.take y2.toNat).length:Int),0)).bind (fun o17=>φF o17 (fun (x4,x9)=>
 some (x9,true)) (fun (x4,x5)=>
 some (x4,x5)))
 else none
 else none
 else none
 else none
 else none
def ψc.l0 (rec:(List (QE)×List (QE)×Int×Int)→Option ((Unit) ⊕ (Bool))):(List (QE)×List (QE)×Int×Int)→Option ((Unit) ⊕ (Bool)):=fun (x0,x1,x12,x13)=>
 bif decide (x13<x12) then
 bif inB x13 x0.length then
 bif inB x13 x1.length then
 bif !(((rdA ([],0,0,0,0) x0 x13).1)==((rdA ([],0,0,0,0) x1 x13).1) && ((((rdA ([],0,0,0,0) x0 x13).2).1)==(((rdA ([],0,0,0,0) x1 x13).2).1) && (((((rdA ([],0,0,0,0) x0 x13).2).2).1)==((((rdA ([],0,0,0,0) x1 x13).2).2).1) && ((((((rdA ([],0,0,0,0) x0 x13).2).2).2).1)==(((((rdA ([],0,0,0,0) x1 x13).2).2).2).1) && ((((((rdA ([],0,0,0,0) x0 x13).2).2).2).2)==(((((rdA ([],0,0,0,0) x1 x13).2).2).2).2)))))) then
 some (Sum.inr false)
 else
 rec (x0,x1,x12,w64 (x13+1))
 else none
 else none
 else
 some (Sum.inl ())
def ψc.f (p0:List (QE)) (p1:List (QE)):Option (Bool):=
 bif (p0.length:Int) != (p1.length:Int) then
 some false
 else
 (lp ψc.l0 (p0,p1,(p0.length:Int),0)).bind (fun o1=>φF o1 (fun _=>
 some true) (fun x4=>
 some x4))
def ψH.f (p0:Int) (p1:QB) (p2:Int×Int×List (QE)):Option (Bool):=
 (ψJ.f p0 p1).bind fun (t1_0,t1_1)=>
 bif t1_1 then
 bif t1_0.1==p2.1 then
 bif t1_0.2.1==p2.2.1 then
 (ψc.f t1_0.2.2 p2.2.2).bind fun t2=>
 some t2
 else
 some false
 else
 some false
 else
 some false
def ψ1I.f (p0:(QD)×Int) (p1:Int):Option ((List (QE)×Int×Int)×Bool×(QD)×Int):=
 (ψI.f p1).bind fun t1=>
 (ψD.f p0.1 t1).bind fun (t2_0,t2_1)=>
 (ψS.f t2_0).bind fun (t3_0,t3_1)=>
 (ψe.f p1).bind fun t4=>
 (ψD.f p0.1 t4).bind fun (t5_0,t5_1)=>
 bif !t2_1 then
 some (([],0,0),false,p0)
 else
 bif !t3_1 then
 some (([],0,0),false,p0)
 else
 (ψH.f p1 t5_0 t3_0).bind fun t6=>
 bif !t6 then
 some (([],0,0),false,p0)
 else
 some ((t3_0.2.2,t3_0.2.1,0),true,p0)
def ψp.f (p0:List (QE)):Option (List (QE)):=
 bif decide ((([]:List (QE)).length+p0.length) * 48≤140737488355328) then
 let l1:=([]:List (QE))++p0
 some l1
 else none
def ψx.l0 (rec:((QR)×List (Int×Int×Int×QR)×List (Int×Int×Int×QR)×Int×Int)→Option (QL)):((QR)×List (Int×Int×Int×QR)×List (Int×Int×Int×QR)×Int×Int)→Option (QL):=fun (x3,x5,x9,x10,x11)=>
 bif decide (x11<x10) then
 bif inB x11 x9.length then
 let y1:=(rdA (0,0,0,0,0,[],[],0,0) x9 x11).1
 let y2:=((rdA (0,0,0,0,0,[],[],0,0) x9 x11).2).1
 let y3:=(((rdA (0,0,0,0,0,[],[],0,0) x9 x11).2).2).1
 let y4:=((((rdA (0,0,0,0,0,[],[],0,0) x9 x11).2).2).2).1
 let y5:=(((((rdA (0,0,0,0,0,[],[],0,0) x9 x11).2).2).2).2).1
 let y6:=((((((rdA (0,0,0,0,0,[],[],0,0) x9 x11).2).2).2).2).2).1
 let y7:=(((((((rdA (0,0,0,0,0,[],[],0,0) x9 x11).2).2).2).2).2).2).1
 let y8:=((((((((rdA (0,0,0,0,0,[],[],0,0) x9 x11).2).2).2).2).2).2).2).1
 let y9:=((((((((rdA (0,0,0,0,0,[],[],0,0) x9 x11).2).2).2).2).2).2).2).2
 (bif x3.1==3 then
 bif y5 != x3.2.1 then
 some (x3,x5,x9,x10,x11)
 else
 (bif y4==x3.1 then
 some (x3,[],x9,x10,x11)
 else
 (bif x3.1==3 then
 bif y4==1 then
 some (x3,x5,(y1,y2,y3,y4,y5,y6,y7,y8,y9),x9,x10,x11,true)
 else
 bif y4==2 then
 some (x3,x5,(y1,y2,y3,y4,y5,y6,y7,y8,y9),x9,x10,x11,y4==2)
 else
 bif x3.1==5 then
 some (x3,x5,(y1,y2,y3,y4,y5,y6,y7,y8,y9),x9,x10,x11,y4==4)
 else
 some (x3,x5,(y1,y2,y3,y4,y5,y6,y7,y8,y9),x9,x10,x11,false)
 else
 bif x3.1==5 then
 some (x3,x5,(y1,y2,y3,y4,y5,y6,y7,y8,y9),x9,x10,x11,y4==4)
 else
 some (x3,x5,(y1,y2,y3,y4,y5,y6,y7,y8,y9),x9,x10,x11,false):Option ((QR)×List (Int×Int×Int×QR)×(Int×Int×Int×QR)×List (Int×Int×Int×QR)×Int×Int×Bool)).bind (fun (x3,x5,x7,x9,x10,x11,x34)=>
 bif x34 then
 bif decide ((x5.length+[x7].length) * 88≤140737488355328) then
 some (x3,x5++[x7],x9,x10,x11)
 else none
 else
 some (x3,x5,x9,x10,x11)):Option ((QR)×List (Int×Int×Int×QR)×List (Int×Int×Int×QR)×Int×Int)).bind (fun (x3,x5,x9,x10,x11)=>
 some (x3,x5,x9,x10,x11))
 else
 (bif y4==x3.1 then
 some (x3,[],x9,x10,x11)
 else
 (bif x3.1==3 then
 bif y4==1 then
 some (x3,x5,(y1,y2,y3,y4,y5,y6,y7,y8,y9),x9,x10,x11,true)
 else
 bif y4==2 then
 some (x3,x5,(y1,y2,y3,y4,y5,y6,y7,y8,y9),x9,x10,x11,y4==2)
 else
 bif x3.1==5 then
 some (x3,x5,(y1,y2,y3,y4,y5,y6,y7,y8,y9),x9,x10,x11,y4==4)
 else
 some (x3,x5,(y1,y2,y3,y4,y5,y6,y7,y8,y9),x9,x10,x11,false)
 else
 bif x3.1==5 then
 some (x3,x5,(y1,y2,y3,y4,y5,y6,y7,y8,y9),x9,x10,x11,y4==4)
 else
 some (x3,x5,(y1,y2,y3,y4,y5,y6,y7,y8,y9),x9,x10,x11,false):Option ((QR)×List (Int×Int×Int×QR)×(Int×Int×Int×QR)×List (Int×Int×Int×QR)×Int×Int×Bool)).bind (fun (x3,x5,x7,x9,x10,x11,x34)=>
 bif x34 then
 bif decide ((x5.length+[x7].length) * 88≤140737488355328) then
 some (x3,x5++[x7],x9,x10,x11)
 else none
 else
 some (x3,x5,x9,x10,x11)):Option ((QR)×List (Int×Int×Int×QR)×List (Int×Int×Int×QR)×Int×Int)).bind (fun (x3,x5,x9,x10,x11)=>
 some (x3,x5,x9,x10,x11)):Option ((QR)×List (Int×Int×Int×QR)×List (Int×Int×Int×QR)×Int×Int)).bind (fun (x3,x5,x9,x10,x11)=>
 rec (x3,x5,x9,x10,w64 (x11+1)))
 else none
 else
 some x5
def ψx.f (p0:QL) (p1:QR):Option (QL):=
 (lp ψx.l0 (p1,[],p0,(p0.length:Int),0)).bind (fun x5=>
 some x5)
def ψ6.l0 (rec:(QB×List (QE)×List (QE)×Int×Int)→Option (List (QE))):(QB×List (QE)×List (QE)×Int×Int)→Option (List (QE)):=fun (x1,x5,x8,x9,x10)=>
 bif decide (x10<x9) then
 bif inB x10 x8.length then
 let y1:=(rdA ([],0,0,0,0) x8 x10).1
 let y2:=((rdA ([],0,0,0,0) x8 x10).2).1
 let y3:=(((rdA ([],0,0,0,0) x8 x10).2).2).1
 let y4:=((((rdA ([],0,0,0,0) x8 x10).2).2).2).1
 let y5:=((((rdA ([],0,0,0,0) x8 x10).2).2).2).2
 (bif !(y1==x1) then
 bif decide ((x5.length+[(y1,y2,y3,y4,y5)].length) * 48≤140737488355328) then
 let l6:=x5++[(y1,y2,y3,y4,y5)]
 some (x1,l6,x8,x9,x10)
 else none
 else
 some (x1,x5,x8,x9,x10):Option (QB×List (QE)×List (QE)×Int×Int)).bind (fun (x1,x5,x8,x9,x10)=>
 rec (x1,x5,x8,x9,w64 (x10+1)))
 else none
 else
 some x5
def ψ6.f (p0:List (QE)) (p1:QB):Option (List (QE)):=
 (lp ψ6.l0 (p1,[],p0,(p0.length:Int),0)).bind (fun x5=>
 some x5)
def ψ8.l0 (rec:((QE)×List (QE)×Int)→Option ((QE)×List (QE)×Int)):((QE)×List (QE)×Int)→Option ((QE)×List (QE)×Int):=fun (x3,x5,x6)=>
 bif decide (x6<(x5.length:Int)) then
 bif inB x6 x5.length then
 bif (Op.bytesLess ((rdA ([],0,0,0,0) x5 x6).1) x3.1 || ((rdA ([],0,0,0,0) x5 x6).1)==x3.1) then
 rec (x3,x5,w64 (x6+1))
 else
 some (x3,x5,x6)
 else none
 else
 some (x3,x5,x6)
def ψ8.f (p0:List (QE)) (p1:QE):Option (List (QE)):=
 (ψ6.f p0 p1.1).bind fun t1=>
 (lp ψ8.l0 (p1,t1,0)).bind (fun (x3,x5,x6)=>
 bif (decide (0≤x6) && decide (x6≤(x5.length:Int))) then
 (ψp.f (x5.take x6.toNat)).bind fun t2=>
 bif decide ((t2.length+[x3].length) * 48≤140737488355328) then
 bif (decide (0≤x6) && decide (x6≤(x5.length:Int))) then
 bif decide (((t2++[x3]).length+(x5.drop x6.toNat).length) * 48≤140737488355328) then
 let l3:=(t2++[x3])++(x5.drop x6.toNat)
 some l3
 else none
 else none
 else none
 else none)
def ψG.l0 (rec:((List (QE)×Int×Int)×List (Int×Int×Int×QR)×Int×Int)→Option (List (QE)×Int×Int)):((List (QE)×Int×Int)×List (Int×Int×Int×QR)×Int×Int)→Option (List (QE)×Int×Int):=fun (x0,x6,x7,x8)=>
 bif decide (x8<x7) then
 bif inB x8 x6.length then
 let y1:=(rdA (0,0,0,0,0,[],[],0,0) x6 x8).1
 let y2:=((rdA (0,0,0,0,0,[],[],0,0) x6 x8).2).1
 let y3:=(((rdA (0,0,0,0,0,[],[],0,0) x6 x8).2).2).1
 let y4:=((((rdA (0,0,0,0,0,[],[],0,0) x6 x8).2).2).2).1
 let y5:=(((((rdA (0,0,0,0,0,[],[],0,0) x6 x8).2).2).2).2).1
 let y6:=((((((rdA (0,0,0,0,0,[],[],0,0) x6 x8).2).2).2).2).2).1
 let y7:=(((((((rdA (0,0,0,0,0,[],[],0,0) x6 x8).2).2).2).2).2).2).1
 let y8:=((((((((rdA (0,0,0,0,0,[],[],0,0) x6 x8).2).2).2).2).2).2).2).1
 let y9:=((((((((rdA (0,0,0,0,0,[],[],0,0) x6 x8).2).2).2).2).2).2).2).2
 (bif y4==2 then
 (ψ6.f x0.1 y6).bind fun t10=>
 some ((t10,x0.2),x6,x7,x8)
 else
 (ψ8.f x0.1 (y6,y1,y2,y3,y5)).bind fun t11=>
 some ((t11,x0.2),x6,x7,x8):Option ((List (QE)×Int×Int)×List (Int×Int×Int×QR)×Int×Int)).bind (fun (x0,x6,x7,x8)=>
 rec (x0,x6,x7,w64 (x8+1)))
 else none
 else
 some x0
def ψG.f (p0:List (QE)×Int×Int) (p1:QL):Option (List (QE)×Int×Int):=
 (lp ψG.l0 (p0,p1,(p1.length:Int),0)).bind (fun x0=>
 bif decide ((x0.1.length:Int) > 20) then
 some (x0.1,x0.2.1,2)
 else
 some x0)
def ψX.l0 (rec:(List (Int×Int×Int×QR)×(List (QE)×Int×Int)×(List (QE)×Int×Int)×List (Int×Int×Int×QR)×Int×Int)→Option ((List (Int×Int×Int×QR)×(List (QE)×Int×Int)×List (QE)×Int×Int) ⊕ (List (QE)×Int×Int))):(List (Int×Int×Int×QR)×(List (QE)×Int×Int)×(List (QE)×Int×Int)×List (Int×Int×Int×QR)×Int×Int)→Option ((List (Int×Int×Int×QR)×(List (QE)×Int×Int)×List (QE)×Int×Int) ⊕ (List (QE)×Int×Int)):=fun (x1,x4,x5,x17,x18,x19)=>
 bif decide (x19<x18) then
 (bif inB x19 x17.length then
 let y2:=(rdA (0,0,0,0,0,[],[],0,0) x17 x19).1
 let y3:=((rdA (0,0,0,0,0,[],[],0,0) x17 x19).2).1
 let y4:=(((rdA (0,0,0,0,0,[],[],0,0) x17 x19).2).2).1
 let y5:=((((rdA (0,0,0,0,0,[],[],0,0) x17 x19).2).2).2).1
 let y6:=(((((rdA (0,0,0,0,0,[],[],0,0) x17 x19).2).2).2).2).1
 let y7:=((((((rdA (0,0,0,0,0,[],[],0,0) x17 x19).2).2).2).2).2).1
 let y8:=(((((((rdA (0,0,0,0,0,[],[],0,0) x17 x19).2).2).2).2).2).2).1
 let y9:=((((((((rdA (0,0,0,0,0,[],[],0,0) x17 x19).2).2).2).2).2).2).2).1
 let y10:=((((((((rdA (0,0,0,0,0,[],[],0,0) x17 x19).2).2).2).2).2).2).2).2
 bif x5.2.2 != 0 then
 some (Sum.inr x5)
 else
 let y11:=if y6 > x5.2.1 then y6 else x5.2.1
 (bif y5 != 3 then
 bif y5 != 5 then
 some (Sum.inr (x1,x4,(x5.1,y11,x5.2.2),x17,x18,x19))
 else
 some (Sum.inl (x1,x4,(x5.1,y11,x5.2.2),x19,(y2,y3,y4,y5,y6,y7,y8,y9,y10),x17,x18,x19))
 else
 some (Sum.inl (x1,x4,(x5.1,y11,x5.2.2),x19,(y2,y3,y4,y5,y6,y7,y8,y9,y10),x17,x18,x19)):Option ((List (Int×Int×Int×QR)×(List (QE)×Int×Int)×(List (QE)×Int×Int)×Int×(Int×Int×Int×QR)×List (Int×Int×Int×QR)×Int×Int) ⊕ (List (Int×Int×Int×QR)×(List (QE)×Int×Int)×(List (QE)×Int×Int)×List (Int×Int×Int×QR)×Int×Int))).bind (fun o12=>φF o12 (fun (x1,x4,x5,x6,x7,x17,x18,x19)=>
 bif (decide (0≤x6) && decide (x6≤(x1.length:Int))) then
 (ψx.f (x1.take x6.toNat) x7.2.2.2).bind fun t13=>
 ((ψs.f x7.2.2.2 t13).bind fun t14=>
 bif t14 then
 (ψG.f x5 t13).bind fun t15=>
 some (x1,x4,t15,x17,x18,x19)
 else
 (let y16:=x7.2.2.2.1==5
 bif y16 then
 some (x1,x4,(x5.1,x5.2.1,1),x17,x18,x19)
 else
 some (x1,x4,x5,x17,x18,x19):Option (List (Int×Int×Int×QR)×(List (QE)×Int×Int)×(List (QE)×Int×Int)×List (Int×Int×Int×QR)×Int×Int)).bind (fun (x1,x4,x5,x17,x18,x19)=>
 some (x1,x4,x5,x17,x18,x19)):Option (List (Int×Int×Int×QR)×(List (QE)×Int×Int)×(List (QE)×Int×Int)×List (Int×Int×Int×QR)×Int×Int)).bind (fun (x1,x4,x5,x17,x18,x19)=>
 some (Sum.inl (x1,x4,x5,x17,x18,x19)))
 else none) (fun (x1,x4,x5,x17,x18,x19)=>
 some (Sum.inl (x1,x4,x5,x17,x18,x19))))
 else none:Option ((List (Int×Int×Int×QR)×(List (QE)×Int×Int)×(List (QE)×Int×Int)×List (Int×Int×Int×QR)×Int×Int) ⊕ (List (QE)×Int×Int))).bind (fun o17=>φF o17 (fun (x1,x4,x5,x17,x18,x19)=>
 rec (x1,x4,x5,x17,x18,w64 (x19+1))) (fun x4=>
 some (Sum.inr x4)))
 else
 some (Sum.inl (x1,x4,x5))
def ψX.f (p0:List (QE)×Int×Int) (p1:QL):Option (List (QE)×Int×Int):=
 (ψp.f p0.1).bind fun t1=>
 (lp ψX.l0 (p1,([],0,0),(t1,p0.2),p1,(p1.length:Int),0)).bind (fun o18=>φF o18 (fun (x1,x4,x5)=>
 bif x5.2.2==0 then
 (ψx.f x1 (5,0,[],[],0,0)).bind fun t19=>
 bif decide ((t19.length:Int) > 0) then
 some (x5.1,x5.2.1,1)
 else
 some x5
 else
 some x5) (fun x4=>
 some x4))
def ψY.f (p0:QD) (p1:QB):Option ((QD)×Int):=
 (ψ14.f p0 p1).bind fun (t1_0,t1_1)=>
 some (t1_0,t1_1)
def ψ1H.f (p0:(QD)×Int) (p1:QB):Option ((QD)×Int):=
 bif p0.2==0 then
 (ψr.f p0.1 p1).bind fun t1=>
 bif decide (t1≥0) then
 (ψY.f p0.1 p1).bind fun (t2_0,t2_1)=>
 (ψ1P.f p0 t2_0 t2_1).bind fun t3=>
 some t3
 else
 some p0
 else
 some p0
def ψ3B.f (p0:QB) (p1:QB):Option (Bool):=
 bif decide ((p0.length:Int)≥(p1.length:Int)) then
 bif (decide (0≤(p1.length:Int)) && decide ((p1.length:Int)≤(p0.length:Int))) then
 let y1:=(p0.take ((p1.length:Int).toNat))==p1
 some y1
 else none
 else
 some false
def ψ3A.f (p0:QB) (p1:QB):Option (QB×Bool):=
 (ψ3B.f p0 p1).bind fun t1=>
 bif !t1 then
 some (p0,false)
 else
 bif (decide (0≤(p1.length:Int)) && decide ((p1.length:Int)≤(p0.length:Int))) then
 let y2:=p0.drop ((p1.length:Int).toNat)
 some (y2,true)
 else none
def ψ39.f (p0:QB) (p1:QB):Option (QB×Bool):=
 (ψ3A.f p0 p1).bind fun (t1_0,t1_1)=>
 some (t1_0,t1_1)
def ψQ.f (p0:QB):Option (Int×Bool):=
 (strconv_Atoi.f p0).bind fun (t1_0,t1_1)=>
 bif t1_1 then
 some (0,false)
 else
 (ψ5.f t1_0).bind fun t2=>
 bif !(t2==p0) then
 some (0,false)
 else
 (ψv.f t1_0 (-999999999) 999999999).bind fun t3=>
 bif !t3 then
 some (0,false)
 else
 some (t1_0,true)
def ψK.f (p0:QB):Option (Int×Bool):=
 (ψ39.f p0 [115,101,103]).bind fun (t1_0,t1_1)=>
 (bif !t1_1 then
 (ψ39.f p0 [104,105,110,116]).bind fun (t2_0,t2_1)=>
 some (t2_0,t2_1)
 else
 some (t1_0,t1_1):Option (QB×Bool)).bind (fun (x4,x5)=>
 (ψQ.f x4).bind fun (t3_0,t3_1)=>
 bif !x5 then
 some (0,false)
 else
 bif !t3_1 then
 some (0,false)
 else
 (ψv.f t3_0 1 100000).bind fun t4=>
 bif !t4 then
 some (0,false)
 else
 some (t3_0,true))
def ψt.l0 (rec:(Int×QC)→Option ((Unit) ⊕ (Bool))):(Int×QC)→Option ((Unit) ⊕ (Bool)):=fun (x1,x7,x8,x9)=>
 bif decide (x9<x8) then
 bif inB x9 x7.length then
 bif (rdA 0 x7 x9)==x1 then
 some (Sum.inr true)
 else
 rec (x1,x7,x8,w64 (x9+1))
 else none
 else
 some (Sum.inl ())
def ψt.f (p0:List Int) (p1:Int):Option (Bool):=
 (lp ψt.l0 (p1,p0,(p0.length:Int),0)).bind (fun o1=>φF o1 (fun _=>
 some false) (fun x4=>
 some x4))
def ψP.l0 (rec:((Int×List Int)×List (QB)×List (QF)×Int×Int)→Option (List (QB))):((Int×List Int)×List (QB)×List (QF)×Int×Int)→Option (List (QB)):=fun (x3,x5,x14,x15,x16)=>
 bif decide (x16<x15) then
 bif inB x16 x14.length then
 let y2:=(rdA ([],[],0) x14 x16).1
 let y3:=((rdA ([],[],0) x14 x16).2).1
 let y4:=((rdA ([],[],0) x14 x16).2).2
 (ψK.f y2).bind fun (t5_0,t5_1)=>
 (bif y2==[116,101,109,112] then
 bif decide ((x5.length+[y2].length) * 16≤140737488355328) then
 some (x3,x5++[y2],x14,x15,x16)
 else none
 else
 bif t5_1 then
 (ψt.f x3.2 t5_0).bind fun t6=>
 bif !t6 then
 bif decide ((x5.length+[y2].length) * 16≤140737488355328) then
 some (x3,x5++[y2],x14,x15,x16)
 else none
 else
 some (x3,x5,x14,x15,x16)
 else
 some (x3,x5,x14,x15,x16):Option ((Int×List Int)×List (QB)×List (QF)×Int×Int)).bind (fun (x3,x5,x14,x15,x16)=>
 rec (x3,x5,x14,x15,w64 (x16+1)))
 else none
 else
 some x5
def ψP.f (p0:QD) (p1:Int×List Int):Option (List (QB)):=
 (ψ9.f p0).bind fun t1=>
 bif !t1 then
 some []
 else
 (lp ψP.l0 (p1,[],p0.1,(p0.1.length:Int),0)).bind (fun x5=>
 some x5)
def ψ1J.l0 (rec:(((QD)×Int)×List (QB)×Int×Int)→Option ((QD)×Int)):(((QD)×Int)×List (QB)×Int×Int)→Option ((QD)×Int):=fun (x0,x11,x12,x13)=>
 bif decide (x13<x12) then
 bif inB x13 x11.length then
 let y2:=rdA [] x11 x13
 (ψ1H.f x0 y2).bind fun t3=>
 rec (t3,x11,x12,w64 (x13+1))
 else none
 else
 some x0
def ψ1J.f (p0:(QD)×Int) (p1:Int×List Int):Option ((QD)×Int):=
 (ψP.f p0.1 p1).bind fun t1=>
 (lp ψ1J.l0 (p0,t1,(t1.length:Int),0)).bind (fun x0=>
 some x0)
def ψ1G.l0 (rec:(((QD)×Int)×(QS)×(Int×List Int)×(QS)×(List (QE)×Int×Int)×List (Int×Int×Int×QR)×List (QL)×Int×Int)→Option (((QD)×Int)×(QS)×(Int×List Int)×(QS)×(List (QE)×Int×Int)×QL)):(((QD)×Int)×(QS)×(Int×List Int)×(QS)×(List (QE)×Int×Int)×List (Int×Int×Int×QR)×List (QL)×Int×Int)→Option (((QD)×Int)×(QS)×(Int×List Int)×(QS)×(List (QE)×Int×Int)×QL):=fun (x0,x4,x5,x13,x14,x16,x103,x104,x105)=>
 bif decide (x105<x104) then
 bif inB x105 x103.length then
 bif decide ((x16.length+(rdA [] x103 x105).length) * 88≤140737488355328) then
 let l9:=x16++(rdA [] x103 x105)
 rec (x0,x4,(x5.1,[]),x13,x14,l9,x103,x104,w64 (x105+1))
 else none
 else none
 else
 some (x0,x4,(x5.1,[]),x13,x14,x16)
def ψ1G.f (p0:(QD)×Int) (p1:QB):Option ((QS)×(QD)×Int):=
 (ψT.f p1).bind fun (t1_0,t1_1)=>
 (ψ1N.f p0 t1_0).bind fun (t2_0,t2_1,t2_2,t2_3)=>
 bif !t1_1 then
 some (((0,[]),[],0,0,0),(t2_3.1,3))
 else
 bif !t2_2 then
 some (((0,[]),[],0,0,0),(t2_3.1,3))
 else
 bif inB (w64 ((t1_0.2.length:Int) - 1)) t1_0.2.length then
 (ψe.f (rdA 0 t1_0.2 (w64 ((t1_0.2.length:Int) - 1)))).bind fun t3=>
 (ψD.f t2_3.1 t3).bind fun (t4_0,t4_1)=>
 (bif (t4_0.length:Int) != t2_1 then
 (ψl.f t2_3.1 t3 t2_1).bind fun (t5_0,t5_1)=>
 (ψ1P.f t2_3 t5_0 t5_1).bind fun t6=>
 some (t6,((0,[]),[],0,0,0),t1_0,t2_0,t2_1,t3)
 else
 some (t2_3,((0,[]),[],0,0,0),t1_0,t2_0,t2_1,t3):Option (((QD)×Int)×(QS)×(Int×List Int)×List (QL)×Int×QB)).bind (fun (x0,x4,x5,x7,x8,x10)=>
 (ψ1O.f x0 x10).bind fun t7=>
 bif t7.2 != 0 then
 some (((0,[]),[],0,0,0),t7)
 else
 bif inB 0 x5.2.length then
 (ψ1I.f t7 (rdA 0 x5.2 0)).bind fun (t8_0,t8_1,t8_2)=>
 (bif t8_1 then
 bif inB 0 x5.2.length then
 bif (decide (0≤(1:Int)) && decide (1≤(x7.length:Int))) then
 some (t8_2,x4,(x5.1,[]),x7.drop 1,(x5,[],0,x8,rdA 0 x5.2 0),t8_0)
 else none
 else none
 else
 some (t8_2,x4,(x5.1,[]),x7,(x5,[],0,x8,0),t8_0):Option (((QD)×Int)×(QS)×(Int×List Int)×List (QL)×(QS)×List (QE)×Int×Int)).bind (fun (x0,x4,x5,x7,x13,x14)=>
 (lp ψ1G.l0 (x0,x4,(x5.1,[]),x13,x14,[],x7,(x7.length:Int),0)).bind (fun (x0,x4,x5,x13,x14,x16)=>
 (ψX.f x14 x16).bind fun t10=>
 bif t10.2.2 != 0 then
 some (((0,[]),[],0,0,0),(x0.1,3))
 else
 (ψ1J.f x0 (x5.1,x13.1.2)).bind fun t11=>
 let y12:=w64 (t10.2.1+1)
 some ((x13.1,t10.1,y12,x13.2.2.2),t11)))
 else none)
 else none
def ψ3.f (p0:QD) (p1:QB):Option ((QD)×Int):=
 (ψ13.f p0 p1).bind fun (t1_0,t1_1)=>
 some (t1_0,t1_1)
def ψ1D.f (p0:(QD)×Int) (p1:QB):Option ((QD)×Int):=
 bif p0.2==0 then
 (ψ3.f p0.1 p1).bind fun (t1_0,t1_1)=>
 (ψ1P.f p0 t1_0 t1_1).bind fun t2=>
 some t2
 else
 some p0
def ψ1C.f (p0:(QD)×Int) (p1:QB):Option ((QD)×Int):=
 (ψ1H.f p0 p1).bind fun t1=>
 (ψ1D.f t1 p1).bind fun t2=>
 some t2
def ψ0.f (p0:QD) (p1:QB) (p2:QB):Option ((QD)×Int):=
 (ψ12.f p0 (p1,p2)).bind fun (t1_0,t1_1)=>
 some (t1_0,t1_1)
def ψ1K.f (p0:(QD)×Int) (p1:QB) (p2:QB):Option ((QD)×Int):=
 bif p0.2==0 then
 (ψ0.f p0.1 p1 p2).bind fun (t1_0,t1_1)=>
 (ψ1P.f p0 t1_0 t1_1).bind fun t2=>
 some t2
 else
 some p0
def ψ1E.f (p0:(QD)×Int) (p1:QB) (p2:QB):Option ((QD)×Int):=
 (ψ1C.f p0 p1).bind fun t1=>
 (ψ1K.f t1 p1 p2).bind fun t2=>
 (ψ1O.f t2 p1).bind fun t3=>
 some t3
def ψg.f (p0:Int×List Int):Option (QB):=
 (ψM.f p0).bind fun t1=>
 bif !t1 then
 some []
 else
 (ψ1B.f [p0.1,(p0.2.length:Int)]).bind fun t2=>
 (ψ1B.f p0.2).bind fun t3=>
 bif decide (t2.length+t3.length≤9223372036854775807) then
 (ψF.f (t2++t3)).bind fun t4=>
 some t4
 else none
def ψa.f (p0:QD) (p1:QB) (p2:QB):Option ((QD)×Int):=
 (ψ15.f p0 (p1,p2)).bind fun (t1_0,t1_1)=>
 some (t1_0,t1_1)
def ψ1M.f (p0:(QD)×Int) (p1:QB) (p2:QB):Option ((QD)×Int):=
 bif p0.2==0 then
 (ψa.f p0.1 p1 p2).bind fun (t1_0,t1_1)=>
 (ψ1P.f p0 t1_0 t1_1).bind fun t2=>
 some t2
 else
 some p0
def ψ1L.f (p0:(QD)×Int) (p1:Int×List Int):Option ((QD)×Int):=
 (ψg.f p1).bind fun t1=>
 (ψ1E.f p0 [116,101,109,112] t1).bind fun t2=>
 (ψ1M.f t2 [116,101,109,112] [108,105,118,101]).bind fun t3=>
 some t3
def ψ1F.f (p0:(QD)×Int):Option ((QS)×(QD)×Int):=
 (ψ1J.f p0 (0,[])).bind fun t1=>
 (ψe.f 1).bind fun t2=>
 (ψ1D.f t1 t2).bind fun t3=>
 (ψ1L.f t3 (2,[1])).bind fun t4=>
 some (((2,[1]),[],1,0,0),t4)
def ψO.f (p0:QD):Option ((QS)×(QD)×Int):=
 (ψq.f p0).bind fun t1=>
 (ψ9.f p0).bind fun t2=>
 bif !t2 then
 some (((0,[]),[],0,0,0),t1,4)
 else
 bif p0.2.2.2 then
 some (((0,[]),[],0,0,0),t1,1)
 else
 (ψD.f p0 [108,105,118,101]).bind fun (t3_0,t3_1)=>
 (bif t3_1 then
 (ψ1G.f (t1,0) t3_0).bind fun (t4_0,t4_1)=>
 some (((0,[]),[],0,0,0),([],0,0,false),t4_1,t4_0)
 else
 (ψ1F.f (t1,0)).bind fun (t5_0,t5_1)=>
 some (((0,[]),[],0,0,0),([],0,0,false),t5_1,t5_0):Option ((QS)×(QD)×((QD)×Int)×QS)).bind (fun (x2,x3,x5,x6)=>
 bif x5.2 != 0 then
 some (((0,[]),[],0,0,0),x5.1,x5.2)
 else
 some (x6,x5.1,0))
def ψC.f (p0:QD):Option ((QN)×Int):=
 (ψO.f p0).bind fun (t1_0,t1_1,t1_2)=>
 let l2:=κU 3 (false,[],[])
 some ((t1_2==0,t1_0,t1_1,l2),t1_2)
def ψ31.l0 (rec:((QD)×Int×Int)→Option (Int)):((QD)×Int×Int)→Option (Int):=fun (x1,x3,x4)=>
 bif decide (x4<(x1.1.length:Int)) then
 bif inB x4 x1.1.length then
 let y1:=w64 (x3+((((rdA ([],[],0) x1.1 x4).2).1).length:Int))
 rec (x1,y1,w64 (x4+1))
 else none
 else
 some x3
def ψ31.f (p0:QD):Option (Int):=
 (lp ψ31.l0 (p0,0,0)).bind (fun x3=>
 some x3)
def ψ2P.l0 (rec:(QB×Int)→Option ((QB) ⊕ (Bool))):(QB×Int)→Option ((QB) ⊕ (Bool)):=fun (x0,x3)=>
 bif decide (x3<(x0.length:Int)) then
 (bif inB x3 x0.length then
 bif decide ((bAt x0 x3)≥97) then
 bif inB x3 x0.length then
 bif decide ((bAt x0 x3)≤122) then
 some (Sum.inl (x0,x3))
 else
 bif inB x3 x0.length then
 bif decide ((bAt x0 x3)≥48) then
 bif inB x3 x0.length then
 bif !(decide ((bAt x0 x3)≤57)) then
 some (Sum.inr false)
 else
 some (Sum.inl (x0,x3))
 else none
 else
 some (Sum.inr false)
 else none
 else none
 else
 bif inB x3 x0.length then
 bif decide ((bAt x0 x3)≥48) then
 bif inB x3 x0.length then
 bif !(decide ((bAt x0 x3)≤57)) then
 some (Sum.inr false)
 else
 some (Sum.inl (x0,x3))
 else none
 else
 some (Sum.inr false)
 else none
 else none:Option ((QB×Int) ⊕ (Bool))).bind (fun o1=>φF o1 (fun (x0,x3)=>
 rec (x0,w64 (x3+1))) (fun x2=>
 some (Sum.inr x2)))
 else
 some (Sum.inl x0)
def ψ2P.f (p0:QB):Option (Bool):=
 (lp ψ2P.l0 (p0,0)).bind (fun o2=>φF o2 (fun x0=>
 (ψ2w.f (x0.length:Int) 1 12).bind fun t3=>
 some t3) (fun x2=>
 some x2))
def ψ2E.l0 (rec:((QD)×Int)→Option ((Unit) ⊕ (Bool))):((QD)×Int)→Option ((Unit) ⊕ (Bool)):=fun (x1,x3)=>
 bif decide (x3<(x1.1.length:Int)) then
 (bif inB x3 x1.1.length then
 (ψ2P.f ((rdA ([],[],0) x1.1 x3).1)).bind fun t4=>
 bif !t4 then
 some (Sum.inr false)
 else
 bif inB x3 x1.1.length then
 bif inB x3 x1.1.length then
 (ψ2w.f (((rdA ([],[],0) x1.1 x3).2).2) 0 ((((rdA ([],[],0) x1.1 x3).2).1).length:Int)).bind fun t5=>
 bif !t5 then
 some (Sum.inr false)
 else
 bif decide (x3 > 0) then
 bif inB x3 x1.1.length then
 bif inB (w64 (x3 - 1)) x1.1.length then
 bif (Op.bytesLess ((rdA ([],[],0) x1.1 x3).1) ((rdA ([],[],0) x1.1 (w64 (x3 - 1))).1) || ((rdA ([],[],0) x1.1 x3).1)==((rdA ([],[],0) x1.1 (w64 (x3 - 1))).1)) then
 some (Sum.inr false)
 else
 some (Sum.inl (x1,x3))
 else none
 else none
 else
 some (Sum.inl (x1,x3))
 else none
 else none
 else none:Option (((QD)×Int) ⊕ (Bool))).bind (fun o6=>φF o6 (fun (x1,x3)=>
 rec (x1,w64 (x3+1))) (fun x2=>
 some (Sum.inr x2)))
 else
 some (Sum.inl ())
def ψ2E.f (p0:QD):Option (Bool):=
 bif decide ((p0.1.length:Int) > 130) then
 some false
 else
 (ψ2w.f p0.2.1 0 100000).bind fun t1=>
 bif !t1 then
 some false
 else
 (ψ2w.f p0.2.2.1 (-1) 100000).bind fun t2=>
 bif !t2 then
 some false
 else
 (ψ31.f p0).bind fun t3=>
 bif decide (t3 > p0.2.1) then
 some false
 else
 (lp ψ2E.l0 (p0,0)).bind (fun o7=>φF o7 (fun _=>
 some true) (fun x2=>
 some x2))
def ψ2O.l0 (rec:((Int×List Int)×Int)→Option ((Unit) ⊕ (Bool))):((Int×List Int)×Int)→Option ((Unit) ⊕ (Bool)):=fun (x1,x3)=>
 bif decide (x3<(x1.2.length:Int)) then
 (bif inB x3 x1.2.length then
 (ψ2w.f (rdA 0 x1.2 x3) 1 (w64 (x1.1 - 1))).bind fun t3=>
 bif !t3 then
 some (Sum.inr false)
 else
 bif decide (x3 > 0) then
 bif inB x3 x1.2.length then
 bif inB (w64 (x3 - 1)) x1.2.length then
 bif decide ((rdA 0 x1.2 x3)≤(rdA 0 x1.2 (w64 (x3 - 1)))) then
 some (Sum.inr false)
 else
 some (Sum.inl (x1,x3))
 else none
 else none
 else
 some (Sum.inl (x1,x3))
 else none:Option (((Int×List Int)×Int) ⊕ (Bool))).bind (fun o4=>φF o4 (fun (x1,x3)=>
 rec (x1,w64 (x3+1))) (fun x2=>
 some (Sum.inr x2)))
 else
 some (Sum.inl ())
def ψ2O.f (p0:Int×List Int):Option (Bool):=
 (ψ2w.f p0.1 1 100000).bind fun t1=>
 bif !t1 then
 some false
 else
 (ψ2w.f (p0.2.length:Int) 1 60).bind fun t2=>
 bif !t2 then
 some false
 else
 (lp ψ2O.l0 (p0,0)).bind (fun o5=>φF o5 (fun _=>
 some true) (fun x2=>
 some x2))
def ψ2N.f (p0:QB):Option (Bool):=
 (ψ2w.f (p0.length:Int) 1 8).bind fun t1=>
 some t1
def ψ2C.l0 (rec:(List (QE)×Int)→Option ((Unit) ⊕ (Bool))):(List (QE)×Int)→Option ((Unit) ⊕ (Bool)):=fun (x0,x3)=>
 bif decide (x3<(x0.length:Int)) then
 bif inB x3 x0.length then
 let y1:=(rdA ([],0,0,0,0) x0 x3).1
 let y2:=((rdA ([],0,0,0,0) x0 x3).2).1
 let y3:=(((rdA ([],0,0,0,0) x0 x3).2).2).1
 let y4:=((((rdA ([],0,0,0,0) x0 x3).2).2).2).1
 let y5:=((((rdA ([],0,0,0,0) x0 x3).2).2).2).2
 ((ψ2N.f y1).bind fun t6=>
 bif !t6 then
 some (Sum.inr false)
 else
 (ψ2w.f y2 1 100000).bind fun t7=>
 bif !t7 then
 some (Sum.inr false)
 else
 bif decide (y3<0) then
 some (Sum.inr false)
 else
 (ψ2w.f y4 1 210).bind fun t8=>
 bif !t8 then
 some (Sum.inr false)
 else
 (ψ2w.f y5 1 1000000).bind fun t9=>
 bif !t9 then
 some (Sum.inr false)
 else
 bif decide (x3 > 0) then
 bif inB (w64 (x3 - 1)) x0.length then
 bif (Op.bytesLess y1 ((rdA ([],0,0,0,0) x0 (w64 (x3 - 1))).1) || y1==((rdA ([],0,0,0,0) x0 (w64 (x3 - 1))).1)) then
 some (Sum.inr false)
 else
 some (Sum.inl (x0,x3))
 else none
 else
 some (Sum.inl (x0,x3)):Option ((List (QE)×Int) ⊕ (Bool))).bind (fun o10=>φF o10 (fun (x0,x3)=>
 rec (x0,w64 (x3+1))) (fun x2=>
 some (Sum.inr x2)))
 else none
 else
 some (Sum.inl ())
def ψ2C.f (p0:List (QE)):Option (Bool):=
 bif decide ((p0.length:Int) > 20) then
 some false
 else
 (lp ψ2C.l0 (p0,0)).bind (fun o11=>φF o11 (fun _=>
 some true) (fun x2=>
 some x2))
def ψ2z.l0 (rec:(QB×(QD)×Int)→Option ((Unit) ⊕ (Int))):(QB×(QD)×Int)→Option ((Unit) ⊕ (Int)):=fun (x1,x2,x5)=>
 bif decide (x5<(x2.1.length:Int)) then
 bif inB x5 x2.1.length then
 bif ((rdA ([],[],0) x2.1 x5).1)==x1 then
 some (Sum.inr x5)
 else
 rec (x1,x2,w64 (x5+1))
 else none
 else
 some (Sum.inl ())
def ψ2z.f (p0:QD) (p1:QB):Option (Int):=
 (lp ψ2z.l0 (p1,p0,0)).bind (fun o1=>φF o1 (fun _=>
 some (-1)) (fun x4=>
 some x4))
def ψ2G.f (p0:QD) (p1:QB):Option (QB×Bool):=
 (ψ2E.f p0).bind fun t1=>
 bif !t1 then
 some ([],false)
 else
 (ψ2z.f p0 p1).bind fun t2=>
 bif decide (t2<0) then
 some ([],false)
 else
 bif inB t2 p0.1.length then
 let y3:=((rdA ([],[],0) p0.1 t2).2).1
 some (y3,true)
 else none
def ψ2A.l0 (rec:(Int×QB×Bool)→Option (QB×Bool)):(Int×QB×Bool)→Option (QB×Bool):=fun (x0,x3,x4)=>
 bif x0 != 0 then
 let y2:=Int.tmod x0 10
 (bif decide (y2<0) then
 some (x0,x3,x4,w64 (0 - y2))
 else
 some (x0,x3,x4,y2):Option (Int×QB×Bool×Int)).bind (fun (x0,x3,x4,x5)=>
 bif decide ((φm [IntKind.wrap .u8 (w64 (48+x5))]).length+x3.length≤9223372036854775807) then
 let y3:=(φm [IntKind.wrap .u8 (w64 (48+x5))])++x3
 let y4:=w64 (Int.tdiv x0 10)
 rec (y4,y3,x4)
 else none)
 else
 some (x3,x4)
def ψ2A.f (p0:Int):Option (QB):=
 bif p0==0 then
 some [48]
 else
 let y1:=decide (p0<0)
 (lp ψ2A.l0 (p0,[],y1)).bind (fun (x3,x4)=>
 bif x4 then
 bif decide (([45]:QB).length+x3.length≤9223372036854775807) then
 some ([45]++x3)
 else none
 else
 some x3)
def ψ2f.f (p0:Int):Option (QB):=
 (ψ2w.f p0 1 100000).bind fun t1=>
 bif !t1 then
 some []
 else
 (ψ2A.f p0).bind fun t2=>
 bif decide (([115,101,103]:QB).length+t2.length≤9223372036854775807) then
 let y3:=[115,101,103]++t2
 some y3
 else none
def ψ2n.l0 (rec:(Int×List Int)→Option (Int×List Int)):(Int×List Int)→Option (Int×List Int):=fun (x0,x3)=>
 bif decide (x0≥128) then
 bif decide ((x3.length+[IntKind.wrap .u8 (w64 (128+(Int.tmod x0 128)))].length) * 1≤140737488355328) then
 let l2:=x3++[IntKind.wrap .u8 (w64 (128+(Int.tmod x0 128)))]
 let y3:=w64 (Int.tdiv x0 128)
 rec (y3,l2)
 else none
 else
 some (x0,x3)
def ψ2n.f (p0:Int):Option (QB):=
 (ψ2w.f p0 0 562949953421311).bind fun t1=>
 bif !t1 then
 some []
 else
 (lp ψ2n.l0 (p0,([]:List Int))).bind (fun (x0,x3)=>
 bif decide ((x3.length+[IntKind.wrap .u8 (x0)].length) * 1≤140737488355328) then
 let l4:=x3++[IntKind.wrap .u8 (x0)]
 some (φm l4)
 else none)
def ψ2Y.l2 (rec:(QB×Int×Int×Int)→Option (QB×Int×Int)):(QB×Int×Int×Int)→Option (QB×Int×Int):=fun (x0,x4,x5,x6)=>
 bif decide (x6≥0) then
 bif inB x6 x0.length then
 let y1:=w64 ((w64 (x5 * 128))+(Int.tmod (w64 (bAt x0 x6)) 128))
 rec (x0,x4,y1,w64 (x6 - 1))
 else none
 else
 some (x0,x4,x5)
def ψ2Y.l0 (rec:(QB×Int)→Option ((Unit) ⊕ (Int×Int))):(QB×Int)→Option ((Unit) ⊕ (Int×Int)):=fun (x0,x4)=>
 bif decide (x4≤7) then
 bif decide (x4≤(x0.length:Int)) then
 (lp ψ2Y.l2 (x0,x4,0,w64 (x4 - 1))).bind (fun (x0,x4,x5)=>
 (ψ2n.f x5).bind fun t2=>
 bif (decide (0≤x4) && decide (x4≤(x0.length:Int))) then
 bif t2==(x0.take x4.toNat) then
 some (Sum.inr (x5,x4))
 else
 rec (x0,w64 (x4+1))
 else none)
 else
 some (Sum.inl ())
 else
 some (Sum.inl ())
def ψ2Y.f (p0:QB):Option (Int×Int):=
 (lp ψ2Y.l0 (p0,1)).bind (fun o3=>φF o3 (fun _=>
 some (0,0)) (fun (x2,x3)=>
 some (x2,x3)))
def ψ2H.l0 (rec:(Int×Int×QB×Int)→Option (Int×QB)):(Int×Int×QB×Int)→Option (Int×QB):=fun (x0,x1,x5,x6)=>
 bif decide (x6<x1) then
 bif decide ((φm [IntKind.wrap .u8 (Int.tmod x0 256)]).length+x5.length≤9223372036854775807) then
 let y2:=(φm [IntKind.wrap .u8 (Int.tmod x0 256)])++x5
 let y3:=w64 (Int.tdiv x0 256)
 rec (y3,x1,y2,w64 (x6+1))
 else none
 else
 some (x0,x5)
def ψ2H.f (p0:Int) (p1:Int):Option (QB):=
 (ψ2w.f p1 1 7).bind fun t1=>
 bif !t1 then
 some []
 else
 bif decide (p0<0) then
 some []
 else
 (lp ψ2H.l0 (p0,p1,[],0)).bind (fun (x0,x5)=>
 bif decide (x0 > 0) then
 some []
 else
 some x5)
def ψ28.l2 (rec:(QB×Int×Int×Int)→Option (QB×Int×Int)):(QB×Int×Int×Int)→Option (QB×Int×Int):=fun (x0,x3,x4,x5)=>
 bif decide (x5<8) then
 let y2:=w64 (Int.tdiv x3 2)
 (bif (Int.tmod x3 2)==1 then
 let y3:=bits (fun _ a b=>a ^^^ b) .i64 y2 2197175160
 some (x0,y3,x4,x5)
 else
 some (x0,y2,x4,x5):Option (QB×Int×Int×Int)).bind (fun (x0,x3,x4,x5)=>
 rec (x0,x3,x4,w64 (x5+1)))
 else
 some (x0,x3,x4)
def ψ28.l0 (rec:(QB×Int×Int)→Option (Int)):(QB×Int×Int)→Option (Int):=fun (x0,x3,x4)=>
 bif decide (x4<(x0.length:Int)) then
 bif inB x4 x0.length then
 let y1:=bits (fun _ a b=>a ^^^ b) .i64 x3 (w64 (bAt x0 x4))
 (lp ψ28.l2 (x0,y1,x4,0)).bind (fun (x0,x3,x4)=>
 rec (x0,x3,w64 (x4+1)))
 else none
 else
 some x3
def ψ28.f (p0:QB):Option (Int):=
 (lp ψ28.l0 (p0,4294967295,0)).bind (fun x3=>
 let y4:=w64 (4294967295 - x3)
 some y4)
def ψ2I.f (p0:QB):Option (QB):=
 bif decide ((p0.length:Int) > 200) then
 some []
 else
 (ψ2n.f (p0.length:Int)).bind fun t1=>
 bif decide (t1.length+p0.length≤9223372036854775807) then
 (ψ28.f (t1++p0)).bind fun t2=>
 (ψ2H.f t2 4).bind fun t3=>
 bif decide (t3.length+(t1++p0).length≤9223372036854775807) then
 let y4:=t3++(t1++p0)
 some y4
 else none
 else none
def ψ2m.f (p0:QB):Option (QB×Int):=
 bif decide ((p0.length:Int)<5) then
 some ([],0)
 else
 bif (decide (0≤(4:Int)) && decide (4≤(p0.length:Int))) then
 (ψ2Y.f (p0.drop 4)).bind fun (t1_0,t1_1)=>
 bif t1_1==0 then
 some ([],0)
 else
 bif decide (t1_0 > 200) then
 some ([],0)
 else
 bif decide (t1_0 > (w64 ((w64 ((p0.length:Int) - 4)) - t1_1))) then
 some ([],0)
 else
 bif (decide (0≤w64 ((w64 (4+t1_1))+t1_0)) && decide (w64 ((w64 (4+t1_1))+t1_0)≤(p0.length:Int))) then
 bif (decide (0≤w64 (4+t1_1)) && decide (w64 (4+t1_1)≤w64 ((w64 (4+t1_1))+t1_0))) then
 let y2:=(p0.take ((w64 ((w64 (4+t1_1))+t1_0)).toNat)).drop ((w64 (4+t1_1)).toNat)
 bif (decide (0≤w64 ((w64 (4+t1_1))+t1_0)) && decide (w64 ((w64 (4+t1_1))+t1_0)≤(p0.length:Int))) then
 (ψ2I.f y2).bind fun t3=>
 bif !((p0.take ((w64 ((w64 (4+t1_1))+t1_0)).toNat))==t3) then
 some ([],0)
 else
 let y4:=w64 ((w64 (4+t1_1))+t1_0)
 some (y2,y4)
 else none
 else none
 else none
 else none
def ψ33.f (p0:QB):Option (QB×QB×Bool):=
 (ψ2Y.f p0).bind fun (t1_0,t1_1)=>
 bif t1_1==0 then
 some ([],[],false)
 else
 bif decide (t1_0 > (w64 ((p0.length:Int) - t1_1))) then
 some ([],[],false)
 else
 bif (decide (0≤w64 (t1_1+t1_0)) && decide (w64 (t1_1+t1_0)≤(p0.length:Int))) then
 bif (decide (0≤t1_1) && decide (t1_1≤w64 (t1_1+t1_0))) then
 bif (decide (0≤w64 (t1_1+t1_0)) && decide (w64 (t1_1+t1_0)≤(p0.length:Int))) then
 let y2:=(p0.take ((w64 (t1_1+t1_0)).toNat)).drop t1_1.toNat
 let y3:=p0.drop ((w64 (t1_1+t1_0)).toNat)
 some (y2,y3,true)
 else none
 else none
 else none
def ψ2U.l0 (rec:(QB×Int×Int×Int)→Option (Int)):(QB×Int×Int×Int)→Option (Int):=fun (x0,x1,x6,x7)=>
 bif decide (x7<x1) then
 bif inB x7 x0.length then
 let y2:=w64 ((w64 (x6 * 256))+(w64 (bAt x0 x7)))
 rec (x0,x1,y2,w64 (x7+1))
 else none
 else
 some x6
def ψ2U.f (p0:QB) (p1:Int):Option (Int×Bool):=
 (ψ2w.f p1 1 7).bind fun t1=>
 bif !t1 then
 some (0,false)
 else
 bif decide ((p0.length:Int)<p1) then
 some (0,false)
 else
 (lp ψ2U.l0 (p0,p1,0,0)).bind (fun x6=>
 some (x6,true))
def ψ2Z.f (p0:QR):Option (Bool):=
 ((ψ2w.f p0.2.1 0 1000000).bind fun t1=>
 bif !t1 then
 some (Sum.inr false)
 else
 bif p0.2.1==0 then
 bif p0.1 != 5 then
 some (Sum.inr false)
 else
 some (Sum.inl p0)
 else
 some (Sum.inl p0):Option ((QR) ⊕ (Bool))).bind (fun o2=>φF o2 (fun x1=>
 (bif x1.1==1 then
 some (x1,x1.1,x1.1==1)
 else
 some (x1,x1.1,x1.1==4):Option ((QR)×Int×Bool)).bind (fun (x1,x18,x19)=>
 bif x19 then
 (ψ2N.f x1.2.2.1).bind fun t3=>
 bif t3 then
 bif decide ((x1.2.2.2.1.length:Int)≤24) then
 bif x1.2.2.2.2.1==0 then
 let y4:=x1.2.2.2.2.2==0
 some y4
 else
 some false
 else
 some false
 else
 some false
 else
 bif x18==2 then
 (ψ2N.f x1.2.2.1).bind fun t5=>
 bif t5 then
 bif x1.2.2.2.1==[] then
 bif x1.2.2.2.2.1==0 then
 let y6:=x1.2.2.2.2.2==0
 some y6
 else
 some false
 else
 some false
 else
 some false
 else
 bif x18==3 then
 bif x1.2.2.1==[] then
 bif x1.2.2.2.1==[] then
 (ψ2w.f x1.2.2.2.2.1 0 8).bind fun t7=>
 bif t7 then
 (ψ2w.f x1.2.2.2.2.2 0 4294967295).bind fun t8=>
 some t8
 else
 some false
 else
 some false
 else
 some false
 else
 bif x18==5 then
 bif x1.2.2.1==[] then
 bif x1.2.2.2.1==[] then
 (ψ2w.f x1.2.2.2.2.1 0 20).bind fun t9=>
 bif t9 then
 (ψ2w.f x1.2.2.2.2.2 0 4294967295).bind fun t10=>
 some t10
 else
 some false
 else
 some false
 else
 some false
 else
 some false)) (fun x2=>
 some x2))
def ψ2i.f (p0:QR):Option (QB):=
 (ψ2Z.f p0).bind fun t1=>
 bif !t1 then
 some []
 else
 (ψ2n.f p0.1).bind fun t2=>
 (ψ2n.f p0.2.1).bind fun t3=>
 bif decide (t2.length+t3.length≤9223372036854775807) then
 (bif p0.1==1 then
 some (p0,t2++t3,p0.1,p0.1==1)
 else
 some (p0,t2++t3,p0.1,p0.1==4):Option ((QR)×QB×Int×Bool)).bind (fun (x1,x3,x15,x16)=>
 bif x16 then
 (ψ2n.f (x1.2.2.1.length:Int)).bind fun t4=>
 bif decide (x3.length+t4.length≤9223372036854775807) then
 bif decide ((x3++t4).length+x1.2.2.1.length≤9223372036854775807) then
 (ψ2n.f (x1.2.2.2.1.length:Int)).bind fun t5=>
 bif decide (((x3++t4)++x1.2.2.1).length+t5.length≤9223372036854775807) then
 bif decide ((((x3++t4)++x1.2.2.1)++t5).length+x1.2.2.2.1.length≤9223372036854775807) then
 let y6:=(((x3++t4)++x1.2.2.1)++t5)++x1.2.2.2.1
 some y6
 else none
 else none
 else none
 else none
 else
 bif x15==2 then
 (ψ2n.f (x1.2.2.1.length:Int)).bind fun t7=>
 bif decide (x3.length+t7.length≤9223372036854775807) then
 bif decide ((x3++t7).length+x1.2.2.1.length≤9223372036854775807) then
 let y8:=(x3++t7)++x1.2.2.1
 some y8
 else none
 else none
 else
 (ψ2n.f x1.2.2.2.2.1).bind fun t9=>
 bif decide (x3.length+t9.length≤9223372036854775807) then
 (ψ2H.f x1.2.2.2.2.2 4).bind fun t10=>
 bif decide ((x3++t9).length+t10.length≤9223372036854775807) then
 let y11:=(x3++t9)++t10
 some y11
 else none
 else none)
 else none
def ψ2X.f (p0:QB):Option ((QR)×Bool):=
 (ψ2Y.f p0).bind fun (t1_0,t1_1)=>
 bif (decide (0≤t1_1) && decide (t1_1≤(p0.length:Int))) then
 (ψ2Y.f (p0.drop t1_1.toNat)).bind fun (t2_0,t2_1)=>
 bif t1_1==0 then
 some ((0,0,[],[],0,0),false)
 else
 bif t2_1==0 then
 some ((0,0,[],[],0,0),false)
 else
 bif (decide (0≤w64 (t1_1+t2_1)) && decide (w64 (t1_1+t2_1)≤(p0.length:Int))) then
 let y3:=p0.drop ((w64 (t1_1+t2_1)).toNat)
 ((bif t1_0==1 then
 some (p0,(0,0,[],[],0,0),(t1_0,t2_0,[],[],0,0),y3,t1_0,t1_0==1)
 else
 some (p0,(0,0,[],[],0,0),(t1_0,t2_0,[],[],0,0),y3,t1_0,t1_0==4):Option (QB×(QR)×(QR)×QB×Int×Bool)).bind (fun (x0,x2,x8,x9,x50,x67)=>
 bif x67 then
 (ψ33.f x9).bind fun (t4_0,t4_1,t4_2)=>
 (ψ33.f t4_1).bind fun (t5_0,t5_1,t5_2)=>
 some (x0,x2,(x8.1,x8.2.1,t4_0,t5_0,x8.2.2.2.2))
 else
 (bif x50==2 then
 (ψ33.f x9).bind fun (t6_0,t6_1,t6_2)=>
 some (x0,x2,(x8.1,x8.2.1,t6_0,x8.2.2.2))
 else
 (ψ2Y.f x9).bind fun (t7_0,t7_1)=>
 bif (decide (0≤t7_1) && decide (t7_1≤(x9.length:Int))) then
 (ψ2U.f (x9.drop t7_1.toNat) 4).bind fun (t8_0,t8_1)=>
 some (x0,x2,(x8.1,x8.2.1,x8.2.2.1,x8.2.2.2.1,t7_0,t8_0))
 else none:Option (QB×(QR)×QR)).bind (fun (x0,x2,x8)=>
 some (x0,x2,x8))):Option (QB×(QR)×QR)).bind (fun (x0,x2,x8)=>
 (ψ2i.f x8).bind fun t9=>
 bif !(t9==x0) then
 some ((0,0,[],[],0,0),false)
 else
 bif x0==[] then
 some ((0,0,[],[],0,0),false)
 else
 some (x8,true))
 else none
 else none
def ψ2e.l0 (rec:(QB×List (Int×Int×QR)×Int)→Option ((List (Int×Int×QR)×Int) ⊕ (List (Int×Int×QR)×Int))):(QB×List (Int×Int×QR)×Int)→Option ((List (Int×Int×QR)×Int) ⊕ (List (Int×Int×QR)×Int)):=fun (x0,x4,x5)=>
 bif decide (x5<(x0.length:Int)) then
 bif (decide (0≤x5) && decide (x5≤(x0.length:Int))) then
 (ψ2m.f (x0.drop x5.toNat)).bind fun (t1_0,t1_1)=>
 (ψ2X.f t1_0).bind fun (t2_0,t2_1)=>
 bif t1_1==0 then
 some (Sum.inr (x4,x5))
 else
 bif !t2_1 then
 some (Sum.inr (x4,x5))
 else
 bif decide ((x4.length+[(x5,t1_1,t2_0)].length) * 80≤140737488355328) then
 let l3:=x4++[(x5,t1_1,t2_0)]
 let y4:=w64 (x5+t1_1)
 rec (x0,l3,y4)
 else none
 else none
 else
 some (Sum.inl (x4,x5))
def ψ2e.f (p0:QB):Option (List (Int×Int×QR)×Int):=
 (lp ψ2e.l0 (p0,([]:List (Int×Int×QR)),0)).bind (fun o5=>φF o5 (fun (x4,x5)=>
 some (x4,x5)) (fun (x2,x3)=>
 some (x2,x3)))
def ψ22.f (p0:QF) (p1:Int):Option (Int):=
 let y1:=w64 (p1 - (p0.1.length:Int))
 bif decide (y1<0) then
 some (-1)
 else
 let y2:=w64 (y1 - (p0.2.1.length:Int))
 bif decide (y2<0) then
 some (-1)
 else
 some y2
def ψ23.l0 (rec:(List (QF)×Int×Int)→Option ((Int) ⊕ (Int))):(List (QF)×Int×Int)→Option ((Int) ⊕ (Int)):=fun (x0,x1,x5)=>
 bif decide (x5<(x0.length:Int)) then
 bif inB x5 x0.length then
 (ψ22.f ((rdA ([],[],0) x0 x5).1,((rdA ([],[],0) x0 x5).2)) x1).bind fun t2=>
 bif decide (t2<0) then
 some (Sum.inr (-1))
 else
 rec (x0,t2,w64 (x5+1))
 else none
 else
 some (Sum.inl x1)
def ψ23.f (p0:List (QF)) (p1:Int):Option (Int):=
 let y1:=w64 (p1 - (p0.length:Int))
 bif decide (y1<0) then
 some (-1)
 else
 (lp ψ23.l0 (p0,y1,0)).bind (fun o3=>φF o3 (fun x1=>
 some x1) (fun x4=>
 some x4))
def ψ21.f (p0:QD) (p1:Int):Option (Int):=
 (ψ23.f p0.1 p1).bind fun t1=>
 bif decide (t1<0) then
 some (-1)
 else
 some t1
def ψ25.f (p0:QF):Option (QF):=
 some p0
def ψ26.l0 (rec:(List (QF)×List (QF)×Int)→Option (List (QF))):(List (QF)×List (QF)×Int)→Option (List (QF)):=fun (x0,x3,x4)=>
 bif decide (x4<(x0.length:Int)) then
 bif inB x4 x0.length then
 (ψ25.f ((rdA ([],[],0) x0 x4).1,((rdA ([],[],0) x0 x4).2))).bind fun t2=>
 bif inB x4 x3.length then
 let l3:=x3.set x4.toNat t2
 rec (x0,l3,w64 (x4+1))
 else none
 else none
 else
 some x3
def ψ26.f (p0:List (QF)):Option (List (QF)):=
 bif ((p0.length:Int)==(p0.length:Int)) then
 bif (decide (0≤(p0.length:Int)) && decide (40 * (p0.length:Int)≤140737488355328)) then
 let l1:=κU (p0.length:Int).toNat ([],[],0)
 (lp ψ26.l0 (p0,l1,0)).bind (fun x3=>
 some x3)
 else none
 else none
def ψ24.f (p0:QD):Option (QD):=
 (ψ26.f p0.1).bind fun t1=>
 some (t1,p0.2)
def ψ1V.f (p0:QF) (p1:QF):Option (Bool):=
 bif !(p0.1==p1.1) then
 some false
 else
 bif !(p0.2.1==p1.2.1) then
 some false
 else
 bif p0.2.2 != p1.2.2 then
 some false
 else
 some true
def ψ1W.l0 (rec:(List (QF)×List (QF)×Int)→Option ((Unit) ⊕ (Bool))):(List (QF)×List (QF)×Int)→Option ((Unit) ⊕ (Bool)):=fun (x0,x1,x5)=>
 bif decide (x5<(x0.length:Int)) then
 bif inB x5 x0.length then
 bif inB x5 x1.length then
 (ψ1V.f ((rdA ([],[],0) x0 x5).1,((rdA ([],[],0) x0 x5).2)) ((rdA ([],[],0) x1 x5).1,((rdA ([],[],0) x1 x5).2))).bind fun t1=>
 bif !t1 then
 some (Sum.inr false)
 else
 rec (x0,x1,w64 (x5+1))
 else none
 else none
 else
 some (Sum.inl ())
def ψ1W.f (p0:List (QF)) (p1:List (QF)):Option (Bool):=
 bif (p0.length:Int) != (p1.length:Int) then
 some false
 else
 (lp ψ1W.l0 (p0,p1,0)).bind (fun o2=>φF o2 (fun _=>
 some true) (fun x4=>
 some x4))
def ψ1R.f (p0:QD) (p1:QD):Option (Bool):=
 (ψ1W.f p0.1 p1.1).bind fun t1=>
 bif !t1 then
 some false
 else
 bif p0.2.1 != p1.2.1 then
 some false
 else
 bif p0.2.2.1 != p1.2.2.1 then
 some false
 else
 bif !(p0.2.2.2==p1.2.2.2) then
 some false
 else
 some true
def ψ1T.f (p0:QE) (p1:QE):Option (Bool):=
 bif !(p0.1==p1.1) then
 some false
 else
 bif p0.2.1 != p1.2.1 then
 some false
 else
 bif p0.2.2.1 != p1.2.2.1 then
 some false
 else
 bif p0.2.2.2.1 != p1.2.2.2.1 then
 some false
 else
 bif p0.2.2.2.2 != p1.2.2.2.2 then
 some false
 else
 some true
def ψ1U.l0 (rec:(List (QE)×List (QE)×Int)→Option ((Unit) ⊕ (Bool))):(List (QE)×List (QE)×Int)→Option ((Unit) ⊕ (Bool)):=fun (x0,x1,x5)=>
 bif decide (x5<(x0.length:Int)) then
 bif inB x5 x0.length then
 bif inB x5 x1.length then
 (ψ1T.f ((rdA ([],0,0,0,0) x0 x5).1,((rdA ([],0,0,0,0) x0 x5).2).1,(((rdA ([],0,0,0,0) x0 x5).2).2).1,((((rdA ([],0,0,0,0) x0 x5).2).2).2)) ((rdA ([],0,0,0,0) x1 x5).1,((rdA ([],0,0,0,0) x1 x5).2).1,(((rdA ([],0,0,0,0) x1 x5).2).2).1,((((rdA ([],0,0,0,0) x1 x5).2).2).2))).bind fun t1=>
 bif !t1 then
 some (Sum.inr false)
 else
 rec (x0,x1,w64 (x5+1))
 else none
 else none
 else
 some (Sum.inl ())
def ψ1U.f (p0:List (QE)) (p1:List (QE)):Option (Bool):=
 bif (p0.length:Int) != (p1.length:Int) then
 some false
 else
 (lp ψ1U.l0 (p0,p1,0)).bind (fun o2=>φF o2 (fun _=>
 some true) (fun x4=>
 some x4))
def ψ1X.l0 (rec:(List Int×List Int×Int)→Option ((Unit) ⊕ (Bool))):(List Int×List Int×Int)→Option ((Unit) ⊕ (Bool)):=fun (x0,x1,x5)=>
 bif decide (x5<(x0.length:Int)) then
 bif inB x5 x0.length then
 bif inB x5 x1.length then
 bif (rdA 0 x0 x5) != (rdA 0 x1 x5) then
 some (Sum.inr false)
 else
 rec (x0,x1,w64 (x5+1))
 else none
 else none
 else
 some (Sum.inl ())
def ψ1X.f (p0:List Int) (p1:List Int):Option (Bool):=
 bif (p0.length:Int) != (p1.length:Int) then
 some false
 else
 (lp ψ1X.l0 (p0,p1,0)).bind (fun o1=>φF o1 (fun _=>
 some true) (fun x4=>
 some x4))
def ψ1Y.f (p0:Int×List Int) (p1:Int×List Int):Option (Bool):=
 bif p0.1 != p1.1 then
 some false
 else
 (ψ1X.f p0.2 p1.2).bind fun t1=>
 bif !t1 then
 some false
 else
 some true
def ψ1d.f (p0:QS) (p1:QS):Option (Bool):=
 (ψ1Y.f p0.1 p1.1).bind fun t1=>
 bif !t1 then
 some false
 else
 (ψ1U.f p0.2.1 p1.2.1).bind fun t2=>
 bif !t2 then
 some false
 else
 bif p0.2.2.1 != p1.2.2.1 then
 some false
 else
 bif p0.2.2.2.1 != p1.2.2.2.1 then
 some false
 else
 bif p0.2.2.2.2 != p1.2.2.2.2 then
 some false
 else
 some true
def ψ1Z.f (p0:QP) (p1:QP):Option (Bool):=
 bif !(p0.1==p1.1) then
 some false
 else
 bif !(p0.2.1==p1.2.1) then
 some false
 else
 bif !(p0.2.2==p1.2.2) then
 some false
 else
 some true
def ψ1a.l0 (rec:(List (QP)×List (QP)×Int)→Option ((Unit) ⊕ (Bool))):(List (QP)×List (QP)×Int)→Option ((Unit) ⊕ (Bool)):=fun (x0,x1,x5)=>
 bif decide (x5<(x0.length:Int)) then
 bif inB x5 x0.length then
 bif inB x5 x1.length then
 (ψ1Z.f ((rdA ([],false,[]) x0 x5).1,((rdA ([],false,[]) x0 x5).2)) ((rdA ([],false,[]) x1 x5).1,((rdA ([],false,[]) x1 x5).2))).bind fun t1=>
 bif !t1 then
 some (Sum.inr false)
 else
 rec (x0,x1,w64 (x5+1))
 else none
 else none
 else
 some (Sum.inl ())
def ψ1a.f (p0:List (QP)) (p1:List (QP)):Option (Bool):=
 bif (p0.length:Int) != (p1.length:Int) then
 some false
 else
 (lp ψ1a.l0 (p0,p1,0)).bind (fun o2=>φF o2 (fun _=>
 some true) (fun x4=>
 some x4))
def ψ1b.f (p0:QB×Int) (p1:QB×Int):Option (Bool):=
 bif !(p0.1==p1.1) then
 some false
 else
 bif p0.2 != p1.2 then
 some false
 else
 some true
def ψ1c.l0 (rec:(List (QB×Int)×List (QB×Int)×Int)→Option ((Unit) ⊕ (Bool))):(List (QB×Int)×List (QB×Int)×Int)→Option ((Unit) ⊕ (Bool)):=fun (x0,x1,x5)=>
 bif decide (x5<(x0.length:Int)) then
 bif inB x5 x0.length then
 bif inB x5 x1.length then
 (ψ1b.f (rdA ([],0) x0 x5) (rdA ([],0) x1 x5)).bind fun t1=>
 bif !t1 then
 some (Sum.inr false)
 else
 rec (x0,x1,w64 (x5+1))
 else none
 else none
 else
 some (Sum.inl ())
def ψ1c.f (p0:List (QB×Int)) (p1:List (QB×Int)):Option (Bool):=
 bif (p0.length:Int) != (p1.length:Int) then
 some false
 else
 (lp ψ1c.l0 (p0,p1,0)).bind (fun o2=>φF o2 (fun _=>
 some true) (fun x4=>
 some x4))
def ψ1e.f (p0:QT) (p1:QT):Option (Bool):=
 bif !(p0.1==p1.1) then
 some false
 else
 (ψ1c.f p0.2.1 p1.2.1).bind fun t1=>
 bif !t1 then
 some false
 else
 (ψ1a.f p0.2.2 p1.2.2).bind fun t2=>
 bif !t2 then
 some false
 else
 some true
def ψ1z.l0 (rec:(Int×QB)→Option (QB)):(Int×QB)→Option (QB):=fun (x0,x3)=>
 bif decide (x0 > 0) then
 bif decide ((φm [IntKind.wrap .u8 (w64 (48+(Int.tmod x0 10)))]).length+x3.length≤9223372036854775807) then
 let y1:=(φm [IntKind.wrap .u8 (w64 (48+(Int.tmod x0 10)))])++x3
 let y2:=w64 (Int.tdiv x0 10)
 rec (y2,y1)
 else none
 else
 some x3
def ψ1z.f (p0:Int):Option (QB):=
 bif decide (p0≤0) then
 some [109,48]
 else
 (lp ψ1z.l0 (p0,[])).bind (fun x3=>
 bif decide (([109]:QB).length+x3.length≤9223372036854775807) then
 some ([109]++x3)
 else none)
def ψ1w.l0 (rec:(List (QP)×Int×Int)→Option (List (QP)×Int)):(List (QP)×Int×Int)→Option (List (QP)×Int):=fun (x0,x1,x5)=>
 bif decide (x5<(x0.length:Int)) then
 (ψ1z.f x1).bind fun t1=>
 bif inB x5 x0.length then
 let l2:=x0.set x5.toNat (t1,(rdA ([],false,[]) x0 x5).2)
 bif inB x5 l2.length then
 let l3:=l2.set x5.toNat ((rdA ([],false,[]) l2 x5).1,(Int.tmod (w64 (x1+1)) 3)==0,((rdA ([],false,[]) l2 x5).2).2)
 let y4:=w64 ((w64 (x1+1))+1)
 (ψ1z.f y4).bind fun t5=>
 bif inB x5 l3.length then
 let l6:=l3.set x5.toNat ((rdA ([],false,[]) l3 x5).1,((rdA ([],false,[]) l3 x5).2).1,t5)
 rec (l6,w64 (y4+1),w64 (x5+1))
 else none
 else none
 else none
 else
 some (x0,x1)
def ψ1w.f (p0:List (QP)) (p1:Int):Option (Int×List (QP)):=
 (lp ψ1w.l0 (p0,p1,0)).bind (fun (x0,x1)=>
 some (x1,x0))
def ψ2y.f (p0:QD):Option (QD):=
 bif decide ((([]:List (QF)).length+p0.1.length) * 40≤140737488355328) then
 let l1:=([]:List (QF))++p0.1
 some (l1,p0.2)
 else none
def ψ1t.l0 (rec:(List (QF)×Int×Int)→Option (List (QF)×Int)):(List (QF)×Int×Int)→Option (List (QF)×Int):=fun (x0,x1,x5)=>
 bif decide (x5<(x0.length:Int)) then
 (ψ1z.f x1).bind fun t1=>
 bif inB x5 x0.length then
 let l2:=x0.set x5.toNat (t1,(rdA ([],[],0) x0 x5).2)
 (ψ1z.f (w64 (x1+1))).bind fun t3=>
 bif inB x5 l2.length then
 let l4:=l2.set x5.toNat ((rdA ([],[],0) l2 x5).1,t3,((rdA ([],[],0) l2 x5).2).2)
 let y5:=w64 ((w64 (x1+1))+1)
 bif inB x5 l4.length then
 let l6:=l4.set x5.toNat ((rdA ([],[],0) l4 x5).1,((rdA ([],[],0) l4 x5).2).1,y5)
 rec (l6,w64 (y5+1),w64 (x5+1))
 else none
 else none
 else none
 else
 some (x0,x1)
def ψ1t.f (p0:List (QF)) (p1:Int):Option (Int×List (QF)):=
 (lp ψ1t.l0 (p0,p1,0)).bind (fun (x0,x1)=>
 some (x1,x0))
def ψ1q.f (p0:QD) (p1:Int):Option (Int×QD):=
 (ψ1t.f p0.1 p1).bind fun (t1_0,t1_1)=>
 some (t1_0,(t1_1,p0.2))
def ψ1j.l0 (rec:(List (QF)×Int×Int)→Option ((Int) ⊕ (Int))):(List (QF)×Int×Int)→Option ((Int) ⊕ (Int)):=fun (x0,x1,x5)=>
 bif decide (x5<(x0.length:Int)) then
 bif inB x5 x0.length then
 (ψ1z.f x1).bind fun t1=>
 bif !(((rdA ([],[],0) x0 x5).1)==t1) then
 some (Sum.inr (-1))
 else
 bif inB x5 x0.length then
 (ψ1z.f (w64 (x1+1))).bind fun t2=>
 bif !((((rdA ([],[],0) x0 x5).2).1)==t2) then
 some (Sum.inr (-1))
 else
 let y3:=w64 ((w64 (x1+1))+1)
 bif inB x5 x0.length then
 bif (((rdA ([],[],0) x0 x5).2).2) != y3 then
 some (Sum.inr (-1))
 else
 rec (x0,w64 (y3+1),w64 (x5+1))
 else none
 else none
 else none
 else
 some (Sum.inl x1)
def ψ1j.f (p0:List (QF)) (p1:Int):Option (Int):=
 (lp ψ1j.l0 (p0,p1,0)).bind (fun o4=>φF o4 (fun x1=>
 some x1) (fun x4=>
 some x4))
def ψ1g.f (p0:QD) (p1:Int):Option (Int):=
 (ψ1j.f p0.1 p1).bind fun t1=>
 bif decide (t1<0) then
 some (-1)
 else
 some t1
def ψ1x.l0 (rec:(List (QB×Int)×Int×Int)→Option (List (QB×Int)×Int)):(List (QB×Int)×Int×Int)→Option (List (QB×Int)×Int):=fun (x0,x1,x5)=>
 bif decide (x5<(x0.length:Int)) then
 (ψ1z.f x1).bind fun t1=>
 bif inB x5 x0.length then
 let l2:=x0.set x5.toNat (t1,(rdA ([],0) x0 x5).2)
 bif inB x5 l2.length then
 let l3:=l2.set x5.toNat ((rdA ([],0) l2 x5).1,w64 (x1+1))
 let y4:=w64 ((w64 (x1+1))+1)
 rec (l3,y4,w64 (x5+1))
 else none
 else none
 else
 some (x0,x1)
def ψ1x.f (p0:List (QB×Int)) (p1:Int):Option (Int×List (QB×Int)):=
 (lp ψ1x.l0 (p0,p1,0)).bind (fun (x0,x1)=>
 some (x1,x0))
def ψ1m.l0 (rec:(List (QP)×Int×Int)→Option ((Int) ⊕ (Int))):(List (QP)×Int×Int)→Option ((Int) ⊕ (Int)):=fun (x0,x1,x5)=>
 bif decide (x5<(x0.length:Int)) then
 bif inB x5 x0.length then
 (ψ1z.f x1).bind fun t1=>
 bif !(((rdA ([],false,[]) x0 x5).1)==t1) then
 some (Sum.inr (-1))
 else
 bif inB x5 x0.length then
 bif !((((rdA ([],false,[]) x0 x5).2).1)==((Int.tmod (w64 (x1+1)) 3)==0)) then
 some (Sum.inr (-1))
 else
 let y2:=w64 ((w64 (x1+1))+1)
 bif inB x5 x0.length then
 (ψ1z.f y2).bind fun t3=>
 bif !((((rdA ([],false,[]) x0 x5).2).2)==t3) then
 some (Sum.inr (-1))
 else
 rec (x0,w64 (y2+1),w64 (x5+1))
 else none
 else none
 else none
 else
 some (Sum.inl x1)
def ψ1m.f (p0:List (QP)) (p1:Int):Option (Int):=
 (lp ψ1m.l0 (p0,p1,0)).bind (fun o4=>φF o4 (fun x1=>
 some x1) (fun x4=>
 some x4))
def ψ1f.l0 (rec:(List (QT)×List (QT)×Int)→Option ((Unit) ⊕ (Bool))):(List (QT)×List (QT)×Int)→Option ((Unit) ⊕ (Bool)):=fun (x0,x1,x5)=>
 bif decide (x5<(x0.length:Int)) then
 bif inB x5 x0.length then
 bif inB x5 x1.length then
 (ψ1e.f ((rdA (false,[],[]) x0 x5).1,((rdA (false,[],[]) x0 x5).2)) ((rdA (false,[],[]) x1 x5).1,((rdA (false,[],[]) x1 x5).2))).bind fun t1=>
 bif !t1 then
 some (Sum.inr false)
 else
 rec (x0,x1,w64 (x5+1))
 else none
 else none
 else
 some (Sum.inl ())
def ψ1f.f (p0:List (QT)) (p1:List (QT)):Option (Bool):=
 bif (p0.length:Int) != (p1.length:Int) then
 some false
 else
 (lp ψ1f.l0 (p0,p1,0)).bind (fun o2=>φF o2 (fun _=>
 some true) (fun x4=>
 some x4))
def ψ1n.l0 (rec:(List (QB×Int)×Int×Int)→Option ((Int) ⊕ (Int))):(List (QB×Int)×Int×Int)→Option ((Int) ⊕ (Int)):=fun (x0,x1,x5)=>
 bif decide (x5<(x0.length:Int)) then
 bif inB x5 x0.length then
 (ψ1z.f x1).bind fun t1=>
 bif !(((rdA ([],0) x0 x5).1)==t1) then
 some (Sum.inr (-1))
 else
 bif inB x5 x0.length then
 bif ((rdA ([],0) x0 x5).2) != (w64 (x1+1)) then
 some (Sum.inr (-1))
 else
 let y2:=w64 ((w64 (x1+1))+1)
 rec (x0,y2,w64 (x5+1))
 else none
 else none
 else
 some (Sum.inl x1)
def ψ1n.f (p0:List (QB×Int)) (p1:Int):Option (Int):=
 (lp ψ1n.l0 (p0,p1,0)).bind (fun o3=>φF o3 (fun x1=>
 some x1) (fun x4=>
 some x4))
def ψ2x.f (p0:QD):Option ((QD)×Int):=
 (ψ2y.f p0).bind fun t1=>
 (ψ2E.f p0).bind fun t2=>
 bif !t2 then
 some (t1,5)
 else
 bif p0.2.2.2 then
 some ((t1.1,t1.2.1,t1.2.2.1,true),1)
 else
 bif p0.2.2.1==0 then
 some ((t1.1,t1.2.1,t1.2.2.1,true),1)
 else
 bif decide (p0.2.2.1 > 0) then
 let y3:=w64 (p0.2.2.1 - 1)
 some ((t1.1,t1.2.1,y3,t1.2.2.2),0)
 else
 some (t1,0)
def ψ2k.f (p0:QD) (p1:QB):Option ((QD)×Int):=
 (ψ2x.f p0).bind fun (t1_0,t1_1)=>
 bif t1_1 != 0 then
 some (t1_0,t1_1)
 else
 (ψ2z.f p0 p1).bind fun t2=>
 bif decide (t2<0) then
 some (t1_0,3)
 else
 bif inB t2 p0.1.length then
 bif inB t2 t1_0.1.length then
 let l3:=t1_0.1.set t2.toNat ((rdA ([],[],0) t1_0.1 t2).1,((rdA ([],[],0) t1_0.1 t2).2).1,((((rdA ([],[],0) p0.1 t2).2).1).length:Int))
 some ((l3,t1_0.2),0)
 else none
 else none
def ψ32.f (p0:List (QF)) (p1:Int):Option (List (QF)):=
 bif (decide (0≤p1) && decide (p1≤(p0.length:Int))) then
 bif decide ((([]:List (QF)).length+(p0.take p1.toNat).length) * 40≤140737488355328) then
 bif (decide (0≤w64 (p1+1)) && decide (w64 (p1+1)≤(p0.length:Int))) then
 bif decide (((([]:List (QF))++(p0.take p1.toNat)).length+(p0.drop ((w64 (p1+1)).toNat)).length) * 40≤140737488355328) then
 let l1:=(([]:List (QF))++(p0.take p1.toNat))++(p0.drop ((w64 (p1+1)).toNat))
 some l1
 else none
 else none
 else none
 else none
def ψ2b.f (p0:QD) (p1:QB):Option ((QD)×Int):=
 (ψ2x.f p0).bind fun (t1_0,t1_1)=>
 bif t1_1 != 0 then
 some (t1_0,t1_1)
 else
 (ψ2z.f p0 p1).bind fun t2=>
 bif decide (t2<0) then
 some (t1_0,3)
 else
 (ψ32.f t1_0.1 t2).bind fun t3=>
 some ((t3,t1_0.2),0)
def ψ2l.f (p0:QD) (p1:QB) (p2:Int):Option ((QD)×Int):=
 (ψ2x.f p0).bind fun (t1_0,t1_1)=>
 bif t1_1 != 0 then
 some (t1_0,t1_1)
 else
 (ψ2z.f p0 p1).bind fun t2=>
 bif decide (t2<0) then
 some (t1_0,3)
 else
 bif inB t2 p0.1.length then
 (ψ2w.f p2 0 ((((rdA ([],[],0) p0.1 t2).2).1).length:Int)).bind fun t3=>
 bif !t3 then
 some (t1_0,5)
 else
 bif inB t2 p0.1.length then
 bif (decide (0≤p2) && decide (p2≤((((rdA ([],[],0) p0.1 t2).2).1).length:Int))) then
 bif inB t2 t1_0.1.length then
 let l4:=t1_0.1.set t2.toNat ((rdA ([],[],0) t1_0.1 t2).1,(((rdA ([],[],0) p0.1 t2).2).1).take p2.toNat,((rdA ([],[],0) t1_0.1 t2).2).2)
 bif inB t2 p0.1.length then
 bif inB t2 l4.length then
 let l5:=l4.set t2.toNat ((rdA ([],[],0) l4 t2).1,((rdA ([],[],0) l4 t2).2).1,if p2<((rdA ([],[],0) p0.1 t2).2).2 then p2 else ((rdA ([],[],0) p0.1 t2).2).2)
 some ((l5,t1_0.2),0)
 else none
 else none
 else none
 else none
 else none
 else none
def ψ27.f (p0:QD) (p1:QB) (p2:QB):Option ((QD)×Int):=
 (ψ2x.f p0).bind fun (t1_0,t1_1)=>
 bif t1_1 != 0 then
 some (t1_0,t1_1)
 else
 (ψ2z.f p0 p1).bind fun t2=>
 bif decide (t2<0) then
 some (t1_0,3)
 else
 (ψ31.f p0).bind fun t3=>
 bif decide ((p2.length:Int) > (w64 (p0.2.1 - t3))) then
 some (t1_0,2)
 else
 bif inB t2 p0.1.length then
 bif decide ((((rdA ([],[],0) p0.1 t2).2).1).length+p2.length≤9223372036854775807) then
 bif inB t2 t1_0.1.length then
 let l4:=t1_0.1.set t2.toNat ((rdA ([],[],0) t1_0.1 t2).1,(((rdA ([],[],0) p0.1 t2).2).1)++p2,((rdA ([],[],0) t1_0.1 t2).2).2)
 some ((l4,t1_0.2),0)
 else none
 else none
 else none
def ψ30.l0 (rec:(List (QF)×(QF)×List (QF)×Bool×Int)→Option ((QF)×List (QF)×Bool)):(List (QF)×(QF)×List (QF)×Bool×Int)→Option ((QF)×List (QF)×Bool):=fun (x0,x3,x5,x6,x7)=>
 bif decide (x7<(x0.length:Int)) then
 (bif !x6 then
 bif inB x7 x0.length then
 bif !(Op.bytesLess ((rdA ([],[],0) x0 x7).1) x3.1 || ((rdA ([],[],0) x0 x7).1)==x3.1) then
 bif decide ((x5.length+[x3].length) * 40≤140737488355328) then
 some (x0,x3,x5++[x3],true,x7)
 else none
 else
 some (x0,x3,x5,x6,x7)
 else none
 else
 some (x0,x3,x5,x6,x7):Option (List (QF)×(QF)×List (QF)×Bool×Int)).bind (fun (x0,x3,x5,x6,x7)=>
 bif inB x7 x0.length then
 bif decide ((x5.length+([((rdA ([],[],0) x0 x7).1,((rdA ([],[],0) x0 x7).2))]:List (QF)).length) * 40≤140737488355328) then
 let l1:=x5++([((rdA ([],[],0) x0 x7).1,((rdA ([],[],0) x0 x7).2))]:List (QF))
 rec (x0,x3,l1,x6,w64 (x7+1))
 else none
 else none)
 else
 some (x3,x5,x6)
def ψ30.f (p0:List (QF)) (p1:QF):Option (List (QF)):=
 (lp ψ30.l0 (p0,p1,([]:List (QF)),false,0)).bind (fun (x3,x5,x6)=>
 bif !x6 then
 bif decide ((x5.length+[x3].length) * 40≤140737488355328) then
 some (x5++[x3])
 else none
 else
 some x5)
def ψ29.f (p0:QD) (p1:QB):Option ((QD)×Int):=
 (ψ2x.f p0).bind fun (t1_0,t1_1)=>
 bif t1_1 != 0 then
 some (t1_0,t1_1)
 else
 (ψ2P.f p1).bind fun t2=>
 bif !t2 then
 some (t1_0,5)
 else
 (ψ2z.f p0 p1).bind fun t3=>
 bif decide (t3≥0) then
 some (t1_0,4)
 else
 bif decide ((p0.1.length:Int)≥130) then
 some (t1_0,2)
 else
 (ψ30.f t1_0.1 (p1,[],0)).bind fun t4=>
 some ((t4,t1_0.2),0)
def ψ2c.f (p0:QD) (p1:QB) (p2:QB):Option ((QD)×Int):=
 (ψ2x.f p0).bind fun (t1_0,t1_1)=>
 bif t1_1 != 0 then
 some (t1_0,t1_1)
 else
 (ψ2P.f p2).bind fun t2=>
 bif !t2 then
 some (t1_0,5)
 else
 (ψ2z.f p0 p1).bind fun t3=>
 bif decide (t3<0) then
 some (t1_0,3)
 else
 bif p1==p2 then
 some (t1_0,0)
 else
 bif inB t3 p0.1.length then
 let y4:=(rdA ([],[],0) p0.1 t3).1
 let y5:=((rdA ([],[],0) p0.1 t3).2).1
 let y6:=((rdA ([],[],0) p0.1 t3).2).2
 (ψ32.f t1_0.1 t3).bind fun t7=>
 (ψ2z.f (t7,t1_0.2) p2).bind fun t8=>
 (bif decide (t8≥0) then
 (ψ32.f t7 t8).bind fun t9=>
 some (([],0,0,false),(t9,t1_0.2),(p2,y5,y6))
 else
 some (([],0,0,false),(t7,t1_0.2),(p2,y5,y6)):Option ((QD)×(QD)×QF)).bind (fun (x6,x8,x11)=>
 (ψ30.f x8.1 x11).bind fun t10=>
 some ((t10,x8.2),0))
 else none
def ψ2j.l0 (rec:(List (QR)×QB×Int)→Option (QB)):(List (QR)×QB×Int)→Option (QB):=fun (x0,x3,x4)=>
 bif decide (x4<(x0.length:Int)) then
 bif inB x4 x0.length then
 (ψ2i.f ((rdA (0,0,[],[],0,0) x0 x4).1,((rdA (0,0,[],[],0,0) x0 x4).2).1,(((rdA (0,0,[],[],0,0) x0 x4).2).2).1,((((rdA (0,0,[],[],0,0) x0 x4).2).2).2).1,(((((rdA (0,0,[],[],0,0) x0 x4).2).2).2).2))).bind fun t1=>
 bif decide (x3.length+t1.length≤9223372036854775807) then
 rec (x0,x3++t1,w64 (x4+1))
 else none
 else none
 else
 some x3
def ψ2j.f (p0:List (QR)):Option (Int):=
 (lp ψ2j.l0 (p0,[],0)).bind (fun x3=>
 (ψ28.f x3).bind fun t2=>
 some t2)
def ψ2t.f (p0:QD) (p1:QB):Option ((QD)×Int):=
 ((ψ2z.f p0 p1).bind fun t1=>
 bif decide (t1≥0) then
 (ψ2b.f p0 p1).bind fun (t2_0,t2_1)=>
 bif t2_1 != 0 then
 some (Sum.inr (t2_0,t2_1))
 else
 some (Sum.inl (p1,t2_0,([],0,0,false)))
 else
 some (Sum.inl (p1,p0,([],0,0,false))):Option ((QB×(QD)×QD) ⊕ ((QD)×Int))).bind (fun o3=>φF o3 (fun (x1,x2,x4)=>
 (ψ29.f x2 x1).bind fun (t4_0,t4_1)=>
 some (t4_0,t4_1)) (fun (x4,x5)=>
 some (x4,x5)))
def ψ2r.f (p0:QD) (p1:QB) (p2:QB):Option ((QD)×Int):=
 (ψ2t.f p0 p1).bind fun (t1_0,t1_1)=>
 (bif t1_1==0 then
 (ψ27.f t1_0 p1 p2).bind fun (t2_0,t2_1)=>
 some (p1,([],0,0,false),t2_0,t2_1)
 else
 some (p1,([],0,0,false),t1_0,t1_1):Option (QB×(QD)×(QD)×Int)).bind (fun (x1,x6,x8,x9)=>
 bif x9==0 then
 (ψ2k.f x8 x1).bind fun (t3_0,t3_1)=>
 some (t3_0,t3_1)
 else
 some (x8,x9))
def ψ2h.l0 (rec:((Int×List Int)×QB×Int)→Option (QB)):((Int×List Int)×QB×Int)→Option (QB):=fun (x1,x3,x4)=>
 bif decide (x4<(x1.2.length:Int)) then
 bif inB x4 x1.2.length then
 (ψ2n.f (rdA 0 x1.2 x4)).bind fun t4=>
 bif decide (x3.length+t4.length≤9223372036854775807) then
 rec (x1,x3++t4,w64 (x4+1))
 else none
 else none
 else
 some x3
def ψ2h.f (p0:Int×List Int):Option (QB):=
 (ψ2O.f p0).bind fun t1=>
 bif !t1 then
 some []
 else
 (ψ2n.f p0.1).bind fun t2=>
 (ψ2n.f (p0.2.length:Int)).bind fun t3=>
 bif decide (t2.length+t3.length≤9223372036854775807) then
 (lp ψ2h.l0 (p0,t2++t3,0)).bind (fun x3=>
 (ψ2I.f x3).bind fun t5=>
 some t5)
 else none
def ψ2q.f (p0:Int):Option (Int):=
 bif p0==0 then
 some 0
 else
 bif p0==1 then
 some 1
 else
 bif p0==2 then
 some 2
 else
 some 3
def ψ2S.f (p0:QD) (p1:Int×List Int):Option ((QD)×Int):=
 (ψ2E.f p0).bind fun t1=>
 bif !t1 then
 (ψ2y.f p0).bind fun t2=>
 some (t2,4)
 else
 (ψ2O.f p1).bind fun t3=>
 bif !t3 then
 (ψ2y.f p0).bind fun t4=>
 some (t4,4)
 else
 (ψ2h.f p1).bind fun t5=>
 (ψ2r.f p0 [116,101,109,112] t5).bind fun (t6_0,t6_1)=>
 (bif t6_1==0 then
 (ψ2c.f t6_0 [116,101,109,112] [108,105,118,101]).bind fun (t7_0,t7_1)=>
 some (([],0,0,false),t7_0,t7_1)
 else
 some (([],0,0,false),t6_0,t6_1):Option ((QD)×(QD)×Int)).bind (fun (x4,x6,x7)=>
 (ψ2q.f x7).bind fun t8=>
 some (x6,t8))
def ψ2B.l0 (rec:(List (QE)×QB×List (QE)×Int)→Option (List (QE))):(List (QE)×QB×List (QE)×Int)→Option (List (QE)):=fun (x0,x1,x5,x6)=>
 bif decide (x6<(x0.length:Int)) then
 (bif inB x6 x0.length then
 bif !(((rdA ([],0,0,0,0) x0 x6).1)==x1) then
 bif inB x6 x0.length then
 bif decide ((x5.length+([((rdA ([],0,0,0,0) x0 x6).1,((rdA ([],0,0,0,0) x0 x6).2).1,(((rdA ([],0,0,0,0) x0 x6).2).2).1,((((rdA ([],0,0,0,0) x0 x6).2).2).2))]:List (QE)).length) * 48≤140737488355328) then
 let l1:=x5++([((rdA ([],0,0,0,0) x0 x6).1,((rdA ([],0,0,0,0) x0 x6).2).1,(((rdA ([],0,0,0,0) x0 x6).2).2).1,((((rdA ([],0,0,0,0) x0 x6).2).2).2))]:List (QE))
 some (x0,x1,l1,x6)
 else none
 else none
 else
 some (x0,x1,x5,x6)
 else none:Option (List (QE)×QB×List (QE)×Int)).bind (fun (x0,x1,x5,x6)=>
 rec (x0,x1,x5,w64 (x6+1)))
 else
 some x5
def ψ2B.f (p0:List (QE)) (p1:QB):Option (List (QE)):=
 (lp ψ2B.l0 (p0,p1,([]:List (QE)),0)).bind (fun x5=>
 some x5)
def ψ2D.l0 (rec:(List (QE)×(QE)×List (QE)×Bool×Int)→Option ((QE)×List (QE)×Bool)):(List (QE)×(QE)×List (QE)×Bool×Int)→Option ((QE)×List (QE)×Bool):=fun (x0,x3,x5,x6,x7)=>
 bif decide (x7<(x0.length:Int)) then
 (bif inB x7 x0.length then
 bif ((rdA ([],0,0,0,0) x0 x7).1)==x3.1 then
 some (x0,x3,x5,x6,x7)
 else
 (bif !x6 then
 bif inB x7 x0.length then
 bif !(Op.bytesLess ((rdA ([],0,0,0,0) x0 x7).1) x3.1 || ((rdA ([],0,0,0,0) x0 x7).1)==x3.1) then
 bif decide ((x5.length+[x3].length) * 48≤140737488355328) then
 some (x0,x3,x5++[x3],true,x7)
 else none
 else
 some (x0,x3,x5,x6,x7)
 else none
 else
 some (x0,x3,x5,x6,x7):Option (List (QE)×(QE)×List (QE)×Bool×Int)).bind (fun (x0,x3,x5,x6,x7)=>
 bif inB x7 x0.length then
 bif decide ((x5.length+([((rdA ([],0,0,0,0) x0 x7).1,((rdA ([],0,0,0,0) x0 x7).2).1,(((rdA ([],0,0,0,0) x0 x7).2).2).1,((((rdA ([],0,0,0,0) x0 x7).2).2).2))]:List (QE)).length) * 48≤140737488355328) then
 let l1:=x5++([((rdA ([],0,0,0,0) x0 x7).1,((rdA ([],0,0,0,0) x0 x7).2).1,(((rdA ([],0,0,0,0) x0 x7).2).2).1,((((rdA ([],0,0,0,0) x0 x7).2).2).2))]:List (QE))
 some (x0,x3,l1,x6,x7)
 else none
 else none)
 else none:Option (List (QE)×(QE)×List (QE)×Bool×Int)).bind (fun (x0,x3,x5,x6,x7)=>
 rec (x0,x3,x5,x6,w64 (x7+1)))
 else
 some (x3,x5,x6)
def ψ2D.f (p0:List (QE)) (p1:QE):Option (List (QE)):=
 (lp ψ2D.l0 (p0,p1,([]:List (QE)),false,0)).bind (fun (x3,x5,x6)=>
 bif !x6 then
 bif decide ((x5.length+[x3].length) * 48≤140737488355328) then
 some (x5++[x3])
 else none
 else
 some x5)
def ψ37.f (p0:List (QE)) (p1:Int×Int×Int×QR):Option (List (QE)):=
 bif p1.2.2.2.1==2 then
 (ψ2B.f p0 p1.2.2.2.2.2.1).bind fun t1=>
 some t1
 else
 (ψ2D.f p0 (p1.2.2.2.2.2.1,p1.1,p1.2.1,p1.2.2.1,p1.2.2.2.2.1)).bind fun t2=>
 some t2
def ψ2K.f (p0:Int):Option (QB):=
 (ψ2w.f p0 1 100000).bind fun t1=>
 bif !t1 then
 some []
 else
 (ψ2A.f p0).bind fun t2=>
 bif decide (([104,105,110,116]:QB).length+t2.length≤9223372036854775807) then
 let y3:=[104,105,110,116]++t2
 some y3
 else none
def ψ2L.l0 (rec:(Int×(Int×Int×List (QE))×List (Int×Int×QR)×(Int×Int×List (QE))×List (QR)×Int)→Option (((Int×Int×List (QE))×List (Int×Int×QR)×(Int×Int×List (QE))×List (QR)) ⊕ ((Int×Int×List (QE))×Bool))):(Int×(Int×Int×List (QE))×List (Int×Int×QR)×(Int×Int×List (QE))×List (QR)×Int)→Option (((Int×Int×List (QE))×List (Int×Int×QR)×(Int×Int×List (QE))×List (QR)) ⊕ ((Int×Int×List (QE))×Bool)):=fun (x0,x4,x6,x8,x9,x10)=>
 bif decide ((w64 (x10+1))<(x6.length:Int)) then
 bif inB x10 x6.length then
 let y5:=(((rdA (0,0,0,0,[],[],0,0) x6 x10).2).2).1
 let y6:=((((rdA (0,0,0,0,[],[],0,0) x6 x10).2).2).2).1
 let y7:=(((((rdA (0,0,0,0,[],[],0,0) x6 x10).2).2).2).2).1
 let y8:=((((((rdA (0,0,0,0,[],[],0,0) x6 x10).2).2).2).2).2).1
 let y9:=(((((((rdA (0,0,0,0,[],[],0,0) x6 x10).2).2).2).2).2).2).1
 let y10:=(((((((rdA (0,0,0,0,[],[],0,0) x6 x10).2).2).2).2).2).2).2
 (bif y5 != 4 then
 some (Sum.inr ((0,0,[]),false))
 else
 bif decide (y6 > x8.2.1) then
 some (Sum.inr ((0,0,[]),false))
 else
 bif decide (x10 > 0) then
 bif inB (w64 (x10 - 1)) x6.length then
 bif (Op.bytesLess y7 ((((((rdA (0,0,0,0,[],[],0,0) x6 (w64 (x10 - 1))).2).2).2).2).1) || y7==((((((rdA (0,0,0,0,[],[],0,0) x6 (w64 (x10 - 1))).2).2).2).2).1)) then
 some (Sum.inr ((0,0,[]),false))
 else
 some (Sum.inl (x0,x4,x6,x8,x9,x10,(y5,y6,y7,y8,y9,y10)))
 else none
 else
 some (Sum.inl (x0,x4,x6,x8,x9,x10,(y5,y6,y7,y8,y9,y10))):Option ((Int×(Int×Int×List (QE))×List (Int×Int×QR)×(Int×Int×List (QE))×List (QR)×Int×QR) ⊕ ((Int×Int×List (QE))×Bool))).bind (fun o11=>φF o11 (fun (x0,x4,x6,x8,x9,x10,x11)=>
 bif decide ((x9.length+[x11].length) * 64≤140737488355328) then
 bif inB x10 x6.length then
 bif inB x10 x6.length then
 bif decide ((x8.2.2.length+([(x11.2.2.1,x0,(rdA (0,0,0,0,[],[],0,0) x6 x10).1,((rdA (0,0,0,0,[],[],0,0) x6 x10).2).1,x11.2.1)]:List (QE)).length) * 48≤140737488355328) then
 let l12:=x8.2.2++([(x11.2.2.1,x0,(rdA (0,0,0,0,[],[],0,0) x6 x10).1,((rdA (0,0,0,0,[],[],0,0) x6 x10).2).1,x11.2.1)]:List (QE))
 rec (x0,x4,x6,(x8.1,x8.2.1,l12),x9++[x11],w64 (x10+1))
 else none
 else none
 else none
 else none) (fun (x4,x5)=>
 some (Sum.inr (x4,x5))))
 else none
 else
 some (Sum.inl (x4,x6,x8,x9))
def ψ2L.f (p0:Int) (p1:QB):Option ((Int×Int×List (QE))×Bool):=
 (ψ2e.f p1).bind fun (t1_0,t1_1)=>
 bif t1_1 != (p1.length:Int) then
 some ((0,0,[]),false)
 else
 bif (t1_0.length:Int)==0 then
 some ((0,0,[]),false)
 else
 bif inB (w64 ((t1_0.length:Int) - 1)) t1_0.length then
 bif ((((rdA (0,0,0,0,[],[],0,0) t1_0 (w64 ((t1_0.length:Int) - 1))).2).2).1) != 5 then
 some ((0,0,[]),false)
 else
 (ψ2f.f p0).bind fun t2=>
 bif t2==[] then
 some ((0,0,[]),false)
 else
 bif inB (w64 ((t1_0.length:Int) - 1)) t1_0.length then
 let y3:=(p1.length:Int)
 let y4:=((((rdA (0,0,0,0,[],[],0,0) t1_0 (w64 ((t1_0.length:Int) - 1))).2).2).2).1
 (lp ψ2L.l0 (p0,(0,0,[]),t1_0,(y3,y4,[]),([]:List (QR)),0)).bind (fun o13=>φF o13 (fun (x4,x6,x8,x9)=>
 bif inB (w64 ((x6.length:Int) - 1)) x6.length then
 let y14:=(((rdA (0,0,0,0,[],[],0,0) x6 (w64 ((x6.length:Int) - 1))).2).2).1
 let y15:=((((rdA (0,0,0,0,[],[],0,0) x6 (w64 ((x6.length:Int) - 1))).2).2).2).1
 let y16:=(((((rdA (0,0,0,0,[],[],0,0) x6 (w64 ((x6.length:Int) - 1))).2).2).2).2).1
 let y17:=((((((rdA (0,0,0,0,[],[],0,0) x6 (w64 ((x6.length:Int) - 1))).2).2).2).2).2).1
 let y18:=(((((((rdA (0,0,0,0,[],[],0,0) x6 (w64 ((x6.length:Int) - 1))).2).2).2).2).2).2).1
 let y19:=(((((((rdA (0,0,0,0,[],[],0,0) x6 (w64 ((x6.length:Int) - 1))).2).2).2).2).2).2).2
 bif y18 != (x9.length:Int) then
 some ((0,0,[]),false)
 else
 (ψ2j.f x9).bind fun t20=>
 bif y19 != t20 then
 some ((0,0,[]),false)
 else
 some (x8,true)
 else none) (fun (x4,x5)=>
 some (x4,x5)))
 else none
 else none
def ψ2o.l0 (rec:((Int×Int×List (QE))×Int)→Option ((Unit) ⊕ (Bool))):((Int×Int×List (QE))×Int)→Option ((Unit) ⊕ (Bool)):=fun (x1,x3)=>
 bif decide (x3<(x1.2.2.length:Int)) then
 bif inB x3 x1.2.2.length then
 bif inB 0 x1.2.2.length then
 bif (((rdA ([],0,0,0,0) x1.2.2 x3).2).1) != (((rdA ([],0,0,0,0) x1.2.2 0).2).1) then
 some (Sum.inr false)
 else
 bif inB x3 x1.2.2.length then
 bif decide (((((rdA ([],0,0,0,0) x1.2.2 x3).2).2).1) > 100000) then
 some (Sum.inr false)
 else
 rec (x1,w64 (x3+1))
 else none
 else none
 else none
 else
 some (Sum.inl ())
def ψ2o.f (p0:Int×Int×List (QE)):Option (Bool):=
 (ψ2w.f p0.1 0 100000).bind fun t1=>
 bif !t1 then
 some false
 else
 (ψ2w.f p0.2.1 0 1000000).bind fun t2=>
 bif !t2 then
 some false
 else
 (ψ2C.f p0.2.2).bind fun t3=>
 bif !t3 then
 some false
 else
 (lp ψ2o.l0 (p0,0)).bind (fun o4=>φF o4 (fun _=>
 some true) (fun x2=>
 some x2))
def ψ2g.l0 (rec:((Int×Int×List (QE))×QB×Int)→Option (QB)):((Int×Int×List (QE))×QB×Int)→Option (QB):=fun (x1,x3,x4)=>
 bif decide (x4<(x1.2.2.length:Int)) then
 bif inB x4 x1.2.2.length then
 let y6:=(rdA ([],0,0,0,0) x1.2.2 x4).1
 let y7:=((rdA ([],0,0,0,0) x1.2.2 x4).2).1
 let y8:=(((rdA ([],0,0,0,0) x1.2.2 x4).2).2).1
 let y9:=((((rdA ([],0,0,0,0) x1.2.2 x4).2).2).2).1
 let y10:=((((rdA ([],0,0,0,0) x1.2.2 x4).2).2).2).2
 (ψ2n.f (y6.length:Int)).bind fun t11=>
 bif decide (x3.length+t11.length≤9223372036854775807) then
 bif decide ((x3++t11).length+y6.length≤9223372036854775807) then
 (ψ2n.f y7).bind fun t12=>
 bif decide (((x3++t11)++y6).length+t12.length≤9223372036854775807) then
 (ψ2n.f y8).bind fun t13=>
 bif decide ((((x3++t11)++y6)++t12).length+t13.length≤9223372036854775807) then
 (ψ2n.f y9).bind fun t14=>
 bif decide (((((x3++t11)++y6)++t12)++t13).length+t14.length≤9223372036854775807) then
 (ψ2n.f y10).bind fun t15=>
 bif decide ((((((x3++t11)++y6)++t12)++t13)++t14).length+t15.length≤9223372036854775807) then
 let y16:=(((((x3++t11)++y6)++t12)++t13)++t14)++t15
 rec (x1,y16,w64 (x4+1))
 else none
 else none
 else none
 else none
 else none
 else none
 else none
 else
 some x3
def ψ2g.f (p0:Int×Int×List (QE)):Option (QB):=
 (ψ2o.f p0).bind fun t1=>
 bif !t1 then
 some []
 else
 (ψ2n.f p0.1).bind fun t2=>
 (ψ2n.f p0.2.1).bind fun t3=>
 bif decide (t2.length+t3.length≤9223372036854775807) then
 (ψ2n.f (p0.2.2.length:Int)).bind fun t4=>
 bif decide ((t2++t3).length+t4.length≤9223372036854775807) then
 let y5:=(t2++t3)++t4
 (lp ψ2g.l0 (p0,y5,0)).bind (fun x3=>
 (ψ28.f x3).bind fun t17=>
 (ψ2H.f t17 4).bind fun t18=>
 bif decide (t18.length+x3.length≤9223372036854775807) then
 some (t18++x3)
 else none)
 else none
 else none
def ψ2T.l0 (rec:(QB×Int×Int×Int)→Option (QB×Int×Int)):(QB×Int×Int×Int)→Option (QB×Int×Int):=fun (x0,x4,x5,x6)=>
 bif decide (x6<(x0.length:Int)) then
 bif decide (x6<11) then
 (bif inB x6 x0.length then
 bif decide ((bAt x0 x6)≥48) then
 bif inB x6 x0.length then
 bif decide ((bAt x0 x6)≤57) then
 bif inB x6 x0.length then
 let y1:=w64 ((w64 (x4 * 10))+(w64 (IntKind.wrap .u8 ((bAt x0 x6) - 48))))
 some (x0,y1,w64 (x5+1),x6)
 else none
 else
 some (x0,x4,x5,x6)
 else none
 else
 some (x0,x4,x5,x6)
 else none:Option (QB×Int×Int×Int)).bind (fun (x0,x4,x5,x6)=>
 rec (x0,x4,x5,w64 (x6+1)))
 else
 some (x0,x4,x5)
 else
 some (x0,x4,x5)
def ψ2T.f (p0:QB):Option (Int×Bool):=
 (lp ψ2T.l0 (p0,0,0,0)).bind (fun (x0,x4,x5)=>
 (bif decide ((x0.length:Int) > 0) then
 bif inB 0 x0.length then
 bif (bAt x0 0)==45 then
 some (x0,w64 (0 - x4),x5)
 else
 some (x0,x4,x5)
 else none
 else
 some (x0,x4,x5):Option (QB×Int×Int)).bind (fun (x0,x4,x5)=>
 bif decide (x5 > 9) then
 some (0,false)
 else
 bif decide ((x0.length:Int) > 10) then
 some (0,false)
 else
 (ψ2A.f x4).bind fun t2=>
 bif !(t2==x0) then
 some (0,false)
 else
 some (x4,true)))
def ψ2M.l0 (rec:(QB×Int)→Option ((Unit) ⊕ (Int×Bool))):(QB×Int)→Option ((Unit) ⊕ (Int×Bool)):=fun (x0,x4)=>
 bif decide (x4≤4) then
 (bif decide ((x0.length:Int) > x4) then
 bif (decide (0≤x4) && decide (x4≤(x0.length:Int))) then
 (ψ2T.f (x0.drop x4.toNat)).bind fun (t1_0,t1_1)=>
 (bif t1_1 then
 bif decide (t1_0≥1) then
 (ψ2f.f t1_0).bind fun t2=>
 bif t2==x0 then
 some (Sum.inr (t1_0,true))
 else
 (ψ2K.f t1_0).bind fun t3=>
 bif t3==x0 then
 some (Sum.inr (t1_0,true))
 else
 some (Sum.inl (x0,x4))
 else
 some (Sum.inl (x0,x4))
 else
 some (Sum.inl (x0,x4)):Option ((QB×Int) ⊕ (Int×Bool))).bind (fun o4=>φF o4 (fun (x0,x4)=>
 some (Sum.inl (x0,x4))) (fun (x2,x3)=>
 some (Sum.inr (x2,x3))))
 else none
 else
 some (Sum.inl (x0,x4)):Option ((QB×Int) ⊕ (Int×Bool))).bind (fun o5=>φF o5 (fun (x0,x4)=>
 rec (x0,w64 (x4+1))) (fun (x2,x3)=>
 some (Sum.inr (x2,x3))))
 else
 some (Sum.inl ())
def ψ2M.f (p0:QB):Option (Int×Bool):=
 (lp ψ2M.l0 (p0,3)).bind (fun o6=>φF o6 (fun _=>
 some (0,false)) (fun (x2,x3)=>
 some (x2,x3)))
def ψ2R.l2 (rec:((QD)×(Int×List Int)×List (QB)×Int×Int×Bool×Bool×Int)→Option ((QD)×(Int×List Int)×List (QB)×Int×Bool×Bool)):((QD)×(Int×List Int)×List (QB)×Int×Int×Bool×Bool×Int)→Option ((QD)×(Int×List Int)×List (QB)×Int×Bool×Bool):=fun (x2,x3,x5,x6,x7,x8,x9,x10)=>
 bif decide (x10<(x3.2.length:Int)) then
 (bif x9 then
 some (x2,x3,x5,x6,x7,x8,true,x10)
 else
 bif inB x10 x3.2.length then
 let y3:=(rdA 0 x3.2 x10)==x7
 some (x2,x3,x5,x6,x7,x8,y3,x10)
 else none:Option ((QD)×(Int×List Int)×List (QB)×Int×Int×Bool×Bool×Int)).bind (fun (x2,x3,x5,x6,x7,x8,x9,x10)=>
 rec (x2,x3,x5,x6,x7,x8,x9,w64 (x10+1)))
 else
 some (x2,x3,x5,x6,x8,x9)
def ψ2R.l0 (rec:((QD)×(Int×List Int)×List (QB)×Int)→Option (List (QB))):((QD)×(Int×List Int)×List (QB)×Int)→Option (List (QB)):=fun (x2,x3,x5,x6)=>
 bif decide (x6<(x2.1.length:Int)) then
 bif inB x6 x2.1.length then
 (ψ2M.f ((rdA ([],[],0) x2.1 x6).1)).bind fun (t2_0,t2_1)=>
 (lp ψ2R.l2 (x2,x3,x5,x6,t2_0,t2_1,false,0)).bind (fun (x2,x3,x5,x6,x8,x9)=>
 (bif x8 then
 bif !x9 then
 bif inB x6 x2.1.length then
 bif decide ((x5.length+([(rdA ([],[],0) x2.1 x6).1]:List (QB)).length) * 16≤140737488355328) then
 let l4:=x5++([(rdA ([],[],0) x2.1 x6).1]:List (QB))
 some (x2,x3,l4,x6)
 else none
 else none
 else
 bif inB x6 x2.1.length then
 bif ((rdA ([],[],0) x2.1 x6).1)==[116,101,109,112] then
 bif inB x6 x2.1.length then
 bif decide ((x5.length+([(rdA ([],[],0) x2.1 x6).1]:List (QB)).length) * 16≤140737488355328) then
 let l5:=x5++([(rdA ([],[],0) x2.1 x6).1]:List (QB))
 some (x2,x3,l5,x6)
 else none
 else none
 else
 some (x2,x3,x5,x6)
 else none
 else
 bif inB x6 x2.1.length then
 bif ((rdA ([],[],0) x2.1 x6).1)==[116,101,109,112] then
 bif inB x6 x2.1.length then
 bif decide ((x5.length+([(rdA ([],[],0) x2.1 x6).1]:List (QB)).length) * 16≤140737488355328) then
 let l6:=x5++([(rdA ([],[],0) x2.1 x6).1]:List (QB))
 some (x2,x3,l6,x6)
 else none
 else none
 else
 some (x2,x3,x5,x6)
 else none:Option ((QD)×(Int×List Int)×List (QB)×Int)).bind (fun (x2,x3,x5,x6)=>
 rec (x2,x3,x5,w64 (x6+1))))
 else none
 else
 some x5
def ψ2R.f (p0:QD) (p1:Int×List Int):Option (List (QB)):=
 (ψ2E.f p0).bind fun t1=>
 bif !t1 then
 some []
 else
 (lp ψ2R.l0 (p0,p1,[],0)).bind (fun x5=>
 some x5)
def ψ2v.l0 (rec:((QD)×(QD)×List (QB)×Int)→Option (((QD)×QD) ⊕ ((QD)×Int))):((QD)×(QD)×List (QB)×Int)→Option (((QD)×QD) ⊕ ((QD)×Int)):=fun (x2,x4,x6,x7)=>
 bif decide (x7<(x6.length:Int)) then
 bif inB x7 x6.length then
 (ψ2b.f x2 (rdA [] x6 x7)).bind fun (t2_0,t2_1)=>
 bif t2_1 != 0 then
 (ψ2q.f t2_1).bind fun t3=>
 some (Sum.inr (t2_0,t3))
 else
 rec (t2_0,x4,x6,w64 (x7+1))
 else none
 else
 some (Sum.inl (x2,x4))
def ψ2v.f (p0:QD) (p1:Int×List Int):Option ((QD)×Int):=
 (ψ2R.f p0 p1).bind fun t1=>
 (lp ψ2v.l0 (p0,([],0,0,false),t1,0)).bind (fun o4=>φF o4 (fun (x2,x4)=>
 some (x2,0)) (fun (x4,x5)=>
 some (x4,x5)))
def ψ2s.f (p0:QD):Option ((QS)×(QD)×Int):=
 (ψ2v.f p0 (0,[])).bind fun (t1_0,t1_1)=>
 bif t1_1 != 0 then
 some (((0,[]),[],0,0,0),t1_0,t1_1)
 else
 (ψ2f.f 1).bind fun t2=>
 (ψ29.f t1_0 t2).bind fun (t3_0,t3_1)=>
 bif t3_1 != 0 then
 (ψ2q.f t3_1).bind fun t4=>
 some (((0,[]),[],0,0,0),t3_0,t4)
 else
 (ψ2S.f t3_0 (2,[1])).bind fun (t5_0,t5_1)=>
 bif t5_1 != 0 then
 some (((0,[]),[],0,0,0),t5_0,t5_1)
 else
 some (((2,[1]),[],1,0,0),t5_0,0)
def ψ2W.l0 (rec:(QB×(Int×List Int)×QB×Int×(Int×List Int)×Int×Int)→Option (QB×(Int×List Int)×Int×List Int)):(QB×(Int×List Int)×QB×Int×(Int×List Int)×Int×Int)→Option (QB×(Int×List Int)×Int×List Int):=fun (x0,x2,x4,x8,x10,x11,x12)=>
 bif decide (x12<x8) then
 bif decide (x12<60) then
 bif (decide (0≤x11) && decide (x11≤(x4.length:Int))) then
 (ψ2Y.f (x4.drop x11.toNat)).bind fun (t5_0,t5_1)=>
 bif decide ((x10.2.length+[t5_0].length) * 8≤140737488355328) then
 let l6:=x10.2++[t5_0]
 let y7:=w64 (x11+t5_1)
 rec (x0,x2,x4,x8,(x10.1,l6),y7,w64 (x12+1))
 else none
 else none
 else
 some (x0,x2,x10)
 else
 some (x0,x2,x10)
def ψ2W.f (p0:QB):Option ((Int×List Int)×Bool):=
 (ψ2m.f p0).bind fun (t1_0,t1_1)=>
 (ψ2Y.f t1_0).bind fun (t2_0,t2_1)=>
 bif t1_1 != (p0.length:Int) then
 some ((0,[]),false)
 else
 bif t1_1==0 then
 some ((0,[]),false)
 else
 bif t2_1==0 then
 some ((0,[]),false)
 else
 bif (decide (0≤t2_1) && decide (t2_1≤(t1_0.length:Int))) then
 (ψ2Y.f (t1_0.drop t2_1.toNat)).bind fun (t3_0,t3_1)=>
 let y4:=w64 (t2_1+t3_1)
 (lp ψ2W.l0 (p0,(0,[]),t1_0,t3_0,(t2_0,[]),y4,0)).bind (fun (x0,x2,x10)=>
 (ψ2h.f x10).bind fun t8=>
 bif !(t8==x0) then
 some ((0,[]),false)
 else
 some (x10,true))
 else none
def ψ2p.l0 (rec:(QB×Int×Int×List Int×Int)→Option ((Int×List Int) ⊕ (List Int×Int))):(QB×Int×Int×List Int×Int)→Option ((Int×List Int) ⊕ (List Int×Int)):=fun (x0,x1,x2,x8,x9)=>
 bif decide (x9<x2) then
 bif (decide (0≤x1) && decide (x1≤(x0.length:Int))) then
 (ψ2Y.f (x0.drop x1.toNat)).bind fun (t1_0,t1_1)=>
 bif t1_1==0 then
 bif (x2==x2) then
 bif (decide (0≤x2) && decide (8 * x2≤140737488355328)) then
 let l2:=κU x2.toNat 0
 some (Sum.inr (l2,(-1)))
 else none
 else none
 else
 bif decide ((x8.length+[t1_0].length) * 8≤140737488355328) then
 let y3:=w64 (x1+t1_1)
 rec (x0,y3,x2,x8++[t1_0],w64 (x9+1))
 else none
 else none
 else
 some (Sum.inl (x1,x8))
def ψ2p.f (p0:QB) (p1:Int) (p2:Int):Option (List Int×Int):=
 (lp ψ2p.l0 (p0,p1,p2,([]:List Int),0)).bind (fun o4=>φF o4 (fun (x1,x8)=>
 some (x8,x1)) (fun (x6,x7)=>
 some (x6,x7)))
def ψ2V.l0 (rec:(QB×(Int×Int×List (QE))×List Int×Int×(Int×Int×List (QE))×Int)→Option ((QB×(Int×Int×List (QE))×Int×Int×List (QE)) ⊕ ((Int×Int×List (QE))×Bool))):(QB×(Int×Int×List (QE))×List Int×Int×(Int×Int×List (QE))×Int)→Option ((QB×(Int×Int×List (QE))×Int×Int×List (QE)) ⊕ ((Int×Int×List (QE))×Bool)):=fun (x0,x2,x4,x5,x6,x7)=>
 bif inB 2 x4.length then
 bif decide (x7<(rdA 0 x4 2)) then
 bif (decide (0≤x5) && decide (x5≤(x0.length:Int))) then
 (ψ33.f (x0.drop x5.toNat)).bind fun (t2_0,t2_1,t2_2)=>
 (ψ2p.f t2_1 0 4).bind fun (t3_0,t3_1)=>
 bif !t2_2 then
 some (Sum.inr ((0,0,[]),false))
 else
 bif decide (t3_1<0) then
 some (Sum.inr ((0,0,[]),false))
 else
 bif inB 0 t3_0.length then
 bif inB 1 t3_0.length then
 bif inB 2 t3_0.length then
 bif inB 3 t3_0.length then
 bif decide ((x6.2.2.length+[(t2_0,rdA 0 t3_0 0,rdA 0 t3_0 1,rdA 0 t3_0 2,rdA 0 t3_0 3)].length) * 48≤140737488355328) then
 let l4:=x6.2.2++[(t2_0,rdA 0 t3_0 0,rdA 0 t3_0 1,rdA 0 t3_0 2,rdA 0 t3_0 3)]
 let y5:=w64 ((w64 ((x0.length:Int) - (t2_1.length:Int)))+t3_1)
 rec (x0,x2,x4,y5,(x6.1,x6.2.1,l4),w64 (x7+1))
 else none
 else none
 else none
 else none
 else none
 else none
 else
 some (Sum.inl (x0,x2,x6))
 else none
def ψ2V.f (p0:QB):Option ((Int×Int×List (QE))×Bool):=
 bif decide ((p0.length:Int)<4) then
 some ((0,0,[]),false)
 else
 (ψ2p.f p0 4 3).bind fun (t1_0,t1_1)=>
 bif decide (t1_1<0) then
 some ((0,0,[]),false)
 else
 bif inB 2 t1_0.length then
 bif decide ((rdA 0 t1_0 2) > 20) then
 some ((0,0,[]),false)
 else
 bif inB 0 t1_0.length then
 bif inB 1 t1_0.length then
 (lp ψ2V.l0 (p0,(0,0,[]),t1_0,t1_1,(rdA 0 t1_0 0,rdA 0 t1_0 1,[]),0)).bind (fun o6=>φF o6 (fun (x0,x2,x6)=>
 (ψ2g.f x6).bind fun t7=>
 bif !(t7==x0) then
 some ((0,0,[]),false)
 else
 some (x6,true)) (fun (x2,x3)=>
 some (x2,x3)))
 else none
 else none
 else none
def ψ2d.l0 (rec:(List (QE)×List (QE)×Int)→Option ((Unit) ⊕ (Bool))):(List (QE)×List (QE)×Int)→Option ((Unit) ⊕ (Bool)):=fun (x0,x1,x5)=>
 bif decide (x5<(x0.length:Int)) then
 bif inB x5 x0.length then
 bif inB x5 x1.length then
 bif !(((rdA ([],0,0,0,0) x0 x5).1)==((rdA ([],0,0,0,0) x1 x5).1) && ((((rdA ([],0,0,0,0) x0 x5).2).1)==(((rdA ([],0,0,0,0) x1 x5).2).1) && (((((rdA ([],0,0,0,0) x0 x5).2).2).1)==((((rdA ([],0,0,0,0) x1 x5).2).2).1) && ((((((rdA ([],0,0,0,0) x0 x5).2).2).2).1)==(((((rdA ([],0,0,0,0) x1 x5).2).2).2).1) && ((((((rdA ([],0,0,0,0) x0 x5).2).2).2).2)==(((((rdA ([],0,0,0,0) x1 x5).2).2).2).2)))))) then
 some (Sum.inr false)
 else
 rec (x0,x1,w64 (x5+1))
 else none
 else none
 else
 some (Sum.inl ())
def ψ2d.f (p0:List (QE)) (p1:List (QE)):Option (Bool):=
 bif (p0.length:Int) != (p1.length:Int) then
 some false
 else
 (lp ψ2d.l0 (p0,p1,0)).bind (fun o1=>φF o1 (fun _=>
 some true) (fun x4=>
 some x4))
def ψ2J.f (p0:Int) (p1:QB) (p2:Int×Int×List (QE)):Option (Bool):=
 (ψ2L.f p0 p1).bind fun (t1_0,t1_1)=>
 bif t1_1 then
 bif t1_0.1==p2.1 then
 bif t1_0.2.1==p2.2.1 then
 (ψ2d.f t1_0.2.2 p2.2.2).bind fun t2=>
 some t2
 else
 some false
 else
 some false
 else
 some false
def ψ2u.l0 (rec:(Int×List (Int×Int×Int×QR)×List (Int×Int×QR)×Int)→Option (QL)):(Int×List (Int×Int×Int×QR)×List (Int×Int×QR)×Int)→Option (QL):=fun (x0,x5,x6,x8)=>
 bif decide (x8<(x6.length:Int)) then
 bif inB x8 x6.length then
 bif inB x8 x6.length then
 bif inB x8 x6.length then
 bif decide ((x5.length+([(x0,(rdA (0,0,0,0,[],[],0,0) x6 x8).1,((rdA (0,0,0,0,[],[],0,0) x6 x8).2).1,(((rdA (0,0,0,0,[],[],0,0) x6 x8).2).2).1,((((rdA (0,0,0,0,[],[],0,0) x6 x8).2).2).2).1,(((((rdA (0,0,0,0,[],[],0,0) x6 x8).2).2).2).2).1,((((((rdA (0,0,0,0,[],[],0,0) x6 x8).2).2).2).2).2).1,(((((((rdA (0,0,0,0,[],[],0,0) x6 x8).2).2).2).2).2).2))]:QL).length) * 88≤140737488355328) then
 let l2:=x5++([(x0,(rdA (0,0,0,0,[],[],0,0) x6 x8).1,((rdA (0,0,0,0,[],[],0,0) x6 x8).2).1,(((rdA (0,0,0,0,[],[],0,0) x6 x8).2).2).1,((((rdA (0,0,0,0,[],[],0,0) x6 x8).2).2).2).1,(((((rdA (0,0,0,0,[],[],0,0) x6 x8).2).2).2).2).1,((((((rdA (0,0,0,0,[],[],0,0) x6 x8).2).2).2).2).2).1,(((((((rdA (0,0,0,0,[],[],0,0) x6 x8).2).2).2).2).2).2))]:QL)
 rec (x0,l2,x6,w64 (x8+1))
 else none
 else none
 else none
 else none
 else
 some x5
def ψ2u.f (p0:Int) (p1:QB):Option (QL):=
 (ψ2e.f p1).bind fun (t1_0,t1_1)=>
 (lp ψ2u.l0 (p0,([]:QL),t1_0,0)).bind (fun x5=>
 some x5)
def ψ36.l0 (rec:(List (Int×Int×Int×QR)×Int×Int×List (Int×Int×Int×QR)×Int)→Option (QL)):(List (Int×Int×Int×QR)×Int×Int×List (Int×Int×Int×QR)×Int)→Option (QL):=fun (x0,x1,x2,x7,x8)=>
 bif decide (x8<x1) then
 bif inB x8 x0.length then
 let y1:=((((rdA (0,0,0,0,0,[],[],0,0) x0 x8).2).2).2).1
 let y2:=(((((rdA (0,0,0,0,0,[],[],0,0) x0 x8).2).2).2).2).1
 let y3:=((((((rdA (0,0,0,0,0,[],[],0,0) x0 x8).2).2).2).2).2).1
 let y4:=(((((((rdA (0,0,0,0,0,[],[],0,0) x0 x8).2).2).2).2).2).2).1
 let y5:=((((((((rdA (0,0,0,0,0,[],[],0,0) x0 x8).2).2).2).2).2).2).2).1
 let y6:=((((((((rdA (0,0,0,0,0,[],[],0,0) x0 x8).2).2).2).2).2).2).2).2
 (bif y2==x2 then
 bif y1==3 then
 some (x0,x1,x2,([]:QL),x8,(y1,y2,y3,y4,y5,y6))
 else
 some (x0,x1,x2,x7,x8,(y1,y2,y3,y4,y5,y6))
 else
 some (x0,x1,x2,x7,x8,(y1,y2,y3,y4,y5,y6)):Option (List (Int×Int×Int×QR)×Int×Int×List (Int×Int×Int×QR)×Int×QR)).bind (fun (x0,x1,x2,x7,x8,x9)=>
 (bif x9.2.1==x2 then
 bif x9.1==1 then
 bif inB x8 x0.length then
 bif decide ((x7.length+([((rdA (0,0,0,0,0,[],[],0,0) x0 x8).1,((rdA (0,0,0,0,0,[],[],0,0) x0 x8).2).1,(((rdA (0,0,0,0,0,[],[],0,0) x0 x8).2).2).1,((((rdA (0,0,0,0,0,[],[],0,0) x0 x8).2).2).2).1,(((((rdA (0,0,0,0,0,[],[],0,0) x0 x8).2).2).2).2).1,((((((rdA (0,0,0,0,0,[],[],0,0) x0 x8).2).2).2).2).2).1,(((((((rdA (0,0,0,0,0,[],[],0,0) x0 x8).2).2).2).2).2).2).1,((((((((rdA (0,0,0,0,0,[],[],0,0) x0 x8).2).2).2).2).2).2).2))]:QL).length) * 88≤140737488355328) then
 let l7:=x7++([((rdA (0,0,0,0,0,[],[],0,0) x0 x8).1,((rdA (0,0,0,0,0,[],[],0,0) x0 x8).2).1,(((rdA (0,0,0,0,0,[],[],0,0) x0 x8).2).2).1,((((rdA (0,0,0,0,0,[],[],0,0) x0 x8).2).2).2).1,(((((rdA (0,0,0,0,0,[],[],0,0) x0 x8).2).2).2).2).1,((((((rdA (0,0,0,0,0,[],[],0,0) x0 x8).2).2).2).2).2).1,(((((((rdA (0,0,0,0,0,[],[],0,0) x0 x8).2).2).2).2).2).2).1,((((((((rdA (0,0,0,0,0,[],[],0,0) x0 x8).2).2).2).2).2).2).2))]:QL)
 some (x0,x1,x2,l7,x8)
 else none
 else none
 else
 bif x9.1==2 then
 bif inB x8 x0.length then
 bif decide ((x7.length+([((rdA (0,0,0,0,0,[],[],0,0) x0 x8).1,((rdA (0,0,0,0,0,[],[],0,0) x0 x8).2).1,(((rdA (0,0,0,0,0,[],[],0,0) x0 x8).2).2).1,((((rdA (0,0,0,0,0,[],[],0,0) x0 x8).2).2).2).1,(((((rdA (0,0,0,0,0,[],[],0,0) x0 x8).2).2).2).2).1,((((((rdA (0,0,0,0,0,[],[],0,0) x0 x8).2).2).2).2).2).1,(((((((rdA (0,0,0,0,0,[],[],0,0) x0 x8).2).2).2).2).2).2).1,((((((((rdA (0,0,0,0,0,[],[],0,0) x0 x8).2).2).2).2).2).2).2))]:QL).length) * 88≤140737488355328) then
 let l8:=x7++([((rdA (0,0,0,0,0,[],[],0,0) x0 x8).1,((rdA (0,0,0,0,0,[],[],0,0) x0 x8).2).1,(((rdA (0,0,0,0,0,[],[],0,0) x0 x8).2).2).1,((((rdA (0,0,0,0,0,[],[],0,0) x0 x8).2).2).2).1,(((((rdA (0,0,0,0,0,[],[],0,0) x0 x8).2).2).2).2).1,((((((rdA (0,0,0,0,0,[],[],0,0) x0 x8).2).2).2).2).2).1,(((((((rdA (0,0,0,0,0,[],[],0,0) x0 x8).2).2).2).2).2).2).1,((((((((rdA (0,0,0,0,0,[],[],0,0) x0 x8).2).2).2).2).2).2).2))]:QL)
 some (x0,x1,x2,l8,x8)
 else none
 else none
 else
 some (x0,x1,x2,x7,x8)
 else
 some (x0,x1,x2,x7,x8):Option (List (Int×Int×Int×QR)×Int×Int×List (Int×Int×Int×QR)×Int)).bind (fun (x0,x1,x2,x7,x8)=>
 rec (x0,x1,x2,x7,w64 (x8+1))))
 else none
 else
 some x7
def ψ36.f (p0:QL) (p1:Int) (p2:Int):Option (QL):=
 (lp ψ36.l0 (p0,p1,p2,([]:QL),0)).bind (fun x7=>
 some x7)
def ψ38.l0 (rec:(List (Int×Int×Int×QR)×List (QR)×Int)→Option (List (QR))):(List (Int×Int×Int×QR)×List (QR)×Int)→Option (List (QR)):=fun (x0,x3,x4)=>
 bif decide (x4<(x0.length:Int)) then
 bif inB x4 x0.length then
 bif decide ((x3.length+([(((((rdA (0,0,0,0,0,[],[],0,0) x0 x4).2).2).2).1,(((((rdA (0,0,0,0,0,[],[],0,0) x0 x4).2).2).2).2).1,((((((rdA (0,0,0,0,0,[],[],0,0) x0 x4).2).2).2).2).2).1,(((((((rdA (0,0,0,0,0,[],[],0,0) x0 x4).2).2).2).2).2).2).1,((((((((rdA (0,0,0,0,0,[],[],0,0) x0 x4).2).2).2).2).2).2).2))]:List (QR)).length) * 64≤140737488355328) then
 let l1:=x3++([(((((rdA (0,0,0,0,0,[],[],0,0) x0 x4).2).2).2).1,(((((rdA (0,0,0,0,0,[],[],0,0) x0 x4).2).2).2).2).1,((((((rdA (0,0,0,0,0,[],[],0,0) x0 x4).2).2).2).2).2).1,(((((((rdA (0,0,0,0,0,[],[],0,0) x0 x4).2).2).2).2).2).2).1,((((((((rdA (0,0,0,0,0,[],[],0,0) x0 x4).2).2).2).2).2).2).2))]:List (QR))
 rec (x0,l1,w64 (x4+1))
 else none
 else none
 else
 some x3
def ψ38.f (p0:QL):Option (List (QR)):=
 (lp ψ38.l0 (p0,([]:List (QR)),0)).bind (fun x3=>
 some x3)
def ψ34.f (p0:QR) (p1:QL):Option (Bool):=
 bif p0.2.2.2.2.1==(p1.length:Int) then
 (ψ38.f p1).bind fun t1=>
 (ψ2j.f t1).bind fun t2=>
 let y3:=p0.2.2.2.2.2==t2
 some y3
 else
 some false
def ψ35.l0 (rec:(List (Int×Int×Int×QR)×Int×List (Int×Int×Int×QR)×Int)→Option (QL)):(List (Int×Int×Int×QR)×Int×List (Int×Int×Int×QR)×Int)→Option (QL):=fun (x0,x1,x5,x6)=>
 bif decide (x6<x1) then
 (bif inB x6 x0.length then
 bif (((((rdA (0,0,0,0,0,[],[],0,0) x0 x6).2).2).2).1)==5 then
 some (x0,x1,([]:QL),x6)
 else
 some (x0,x1,x5,x6)
 else none:Option (List (Int×Int×Int×QR)×Int×List (Int×Int×Int×QR)×Int)).bind (fun (x0,x1,x5,x6)=>
 (bif inB x6 x0.length then
 bif (((((rdA (0,0,0,0,0,[],[],0,0) x0 x6).2).2).2).1)==4 then
 bif inB x6 x0.length then
 bif decide ((x5.length+([((rdA (0,0,0,0,0,[],[],0,0) x0 x6).1,((rdA (0,0,0,0,0,[],[],0,0) x0 x6).2).1,(((rdA (0,0,0,0,0,[],[],0,0) x0 x6).2).2).1,((((rdA (0,0,0,0,0,[],[],0,0) x0 x6).2).2).2).1,(((((rdA (0,0,0,0,0,[],[],0,0) x0 x6).2).2).2).2).1,((((((rdA (0,0,0,0,0,[],[],0,0) x0 x6).2).2).2).2).2).1,(((((((rdA (0,0,0,0,0,[],[],0,0) x0 x6).2).2).2).2).2).2).1,((((((((rdA (0,0,0,0,0,[],[],0,0) x0 x6).2).2).2).2).2).2).2))]:QL).length) * 88≤140737488355328) then
 let l1:=x5++([((rdA (0,0,0,0,0,[],[],0,0) x0 x6).1,((rdA (0,0,0,0,0,[],[],0,0) x0 x6).2).1,(((rdA (0,0,0,0,0,[],[],0,0) x0 x6).2).2).1,((((rdA (0,0,0,0,0,[],[],0,0) x0 x6).2).2).2).1,(((((rdA (0,0,0,0,0,[],[],0,0) x0 x6).2).2).2).2).1,((((((rdA (0,0,0,0,0,[],[],0,0) x0 x6).2).2).2).2).2).1,(((((((rdA (0,0,0,0,0,[],[],0,0) x0 x6).2).2).2).2).2).2).1,((((((((rdA (0,0,0,0,0,[],[],0,0) x0 x6).2).2).2).2).2).2).2))]:QL)
 some (x0,x1,l1,x6)
 else none
 else none
 else
 some (x0,x1,x5,x6)
 else none:Option (List (Int×Int×Int×QR)×Int×List (Int×Int×Int×QR)×Int)).bind (fun (x0,x1,x5,x6)=>
 rec (x0,x1,x5,w64 (x6+1))))
 else
 some x5
def ψ35.f (p0:QL) (p1:Int):Option (QL):=
 (lp ψ35.l0 (p0,p1,([]:QL),0)).bind (fun x5=>
 some x5)
def ψ2a.l3 (rec:(List (Int×Int×Int×QR)×(List (QE)×Int×Int)×(List (QE)×Int×Int)×Int×List (Int×Int×Int×QR)×Int)→Option (List (Int×Int×Int×QR)×(List (QE)×Int×Int)×(List (QE)×Int×Int)×Int)):(List (Int×Int×Int×QR)×(List (QE)×Int×Int)×(List (QE)×Int×Int)×Int×List (Int×Int×Int×QR)×Int)→Option (List (Int×Int×Int×QR)×(List (QE)×Int×Int)×(List (QE)×Int×Int)×Int):=fun (x1,x4,x5,x6,x8,x9)=>
 bif decide (x9<(x8.length:Int)) then
 bif inB x9 x8.length then
 (ψ37.f x5.1 ((rdA (0,0,0,0,0,[],[],0,0) x8 x9).1,((rdA (0,0,0,0,0,[],[],0,0) x8 x9).2).1,(((rdA (0,0,0,0,0,[],[],0,0) x8 x9).2).2).1,((((rdA (0,0,0,0,0,[],[],0,0) x8 x9).2).2).2).1,(((((rdA (0,0,0,0,0,[],[],0,0) x8 x9).2).2).2).2).1,((((((rdA (0,0,0,0,0,[],[],0,0) x8 x9).2).2).2).2).2).1,(((((((rdA (0,0,0,0,0,[],[],0,0) x8 x9).2).2).2).2).2).2).1,((((((((rdA (0,0,0,0,0,[],[],0,0) x8 x9).2).2).2).2).2).2).2))).bind fun t14=>
 rec (x1,x4,(t14,x5.2),x6,x8,w64 (x9+1))
 else none
 else
 some (x1,x4,x5,x6)
def ψ2a.l0 (rec:(List (Int×Int×Int×QR)×(List (QE)×Int×Int)×(List (QE)×Int×Int)×Int)→Option (List (Int×Int×Int×QR)×(List (QE)×Int×Int)×List (QE)×Int×Int)):(List (Int×Int×Int×QR)×(List (QE)×Int×Int)×(List (QE)×Int×Int)×Int)→Option (List (Int×Int×Int×QR)×(List (QE)×Int×Int)×List (QE)×Int×Int):=fun (x1,x4,x5,x6)=>
 bif decide (x6<(x1.length:Int)) then
 bif x5.2.2==0 then
 (bif inB x6 x1.length then
 let y2:=((((rdA (0,0,0,0,0,[],[],0,0) x1 x6).2).2).2).1
 let y3:=(((((rdA (0,0,0,0,0,[],[],0,0) x1 x6).2).2).2).2).1
 let y4:=((((((rdA (0,0,0,0,0,[],[],0,0) x1 x6).2).2).2).2).2).1
 let y5:=(((((((rdA (0,0,0,0,0,[],[],0,0) x1 x6).2).2).2).2).2).2).1
 let y6:=((((((((rdA (0,0,0,0,0,[],[],0,0) x1 x6).2).2).2).2).2).2).2).1
 let y7:=((((((((rdA (0,0,0,0,0,[],[],0,0) x1 x6).2).2).2).2).2).2).2).2
 let y8:=if y3 > x5.2.1 then y3 else x5.2.1
 (bif y2==3 then
 (ψ36.f x1 x6 y3).bind fun t9=>
 (ψ34.f (y2,y3,y4,y5,y6,y7) t9).bind fun t10=>
 bif !t10 then
 some (Sum.inr (x1,x4,(x5.1,y8,x5.2.2),x6))
 else
 some (Sum.inl (x1,x4,(x5.1,y8,x5.2.2),x6,t9))
 else
 bif y2==5 then
 (ψ35.f x1 x6).bind fun t11=>
 (ψ34.f (y2,y3,y4,y5,y6,y7) t11).bind fun t12=>
 bif !t12 then
 some (Sum.inr (x1,x4,(x5.1,y8,1),x6))
 else
 some (Sum.inl (x1,x4,(x5.1,y8,x5.2.2),x6,t11))
 else
 some (Sum.inr (x1,x4,(x5.1,y8,x5.2.2),x6)):Option ((List (Int×Int×Int×QR)×(List (QE)×Int×Int)×(List (QE)×Int×Int)×Int×QL) ⊕ (List (Int×Int×Int×QR)×(List (QE)×Int×Int)×(List (QE)×Int×Int)×Int))).bind (fun o13=>φF o13 (fun (x1,x4,x5,x6,x8)=>
 (lp ψ2a.l3 (x1,x4,x5,x6,x8,0)).bind (fun (x1,x4,x5,x6)=>
 (bif decide ((x5.1.length:Int) > 20) then
 some (x1,x4,(x5.1,x5.2.1,2),x6)
 else
 some (x1,x4,x5,x6):Option (List (Int×Int×Int×QR)×(List (QE)×Int×Int)×(List (QE)×Int×Int)×Int)).bind (fun (x1,x4,x5,x6)=>
 some (x1,x4,x5,x6)))) (fun (x1,x4,x5,x6)=>
 some (x1,x4,x5,x6)))
 else none:Option (List (Int×Int×Int×QR)×(List (QE)×Int×Int)×(List (QE)×Int×Int)×Int)).bind (fun (x1,x4,x5,x6)=>
 rec (x1,x4,x5,w64 (x6+1)))
 else
 some (x1,x4,x5)
 else
 some (x1,x4,x5)
def ψ2a.f (p0:List (QE)×Int×Int) (p1:QL):Option (List (QE)×Int×Int):=
 bif decide ((([]:List (QE)).length+p0.1.length) * 48≤140737488355328) then
 let l1:=([]:List (QE))++p0.1
 (lp ψ2a.l0 (p1,([],0,0),(l1,p0.2),0)).bind (fun (x1,x4,x5)=>
 bif x5.2.2==0 then
 (ψ35.f x1 (x1.length:Int)).bind fun t15=>
 bif decide ((t15.length:Int) > 0) then
 some (x5.1,x5.2.1,1)
 else
 some x5
 else
 some x5)
 else none
def ψ2Q.l0 (rec:((QD)×(QS)×(QD)×(QS)×(Int×List Int)×Int×Int)→Option (((QD)×(QS)×(QD)×(QS)×(Int×List Int)×Int) ⊕ ((QS)×(QD)×Int))):((QD)×(QS)×(QD)×(QS)×(Int×List Int)×Int×Int)→Option (((QD)×(QS)×(QD)×(QS)×(Int×List Int)×Int) ⊕ ((QS)×(QD)×Int)):=fun (x1,x2,x3,x5,x8,x9,x10)=>
 bif decide (x10<(x8.2.length:Int)) then
 bif inB x10 x8.2.length then
 (ψ2f.f (rdA 0 x8.2 x10)).bind fun t9=>
 (ψ2G.f x1 t9).bind fun (t10_0,t10_1)=>
 (ψ2e.f t10_0).bind fun (t11_0,t11_1)=>
 (bif !t10_1 then
 (ψ2y.f x1).bind fun t12=>
 some (Sum.inr (x5,t12,3))
 else
 bif inB x10 x8.2.length then
 bif (rdA 0 x8.2 x10) != x9 then
 bif decide (t11_1<(t10_0.length:Int)) then
 (ψ2y.f x1).bind fun t13=>
 some (Sum.inr (x5,t13,3))
 else
 some (Sum.inl (x1,x2,x3,x5,x8,x9,x10))
 else
 some (Sum.inl (x1,x2,x3,x5,x8,x9,x10))
 else none:Option (((QD)×(QS)×(QD)×(QS)×(Int×List Int)×Int×Int) ⊕ ((QS)×(QD)×Int))).bind (fun o14=>φF o14 (fun (x1,x2,x3,x5,x8,x9,x10)=>
 rec (x1,x2,x3,x5,x8,x9,w64 (x10+1))) (fun (x2,x3,x4)=>
 some (Sum.inr (x2,x3,x4))))
 else none
 else
 some (Sum.inl (x1,x2,x3,x5,x8,x9))
def ψ2Q.l2 (rec:((QS)×(QD)×(QS)×(Int×List Int)×(QD)×(QS)×(List (QE)×Int×Int)×List (Int×Int×Int×QR)×Int)→Option ((QS)×(QD)×(QS)×(Int×List Int)×(QD)×(QS)×(List (QE)×Int×Int)×QL)):((QS)×(QD)×(QS)×(Int×List Int)×(QD)×(QS)×(List (QE)×Int×Int)×List (Int×Int×Int×QR)×Int)→Option ((QS)×(QD)×(QS)×(Int×List Int)×(QD)×(QS)×(List (QE)×Int×Int)×QL):=fun (x2,x3,x5,x8,x19,x23,x24,x25,x26)=>
 bif decide (x26<(x8.2.length:Int)) then
 (bif inB x26 x8.2.length then
 (ψ2f.f (rdA 0 x8.2 x26)).bind fun t27=>
 (ψ2G.f x19 t27).bind fun (t28_0,t28_1)=>
 bif inB x26 x8.2.length then
 (ψ2K.f (rdA 0 x8.2 x26)).bind fun t29=>
 (ψ2G.f x19 t29).bind fun (t30_0,t30_1)=>
 (ψ2V.f t30_0).bind fun (t31_0,t31_1)=>
 (bif x26==0 then
 bif t30_1 then
 bif t31_1 then
 bif inB 0 x8.2.length then
 (ψ2J.f (rdA 0 x8.2 0) t28_0 t31_0).bind fun t32=>
 bif t32 then
 bif inB 0 x8.2.length then
 some (Sum.inr (x2,x3,x5,x8,x19,(x23.1,x23.2.1,x23.2.2.1,x23.2.2.2.1,rdA 0 x8.2 0),(t31_0.2.2,t31_0.2.1,x24.2.2),x25,x26))
 else none
 else
 some (Sum.inl (x2,x3,x5,x8,x19,x23,x24,x25,x26,t28_0))
 else none
 else
 some (Sum.inl (x2,x3,x5,x8,x19,x23,x24,x25,x26,t28_0))
 else
 some (Sum.inl (x2,x3,x5,x8,x19,x23,x24,x25,x26,t28_0))
 else
 some (Sum.inl (x2,x3,x5,x8,x19,x23,x24,x25,x26,t28_0)):Option (((QS)×(QD)×(QS)×(Int×List Int)×(QD)×(QS)×(List (QE)×Int×Int)×List (Int×Int×Int×QR)×Int×QB) ⊕ ((QS)×(QD)×(QS)×(Int×List Int)×(QD)×(QS)×(List (QE)×Int×Int)×List (Int×Int×Int×QR)×Int))).bind (fun o33=>φF o33 (fun (x2,x3,x5,x8,x19,x23,x24,x25,x26,x27)=>
 bif inB x26 x8.2.length then
 (ψ2u.f (rdA 0 x8.2 x26) x27).bind fun t34=>
 bif decide ((x25.length+t34.length) * 88≤140737488355328) then
 some (x2,x3,x5,x8,x19,x23,x24,x25++t34,x26)
 else none
 else none) (fun (x2,x3,x5,x8,x19,x23,x24,x25,x26)=>
 some (x2,x3,x5,x8,x19,x23,x24,x25,x26)))
 else none
 else none:Option ((QS)×(QD)×(QS)×(Int×List Int)×(QD)×(QS)×(List (QE)×Int×Int)×List (Int×Int×Int×QR)×Int)).bind (fun (x2,x3,x5,x8,x19,x23,x24,x25,x26)=>
 rec (x2,x3,x5,x8,x19,x23,x24,x25,w64 (x26+1)))
 else
 some (x2,x3,x5,x8,x19,x23,x24,x25)
def ψ2Q.f (p0:QD):Option ((QS)×(QD)×Int):=
 (ψ2E.f p0).bind fun t1=>
 bif !t1 then
 (ψ2y.f p0).bind fun t2=>
 some (((0,[]),[],0,0,0),t2,4)
 else
 bif p0.2.2.2 then
 (ψ2y.f p0).bind fun t3=>
 some (((0,[]),[],0,0,0),t3,1)
 else
 (ψ2G.f p0 [108,105,118,101]).bind fun (t4_0,t4_1)=>
 bif !t4_1 then
 (ψ2s.f p0).bind fun (t5_0,t5_1,t5_2)=>
 some (t5_0,t5_1,t5_2)
 else
 (ψ2W.f t4_0).bind fun (t6_0,t6_1)=>
 bif !t6_1 then
 (ψ2y.f p0).bind fun t7=>
 some (((0,[]),[],0,0,0),t7,3)
 else
 bif inB (w64 ((t6_0.2.length:Int) - 1)) t6_0.2.length then
 let y8:=rdA 0 t6_0.2 (w64 ((t6_0.2.length:Int) - 1))
 (lp ψ2Q.l0 (p0,((0,[]),[],0,0,0),([],0,0,false),((0,[]),[],0,0,0),t6_0,y8,0)).bind (fun o15=>φF o15 (fun (x1,x2,x3,x5,x8,x9)=>
 (ψ2f.f x9).bind fun t16=>
 (ψ2G.f x1 t16).bind fun (t17_0,t17_1)=>
 (ψ2e.f t17_0).bind fun (t18_0,t18_1)=>
 (ψ2y.f x1).bind fun t19=>
 (bif decide (t18_1<(t17_0.length:Int)) then
 (ψ2f.f x9).bind fun t20=>
 (ψ2l.f t19 t20 t18_1).bind fun (t21_0,t21_1)=>
 bif t21_1 != 0 then
 (ψ2q.f t21_1).bind fun t22=>
 some (Sum.inr (x5,t21_0,t22))
 else
 some (Sum.inl (x2,x3,x5,x8,x9,t18_1,t21_0))
 else
 some (Sum.inl (x2,x3,x5,x8,x9,t18_1,t19)):Option (((QS)×(QD)×(QS)×(Int×List Int)×Int×Int×QD) ⊕ ((QS)×(QD)×Int))).bind (fun o23=>φF o23 (fun (x2,x3,x5,x8,x9,x18,x19)=>
 (ψ2f.f x9).bind fun t24=>
 (ψ2k.f x19 t24).bind fun (t25_0,t25_1)=>
 bif t25_1 != 0 then
 (ψ2q.f t25_1).bind fun t26=>
 some (x5,t25_0,t26)
 else
 (lp ψ2Q.l2 (x2,x3,x5,x8,t25_0,(x8,[],0,x18,0),([],0,0),([]:QL),0)).bind (fun (x2,x3,x5,x8,x19,x23,x24,x25)=>
 (ψ2a.f x24 x25).bind fun t35=>
 bif t35.2.2 != 0 then
 some (x5,x19,3)
 else
 (ψ2v.f x19 x8).bind fun (t36_0,t36_1)=>
 bif t36_1 != 0 then
 some (x5,t36_0,t36_1)
 else
 let y37:=w64 (t35.2.1+1)
 some ((x23.1,t35.1,y37,x23.2.2.2),t36_0,0))) (fun (x2,x3,x4)=>
 some (x2,x3,x4)))) (fun (x2,x3,x4)=>
 some (x2,x3,x4)))
 else none
def ψ1u.l0 (rec:(QC)→Option (List Int×Int)):(QC)→Option (List Int×Int):=fun (x0,x1,x5)=>
 bif decide (x5<(x0.length:Int)) then
 bif inB x5 x0.length then
 let l1:=x0.set x5.toNat x1
 rec (l1,w64 (x1+1),w64 (x5+1))
 else none
 else
 some (x0,x1)
def ψ1u.f (p0:List Int) (p1:Int):Option (Int×List Int):=
 (lp ψ1u.l0 (p0,p1,0)).bind (fun (x0,x1)=>
 some (x1,x0))
def ψ1v.f (p0:Int×List Int) (p1:Int):Option (Int×Int×List Int):=
 (ψ1u.f p0.2 p1).bind fun (t1_0,t1_1)=>
 some (t1_0,(p0.1,t1_1))
def ψ1s.l0 (rec:(List (QE)×Int×Int)→Option (List (QE)×Int)):(List (QE)×Int×Int)→Option (List (QE)×Int):=fun (x0,x1,x5)=>
 bif decide (x5<(x0.length:Int)) then
 (ψ1z.f x1).bind fun t1=>
 bif inB x5 x0.length then
 let l2:=x0.set x5.toNat (t1,(rdA ([],0,0,0,0) x0 x5).2)
 bif inB x5 l2.length then
 let l3:=l2.set x5.toNat ((rdA ([],0,0,0,0) l2 x5).1,w64 (x1+1),((rdA ([],0,0,0,0) l2 x5).2).2)
 let y4:=w64 ((w64 (x1+1))+1)
 bif inB x5 l3.length then
 let l5:=l3.set x5.toNat ((rdA ([],0,0,0,0) l3 x5).1,((rdA ([],0,0,0,0) l3 x5).2).1,y4,(((rdA ([],0,0,0,0) l3 x5).2).2).2)
 bif inB x5 l5.length then
 let l6:=l5.set x5.toNat ((rdA ([],0,0,0,0) l5 x5).1,((rdA ([],0,0,0,0) l5 x5).2).1,(((rdA ([],0,0,0,0) l5 x5).2).2).1,w64 (y4+1),((((rdA ([],0,0,0,0) l5 x5).2).2).2).2)
 let y7:=w64 ((w64 (y4+1))+1)
 bif inB x5 l6.length then
 let l8:=l6.set x5.toNat ((rdA ([],0,0,0,0) l6 x5).1,((rdA ([],0,0,0,0) l6 x5).2).1,(((rdA ([],0,0,0,0) l6 x5).2).2).1,((((rdA ([],0,0,0,0) l6 x5).2).2).2).1,y7)
 rec (l8,w64 (y7+1),w64 (x5+1))
 else none
 else none
 else none
 else none
 else none
 else
 some (x0,x1)
def ψ1s.f (p0:List (QE)) (p1:Int):Option (Int×List (QE)):=
 (lp ψ1s.l0 (p0,p1,0)).bind (fun (x0,x1)=>
 some (x1,x0))
def ψ1y.f (p0:QS) (p1:Int):Option (Int×QS):=
 (ψ1v.f p0.1 p1).bind fun (t1_0,t1_1)=>
 (ψ1s.f p0.2.1 t1_0).bind fun (t2_0,t2_1)=>
 some (t2_0,((p0.1.1,t1_1.2),t2_1,p0.2.2))
def ψ1k.l0 (rec:(QC)→Option ((Int) ⊕ (Int))):(QC)→Option ((Int) ⊕ (Int)):=fun (x0,x1,x5)=>
 bif decide (x5<(x0.length:Int)) then
 bif inB x5 x0.length then
 bif (rdA 0 x0 x5) != x1 then
 some (Sum.inr (-1))
 else
 rec (x0,w64 (x1+1),w64 (x5+1))
 else none
 else
 some (Sum.inl x1)
def ψ1k.f (p0:List Int) (p1:Int):Option (Int):=
 (lp ψ1k.l0 (p0,p1,0)).bind (fun o1=>φF o1 (fun x1=>
 some x1) (fun x4=>
 some x4))
def ψ1l.f (p0:Int×List Int) (p1:Int):Option (Int):=
 (ψ1k.f p0.2 p1).bind fun t1=>
 bif decide (t1<0) then
 some (-1)
 else
 some t1
def ψ1i.l0 (rec:(List (QE)×Int×Int)→Option ((Int) ⊕ (Int))):(List (QE)×Int×Int)→Option ((Int) ⊕ (Int)):=fun (x0,x1,x5)=>
 bif decide (x5<(x0.length:Int)) then
 bif inB x5 x0.length then
 (ψ1z.f x1).bind fun t1=>
 bif !(((rdA ([],0,0,0,0) x0 x5).1)==t1) then
 some (Sum.inr (-1))
 else
 bif inB x5 x0.length then
 bif (((rdA ([],0,0,0,0) x0 x5).2).1) != (w64 (x1+1)) then
 some (Sum.inr (-1))
 else
 let y2:=w64 ((w64 (x1+1))+1)
 bif inB x5 x0.length then
 bif ((((rdA ([],0,0,0,0) x0 x5).2).2).1) != y2 then
 some (Sum.inr (-1))
 else
 bif inB x5 x0.length then
 bif (((((rdA ([],0,0,0,0) x0 x5).2).2).2).1) != (w64 (y2+1)) then
 some (Sum.inr (-1))
 else
 let y3:=w64 ((w64 (y2+1))+1)
 bif inB x5 x0.length then
 bif (((((rdA ([],0,0,0,0) x0 x5).2).2).2).2) != y3 then
 some (Sum.inr (-1))
 else
 rec (x0,w64 (y3+1),w64 (x5+1))
 else none
 else none
 else none
 else none
 else none
 else
 some (Sum.inl x1)
def ψ1i.f (p0:List (QE)) (p1:Int):Option (Int):=
 (lp ψ1i.l0 (p0,p1,0)).bind (fun o4=>φF o4 (fun x1=>
 some x1) (fun x4=>
 some x4))
def ψ1o.f (p0:QS) (p1:Int):Option (Int):=
 (ψ1l.f p0.1 p1).bind fun t1=>
 bif decide (t1<0) then
 some (-1)
 else
 (ψ1i.f p0.2.1 t1).bind fun t2=>
 bif decide (t2<0) then
 some (-1)
 else
 some t2
def ψ20.l0 (rec:(List (QT)×Int×Int)→Option (List (QT)×Int)):(List (QT)×Int×Int)→Option (List (QT)×Int):=fun (x0,x1,x5)=>
 bif decide (x5<(x0.length:Int)) then
 bif inB x5 x0.length then
 let l1:=x0.set x5.toNat ((Int.tmod x1 3)==0,(rdA (false,[],[]) x0 x5).2)
 bif inB x5 l1.length then
 (ψ1x.f (((rdA (false,[],[]) l1 x5).2).1) (w64 (x1+1))).bind fun (t2_0,t2_1)=>
 let l3:=l1.set x5.toNat ((rdA (false,[],[]) l1 x5).1,t2_1,((rdA (false,[],[]) l1 x5).2).2)
 bif inB x5 l3.length then
 (ψ1w.f (((rdA (false,[],[]) l3 x5).2).2) t2_0).bind fun (t4_0,t4_1)=>
 let l5:=l3.set x5.toNat ((rdA (false,[],[]) l3 x5).1,((rdA (false,[],[]) l3 x5).2).1,t4_1)
 rec (l5,t4_0,w64 (x5+1))
 else none
 else none
 else none
 else
 some (x0,x1)
def ψ20.f (p0:List (QT)) (p1:Int):Option (Int×List (QT)):=
 (lp ψ20.l0 (p0,p1,0)).bind (fun (x0,x1)=>
 some (x1,x0))
def ψ1p.l0 (rec:(List (QT)×Int×Int)→Option ((Int) ⊕ (Int))):(List (QT)×Int×Int)→Option ((Int) ⊕ (Int)):=fun (x0,x1,x5)=>
 bif decide (x5<(x0.length:Int)) then
 bif inB x5 x0.length then
 bif !(((rdA (false,[],[]) x0 x5).1)==((Int.tmod x1 3)==0)) then
 some (Sum.inr (-1))
 else
 bif inB x5 x0.length then
 (ψ1n.f (((rdA (false,[],[]) x0 x5).2).1) (w64 (x1+1))).bind fun t1=>
 bif decide (t1<0) then
 some (Sum.inr (-1))
 else
 bif inB x5 x0.length then
 (ψ1m.f (((rdA (false,[],[]) x0 x5).2).2) t1).bind fun t2=>
 bif decide (t2<0) then
 some (Sum.inr (-1))
 else
 rec (x0,t2,w64 (x5+1))
 else none
 else none
 else none
 else
 some (Sum.inl x1)
def ψ1p.f (p0:List (QT)) (p1:Int):Option (Int):=
 (lp ψ1p.l0 (p0,p1,0)).bind (fun o3=>φF o3 (fun x1=>
 some x1) (fun x4=>
 some x4))
def ψ1S.f (p0:QN) (p1:QN):Option (Bool):=
 bif !(p0.1==p1.1) then
 some false
 else
 (ψ1d.f p0.2.1 p1.2.1).bind fun t1=>
 bif !t1 then
 some false
 else
 (ψ1R.f p0.2.2.1 p1.2.2.1).bind fun t2=>
 bif !t2 then
 some false
 else
 (ψ1f.f p0.2.2.2 p1.2.2.2).bind fun t3=>
 bif !t3 then
 some false
 else
 some true
def ψ1r.f (p0:QN) (p1:Int):Option (Int×QN):=
 (ψ1y.f p0.2.1 p1).bind fun (t1_0,t1_1)=>
 (ψ1q.f p0.2.2.1 t1_0).bind fun (t2_0,t2_1)=>
 (ψ20.f p0.2.2.2 t2_0).bind fun (t3_0,t3_1)=>
 some (t3_0,(p0.1,((p0.2.1.1.1,t1_1.1.2),t1_1.2.1,p0.2.1.2.2),(t2_1.1,p0.2.2.1.2),t3_1))
def ψ2F.f (p0:QD):Option ((QN)×Int):=
 (ψ2Q.f p0).bind fun (t1_0,t1_1,t1_2)=>
 let l2:=κU 3 (false,[],[])
 some ((t1_2==0,t1_0,t1_1,l2),t1_2)
def ψ1h.f (p0:QN) (p1:Int):Option (Int):=
 (ψ1o.f p0.2.1 p1).bind fun t1=>
 bif decide (t1<0) then
 some (-1)
 else
 (ψ1g.f p0.2.2.1 t1).bind fun t2=>
 bif decide (t2<0) then
 some (-1)
 else
 (ψ1p.f p0.2.2.2 t2).bind fun t3=>
 bif decide (t3<0) then
 some (-1)
 else
 some t3
def ψ1Q.f (p0:QD):Option (Bool):=
 (ψ21.f p0 1048576).bind fun t1=>
 bif decide (t1<0) then
 some true
 else
 (ψ24.f p0).bind fun t2=>
 (ψ2F.f t2).bind fun (t3_0,t3_1)=>
 (ψ24.f p0).bind fun t4=>
 (ψC.f t4).bind fun (t5_0,t5_1)=>
 (ψ1S.f t5_0 t3_0).bind fun t6=>
 bif !t6 then
 some false
 else
 bif t5_1 != t3_1 then
 some false
 else
 (ψ24.f p0).bind fun t7=>
 (ψ1R.f t4 t7).bind fun t8=>
 bif !t8 then
 some false
 else
 (ψ1q.f t4 1).bind fun (t9_0,t9_1)=>
 bif decide (t9_0<0) then
 some false
 else
 (ψ1S.f t5_0 t3_0).bind fun t10=>
 bif !t10 then
 some false
 else
 bif t5_1 != t3_1 then
 some false
 else
 (ψ1r.f t5_0 1).bind fun (t11_0,t11_1)=>
 (ψ1h.f (t5_0.1,((t5_0.2.1.1.1,t11_1.2.1.1.2),t11_1.2.1.2.1,t5_0.2.1.2.2),(t11_1.2.2.1.1,t5_0.2.2.1.2),t11_1.2.2.2) 1).bind fun t12=>
 bif decide (t12<0) then
 some false
 else
 bif t12 != t11_0 then
 some false
 else
 (ψ24.f p0).bind fun t13=>
 (ψC.f t13).bind fun (t14_0,t14_1)=>
 (ψ1S.f t14_0 t3_0).bind fun t15=>
 bif !t15 then
 some false
 else
 bif t14_1 != t3_1 then
 some false
 else
 (ψ1h.f (t5_0.1,((t5_0.2.1.1.1,t11_1.2.1.1.2),t11_1.2.1.2.1,t5_0.2.1.2.2),(t11_1.2.2.1.1,t5_0.2.2.1.2),t11_1.2.2.2) 1).bind fun t16=>
 bif decide (t16<0) then
 some false
 else
 bif t16 != t11_0 then
 some false
 else
 some true
end
end Go.Rf.G
