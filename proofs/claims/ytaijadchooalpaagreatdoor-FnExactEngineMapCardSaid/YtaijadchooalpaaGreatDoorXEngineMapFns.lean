import Derived.Test.YtaijadchooalpaaGreatDoorRf5
open Option renaming bind_some→bS
open List renaming length_append→lA,append_assoc→aA,mem_cons_of_mem→mC,mem_append→mA,mem_append_right→mR,mem_append_left→mL,mem_cons→mc,drop_eq_getElem_cons→dG,length_take→lT,length_drop→lD,mem_map→mM,length_map→lM,length_cons→lC,length_nil→lN,getElem_mem→gM,map_append→mp,mem_singleton→mZ,append_nil→κ3,nodup_append→κ4,mem_cons_self→κ5,take_append_drop→κ7,take_succ_eq_append_getElem→κ8,flatMap_append→κ9,map_cons→κC,nodup_cons→κE,range'→κF,cons_append→κH,replicate→κI
open Bool renaming and_eq_true→bA,eq_false_or_eq_true→bE,not_true→nZ,not_false→nF,true_and→tA,not_not→nn,or_eq_false_iff→κ6
open Int renaming toNat_natCast→tN,ofNat_lt→oL
open Nat renaming eq_of_beq_eq_true→κ0,lt_or_ge→κ1,lt_of_lt_of_le→κ2,le_of_ble_eq_true→κA,zero_le→κB,le_refl→κD,pow_succ→κJ
open Array renaming length_toList→κG
set_option linter.unusedVariables false
set_option linter.unusedSimpArgs false
namespace Go.Rf.G
noncomputable section
open Go Go.Rf
abbrev QS:=(Int×List Int)×List (List UInt8×Int×Int×Int×Int)×Int×Int×Int
abbrev QD:=List (List UInt8×List UInt8×Int)×Int×Int×Bool
abbrev QR:=Int×Int×List UInt8×List UInt8×Int×Int
abbrev QE:=List UInt8×Int×Int×Int×Int
abbrev QP:=List UInt8×Bool×List UInt8
abbrev QF:=List UInt8×List UInt8×Int
abbrev QB:=List UInt8
abbrev QT:=Bool×List (QB×Int)×List (QP)
abbrev QL:=List (Int×Int×Int×QR)
abbrev QN:=Bool×(QS)×(QD)×List (QT)
abbrev QC:=List Int×Int×Int
abbrev QA:=Int×QB×List (QB)
def ψ1m.f (p0:Int) (p1:Int) (p2:Int):Option (Bool):=
 bif decide (p0≥p1) then
 let y1:=decide (p0≤p2)
 some y1
 else
 some false
def ψM.f (p0:Int) (p1:Int) (p2:Int):Option (Bool):=
 bif decide (p0≥p1) then
 let y1:=decide (p0≤p2)
 some y1
 else
 some false
def ψC.l0 (rec:(QB×Int)→Option ((QB) ⊕ (Bool))):(QB×Int)→Option ((QB) ⊕ (Bool)):=fun (x0,x3)=>
 bif decide (x3<(x0.length:Int)) then
 (bif inB x3 x0.length then
 bif decide ((bAt x0 x3)≥97) then
 bif inB x3 x0.length then
 bif !(decide ((bAt x0 x3)≤122)) then
 bif inB x3 x0.length then
 bif decide ((bAt x0 x3)≥48) then
 bif inB x3 x0.length then
 bif !(decide ((bAt x0 x3)≤57)) then
 some (Sum.inr false)
 else
 some (Sum.inl (x0,x3))
 else none
 else
 some (Sum.inr false)
 else none
 else
 some (Sum.inl (x0,x3))
 else none
 else
 bif inB x3 x0.length then
 bif decide ((bAt x0 x3)≥48) then
 bif inB x3 x0.length then
 bif !(decide ((bAt x0 x3)≤57)) then
 some (Sum.inr false)
 else
 some (Sum.inl (x0,x3))
 else none
 else
 some (Sum.inr false)
 else none
 else none:Option ((QB×Int) ⊕ (Bool))).bind (fun o1=>φG o1 (fun (x0,x3)=>
 rec (x0,w64 (x3+1))) (fun x2=>
 some (Sum.inr x2)))
 else
 some (Sum.inl x0)
def ψC.f (p0:QB):Option (Bool):=
 (lp ψC.l0 (p0,0)).bind (fun o2=>φG o2 (fun x0=>
 (ψM.f (x0.length:Int) 1 12).bind fun t3=>
 some t3) (fun x2=>
 some x2))
def ψ4.l0 (rec:((QD)×Int×List (QF)×Int×Int)→Option (((QD)×Int) ⊕ (Bool))):((QD)×Int×List (QF)×Int×Int)→Option (((QD)×Int) ⊕ (Bool)):=fun (x1,x3,x23,x24,x25)=>
 bif decide (x25<x24) then
 bif inB x25 x23.length then
 let y3:=(rdA ([],[],0) x23 x25).1
 let y4:=((rdA ([],[],0) x23 x25).2).1
 let y5:=((rdA ([],[],0) x23 x25).2).2
 ((ψC.f y3).bind fun t6=>
 bif !t6 then
 some (Sum.inr false)
 else
 (ψM.f y5 0 (y4.length:Int)).bind fun t7=>
 bif !t7 then
 some (Sum.inr false)
 else
 bif decide (x25 > 0) then
 bif inB (w64 (x25 - 1)) x1.1.length then
 bif !(Op.bytesLess ((rdA ([],[],0) x1.1 (w64 (x25 - 1))).1) y3) then
 some (Sum.inr false)
 else
 some (Sum.inl (x1,x3,(y3,y4,y5),x23,x24,x25))
 else none
 else
 some (Sum.inl (x1,x3,(y3,y4,y5),x23,x24,x25)):Option (((QD)×Int×(QF)×List (QF)×Int×Int) ⊕ (Bool))).bind (fun o8=>φG o8 (fun (x1,x3,x5,x23,x24,x25)=>
 let y9:=w64 (x3+(x5.2.1.length:Int))
 rec (x1,y9,x23,x24,w64 (x25+1))) (fun x2=>
 some (Sum.inr x2)))
 else none
 else
 some (Sum.inl (x1,x3))
def ψ4.f (p0:QD):Option (Bool):=
 bif decide ((p0.1.length:Int) > 130) then
 some false
 else
 (ψM.f p0.2.1 0 100000).bind fun t1=>
 bif !t1 then
 some false
 else
 (ψM.f p0.2.2.1 (-1) 100000).bind fun t2=>
 bif !t2 then
 some false
 else
 (lp ψ4.l0 (p0,0,p0.1,(p0.1.length:Int),0)).bind (fun o10=>φG o10 (fun (x1,x3)=>
 let y11:=decide (x3≤x1.2.1)
 some y11) (fun x2=>
 some x2))
def ψL.l0 (rec:(QB×List (QF)×Int×Int)→Option ((Unit) ⊕ (Int))):(QB×List (QF)×Int×Int)→Option ((Unit) ⊕ (Int)):=fun (x1,x8,x9,x10)=>
 bif decide (x10<x9) then
 bif inB x10 x8.length then
 let y1:=(rdA ([],[],0) x8 x10).1
 let y2:=((rdA ([],[],0) x8 x10).2).1
 let y3:=((rdA ([],[],0) x8 x10).2).2
 bif y1==x1 then
 some (Sum.inr x10)
 else
 rec (x1,x8,x9,w64 (x10+1))
 else none
 else
 some (Sum.inl ())
def ψL.f (p0:QD) (p1:QB):Option (Int):=
 (lp ψL.l0 (p1,p0.1,(p0.1.length:Int),0)).bind (fun o4=>φG o4 (fun _=>
 some (-1)) (fun x4=>
 some x4))
def ψ7.f (p0:QD) (p1:QB):Option (QB×Bool):=
 (ψL.f p0 p1).bind fun t1=>
 bif decide (t1<0) then
 some ([],false)
 else
 (ψ4.f p0).bind fun t2=>
 bif !t2 then
 some ([],false)
 else
 bif inB t1 p0.1.length then
 let y3:=((rdA ([],[],0) p0.1 t1).2).1
 some (y3,true)
 else none
def ψ1.f (p0:Int):Option (QB):=
 (strconv_Itoa.f p0).bind fun t1=>
 some t1
def ψN.f (p0:QB) (p1:Int):Option (QB):=
 (ψM.f p1 1 100000).bind fun t1=>
 bif !t1 then
 some []
 else
 (ψ1.f p1).bind fun t2=>
 bif decide (p0.length+t2.length≤9223372036854775807) then
 some (p0++t2)
 else none
def ψI.f (p0:Int):Option (QB):=
 (ψN.f [115,101,103] p0).bind fun t1=>
 some t1
def ψF.l0 (rec:(QB×Int×Int)→Option ((Unit) ⊕ (Int×Int))):(QB×Int×Int)→Option ((Unit) ⊕ (Int×Int)):=fun (x0,x4,x5)=>
 bif decide (x5<7) then
 bif decide (x5<(x0.length:Int)) then
 bif inB x5 x0.length then
 let y1:=w64 (bAt x0 x5)
 bif decide (0≤(w64 (7 * x5))) then
 let y2:=w64 (x4+(w64 ((Int.tmod y1 128) * 2 ^ (min (w64 (7 * x5)).toNat 64))))
 bif decide (y1≥128) then
 rec (x0,y2,w64 (x5+1))
 else
 (bif y1==0 then
 bif decide (x5 > 0) then
 some (Sum.inr (0,0))
 else
 some (Sum.inl (y2,x5))
 else
 some (Sum.inl (y2,x5)):Option ((Int×Int) ⊕ (Int×Int))).bind (fun o3=>φG o3 (fun (x4,x5)=>
 some (Sum.inr (x4,w64 (x5+1)))) (fun (x2,x3)=>
 some (Sum.inr (x2,x3))))
 else none
 else none
 else
 some (Sum.inl ())
 else
 some (Sum.inl ())
def ψF.f (p0:QB):Option (Int×Int):=
 (lp ψF.l0 (p0,0,0)).bind (fun o4=>φG o4 (fun _=>
 some (0,0)) (fun (x2,x3)=>
 some (x2,x3)))
def ψK.l0 (rec:(Int×List Int)→Option (Int×List Int)):(Int×List Int)→Option (Int×List Int):=fun (x0,x3)=>
 bif decide (x0 > 127) then
 bif decide ((x3.length+[IntKind.wrap .u8 (w64 ((Int.tmod x0 128)+128))].length) * 1≤140737488355328) then
 let l2:=x3++[IntKind.wrap .u8 (w64 ((Int.tmod x0 128)+128))]
 let y3:=w64 (Int.tdiv x0 128)
 rec (y3,l2)
 else none
 else
 some (x0,x3)
def ψK.f (p0:Int):Option (QB):=
 (ψM.f p0 0 562949953421311).bind fun t1=>
 bif !t1 then
 some []
 else
 (lp ψK.l0 (p0,[])).bind (fun (x0,x3)=>
 bif decide ((x3.length+[IntKind.wrap .u8 (x0)].length) * 1≤140737488355328) then
 let l4:=x3++[IntKind.wrap .u8 (x0)]
 some (φL l4)
 else none)
def ψR.f (p0:QB):Option (QB):=
 (ψK.f (p0.length:Int)).bind fun t1=>
 bif decide (t1.length+p0.length≤9223372036854775807) then
 some (t1++p0)
 else none
def ψ8.l0 (rec:(Int×List Int×Int)→Option (List Int)):(Int×List Int×Int)→Option (List Int):=fun (x0,x5,x6)=>
 bif decide (x6≥0) then
 bif decide (0≤(w64 (8 * x6))) then
 bif decide ((x5.length+[IntKind.wrap .u8 (Int.fdiv x0 (2 ^ (min (w64 (8 * x6)).toNat 64)))].length) * 1≤140737488355328) then
 let l3:=x5++[IntKind.wrap .u8 (Int.fdiv x0 (2 ^ (min (w64 (8 * x6)).toNat 64)))]
 rec (x0,l3,w64 (x6 - 1))
 else none
 else none
 else
 some x5
def ψ8.f (p0:Int) (p1:Int):Option (QB):=
 (ψM.f p1 1 7).bind fun t1=>
 bif !t1 then
 some []
 else
 bif decide (0≤(w64 (8 * p1))) then
 (ψM.f p0 0 (w64 ((w64 (1 * 2 ^ (min (w64 (8 * p1)).toNat 64))) - 1))).bind fun t2=>
 bif !t2 then
 some []
 else
 (lp ψ8.l0 (p0,[],w64 (p1 - 1))).bind (fun x5=>
 some (φL x5))
 else none
def ψ0.l2 (rec:(QB×Int×Int×Int)→Option (QB×Int×Int)):(QB×Int×Int×Int)→Option (QB×Int×Int):=fun (x0,x3,x4,x18)=>
 bif decide (x18<8) then
 let y2:=bits (fun _ a b=>a &&& b) .u32 x3 1
 let y3:=Int.fdiv x3 (2 ^ (min 1 32))
 (bif y2==1 then
 let y4:=bits (fun _ a b=>a ^^^ b) .u32 y3 2197175160
 some (x0,y4,x4,x18)
 else
 some (x0,y3,x4,x18):Option (QB×Int×Int×Int)).bind (fun (x0,x3,x4,x18)=>
 rec (x0,x3,x4,w64 (x18+1)))
 else
 some (x0,x3,x4)
def ψ0.l0 (rec:(QB×Int×Int)→Option (Int)):(QB×Int×Int)→Option (Int):=fun (x0,x3,x4)=>
 bif decide (x4<(x0.length:Int)) then
 bif inB x4 x0.length then
 let y1:=bits (fun _ a b=>a ^^^ b) .u32 x3 (IntKind.wrap .u32 (bAt x0 x4))
 (lp ψ0.l2 (x0,y1,x4,0)).bind (fun (x0,x3,x4)=>
 rec (x0,x3,w64 (x4+1)))
 else none
 else
 some x3
def ψ0.f (p0:QB):Option (Int):=
 (lp ψ0.l0 (p0,4294967295,0)).bind (fun x3=>
 let y5:=w64 (bits (fun _ a b=>a ^^^ b) .u32 4294967295 x3)
 some y5)
def ψ9.f (p0:QB):Option (QB):=
 bif decide ((p0.length:Int) > 200) then
 some []
 else
 (ψR.f p0).bind fun t1=>
 (ψ0.f t1).bind fun t2=>
 (ψ8.f t2 4).bind fun t3=>
 bif decide (t3.length+t1.length≤9223372036854775807) then
 some (t3++t1)
 else none
def ψJ.f (p0:QB):Option (QB×Int):=
 bif decide ((p0.length:Int)<4) then
 some ([],0)
 else
 bif (decide (0≤(4:Int)) && decide (4≤(p0.length:Int))) then
 (ψF.f (p0.drop 4)).bind fun (t1_0,t1_1)=>
 bif t1_1==0 then
 some ([],0)
 else
 bif decide (t1_0 > 200) then
 some ([],0)
 else
 bif decide (t1_0 > (w64 ((w64 ((p0.length:Int) - 4)) - t1_1))) then
 some ([],0)
 else
 bif (decide (0≤w64 ((w64 (4+t1_1))+t1_0)) && decide (w64 ((w64 (4+t1_1))+t1_0)≤(p0.length:Int))) then
 bif (decide (0≤w64 (4+t1_1)) && decide (w64 (4+t1_1)≤w64 ((w64 (4+t1_1))+t1_0))) then
 let y2:=(p0.take ((w64 ((w64 (4+t1_1))+t1_0)).toNat)).drop ((w64 (4+t1_1)).toNat)
 (ψ9.f y2).bind fun t3=>
 bif (decide (0≤w64 ((w64 (4+t1_1))+t1_0)) && decide (w64 ((w64 (4+t1_1))+t1_0)≤(p0.length:Int))) then
 bif !(t3==(p0.take ((w64 ((w64 (4+t1_1))+t1_0)).toNat))) then
 some ([],0)
 else
 let y4:=w64 ((w64 (4+t1_1))+t1_0)
 some (y2,y4)
 else none
 else none
 else none
 else none
def ψP.f (p0:QB×Bool):Option (Int×QB×Bool):=
 (ψF.f p0.1).bind fun (t1_0,t1_1)=>
 bif p0.2 then
 some (0,(p0.1,true))
 else
 bif t1_1==0 then
 some (0,(p0.1,true))
 else
 bif (decide (0≤t1_1) && decide (t1_1≤(p0.1.length:Int))) then
 let y2:=p0.1.drop t1_1.toNat
 some (t1_0,(y2,p0.2))
 else none
def ψO.f (p0:QB×Bool) (p1:Int):Option (QB×QB×Bool):=
 bif p0.2 then
 some ([],(p0.1,true))
 else
 bif decide (p1 > (p0.1.length:Int)) then
 some ([],(p0.1,true))
 else
 bif (decide (0≤p1) && decide (p1≤(p0.1.length:Int))) then
 let y1:=p0.1.take p1.toNat
 bif (decide (0≤p1) && decide (p1≤(p0.1.length:Int))) then
 let y2:=p0.1.drop p1.toNat
 some (y1,(y2,p0.2))
 else none
 else none
def ψQ.f (p0:QB×Bool):Option (QB×QB×Bool):=
 (ψP.f p0).bind fun (t1_0,t1_1)=>
 (ψO.f t1_1 t1_0).bind fun (t2_0,t2_1)=>
 some (t2_0,t2_1)
def ψD.l0 (rec:(QB×Int×Int×Int)→Option (Int)):(QB×Int×Int×Int)→Option (Int):=fun (x0,x6,x17,x18)=>
 bif decide (x18<x17) then
 bif inB x18 x0.length then
 let y2:=bits (fun _ a b=>a ||| b) .i64 (w64 (x6 * 2 ^ (min 8 64))) (w64 (bAt x0 x18))
 rec (x0,y2,x17,w64 (x18+1))
 else none
 else
 some x6
def ψD.f (p0:QB) (p1:Int):Option (Int×Bool):=
 (ψM.f p1 1 7).bind fun t1=>
 bif !t1 then
 some (0,false)
 else
 bif decide ((p0.length:Int)<p1) then
 some (0,false)
 else
 (lp ψD.l0 (p0,0,p1,0)).bind (fun x6=>
 some (x6,true))
def ψB.f (p0:QB):Option (Bool):=
 (ψM.f (p0.length:Int) 1 8).bind fun t1=>
 some t1
def ψH.f (p0:QR):Option (Bool):=
 (bif p0.1==1 then
 some (p0,(p0.1,p0.2.1,[],[],0,0),false,1,p0.1,p0.1==1)
 else
 some (p0,(p0.1,p0.2.1,[],[],0,0),false,1,p0.1,p0.1==4):Option ((QR)×(QR)×Bool×Int×Int×Bool)).bind (fun (x1,x3,x4,x5,x12,x13)=>
 bif x13 then
 (ψB.f x1.2.2.1).bind fun t1=>
 bif t1 then
 let y2:=decide ((x1.2.2.2.1.length:Int)≤24)
 bif y2 then
 (ψM.f x1.2.1 x5 1000000).bind fun t3=>
 bif t3 then
 let y4:=(x1.1==x3.1 && (x1.2.1==x3.2.1 && (x1.2.2.1==x1.2.2.1 && (x1.2.2.2.1==x1.2.2.2.1 && (x1.2.2.2.2.1==x3.2.2.2.2.1 && (x1.2.2.2.2.2==x3.2.2.2.2.2))))))
 some y4
 else
 some false
 else
 some false
 else
 some false
 else
 bif x12==2 then
 (ψB.f x1.2.2.1).bind fun t5=>
 bif t5 then
 (ψM.f x1.2.1 x5 1000000).bind fun t6=>
 bif t6 then
 let y7:=(x1.1==x3.1 && (x1.2.1==x3.2.1 && (x1.2.2.1==x1.2.2.1 && (x1.2.2.2.1==x3.2.2.2.1 && (x1.2.2.2.2.1==x3.2.2.2.2.1 && (x1.2.2.2.2.2==x3.2.2.2.2.2))))))
 some y7
 else
 some false
 else
 some false
 else
 bif x12==3 then
 (ψM.f x1.2.2.2.2.1 0 8).bind fun t8=>
 bif t8 then
 (ψM.f x1.2.2.2.2.2 0 4294967295).bind fun t9=>
 bif t9 then
 (ψM.f x1.2.1 x5 1000000).bind fun t10=>
 bif t10 then
 let y11:=(x1.1==x3.1 && (x1.2.1==x3.2.1 && (x1.2.2.1==x3.2.2.1 && (x1.2.2.2.1==x3.2.2.2.1 && (x1.2.2.2.2.1==x1.2.2.2.2.1 && (x1.2.2.2.2.2==x1.2.2.2.2.2))))))
 some y11
 else
 some false
 else
 some false
 else
 some false
 else
 bif x12==5 then
 (ψM.f x1.2.2.2.2.1 0 20).bind fun t12=>
 bif t12 then
 (ψM.f x1.2.2.2.2.2 0 4294967295).bind fun t13=>
 bif t13 then
 (ψM.f x1.2.1 0 1000000).bind fun t14=>
 bif t14 then
 let y15:=(x1.1==x3.1 && (x1.2.1==x3.2.1 && (x1.2.2.1==x3.2.2.1 && (x1.2.2.2.1==x3.2.2.2.1 && (x1.2.2.2.2.1==x1.2.2.2.2.1 && (x1.2.2.2.2.2==x1.2.2.2.2.2))))))
 some y15
 else
 some false
 else
 some false
 else
 some false
 else
 bif x4 then
 (ψM.f x1.2.1 x5 1000000).bind fun t16=>
 bif t16 then
 let y17:=(x1.1==x3.1 && (x1.2.1==x3.2.1 && (x1.2.2.1==x3.2.2.1 && (x1.2.2.2.1==x3.2.2.2.1 && (x1.2.2.2.2.1==x3.2.2.2.2.1 && (x1.2.2.2.2.2==x3.2.2.2.2.2))))))
 some y17
 else
 some false
 else
 some false)
def ψE.f (p0:QB):Option ((QR)×Bool):=
 (ψP.f (p0,false)).bind fun (t1_0,t1_1)=>
 (ψP.f t1_1).bind fun (t2_0,t2_1)=>
 ((bif t1_0==1 then
 some ((0,0,[],[],0,0),t2_1,(t1_0,t2_0,[],[],0,0),t1_0,t1_0==1)
 else
 some ((0,0,[],[],0,0),t2_1,(t1_0,t2_0,[],[],0,0),t1_0,t1_0==4):Option ((QR)×(QB×Bool)×(QR)×Int×Bool)).bind (fun (x2,x4,x5,x16,x27)=>
 bif x27 then
 (ψQ.f x4).bind fun (t3_0,t3_1)=>
 (ψQ.f t3_1).bind fun (t4_0,t4_1)=>
 some (x2,t4_1,(x5.1,x5.2.1,t3_0,t4_0,x5.2.2.2.2))
 else
 (bif x16==2 then
 (ψQ.f x4).bind fun (t5_0,t5_1)=>
 some (x2,t5_1,(x5.1,x5.2.1,t5_0,x5.2.2.2))
 else
 (ψP.f x4).bind fun (t6_0,t6_1)=>
 (ψO.f t6_1 4).bind fun (t7_0,t7_1)=>
 (ψD.f t7_0 4).bind fun (t8_0,t8_1)=>
 some (x2,t7_1,(x5.1,x5.2.1,x5.2.2.1,x5.2.2.2.1,t6_0,t8_0)):Option ((QR)×(QB×Bool)×QR)).bind (fun (x2,x4,x5)=>
 some (x2,x4,x5))):Option ((QR)×(QB×Bool)×QR)).bind (fun (x2,x4,x5)=>
 bif x4.2 then
 some ((0,0,[],[],0,0),false)
 else
 bif !(x4.1==[]) then
 some ((0,0,[],[],0,0),false)
 else
 (ψH.f x5).bind fun t9=>
 bif !t9 then
 some ((0,0,[],[],0,0),false)
 else
 some (x5,true))
def ψ3.l0 (rec:(List (QB)×List (QE)×Int×Int)→Option (List (QB))):(List (QB)×List (QE)×Int×Int)→Option (List (QB)):=fun (x3,x6,x7,x8)=>
 bif decide (x8<x7) then
 bif inB x8 x6.length then
 let y1:=(rdA ([],0,0,0,0) x6 x8).1
 let y2:=((rdA ([],0,0,0,0) x6 x8).2).1
 let y3:=(((rdA ([],0,0,0,0) x6 x8).2).2).1
 let y4:=((((rdA ([],0,0,0,0) x6 x8).2).2).2).1
 let y5:=((((rdA ([],0,0,0,0) x6 x8).2).2).2).2
 bif decide ((x3.length+[y1].length) * 16≤140737488355328) then
 rec (x3++[y1],x6,x7,w64 (x8+1))
 else none
 else none
 else
 some x3
def ψ3.f (p0:List (QE)):Option (List (QB)):=
 (lp ψ3.l0 ([],p0,(p0.length:Int),0)).bind (fun x3=>
 some x3)
def ψ2.l0 (rec:(QB×(QE)×List (QE)×Int×Int)→Option ((QE) ⊕ ((QE)×Bool))):(QB×(QE)×List (QE)×Int×Int)→Option ((QE) ⊕ ((QE)×Bool)):=fun (x1,x4,x8,x9,x10)=>
 bif decide (x10<x9) then
 bif inB x10 x8.length then
 let y1:=(rdA ([],0,0,0,0) x8 x10).1
 let y2:=((rdA ([],0,0,0,0) x8 x10).2).1
 let y3:=(((rdA ([],0,0,0,0) x8 x10).2).2).1
 let y4:=((((rdA ([],0,0,0,0) x8 x10).2).2).2).1
 let y5:=((((rdA ([],0,0,0,0) x8 x10).2).2).2).2
 bif y1==x1 then
 some (Sum.inr ((y1,y2,y3,y4,y5),true))
 else
 rec (x1,x4,x8,x9,w64 (x10+1))
 else none
 else
 some (Sum.inl x4)
def ψ2.f (p0:List (QE)) (p1:QB):Option ((QE)×Bool):=
 (lp ψ2.l0 (p1,([],0,0,0,0),p0,(p0.length:Int),0)).bind (fun o6=>φG o6 (fun x4=>
 some (([],0,0,0,0),false)) (fun (x4,x5)=>
 some (x4,x5)))
def ψG.f (p0:QB) (p1:Int) (p2:Int):Option ((QR)×Bool):=
 (ψM.f p1 0 (p0.length:Int)).bind fun t1=>
 bif !t1 then
 some ((0,0,[],[],0,0),false)
 else
 (ψM.f p2 0 (w64 ((p0.length:Int) - p1))).bind fun t2=>
 bif !t2 then
 some ((0,0,[],[],0,0),false)
 else
 bif (decide (0≤w64 (p1+p2)) && decide (w64 (p1+p2)≤(p0.length:Int))) then
 bif (decide (0≤p1) && decide (p1≤w64 (p1+p2))) then
 (ψJ.f ((p0.take ((w64 (p1+p2)).toNat)).drop p1.toNat)).bind fun (t3_0,t3_1)=>
 bif t3_1==0 then
 some ((0,0,[],[],0,0),false)
 else
 bif t3_1 != p2 then
 some ((0,0,[],[],0,0),false)
 else
 (ψE.f t3_0).bind fun (t4_0,t4_1)=>
 some (t4_0,t4_1)
 else none
 else none
def ψA.f (p0:QS) (p1:QD) (p2:QB):Option ((QF)×Int):=
 (ψ2.f p0.2.1 p2).bind fun (t1_0,t1_1)=>
 bif !t1_1 then
 some (([],[],0),8)
 else
 (ψI.f t1_0.2.1).bind fun t2=>
 (ψ7.f p1 t2).bind fun (t3_0,t3_1)=>
 (ψG.f t3_0 t1_0.2.2.1 t1_0.2.2.2.1).bind fun (t4_0,t4_1)=>
 bif !t4_1 then
 some (([],[],0),3)
 else
 bif t4_0.1 != 1 then
 bif t4_0.1 != 4 then
 some (([],[],0),3)
 else
 bif !(t4_0.2.2.1==p2) then
 some (([],[],0),3)
 else
 some ((t4_0.2.2.1,t4_0.2.2.2.1,t4_0.2.1),0)
 else
 bif !(t4_0.2.2.1==p2) then
 some (([],[],0),3)
 else
 some ((t4_0.2.2.1,t4_0.2.2.2.1,t4_0.2.1),0)
def ψ5.l0 (rec:((QS)×(QD)×List (QF)×List (QB)×Int×Int)→Option ((List (QF)) ⊕ (List (QF)×Int))):((QS)×(QD)×List (QF)×List (QB)×Int×Int)→Option ((List (QF)) ⊕ (List (QF)×Int)):=fun (x2,x3,x6,x13,x14,x15)=>
 bif decide (x15<x14) then
 bif inB x15 x13.length then
 let y2:=rdA [] x13 x15
 (ψA.f x2 x3 y2).bind fun (t3_0,t3_1)=>
 bif t3_1 != 0 then
 some (Sum.inr ([],t3_1))
 else
 bif decide ((x6.length+[t3_0].length) * 40≤140737488355328) then
 rec (x2,x3,x6++[t3_0],x13,x14,w64 (x15+1))
 else none
 else none
 else
 some (Sum.inl x6)
def ψ5.f (p0:QS) (p1:QD):Option (List (QF)×Int):=
 (ψ3.f p0.2.1).bind fun t1=>
 (lp ψ5.l0 (p0,p1,[],t1,(t1.length:Int),0)).bind (fun o4=>φG o4 (fun x6=>
 some (x6,0)) (fun (x4,x5)=>
 some (x4,x5)))
def ψ6.f (p0:QN):Option (List (QF)×Int):=
 bif !p0.1 then
 some ([],6)
 else
 (ψ5.f p0.2.1 p0.2.2.1).bind fun (t1_0,t1_1)=>
 some (t1_0,t1_1)
def ψ1o.l0 (rec:((QD)×Int×Int)→Option (Int)):((QD)×Int×Int)→Option (Int):=fun (x1,x3,x4)=>
 bif decide (x4<(x1.1.length:Int)) then
 bif inB x4 x1.1.length then
 let y1:=w64 (x3+((((rdA ([],[],0) x1.1 x4).2).1).length:Int))
 rec (x1,y1,w64 (x4+1))
 else none
 else
 some x3
def ψ1o.f (p0:QD):Option (Int):=
 (lp ψ1o.l0 (p0,0,0)).bind (fun x3=>
 some x3)
def ψ1c.l0 (rec:(QB×Int)→Option ((QB) ⊕ (Bool))):(QB×Int)→Option ((QB) ⊕ (Bool)):=fun (x0,x3)=>
 bif decide (x3<(x0.length:Int)) then
 (bif inB x3 x0.length then
 bif decide ((bAt x0 x3)≥97) then
 bif inB x3 x0.length then
 bif decide ((bAt x0 x3)≤122) then
 some (Sum.inl (x0,x3))
 else
 bif inB x3 x0.length then
 bif decide ((bAt x0 x3)≥48) then
 bif inB x3 x0.length then
 bif !(decide ((bAt x0 x3)≤57)) then
 some (Sum.inr false)
 else
 some (Sum.inl (x0,x3))
 else none
 else
 some (Sum.inr false)
 else none
 else none
 else
 bif inB x3 x0.length then
 bif decide ((bAt x0 x3)≥48) then
 bif inB x3 x0.length then
 bif !(decide ((bAt x0 x3)≤57)) then
 some (Sum.inr false)
 else
 some (Sum.inl (x0,x3))
 else none
 else
 some (Sum.inr false)
 else none
 else none:Option ((QB×Int) ⊕ (Bool))).bind (fun o1=>φG o1 (fun (x0,x3)=>
 rec (x0,w64 (x3+1))) (fun x2=>
 some (Sum.inr x2)))
 else
 some (Sum.inl x0)
def ψ1c.f (p0:QB):Option (Bool):=
 (lp ψ1c.l0 (p0,0)).bind (fun o2=>φG o2 (fun x0=>
 (ψ1m.f (x0.length:Int) 1 12).bind fun t3=>
 some t3) (fun x2=>
 some x2))
def ψ1U.l0 (rec:((QD)×Int)→Option ((Unit) ⊕ (Bool))):((QD)×Int)→Option ((Unit) ⊕ (Bool)):=fun (x1,x3)=>
 bif decide (x3<(x1.1.length:Int)) then
 (bif inB x3 x1.1.length then
 (ψ1c.f ((rdA ([],[],0) x1.1 x3).1)).bind fun t4=>
 bif !t4 then
 some (Sum.inr false)
 else
 bif inB x3 x1.1.length then
 bif inB x3 x1.1.length then
 (ψ1m.f (((rdA ([],[],0) x1.1 x3).2).2) 0 ((((rdA ([],[],0) x1.1 x3).2).1).length:Int)).bind fun t5=>
 bif !t5 then
 some (Sum.inr false)
 else
 bif decide (x3 > 0) then
 bif inB x3 x1.1.length then
 bif inB (w64 (x3 - 1)) x1.1.length then
 bif (Op.bytesLess ((rdA ([],[],0) x1.1 x3).1) ((rdA ([],[],0) x1.1 (w64 (x3 - 1))).1) || ((rdA ([],[],0) x1.1 x3).1)==((rdA ([],[],0) x1.1 (w64 (x3 - 1))).1)) then
 some (Sum.inr false)
 else
 some (Sum.inl (x1,x3))
 else none
 else none
 else
 some (Sum.inl (x1,x3))
 else none
 else none
 else none:Option (((QD)×Int) ⊕ (Bool))).bind (fun o6=>φG o6 (fun (x1,x3)=>
 rec (x1,w64 (x3+1))) (fun x2=>
 some (Sum.inr x2)))
 else
 some (Sum.inl ())
def ψ1U.f (p0:QD):Option (Bool):=
 bif decide ((p0.1.length:Int) > 130) then
 some false
 else
 (ψ1m.f p0.2.1 0 100000).bind fun t1=>
 bif !t1 then
 some false
 else
 (ψ1m.f p0.2.2.1 (-1) 100000).bind fun t2=>
 bif !t2 then
 some false
 else
 (ψ1o.f p0).bind fun t3=>
 bif decide (t3 > p0.2.1) then
 some false
 else
 (lp ψ1U.l0 (p0,0)).bind (fun o7=>φG o7 (fun _=>
 some true) (fun x2=>
 some x2))
def ψ1b.f (p0:QB):Option (Bool):=
 (ψ1m.f (p0.length:Int) 1 8).bind fun t1=>
 some t1
def ψ1n.l0 (rec:(QB×(QD)×Int)→Option ((Unit) ⊕ (Int))):(QB×(QD)×Int)→Option ((Unit) ⊕ (Int)):=fun (x1,x2,x5)=>
 bif decide (x5<(x2.1.length:Int)) then
 bif inB x5 x2.1.length then
 bif ((rdA ([],[],0) x2.1 x5).1)==x1 then
 some (Sum.inr x5)
 else
 rec (x1,x2,w64 (x5+1))
 else none
 else
 some (Sum.inl ())
def ψ1n.f (p0:QD) (p1:QB):Option (Int):=
 (lp ψ1n.l0 (p1,p0,0)).bind (fun o1=>φG o1 (fun _=>
 some (-1)) (fun x4=>
 some x4))
def ψ1X.f (p0:QD) (p1:QB):Option (QB×Bool):=
 (ψ1U.f p0).bind fun t1=>
 bif !t1 then
 some ([],false)
 else
 (ψ1n.f p0 p1).bind fun t2=>
 bif decide (t2<0) then
 some ([],false)
 else
 bif inB t2 p0.1.length then
 let y3:=((rdA ([],[],0) p0.1 t2).2).1
 some (y3,true)
 else none
def ψ1S.l0 (rec:(Int×QB×Bool)→Option (QB×Bool)):(Int×QB×Bool)→Option (QB×Bool):=fun (x0,x3,x4)=>
 bif x0 != 0 then
 let y2:=Int.tmod x0 10
 (bif decide (y2<0) then
 some (x0,x3,x4,w64 (0 - y2))
 else
 some (x0,x3,x4,y2):Option (Int×QB×Bool×Int)).bind (fun (x0,x3,x4,x5)=>
 bif decide ((φL [IntKind.wrap .u8 (w64 (48+x5))]).length+x3.length≤9223372036854775807) then
 let y3:=(φL [IntKind.wrap .u8 (w64 (48+x5))])++x3
 let y4:=w64 (Int.tdiv x0 10)
 rec (y4,y3,x4)
 else none)
 else
 some (x3,x4)
def ψ1S.f (p0:Int):Option (QB):=
 bif p0==0 then
 some [48]
 else
 let y1:=decide (p0<0)
 (lp ψ1S.l0 (p0,[],y1)).bind (fun (x3,x4)=>
 bif x4 then
 bif decide (([45]:QB).length+x3.length≤9223372036854775807) then
 some ([45]++x3)
 else none
 else
 some x3)
def ψ1i.f (p0:Int):Option (QB):=
 (ψ1m.f p0 1 100000).bind fun t1=>
 bif !t1 then
 some []
 else
 (ψ1S.f p0).bind fun t2=>
 bif decide (([115,101,103]:QB).length+t2.length≤9223372036854775807) then
 let y3:=[115,101,103]++t2
 some y3
 else none
def ψ1l.l0 (rec:(Int×List Int)→Option (Int×List Int)):(Int×List Int)→Option (Int×List Int):=fun (x0,x3)=>
 bif decide (x0≥128) then
 bif decide ((x3.length+[IntKind.wrap .u8 (w64 (128+(Int.tmod x0 128)))].length) * 1≤140737488355328) then
 let l2:=x3++[IntKind.wrap .u8 (w64 (128+(Int.tmod x0 128)))]
 let y3:=w64 (Int.tdiv x0 128)
 rec (y3,l2)
 else none
 else
 some (x0,x3)
def ψ1l.f (p0:Int):Option (QB):=
 (ψ1m.f p0 0 562949953421311).bind fun t1=>
 bif !t1 then
 some []
 else
 (lp ψ1l.l0 (p0,([]:List Int))).bind (fun (x0,x3)=>
 bif decide ((x3.length+[IntKind.wrap .u8 (x0)].length) * 1≤140737488355328) then
 let l4:=x3++[IntKind.wrap .u8 (x0)]
 some (φL l4)
 else none)
def ψ1f.l2 (rec:(QB×Int×Int×Int)→Option (QB×Int×Int)):(QB×Int×Int×Int)→Option (QB×Int×Int):=fun (x0,x4,x5,x6)=>
 bif decide (x6≥0) then
 bif inB x6 x0.length then
 let y1:=w64 ((w64 (x5 * 128))+(Int.tmod (w64 (bAt x0 x6)) 128))
 rec (x0,x4,y1,w64 (x6 - 1))
 else none
 else
 some (x0,x4,x5)
def ψ1f.l0 (rec:(QB×Int)→Option ((Unit) ⊕ (Int×Int))):(QB×Int)→Option ((Unit) ⊕ (Int×Int)):=fun (x0,x4)=>
 bif decide (x4≤7) then
 bif decide (x4≤(x0.length:Int)) then
 (lp ψ1f.l2 (x0,x4,0,w64 (x4 - 1))).bind (fun (x0,x4,x5)=>
 (ψ1l.f x5).bind fun t2=>
 bif (decide (0≤x4) && decide (x4≤(x0.length:Int))) then
 bif t2==(x0.take x4.toNat) then
 some (Sum.inr (x5,x4))
 else
 rec (x0,w64 (x4+1))
 else none)
 else
 some (Sum.inl ())
 else
 some (Sum.inl ())
def ψ1f.f (p0:QB):Option (Int×Int):=
 (lp ψ1f.l0 (p0,1)).bind (fun o3=>φG o3 (fun _=>
 some (0,0)) (fun (x2,x3)=>
 some (x2,x3)))
def ψ1Y.l0 (rec:(Int×Int×QB×Int)→Option (Int×QB)):(Int×Int×QB×Int)→Option (Int×QB):=fun (x0,x1,x5,x6)=>
 bif decide (x6<x1) then
 bif decide ((φL [IntKind.wrap .u8 (Int.tmod x0 256)]).length+x5.length≤9223372036854775807) then
 let y2:=(φL [IntKind.wrap .u8 (Int.tmod x0 256)])++x5
 let y3:=w64 (Int.tdiv x0 256)
 rec (y3,x1,y2,w64 (x6+1))
 else none
 else
 some (x0,x5)
def ψ1Y.f (p0:Int) (p1:Int):Option (QB):=
 (ψ1m.f p1 1 7).bind fun t1=>
 bif !t1 then
 some []
 else
 bif decide (p0<0) then
 some []
 else
 (lp ψ1Y.l0 (p0,p1,[],0)).bind (fun (x0,x5)=>
 bif decide (x0 > 0) then
 some []
 else
 some x5)
def ψ1R.l2 (rec:(QB×Int×Int×Int)→Option (QB×Int×Int)):(QB×Int×Int×Int)→Option (QB×Int×Int):=fun (x0,x3,x4,x5)=>
 bif decide (x5<8) then
 let y2:=w64 (Int.tdiv x3 2)
 (bif (Int.tmod x3 2)==1 then
 let y3:=bits (fun _ a b=>a ^^^ b) .i64 y2 2197175160
 some (x0,y3,x4,x5)
 else
 some (x0,y2,x4,x5):Option (QB×Int×Int×Int)).bind (fun (x0,x3,x4,x5)=>
 rec (x0,x3,x4,w64 (x5+1)))
 else
 some (x0,x3,x4)
def ψ1R.l0 (rec:(QB×Int×Int)→Option (Int)):(QB×Int×Int)→Option (Int):=fun (x0,x3,x4)=>
 bif decide (x4<(x0.length:Int)) then
 bif inB x4 x0.length then
 let y1:=bits (fun _ a b=>a ^^^ b) .i64 x3 (w64 (bAt x0 x4))
 (lp ψ1R.l2 (x0,y1,x4,0)).bind (fun (x0,x3,x4)=>
 rec (x0,x3,w64 (x4+1)))
 else none
 else
 some x3
def ψ1R.f (p0:QB):Option (Int):=
 (lp ψ1R.l0 (p0,4294967295,0)).bind (fun x3=>
 let y4:=w64 (4294967295 - x3)
 some y4)
def ψ1Z.f (p0:QB):Option (QB):=
 bif decide ((p0.length:Int) > 200) then
 some []
 else
 (ψ1l.f (p0.length:Int)).bind fun t1=>
 bif decide (t1.length+p0.length≤9223372036854775807) then
 (ψ1R.f (t1++p0)).bind fun t2=>
 (ψ1Y.f t2 4).bind fun t3=>
 bif decide (t3.length+(t1++p0).length≤9223372036854775807) then
 let y4:=t3++(t1++p0)
 some y4
 else none
 else none
def ψ1k.f (p0:QB):Option (QB×Int):=
 bif decide ((p0.length:Int)<5) then
 some ([],0)
 else
 bif (decide (0≤(4:Int)) && decide (4≤(p0.length:Int))) then
 (ψ1f.f (p0.drop 4)).bind fun (t1_0,t1_1)=>
 bif t1_1==0 then
 some ([],0)
 else
 bif decide (t1_0 > 200) then
 some ([],0)
 else
 bif decide (t1_0 > (w64 ((w64 ((p0.length:Int) - 4)) - t1_1))) then
 some ([],0)
 else
 bif (decide (0≤w64 ((w64 (4+t1_1))+t1_0)) && decide (w64 ((w64 (4+t1_1))+t1_0)≤(p0.length:Int))) then
 bif (decide (0≤w64 (4+t1_1)) && decide (w64 (4+t1_1)≤w64 ((w64 (4+t1_1))+t1_0))) then
 let y2:=(p0.take ((w64 ((w64 (4+t1_1))+t1_0)).toNat)).drop ((w64 (4+t1_1)).toNat)
 bif (decide (0≤w64 ((w64 (4+t1_1))+t1_0)) && decide (w64 ((w64 (4+t1_1))+t1_0)≤(p0.length:Int))) then
 (ψ1Z.f y2).bind fun t3=>
 bif !((p0.take ((w64 ((w64 (4+t1_1))+t1_0)).toNat))==t3) then
 some ([],0)
 else
 let y4:=w64 ((w64 (4+t1_1))+t1_0)
 some (y2,y4)
 else none
 else none
 else none
 else none
def ψ1p.f (p0:QB):Option (QB×QB×Bool):=
 (ψ1f.f p0).bind fun (t1_0,t1_1)=>
 bif t1_1==0 then
 some ([],[],false)
 else
 bif decide (t1_0 > (w64 ((p0.length:Int) - t1_1))) then
 some ([],[],false)
 else
 bif (decide (0≤w64 (t1_1+t1_0)) && decide (w64 (t1_1+t1_0)≤(p0.length:Int))) then
 bif (decide (0≤t1_1) && decide (t1_1≤w64 (t1_1+t1_0))) then
 bif (decide (0≤w64 (t1_1+t1_0)) && decide (w64 (t1_1+t1_0)≤(p0.length:Int))) then
 let y2:=(p0.take ((w64 (t1_1+t1_0)).toNat)).drop t1_1.toNat
 let y3:=p0.drop ((w64 (t1_1+t1_0)).toNat)
 some (y2,y3,true)
 else none
 else none
 else none
def ψ1d.l0 (rec:(QB×Int×Int×Int)→Option (Int)):(QB×Int×Int×Int)→Option (Int):=fun (x0,x1,x6,x7)=>
 bif decide (x7<x1) then
 bif inB x7 x0.length then
 let y2:=w64 ((w64 (x6 * 256))+(w64 (bAt x0 x7)))
 rec (x0,x1,y2,w64 (x7+1))
 else none
 else
 some x6
def ψ1d.f (p0:QB) (p1:Int):Option (Int×Bool):=
 (ψ1m.f p1 1 7).bind fun t1=>
 bif !t1 then
 some (0,false)
 else
 bif decide ((p0.length:Int)<p1) then
 some (0,false)
 else
 (lp ψ1d.l0 (p0,p1,0,0)).bind (fun x6=>
 some (x6,true))
def ψ1h.f (p0:QR):Option (Bool):=
 ((ψ1m.f p0.2.1 0 1000000).bind fun t1=>
 bif !t1 then
 some (Sum.inr false)
 else
 bif p0.2.1==0 then
 bif p0.1 != 5 then
 some (Sum.inr false)
 else
 some (Sum.inl p0)
 else
 some (Sum.inl p0):Option ((QR) ⊕ (Bool))).bind (fun o2=>φG o2 (fun x1=>
 (bif x1.1==1 then
 some (x1,x1.1,x1.1==1)
 else
 some (x1,x1.1,x1.1==4):Option ((QR)×Int×Bool)).bind (fun (x1,x18,x19)=>
 bif x19 then
 (ψ1b.f x1.2.2.1).bind fun t3=>
 bif t3 then
 bif decide ((x1.2.2.2.1.length:Int)≤24) then
 bif x1.2.2.2.2.1==0 then
 let y4:=x1.2.2.2.2.2==0
 some y4
 else
 some false
 else
 some false
 else
 some false
 else
 bif x18==2 then
 (ψ1b.f x1.2.2.1).bind fun t5=>
 bif t5 then
 bif x1.2.2.2.1==[] then
 bif x1.2.2.2.2.1==0 then
 let y6:=x1.2.2.2.2.2==0
 some y6
 else
 some false
 else
 some false
 else
 some false
 else
 bif x18==3 then
 bif x1.2.2.1==[] then
 bif x1.2.2.2.1==[] then
 (ψ1m.f x1.2.2.2.2.1 0 8).bind fun t7=>
 bif t7 then
 (ψ1m.f x1.2.2.2.2.2 0 4294967295).bind fun t8=>
 some t8
 else
 some false
 else
 some false
 else
 some false
 else
 bif x18==5 then
 bif x1.2.2.1==[] then
 bif x1.2.2.2.1==[] then
 (ψ1m.f x1.2.2.2.2.1 0 20).bind fun t9=>
 bif t9 then
 (ψ1m.f x1.2.2.2.2.2 0 4294967295).bind fun t10=>
 some t10
 else
 some false
 else
 some false
 else
 some false
 else
 some false)) (fun x2=>
 some x2))
def ψ1j.f (p0:QR):Option (QB):=
 (ψ1h.f p0).bind fun t1=>
 bif !t1 then
 some []
 else
 (ψ1l.f p0.1).bind fun t2=>
 (ψ1l.f p0.2.1).bind fun t3=>
 bif decide (t2.length+t3.length≤9223372036854775807) then
 (bif p0.1==1 then
 some (p0,t2++t3,p0.1,p0.1==1)
 else
 some (p0,t2++t3,p0.1,p0.1==4):Option ((QR)×QB×Int×Bool)).bind (fun (x1,x3,x15,x16)=>
 bif x16 then
 (ψ1l.f (x1.2.2.1.length:Int)).bind fun t4=>
 bif decide (x3.length+t4.length≤9223372036854775807) then
 bif decide ((x3++t4).length+x1.2.2.1.length≤9223372036854775807) then
 (ψ1l.f (x1.2.2.2.1.length:Int)).bind fun t5=>
 bif decide (((x3++t4)++x1.2.2.1).length+t5.length≤9223372036854775807) then
 bif decide ((((x3++t4)++x1.2.2.1)++t5).length+x1.2.2.2.1.length≤9223372036854775807) then
 let y6:=(((x3++t4)++x1.2.2.1)++t5)++x1.2.2.2.1
 some y6
 else none
 else none
 else none
 else none
 else
 bif x15==2 then
 (ψ1l.f (x1.2.2.1.length:Int)).bind fun t7=>
 bif decide (x3.length+t7.length≤9223372036854775807) then
 bif decide ((x3++t7).length+x1.2.2.1.length≤9223372036854775807) then
 let y8:=(x3++t7)++x1.2.2.1
 some y8
 else none
 else none
 else
 (ψ1l.f x1.2.2.2.2.1).bind fun t9=>
 bif decide (x3.length+t9.length≤9223372036854775807) then
 (ψ1Y.f x1.2.2.2.2.2 4).bind fun t10=>
 bif decide ((x3++t9).length+t10.length≤9223372036854775807) then
 let y11:=(x3++t9)++t10
 some y11
 else none
 else none)
 else none
def ψ1e.f (p0:QB):Option ((QR)×Bool):=
 (ψ1f.f p0).bind fun (t1_0,t1_1)=>
 bif (decide (0≤t1_1) && decide (t1_1≤(p0.length:Int))) then
 (ψ1f.f (p0.drop t1_1.toNat)).bind fun (t2_0,t2_1)=>
 bif t1_1==0 then
 some ((0,0,[],[],0,0),false)
 else
 bif t2_1==0 then
 some ((0,0,[],[],0,0),false)
 else
 bif (decide (0≤w64 (t1_1+t2_1)) && decide (w64 (t1_1+t2_1)≤(p0.length:Int))) then
 let y3:=p0.drop ((w64 (t1_1+t2_1)).toNat)
 ((bif t1_0==1 then
 some (p0,(0,0,[],[],0,0),(t1_0,t2_0,[],[],0,0),y3,t1_0,t1_0==1)
 else
 some (p0,(0,0,[],[],0,0),(t1_0,t2_0,[],[],0,0),y3,t1_0,t1_0==4):Option (QB×(QR)×(QR)×QB×Int×Bool)).bind (fun (x0,x2,x8,x9,x50,x67)=>
 bif x67 then
 (ψ1p.f x9).bind fun (t4_0,t4_1,t4_2)=>
 (ψ1p.f t4_1).bind fun (t5_0,t5_1,t5_2)=>
 some (x0,x2,(x8.1,x8.2.1,t4_0,t5_0,x8.2.2.2.2))
 else
 (bif x50==2 then
 (ψ1p.f x9).bind fun (t6_0,t6_1,t6_2)=>
 some (x0,x2,(x8.1,x8.2.1,t6_0,x8.2.2.2))
 else
 (ψ1f.f x9).bind fun (t7_0,t7_1)=>
 bif (decide (0≤t7_1) && decide (t7_1≤(x9.length:Int))) then
 (ψ1d.f (x9.drop t7_1.toNat) 4).bind fun (t8_0,t8_1)=>
 some (x0,x2,(x8.1,x8.2.1,x8.2.2.1,x8.2.2.2.1,t7_0,t8_0))
 else none:Option (QB×(QR)×QR)).bind (fun (x0,x2,x8)=>
 some (x0,x2,x8))):Option (QB×(QR)×QR)).bind (fun (x0,x2,x8)=>
 (ψ1j.f x8).bind fun t9=>
 bif !(t9==x0) then
 some ((0,0,[],[],0,0),false)
 else
 bif x0==[] then
 some ((0,0,[],[],0,0),false)
 else
 some (x8,true))
 else none
 else none
def ψ1g.f (p0:QB) (p1:Int) (p2:Int):Option ((QR)×Bool):=
 (ψ1m.f p1 0 (p0.length:Int)).bind fun t1=>
 bif !t1 then
 some ((0,0,[],[],0,0),false)
 else
 (ψ1m.f p2 1 (w64 ((p0.length:Int) - p1))).bind fun t2=>
 bif !t2 then
 some ((0,0,[],[],0,0),false)
 else
 bif (decide (0≤w64 (p1+p2)) && decide (w64 (p1+p2)≤(p0.length:Int))) then
 bif (decide (0≤p1) && decide (p1≤w64 (p1+p2))) then
 (ψ1k.f ((p0.take ((w64 (p1+p2)).toNat)).drop p1.toNat)).bind fun (t3_0,t3_1)=>
 (ψ1e.f t3_0).bind fun (t4_0,t4_1)=>
 bif t3_1 != p2 then
 some ((0,0,[],[],0,0),false)
 else
 bif !t4_1 then
 some ((0,0,[],[],0,0),false)
 else
 some (t4_0,true)
 else none
 else none
def ψ1T.l0 (rec:(List (QE)×QB×(QE)×Int)→Option ((QE) ⊕ ((QE)×Bool))):(List (QE)×QB×(QE)×Int)→Option ((QE) ⊕ ((QE)×Bool)):=fun (x0,x1,x4,x6)=>
 bif decide (x6<(x0.length:Int)) then
 bif inB x6 x0.length then
 bif ((rdA ([],0,0,0,0) x0 x6).1)==x1 then
 bif inB x6 x0.length then
 let y1:=(rdA ([],0,0,0,0) x0 x6).1
 let y2:=((rdA ([],0,0,0,0) x0 x6).2).1
 let y3:=(((rdA ([],0,0,0,0) x0 x6).2).2).1
 let y4:=((((rdA ([],0,0,0,0) x0 x6).2).2).2).1
 let y5:=((((rdA ([],0,0,0,0) x0 x6).2).2).2).2
 some (Sum.inr ((y1,y2,y3,y4,y5),true))
 else none
 else
 rec (x0,x1,x4,w64 (x6+1))
 else none
 else
 some (Sum.inl x4)
def ψ1T.f (p0:List (QE)) (p1:QB):Option ((QE)×Bool):=
 (lp ψ1T.l0 (p0,p1,([],0,0,0,0),0)).bind (fun o6=>φG o6 (fun x4=>
 some (([],0,0,0,0),false)) (fun (x4,x5)=>
 some (x4,x5)))
def ψb.f (p0:QF) (p1:QF):Option (Bool):=
 bif !(p0.1==p1.1) then
 some false
 else
 bif !(p0.2.1==p1.2.1) then
 some false
 else
 bif p0.2.2 != p1.2.2 then
 some false
 else
 some true
def ψ11.f (p0:QF) (p1:Int):Option (Int):=
 let y1:=w64 (p1 - (p0.1.length:Int))
 bif decide (y1<0) then
 some (-1)
 else
 let y2:=w64 (y1 - (p0.2.1.length:Int))
 bif decide (y2<0) then
 some (-1)
 else
 some y2
def ψ12.l0 (rec:(List (QF)×Int×Int)→Option ((Int) ⊕ (Int))):(List (QF)×Int×Int)→Option ((Int) ⊕ (Int)):=fun (x0,x1,x5)=>
 bif decide (x5<(x0.length:Int)) then
 bif inB x5 x0.length then
 (ψ11.f ((rdA ([],[],0) x0 x5).1,((rdA ([],[],0) x0 x5).2)) x1).bind fun t2=>
 bif decide (t2<0) then
 some (Sum.inr (-1))
 else
 rec (x0,t2,w64 (x5+1))
 else none
 else
 some (Sum.inl x1)
def ψ12.f (p0:List (QF)) (p1:Int):Option (Int):=
 let y1:=w64 (p1 - (p0.length:Int))
 bif decide (y1<0) then
 some (-1)
 else
 (lp ψ12.l0 (p0,y1,0)).bind (fun o3=>φG o3 (fun x1=>
 some x1) (fun x4=>
 some x4))
def ψx.f (p0:QD) (p1:Int):Option (Int):=
 (ψ12.f p0.1 p1).bind fun t1=>
 bif decide (t1<0) then
 some (-1)
 else
 some t1
def ψ1G.f (p0:QF):Option (QF):=
 some p0
def ψ1H.l0 (rec:(List (QF)×List (QF)×Int)→Option (List (QF))):(List (QF)×List (QF)×Int)→Option (List (QF)):=fun (x0,x3,x4)=>
 bif decide (x4<(x0.length:Int)) then
 bif inB x4 x0.length then
 (ψ1G.f ((rdA ([],[],0) x0 x4).1,((rdA ([],[],0) x0 x4).2))).bind fun t2=>
 bif inB x4 x3.length then
 let l3:=x3.set x4.toNat t2
 rec (x0,l3,w64 (x4+1))
 else none
 else none
 else
 some x3
def ψ1H.f (p0:List (QF)):Option (List (QF)):=
 bif ((p0.length:Int)==(p0.length:Int)) then
 bif (decide (0≤(p0.length:Int)) && decide (40 * (p0.length:Int)≤140737488355328)) then
 let l1:=κI (p0.length:Int).toNat ([],[],0)
 (lp ψ1H.l0 (p0,l1,0)).bind (fun x3=>
 some x3)
 else none
 else none
def ψ1C.f (p0:QD):Option (QD):=
 (ψ1H.f p0.1).bind fun t1=>
 some (t1,p0.2)
def ψX.f (p0:QF) (p1:QF):Option (Bool):=
 bif !(p0.1==p1.1) then
 some false
 else
 bif !(p0.2.1==p1.2.1) then
 some false
 else
 bif p0.2.2 != p1.2.2 then
 some false
 else
 some true
def ψY.l0 (rec:(List (QF)×List (QF)×Int)→Option ((Unit) ⊕ (Bool))):(List (QF)×List (QF)×Int)→Option ((Unit) ⊕ (Bool)):=fun (x0,x1,x5)=>
 bif decide (x5<(x0.length:Int)) then
 bif inB x5 x0.length then
 bif inB x5 x1.length then
 (ψX.f ((rdA ([],[],0) x0 x5).1,((rdA ([],[],0) x0 x5).2)) ((rdA ([],[],0) x1 x5).1,((rdA ([],[],0) x1 x5).2))).bind fun t1=>
 bif !t1 then
 some (Sum.inr false)
 else
 rec (x0,x1,w64 (x5+1))
 else none
 else none
 else
 some (Sum.inl ())
def ψY.f (p0:List (QF)) (p1:List (QF)):Option (Bool):=
 bif (p0.length:Int) != (p1.length:Int) then
 some false
 else
 (lp ψY.l0 (p0,p1,0)).bind (fun o2=>φG o2 (fun _=>
 some true) (fun x4=>
 some x4))
def ψT.f (p0:QD) (p1:QD):Option (Bool):=
 (ψY.f p0.1 p1.1).bind fun t1=>
 bif !t1 then
 some false
 else
 bif p0.2.1 != p1.2.1 then
 some false
 else
 bif p0.2.2.1 != p1.2.2.1 then
 some false
 else
 bif !(p0.2.2.2==p1.2.2.2) then
 some false
 else
 some true
def ψz.f (p0:QE) (p1:Int):Option (Int):=
 let y1:=w64 (p1 - (p0.1.length:Int))
 bif decide (y1<0) then
 some (-1)
 else
 some y1
def ψ10.l0 (rec:(List (QE)×Int×Int)→Option ((Int) ⊕ (Int))):(List (QE)×Int×Int)→Option ((Int) ⊕ (Int)):=fun (x0,x1,x5)=>
 bif decide (x5<(x0.length:Int)) then
 bif inB x5 x0.length then
 (ψz.f ((rdA ([],0,0,0,0) x0 x5).1,((rdA ([],0,0,0,0) x0 x5).2).1,(((rdA ([],0,0,0,0) x0 x5).2).2).1,((((rdA ([],0,0,0,0) x0 x5).2).2).2)) x1).bind fun t2=>
 bif decide (t2<0) then
 some (Sum.inr (-1))
 else
 rec (x0,t2,w64 (x5+1))
 else none
 else
 some (Sum.inl x1)
def ψ10.f (p0:List (QE)) (p1:Int):Option (Int):=
 let y1:=w64 (p1 - (p0.length:Int))
 bif decide (y1<0) then
 some (-1)
 else
 (lp ψ10.l0 (p0,y1,0)).bind (fun o3=>φG o3 (fun x1=>
 some x1) (fun x4=>
 some x4))
def ψ1E.f (p0:QE):Option (QE):=
 some p0
def ψ1F.l0 (rec:(List (QE)×List (QE)×Int)→Option (List (QE))):(List (QE)×List (QE)×Int)→Option (List (QE)):=fun (x0,x3,x4)=>
 bif decide (x4<(x0.length:Int)) then
 bif inB x4 x0.length then
 (ψ1E.f ((rdA ([],0,0,0,0) x0 x4).1,((rdA ([],0,0,0,0) x0 x4).2).1,(((rdA ([],0,0,0,0) x0 x4).2).2).1,((((rdA ([],0,0,0,0) x0 x4).2).2).2))).bind fun t2=>
 bif inB x4 x3.length then
 let l3:=x3.set x4.toNat t2
 rec (x0,l3,w64 (x4+1))
 else none
 else none
 else
 some x3
def ψ1F.f (p0:List (QE)):Option (List (QE)):=
 bif ((p0.length:Int)==(p0.length:Int)) then
 bif (decide (0≤(p0.length:Int)) && decide (48 * (p0.length:Int)≤140737488355328)) then
 let l1:=κI (p0.length:Int).toNat ([],0,0,0,0)
 (lp ψ1F.l0 (p0,l1,0)).bind (fun x3=>
 some x3)
 else none
 else none
def ψV.f (p0:QE) (p1:QE):Option (Bool):=
 bif !(p0.1==p1.1) then
 some false
 else
 bif p0.2.1 != p1.2.1 then
 some false
 else
 bif p0.2.2.1 != p1.2.2.1 then
 some false
 else
 bif p0.2.2.2.1 != p1.2.2.2.1 then
 some false
 else
 bif p0.2.2.2.2 != p1.2.2.2.2 then
 some false
 else
 some true
def ψW.l0 (rec:(List (QE)×List (QE)×Int)→Option ((Unit) ⊕ (Bool))):(List (QE)×List (QE)×Int)→Option ((Unit) ⊕ (Bool)):=fun (x0,x1,x5)=>
 bif decide (x5<(x0.length:Int)) then
 bif inB x5 x0.length then
 bif inB x5 x1.length then
 (ψV.f ((rdA ([],0,0,0,0) x0 x5).1,((rdA ([],0,0,0,0) x0 x5).2).1,(((rdA ([],0,0,0,0) x0 x5).2).2).1,((((rdA ([],0,0,0,0) x0 x5).2).2).2)) ((rdA ([],0,0,0,0) x1 x5).1,((rdA ([],0,0,0,0) x1 x5).2).1,(((rdA ([],0,0,0,0) x1 x5).2).2).1,((((rdA ([],0,0,0,0) x1 x5).2).2).2))).bind fun t1=>
 bif !t1 then
 some (Sum.inr false)
 else
 rec (x0,x1,w64 (x5+1))
 else none
 else none
 else
 some (Sum.inl ())
def ψW.f (p0:List (QE)) (p1:List (QE)):Option (Bool):=
 bif (p0.length:Int) != (p1.length:Int) then
 some false
 else
 (lp ψW.l0 (p0,p1,0)).bind (fun o2=>φG o2 (fun _=>
 some true) (fun x4=>
 some x4))
def ψ13.f (p0:List Int) (p1:Int):Option (Int):=
 let y1:=w64 (p1 - (p0.length:Int))
 bif decide (y1<0) then
 some (-1)
 else
 some y1
def ψ14.f (p0:Int×List Int) (p1:Int):Option (Int):=
 (ψ13.f p0.2 p1).bind fun t1=>
 bif decide (t1<0) then
 some (-1)
 else
 some t1
def ψ1I.l0 (rec:(List Int×List Int×Int)→Option (List Int)):(List Int×List Int×Int)→Option (List Int):=fun (x0,x3,x4)=>
 bif decide (x4<(x0.length:Int)) then
 bif inB x4 x0.length then
 bif inB x4 x3.length then
 let l2:=x3.set x4.toNat (rdA 0 x0 x4)
 rec (x0,l2,w64 (x4+1))
 else none
 else none
 else
 some x3
def ψ1I.f (p0:List Int):Option (List Int):=
 bif ((p0.length:Int)==(p0.length:Int)) then
 bif (decide (0≤(p0.length:Int)) && decide (8 * (p0.length:Int)≤140737488355328)) then
 let l1:=κI (p0.length:Int).toNat 0
 (lp ψ1I.l0 (p0,l1,0)).bind (fun x3=>
 some x3)
 else none
 else none
def ψ1J.f (p0:Int×List Int):Option (Int×List Int):=
 (ψ1I.f p0.2).bind fun t1=>
 some (p0.1,t1)
def ψZ.l0 (rec:(List Int×List Int×Int)→Option ((Unit) ⊕ (Bool))):(List Int×List Int×Int)→Option ((Unit) ⊕ (Bool)):=fun (x0,x1,x5)=>
 bif decide (x5<(x0.length:Int)) then
 bif inB x5 x0.length then
 bif inB x5 x1.length then
 bif (rdA 0 x0 x5) != (rdA 0 x1 x5) then
 some (Sum.inr false)
 else
 rec (x0,x1,w64 (x5+1))
 else none
 else none
 else
 some (Sum.inl ())
def ψZ.f (p0:List Int) (p1:List Int):Option (Bool):=
 bif (p0.length:Int) != (p1.length:Int) then
 some false
 else
 (lp ψZ.l0 (p0,p1,0)).bind (fun o1=>φG o1 (fun _=>
 some true) (fun x4=>
 some x4))
def ψa.f (p0:Int×List Int) (p1:Int×List Int):Option (Bool):=
 bif p0.1 != p1.1 then
 some false
 else
 (ψZ.f p0.2 p1.2).bind fun t1=>
 bif !t1 then
 some false
 else
 some true
def ψ19.f (p0:QS) (p1:Int):Option (Int):=
 (ψ14.f p0.1 p1).bind fun t1=>
 bif decide (t1<0) then
 some (-1)
 else
 (ψ10.f p0.2.1 t1).bind fun t2=>
 bif decide (t2<0) then
 some (-1)
 else
 some t2
def ψ1O.f (p0:QS):Option (QS):=
 (ψ1J.f p0.1).bind fun t1=>
 (ψ1F.f p0.2.1).bind fun t2=>
 some (t1,t2,p0.2.2)
def ψh.f (p0:QS) (p1:QS):Option (Bool):=
 (ψa.f p0.1 p1.1).bind fun t1=>
 bif !t1 then
 some false
 else
 (ψW.f p0.2.1 p1.2.1).bind fun t2=>
 bif !t2 then
 some false
 else
 bif p0.2.2.1 != p1.2.2.1 then
 some false
 else
 bif p0.2.2.2.1 != p1.2.2.2.1 then
 some false
 else
 bif p0.2.2.2.2 != p1.2.2.2.2 then
 some false
 else
 some true
def ψ1a.f (p0:QS) (p1:QD) (p2:QB):Option ((QF)×Int):=
 (ψ1T.f p0.2.1 p2).bind fun (t1_0,t1_1)=>
 bif !t1_1 then
 some (([],[],0),8)
 else
 (ψ1i.f t1_0.2.1).bind fun t2=>
 (ψ1X.f p1 t2).bind fun (t3_0,t3_1)=>
 (ψ1g.f t3_0 t1_0.2.2.1 t1_0.2.2.2.1).bind fun (t4_0,t4_1)=>
 bif !t3_1 then
 some (([],[],0),3)
 else
 bif !t4_1 then
 some (([],[],0),3)
 else
 bif !(t4_0.2.2.1==p2) then
 some (([],[],0),3)
 else
 bif t4_0.1 != 1 then
 bif t4_0.1 != 4 then
 some (([],[],0),3)
 else
 some ((p2,t4_0.2.2.2.1,t4_0.2.1),0)
 else
 some ((p2,t4_0.2.2.2.1,t4_0.2.1),0)
def ψc.l0 (rec:(List (QF)×List (QF)×Int)→Option ((Unit) ⊕ (Bool))):(List (QF)×List (QF)×Int)→Option ((Unit) ⊕ (Bool)):=fun (x0,x1,x5)=>
 bif decide (x5<(x0.length:Int)) then
 bif inB x5 x0.length then
 bif inB x5 x1.length then
 (ψb.f ((rdA ([],[],0) x0 x5).1,((rdA ([],[],0) x0 x5).2)) ((rdA ([],[],0) x1 x5).1,((rdA ([],[],0) x1 x5).2))).bind fun t1=>
 bif !t1 then
 some (Sum.inr false)
 else
 rec (x0,x1,w64 (x5+1))
 else none
 else none
 else
 some (Sum.inl ())
def ψc.f (p0:List (QF)) (p1:List (QF)):Option (Bool):=
 bif (p0.length:Int) != (p1.length:Int) then
 some false
 else
 (lp ψc.l0 (p0,p1,0)).bind (fun o2=>φG o2 (fun _=>
 some true) (fun x4=>
 some x4))
def ψ15.f (p0:QP) (p1:Int):Option (Int):=
 let y1:=w64 (p1 - (p0.1.length:Int))
 bif decide (y1<0) then
 some (-1)
 else
 let y2:=w64 (y1 - (p0.2.2.length:Int))
 bif decide (y2<0) then
 some (-1)
 else
 some y2
def ψ16.l0 (rec:(List (QP)×Int×Int)→Option ((Int) ⊕ (Int))):(List (QP)×Int×Int)→Option ((Int) ⊕ (Int)):=fun (x0,x1,x5)=>
 bif decide (x5<(x0.length:Int)) then
 bif inB x5 x0.length then
 (ψ15.f ((rdA ([],false,[]) x0 x5).1,((rdA ([],false,[]) x0 x5).2)) x1).bind fun t2=>
 bif decide (t2<0) then
 some (Sum.inr (-1))
 else
 rec (x0,t2,w64 (x5+1))
 else none
 else
 some (Sum.inl x1)
def ψ16.f (p0:List (QP)) (p1:Int):Option (Int):=
 let y1:=w64 (p1 - (p0.length:Int))
 bif decide (y1<0) then
 some (-1)
 else
 (lp ψ16.l0 (p0,y1,0)).bind (fun o3=>φG o3 (fun x1=>
 some x1) (fun x4=>
 some x4))
def ψ1K.f (p0:QP):Option (QP):=
 some p0
def ψ1L.l0 (rec:(List (QP)×List (QP)×Int)→Option (List (QP))):(List (QP)×List (QP)×Int)→Option (List (QP)):=fun (x0,x3,x4)=>
 bif decide (x4<(x0.length:Int)) then
 bif inB x4 x0.length then
 (ψ1K.f ((rdA ([],false,[]) x0 x4).1,((rdA ([],false,[]) x0 x4).2))).bind fun t2=>
 bif inB x4 x3.length then
 let l3:=x3.set x4.toNat t2
 rec (x0,l3,w64 (x4+1))
 else none
 else none
 else
 some x3
def ψ1L.f (p0:List (QP)):Option (List (QP)):=
 bif ((p0.length:Int)==(p0.length:Int)) then
 bif (decide (0≤(p0.length:Int)) && decide (40 * (p0.length:Int)≤140737488355328)) then
 let l1:=κI (p0.length:Int).toNat ([],false,[])
 (lp ψ1L.l0 (p0,l1,0)).bind (fun x3=>
 some x3)
 else none
 else none
def ψd.f (p0:QP) (p1:QP):Option (Bool):=
 bif !(p0.1==p1.1) then
 some false
 else
 bif !(p0.2.1==p1.2.1) then
 some false
 else
 bif !(p0.2.2==p1.2.2) then
 some false
 else
 some true
def ψe.l0 (rec:(List (QP)×List (QP)×Int)→Option ((Unit) ⊕ (Bool))):(List (QP)×List (QP)×Int)→Option ((Unit) ⊕ (Bool)):=fun (x0,x1,x5)=>
 bif decide (x5<(x0.length:Int)) then
 bif inB x5 x0.length then
 bif inB x5 x1.length then
 (ψd.f ((rdA ([],false,[]) x0 x5).1,((rdA ([],false,[]) x0 x5).2)) ((rdA ([],false,[]) x1 x5).1,((rdA ([],false,[]) x1 x5).2))).bind fun t1=>
 bif !t1 then
 some (Sum.inr false)
 else
 rec (x0,x1,w64 (x5+1))
 else none
 else none
 else
 some (Sum.inl ())
def ψe.f (p0:List (QP)) (p1:List (QP)):Option (Bool):=
 bif (p0.length:Int) != (p1.length:Int) then
 some false
 else
 (lp ψe.l0 (p0,p1,0)).bind (fun o2=>φG o2 (fun _=>
 some true) (fun x4=>
 some x4))
def ψ17.f (p0:QB×Int) (p1:Int):Option (Int):=
 let y1:=w64 (p1 - (p0.1.length:Int))
 bif decide (y1<0) then
 some (-1)
 else
 some y1
def ψ18.l0 (rec:(List (QB×Int)×Int×Int)→Option ((Int) ⊕ (Int))):(List (QB×Int)×Int×Int)→Option ((Int) ⊕ (Int)):=fun (x0,x1,x5)=>
 bif decide (x5<(x0.length:Int)) then
 bif inB x5 x0.length then
 (ψ17.f (rdA ([],0) x0 x5) x1).bind fun t2=>
 bif decide (t2<0) then
 some (Sum.inr (-1))
 else
 rec (x0,t2,w64 (x5+1))
 else none
 else
 some (Sum.inl x1)
def ψ18.f (p0:List (QB×Int)) (p1:Int):Option (Int):=
 let y1:=w64 (p1 - (p0.length:Int))
 bif decide (y1<0) then
 some (-1)
 else
 (lp ψ18.l0 (p0,y1,0)).bind (fun o3=>φG o3 (fun x1=>
 some x1) (fun x4=>
 some x4))
def ψ1A.f (p0:QT) (p1:Int):Option (Int):=
 (ψ18.f p0.2.1 p1).bind fun t1=>
 bif decide (t1<0) then
 some (-1)
 else
 (ψ16.f p0.2.2 t1).bind fun t2=>
 bif decide (t2<0) then
 some (-1)
 else
 some t2
def ψ1M.f (p0:QB×Int):Option (QB×Int):=
 some p0
def ψ1N.l0 (rec:(List (QB×Int)×List (QB×Int)×Int)→Option (List (QB×Int))):(List (QB×Int)×List (QB×Int)×Int)→Option (List (QB×Int)):=fun (x0,x3,x4)=>
 bif decide (x4<(x0.length:Int)) then
 bif inB x4 x0.length then
 (ψ1M.f (rdA ([],0) x0 x4)).bind fun t2=>
 bif inB x4 x3.length then
 let l3:=x3.set x4.toNat t2
 rec (x0,l3,w64 (x4+1))
 else none
 else none
 else
 some x3
def ψ1N.f (p0:List (QB×Int)):Option (List (QB×Int)):=
 bif ((p0.length:Int)==(p0.length:Int)) then
 bif (decide (0≤(p0.length:Int)) && decide (24 * (p0.length:Int)≤140737488355328)) then
 let l1:=κI (p0.length:Int).toNat ([],0)
 (lp ψ1N.l0 (p0,l1,0)).bind (fun x3=>
 some x3)
 else none
 else none
def ψ1P.f (p0:QT):Option (QT):=
 (ψ1N.f p0.2.1).bind fun t1=>
 (ψ1L.f p0.2.2).bind fun t2=>
 some (p0.1,t1,t2)
def ψf.f (p0:QB×Int) (p1:QB×Int):Option (Bool):=
 bif !(p0.1==p1.1) then
 some false
 else
 bif p0.2 != p1.2 then
 some false
 else
 some true
def ψg.l0 (rec:(List (QB×Int)×List (QB×Int)×Int)→Option ((Unit) ⊕ (Bool))):(List (QB×Int)×List (QB×Int)×Int)→Option ((Unit) ⊕ (Bool)):=fun (x0,x1,x5)=>
 bif decide (x5<(x0.length:Int)) then
 bif inB x5 x0.length then
 bif inB x5 x1.length then
 (ψf.f (rdA ([],0) x0 x5) (rdA ([],0) x1 x5)).bind fun t1=>
 bif !t1 then
 some (Sum.inr false)
 else
 rec (x0,x1,w64 (x5+1))
 else none
 else none
 else
 some (Sum.inl ())
def ψg.f (p0:List (QB×Int)) (p1:List (QB×Int)):Option (Bool):=
 bif (p0.length:Int) != (p1.length:Int) then
 some false
 else
 (lp ψg.l0 (p0,p1,0)).bind (fun o2=>φG o2 (fun _=>
 some true) (fun x4=>
 some x4))
def ψi.f (p0:QT) (p1:QT):Option (Bool):=
 bif !(p0.1==p1.1) then
 some false
 else
 (ψg.f p0.2.1 p1.2.1).bind fun t1=>
 bif !t1 then
 some false
 else
 (ψe.f p0.2.2 p1.2.2).bind fun t2=>
 bif !t2 then
 some false
 else
 some true
def ψv.l0 (rec:(Int×QB)→Option (QB)):(Int×QB)→Option (QB):=fun (x0,x3)=>
 bif decide (x0 > 0) then
 bif decide ((φL [IntKind.wrap .u8 (w64 (48+(Int.tmod x0 10)))]).length+x3.length≤9223372036854775807) then
 let y1:=(φL [IntKind.wrap .u8 (w64 (48+(Int.tmod x0 10)))])++x3
 let y2:=w64 (Int.tdiv x0 10)
 rec (y2,y1)
 else none
 else
 some x3
def ψv.f (p0:Int):Option (QB):=
 bif decide (p0≤0) then
 some [109,48]
 else
 (lp ψv.l0 (p0,[])).bind (fun x3=>
 bif decide (([109]:QB).length+x3.length≤9223372036854775807) then
 some ([109]++x3)
 else none)
def ψr.l0 (rec:(List (QF)×Int×Int)→Option (List (QF)×Int)):(List (QF)×Int×Int)→Option (List (QF)×Int):=fun (x0,x1,x5)=>
 bif decide (x5<(x0.length:Int)) then
 (ψv.f x1).bind fun t1=>
 bif inB x5 x0.length then
 let l2:=x0.set x5.toNat (t1,(rdA ([],[],0) x0 x5).2)
 (ψv.f (w64 (x1+1))).bind fun t3=>
 bif inB x5 l2.length then
 let l4:=l2.set x5.toNat ((rdA ([],[],0) l2 x5).1,t3,((rdA ([],[],0) l2 x5).2).2)
 let y5:=w64 ((w64 (x1+1))+1)
 bif inB x5 l4.length then
 let l6:=l4.set x5.toNat ((rdA ([],[],0) l4 x5).1,((rdA ([],[],0) l4 x5).2).1,y5)
 rec (l6,w64 (y5+1),w64 (x5+1))
 else none
 else none
 else none
 else
 some (x0,x1)
def ψr.f (p0:List (QF)) (p1:Int):Option (Int×List (QF)):=
 (lp ψr.l0 (p0,p1,0)).bind (fun (x0,x1)=>
 some (x1,x0))
def ψs.l0 (rec:(List (QP)×Int×Int)→Option (List (QP)×Int)):(List (QP)×Int×Int)→Option (List (QP)×Int):=fun (x0,x1,x5)=>
 bif decide (x5<(x0.length:Int)) then
 (ψv.f x1).bind fun t1=>
 bif inB x5 x0.length then
 let l2:=x0.set x5.toNat (t1,(rdA ([],false,[]) x0 x5).2)
 bif inB x5 l2.length then
 let l3:=l2.set x5.toNat ((rdA ([],false,[]) l2 x5).1,(Int.tmod (w64 (x1+1)) 3)==0,((rdA ([],false,[]) l2 x5).2).2)
 let y4:=w64 ((w64 (x1+1))+1)
 (ψv.f y4).bind fun t5=>
 bif inB x5 l3.length then
 let l6:=l3.set x5.toNat ((rdA ([],false,[]) l3 x5).1,((rdA ([],false,[]) l3 x5).2).1,t5)
 rec (l6,w64 (y4+1),w64 (x5+1))
 else none
 else none
 else none
 else
 some (x0,x1)
def ψs.f (p0:List (QP)) (p1:Int):Option (Int×List (QP)):=
 (lp ψs.l0 (p0,p1,0)).bind (fun (x0,x1)=>
 some (x1,x0))
def ψk.l0 (rec:(List (QF)×Int×Int)→Option ((Int) ⊕ (Int))):(List (QF)×Int×Int)→Option ((Int) ⊕ (Int)):=fun (x0,x1,x5)=>
 bif decide (x5<(x0.length:Int)) then
 bif inB x5 x0.length then
 (ψv.f x1).bind fun t1=>
 bif !(((rdA ([],[],0) x0 x5).1)==t1) then
 some (Sum.inr (-1))
 else
 bif inB x5 x0.length then
 (ψv.f (w64 (x1+1))).bind fun t2=>
 bif !((((rdA ([],[],0) x0 x5).2).1)==t2) then
 some (Sum.inr (-1))
 else
 let y3:=w64 ((w64 (x1+1))+1)
 bif inB x5 x0.length then
 bif (((rdA ([],[],0) x0 x5).2).2) != y3 then
 some (Sum.inr (-1))
 else
 rec (x0,w64 (y3+1),w64 (x5+1))
 else none
 else none
 else none
 else
 some (Sum.inl x1)
def ψk.f (p0:List (QF)) (p1:Int):Option (Int):=
 (lp ψk.l0 (p0,p1,0)).bind (fun o4=>φG o4 (fun x1=>
 some x1) (fun x4=>
 some x4))
def ψo.l0 (rec:(List (QF)×Int×Int)→Option (List (QF)×Int)):(List (QF)×Int×Int)→Option (List (QF)×Int):=fun (x0,x1,x5)=>
 bif decide (x5<(x0.length:Int)) then
 (ψv.f x1).bind fun t1=>
 bif inB x5 x0.length then
 let l2:=x0.set x5.toNat (t1,(rdA ([],[],0) x0 x5).2)
 (ψv.f (w64 (x1+1))).bind fun t3=>
 bif inB x5 l2.length then
 let l4:=l2.set x5.toNat ((rdA ([],[],0) l2 x5).1,t3,((rdA ([],[],0) l2 x5).2).2)
 let y5:=w64 ((w64 (x1+1))+1)
 bif inB x5 l4.length then
 let l6:=l4.set x5.toNat ((rdA ([],[],0) l4 x5).1,((rdA ([],[],0) l4 x5).2).1,y5)
 rec (l6,w64 (y5+1),w64 (x5+1))
 else none
 else none
 else none
 else
 some (x0,x1)
def ψo.f (p0:List (QF)) (p1:Int):Option (Int×List (QF)):=
 (lp ψo.l0 (p0,p1,0)).bind (fun (x0,x1)=>
 some (x1,x0))
def ψl.f (p0:QD) (p1:Int):Option (Int×QD):=
 (ψo.f p0.1 p1).bind fun (t1_0,t1_1)=>
 some (t1_0,(t1_1,p0.2))
def ψt.l0 (rec:(List (QB×Int)×Int×Int)→Option (List (QB×Int)×Int)):(List (QB×Int)×Int×Int)→Option (List (QB×Int)×Int):=fun (x0,x1,x5)=>
 bif decide (x5<(x0.length:Int)) then
 (ψv.f x1).bind fun t1=>
 bif inB x5 x0.length then
 let l2:=x0.set x5.toNat (t1,(rdA ([],0) x0 x5).2)
 bif inB x5 l2.length then
 let l3:=l2.set x5.toNat ((rdA ([],0) l2 x5).1,w64 (x1+1))
 let y4:=w64 ((w64 (x1+1))+1)
 rec (l3,y4,w64 (x5+1))
 else none
 else none
 else
 some (x0,x1)
def ψt.f (p0:List (QB×Int)) (p1:Int):Option (Int×List (QB×Int)):=
 (lp ψt.l0 (p0,p1,0)).bind (fun (x0,x1)=>
 some (x1,x0))
def ψj.l0 (rec:(List (QT)×List (QT)×Int)→Option ((Unit) ⊕ (Bool))):(List (QT)×List (QT)×Int)→Option ((Unit) ⊕ (Bool)):=fun (x0,x1,x5)=>
 bif decide (x5<(x0.length:Int)) then
 bif inB x5 x0.length then
 bif inB x5 x1.length then
 (ψi.f ((rdA (false,[],[]) x0 x5).1,((rdA (false,[],[]) x0 x5).2)) ((rdA (false,[],[]) x1 x5).1,((rdA (false,[],[]) x1 x5).2))).bind fun t1=>
 bif !t1 then
 some (Sum.inr false)
 else
 rec (x0,x1,w64 (x5+1))
 else none
 else none
 else
 some (Sum.inl ())
def ψj.f (p0:List (QT)) (p1:List (QT)):Option (Bool):=
 bif (p0.length:Int) != (p1.length:Int) then
 some false
 else
 (lp ψj.l0 (p0,p1,0)).bind (fun o2=>φG o2 (fun _=>
 some true) (fun x4=>
 some x4))
def ψp.l0 (rec:(QC)→Option (List Int×Int)):(QC)→Option (List Int×Int):=fun (x0,x1,x5)=>
 bif decide (x5<(x0.length:Int)) then
 bif inB x5 x0.length then
 let l1:=x0.set x5.toNat x1
 rec (l1,w64 (x1+1),w64 (x5+1))
 else none
 else
 some (x0,x1)
def ψp.f (p0:List Int) (p1:Int):Option (Int×List Int):=
 (lp ψp.l0 (p0,p1,0)).bind (fun (x0,x1)=>
 some (x1,x0))
def ψq.f (p0:Int×List Int) (p1:Int):Option (Int×Int×List Int):=
 (ψp.f p0.2 p1).bind fun (t1_0,t1_1)=>
 some (t1_0,(p0.1,t1_1))
def ψn.l0 (rec:(List (QE)×Int×Int)→Option (List (QE)×Int)):(List (QE)×Int×Int)→Option (List (QE)×Int):=fun (x0,x1,x5)=>
 bif decide (x5<(x0.length:Int)) then
 (ψv.f x1).bind fun t1=>
 bif inB x5 x0.length then
 let l2:=x0.set x5.toNat (t1,(rdA ([],0,0,0,0) x0 x5).2)
 bif inB x5 l2.length then
 let l3:=l2.set x5.toNat ((rdA ([],0,0,0,0) l2 x5).1,w64 (x1+1),((rdA ([],0,0,0,0) l2 x5).2).2)
 let y4:=w64 ((w64 (x1+1))+1)
 bif inB x5 l3.length then
 let l5:=l3.set x5.toNat ((rdA ([],0,0,0,0) l3 x5).1,((rdA ([],0,0,0,0) l3 x5).2).1,y4,(((rdA ([],0,0,0,0) l3 x5).2).2).2)
 bif inB x5 l5.length then
 let l6:=l5.set x5.toNat ((rdA ([],0,0,0,0) l5 x5).1,((rdA ([],0,0,0,0) l5 x5).2).1,(((rdA ([],0,0,0,0) l5 x5).2).2).1,w64 (y4+1),((((rdA ([],0,0,0,0) l5 x5).2).2).2).2)
 let y7:=w64 ((w64 (y4+1))+1)
 bif inB x5 l6.length then
 let l8:=l6.set x5.toNat ((rdA ([],0,0,0,0) l6 x5).1,((rdA ([],0,0,0,0) l6 x5).2).1,(((rdA ([],0,0,0,0) l6 x5).2).2).1,((((rdA ([],0,0,0,0) l6 x5).2).2).2).1,y7)
 rec (l8,w64 (y7+1),w64 (x5+1))
 else none
 else none
 else none
 else none
 else none
 else
 some (x0,x1)
def ψn.f (p0:List (QE)) (p1:Int):Option (Int×List (QE)):=
 (lp ψn.l0 (p0,p1,0)).bind (fun (x0,x1)=>
 some (x1,x0))
def ψu.f (p0:QS) (p1:Int):Option (Int×QS):=
 (ψq.f p0.1 p1).bind fun (t1_0,t1_1)=>
 (ψn.f p0.2.1 t1_0).bind fun (t2_0,t2_1)=>
 some (t2_0,((p0.1.1,t1_1.2),t2_1,p0.2.2))
def ψ1V.l0 (rec:((QS)×(QD)×List (QF)×Int)→Option ((List (QF)) ⊕ (List (QF)×Int))):((QS)×(QD)×List (QF)×Int)→Option ((List (QF)) ⊕ (List (QF)×Int)):=fun (x2,x3,x6,x7)=>
 bif decide (x7<(x2.2.1.length:Int)) then
 bif inB x7 x2.2.1.length then
 (ψ1a.f x2 x3 ((rdA ([],0,0,0,0) x2.2.1 x7).1)).bind fun (t1_0,t1_1)=>
 bif t1_1 != 0 then
 some (Sum.inr (([]:List (QF)),t1_1))
 else
 bif decide ((x6.length+[t1_0].length) * 40≤140737488355328) then
 rec (x2,x3,x6++[t1_0],w64 (x7+1))
 else none
 else none
 else
 some (Sum.inl x6)
def ψ1V.f (p0:QS) (p1:QD):Option (List (QF)×Int):=
 (lp ψ1V.l0 (p0,p1,([]:List (QF)),0)).bind (fun o2=>φG o2 (fun x6=>
 some (x6,0)) (fun (x4,x5)=>
 some (x4,x5)))
def ψw.l0 (rec:(List (QT)×Int×Int)→Option (List (QT)×Int)):(List (QT)×Int×Int)→Option (List (QT)×Int):=fun (x0,x1,x5)=>
 bif decide (x5<(x0.length:Int)) then
 bif inB x5 x0.length then
 let l1:=x0.set x5.toNat ((Int.tmod x1 3)==0,(rdA (false,[],[]) x0 x5).2)
 bif inB x5 l1.length then
 (ψt.f (((rdA (false,[],[]) l1 x5).2).1) (w64 (x1+1))).bind fun (t2_0,t2_1)=>
 let l3:=l1.set x5.toNat ((rdA (false,[],[]) l1 x5).1,t2_1,((rdA (false,[],[]) l1 x5).2).2)
 bif inB x5 l3.length then
 (ψs.f (((rdA (false,[],[]) l3 x5).2).2) t2_0).bind fun (t4_0,t4_1)=>
 let l5:=l3.set x5.toNat ((rdA (false,[],[]) l3 x5).1,((rdA (false,[],[]) l3 x5).2).1,t4_1)
 rec (l5,t4_0,w64 (x5+1))
 else none
 else none
 else none
 else
 some (x0,x1)
def ψw.f (p0:List (QT)) (p1:Int):Option (Int×List (QT)):=
 (lp ψw.l0 (p0,p1,0)).bind (fun (x0,x1)=>
 some (x1,x0))
def ψ1B.l0 (rec:(List (QT)×Int×Int)→Option ((Int) ⊕ (Int))):(List (QT)×Int×Int)→Option ((Int) ⊕ (Int)):=fun (x0,x1,x5)=>
 bif decide (x5<(x0.length:Int)) then
 bif inB x5 x0.length then
 (ψ1A.f ((rdA (false,[],[]) x0 x5).1,((rdA (false,[],[]) x0 x5).2)) x1).bind fun t2=>
 bif decide (t2<0) then
 some (Sum.inr (-1))
 else
 rec (x0,t2,w64 (x5+1))
 else none
 else
 some (Sum.inl x1)
def ψ1B.f (p0:List (QT)) (p1:Int):Option (Int):=
 let y1:=w64 (p1 - (p0.length:Int))
 bif decide (y1<0) then
 some (-1)
 else
 (lp ψ1B.l0 (p0,y1,0)).bind (fun o3=>φG o3 (fun x1=>
 some x1) (fun x4=>
 some x4))
def ψy.f (p0:QN) (p1:Int):Option (Int):=
 (ψ19.f p0.2.1 p1).bind fun t1=>
 bif decide (t1<0) then
 some (-1)
 else
 (ψx.f p0.2.2.1 t1).bind fun t2=>
 bif decide (t2<0) then
 some (-1)
 else
 (ψ1B.f p0.2.2.2 t2).bind fun t3=>
 bif decide (t3<0) then
 some (-1)
 else
 some t3
def ψ1W.f (p0:QN):Option (List (QF)×Int):=
 bif !p0.1 then
 some (([]:List (QF)),6)
 else
 (ψ1V.f p0.2.1 p0.2.2.1).bind fun (t1_0,t1_1)=>
 some (t1_0,t1_1)
def ψ1Q.l0 (rec:(List (QT)×List (QT)×Int)→Option (List (QT))):(List (QT)×List (QT)×Int)→Option (List (QT)):=fun (x0,x3,x4)=>
 bif decide (x4<(x0.length:Int)) then
 bif inB x4 x0.length then
 (ψ1P.f ((rdA (false,[],[]) x0 x4).1,((rdA (false,[],[]) x0 x4).2))).bind fun t2=>
 bif inB x4 x3.length then
 let l3:=x3.set x4.toNat t2
 rec (x0,l3,w64 (x4+1))
 else none
 else none
 else
 some x3
def ψ1Q.f (p0:List (QT)):Option (List (QT)):=
 bif ((p0.length:Int)==(p0.length:Int)) then
 bif (decide (0≤(p0.length:Int)) && decide (56 * (p0.length:Int)≤140737488355328)) then
 let l1:=κI (p0.length:Int).toNat (false,[],[])
 (lp ψ1Q.l0 (p0,l1,0)).bind (fun x3=>
 some x3)
 else none
 else none
def ψ1D.f (p0:QN):Option (QN):=
 (ψ1O.f p0.2.1).bind fun t1=>
 (ψ1C.f p0.2.2.1).bind fun t2=>
 (ψ1Q.f p0.2.2.2).bind fun t3=>
 some (p0.1,t1,t2,t3)
def ψU.f (p0:QN) (p1:QN):Option (Bool):=
 bif !(p0.1==p1.1) then
 some false
 else
 (ψh.f p0.2.1 p1.2.1).bind fun t1=>
 bif !t1 then
 some false
 else
 (ψT.f p0.2.2.1 p1.2.2.1).bind fun t2=>
 bif !t2 then
 some false
 else
 (ψj.f p0.2.2.2 p1.2.2.2).bind fun t3=>
 bif !t3 then
 some false
 else
 some true
def ψm.f (p0:QN) (p1:Int):Option (Int×QN):=
 (ψu.f p0.2.1 p1).bind fun (t1_0,t1_1)=>
 (ψl.f p0.2.2.1 t1_0).bind fun (t2_0,t2_1)=>
 (ψw.f p0.2.2.2 t2_0).bind fun (t3_0,t3_1)=>
 some (t3_0,(p0.1,((p0.2.1.1.1,t1_1.1.2),t1_1.2.1,p0.2.1.2.2),(t2_1.1,p0.2.2.1.2),t3_1))
def ψS.f (p0:QN):Option (Bool):=
 (ψy.f p0 1048576).bind fun t1=>
 bif decide (t1<0) then
 some true
 else
 (ψ1D.f p0).bind fun t2=>
 (ψ1W.f t2).bind fun (t3_0,t3_1)=>
 (ψ1D.f p0).bind fun t4=>
 (ψ6.f t4).bind fun (t5_0,t5_1)=>
 (ψc.f t5_0 t3_0).bind fun t6=>
 bif !t6 then
 some false
 else
 bif t5_1 != t3_1 then
 some false
 else
 (ψ1D.f p0).bind fun t7=>
 (ψU.f t4 t7).bind fun t8=>
 bif !t8 then
 some false
 else
 (ψm.f t4 1).bind fun (t9_0,t9_1)=>
 bif decide (t9_0<0) then
 some false
 else
 (ψc.f t5_0 t3_0).bind fun t10=>
 bif !t10 then
 some false
 else
 bif t5_1 != t3_1 then
 some false
 else
 (ψr.f t5_0 1).bind fun (t11_0,t11_1)=>
 (ψk.f t11_1 1).bind fun t12=>
 bif decide (t12<0) then
 some false
 else
 bif t12 != t11_0 then
 some false
 else
 (ψ1D.f p0).bind fun t13=>
 (ψ6.f t13).bind fun (t14_0,t14_1)=>
 (ψc.f t14_0 t3_0).bind fun t15=>
 bif !t15 then
 some false
 else
 bif t14_1 != t3_1 then
 some false
 else
 (ψk.f t11_1 1).bind fun t16=>
 bif decide (t16<0) then
 some false
 else
 bif t16 != t11_0 then
 some false
 else
 some true
end
end Go.Rf.G
