import Derived.Test.YtaijadchooalpaaRf5
open Option renaming bind_some→bS
open List renaming length_append→lA,append_assoc→aA,mem_cons_of_mem→mC,mem_append→mA,mem_append_right→mR,mem_append_left→mL,mem_cons→mc,drop_eq_getElem_cons→dG,length_take→lT,length_drop→lD,mem_map→mM,length_map→lM,length_cons→lC,length_nil→lN,getElem_mem→gM,map_append→mp,mem_singleton→mZ,take_succ_eq_append_getElem→κ0,nodup_append→κ2,mem_cons_self→κ3,append_nil→κ5,flatMap_append→κ8,replicate→κA,take_length→κB,nodup_cons→κC,range'→κE,cons_append→κG,map_cons→κH,take_append_drop→κJ
open Bool renaming and_eq_true→bA,eq_false_or_eq_true→bE,not_true→nZ,not_false→nF,true_and→tA,not_not→nn,or_eq_false_iff→κ6,not_eq_true'→κF,false_eq_true→κI
open Int renaming toNat_natCast→tN,ofNat_lt→oL
open Nat renaming eq_of_beq_eq_true→κ1,lt_or_ge→κ4,lt_of_lt_of_le→κ7,le_of_ble_eq_true→κ9,le_refl→κD,zero_le→κL
open Array renaming length_toList→κK
set_option linter.unusedVariables false
set_option linter.unusedSimpArgs false
namespace Go.Rf.G
noncomputable section
open Go Go.Rf
abbrev QS:=(Int×List Int)×List (List UInt8×Int×Int×Int×Int)×Int×Int×Int
abbrev QD:=List (List UInt8×List UInt8×Int)×Int×Int×Bool
abbrev QR:=Int×Int×List UInt8×List UInt8×Int×Int
abbrev QE:=List UInt8×Int×Int×Int×Int
abbrev QP:=List UInt8×Bool×List UInt8
abbrev QF:=List UInt8×List UInt8×Int
abbrev QB:=List UInt8
abbrev QT:=Bool×List (QB×Int)×List (QP)
abbrev QL:=List (Int×Int×Int×QR)
abbrev QN:=Bool×(QS)×(QD)×List (QT)
abbrev QC:=List Int×Int×Int
abbrev QA:=Int×QB×List (QB)
def ψ1K.f (p0:Int) (p1:Int) (p2:Int):Option (Bool):=
 bif decide (p0≥p1) then
 let y1:=decide (p0≤p2)
 some y1
 else
 some false
def ψJ.f (p0:Int) (p1:Int) (p2:Int):Option (Bool):=
 bif decide (p0≥p1) then
 let y1:=decide (p0≤p2)
 some y1
 else
 some false
def ψ3.f (p0:QB):Option (Bool):=
 (ψJ.f (p0.length:Int) 1 8).bind fun t1=>
 some t1
def ψG.f (p0:List (QP)):Option (List (QP)):=
 bif decide ((([]:List (QP)).length+p0.length) * 40≤140737488355328) then
 let l1:=([]:List (QP))++p0
 some l1
 else none
def ψH.f (p0:QT):Option (QT):=
 bif decide ((([]:List (QB×Int)).length+p0.2.1.length) * 24≤140737488355328) then
 let l1:=([]:List (QB×Int))++p0.2.1
 (ψG.f p0.2.2).bind fun t2=>
 some (p0.1,l1,t2)
 else none
def ψ1.l0 (rec:(List (QB)×List (QE)×Int×Int)→Option (List (QB))):(List (QB)×List (QE)×Int×Int)→Option (List (QB)):=fun (x3,x6,x7,x8)=>
 bif decide (x8<x7) then
 bif inB x8 x6.length then
 let y1:=(rdA ([],0,0,0,0) x6 x8).1
 let y2:=((rdA ([],0,0,0,0) x6 x8).2).1
 let y3:=(((rdA ([],0,0,0,0) x6 x8).2).2).1
 let y4:=((((rdA ([],0,0,0,0) x6 x8).2).2).2).1
 let y5:=((((rdA ([],0,0,0,0) x6 x8).2).2).2).2
 bif decide ((x3.length+[y1].length) * 16≤140737488355328) then
 rec (x3++[y1],x6,x7,w64 (x8+1))
 else none
 else none
 else
 some x3
def ψ1.f (p0:List (QE)):Option (List (QB)):=
 (lp ψ1.l0 ([],p0,(p0.length:Int),0)).bind (fun x3=>
 some x3)
def ψ0.l0 (rec:(QB×(QE)×List (QE)×Int×Int)→Option ((QE) ⊕ ((QE)×Bool))):(QB×(QE)×List (QE)×Int×Int)→Option ((QE) ⊕ ((QE)×Bool)):=fun (x1,x4,x8,x9,x10)=>
 bif decide (x10<x9) then
 bif inB x10 x8.length then
 let y1:=(rdA ([],0,0,0,0) x8 x10).1
 let y2:=((rdA ([],0,0,0,0) x8 x10).2).1
 let y3:=(((rdA ([],0,0,0,0) x8 x10).2).2).1
 let y4:=((((rdA ([],0,0,0,0) x8 x10).2).2).2).1
 let y5:=((((rdA ([],0,0,0,0) x8 x10).2).2).2).2
 bif y1==x1 then
 some (Sum.inr ((y1,y2,y3,y4,y5),true))
 else
 rec (x1,x4,x8,x9,w64 (x10+1))
 else none
 else
 some (Sum.inl x4)
def ψ0.f (p0:List (QE)) (p1:QB):Option ((QE)×Bool):=
 (lp ψ0.l0 (p1,([],0,0,0,0),p0,(p0.length:Int),0)).bind (fun o6=>φD o6 (fun x4=>
 some (([],0,0,0,0),false)) (fun (x4,x5)=>
 some (x4,x5)))
def ψK.l2 (rec:(List (QP)×(QP)×Int×List (QP)×Int×Int×Int×Int)→Option (List (QP)×(QP)×Int×List (QP)×Int×Int)):(List (QP)×(QP)×Int×List (QP)×Int×Int×Int×Int)→Option (List (QP)×(QP)×Int×List (QP)×Int×Int):=fun (x3,x5,x6,x9,x10,x11,x16,x17)=>
 bif decide (x17<x16) then
 bif inB x17 x3.length then
 let y4:=(rdA ([],false,[]) x3 x17).1
 let y5:=((rdA ([],false,[]) x3 x17).2).1
 let y6:=((rdA ([],false,[]) x3 x17).2).2
 (bif y4==x5.1 then
 some (x3,x5,x17,x9,x10,x11,x16,x17)
 else
 some (x3,x5,x6,x9,x10,x11,x16,x17):Option (List (QP)×(QP)×Int×List (QP)×Int×Int×Int×Int)).bind (fun (x3,x5,x6,x9,x10,x11,x16,x17)=>
 rec (x3,x5,x6,x9,x10,x11,x16,w64 (x17+1)))
 else none
 else
 some (x3,x5,x6,x9,x10,x11)
def ψK.l0 (rec:(List (QP)×List (QP)×Int×Int)→Option (List (QP))):(List (QP)×List (QP)×Int×Int)→Option (List (QP)):=fun (x3,x9,x10,x11)=>
 bif decide (x11<x10) then
 bif inB x11 x9.length then
 let y1:=(rdA ([],false,[]) x9 x11).1
 let y2:=((rdA ([],false,[]) x9 x11).2).1
 let y3:=((rdA ([],false,[]) x9 x11).2).2
 (lp ψK.l2 (x3,(y1,y2,y3),(-1),x9,x10,x11,(x3.length:Int),0)).bind (fun (x3,x5,x6,x9,x10,x11)=>
 (bif decide (x6≥0) then
 bif inB x6 x3.length then
 let l7:=x3.set x6.toNat x5
 some (l7,x9,x10,x11)
 else none
 else
 bif decide ((x3.length+[x5].length) * 40≤140737488355328) then
 some (x3++[x5],x9,x10,x11)
 else none:Option (List (QP)×List (QP)×Int×Int)).bind (fun (x3,x9,x10,x11)=>
 rec (x3,x9,x10,w64 (x11+1))))
 else none
 else
 some x3
def ψK.f (p0:List (QP)):Option (List (QP)):=
 (lp ψK.l0 ([],p0,(p0.length:Int),0)).bind (fun x3=>
 some x3)
def ψA.f (p0:QT):Option (List (QP)):=
 (ψK.f p0.2.2).bind fun t1=>
 some t1
def ψP.f (p0:List (QT)) (p1:Int×Int×QF):Option (Bool):=
 (ψJ.f p1.1 1 6).bind fun t1=>
 bif t1 then
 (ψJ.f p1.2.1 0 (w64 ((p0.length:Int) - 1))).bind fun t2=>
 bif t2 then
 bif inB p1.2.1 p0.length then
 let y3:=((rdA (false,[],[]) p0 p1.2.1).1)==(p1.1 != 1)
 some y3
 else none
 else
 some false
 else
 some false
def ψB.l0 (rec:(QB×(QT)×(QP)×Int)→Option ((QP) ⊕ ((QP)×Bool))):(QB×(QT)×(QP)×Int)→Option ((QP) ⊕ ((QP)×Bool)):=fun (x1,x2,x4,x6)=>
 bif decide (x6≥0) then
 bif inB x6 x2.2.2.length then
 bif ((rdA ([],false,[]) x2.2.2 x6).1)==x1 then
 bif inB x6 x2.2.2.length then
 let y2:=(rdA ([],false,[]) x2.2.2 x6).1
 let y3:=((rdA ([],false,[]) x2.2.2 x6).2).1
 let y4:=((rdA ([],false,[]) x2.2.2 x6).2).2
 some (Sum.inr ((y2,y3,y4),true))
 else none
 else
 rec (x1,x2,x4,w64 (x6 - 1))
 else none
 else
 some (Sum.inl x4)
def ψB.f (p0:QT) (p1:QB):Option ((QP)×Bool):=
 let y1:=w64 ((p0.2.2.length:Int) - 1)
 (lp ψB.l0 (p1,p0,([],false,[]),y1)).bind (fun o5=>φD o5 (fun x4=>
 some (([],false,[]),false)) (fun (x4,x5)=>
 some (x4,x5)))
def ψL.f (p0:QT) (p1:QB):Option ((QA)×Bool):=
 (ψB.f p0 p1).bind fun (t1_0,t1_1)=>
 bif !t1_1 then
 some ((0,[],[]),false)
 else
 bif t1_0.2.1 then
 some ((8,[],[]),true)
 else
 some ((0,t1_0.2.2,[]),true)
def ψC.l0 (rec:(QB×Int×(QT)×(QT)×(QT)×Bool×List (QB×Int)×Int×Int)→Option ((QB×Int×(QT)×(QT)×(QT)×Bool) ⊕ ((QT)×Int))):(QB×Int×(QT)×(QT)×(QT)×Bool×List (QB×Int)×Int×Int)→Option ((QB×Int×(QT)×(QT)×(QT)×Bool) ⊕ ((QT)×Int)):=fun (x1,x2,x3,x6,x8,x9,x24,x25,x26)=>
 bif decide (x26<x25) then
 (bif inB x26 x24.length then
 let y3:=(rdA ([],0) x24 x26).1
 let y4:=(rdA ([],0) x24 x26).2
 bif !(y3==x1) then
 some (Sum.inl (x1,x2,x3,x6,x8,x9,x24,x25,x26))
 else
 bif y4 != x2 then
 some (Sum.inr (x8,7))
 else
 some (Sum.inl (x1,x2,x3,x6,x8,true,x24,x25,x26))
 else none:Option ((QB×Int×(QT)×(QT)×(QT)×Bool×List (QB×Int)×Int×Int) ⊕ ((QT)×Int))).bind (fun o5=>φD o5 (fun (x1,x2,x3,x6,x8,x9,x24,x25,x26)=>
 rec (x1,x2,x3,x6,x8,x9,x24,x25,w64 (x26+1))) (fun (x6,x7)=>
 some (Sum.inr (x6,x7))))
 else
 some (Sum.inl (x1,x2,x3,x6,x8,x9))
def ψC.f (p0:QT) (p1:QB) (p2:Int):Option ((QT)×Int):=
 (ψH.f p0).bind fun t1=>
 bif !p0.1 then
 some (t1,4)
 else
 (ψ3.f p1).bind fun t2=>
 bif !t2 then
 some (t1,4)
 else
 (lp ψC.l0 (p1,p2,p0,(false,[],[]),t1,false,p0.2.1,(p0.2.1.length:Int),0)).bind (fun o6=>φD o6 (fun (x1,x2,x3,x6,x8,x9)=>
 bif x9 then
 some (x8,0)
 else
 bif decide ((x3.2.1.length:Int)≥20) then
 some (x8,5)
 else
 bif decide ((x8.2.1.length+[(x1,x2)].length) * 24≤140737488355328) then
 let l7:=x8.2.1++[(x1,x2)]
 some ((x8.1,l7,x8.2.2),0)
 else none) (fun (x6,x7)=>
 some (x6,x7)))
def ψO.f (p0:QT) (p1:QB) (p2:QF) (p3:Int):Option ((QT)×QA):=
 (ψC.f p0 p1 p2.2.2).bind fun (t1_0,t1_1)=>
 bif t1_1 != 0 then
 some (t1_0,(t1_1,[],[]))
 else
 some (t1_0,(p3,p2.2.1,[]))
def ψN.f (p0:QP):Option (Bool):=
 (ψ3.f p0.1).bind fun t1=>
 bif t1 then
 bif decide ((p0.2.2.length:Int)≤24) then
 bif !p0.2.1 then
 some true
 else
 some (p0.2.2==[])
 else
 some false
 else
 some false
def ψD.f (p0:QT) (p1:QP):Option ((QT)×Bool):=
 (ψH.f p0).bind fun t1=>
 bif decide ((t1.2.2.length+[p1].length) * 40≤140737488355328) then
 let l2:=t1.2.2++[p1]
 bif !p0.1 then
 (ψH.f p0).bind fun t3=>
 some (t3,false)
 else
 (ψN.f p1).bind fun t4=>
 bif !t4 then
 (ψH.f p0).bind fun t5=>
 some (t5,false)
 else
 (ψA.f (t1.1,t1.2.1,l2)).bind fun t6=>
 bif decide ((t6.length:Int) > 8) then
 (ψH.f p0).bind fun t7=>
 some (t7,false)
 else
 bif decide ((l2.length:Int) > 50) then
 (ψH.f p0).bind fun t8=>
 some (t8,false)
 else
 some ((t1.1,t1.2.1,l2),true)
 else none
def ψR.f (p0:QT) (p1:Int×Int×QF):Option ((QT)×QA):=
 (ψD.f p0 (p1.2.2.1,p1.1==4,p1.2.2.2.1)).bind fun (t1_0,t1_1)=>
 (ψN.f (p1.2.2.1,p1.1==4,p1.2.2.2.1)).bind fun t2=>
 bif !t2 then
 some (t1_0,(4,[],[]))
 else
 bif !t1_1 then
 some (t1_0,(5,[],[]))
 else
 some (t1_0,(0,[],[]))
def ψE.l0 (rec:(List (QE)×List (QB×Int)×Int×Int)→Option ((Unit) ⊕ (Bool))):(List (QE)×List (QB×Int)×Int×Int)→Option ((Unit) ⊕ (Bool)):=fun (x1,x10,x11,x12)=>
 bif decide (x12<x11) then
 bif inB x12 x10.length then
 let y1:=(rdA ([],0) x10 x12).1
 let y2:=(rdA ([],0) x10 x12).2
 (ψ0.f x1 y1).bind fun (t3_0,t3_1)=>
 bif t3_0.2.2.2.2 != y2 then
 some (Sum.inr false)
 else
 rec (x1,x10,x11,w64 (x12+1))
 else none
 else
 some (Sum.inl ())
def ψE.f (p0:QT) (p1:List (QE)):Option (Bool):=
 (lp ψE.l0 (p1,p0.2.1,(p0.2.1.length:Int),0)).bind (fun o4=>φD o4 (fun _=>
 some true) (fun x4=>
 some x4))
def ψ14.f (p0:QB):Option (Bool):=
 (ψ1K.f (p0.length:Int) 1 8).bind fun t1=>
 some t1
def ψ15.f:Option (Bool×List (QF)×Int×List (QT)):=
 let l1:=κA 3 (false,[],[])
 some (true,[],1,l1)
def ψ1F.f (p0:QT):Option (QT):=
 bif decide ((([]:List (QB×Int)).length+p0.2.1.length) * 24≤140737488355328) then
 let l1:=([]:List (QB×Int))++p0.2.1
 bif decide ((([]:List (QP)).length+p0.2.2.length) * 40≤140737488355328) then
 let l2:=([]:List (QP))++p0.2.2
 some (p0.1,l1,l2)
 else none
 else none
def ψ12.l0 (rec:(List (QE)×List (QB)×Int)→Option (List (QB))):(List (QE)×List (QB)×Int)→Option (List (QB)):=fun (x0,x3,x4)=>
 bif decide (x4<(x0.length:Int)) then
 bif inB x4 x0.length then
 bif decide ((x3.length+([(rdA ([],0,0,0,0) x0 x4).1]:List (QB)).length) * 16≤140737488355328) then
 let l1:=x3++([(rdA ([],0,0,0,0) x0 x4).1]:List (QB))
 rec (x0,l1,w64 (x4+1))
 else none
 else none
 else
 some x3
def ψ12.f (p0:List (QE)):Option (List (QB)):=
 (lp ψ12.l0 (p0,[],0)).bind (fun x3=>
 some x3)
def ψ1H.l0 (rec:(List (QF)×List (QE)×Int)→Option (List (QE))):(List (QF)×List (QE)×Int)→Option (List (QE)):=fun (x0,x3,x4)=>
 bif decide (x4<(x0.length:Int)) then
 bif inB x4 x0.length then
 bif inB x4 x0.length then
 bif decide ((x3.length+([((rdA ([],[],0) x0 x4).1,0,0,0,((rdA ([],[],0) x0 x4).2).2)]:List (QE)).length) * 48≤140737488355328) then
 let l1:=x3++([((rdA ([],[],0) x0 x4).1,0,0,0,((rdA ([],[],0) x0 x4).2).2)]:List (QE))
 rec (x0,l1,w64 (x4+1))
 else none
 else none
 else none
 else
 some x3
def ψ1H.f (p0:List (QF)):Option (List (QE)):=
 (lp ψ1H.l0 (p0,([]:List (QE)),0)).bind (fun x3=>
 some x3)
def ψ11.l0 (rec:(List (QE)×QB×(QE)×Int)→Option ((QE) ⊕ ((QE)×Bool))):(List (QE)×QB×(QE)×Int)→Option ((QE) ⊕ ((QE)×Bool)):=fun (x0,x1,x4,x6)=>
 bif decide (x6<(x0.length:Int)) then
 bif inB x6 x0.length then
 bif ((rdA ([],0,0,0,0) x0 x6).1)==x1 then
 bif inB x6 x0.length then
 let y1:=(rdA ([],0,0,0,0) x0 x6).1
 let y2:=((rdA ([],0,0,0,0) x0 x6).2).1
 let y3:=(((rdA ([],0,0,0,0) x0 x6).2).2).1
 let y4:=((((rdA ([],0,0,0,0) x0 x6).2).2).2).1
 let y5:=((((rdA ([],0,0,0,0) x0 x6).2).2).2).2
 some (Sum.inr ((y1,y2,y3,y4,y5),true))
 else none
 else
 rec (x0,x1,x4,w64 (x6+1))
 else none
 else
 some (Sum.inl x4)
def ψ11.f (p0:List (QE)) (p1:QB):Option ((QE)×Bool):=
 (lp ψ11.l0 (p0,p1,([],0,0,0,0),0)).bind (fun o6=>φD o6 (fun x4=>
 some (([],0,0,0,0),false)) (fun (x4,x5)=>
 some (x4,x5)))
def ψ1D.l0 (rec:(List (QE)×(QT)×Int)→Option ((Unit) ⊕ (Bool))):(List (QE)×(QT)×Int)→Option ((Unit) ⊕ (Bool)):=fun (x1,x2,x5)=>
 bif decide (x5<(x2.2.1.length:Int)) then
 bif inB x5 x2.2.1.length then
 (ψ11.f x1 ((rdA ([],0) x2.2.1 x5).1)).bind fun (t1_0,t1_1)=>
 bif inB x5 x2.2.1.length then
 bif t1_0.2.2.2.2 != ((rdA ([],0) x2.2.1 x5).2) then
 some (Sum.inr false)
 else
 rec (x1,x2,w64 (x5+1))
 else none
 else none
 else
 some (Sum.inl ())
def ψ1D.f (p0:QT) (p1:List (QE)):Option (Bool):=
 (lp ψ1D.l0 (p1,p0,0)).bind (fun o2=>φD o2 (fun _=>
 some true) (fun x4=>
 some x4))
def ψ19.l0 (rec:(QB×(QT)×(QP)×Int)→Option ((QP) ⊕ ((QP)×Bool))):(QB×(QT)×(QP)×Int)→Option ((QP) ⊕ ((QP)×Bool)):=fun (x1,x2,x4,x6)=>
 bif decide (x6≥0) then
 bif inB x6 x2.2.2.length then
 bif ((rdA ([],false,[]) x2.2.2 x6).1)==x1 then
 bif inB x6 x2.2.2.length then
 let y2:=(rdA ([],false,[]) x2.2.2 x6).1
 let y3:=((rdA ([],false,[]) x2.2.2 x6).2).1
 let y4:=((rdA ([],false,[]) x2.2.2 x6).2).2
 some (Sum.inr ((y2,y3,y4),true))
 else none
 else
 rec (x1,x2,x4,w64 (x6 - 1))
 else none
 else
 some (Sum.inl x4)
def ψ19.f (p0:QT) (p1:QB):Option ((QP)×Bool):=
 let y1:=w64 ((p0.2.2.length:Int) - 1)
 (lp ψ19.l0 (p1,p0,([],false,[]),y1)).bind (fun o5=>φD o5 (fun x4=>
 some (([],false,[]),false)) (fun (x4,x5)=>
 some (x4,x5)))
def ψ18.l2 (rec:((QT)×List (QP)×Int×Bool×Int)→Option ((QT)×List (QP)×Int×Bool)):((QT)×List (QP)×Int×Bool×Int)→Option ((QT)×List (QP)×Int×Bool):=fun (x1,x3,x4,x5,x6)=>
 bif decide (x6<x4) then
 (bif x5 then
 bif inB x6 x1.2.2.length then
 bif inB x4 x1.2.2.length then
 let y1:=!(((rdA ([],false,[]) x1.2.2 x6).1)==((rdA ([],false,[]) x1.2.2 x4).1))
 some (x1,x3,x4,y1,x6)
 else none
 else none
 else
 some (x1,x3,x4,false,x6):Option ((QT)×List (QP)×Int×Bool×Int)).bind (fun (x1,x3,x4,x5,x6)=>
 rec (x1,x3,x4,x5,w64 (x6+1)))
 else
 some (x1,x3,x4,x5)
def ψ18.l0 (rec:((QT)×List (QP)×Int)→Option (List (QP))):((QT)×List (QP)×Int)→Option (List (QP)):=fun (x1,x3,x4)=>
 bif decide (x4<(x1.2.2.length:Int)) then
 (lp ψ18.l2 (x1,x3,x4,true,0)).bind (fun (x1,x3,x4,x5)=>
 (bif x5 then
 bif inB x4 x1.2.2.length then
 (ψ19.f x1 ((rdA ([],false,[]) x1.2.2 x4).1)).bind fun (t2_0,t2_1)=>
 bif decide ((x3.length+[t2_0].length) * 40≤140737488355328) then
 some (x1,x3++[t2_0],x4)
 else none
 else none
 else
 some (x1,x3,x4):Option ((QT)×List (QP)×Int)).bind (fun (x1,x3,x4)=>
 rec (x1,x3,w64 (x4+1))))
 else
 some x3
def ψ18.f (p0:QT):Option (List (QP)):=
 (lp ψ18.l0 (p0,([]:List (QP)),0)).bind (fun x3=>
 some x3)
def ψ1E.l0 (rec:(List (QF)×(QF)×List (QF)×Bool×Int)→Option ((QF)×List (QF)×Bool)):(List (QF)×(QF)×List (QF)×Bool×Int)→Option ((QF)×List (QF)×Bool):=fun (x0,x4,x7,x8,x9)=>
 bif decide (x9<(x0.length:Int)) then
 (bif inB x9 x0.length then
 bif ((rdA ([],[],0) x0 x9).1)==x4.1 then
 some (x0,x4,x7,x8,x9)
 else
 (bif !x8 then
 bif inB x9 x0.length then
 bif !(Op.bytesLess ((rdA ([],[],0) x0 x9).1) x4.1 || ((rdA ([],[],0) x0 x9).1)==x4.1) then
 bif decide ((x7.length+[x4].length) * 40≤140737488355328) then
 some (x0,x4,x7++[x4],true,x9)
 else none
 else
 some (x0,x4,x7,x8,x9)
 else none
 else
 some (x0,x4,x7,x8,x9):Option (List (QF)×(QF)×List (QF)×Bool×Int)).bind (fun (x0,x4,x7,x8,x9)=>
 bif inB x9 x0.length then
 bif decide ((x7.length+([((rdA ([],[],0) x0 x9).1,((rdA ([],[],0) x0 x9).2))]:List (QF)).length) * 40≤140737488355328) then
 let l1:=x7++([((rdA ([],[],0) x0 x9).1,((rdA ([],[],0) x0 x9).2))]:List (QF))
 some (x0,x4,l1,x8,x9)
 else none
 else none)
 else none:Option (List (QF)×(QF)×List (QF)×Bool×Int)).bind (fun (x0,x4,x7,x8,x9)=>
 rec (x0,x4,x7,x8,w64 (x9+1)))
 else
 some (x4,x7,x8)
def ψ1E.f (p0:List (QF)) (p1:QF) (p2:Bool):Option (List (QF)):=
 (lp ψ1E.l0 (p0,p1,([]:List (QF)),p2,0)).bind (fun (x4,x7,x8)=>
 bif !x8 then
 bif decide ((x7.length+[x4].length) * 40≤140737488355328) then
 some (x7++[x4])
 else none
 else
 some x7)
def ψ13.l0 (rec:(List (QP)×Int×List (QF)×Int)→Option (List (QF))):(List (QP)×Int×List (QF)×Int)→Option (List (QF)):=fun (x1,x2,x7,x8)=>
 bif decide (x8<(x1.length:Int)) then
 bif inB x8 x1.length then
 bif inB x8 x1.length then
 bif inB x8 x1.length then
 (ψ1E.f x7 ((rdA ([],false,[]) x1 x8).1,((rdA ([],false,[]) x1 x8).2).2,x2) (((rdA ([],false,[]) x1 x8).2).1)).bind fun t2=>
 rec (x1,x2,t2,w64 (x8+1))
 else none
 else none
 else none
 else
 some x7
def ψ13.f (p0:List (QF)) (p1:List (QP)) (p2:Int):Option (List (QF)):=
 bif decide ((([]:List (QF)).length+p0.length) * 40≤140737488355328) then
 let l1:=([]:List (QF))++p0
 (lp ψ13.l0 (p1,p2,l1,0)).bind (fun x7=>
 some x7)
 else none
def ψ1G.f (p0:Bool×List (QF)×Int×List (QT)) (p1:QT):Option ((Bool×List (QF)×Int×List (QT))×QA):=
 (ψ1H.f p0.2.1).bind fun t1=>
 (ψ1D.f p1 t1).bind fun t2=>
 bif !t2 then
 some (p0,(7,[],[]))
 else
 (ψ18.f p1).bind fun t3=>
 bif (t3.length:Int)==0 then
 some (p0,(0,[],[]))
 else
 (ψ13.f p0.2.1 t3 p0.2.2.1).bind fun t4=>
 bif decide ((t4.length:Int) > 20) then
 some (p0,(5,[],[]))
 else
 bif decide (p0.2.2.1 > 1000000) then
 some (p0,(5,[],[]))
 else
 let y5:=w64 (p0.2.2.1+1)
 some ((p0.1,t4,y5,p0.2.2.2),(0,[],[]))
def ψ1I.l0 (rec:(List (QF)×QB×(QF)×Int)→Option ((QF) ⊕ ((QF)×Int))):(List (QF)×QB×(QF)×Int)→Option ((QF) ⊕ ((QF)×Int)):=fun (x0,x1,x4,x6)=>
 bif decide (x6<(x0.length:Int)) then
 bif inB x6 x0.length then
 bif ((rdA ([],[],0) x0 x6).1)==x1 then
 bif inB x6 x0.length then
 let y1:=(rdA ([],[],0) x0 x6).1
 let y2:=((rdA ([],[],0) x0 x6).2).1
 let y3:=((rdA ([],[],0) x0 x6).2).2
 some (Sum.inr ((y1,y2,y3),0))
 else none
 else
 rec (x0,x1,x4,w64 (x6+1))
 else none
 else
 some (Sum.inl x4)
def ψ1I.f (p0:List (QF)) (p1:QB):Option ((QF)×Int):=
 (lp ψ1I.l0 (p0,p1,([],[],0),0)).bind (fun o4=>φD o4 (fun x4=>
 some (([],[],0),8)) (fun (x4,x5)=>
 some (x4,x5)))
def ψ1B.l0 (rec:(QB×Int×(QT)×(QT)×(QT)×Int)→Option ((QB×Int×(QT)×(QT)×QT) ⊕ ((QT)×Int))):(QB×Int×(QT)×(QT)×(QT)×Int)→Option ((QB×Int×(QT)×(QT)×QT) ⊕ ((QT)×Int)):=fun (x1,x2,x3,x6,x8,x9)=>
 bif decide (x9<(x3.2.1.length:Int)) then
 bif inB x9 x3.2.1.length then
 bif ((rdA ([],0) x3.2.1 x9).1)==x1 then
 bif inB x9 x3.2.1.length then
 bif ((rdA ([],0) x3.2.1 x9).2) != x2 then
 some (Sum.inr (x8,7))
 else
 some (Sum.inr (x8,0))
 else none
 else
 rec (x1,x2,x3,x6,x8,w64 (x9+1))
 else none
 else
 some (Sum.inl (x1,x2,x3,x6,x8))
def ψ1B.f (p0:QT) (p1:QB) (p2:Int):Option ((QT)×Int):=
 (ψ1F.f p0).bind fun t1=>
 bif !p0.1 then
 some (t1,4)
 else
 (ψ14.f p1).bind fun t2=>
 bif !t2 then
 some (t1,4)
 else
 (lp ψ1B.l0 (p1,p2,p0,(false,[],[]),t1,0)).bind (fun o3=>φD o3 (fun (x1,x2,x3,x6,x8)=>
 bif decide ((x3.2.1.length:Int)≥20) then
 some (x8,5)
 else
 bif decide ((x8.2.1.length+[(x1,x2)].length) * 24≤140737488355328) then
 let l4:=x8.2.1++[(x1,x2)]
 some ((x8.1,l4,x8.2.2),0)
 else none) (fun (x6,x7)=>
 some (x6,x7)))
def ψ1A.l0 (rec:(List (QP)×Int)→Option ((Unit) ⊕ (Bool))):(List (QP)×Int)→Option ((Unit) ⊕ (Bool)):=fun (x0,x3)=>
 bif decide (x3<(x0.length:Int)) then
 (bif inB x3 x0.length then
 (ψ14.f ((rdA ([],false,[]) x0 x3).1)).bind fun t1=>
 bif !t1 then
 some (Sum.inr false)
 else
 bif inB x3 x0.length then
 bif decide (((((rdA ([],false,[]) x0 x3).2).2).length:Int) > 24) then
 some (Sum.inr false)
 else
 bif inB x3 x0.length then
 bif ((rdA ([],false,[]) x0 x3).2).1 then
 bif inB x3 x0.length then
 bif !((((rdA ([],false,[]) x0 x3).2).2)==[]) then
 some (Sum.inr false)
 else
 some (Sum.inl (x0,x3))
 else none
 else
 some (Sum.inl (x0,x3))
 else none
 else none
 else none:Option ((List (QP)×Int) ⊕ (Bool))).bind (fun o2=>φD o2 (fun (x0,x3)=>
 rec (x0,w64 (x3+1))) (fun x2=>
 some (Sum.inr x2)))
 else
 some (Sum.inl ())
def ψ1A.f (p0:List (QP)):Option (Bool):=
 bif decide ((p0.length:Int) > 8) then
 some false
 else
 (lp ψ1A.l0 (p0,0)).bind (fun o3=>φD o3 (fun _=>
 some true) (fun x2=>
 some x2))
def ψ1C.f (p0:QT) (p1:QP):Option ((QT)×Bool):=
 (ψ1F.f p0).bind fun t1=>
 bif !p0.1 then
 some (t1,false)
 else
 (ψ1A.f [p1]).bind fun t2=>
 bif !t2 then
 some (t1,false)
 else
 bif decide ((t1.2.2.length+[p1].length) * 40≤140737488355328) then
 let l3:=t1.2.2++[p1]
 (ψ18.f (t1.1,t1.2.1,l3)).bind fun t4=>
 bif decide ((t4.length:Int) > 8) then
 (ψ1F.f p0).bind fun t5=>
 some (t5,false)
 else
 bif decide ((l3.length:Int) > 50) then
 (ψ1F.f p0).bind fun t6=>
 some (t6,false)
 else
 some ((t1.1,t1.2.1,l3),true)
 else none
def ψ1J.f (p0:Bool×List (QF)×Int×List (QT)) (p1:Int×Int×QF) (p2:QT):Option ((Bool×List (QF)×Int×List (QT))×QA):=
 (ψ14.f p1.2.2.1).bind fun t1=>
 bif !t1 then
 some (p0,(4,[],[]))
 else
 (ψ19.f p2 p1.2.2.1).bind fun (t2_0,t2_1)=>
 (bif t2_1 then
 bif t2_0.2.1 then
 some (Sum.inr (p0,(8,[],[])))
 else
 some (Sum.inl (p0,p1,p2,(false,[],0,[]),(0,[],[]),t2_0,t2_1))
 else
 some (Sum.inl (p0,p1,p2,(false,[],0,[]),(0,[],[]),t2_0,t2_1)):Option (((Bool×List (QF)×Int×List (QT))×(Int×Int×QF)×(QT)×(Bool×List (QF)×Int×List (QT))×(QA)×(QP)×Bool) ⊕ ((Bool×List (QF)×Int×List (QT))×QA))).bind (fun o3=>φD o3 (fun (x3,x4,x5,x6,x7,x8,x9)=>
 bif x9 then
 some (x3,(0,x8.2.2,[]))
 else
 (ψ1I.f x3.2.1 x4.2.2.1).bind fun (t4_0,t4_1)=>
 (ψ1B.f x5 x4.2.2.1 t4_0.2.2).bind fun (t5_0,t5_1)=>
 bif t5_1 != 0 then
 some (x3,(t5_1,[],[]))
 else
 bif inB x4.2.1 x3.2.2.2.length then
 let l6:=x3.2.2.2.set x4.2.1.toNat t5_0
 some ((x3.1,x3.2.1,x3.2.2.1,l6),(t4_1,t4_0.2.1,[]))
 else none) (fun (x6,x7)=>
 some (x6,x7)))
def ψ17.l0 (rec:((Bool×List (QF)×Int×List (QT))×(Int×Int×QF)×(Bool×List (QF)×Int×List (QT))×(QA)×(Bool×List (QF)×Int×List (QT))×Int)→Option ((Bool×List (QF)×Int×List (QT))×(Int×Int×QF)×(Bool×List (QF)×Int×List (QT))×(QA)×Bool×List (QF)×Int×List (QT))):((Bool×List (QF)×Int×List (QT))×(Int×Int×QF)×(Bool×List (QF)×Int×List (QT))×(QA)×(Bool×List (QF)×Int×List (QT))×Int)→Option ((Bool×List (QF)×Int×List (QT))×(Int×Int×QF)×(Bool×List (QF)×Int×List (QT))×(QA)×Bool×List (QF)×Int×List (QT)):=fun (x2,x3,x4,x5,x6,x7)=>
 bif decide (x7<(x2.2.2.2.length:Int)) then
 bif inB x7 x2.2.2.2.length then
 (ψ1F.f ((rdA (false,[],[]) x2.2.2.2 x7).1,((rdA (false,[],[]) x2.2.2.2 x7).2))).bind fun t2=>
 bif decide ((x6.2.2.2.length+[t2].length) * 56≤140737488355328) then
 let l3:=x6.2.2.2++[t2]
 rec (x2,x3,x4,x5,(x6.1,x6.2.1,x6.2.2.1,l3),w64 (x7+1))
 else none
 else none
 else
 some (x2,x3,x4,x5,x6)
def ψ17.f (p0:Bool×List (QF)×Int×List (QT)) (p1:Int×Int×QF):Option ((Bool×List (QF)×Int×List (QT))×QA):=
 bif decide ((([]:List (QF)).length+p0.2.1.length) * 40≤140737488355328) then
 let l1:=([]:List (QF))++p0.2.1
 (lp ψ17.l0 (p0,p1,(false,[],0,[]),(0,[],[]),(p0.1,l1,p0.2.2.1,([]:List (QT))),0)).bind (fun (x2,x3,x4,x5,x6)=>
 bif x3.1==10 then
 bif x2.1 then
 some (x6,(4,[],[]))
 else
 let l4:=κA 3 (false,[],[])
 some ((true,x6.2.1,x6.2.2.1,l4),(0,[],[]))
 else
 bif x3.1==11 then
 some (x6,(0,[],[]))
 else
 bif !x2.1 then
 some (x6,(6,[],[]))
 else
 bif x3.1==7 then
 some (x6,(0,[],[]))
 else
 bif x3.1==8 then
 (ψ1H.f x6.2.1).bind fun t5=>
 (ψ12.f t5).bind fun t6=>
 some (x6,(0,[],t6))
 else
 bif x3.1==9 then
 let l7:=κA 3 (false,[],[])
 some ((false,x6.2.1,x6.2.2.1,l7),(0,[],[]))
 else
 ((ψ1K.f x3.2.1 0 (w64 ((x2.2.2.2.length:Int) - 1))).bind fun t8=>
 bif !t8 then
 some (Sum.inr (x6,(4,[],[])))
 else
 (ψ1K.f x3.1 1 6).bind fun t9=>
 bif !t9 then
 some (Sum.inr (x6,(4,[],[])))
 else
 bif x3.1==1 then
 bif inB x3.2.1 x2.2.2.2.length then
 bif (rdA (false,[],[]) x2.2.2.2 x3.2.1).1 then
 some (Sum.inr (x6,(4,[],[])))
 else
 bif x3.1 != 1 then
 bif inB x3.2.1 x2.2.2.2.length then
 bif !((rdA (false,[],[]) x2.2.2.2 x3.2.1).1) then
 some (Sum.inr (x6,(4,[],[])))
 else
 some (Sum.inl (x3,x4,x5,x6))
 else none
 else
 some (Sum.inl (x3,x4,x5,x6))
 else none
 else
 bif x3.1 != 1 then
 bif inB x3.2.1 x2.2.2.2.length then
 bif !((rdA (false,[],[]) x2.2.2.2 x3.2.1).1) then
 some (Sum.inr (x6,(4,[],[])))
 else
 some (Sum.inl (x3,x4,x5,x6))
 else none
 else
 some (Sum.inl (x3,x4,x5,x6)):Option (((Int×Int×QF)×(Bool×List (QF)×Int×List (QT))×(QA)×Bool×List (QF)×Int×List (QT)) ⊕ ((Bool×List (QF)×Int×List (QT))×QA))).bind (fun o10=>φD o10 (fun (x3,x4,x5,x6)=>
 bif inB x3.2.1 x6.2.2.2.length then
 let y11:=(rdA (false,[],[]) x6.2.2.2 x3.2.1).1
 bif x3.1==1 then
 bif inB x3.2.1 x6.2.2.2.length then
 let l12:=x6.2.2.2.set x3.2.1.toNat (true,[],[])
 some ((x6.1,x6.2.1,x6.2.2.1,l12),(0,[],[]))
 else none
 else
 bif x3.1==6 then
 bif inB x3.2.1 x6.2.2.2.length then
 let l13:=x6.2.2.2.set x3.2.1.toNat (false,[],[])
 some ((x6.1,x6.2.1,x6.2.2.1,l13),(0,[],[]))
 else none
 else
 bif x3.1==5 then
 bif inB x3.2.1 x6.2.2.2.length then
 let l14:=x6.2.2.2.set x3.2.1.toNat (false,[],[])
 (ψ1G.f (x6.1,x6.2.1,x6.2.2.1,l14) (y11,((rdA (false,[],[]) x6.2.2.2 x3.2.1).2))).bind fun (t15_0,t15_1)=>
 some (t15_0,t15_1)
 else none
 else
 bif x3.1==2 then
 (ψ1J.f x6 x3 (y11,((rdA (false,[],[]) x6.2.2.2 x3.2.1).2))).bind fun (t16_0,t16_1)=>
 some (t16_0,t16_1)
 else
 (ψ1C.f (y11,((rdA (false,[],[]) x6.2.2.2 x3.2.1).2)) (x3.2.2.1,x3.1==4,x3.2.2.2.1)).bind fun (t17_0,t17_1)=>
 (ψ1A.f [(x3.2.2.1,x3.1==4,x3.2.2.2.1)]).bind fun t18=>
 bif !t18 then
 some (x6,(4,[],[]))
 else
 bif !t17_1 then
 some (x6,(5,[],[]))
 else
 bif inB x3.2.1 x6.2.2.2.length then
 let l19:=x6.2.2.2.set x3.2.1.toNat t17_0
 some ((x6.1,x6.2.1,x6.2.2.1,l19),(0,[],[]))
 else none
 else none) (fun (x4,x5)=>
 some (x4,x5))))
 else none
def ψ16.l0 (rec:(List (Int×Int×QF)×(Bool×List (QF)×Int×List (QT))×(Bool×List (QF)×Int×List (QT))×List (QA)×Int)→Option ((Bool×List (QF)×Int×List (QT))×(Bool×List (QF)×Int×List (QT))×List (QA))):(List (Int×Int×QF)×(Bool×List (QF)×Int×List (QT))×(Bool×List (QF)×Int×List (QT))×List (QA)×Int)→Option ((Bool×List (QF)×Int×List (QT))×(Bool×List (QF)×Int×List (QT))×List (QA)):=fun (x0,x2,x4,x5,x6)=>
 bif decide (x6<(x0.length:Int)) then
 bif decide (x6<300) then
 bif inB x6 x0.length then
 (ψ17.f x4 ((rdA (0,0,[],[],0) x0 x6).1,((rdA (0,0,[],[],0) x0 x6).2).1,(((rdA (0,0,[],[],0) x0 x6).2).2).1,((((rdA (0,0,[],[],0) x0 x6).2).2).2))).bind fun (t2_0,t2_1)=>
 bif decide ((x5.length+[t2_1].length) * 48≤140737488355328) then
 rec (x0,x2,t2_0,x5++[t2_1],w64 (x6+1))
 else none
 else none
 else
 some (x2,x4,x5)
 else
 some (x2,x4,x5)
def ψ16.f (p0:List (Int×Int×QF)):Option ((Bool×List (QF)×Int×List (QT))×List (QA)):=
 (ψ15.f).bind fun t1=>
 (lp ψ16.l0 (p0,(false,[],0,[]),t1,([]:List (QA)),0)).bind (fun (x2,x4,x5)=>
 some (x4,x5))
def ψW.f (p0:QF) (p1:QF):Option (Bool):=
 bif !(p0.1==p1.1) then
 some false
 else
 bif !(p0.2.1==p1.2.1) then
 some false
 else
 bif p0.2.2 != p1.2.2 then
 some false
 else
 some true
def ψX.l0 (rec:(List (QF)×List (QF)×Int)→Option ((Unit) ⊕ (Bool))):(List (QF)×List (QF)×Int)→Option ((Unit) ⊕ (Bool)):=fun (x0,x1,x5)=>
 bif decide (x5<(x0.length:Int)) then
 bif inB x5 x0.length then
 bif inB x5 x1.length then
 (ψW.f ((rdA ([],[],0) x0 x5).1,((rdA ([],[],0) x0 x5).2)) ((rdA ([],[],0) x1 x5).1,((rdA ([],[],0) x1 x5).2))).bind fun t1=>
 bif !t1 then
 some (Sum.inr false)
 else
 rec (x0,x1,w64 (x5+1))
 else none
 else none
 else
 some (Sum.inl ())
def ψX.f (p0:List (QF)) (p1:List (QF)):Option (Bool):=
 bif (p0.length:Int) != (p1.length:Int) then
 some false
 else
 (lp ψX.l0 (p0,p1,0)).bind (fun o2=>φD o2 (fun _=>
 some true) (fun x4=>
 some x4))
def ψY.f (p0:QP) (p1:QP):Option (Bool):=
 bif !(p0.1==p1.1) then
 some false
 else
 bif !(p0.2.1==p1.2.1) then
 some false
 else
 bif !(p0.2.2==p1.2.2) then
 some false
 else
 some true
def ψZ.l0 (rec:(List (QP)×List (QP)×Int)→Option ((Unit) ⊕ (Bool))):(List (QP)×List (QP)×Int)→Option ((Unit) ⊕ (Bool)):=fun (x0,x1,x5)=>
 bif decide (x5<(x0.length:Int)) then
 bif inB x5 x0.length then
 bif inB x5 x1.length then
 (ψY.f ((rdA ([],false,[]) x0 x5).1,((rdA ([],false,[]) x0 x5).2)) ((rdA ([],false,[]) x1 x5).1,((rdA ([],false,[]) x1 x5).2))).bind fun t1=>
 bif !t1 then
 some (Sum.inr false)
 else
 rec (x0,x1,w64 (x5+1))
 else none
 else none
 else
 some (Sum.inl ())
def ψZ.f (p0:List (QP)) (p1:List (QP)):Option (Bool):=
 bif (p0.length:Int) != (p1.length:Int) then
 some false
 else
 (lp ψZ.l0 (p0,p1,0)).bind (fun o2=>φD o2 (fun _=>
 some true) (fun x4=>
 some x4))
def ψe.l0 (rec:(List (QB)×List (QB)×Int)→Option ((Unit) ⊕ (Bool))):(List (QB)×List (QB)×Int)→Option ((Unit) ⊕ (Bool)):=fun (x0,x1,x5)=>
 bif decide (x5<(x0.length:Int)) then
 bif inB x5 x0.length then
 bif inB x5 x1.length then
 bif !((rdA [] x0 x5)==(rdA [] x1 x5)) then
 some (Sum.inr false)
 else
 rec (x0,x1,w64 (x5+1))
 else none
 else none
 else
 some (Sum.inl ())
def ψe.f (p0:List (QB)) (p1:List (QB)):Option (Bool):=
 bif (p0.length:Int) != (p1.length:Int) then
 some false
 else
 (lp ψe.l0 (p0,p1,0)).bind (fun o1=>φD o1 (fun _=>
 some true) (fun x4=>
 some x4))
def ψT.f (p0:QA) (p1:QA):Option (Bool):=
 bif p0.1 != p1.1 then
 some false
 else
 bif !(p0.2.1==p1.2.1) then
 some false
 else
 (ψe.f p0.2.2 p1.2.2).bind fun t1=>
 bif !t1 then
 some false
 else
 some true
def ψU.l0 (rec:(List (QA)×List (QA)×Int)→Option ((Unit) ⊕ (Bool))):(List (QA)×List (QA)×Int)→Option ((Unit) ⊕ (Bool)):=fun (x0,x1,x5)=>
 bif decide (x5<(x0.length:Int)) then
 bif inB x5 x0.length then
 bif inB x5 x1.length then
 (ψT.f ((rdA (0,[],[]) x0 x5).1,((rdA (0,[],[]) x0 x5).2)) ((rdA (0,[],[]) x1 x5).1,((rdA (0,[],[]) x1 x5).2))).bind fun t1=>
 bif !t1 then
 some (Sum.inr false)
 else
 rec (x0,x1,w64 (x5+1))
 else none
 else none
 else
 some (Sum.inl ())
def ψU.f (p0:List (QA)) (p1:List (QA)):Option (Bool):=
 bif (p0.length:Int) != (p1.length:Int) then
 some false
 else
 (lp ψU.l0 (p0,p1,0)).bind (fun o2=>φD o2 (fun _=>
 some true) (fun x4=>
 some x4))
def ψF.f (p0:List (QF)):Option (List (QF)):=
 bif decide ((([]:List (QF)).length+p0.length) * 40≤140737488355328) then
 let l1:=([]:List (QF))++p0
 some l1
 else none
def ψQ.l0 (rec:(QB×List (QF)×List (QF)×Int×Int)→Option (List (QF))):(QB×List (QF)×List (QF)×Int×Int)→Option (List (QF)):=fun (x1,x5,x8,x9,x10)=>
 bif decide (x10<x9) then
 bif inB x10 x8.length then
 let y1:=(rdA ([],[],0) x8 x10).1
 let y2:=((rdA ([],[],0) x8 x10).2).1
 let y3:=((rdA ([],[],0) x8 x10).2).2
 (bif !(y1==x1) then
 bif decide ((x5.length+[(y1,y2,y3)].length) * 40≤140737488355328) then
 let l4:=x5++[(y1,y2,y3)]
 some (x1,l4,x8,x9,x10)
 else none
 else
 some (x1,x5,x8,x9,x10):Option (QB×List (QF)×List (QF)×Int×Int)).bind (fun (x1,x5,x8,x9,x10)=>
 rec (x1,x5,x8,x9,w64 (x10+1)))
 else none
 else
 some x5
def ψQ.f (p0:List (QF)) (p1:QB):Option (List (QF)):=
 (lp ψQ.l0 (p1,[],p0,(p0.length:Int),0)).bind (fun x5=>
 some x5)
def ψ2.l2 (rec:(Int×List (QF)×(QP)×Int×List (QP)×Int×Int)→Option (Int×List (QF)×(QP)×Int×List (QP)×Int×Int)):(Int×List (QF)×(QP)×Int×List (QP)×Int×Int)→Option (Int×List (QF)×(QP)×Int×List (QP)×Int×Int):=fun (x2,x7,x9,x10,x13,x14,x15)=>
 bif decide (x10<(x7.length:Int)) then
 bif inB x10 x7.length then
 bif (Op.bytesLess ((rdA ([],[],0) x7 x10).1) x9.1 || ((rdA ([],[],0) x7 x10).1)==x9.1) then
 rec (x2,x7,x9,w64 (x10+1),x13,x14,x15)
 else
 some (x2,x7,x9,x10,x13,x14,x15)
 else none
 else
 some (x2,x7,x9,x10,x13,x14,x15)
def ψ2.l0 (rec:(Int×List (QF)×List (QP)×Int×Int)→Option (List (QF))):(Int×List (QF)×List (QP)×Int×Int)→Option (List (QF)):=fun (x2,x7,x13,x14,x15)=>
 bif decide (x15<x14) then
 (bif inB x15 x13.length then
 let y2:=(rdA ([],false,[]) x13 x15).1
 let y3:=((rdA ([],false,[]) x13 x15).2).1
 let y4:=((rdA ([],false,[]) x13 x15).2).2
 (ψQ.f x7 y2).bind fun t5=>
 bif y3 then
 some (x2,t5,x13,x14,x15)
 else
 (lp ψ2.l2 (x2,t5,(y2,y3,y4),0,x13,x14,x15)).bind (fun (x2,x7,x9,x10,x13,x14,x15)=>
 bif (decide (0≤x10) && decide (x10≤(x7.length:Int))) then
 (ψF.f (x7.take x10.toNat)).bind fun t6=>
 bif decide ((t6.length+[(x9.1,x9.2.2,x2)].length) * 40≤140737488355328) then
 let l7:=t6++[(x9.1,x9.2.2,x2)]
 bif (decide (0≤x10) && decide (x10≤(x7.length:Int))) then
 bif decide ((l7.length+(x7.drop x10.toNat).length) * 40≤140737488355328) then
 let l8:=l7++(x7.drop x10.toNat)
 some (x2,l8,x13,x14,x15)
 else none
 else none
 else none
 else none)
 else none:Option (Int×List (QF)×List (QP)×Int×Int)).bind (fun (x2,x7,x13,x14,x15)=>
 rec (x2,x7,x13,x14,w64 (x15+1)))
 else
 some x7
def ψ2.f (p0:List (QF)) (p1:List (QP)) (p2:Int):Option (List (QF)):=
 (ψF.f p0).bind fun t1=>
 (lp ψ2.l0 (p2,t1,p1,(p1.length:Int),0)).bind (fun x7=>
 some x7)
def ψa.f (p0:QB×Int) (p1:QB×Int):Option (Bool):=
 bif !(p0.1==p1.1) then
 some false
 else
 bif p0.2 != p1.2 then
 some false
 else
 some true
def ψb.l0 (rec:(List (QB×Int)×List (QB×Int)×Int)→Option ((Unit) ⊕ (Bool))):(List (QB×Int)×List (QB×Int)×Int)→Option ((Unit) ⊕ (Bool)):=fun (x0,x1,x5)=>
 bif decide (x5<(x0.length:Int)) then
 bif inB x5 x0.length then
 bif inB x5 x1.length then
 (ψa.f (rdA ([],0) x0 x5) (rdA ([],0) x1 x5)).bind fun t1=>
 bif !t1 then
 some (Sum.inr false)
 else
 rec (x0,x1,w64 (x5+1))
 else none
 else none
 else
 some (Sum.inl ())
def ψb.f (p0:List (QB×Int)) (p1:List (QB×Int)):Option (Bool):=
 bif (p0.length:Int) != (p1.length:Int) then
 some false
 else
 (lp ψb.l0 (p0,p1,0)).bind (fun o2=>φD o2 (fun _=>
 some true) (fun x4=>
 some x4))
def ψf.f (p0:QT) (p1:QT):Option (Bool):=
 bif !(p0.1==p1.1) then
 some false
 else
 (ψb.f p0.2.1 p1.2.1).bind fun t1=>
 bif !t1 then
 some false
 else
 (ψZ.f p0.2.2 p1.2.2).bind fun t2=>
 bif !t2 then
 some false
 else
 some true
def ψv.l0 (rec:(Int×QB)→Option (QB)):(Int×QB)→Option (QB):=fun (x0,x3)=>
 bif decide (x0 > 0) then
 bif decide ((φ1L [IntKind.wrap .u8 (w64 (48+(Int.tmod x0 10)))]).length+x3.length≤9223372036854775807) then
 let y1:=(φ1L [IntKind.wrap .u8 (w64 (48+(Int.tmod x0 10)))])++x3
 let y2:=w64 (Int.tdiv x0 10)
 rec (y2,y1)
 else none
 else
 some x3
def ψv.f (p0:Int):Option (QB):=
 bif decide (p0≤0) then
 some [109,48]
 else
 (lp ψv.l0 (p0,[])).bind (fun x3=>
 bif decide (([109]:QB).length+x3.length≤9223372036854775807) then
 some ([109]++x3)
 else none)
def ψq.l0 (rec:(List (QF)×Int×Int)→Option (List (QF)×Int)):(List (QF)×Int×Int)→Option (List (QF)×Int):=fun (x0,x1,x5)=>
 bif decide (x5<(x0.length:Int)) then
 (ψv.f x1).bind fun t1=>
 bif inB x5 x0.length then
 let l2:=x0.set x5.toNat (t1,(rdA ([],[],0) x0 x5).2)
 (ψv.f (w64 (x1+1))).bind fun t3=>
 bif inB x5 l2.length then
 let l4:=l2.set x5.toNat ((rdA ([],[],0) l2 x5).1,t3,((rdA ([],[],0) l2 x5).2).2)
 let y5:=w64 ((w64 (x1+1))+1)
 bif inB x5 l4.length then
 let l6:=l4.set x5.toNat ((rdA ([],[],0) l4 x5).1,((rdA ([],[],0) l4 x5).2).1,y5)
 rec (l6,w64 (y5+1),w64 (x5+1))
 else none
 else none
 else none
 else
 some (x0,x1)
def ψq.f (p0:List (QF)) (p1:Int):Option (Int×List (QF)):=
 (lp ψq.l0 (p0,p1,0)).bind (fun (x0,x1)=>
 some (x1,x0))
def ψr.l0 (rec:(List (QP)×Int×Int)→Option (List (QP)×Int)):(List (QP)×Int×Int)→Option (List (QP)×Int):=fun (x0,x1,x5)=>
 bif decide (x5<(x0.length:Int)) then
 (ψv.f x1).bind fun t1=>
 bif inB x5 x0.length then
 let l2:=x0.set x5.toNat (t1,(rdA ([],false,[]) x0 x5).2)
 bif inB x5 l2.length then
 let l3:=l2.set x5.toNat ((rdA ([],false,[]) l2 x5).1,(Int.tmod (w64 (x1+1)) 3)==0,((rdA ([],false,[]) l2 x5).2).2)
 let y4:=w64 ((w64 (x1+1))+1)
 (ψv.f y4).bind fun t5=>
 bif inB x5 l3.length then
 let l6:=l3.set x5.toNat ((rdA ([],false,[]) l3 x5).1,((rdA ([],false,[]) l3 x5).2).1,t5)
 rec (l6,w64 (y4+1),w64 (x5+1))
 else none
 else none
 else none
 else
 some (x0,x1)
def ψr.f (p0:List (QP)) (p1:Int):Option (Int×List (QP)):=
 (lp ψr.l0 (p0,p1,0)).bind (fun (x0,x1)=>
 some (x1,x0))
def ψj.l0 (rec:(List (QF)×Int×Int)→Option ((Int) ⊕ (Int))):(List (QF)×Int×Int)→Option ((Int) ⊕ (Int)):=fun (x0,x1,x5)=>
 bif decide (x5<(x0.length:Int)) then
 bif inB x5 x0.length then
 (ψv.f x1).bind fun t1=>
 bif !(((rdA ([],[],0) x0 x5).1)==t1) then
 some (Sum.inr (-1))
 else
 bif inB x5 x0.length then
 (ψv.f (w64 (x1+1))).bind fun t2=>
 bif !((((rdA ([],[],0) x0 x5).2).1)==t2) then
 some (Sum.inr (-1))
 else
 let y3:=w64 ((w64 (x1+1))+1)
 bif inB x5 x0.length then
 bif (((rdA ([],[],0) x0 x5).2).2) != y3 then
 some (Sum.inr (-1))
 else
 rec (x0,w64 (y3+1),w64 (x5+1))
 else none
 else none
 else none
 else
 some (Sum.inl x1)
def ψj.f (p0:List (QF)) (p1:Int):Option (Int):=
 (lp ψj.l0 (p0,p1,0)).bind (fun o4=>φD o4 (fun x1=>
 some x1) (fun x4=>
 some x4))
def ψs.l0 (rec:(List (QB×Int)×Int×Int)→Option (List (QB×Int)×Int)):(List (QB×Int)×Int×Int)→Option (List (QB×Int)×Int):=fun (x0,x1,x5)=>
 bif decide (x5<(x0.length:Int)) then
 (ψv.f x1).bind fun t1=>
 bif inB x5 x0.length then
 let l2:=x0.set x5.toNat (t1,(rdA ([],0) x0 x5).2)
 bif inB x5 l2.length then
 let l3:=l2.set x5.toNat ((rdA ([],0) l2 x5).1,w64 (x1+1))
 let y4:=w64 ((w64 (x1+1))+1)
 rec (l3,y4,w64 (x5+1))
 else none
 else none
 else
 some (x0,x1)
def ψs.f (p0:List (QB×Int)) (p1:Int):Option (Int×List (QB×Int)):=
 (lp ψs.l0 (p0,p1,0)).bind (fun (x0,x1)=>
 some (x1,x0))
def ψk.l0 (rec:(List (QP)×Int×Int)→Option ((Int) ⊕ (Int))):(List (QP)×Int×Int)→Option ((Int) ⊕ (Int)):=fun (x0,x1,x5)=>
 bif decide (x5<(x0.length:Int)) then
 bif inB x5 x0.length then
 (ψv.f x1).bind fun t1=>
 bif !(((rdA ([],false,[]) x0 x5).1)==t1) then
 some (Sum.inr (-1))
 else
 bif inB x5 x0.length then
 bif !((((rdA ([],false,[]) x0 x5).2).1)==((Int.tmod (w64 (x1+1)) 3)==0)) then
 some (Sum.inr (-1))
 else
 let y2:=w64 ((w64 (x1+1))+1)
 bif inB x5 x0.length then
 (ψv.f y2).bind fun t3=>
 bif !((((rdA ([],false,[]) x0 x5).2).2)==t3) then
 some (Sum.inr (-1))
 else
 rec (x0,w64 (y2+1),w64 (x5+1))
 else none
 else none
 else none
 else
 some (Sum.inl x1)
def ψk.f (p0:List (QP)) (p1:Int):Option (Int):=
 (lp ψk.l0 (p0,p1,0)).bind (fun o4=>φD o4 (fun x1=>
 some x1) (fun x4=>
 some x4))
def ψg.l0 (rec:(List (QT)×List (QT)×Int)→Option ((Unit) ⊕ (Bool))):(List (QT)×List (QT)×Int)→Option ((Unit) ⊕ (Bool)):=fun (x0,x1,x5)=>
 bif decide (x5<(x0.length:Int)) then
 bif inB x5 x0.length then
 bif inB x5 x1.length then
 (ψf.f ((rdA (false,[],[]) x0 x5).1,((rdA (false,[],[]) x0 x5).2)) ((rdA (false,[],[]) x1 x5).1,((rdA (false,[],[]) x1 x5).2))).bind fun t1=>
 bif !t1 then
 some (Sum.inr false)
 else
 rec (x0,x1,w64 (x5+1))
 else none
 else none
 else
 some (Sum.inl ())
def ψg.f (p0:List (QT)) (p1:List (QT)):Option (Bool):=
 bif (p0.length:Int) != (p1.length:Int) then
 some false
 else
 (lp ψg.l0 (p0,p1,0)).bind (fun o2=>φD o2 (fun _=>
 some true) (fun x4=>
 some x4))
def ψV.f (p0:Bool×List (QF)×Int×List (QT)) (p1:Bool×List (QF)×Int×List (QT)):Option (Bool):=
 bif !(p0.1==p1.1) then
 some false
 else
 (ψX.f p0.2.1 p1.2.1).bind fun t1=>
 bif !t1 then
 some false
 else
 bif p0.2.2.1 != p1.2.2.1 then
 some false
 else
 (ψg.f p0.2.2.2 p1.2.2.2).bind fun t2=>
 bif !t2 then
 some false
 else
 some true
def ψl.l0 (rec:(List (QB×Int)×Int×Int)→Option ((Int) ⊕ (Int))):(List (QB×Int)×Int×Int)→Option ((Int) ⊕ (Int)):=fun (x0,x1,x5)=>
 bif decide (x5<(x0.length:Int)) then
 bif inB x5 x0.length then
 (ψv.f x1).bind fun t1=>
 bif !(((rdA ([],0) x0 x5).1)==t1) then
 some (Sum.inr (-1))
 else
 bif inB x5 x0.length then
 bif ((rdA ([],0) x0 x5).2) != (w64 (x1+1)) then
 some (Sum.inr (-1))
 else
 let y2:=w64 ((w64 (x1+1))+1)
 rec (x0,y2,w64 (x5+1))
 else none
 else none
 else
 some (Sum.inl x1)
def ψl.f (p0:List (QB×Int)) (p1:Int):Option (Int):=
 (lp ψl.l0 (p0,p1,0)).bind (fun o3=>φD o3 (fun x1=>
 some x1) (fun x4=>
 some x4))
def ψ4.f:Option (Bool×List (QF)×Int×List (QT)):=
 let l1:=κA 3 (false,[],[])
 some (true,[],1,l1)
def ψw.l0 (rec:(List (QT)×Int×Int)→Option (List (QT)×Int)):(List (QT)×Int×Int)→Option (List (QT)×Int):=fun (x0,x1,x5)=>
 bif decide (x5<(x0.length:Int)) then
 bif inB x5 x0.length then
 let l1:=x0.set x5.toNat ((Int.tmod x1 3)==0,(rdA (false,[],[]) x0 x5).2)
 bif inB x5 l1.length then
 (ψs.f (((rdA (false,[],[]) l1 x5).2).1) (w64 (x1+1))).bind fun (t2_0,t2_1)=>
 let l3:=l1.set x5.toNat ((rdA (false,[],[]) l1 x5).1,t2_1,((rdA (false,[],[]) l1 x5).2).2)
 bif inB x5 l3.length then
 (ψr.f (((rdA (false,[],[]) l3 x5).2).2) t2_0).bind fun (t4_0,t4_1)=>
 let l5:=l3.set x5.toNat ((rdA (false,[],[]) l3 x5).1,((rdA (false,[],[]) l3 x5).2).1,t4_1)
 rec (l5,t4_0,w64 (x5+1))
 else none
 else none
 else none
 else
 some (x0,x1)
def ψw.f (p0:List (QT)) (p1:Int):Option (Int×List (QT)):=
 (lp ψw.l0 (p0,p1,0)).bind (fun (x0,x1)=>
 some (x1,x0))
def ψp.f (p0:Bool×List (QF)×Int×List (QT)) (p1:Int):Option (Int×Bool×List (QF)×Int×List (QT)):=
 (ψq.f p0.2.1 p1).bind fun (t1_0,t1_1)=>
 (ψw.f p0.2.2.2 t1_0).bind fun (t2_0,t2_1)=>
 some (t2_0,(p0.1,t1_1,p0.2.2.1,t2_1))
def ψn.l0 (rec:(List (QT)×Int×Int)→Option ((Int) ⊕ (Int))):(List (QT)×Int×Int)→Option ((Int) ⊕ (Int)):=fun (x0,x1,x5)=>
 bif decide (x5<(x0.length:Int)) then
 bif inB x5 x0.length then
 bif !(((rdA (false,[],[]) x0 x5).1)==((Int.tmod x1 3)==0)) then
 some (Sum.inr (-1))
 else
 bif inB x5 x0.length then
 (ψl.f (((rdA (false,[],[]) x0 x5).2).1) (w64 (x1+1))).bind fun t1=>
 bif decide (t1<0) then
 some (Sum.inr (-1))
 else
 bif inB x5 x0.length then
 (ψk.f (((rdA (false,[],[]) x0 x5).2).2) t1).bind fun t2=>
 bif decide (t2<0) then
 some (Sum.inr (-1))
 else
 rec (x0,t2,w64 (x5+1))
 else none
 else none
 else none
 else
 some (Sum.inl x1)
def ψn.f (p0:List (QT)) (p1:Int):Option (Int):=
 (lp ψn.l0 (p0,p1,0)).bind (fun o3=>φD o3 (fun x1=>
 some x1) (fun x4=>
 some x4))
def ψi.f (p0:Bool×List (QF)×Int×List (QT)) (p1:Int):Option (Int):=
 (ψj.f p0.2.1 p1).bind fun t1=>
 bif decide (t1<0) then
 some (-1)
 else
 (ψn.f p0.2.2.2 t1).bind fun t2=>
 bif decide (t2<0) then
 some (-1)
 else
 some t2
def ψx.f (p0:Int×Int×QF) (p1:Int):Option (Int):=
 let y1:=w64 (p1 - (p0.2.2.1.length:Int))
 bif decide (y1<0) then
 some (-1)
 else
 let y2:=w64 (y1 - (p0.2.2.2.1.length:Int))
 bif decide (y2<0) then
 some (-1)
 else
 some y2
def ψy.l0 (rec:(List (Int×Int×QF)×Int×Int)→Option ((Int) ⊕ (Int))):(List (Int×Int×QF)×Int×Int)→Option ((Int) ⊕ (Int)):=fun (x0,x1,x5)=>
 bif decide (x5<(x0.length:Int)) then
 bif inB x5 x0.length then
 (ψx.f ((rdA (0,0,[],[],0) x0 x5).1,((rdA (0,0,[],[],0) x0 x5).2).1,(((rdA (0,0,[],[],0) x0 x5).2).2).1,((((rdA (0,0,[],[],0) x0 x5).2).2).2)) x1).bind fun t2=>
 bif decide (t2<0) then
 some (Sum.inr (-1))
 else
 rec (x0,t2,w64 (x5+1))
 else none
 else
 some (Sum.inl x1)
def ψy.f (p0:List (Int×Int×QF)) (p1:Int):Option (Int):=
 let y1:=w64 (p1 - (p0.length:Int))
 bif decide (y1<0) then
 some (-1)
 else
 (lp ψy.l0 (p0,y1,0)).bind (fun o3=>φD o3 (fun x1=>
 some x1) (fun x4=>
 some x4))
def ψz.f (p0:Int×Int×QF):Option (Int×Int×QF):=
 some p0
def ψ10.l0 (rec:(List (Int×Int×QF)×List (Int×Int×QF)×Int)→Option (List (Int×Int×QF))):(List (Int×Int×QF)×List (Int×Int×QF)×Int)→Option (List (Int×Int×QF)):=fun (x0,x3,x4)=>
 bif decide (x4<(x0.length:Int)) then
 bif inB x4 x0.length then
 (ψz.f ((rdA (0,0,[],[],0) x0 x4).1,((rdA (0,0,[],[],0) x0 x4).2).1,(((rdA (0,0,[],[],0) x0 x4).2).2).1,((((rdA (0,0,[],[],0) x0 x4).2).2).2))).bind fun t2=>
 bif inB x4 x3.length then
 let l3:=x3.set x4.toNat t2
 rec (x0,l3,w64 (x4+1))
 else none
 else none
 else
 some x3
def ψ10.f (p0:List (Int×Int×QF)):Option (List (Int×Int×QF)):=
 bif ((p0.length:Int)==(p0.length:Int)) then
 bif (decide (0≤(p0.length:Int)) && decide (56 * (p0.length:Int)≤140737488355328)) then
 let l1:=κA (p0.length:Int).toNat (0,0,[],[],0)
 (lp ψ10.l0 (p0,l1,0)).bind (fun x3=>
 some x3)
 else none
 else none
def ψI.l0 (rec:(List (QE)×List (QF)×Int×Int)→Option (List (QE))):(List (QE)×List (QF)×Int×Int)→Option (List (QE)):=fun (x3,x6,x7,x8)=>
 bif decide (x8<x7) then
 bif inB x8 x6.length then
 let y1:=(rdA ([],[],0) x6 x8).1
 let y2:=((rdA ([],[],0) x6 x8).2).1
 let y3:=((rdA ([],[],0) x6 x8).2).2
 bif decide ((x3.length+[(y1,0,0,0,y3)].length) * 48≤140737488355328) then
 let l4:=x3++[(y1,0,0,0,y3)]
 rec (l4,x6,x7,w64 (x8+1))
 else none
 else none
 else
 some x3
def ψI.f (p0:List (QF)):Option (List (QE)):=
 (lp ψI.l0 ([],p0,(p0.length:Int),0)).bind (fun x3=>
 some x3)
def ψM.l0 (rec:(QB×(QF)×List (QF)×Int×Int)→Option ((QF) ⊕ ((QF)×Bool))):(QB×(QF)×List (QF)×Int×Int)→Option ((QF) ⊕ ((QF)×Bool)):=fun (x1,x4,x8,x9,x10)=>
 bif decide (x10<x9) then
 bif inB x10 x8.length then
 let y1:=(rdA ([],[],0) x8 x10).1
 let y2:=((rdA ([],[],0) x8 x10).2).1
 let y3:=((rdA ([],[],0) x8 x10).2).2
 bif y1==x1 then
 some (Sum.inr ((y1,y2,y3),true))
 else
 rec (x1,x4,x8,x9,w64 (x10+1))
 else none
 else
 some (Sum.inl x4)
def ψM.f (p0:List (QF)) (p1:QB):Option ((QF)×Bool):=
 (lp ψM.l0 (p1,([],[],0),p0,(p0.length:Int),0)).bind (fun o4=>φD o4 (fun x4=>
 some (([],[],0),false)) (fun (x4,x5)=>
 some (x4,x5)))
def ψ6.f (p0:Bool×List (QF)×Int×List (QT)) (p1:QT):Option ((QA)×Bool×List (QF)×Int×List (QT)):=
 (ψA.f p1).bind fun t1=>
 (ψI.f p0.2.1).bind fun t2=>
 (ψE.f p1 t2).bind fun t3=>
 bif !t3 then
 some ((7,[],[]),p0)
 else
 bif (t1.length:Int)==0 then
 some ((0,[],[]),p0)
 else
 (ψ2.f p0.2.1 t1 p0.2.2.1).bind fun t4=>
 bif decide ((t4.length:Int) > 20) then
 some ((5,[],[]),p0)
 else
 bif decide (p0.2.2.1 > 1000000) then
 some ((5,[],[]),p0)
 else
 let y5:=w64 (p0.2.2.1+1)
 some ((0,[],[]),(p0.1,t4,y5,p0.2.2.2))
def ψc.f (p0:Int×Int×QF) (p1:Int×Int×QF):Option (Bool):=
 bif p0.1 != p1.1 then
 some false
 else
 bif p0.2.1 != p1.2.1 then
 some false
 else
 bif !(p0.2.2.1==p1.2.2.1) then
 some false
 else
 bif !(p0.2.2.2.1==p1.2.2.2.1) then
 some false
 else
 bif p0.2.2.2.2 != p1.2.2.2.2 then
 some false
 else
 some true
def ψd.l0 (rec:(List (Int×Int×QF)×List (Int×Int×QF)×Int)→Option ((Unit) ⊕ (Bool))):(List (Int×Int×QF)×List (Int×Int×QF)×Int)→Option ((Unit) ⊕ (Bool)):=fun (x0,x1,x5)=>
 bif decide (x5<(x0.length:Int)) then
 bif inB x5 x0.length then
 bif inB x5 x1.length then
 (ψc.f ((rdA (0,0,[],[],0) x0 x5).1,((rdA (0,0,[],[],0) x0 x5).2).1,(((rdA (0,0,[],[],0) x0 x5).2).2).1,((((rdA (0,0,[],[],0) x0 x5).2).2).2)) ((rdA (0,0,[],[],0) x1 x5).1,((rdA (0,0,[],[],0) x1 x5).2).1,(((rdA (0,0,[],[],0) x1 x5).2).2).1,((((rdA (0,0,[],[],0) x1 x5).2).2).2))).bind fun t1=>
 bif !t1 then
 some (Sum.inr false)
 else
 rec (x0,x1,w64 (x5+1))
 else none
 else none
 else
 some (Sum.inl ())
def ψd.f (p0:List (Int×Int×QF)) (p1:List (Int×Int×QF)):Option (Bool):=
 bif (p0.length:Int) != (p1.length:Int) then
 some false
 else
 (lp ψd.l0 (p0,p1,0)).bind (fun o2=>φD o2 (fun _=>
 some true) (fun x4=>
 some x4))
def ψt.l0 (rec:(List (Int×Int×QF)×Int×Int)→Option (List (Int×Int×QF)×Int)):(List (Int×Int×QF)×Int×Int)→Option (List (Int×Int×QF)×Int):=fun (x0,x1,x5)=>
 bif decide (x5<(x0.length:Int)) then
 bif inB x5 x0.length then
 let l1:=x0.set x5.toNat (x1,(rdA (0,0,[],[],0) x0 x5).2)
 bif inB x5 l1.length then
 let l2:=l1.set x5.toNat ((rdA (0,0,[],[],0) l1 x5).1,w64 (x1+1),((rdA (0,0,[],[],0) l1 x5).2).2)
 let y3:=w64 ((w64 (x1+1))+1)
 (ψv.f y3).bind fun t4=>
 bif inB x5 l2.length then
 let l5:=l2.set x5.toNat ((rdA (0,0,[],[],0) l2 x5).1,((rdA (0,0,[],[],0) l2 x5).2).1,t4,(((rdA (0,0,[],[],0) l2 x5).2).2).2)
 (ψv.f (w64 (y3+1))).bind fun t6=>
 bif inB x5 l5.length then
 let l7:=l5.set x5.toNat ((rdA (0,0,[],[],0) l5 x5).1,((rdA (0,0,[],[],0) l5 x5).2).1,(((rdA (0,0,[],[],0) l5 x5).2).2).1,t6,((((rdA (0,0,[],[],0) l5 x5).2).2).2).2)
 let y8:=w64 ((w64 (y3+1))+1)
 bif inB x5 l7.length then
 let l9:=l7.set x5.toNat ((rdA (0,0,[],[],0) l7 x5).1,((rdA (0,0,[],[],0) l7 x5).2).1,(((rdA (0,0,[],[],0) l7 x5).2).2).1,((((rdA (0,0,[],[],0) l7 x5).2).2).2).1,y8)
 rec (l9,w64 (y8+1),w64 (x5+1))
 else none
 else none
 else none
 else none
 else none
 else
 some (x0,x1)
def ψt.f (p0:List (Int×Int×QF)) (p1:Int):Option (Int×List (Int×Int×QF)):=
 (lp ψt.l0 (p0,p1,0)).bind (fun (x0,x1)=>
 some (x1,x0))
def ψu.l0 (rec:(List (QB)×Int×Int)→Option (List (QB)×Int)):(List (QB)×Int×Int)→Option (List (QB)×Int):=fun (x0,x1,x5)=>
 bif decide (x5<(x0.length:Int)) then
 (ψv.f x1).bind fun t1=>
 bif inB x5 x0.length then
 let l2:=x0.set x5.toNat t1
 rec (l2,w64 (x1+1),w64 (x5+1))
 else none
 else
 some (x0,x1)
def ψu.f (p0:List (QB)) (p1:Int):Option (Int×List (QB)):=
 (lp ψu.l0 (p0,p1,0)).bind (fun (x0,x1)=>
 some (x1,x0))
def ψo.l0 (rec:(List (QA)×Int×Int)→Option (List (QA)×Int)):(List (QA)×Int×Int)→Option (List (QA)×Int):=fun (x0,x1,x5)=>
 bif decide (x5<(x0.length:Int)) then
 bif inB x5 x0.length then
 let l1:=x0.set x5.toNat (x1,(rdA (0,[],[]) x0 x5).2)
 (ψv.f (w64 (x1+1))).bind fun t2=>
 bif inB x5 l1.length then
 let l3:=l1.set x5.toNat ((rdA (0,[],[]) l1 x5).1,t2,((rdA (0,[],[]) l1 x5).2).2)
 let y4:=w64 ((w64 (x1+1))+1)
 bif inB x5 l3.length then
 (ψu.f (((rdA (0,[],[]) l3 x5).2).2) y4).bind fun (t5_0,t5_1)=>
 let l6:=l3.set x5.toNat ((rdA (0,[],[]) l3 x5).1,((rdA (0,[],[]) l3 x5).2).1,t5_1)
 rec (l6,t5_0,w64 (x5+1))
 else none
 else none
 else none
 else
 some (x0,x1)
def ψo.f (p0:List (QA)) (p1:Int):Option (Int×List (QA)):=
 (lp ψo.l0 (p0,p1,0)).bind (fun (x0,x1)=>
 some (x1,x0))
def ψm.l0 (rec:(List (QB)×Int×Int)→Option ((Int) ⊕ (Int))):(List (QB)×Int×Int)→Option ((Int) ⊕ (Int)):=fun (x0,x1,x5)=>
 bif decide (x5<(x0.length:Int)) then
 bif inB x5 x0.length then
 (ψv.f x1).bind fun t1=>
 bif !((rdA [] x0 x5)==t1) then
 some (Sum.inr (-1))
 else
 rec (x0,w64 (x1+1),w64 (x5+1))
 else none
 else
 some (Sum.inl x1)
def ψm.f (p0:List (QB)) (p1:Int):Option (Int):=
 (lp ψm.l0 (p0,p1,0)).bind (fun o2=>φD o2 (fun x1=>
 some x1) (fun x4=>
 some x4))
def ψh.l0 (rec:(List (QA)×Int×Int)→Option ((Int) ⊕ (Int))):(List (QA)×Int×Int)→Option ((Int) ⊕ (Int)):=fun (x0,x1,x5)=>
 bif decide (x5<(x0.length:Int)) then
 bif inB x5 x0.length then
 bif ((rdA (0,[],[]) x0 x5).1) != x1 then
 some (Sum.inr (-1))
 else
 bif inB x5 x0.length then
 (ψv.f (w64 (x1+1))).bind fun t1=>
 bif !((((rdA (0,[],[]) x0 x5).2).1)==t1) then
 some (Sum.inr (-1))
 else
 let y2:=w64 ((w64 (x1+1))+1)
 bif inB x5 x0.length then
 (ψm.f (((rdA (0,[],[]) x0 x5).2).2) y2).bind fun t3=>
 bif decide (t3<0) then
 some (Sum.inr (-1))
 else
 rec (x0,t3,w64 (x5+1))
 else none
 else none
 else none
 else
 some (Sum.inl x1)
def ψh.f (p0:List (QA)) (p1:Int):Option (Int):=
 (lp ψh.l0 (p0,p1,0)).bind (fun o4=>φD o4 (fun x1=>
 some x1) (fun x4=>
 some x4))
def ψ7.f (p0:Bool×List (QF)×Int×List (QT)) (p1:Int×Int×QF):Option ((QA)×Bool×List (QF)×Int×List (QT)):=
 bif inB p1.2.1 p0.2.2.2.length then
 (ψ3.f p1.2.2.1).bind fun t1=>
 bif !t1 then
 some ((4,[],[]),p0)
 else
 (ψL.f ((rdA (false,[],[]) p0.2.2.2 p1.2.1).1,((rdA (false,[],[]) p0.2.2.2 p1.2.1).2)) p1.2.2.1).bind fun (t2_0,t2_1)=>
 bif t2_1 then
 some (t2_0,p0)
 else
 (ψM.f p0.2.1 p1.2.2.1).bind fun (t3_0,t3_1)=>
 bif !t3_1 then
 (ψO.f ((rdA (false,[],[]) p0.2.2.2 p1.2.1).1,((rdA (false,[],[]) p0.2.2.2 p1.2.1).2)) p1.2.2.1 t3_0 8).bind fun (t4_0,t4_1)=>
 let l5:=p0.2.2.2.set p1.2.1.toNat t4_0
 some (t4_1,(p0.1,p0.2.1,p0.2.2.1,l5))
 else
 (ψO.f ((rdA (false,[],[]) p0.2.2.2 p1.2.1).1,((rdA (false,[],[]) p0.2.2.2 p1.2.1).2)) p1.2.2.1 t3_0 0).bind fun (t6_0,t6_1)=>
 let l7:=p0.2.2.2.set p1.2.1.toNat t6_0
 some (t6_1,(p0.1,p0.2.1,p0.2.2.1,l7))
 else none
def ψ8.f (p0:Bool×List (QF)×Int×List (QT)) (p1:Int×Int×QF):Option ((QA)×Bool×List (QF)×Int×List (QT)):=
 (ψP.f p0.2.2.2 p1).bind fun t1=>
 bif !t1 then
 some ((4,[],[]),p0)
 else
 bif inB p1.2.1 p0.2.2.2.length then
 bif p1.1==1 then
 let l2:=p0.2.2.2.set p1.2.1.toNat (true,[],[])
 some ((0,[],[]),(p0.1,p0.2.1,p0.2.2.1,l2))
 else
 bif p1.1==6 then
 let l3:=p0.2.2.2.set p1.2.1.toNat (false,[],[])
 some ((0,[],[]),(p0.1,p0.2.1,p0.2.2.1,l3))
 else
 bif p1.1==2 then
 (ψ7.f p0 p1).bind fun (t4_0,t4_1)=>
 some (t4_0,t4_1)
 else
 bif p1.1==3 then
 bif p1.1==3 then
 (ψR.f ((rdA (false,[],[]) p0.2.2.2 p1.2.1).1,((rdA (false,[],[]) p0.2.2.2 p1.2.1).2)) p1).bind fun (t5_0,t5_1)=>
 let l6:=p0.2.2.2.set p1.2.1.toNat t5_0
 some (t5_1,(p0.1,p0.2.1,p0.2.2.1,l6))
 else
 bif p1.1==5 then
 let y7:=(rdA (false,[],[]) p0.2.2.2 p1.2.1).1
 let l8:=p0.2.2.2.set p1.2.1.toNat (false,[],[])
 (ψ6.f (p0.1,p0.2.1,p0.2.2.1,l8) (y7,((rdA (false,[],[]) p0.2.2.2 p1.2.1).2))).bind fun (t9_0,t9_1)=>
 some (t9_0,t9_1)
 else
 some ((0,[],[]),p0)
 else
 bif p1.1==4 then
 (ψR.f ((rdA (false,[],[]) p0.2.2.2 p1.2.1).1,((rdA (false,[],[]) p0.2.2.2 p1.2.1).2)) p1).bind fun (t10_0,t10_1)=>
 let l11:=p0.2.2.2.set p1.2.1.toNat t10_0
 some (t10_1,(p0.1,p0.2.1,p0.2.2.1,l11))
 else
 bif p1.1==5 then
 let y12:=(rdA (false,[],[]) p0.2.2.2 p1.2.1).1
 let l13:=p0.2.2.2.set p1.2.1.toNat (false,[],[])
 (ψ6.f (p0.1,p0.2.1,p0.2.2.1,l13) (y12,((rdA (false,[],[]) p0.2.2.2 p1.2.1).2))).bind fun (t14_0,t14_1)=>
 some (t14_0,t14_1)
 else
 some ((0,[],[]),p0)
 else none
def ψ9.f (p0:Bool×List (QF)×Int×List (QT)) (p1:Int×Int×QF):Option ((QA)×Bool×List (QF)×Int×List (QT)):=
 bif p1.1==10 then
 bif p0.1 then
 some ((4,[],[]),p0)
 else
 bif p1.1==10 then
 let l1:=κA 3 (false,[],[])
 some ((0,[],[]),(true,p0.2.1,p0.2.2.1,l1))
 else
 bif p1.1==11 then
 some ((0,[],[]),p0)
 else
 bif !p0.1 then
 some ((6,[],[]),p0)
 else
 bif p1.1==7 then
 some ((0,[],[]),p0)
 else
 bif p1.1==8 then
 (ψI.f p0.2.1).bind fun t2=>
 (ψ1.f t2).bind fun t3=>
 some ((0,[],t3),p0)
 else
 bif p1.1==9 then
 let l4:=κA 3 (false,[],[])
 some ((0,[],[]),(false,p0.2.1,p0.2.2.1,l4))
 else
 (ψ8.f p0 p1).bind fun (t5_0,t5_1)=>
 some (t5_0,t5_1)
 else
 bif p1.1==10 then
 let l6:=κA 3 (false,[],[])
 some ((0,[],[]),(true,p0.2.1,p0.2.2.1,l6))
 else
 bif p1.1==11 then
 some ((0,[],[]),p0)
 else
 bif !p0.1 then
 some ((6,[],[]),p0)
 else
 bif p1.1==7 then
 some ((0,[],[]),p0)
 else
 bif p1.1==8 then
 (ψI.f p0.2.1).bind fun t7=>
 (ψ1.f t7).bind fun t8=>
 some ((0,[],t8),p0)
 else
 bif p1.1==9 then
 let l9:=κA 3 (false,[],[])
 some ((0,[],[]),(false,p0.2.1,p0.2.2.1,l9))
 else
 (ψ8.f p0 p1).bind fun (t10_0,t10_1)=>
 some (t10_0,t10_1)
def ψ5.l0 (rec:((Bool×List (QF)×Int×List (QT))×(Bool×List (QF)×Int×List (QT))×List (QA)×List (Int×Int×QF)×Int×Int)→Option ((Bool×List (QF)×Int×List (QT))×(Bool×List (QF)×Int×List (QT))×List (QA))):((Bool×List (QF)×Int×List (QT))×(Bool×List (QF)×Int×List (QT))×List (QA)×List (Int×Int×QF)×Int×Int)→Option ((Bool×List (QF)×Int×List (QT))×(Bool×List (QF)×Int×List (QT))×List (QA)):=fun (x2,x4,x5,x10,x11,x12)=>
 bif decide (x12<x11) then
 bif inB x12 x10.length then
 let y2:=(rdA (0,0,[],[],0) x10 x12).1
 let y3:=((rdA (0,0,[],[],0) x10 x12).2).1
 let y4:=(((rdA (0,0,[],[],0) x10 x12).2).2).1
 let y5:=((((rdA (0,0,[],[],0) x10 x12).2).2).2).1
 let y6:=((((rdA (0,0,[],[],0) x10 x12).2).2).2).2
 (bif decide (x12<300) then
 (ψ9.f x4 (y2,y3,y4,y5,y6)).bind fun (t7_0,t7_1)=>
 bif decide ((x5.length+[t7_0].length) * 48≤140737488355328) then
 some (x2,t7_1,x5++[t7_0],x10,x11,x12)
 else none
 else
 some (x2,x4,x5,x10,x11,x12):Option ((Bool×List (QF)×Int×List (QT))×(Bool×List (QF)×Int×List (QT))×List (QA)×List (Int×Int×QF)×Int×Int)).bind (fun (x2,x4,x5,x10,x11,x12)=>
 rec (x2,x4,x5,x10,x11,w64 (x12+1)))
 else none
 else
 some (x2,x4,x5)
def ψ5.f (p0:List (Int×Int×QF)):Option ((Bool×List (QF)×Int×List (QT))×List (QA)):=
 (ψ4.f).bind fun t1=>
 (lp ψ5.l0 ((false,[],0,[]),t1,[],p0,(p0.length:Int),0)).bind (fun (x2,x4,x5)=>
 some (x4,x5))
def ψS.f (p0:List (Int×Int×QF)):Option (Bool):=
 (ψy.f p0 1048576).bind fun t1=>
 bif decide (t1<0) then
 some true
 else
 (ψ10.f p0).bind fun t2=>
 (ψ16.f t2).bind fun (t3_0,t3_1)=>
 (ψ10.f p0).bind fun t4=>
 (ψ5.f t4).bind fun (t5_0,t5_1)=>
 (ψV.f t5_0 t3_0).bind fun t6=>
 bif !t6 then
 some false
 else
 (ψU.f t5_1 t3_1).bind fun t7=>
 bif !t7 then
 some false
 else
 (ψ10.f p0).bind fun t8=>
 (ψd.f t4 t8).bind fun t9=>
 bif !t9 then
 some false
 else
 (ψt.f t4 1).bind fun (t10_0,t10_1)=>
 bif decide (t10_0<0) then
 some false
 else
 (ψV.f t5_0 t3_0).bind fun t11=>
 bif !t11 then
 some false
 else
 (ψU.f t5_1 t3_1).bind fun t12=>
 bif !t12 then
 some false
 else
 (ψp.f t5_0 1).bind fun (t13_0,t13_1)=>
 (ψo.f t5_1 t13_0).bind fun (t14_0,t14_1)=>
 (ψi.f (t5_0.1,t13_1.2.1,t5_0.2.2.1,t13_1.2.2.2) 1).bind fun t15=>
 bif decide (t15<0) then
 some false
 else
 (ψh.f t14_1 t15).bind fun t16=>
 bif decide (t16<0) then
 some false
 else
 bif t16 != t14_0 then
 some false
 else
 (ψ10.f p0).bind fun t17=>
 (ψ5.f t17).bind fun (t18_0,t18_1)=>
 (ψV.f t18_0 t3_0).bind fun t19=>
 bif !t19 then
 some false
 else
 (ψU.f t18_1 t3_1).bind fun t20=>
 bif !t20 then
 some false
 else
 (ψi.f (t5_0.1,t13_1.2.1,t5_0.2.2.1,t13_1.2.2.2) 1).bind fun t21=>
 bif decide (t21<0) then
 some false
 else
 (ψh.f t14_1 t21).bind fun t22=>
 bif decide (t22<0) then
 some false
 else
 bif t22 != t14_0 then
 some false
 else
 some true
end
end Go.Rf.G
