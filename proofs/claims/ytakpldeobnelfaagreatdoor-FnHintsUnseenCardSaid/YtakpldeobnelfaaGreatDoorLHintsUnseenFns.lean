import Derived.Test.YtakpldeobnelfaaGreatDoorRf5
namespace Go.Rf.G
noncomputable section
open Go Go.Rf
set_option linter.unusedVariables false
abbrev QS:=(Int×List Int)×List (List UInt8×Int×Int×Int×Int)×Int×Int×Int
abbrev QD:=List (List UInt8×List UInt8×Int)×Int×Int×Bool
abbrev QR:=Int×Int×List UInt8×List UInt8×Int×Int
abbrev QE:=List UInt8×Int×Int×Int×Int
abbrev QP:=List UInt8×Bool×List UInt8
abbrev QF:=List UInt8×List UInt8×Int
abbrev QB:=List UInt8
def ψ2w.f (p0:Int) (p1:Int) (p2:Int):Option (Bool):=
 bif decide (p0≥p1) then
 let y1:=decide (p0≤p2)
 some y1
 else
 some false
def ψ21.f (p0:QB):Option (Bool):=
 (ψ2w.f (p0.length:Int) 1 8).bind fun t1=>
 some t1
def ψ15.f (p0:Int) (p1:Int) (p2:Int):Option (Bool):=
 bif decide (p0≥p1) then
 let y1:=decide (p0≤p2)
 some y1
 else
 some false
def ψP.f (p0:QB):Option (Bool):=
 (ψ15.f (p0.length:Int) 1 8).bind fun t1=>
 some t1
def ψ1k.l0 (rec:(Int×QB×Bool)→Option (QB×Bool)):(Int×QB×Bool)→Option (QB×Bool):=fun (x0,x3,x4)=>
 bif x0 != 0 then
 let y2:=Int.tmod x0 10
 (bif decide (y2<0) then
 some (x0,x3,x4,w64 (0 - y2))
 else
 some (x0,x3,x4,y2):Option (Int×QB×Bool×Int)).bind (fun (x0,x3,x4,x5)=>
 bif decide ((strOf [IntKind.wrap .u8 (w64 (48+x5))]).length+x3.length≤9223372036854775807) then
 let y3:=(strOf [IntKind.wrap .u8 (w64 (48+x5))])++x3
 let y4:=w64 (Int.tdiv x0 10)
 rec (y4,y3,x4)
 else none)
 else
 some (x3,x4)
def ψ1k.f (p0:Int):Option (QB):=
 bif p0==0 then
 some [48]
 else
 let y1:=decide (p0<0)
 (lp ψ1k.l0 (p0,[],y1)).bind (fun (x3,x4)=>
 bif x4 then
 bif decide (([45]:QB).length+x3.length≤9223372036854775807) then
 some ([45]++x3)
 else none
 else
 some x3)
def ψ39.l0 (rec:((QD)×Int×Int)→Option (Int)):((QD)×Int×Int)→Option (Int):=fun (x1,x3,x4)=>
 bif decide (x4<(x1.1.length:Int)) then
 bif inB x4 x1.1.length then
 let y1:=w64 (x3+((((rdA ([],[],0) x1.1 x4).2).1).length:Int))
 rec (x1,y1,w64 (x4+1))
 else none
 else
 some x3
def ψ39.f (p0:QD):Option (Int):=
 (lp ψ39.l0 (p0,0,0)).bind (fun x3=>
 some x3)
def ψ24.l0 (rec:(QB×Int)→Option ((QB) ⊕ (Bool))):(QB×Int)→Option ((QB) ⊕ (Bool)):=fun (x0,x3)=>
 bif decide (x3<(x0.length:Int)) then
 (bif inB x3 x0.length then
 bif decide ((bAt x0 x3)≥97) then
 bif inB x3 x0.length then
 bif decide ((bAt x0 x3)≤122) then
 some (Sum.inl (x0,x3))
 else
 bif inB x3 x0.length then
 bif decide ((bAt x0 x3)≥48) then
 bif inB x3 x0.length then
 bif !(decide ((bAt x0 x3)≤57)) then
 some (Sum.inr false)
 else
 some (Sum.inl (x0,x3))
 else none
 else
 some (Sum.inr false)
 else none
 else none
 else
 bif inB x3 x0.length then
 bif decide ((bAt x0 x3)≥48) then
 bif inB x3 x0.length then
 bif !(decide ((bAt x0 x3)≤57)) then
 some (Sum.inr false)
 else
 some (Sum.inl (x0,x3))
 else none
 else
 some (Sum.inr false)
 else none
 else none:Option ((QB×Int) ⊕ (Bool))).bind (fun o1=>caseS o1 (fun (x0,x3)=>
 rec (x0,w64 (x3+1))) (fun x2=>
 some (Sum.inr x2)))
 else
 some (Sum.inl x0)
def ψ24.f (p0:QB):Option (Bool):=
 (lp ψ24.l0 (p0,0)).bind (fun o2=>caseS o2 (fun x0=>
 (ψ2w.f (x0.length:Int) 1 12).bind fun t3=>
 some t3) (fun x2=>
 some x2))
def ψ1q.l0 (rec:((QD)×Int)→Option ((Unit) ⊕ (Bool))):((QD)×Int)→Option ((Unit) ⊕ (Bool)):=fun (x1,x3)=>
 bif decide (x3<(x1.1.length:Int)) then
 (bif inB x3 x1.1.length then
 (ψ24.f ((rdA ([],[],0) x1.1 x3).1)).bind fun t4=>
 bif !t4 then
 some (Sum.inr false)
 else
 bif inB x3 x1.1.length then
 bif inB x3 x1.1.length then
 (ψ2w.f (((rdA ([],[],0) x1.1 x3).2).2) 0 ((((rdA ([],[],0) x1.1 x3).2).1).length:Int)).bind fun t5=>
 bif !t5 then
 some (Sum.inr false)
 else
 bif decide (x3 > 0) then
 bif inB x3 x1.1.length then
 bif inB (w64 (x3 - 1)) x1.1.length then
 bif (Op.bytesLess ((rdA ([],[],0) x1.1 x3).1) ((rdA ([],[],0) x1.1 (w64 (x3 - 1))).1) || ((rdA ([],[],0) x1.1 x3).1)==((rdA ([],[],0) x1.1 (w64 (x3 - 1))).1)) then
 some (Sum.inr false)
 else
 some (Sum.inl (x1,x3))
 else none
 else none
 else
 some (Sum.inl (x1,x3))
 else none
 else none
 else none:Option (((QD)×Int) ⊕ (Bool))).bind (fun o6=>caseS o6 (fun (x1,x3)=>
 rec (x1,w64 (x3+1))) (fun x2=>
 some (Sum.inr x2)))
 else
 some (Sum.inl ())
def ψ1q.f (p0:QD):Option (Bool):=
 bif decide ((p0.1.length:Int) > 130) then
 some false
 else
 (ψ2w.f p0.2.1 0 100000).bind fun t1=>
 bif !t1 then
 some false
 else
 (ψ2w.f p0.2.2.1 (-1) 100000).bind fun t2=>
 bif !t2 then
 some false
 else
 (ψ39.f p0).bind fun t3=>
 bif decide (t3 > p0.2.1) then
 some false
 else
 (lp ψ1q.l0 (p0,0)).bind (fun o7=>caseS o7 (fun _=>
 some true) (fun x2=>
 some x2))
def ψS.l0 (rec:(QB×Int)→Option ((QB) ⊕ (Bool))):(QB×Int)→Option ((QB) ⊕ (Bool)):=fun (x0,x3)=>
 bif decide (x3<(x0.length:Int)) then
 (bif inB x3 x0.length then
 bif decide ((bAt x0 x3)≥97) then
 bif inB x3 x0.length then
 bif !(decide ((bAt x0 x3)≤122)) then
 bif inB x3 x0.length then
 bif decide ((bAt x0 x3)≥48) then
 bif inB x3 x0.length then
 bif !(decide ((bAt x0 x3)≤57)) then
 some (Sum.inr false)
 else
 some (Sum.inl (x0,x3))
 else none
 else
 some (Sum.inr false)
 else none
 else
 some (Sum.inl (x0,x3))
 else none
 else
 bif inB x3 x0.length then
 bif decide ((bAt x0 x3)≥48) then
 bif inB x3 x0.length then
 bif !(decide ((bAt x0 x3)≤57)) then
 some (Sum.inr false)
 else
 some (Sum.inl (x0,x3))
 else none
 else
 some (Sum.inr false)
 else none
 else none:Option ((QB×Int) ⊕ (Bool))).bind (fun o1=>caseS o1 (fun (x0,x3)=>
 rec (x0,w64 (x3+1))) (fun x2=>
 some (Sum.inr x2)))
 else
 some (Sum.inl x0)
def ψS.f (p0:QB):Option (Bool):=
 (lp ψS.l0 (p0,0)).bind (fun o2=>caseS o2 (fun x0=>
 (ψ15.f (x0.length:Int) 1 12).bind fun t3=>
 some t3) (fun x2=>
 some x2))
def ψB.l0 (rec:((QD)×Int×List (QF)×Int×Int)→Option (((QD)×Int) ⊕ (Bool))):((QD)×Int×List (QF)×Int×Int)→Option (((QD)×Int) ⊕ (Bool)):=fun (x1,x3,x23,x24,x25)=>
 bif decide (x25<x24) then
 bif inB x25 x23.length then
 let y3:=(rdA ([],[],0) x23 x25).1
 let y4:=((rdA ([],[],0) x23 x25).2).1
 let y5:=((rdA ([],[],0) x23 x25).2).2
 ((ψS.f y3).bind fun t6=>
 bif !t6 then
 some (Sum.inr false)
 else
 (ψ15.f y5 0 (y4.length:Int)).bind fun t7=>
 bif !t7 then
 some (Sum.inr false)
 else
 bif decide (x25 > 0) then
 bif inB (w64 (x25 - 1)) x1.1.length then
 bif !(Op.bytesLess ((rdA ([],[],0) x1.1 (w64 (x25 - 1))).1) y3) then
 some (Sum.inr false)
 else
 some (Sum.inl (x1,x3,(y3,y4,y5),x23,x24,x25))
 else none
 else
 some (Sum.inl (x1,x3,(y3,y4,y5),x23,x24,x25)):Option (((QD)×Int×(QF)×List (QF)×Int×Int) ⊕ (Bool))).bind (fun o8=>caseS o8 (fun (x1,x3,x5,x23,x24,x25)=>
 let y9:=w64 (x3+(x5.2.1.length:Int))
 rec (x1,y9,x23,x24,w64 (x25+1))) (fun x2=>
 some (Sum.inr x2)))
 else none
 else
 some (Sum.inl (x1,x3))
def ψB.f (p0:QD):Option (Bool):=
 bif decide ((p0.1.length:Int) > 130) then
 some false
 else
 (ψ15.f p0.2.1 0 100000).bind fun t1=>
 bif !t1 then
 some false
 else
 (ψ15.f p0.2.2.1 (-1) 100000).bind fun t2=>
 bif !t2 then
 some false
 else
 (lp ψB.l0 (p0,0,p0.1,(p0.1.length:Int),0)).bind (fun o10=>caseS o10 (fun (x1,x3)=>
 let y11:=decide (x3≤x1.2.1)
 some y11) (fun x2=>
 some x2))
def ψ1m.l0 (rec:(List (QE)×QB×(QE)×Int)→Option ((QE) ⊕ ((QE)×Bool))):(List (QE)×QB×(QE)×Int)→Option ((QE) ⊕ ((QE)×Bool)):=fun (x0,x1,x4,x6)=>
 bif decide (x6<(x0.length:Int)) then
 bif inB x6 x0.length then
 bif ((rdA ([],0,0,0,0) x0 x6).1)==x1 then
 bif inB x6 x0.length then
 let y1:=(rdA ([],0,0,0,0) x0 x6).1
 let y2:=((rdA ([],0,0,0,0) x0 x6).2).1
 let y3:=(((rdA ([],0,0,0,0) x0 x6).2).2).1
 let y4:=((((rdA ([],0,0,0,0) x0 x6).2).2).2).1
 let y5:=((((rdA ([],0,0,0,0) x0 x6).2).2).2).2
 some (Sum.inr ((y1,y2,y3,y4,y5),true))
 else none
 else
 rec (x0,x1,x4,w64 (x6+1))
 else none
 else
 some (Sum.inl x4)
def ψ1m.f (p0:List (QE)) (p1:QB):Option ((QE)×Bool):=
 (lp ψ1m.l0 (p0,p1,([],0,0,0,0),0)).bind (fun o6=>caseS o6 (fun x4=>
 some (([],0,0,0,0),false)) (fun (x4,x5)=>
 some (x4,x5)))
def ψ7.l0 (rec:(QB×(QE)×List (QE)×Int×Int)→Option ((QE) ⊕ ((QE)×Bool))):(QB×(QE)×List (QE)×Int×Int)→Option ((QE) ⊕ ((QE)×Bool)):=fun (x1,x4,x8,x9,x10)=>
 bif decide (x10<x9) then
 bif inB x10 x8.length then
 let y1:=(rdA ([],0,0,0,0) x8 x10).1
 let y2:=((rdA ([],0,0,0,0) x8 x10).2).1
 let y3:=(((rdA ([],0,0,0,0) x8 x10).2).2).1
 let y4:=((((rdA ([],0,0,0,0) x8 x10).2).2).2).1
 let y5:=((((rdA ([],0,0,0,0) x8 x10).2).2).2).2
 bif y1==x1 then
 some (Sum.inr ((y1,y2,y3,y4,y5),true))
 else
 rec (x1,x4,x8,x9,w64 (x10+1))
 else none
 else
 some (Sum.inl x4)
def ψ7.f (p0:List (QE)) (p1:QB):Option ((QE)×Bool):=
 (lp ψ7.l0 (p1,([],0,0,0,0),p0,(p0.length:Int),0)).bind (fun o6=>caseS o6 (fun x4=>
 some (([],0,0,0,0),false)) (fun (x4,x5)=>
 some (x4,x5)))
def ψ36.l0 (rec:(QB×(QD)×Int)→Option ((Unit) ⊕ (Int))):(QB×(QD)×Int)→Option ((Unit) ⊕ (Int)):=fun (x1,x2,x5)=>
 bif decide (x5<(x2.1.length:Int)) then
 bif inB x5 x2.1.length then
 bif ((rdA ([],[],0) x2.1 x5).1)==x1 then
 some (Sum.inr x5)
 else
 rec (x1,x2,w64 (x5+1))
 else none
 else
 some (Sum.inl ())
def ψ36.f (p0:QD) (p1:QB):Option (Int):=
 (lp ψ36.l0 (p1,p0,0)).bind (fun o1=>caseS o1 (fun _=>
 some (-1)) (fun x4=>
 some x4))
def ψ11.l0 (rec:(QB×List (QF)×Int×Int)→Option ((Unit) ⊕ (Int))):(QB×List (QF)×Int×Int)→Option ((Unit) ⊕ (Int)):=fun (x1,x8,x9,x10)=>
 bif decide (x10<x9) then
 bif inB x10 x8.length then
 let y1:=(rdA ([],[],0) x8 x10).1
 let y2:=((rdA ([],[],0) x8 x10).2).1
 let y3:=((rdA ([],[],0) x8 x10).2).2
 bif y1==x1 then
 some (Sum.inr x10)
 else
 rec (x1,x8,x9,w64 (x10+1))
 else none
 else
 some (Sum.inl ())
def ψ11.f (p0:QD) (p1:QB):Option (Int):=
 (lp ψ11.l0 (p1,p0.1,(p0.1.length:Int),0)).bind (fun o4=>caseS o4 (fun _=>
 some (-1)) (fun x4=>
 some x4))
def ψ2X.l0 (rec:(Int×List Int)→Option (Int×List Int)):(Int×List Int)→Option (Int×List Int):=fun (x0,x3)=>
 bif decide (x0≥128) then
 bif decide ((x3.length+[IntKind.wrap .u8 (w64 (128+(Int.tmod x0 128)))].length) * 1≤140737488355328) then
 let l2:=x3++[IntKind.wrap .u8 (w64 (128+(Int.tmod x0 128)))]
 let y3:=w64 (Int.tdiv x0 128)
 rec (y3,l2)
 else none
 else
 some (x0,x3)
def ψ2X.f (p0:Int):Option (QB):=
 (ψ2w.f p0 0 562949953421311).bind fun t1=>
 bif !t1 then
 some []
 else
 (lp ψ2X.l0 (p0,([]:List Int))).bind (fun (x0,x3)=>
 bif decide ((x3.length+[IntKind.wrap .u8 (x0)].length) * 1≤140737488355328) then
 let l4:=x3++[IntKind.wrap .u8 (x0)]
 some (strOf l4)
 else none)
def ψ1u.l0 (rec:(Int×Int×QB×Int)→Option (Int×QB)):(Int×Int×QB×Int)→Option (Int×QB):=fun (x0,x1,x5,x6)=>
 bif decide (x6<x1) then
 bif decide ((strOf [IntKind.wrap .u8 (Int.tmod x0 256)]).length+x5.length≤9223372036854775807) then
 let y2:=(strOf [IntKind.wrap .u8 (Int.tmod x0 256)])++x5
 let y3:=w64 (Int.tdiv x0 256)
 rec (y3,x1,y2,w64 (x6+1))
 else none
 else
 some (x0,x5)
def ψ1u.f (p0:Int) (p1:Int):Option (QB):=
 (ψ2w.f p1 1 7).bind fun t1=>
 bif !t1 then
 some []
 else
 bif decide (p0<0) then
 some []
 else
 (lp ψ1u.l0 (p0,p1,[],0)).bind (fun (x0,x5)=>
 bif decide (x0 > 0) then
 some []
 else
 some x5)
def ψ1i.l2 (rec:(QB×Int×Int×Int)→Option (QB×Int×Int)):(QB×Int×Int×Int)→Option (QB×Int×Int):=fun (x0,x3,x4,x5)=>
 bif decide (x5<8) then
 let y2:=w64 (Int.tdiv x3 2)
 (bif (Int.tmod x3 2)==1 then
 let y3:=bits (fun _ a b=>a ^^^ b) .i64 y2 2197175160
 some (x0,y3,x4,x5)
 else
 some (x0,y2,x4,x5):Option (QB×Int×Int×Int)).bind (fun (x0,x3,x4,x5)=>
 rec (x0,x3,x4,w64 (x5+1)))
 else
 some (x0,x3,x4)
def ψ1i.l0 (rec:(QB×Int×Int)→Option (Int)):(QB×Int×Int)→Option (Int):=fun (x0,x3,x4)=>
 bif decide (x4<(x0.length:Int)) then
 bif inB x4 x0.length then
 let y1:=bits (fun _ a b=>a ^^^ b) .i64 x3 (w64 (bAt x0 x4))
 (lp ψ1i.l2 (x0,y1,x4,0)).bind (fun (x0,x3,x4)=>
 rec (x0,x3,w64 (x4+1)))
 else none
 else
 some x3
def ψ1i.f (p0:QB):Option (Int):=
 (lp ψ1i.l0 (p0,4294967295,0)).bind (fun x3=>
 let y4:=w64 (4294967295 - x3)
 some y4)
def ψ1v.f (p0:QB):Option (QB):=
 bif decide ((p0.length:Int) > 200) then
 some []
 else
 (ψ2X.f (p0.length:Int)).bind fun t1=>
 bif decide (t1.length+p0.length≤9223372036854775807) then
 (ψ1i.f (t1++p0)).bind fun t2=>
 (ψ1u.f t2 4).bind fun t3=>
 bif decide (t3.length+(t1++p0).length≤9223372036854775807) then
 let y4:=t3++(t1++p0)
 some y4
 else none
 else none
def ψ2G.f (p0:QR):Option (Bool):=
 ((ψ2w.f p0.2.1 0 1000000).bind fun t1=>
 bif !t1 then
 some (Sum.inr false)
 else
 bif p0.2.1==0 then
 bif p0.1 != 5 then
 some (Sum.inr false)
 else
 some (Sum.inl p0)
 else
 some (Sum.inl p0):Option ((QR) ⊕ (Bool))).bind (fun o2=>caseS o2 (fun x1=>
 (bif x1.1==1 then
 some (x1,x1.1,x1.1==1)
 else
 some (x1,x1.1,x1.1==4):Option ((QR)×Int×Bool)).bind (fun (x1,x18,x19)=>
 bif x19 then
 (ψ21.f x1.2.2.1).bind fun t3=>
 bif t3 then
 bif decide ((x1.2.2.2.1.length:Int)≤24) then
 bif x1.2.2.2.2.1==0 then
 let y4:=x1.2.2.2.2.2==0
 some y4
 else
 some false
 else
 some false
 else
 some false
 else
 bif x18==2 then
 (ψ21.f x1.2.2.1).bind fun t5=>
 bif t5 then
 bif x1.2.2.2.1==[] then
 bif x1.2.2.2.2.1==0 then
 let y6:=x1.2.2.2.2.2==0
 some y6
 else
 some false
 else
 some false
 else
 some false
 else
 bif x18==3 then
 bif x1.2.2.1==[] then
 bif x1.2.2.2.1==[] then
 (ψ2w.f x1.2.2.2.2.1 0 8).bind fun t7=>
 bif t7 then
 (ψ2w.f x1.2.2.2.2.2 0 4294967295).bind fun t8=>
 some t8
 else
 some false
 else
 some false
 else
 some false
 else
 bif x18==5 then
 bif x1.2.2.1==[] then
 bif x1.2.2.2.1==[] then
 (ψ2w.f x1.2.2.2.2.1 0 20).bind fun t9=>
 bif t9 then
 (ψ2w.f x1.2.2.2.2.2 0 4294967295).bind fun t10=>
 some t10
 else
 some false
 else
 some false
 else
 some false
 else
 some false)) (fun x2=>
 some x2))
def ψ2R.f (p0:QR):Option (QB):=
 (ψ2G.f p0).bind fun t1=>
 bif !t1 then
 some []
 else
 (ψ2X.f p0.1).bind fun t2=>
 (ψ2X.f p0.2.1).bind fun t3=>
 bif decide (t2.length+t3.length≤9223372036854775807) then
 (bif p0.1==1 then
 some (p0,t2++t3,p0.1,p0.1==1)
 else
 some (p0,t2++t3,p0.1,p0.1==4):Option ((QR)×QB×Int×Bool)).bind (fun (x1,x3,x15,x16)=>
 bif x16 then
 (ψ2X.f (x1.2.2.1.length:Int)).bind fun t4=>
 bif decide (x3.length+t4.length≤9223372036854775807) then
 bif decide ((x3++t4).length+x1.2.2.1.length≤9223372036854775807) then
 (ψ2X.f (x1.2.2.2.1.length:Int)).bind fun t5=>
 bif decide (((x3++t4)++x1.2.2.1).length+t5.length≤9223372036854775807) then
 bif decide ((((x3++t4)++x1.2.2.1)++t5).length+x1.2.2.2.1.length≤9223372036854775807) then
 let y6:=(((x3++t4)++x1.2.2.1)++t5)++x1.2.2.2.1
 some y6
 else none
 else none
 else none
 else none
 else
 bif x15==2 then
 (ψ2X.f (x1.2.2.1.length:Int)).bind fun t7=>
 bif decide (x3.length+t7.length≤9223372036854775807) then
 bif decide ((x3++t7).length+x1.2.2.1.length≤9223372036854775807) then
 let y8:=(x3++t7)++x1.2.2.1
 some y8
 else none
 else none
 else
 (ψ2X.f x1.2.2.2.2.1).bind fun t9=>
 bif decide (x3.length+t9.length≤9223372036854775807) then
 (ψ1u.f x1.2.2.2.2.2 4).bind fun t10=>
 bif decide ((x3++t9).length+t10.length≤9223372036854775807) then
 let y11:=(x3++t9)++t10
 some y11
 else none
 else none)
 else none
def ψw.l0 (rec:(Int×List Int)→Option (Int×List Int)):(Int×List Int)→Option (Int×List Int):=fun (x0,x3)=>
 bif decide (x0 > 127) then
 bif decide ((x3.length+[IntKind.wrap .u8 (w64 ((Int.tmod x0 128)+128))].length) * 1≤140737488355328) then
 let l2:=x3++[IntKind.wrap .u8 (w64 ((Int.tmod x0 128)+128))]
 let y3:=w64 (Int.tdiv x0 128)
 rec (y3,l2)
 else none
 else
 some (x0,x3)
def ψw.f (p0:Int):Option (QB):=
 (ψ15.f p0 0 562949953421311).bind fun t1=>
 bif !t1 then
 some []
 else
 (lp ψw.l0 (p0,[])).bind (fun (x0,x3)=>
 bif decide ((x3.length+[IntKind.wrap .u8 (x0)].length) * 1≤140737488355328) then
 let l4:=x3++[IntKind.wrap .u8 (x0)]
 some (strOf l4)
 else none)
def ψ1J.f (p0:QB):Option (QB):=
 (ψw.f (p0.length:Int)).bind fun t1=>
 bif decide (t1.length+p0.length≤9223372036854775807) then
 some (t1++p0)
 else none
def ψH.l0 (rec:(Int×List Int×Int)→Option (List Int)):(Int×List Int×Int)→Option (List Int):=fun (x0,x5,x6)=>
 bif decide (x6≥0) then
 bif decide (0≤(w64 (8 * x6))) then
 bif decide ((x5.length+[IntKind.wrap .u8 (Int.fdiv x0 (2 ^ (min (w64 (8 * x6)).toNat 64)))].length) * 1≤140737488355328) then
 let l3:=x5++[IntKind.wrap .u8 (Int.fdiv x0 (2 ^ (min (w64 (8 * x6)).toNat 64)))]
 rec (x0,l3,w64 (x6 - 1))
 else none
 else none
 else
 some x5
def ψH.f (p0:Int) (p1:Int):Option (QB):=
 (ψ15.f p1 1 7).bind fun t1=>
 bif !t1 then
 some []
 else
 bif decide (0≤(w64 (8 * p1))) then
 (ψ15.f p0 0 (w64 ((w64 (1 * 2 ^ (min (w64 (8 * p1)).toNat 64))) - 1))).bind fun t2=>
 bif !t2 then
 some []
 else
 (lp ψH.l0 (p0,[],w64 (p1 - 1))).bind (fun x5=>
 some (strOf x5))
 else none
def ψc.f (p0:QR):Option (Bool):=
 (bif p0.1==1 then
 some (p0,(p0.1,p0.2.1,[],[],0,0),false,1,p0.1,p0.1==1)
 else
 some (p0,(p0.1,p0.2.1,[],[],0,0),false,1,p0.1,p0.1==4):Option ((QR)×(QR)×Bool×Int×Int×Bool)).bind (fun (x1,x3,x4,x5,x12,x13)=>
 bif x13 then
 (ψP.f x1.2.2.1).bind fun t1=>
 bif t1 then
 let y2:=decide ((x1.2.2.2.1.length:Int)≤24)
 bif y2 then
 (ψ15.f x1.2.1 x5 1000000).bind fun t3=>
 bif t3 then
 let y4:=(x1.1==x3.1 && (x1.2.1==x3.2.1 && (x1.2.2.1==x1.2.2.1 && (x1.2.2.2.1==x1.2.2.2.1 && (x1.2.2.2.2.1==x3.2.2.2.2.1 && (x1.2.2.2.2.2==x3.2.2.2.2.2))))))
 some y4
 else
 some false
 else
 some false
 else
 some false
 else
 bif x12==2 then
 (ψP.f x1.2.2.1).bind fun t5=>
 bif t5 then
 (ψ15.f x1.2.1 x5 1000000).bind fun t6=>
 bif t6 then
 let y7:=(x1.1==x3.1 && (x1.2.1==x3.2.1 && (x1.2.2.1==x1.2.2.1 && (x1.2.2.2.1==x3.2.2.2.1 && (x1.2.2.2.2.1==x3.2.2.2.2.1 && (x1.2.2.2.2.2==x3.2.2.2.2.2))))))
 some y7
 else
 some false
 else
 some false
 else
 bif x12==3 then
 (ψ15.f x1.2.2.2.2.1 0 8).bind fun t8=>
 bif t8 then
 (ψ15.f x1.2.2.2.2.2 0 4294967295).bind fun t9=>
 bif t9 then
 (ψ15.f x1.2.1 x5 1000000).bind fun t10=>
 bif t10 then
 let y11:=(x1.1==x3.1 && (x1.2.1==x3.2.1 && (x1.2.2.1==x3.2.2.1 && (x1.2.2.2.1==x3.2.2.2.1 && (x1.2.2.2.2.1==x1.2.2.2.2.1 && (x1.2.2.2.2.2==x1.2.2.2.2.2))))))
 some y11
 else
 some false
 else
 some false
 else
 some false
 else
 bif x12==5 then
 (ψ15.f x1.2.2.2.2.1 0 20).bind fun t12=>
 bif t12 then
 (ψ15.f x1.2.2.2.2.2 0 4294967295).bind fun t13=>
 bif t13 then
 (ψ15.f x1.2.1 0 1000000).bind fun t14=>
 bif t14 then
 let y15:=(x1.1==x3.1 && (x1.2.1==x3.2.1 && (x1.2.2.1==x3.2.2.1 && (x1.2.2.2.1==x3.2.2.2.1 && (x1.2.2.2.2.1==x1.2.2.2.2.1 && (x1.2.2.2.2.2==x1.2.2.2.2.2))))))
 some y15
 else
 some false
 else
 some false
 else
 some false
 else
 bif x4 then
 (ψ15.f x1.2.1 x5 1000000).bind fun t16=>
 bif t16 then
 let y17:=(x1.1==x3.1 && (x1.2.1==x3.2.1 && (x1.2.2.1==x3.2.2.1 && (x1.2.2.2.1==x3.2.2.2.1 && (x1.2.2.2.2.1==x3.2.2.2.2.1 && (x1.2.2.2.2.2==x3.2.2.2.2.2))))))
 some y17
 else
 some false
 else
 some false)
def ψ2.l2 (rec:(QB×Int×Int×Int)→Option (QB×Int×Int)):(QB×Int×Int×Int)→Option (QB×Int×Int):=fun (x0,x3,x4,x18)=>
 bif decide (x18<8) then
 let y2:=bits (fun _ a b=>a &&& b) .u32 x3 1
 let y3:=Int.fdiv x3 (2 ^ (min 1 32))
 (bif y2==1 then
 let y4:=bits (fun _ a b=>a ^^^ b) .u32 y3 2197175160
 some (x0,y4,x4,x18)
 else
 some (x0,y3,x4,x18):Option (QB×Int×Int×Int)).bind (fun (x0,x3,x4,x18)=>
 rec (x0,x3,x4,w64 (x18+1)))
 else
 some (x0,x3,x4)
def ψ2.l0 (rec:(QB×Int×Int)→Option (Int)):(QB×Int×Int)→Option (Int):=fun (x0,x3,x4)=>
 bif decide (x4<(x0.length:Int)) then
 bif inB x4 x0.length then
 let y1:=bits (fun _ a b=>a ^^^ b) .u32 x3 (IntKind.wrap .u32 (bAt x0 x4))
 (lp ψ2.l2 (x0,y1,x4,0)).bind (fun (x0,x3,x4)=>
 rec (x0,x3,w64 (x4+1)))
 else none
 else
 some x3
def ψ2.f (p0:QB):Option (Int):=
 (lp ψ2.l0 (p0,4294967295,0)).bind (fun x3=>
 let y5:=w64 (bits (fun _ a b=>a ^^^ b) .u32 4294967295 x3)
 some y5)
def ψI.f (p0:QB):Option (QB):=
 bif decide ((p0.length:Int) > 200) then
 some []
 else
 (ψ1J.f p0).bind fun t1=>
 (ψ2.f t1).bind fun t2=>
 (ψH.f t2 4).bind fun t3=>
 bif decide (t3.length+t1.length≤9223372036854775807) then
 some (t3++t1)
 else none
def ψ1t.f (p0:QD) (p1:QB):Option (QB×Bool):=
 (ψ1q.f p0).bind fun t1=>
 bif !t1 then
 some ([],false)
 else
 (ψ36.f p0 p1).bind fun t2=>
 bif decide (t2<0) then
 some ([],false)
 else
 bif inB t2 p0.1.length then
 let y3:=((rdA ([],[],0) p0.1 t2).2).1
 some (y3,true)
 else none
def ψG.f (p0:QD) (p1:QB):Option (QB×Bool):=
 (ψ11.f p0 p1).bind fun t1=>
 bif decide (t1<0) then
 some ([],false)
 else
 (ψB.f p0).bind fun t2=>
 bif !t2 then
 some ([],false)
 else
 bif inB t1 p0.1.length then
 let y3:=((rdA ([],[],0) p0.1 t1).2).1
 some (y3,true)
 else none
def ψ2O.f (p0:Int):Option (QB):=
 (ψ2w.f p0 1 100000).bind fun t1=>
 bif !t1 then
 some []
 else
 (ψ1k.f p0).bind fun t2=>
 bif decide (([115,101,103]:QB).length+t2.length≤9223372036854775807) then
 let y3:=[115,101,103]++t2
 some y3
 else none
def ψ5.f (p0:Int):Option (QB):=
 (strconv_Itoa.f p0).bind fun t1=>
 some t1
def ψ17.f (p0:QB) (p1:Int):Option (QB):=
 (ψ15.f p1 1 100000).bind fun t1=>
 bif !t1 then
 some []
 else
 (ψ5.f p1).bind fun t2=>
 bif decide (p0.length+t2.length≤9223372036854775807) then
 some (p0++t2)
 else none
def ψk.f (p0:Int):Option (QB):=
 (ψ17.f [115,101,103] p0).bind fun t1=>
 some t1
def ψ2E.l2 (rec:(QB×Int×Int×Int)→Option (QB×Int×Int)):(QB×Int×Int×Int)→Option (QB×Int×Int):=fun (x0,x4,x5,x6)=>
 bif decide (x6≥0) then
 bif inB x6 x0.length then
 let y1:=w64 ((w64 (x5 * 128))+(Int.tmod (w64 (bAt x0 x6)) 128))
 rec (x0,x4,y1,w64 (x6 - 1))
 else none
 else
 some (x0,x4,x5)
def ψ2E.l0 (rec:(QB×Int)→Option ((Unit) ⊕ (Int×Int))):(QB×Int)→Option ((Unit) ⊕ (Int×Int)):=fun (x0,x4)=>
 bif decide (x4≤7) then
 bif decide (x4≤(x0.length:Int)) then
 (lp ψ2E.l2 (x0,x4,0,w64 (x4 - 1))).bind (fun (x0,x4,x5)=>
 (ψ2X.f x5).bind fun t2=>
 bif (decide (0≤x4) && decide (x4≤(x0.length:Int))) then
 bif t2==(x0.take x4.toNat) then
 some (Sum.inr (x5,x4))
 else
 rec (x0,w64 (x4+1))
 else none)
 else
 some (Sum.inl ())
 else
 some (Sum.inl ())
def ψ2E.f (p0:QB):Option (Int×Int):=
 (lp ψ2E.l0 (p0,1)).bind (fun o3=>caseS o3 (fun _=>
 some (0,0)) (fun (x2,x3)=>
 some (x2,x3)))
def ψ2W.f (p0:QB):Option (QB×Int):=
 bif decide ((p0.length:Int)<5) then
 some ([],0)
 else
 bif (decide (0≤(4:Int)) && decide (4≤(p0.length:Int))) then
 (ψ2E.f (p0.drop 4)).bind fun (t1_0,t1_1)=>
 bif t1_1==0 then
 some ([],0)
 else
 bif decide (t1_0 > 200) then
 some ([],0)
 else
 bif decide (t1_0 > (w64 ((w64 ((p0.length:Int) - 4)) - t1_1))) then
 some ([],0)
 else
 bif (decide (0≤w64 ((w64 (4+t1_1))+t1_0)) && decide (w64 ((w64 (4+t1_1))+t1_0)≤(p0.length:Int))) then
 bif (decide (0≤w64 (4+t1_1)) && decide (w64 (4+t1_1)≤w64 ((w64 (4+t1_1))+t1_0))) then
 let y2:=(p0.take ((w64 ((w64 (4+t1_1))+t1_0)).toNat)).drop ((w64 (4+t1_1)).toNat)
 bif (decide (0≤w64 ((w64 (4+t1_1))+t1_0)) && decide (w64 ((w64 (4+t1_1))+t1_0)≤(p0.length:Int))) then
 (ψ1v.f y2).bind fun t3=>
 bif !((p0.take ((w64 ((w64 (4+t1_1))+t1_0)).toNat))==t3) then
 some ([],0)
 else
 let y4:=w64 ((w64 (4+t1_1))+t1_0)
 some (y2,y4)
 else none
 else none
 else none
 else none
def ψ3C.f (p0:QB):Option (QB×QB×Bool):=
 (ψ2E.f p0).bind fun (t1_0,t1_1)=>
 bif t1_1==0 then
 some ([],[],false)
 else
 bif decide (t1_0 > (w64 ((p0.length:Int) - t1_1))) then
 some ([],[],false)
 else
 bif (decide (0≤w64 (t1_1+t1_0)) && decide (w64 (t1_1+t1_0)≤(p0.length:Int))) then
 bif (decide (0≤t1_1) && decide (t1_1≤w64 (t1_1+t1_0))) then
 bif (decide (0≤w64 (t1_1+t1_0)) && decide (w64 (t1_1+t1_0)≤(p0.length:Int))) then
 let y2:=(p0.take ((w64 (t1_1+t1_0)).toNat)).drop t1_1.toNat
 let y3:=p0.drop ((w64 (t1_1+t1_0)).toNat)
 some (y2,y3,true)
 else none
 else none
 else none
def ψ2A.l0 (rec:(QB×Int×Int×Int)→Option (Int)):(QB×Int×Int×Int)→Option (Int):=fun (x0,x1,x6,x7)=>
 bif decide (x7<x1) then
 bif inB x7 x0.length then
 let y2:=w64 ((w64 (x6 * 256))+(w64 (bAt x0 x7)))
 rec (x0,x1,y2,w64 (x7+1))
 else none
 else
 some x6
def ψ2A.f (p0:QB) (p1:Int):Option (Int×Bool):=
 (ψ2w.f p1 1 7).bind fun t1=>
 bif !t1 then
 some (0,false)
 else
 bif decide ((p0.length:Int)<p1) then
 some (0,false)
 else
 (lp ψ2A.l0 (p0,p1,0,0)).bind (fun x6=>
 some (x6,true))
def ψ2D.f (p0:QB):Option ((QR)×Bool):=
 (ψ2E.f p0).bind fun (t1_0,t1_1)=>
 bif (decide (0≤t1_1) && decide (t1_1≤(p0.length:Int))) then
 (ψ2E.f (p0.drop t1_1.toNat)).bind fun (t2_0,t2_1)=>
 bif t1_1==0 then
 some ((0,0,[],[],0,0),false)
 else
 bif t2_1==0 then
 some ((0,0,[],[],0,0),false)
 else
 bif (decide (0≤w64 (t1_1+t2_1)) && decide (w64 (t1_1+t2_1)≤(p0.length:Int))) then
 let y3:=p0.drop ((w64 (t1_1+t2_1)).toNat)
 ((bif t1_0==1 then
 some (p0,(0,0,[],[],0,0),(t1_0,t2_0,[],[],0,0),y3,t1_0,t1_0==1)
 else
 some (p0,(0,0,[],[],0,0),(t1_0,t2_0,[],[],0,0),y3,t1_0,t1_0==4):Option (QB×(QR)×(QR)×QB×Int×Bool)).bind (fun (x0,x2,x8,x9,x50,x67)=>
 bif x67 then
 (ψ3C.f x9).bind fun (t4_0,t4_1,t4_2)=>
 (ψ3C.f t4_1).bind fun (t5_0,t5_1,t5_2)=>
 some (x0,x2,(x8.1,x8.2.1,t4_0,t5_0,x8.2.2.2.2))
 else
 (bif x50==2 then
 (ψ3C.f x9).bind fun (t6_0,t6_1,t6_2)=>
 some (x0,x2,(x8.1,x8.2.1,t6_0,x8.2.2.2))
 else
 (ψ2E.f x9).bind fun (t7_0,t7_1)=>
 bif (decide (0≤t7_1) && decide (t7_1≤(x9.length:Int))) then
 (ψ2A.f (x9.drop t7_1.toNat) 4).bind fun (t8_0,t8_1)=>
 some (x0,x2,(x8.1,x8.2.1,x8.2.2.1,x8.2.2.2.1,t7_0,t8_0))
 else none:Option (QB×(QR)×QR)).bind (fun (x0,x2,x8)=>
 some (x0,x2,x8))):Option (QB×(QR)×QR)).bind (fun (x0,x2,x8)=>
 (ψ2R.f x8).bind fun t9=>
 bif !(t9==x0) then
 some ((0,0,[],[],0,0),false)
 else
 bif x0==[] then
 some ((0,0,[],[],0,0),false)
 else
 some (x8,true))
 else none
 else none
def ψ2F.f (p0:QB) (p1:Int) (p2:Int):Option ((QR)×Bool):=
 (ψ2w.f p1 0 (p0.length:Int)).bind fun t1=>
 bif !t1 then
 some ((0,0,[],[],0,0),false)
 else
 (ψ2w.f p2 1 (w64 ((p0.length:Int) - p1))).bind fun t2=>
 bif !t2 then
 some ((0,0,[],[],0,0),false)
 else
 bif (decide (0≤w64 (p1+p2)) && decide (w64 (p1+p2)≤(p0.length:Int))) then
 bif (decide (0≤p1) && decide (p1≤w64 (p1+p2))) then
 (ψ2W.f ((p0.take ((w64 (p1+p2)).toNat)).drop p1.toNat)).bind fun (t3_0,t3_1)=>
 (ψ2D.f t3_0).bind fun (t4_0,t4_1)=>
 bif t3_1 != p2 then
 some ((0,0,[],[],0,0),false)
 else
 bif !t4_1 then
 some ((0,0,[],[],0,0),false)
 else
 some (t4_0,true)
 else none
 else none
def ψ1w.f (p0:QS) (p1:QD) (p2:QB):Option ((QF)×Int):=
 (ψ1m.f p0.2.1 p2).bind fun (t1_0,t1_1)=>
 bif !t1_1 then
 some (([],[],0),8)
 else
 (ψ2O.f t1_0.2.1).bind fun t2=>
 (ψ1t.f p1 t2).bind fun (t3_0,t3_1)=>
 (ψ2F.f t3_0 t1_0.2.2.1 t1_0.2.2.2.1).bind fun (t4_0,t4_1)=>
 bif !t3_1 then
 some (([],[],0),3)
 else
 bif !t4_1 then
 some (([],[],0),3)
 else
 bif !(t4_0.2.2.1==p2) then
 some (([],[],0),3)
 else
 bif t4_0.1 != 1 then
 bif t4_0.1 != 4 then
 some (([],[],0),3)
 else
 some ((p2,t4_0.2.2.2.1,t4_0.2.1),0)
 else
 some ((p2,t4_0.2.2.2.1,t4_0.2.1),0)
def ψa.l0 (rec:(QB×Int×Int)→Option ((Unit) ⊕ (Int×Int))):(QB×Int×Int)→Option ((Unit) ⊕ (Int×Int)):=fun (x0,x4,x5)=>
 bif decide (x5<7) then
 bif decide (x5<(x0.length:Int)) then
 bif inB x5 x0.length then
 let y1:=w64 (bAt x0 x5)
 bif decide (0≤(w64 (7 * x5))) then
 let y2:=w64 (x4+(w64 ((Int.tmod y1 128) * 2 ^ (min (w64 (7 * x5)).toNat 64))))
 bif decide (y1≥128) then
 rec (x0,y2,w64 (x5+1))
 else
 (bif y1==0 then
 bif decide (x5 > 0) then
 some (Sum.inr (0,0))
 else
 some (Sum.inl (y2,x5))
 else
 some (Sum.inl (y2,x5)):Option ((Int×Int) ⊕ (Int×Int))).bind (fun o3=>caseS o3 (fun (x4,x5)=>
 some (Sum.inr (x4,w64 (x5+1)))) (fun (x2,x3)=>
 some (Sum.inr (x2,x3))))
 else none
 else none
 else
 some (Sum.inl ())
 else
 some (Sum.inl ())
def ψa.f (p0:QB):Option (Int×Int):=
 (lp ψa.l0 (p0,0,0)).bind (fun o4=>caseS o4 (fun _=>
 some (0,0)) (fun (x2,x3)=>
 some (x2,x3)))
def ψv.f (p0:QB):Option (QB×Int):=
 bif decide ((p0.length:Int)<4) then
 some ([],0)
 else
 bif (decide (0≤(4:Int)) && decide (4≤(p0.length:Int))) then
 (ψa.f (p0.drop 4)).bind fun (t1_0,t1_1)=>
 bif t1_1==0 then
 some ([],0)
 else
 bif decide (t1_0 > 200) then
 some ([],0)
 else
 bif decide (t1_0 > (w64 ((w64 ((p0.length:Int) - 4)) - t1_1))) then
 some ([],0)
 else
 bif (decide (0≤w64 ((w64 (4+t1_1))+t1_0)) && decide (w64 ((w64 (4+t1_1))+t1_0)≤(p0.length:Int))) then
 bif (decide (0≤w64 (4+t1_1)) && decide (w64 (4+t1_1)≤w64 ((w64 (4+t1_1))+t1_0))) then
 let y2:=(p0.take ((w64 ((w64 (4+t1_1))+t1_0)).toNat)).drop ((w64 (4+t1_1)).toNat)
 (ψI.f y2).bind fun t3=>
 bif (decide (0≤w64 ((w64 (4+t1_1))+t1_0)) && decide (w64 ((w64 (4+t1_1))+t1_0)≤(p0.length:Int))) then
 bif !(t3==(p0.take ((w64 ((w64 (4+t1_1))+t1_0)).toNat))) then
 some ([],0)
 else
 let y4:=w64 ((w64 (4+t1_1))+t1_0)
 some (y2,y4)
 else none
 else none
 else none
 else none
def ψ1B.f (p0:QB×Bool):Option (Int×QB×Bool):=
 (ψa.f p0.1).bind fun (t1_0,t1_1)=>
 bif p0.2 then
 some (0,(p0.1,true))
 else
 bif t1_1==0 then
 some (0,(p0.1,true))
 else
 bif (decide (0≤t1_1) && decide (t1_1≤(p0.1.length:Int))) then
 let y2:=p0.1.drop t1_1.toNat
 some (t1_0,(y2,p0.2))
 else none
def ψ1A.f (p0:QB×Bool) (p1:Int):Option (QB×QB×Bool):=
 bif p0.2 then
 some ([],(p0.1,true))
 else
 bif decide (p1 > (p0.1.length:Int)) then
 some ([],(p0.1,true))
 else
 bif (decide (0≤p1) && decide (p1≤(p0.1.length:Int))) then
 let y1:=p0.1.take p1.toNat
 bif (decide (0≤p1) && decide (p1≤(p0.1.length:Int))) then
 let y2:=p0.1.drop p1.toNat
 some (y1,(y2,p0.2))
 else none
 else none
def ψ1C.f (p0:QB×Bool):Option (QB×QB×Bool):=
 (ψ1B.f p0).bind fun (t1_0,t1_1)=>
 (ψ1A.f t1_1 t1_0).bind fun (t2_0,t2_1)=>
 some (t2_0,t2_1)
def ψW.l0 (rec:(QB×Int×Int×Int)→Option (Int)):(QB×Int×Int×Int)→Option (Int):=fun (x0,x6,x17,x18)=>
 bif decide (x18<x17) then
 bif inB x18 x0.length then
 let y2:=bits (fun _ a b=>a ||| b) .i64 (w64 (x6 * 2 ^ (min 8 64))) (w64 (bAt x0 x18))
 rec (x0,y2,x17,w64 (x18+1))
 else none
 else
 some x6
def ψW.f (p0:QB) (p1:Int):Option (Int×Bool):=
 (ψ15.f p1 1 7).bind fun t1=>
 bif !t1 then
 some (0,false)
 else
 bif decide ((p0.length:Int)<p1) then
 some (0,false)
 else
 (lp ψW.l0 (p0,0,p1,0)).bind (fun x6=>
 some (x6,true))
def ψZ.f (p0:QB):Option ((QR)×Bool):=
 (ψ1B.f (p0,false)).bind fun (t1_0,t1_1)=>
 (ψ1B.f t1_1).bind fun (t2_0,t2_1)=>
 ((bif t1_0==1 then
 some ((0,0,[],[],0,0),t2_1,(t1_0,t2_0,[],[],0,0),t1_0,t1_0==1)
 else
 some ((0,0,[],[],0,0),t2_1,(t1_0,t2_0,[],[],0,0),t1_0,t1_0==4):Option ((QR)×(QB×Bool)×(QR)×Int×Bool)).bind (fun (x2,x4,x5,x16,x27)=>
 bif x27 then
 (ψ1C.f x4).bind fun (t3_0,t3_1)=>
 (ψ1C.f t3_1).bind fun (t4_0,t4_1)=>
 some (x2,t4_1,(x5.1,x5.2.1,t3_0,t4_0,x5.2.2.2.2))
 else
 (bif x16==2 then
 (ψ1C.f x4).bind fun (t5_0,t5_1)=>
 some (x2,t5_1,(x5.1,x5.2.1,t5_0,x5.2.2.2))
 else
 (ψ1B.f x4).bind fun (t6_0,t6_1)=>
 (ψ1A.f t6_1 4).bind fun (t7_0,t7_1)=>
 (ψW.f t7_0 4).bind fun (t8_0,t8_1)=>
 some (x2,t7_1,(x5.1,x5.2.1,x5.2.2.1,x5.2.2.2.1,t6_0,t8_0)):Option ((QR)×(QB×Bool)×QR)).bind (fun (x2,x4,x5)=>
 some (x2,x4,x5))):Option ((QR)×(QB×Bool)×QR)).bind (fun (x2,x4,x5)=>
 bif x4.2 then
 some ((0,0,[],[],0,0),false)
 else
 bif !(x4.1==[]) then
 some ((0,0,[],[],0,0),false)
 else
 (ψc.f x5).bind fun t9=>
 bif !t9 then
 some ((0,0,[],[],0,0),false)
 else
 some (x5,true))
def ψb.f (p0:QB) (p1:Int) (p2:Int):Option ((QR)×Bool):=
 (ψ15.f p1 0 (p0.length:Int)).bind fun t1=>
 bif !t1 then
 some ((0,0,[],[],0,0),false)
 else
 (ψ15.f p2 0 (w64 ((p0.length:Int) - p1))).bind fun t2=>
 bif !t2 then
 some ((0,0,[],[],0,0),false)
 else
 bif (decide (0≤w64 (p1+p2)) && decide (w64 (p1+p2)≤(p0.length:Int))) then
 bif (decide (0≤p1) && decide (p1≤w64 (p1+p2))) then
 (ψv.f ((p0.take ((w64 (p1+p2)).toNat)).drop p1.toNat)).bind fun (t3_0,t3_1)=>
 bif t3_1==0 then
 some ((0,0,[],[],0,0),false)
 else
 bif t3_1 != p2 then
 some ((0,0,[],[],0,0),false)
 else
 (ψZ.f t3_0).bind fun (t4_0,t4_1)=>
 some (t4_0,t4_1)
 else none
 else none
def ψJ.f (p0:QS) (p1:QD) (p2:QB):Option ((QF)×Int):=
 (ψ7.f p0.2.1 p2).bind fun (t1_0,t1_1)=>
 bif !t1_1 then
 some (([],[],0),8)
 else
 (ψk.f t1_0.2.1).bind fun t2=>
 (ψG.f p1 t2).bind fun (t3_0,t3_1)=>
 (ψb.f t3_0 t1_0.2.2.1 t1_0.2.2.2.1).bind fun (t4_0,t4_1)=>
 bif !t4_1 then
 some (([],[],0),3)
 else
 bif t4_0.1 != 1 then
 bif t4_0.1 != 4 then
 some (([],[],0),3)
 else
 bif !(t4_0.2.2.1==p2) then
 some (([],[],0),3)
 else
 some ((t4_0.2.2.1,t4_0.2.2.2.1,t4_0.2.1),0)
 else
 bif !(t4_0.2.2.1==p2) then
 some (([],[],0),3)
 else
 some ((t4_0.2.2.1,t4_0.2.2.2.1,t4_0.2.1),0)
def ψ28.l0 (rec:(List (QP)×Int)→Option ((Unit) ⊕ (Bool))):(List (QP)×Int)→Option ((Unit) ⊕ (Bool)):=fun (x0,x3)=>
 bif decide (x3<(x0.length:Int)) then
 (bif inB x3 x0.length then
 (ψ21.f ((rdA ([],false,[]) x0 x3).1)).bind fun t1=>
 bif !t1 then
 some (Sum.inr false)
 else
 bif inB x3 x0.length then
 bif decide (((((rdA ([],false,[]) x0 x3).2).2).length:Int) > 24) then
 some (Sum.inr false)
 else
 bif inB x3 x0.length then
 bif ((rdA ([],false,[]) x0 x3).2).1 then
 bif inB x3 x0.length then
 bif !((((rdA ([],false,[]) x0 x3).2).2)==[]) then
 some (Sum.inr false)
 else
 some (Sum.inl (x0,x3))
 else none
 else
 some (Sum.inl (x0,x3))
 else none
 else none
 else none:Option ((List (QP)×Int) ⊕ (Bool))).bind (fun o2=>caseS o2 (fun (x0,x3)=>
 rec (x0,w64 (x3+1))) (fun x2=>
 some (Sum.inr x2)))
 else
 some (Sum.inl ())
def ψ28.f (p0:List (QP)):Option (Bool):=
 bif decide ((p0.length:Int) > 8) then
 some false
 else
 (lp ψ28.l0 (p0,0)).bind (fun o3=>caseS o3 (fun _=>
 some true) (fun x2=>
 some x2))
def ψ34.f (p0:QD):Option (QD):=
 bif decide ((([]:List (QF)).length+p0.1.length) * 40≤140737488355328) then
 let l1:=([]:List (QF))++p0.1
 some (l1,p0.2)
 else none
def ψy.f (p0:QD):Option (QD):=
 bif decide ((([]:List (QF)).length+p0.1.length) * 40≤140737488355328) then
 let l1:=([]:List (QF))++p0.1
 some (l1,p0.2)
 else none
def ψ3O.f (p0:QB) (p1:QB):Option (Bool):=
 bif decide ((p0.length:Int)≥(p1.length:Int)) then
 bif (decide (0≤(p1.length:Int)) && decide ((p1.length:Int)≤(p0.length:Int))) then
 let y1:=(p0.take ((p1.length:Int).toNat))==p1
 some y1
 else none
 else
 some false
def ψ3M.f (p0:QB) (p1:QB):Option (Bool):=
 (ψ3O.f p0 p1).bind fun t1=>
 some t1
def ψE.l0 (rec:((QD)×(QD)×List (QF)×Int×Int)→Option ((QD)×QD)):((QD)×(QD)×List (QF)×Int×Int)→Option ((QD)×QD):=fun (x2,x3,x14,x15,x16)=>
 bif decide (x16<x15) then
 bif inB x16 x14.length then
 let y3:=(rdA ([],[],0) x14 x16).1
 let y4:=((rdA ([],[],0) x14 x16).2).1
 let y5:=((rdA ([],[],0) x14 x16).2).2
 ((ψ3M.f y3 [104,105,110,116]).bind fun t6=>
 bif !t6 then
 bif decide ((x3.1.length+[(y3,y4,y5)].length) * 40≤140737488355328) then
 let l7:=x3.1++[(y3,y4,y5)]
 some (x2,(l7,x3.2),x14,x15,x16)
 else none
 else
 some (x2,x3,x14,x15,x16):Option ((QD)×(QD)×List (QF)×Int×Int)).bind (fun (x2,x3,x14,x15,x16)=>
 rec (x2,x3,x14,x15,w64 (x16+1)))
 else none
 else
 some (x2,x3)
def ψE.f (p0:QD):Option (QD):=
 (ψy.f p0).bind fun t1=>
 (ψB.f p0).bind fun t2=>
 bif !t2 then
 some t1
 else
 (lp ψE.l0 (([],0,0,false),([],t1.2),p0.1,(p0.1.length:Int),0)).bind (fun (x2,x3)=>
 some x3)
def ψ33.f (p0:QD):Option ((QD)×Int):=
 (ψ34.f p0).bind fun t1=>
 (ψ1q.f p0).bind fun t2=>
 bif !t2 then
 some (t1,5)
 else
 bif p0.2.2.2 then
 some ((t1.1,t1.2.1,t1.2.2.1,true),1)
 else
 bif p0.2.2.1==0 then
 some ((t1.1,t1.2.1,t1.2.2.1,true),1)
 else
 bif decide (p0.2.2.1 > 0) then
 let y3:=w64 (p0.2.2.1 - 1)
 some ((t1.1,t1.2.1,y3,t1.2.2.2),0)
 else
 some (t1,0)
def ψ2U.f (p0:QD) (p1:QB):Option ((QD)×Int):=
 (ψ33.f p0).bind fun (t1_0,t1_1)=>
 bif t1_1 != 0 then
 some (t1_0,t1_1)
 else
 (ψ36.f p0 p1).bind fun t2=>
 bif decide (t2<0) then
 some (t1_0,3)
 else
 bif inB t2 p0.1.length then
 bif inB t2 t1_0.1.length then
 let l3:=t1_0.1.set t2.toNat ((rdA ([],[],0) t1_0.1 t2).1,((rdA ([],[],0) t1_0.1 t2).2).1,((((rdA ([],[],0) p0.1 t2).2).1).length:Int))
 some ((l3,t1_0.2),0)
 else none
 else none
def ψs.f (p0:QD) (p1:QB):Option (Int×QD):=
 (ψ11.f p0 p1).bind fun t1=>
 bif decide (t1<0) then
 some (3,p0)
 else
 bif inB t1 p0.1.length then
 bif inB t1 p0.1.length then
 let l2:=p0.1.set t1.toNat ((rdA ([],[],0) p0.1 t1).1,((rdA ([],[],0) p0.1 t1).2).1,((((rdA ([],[],0) p0.1 t1).2).1).length:Int))
 some (0,(l2,p0.2))
 else none
 else none
def ψ1H.f (p0:QD) (p1:QB):Option ((QD)×Int):=
 (ψy.f p0).bind fun t1=>
 (ψB.f p0).bind fun t2=>
 bif !t2 then
 some (t1,5)
 else
 bif p0.2.2.2 then
 some ((t1.1,t1.2.1,t1.2.2.1,true),1)
 else
 bif p0.2.2.1==0 then
 some ((t1.1,t1.2.1,t1.2.2.1,true),1)
 else
 (bif decide (p0.2.2.1 > 0) then
 let y3:=w64 (t1.2.2.1 - 1)
 some (p1,([],0,0,false),(t1.1,t1.2.1,y3,t1.2.2.2))
 else
 some (p1,([],0,0,false),t1):Option (QB×(QD)×QD)).bind (fun (x1,x4,x6)=>
 (ψs.f x6 x1).bind fun (t4_0,t4_1)=>
 some (t4_1,t4_0))
def ψC.f (p0:QD) (p1:QB):Option (QD):=
 (ψ11.f p0 p1).bind fun t1=>
 bif decide (t1≥0) then
 bif (decide (0≤t1) && decide (t1≤(p0.1.length:Int))) then
 bif decide ((([]:List (QF)).length+(p0.1.take t1.toNat).length) * 40≤140737488355328) then
 bif (decide (0≤w64 (t1+1)) && decide (w64 (t1+1)≤(p0.1.length:Int))) then
 bif decide (((([]:List (QF))++(p0.1.take t1.toNat)).length+(p0.1.drop ((w64 (t1+1)).toNat)).length) * 40≤140737488355328) then
 let l2:=(([]:List (QF))++(p0.1.take t1.toNat))++(p0.1.drop ((w64 (t1+1)).toNat))
 some (l2,p0.2)
 else none
 else none
 else none
 else none
 else
 some p0
def ψf.f (p0:QD) (p1:QB):Option (Int×QD):=
 (ψ11.f p0 p1).bind fun t1=>
 bif decide (t1<0) then
 some (3,p0)
 else
 (ψC.f p0 p1).bind fun t2=>
 some (0,t2)
def ψ1F.f (p0:QD) (p1:QB):Option ((QD)×Int):=
 (ψy.f p0).bind fun t1=>
 (ψB.f p0).bind fun t2=>
 bif !t2 then
 some (t1,5)
 else
 bif p0.2.2.2 then
 some ((t1.1,t1.2.1,t1.2.2.1,true),1)
 else
 bif p0.2.2.1==0 then
 some ((t1.1,t1.2.1,t1.2.2.1,true),1)
 else
 (bif decide (p0.2.2.1 > 0) then
 let y3:=w64 (t1.2.2.1 - 1)
 some (p1,([],0,0,false),(t1.1,t1.2.1,y3,t1.2.2.2))
 else
 some (p1,([],0,0,false),t1):Option (QB×(QD)×QD)).bind (fun (x1,x4,x6)=>
 (ψf.f x6 x1).bind fun (t4_0,t4_1)=>
 some (t4_1,t4_0))
def ψu.f (p0:QD) (p1:QB) (p2:Int):Option (Int×QD):=
 (ψ11.f p0 p1).bind fun t1=>
 bif decide (t1<0) then
 some (3,p0)
 else
 bif inB t1 p0.1.length then
 (ψ15.f p2 0 ((((rdA ([],[],0) p0.1 t1).2).1).length:Int)).bind fun t2=>
 bif !t2 then
 some (5,p0)
 else
 bif (decide (0≤p2) && decide (p2≤((((rdA ([],[],0) p0.1 t1).2).1).length:Int))) then
 let l3:=p0.1.set t1.toNat ((rdA ([],[],0) p0.1 t1).1,(((rdA ([],[],0) p0.1 t1).2).1).take p2.toNat,((rdA ([],[],0) p0.1 t1).2).2)
 let l4:=l3.set t1.toNat ((rdA ([],[],0) l3 t1).1,((rdA ([],[],0) l3 t1).2).1,if p2<((rdA ([],[],0) p0.1 t1).2).2 then p2 else ((rdA ([],[],0) p0.1 t1).2).2)
 some (0,(l4,p0.2))
 else none
 else none
def ψ1I.f (p0:QD) (p1:QB×Int):Option ((QD)×Int):=
 (ψy.f p0).bind fun t1=>
 (ψB.f p0).bind fun t2=>
 bif !t2 then
 some (t1,5)
 else
 bif p0.2.2.2 then
 some ((t1.1,t1.2.1,t1.2.2.1,true),1)
 else
 bif p0.2.2.1==0 then
 some ((t1.1,t1.2.1,t1.2.2.1,true),1)
 else
 (bif decide (p0.2.2.1 > 0) then
 let y3:=w64 (t1.2.2.1 - 1)
 some (p1,([],0,0,false),(t1.1,t1.2.1,y3,t1.2.2.2))
 else
 some (p1,([],0,0,false),t1):Option ((QB×Int)×(QD)×QD)).bind (fun (x1,x4,x6)=>
 (ψu.f x6 x1.1 x1.2).bind fun (t4_0,t4_1)=>
 some (t4_1,t4_0))
def ψ1L.l0 (rec:(Int×List (QF)×Int×Int)→Option (Int)):(Int×List (QF)×Int×Int)→Option (Int):=fun (x3,x7,x8,x9)=>
 bif decide (x9<x8) then
 bif inB x9 x7.length then
 let y1:=(rdA ([],[],0) x7 x9).1
 let y2:=((rdA ([],[],0) x7 x9).2).1
 let y3:=((rdA ([],[],0) x7 x9).2).2
 let y4:=w64 (x3+(y2.length:Int))
 rec (y4,x7,x8,w64 (x9+1))
 else none
 else
 some x3
def ψ1L.f (p0:QD):Option (Int):=
 (lp ψ1L.l0 (0,p0.1,(p0.1.length:Int),0)).bind (fun x3=>
 some x3)
def ψ1.f (p0:QD) (p1:QB) (p2:QB):Option (Int×QD):=
 (ψ11.f p0 p1).bind fun t1=>
 let y2:=decide (t1<0)
 bif y2 then
 some (3,p0)
 else
 (ψ1L.f p0).bind fun t3=>
 let y4:=decide ((p2.length:Int) > (w64 (p0.2.1 - t3)))
 bif y4 then
 some (2,p0)
 else
 bif inB t1 p0.1.length then
 bif decide ((((rdA ([],[],0) p0.1 t1).2).1).length+p2.length≤9223372036854775807) then
 bif inB t1 p0.1.length then
 let l5:=p0.1.set t1.toNat ((rdA ([],[],0) p0.1 t1).1,(((rdA ([],[],0) p0.1 t1).2).1)++p2,((rdA ([],[],0) p0.1 t1).2).2)
 some (0,(l5,p0.2))
 else none
 else none
 else none
def ψ1D.f (p0:QD) (p1:QB×QB):Option ((QD)×Int):=
 (ψy.f p0).bind fun t1=>
 (ψB.f p0).bind fun t2=>
 bif !t2 then
 some (t1,5)
 else
 bif p0.2.2.2 then
 some ((t1.1,t1.2.1,t1.2.2.1,true),1)
 else
 bif p0.2.2.1==0 then
 some ((t1.1,t1.2.1,t1.2.2.1,true),1)
 else
 (bif decide (p0.2.2.1 > 0) then
 let y3:=w64 (t1.2.2.1 - 1)
 some (p1,([],0,0,false),(t1.1,t1.2.1,y3,t1.2.2.2))
 else
 some (p1,([],0,0,false),t1):Option ((QB×QB)×(QD)×QD)).bind (fun (x1,x4,x6)=>
 (ψ1.f x6 x1.1 x1.2).bind fun (t4_0,t4_1)=>
 some (t4_1,t4_0))
def ψD.l0 (rec:((QD)×(QF)×Int)→Option ((QD)×(QF)×Int)):((QD)×(QF)×Int)→Option ((QD)×(QF)×Int):=fun (x0,x3,x4)=>
 bif decide (x4<(x0.1.length:Int)) then
 bif inB x4 x0.1.length then
 bif Op.bytesLess ((rdA ([],[],0) x0.1 x4).1) x3.1 then
 rec (x0,x3,w64 (x4+1))
 else
 some (x0,x3,x4)
 else none
 else
 some (x0,x3,x4)
def ψD.f (p0:QD) (p1:QF):Option (QD):=
 (lp ψD.l0 (p0,p1,0)).bind (fun (x0,x3,x4)=>
 bif (decide (0≤x4) && decide (x4≤(x0.1.length:Int))) then
 bif decide ((([]:List (QF)).length+(x0.1.take x4.toNat).length) * 40≤140737488355328) then
 bif decide (((([]:List (QF))++(x0.1.take x4.toNat)).length+[x3].length) * 40≤140737488355328) then
 let l1:=(([]:List (QF))++(x0.1.take x4.toNat))++[x3]
 bif (decide (0≤x4) && decide (x4≤(x0.1.length:Int))) then
 bif decide ((l1.length+(x0.1.drop x4.toNat).length) * 40≤140737488355328) then
 let l2:=l1++(x0.1.drop x4.toNat)
 some (l2,x0.2)
 else none
 else none
 else none
 else none
 else none)
def ψ4.f (p0:QD) (p1:QB):Option (Int×QD):=
 (ψS.f p1).bind fun t1=>
 bif !t1 then
 some (5,p0)
 else
 (ψ11.f p0 p1).bind fun t2=>
 let y3:=decide (t2≥0)
 bif y3 then
 some (4,p0)
 else
 let y4:=decide ((p0.1.length:Int)≥130)
 bif y4 then
 some (2,p0)
 else
 (ψD.f p0 (p1,[],0)).bind fun t5=>
 some (0,t5)
def ψ1E.f (p0:QD) (p1:QB):Option ((QD)×Int):=
 (ψy.f p0).bind fun t1=>
 (ψB.f p0).bind fun t2=>
 bif !t2 then
 some (t1,5)
 else
 bif p0.2.2.2 then
 some ((t1.1,t1.2.1,t1.2.2.1,true),1)
 else
 bif p0.2.2.1==0 then
 some ((t1.1,t1.2.1,t1.2.2.1,true),1)
 else
 (bif decide (p0.2.2.1 > 0) then
 let y3:=w64 (t1.2.2.1 - 1)
 some (p1,([],0,0,false),(t1.1,t1.2.1,y3,t1.2.2.2))
 else
 some (p1,([],0,0,false),t1):Option (QB×(QD)×QD)).bind (fun (x1,x4,x6)=>
 (ψ4.f x6 x1).bind fun (t4_0,t4_1)=>
 some (t4_1,t4_0))
def ψh.f (p0:QD) (p1:QB) (p2:QB):Option (Int×QD):=
 (ψ11.f p0 p1).bind fun t1=>
 (ψS.f p2).bind fun t2=>
 bif !t2 then
 some (5,p0)
 else
 let y3:=decide (t1<0)
 bif y3 then
 some (3,p0)
 else
 bif inB t1 p0.1.length then
 let y4:=(rdA ([],[],0) p0.1 t1).1
 let y5:=((rdA ([],[],0) p0.1 t1).2).1
 let y6:=((rdA ([],[],0) p0.1 t1).2).2
 (ψC.f p0 p1).bind fun t7=>
 (ψC.f t7 p2).bind fun t8=>
 (ψD.f t8 (p2,y5,y6)).bind fun t9=>
 some (0,t9)
 else none
def ψ1G.f (p0:QD) (p1:QB×QB):Option ((QD)×Int):=
 (ψy.f p0).bind fun t1=>
 (ψB.f p0).bind fun t2=>
 bif !t2 then
 some (t1,5)
 else
 bif p0.2.2.2 then
 some ((t1.1,t1.2.1,t1.2.2.1,true),1)
 else
 bif p0.2.2.1==0 then
 some ((t1.1,t1.2.1,t1.2.2.1,true),1)
 else
 (bif decide (p0.2.2.1 > 0) then
 let y3:=w64 (t1.2.2.1 - 1)
 some (p1,([],0,0,false),(t1.1,t1.2.1,y3,t1.2.2.2))
 else
 some (p1,([],0,0,false),t1):Option ((QB×QB)×(QD)×QD)).bind (fun (x1,x4,x6)=>
 (ψh.f x6 x1.1 x1.2).bind fun (t4_0,t4_1)=>
 some (t4_1,t4_0))
def ψr.f (p0:QD) (p1:QB):Option ((QD)×Int):=
 (ψ1H.f p0 p1).bind fun (t1_0,t1_1)=>
 some (t1_0,t1_1)
def ψ3A.f (p0:List (QF)) (p1:Int):Option (List (QF)):=
 bif (decide (0≤p1) && decide (p1≤(p0.length:Int))) then
 bif decide ((([]:List (QF)).length+(p0.take p1.toNat).length) * 40≤140737488355328) then
 bif (decide (0≤w64 (p1+1)) && decide (w64 (p1+1)≤(p0.length:Int))) then
 bif decide (((([]:List (QF))++(p0.take p1.toNat)).length+(p0.drop ((w64 (p1+1)).toNat)).length) * 40≤140737488355328) then
 let l1:=(([]:List (QF))++(p0.take p1.toNat))++(p0.drop ((w64 (p1+1)).toNat))
 some l1
 else none
 else none
 else none
 else none
def ψ2I.f (p0:QD) (p1:QB):Option ((QD)×Int):=
 (ψ33.f p0).bind fun (t1_0,t1_1)=>
 bif t1_1 != 0 then
 some (t1_0,t1_1)
 else
 (ψ36.f p0 p1).bind fun t2=>
 bif decide (t2<0) then
 some (t1_0,3)
 else
 (ψ3A.f t1_0.1 t2).bind fun t3=>
 some ((t3,t1_0.2),0)
def ψe.f (p0:QD) (p1:QB):Option ((QD)×Int):=
 (ψ1F.f p0 p1).bind fun (t1_0,t1_1)=>
 some (t1_0,t1_1)
def ψ2V.f (p0:QD) (p1:QB) (p2:Int):Option ((QD)×Int):=
 (ψ33.f p0).bind fun (t1_0,t1_1)=>
 bif t1_1 != 0 then
 some (t1_0,t1_1)
 else
 (ψ36.f p0 p1).bind fun t2=>
 bif decide (t2<0) then
 some (t1_0,3)
 else
 bif inB t2 p0.1.length then
 (ψ2w.f p2 0 ((((rdA ([],[],0) p0.1 t2).2).1).length:Int)).bind fun t3=>
 bif !t3 then
 some (t1_0,5)
 else
 bif inB t2 p0.1.length then
 bif (decide (0≤p2) && decide (p2≤((((rdA ([],[],0) p0.1 t2).2).1).length:Int))) then
 bif inB t2 t1_0.1.length then
 let l4:=t1_0.1.set t2.toNat ((rdA ([],[],0) t1_0.1 t2).1,(((rdA ([],[],0) p0.1 t2).2).1).take p2.toNat,((rdA ([],[],0) t1_0.1 t2).2).2)
 bif inB t2 p0.1.length then
 bif inB t2 l4.length then
 let l5:=l4.set t2.toNat ((rdA ([],[],0) l4 t2).1,((rdA ([],[],0) l4 t2).2).1,if p2<((rdA ([],[],0) p0.1 t2).2).2 then p2 else ((rdA ([],[],0) p0.1 t2).2).2)
 some ((l5,t1_0.2),0)
 else none
 else none
 else none
 else none
 else none
 else none
def ψt.f (p0:QD) (p1:QB) (p2:Int):Option ((QD)×Int):=
 (ψ1I.f p0 (p1,p2)).bind fun (t1_0,t1_1)=>
 some (t1_0,t1_1)
def ψ1g.f (p0:QD) (p1:QB) (p2:QB):Option ((QD)×Int):=
 (ψ33.f p0).bind fun (t1_0,t1_1)=>
 bif t1_1 != 0 then
 some (t1_0,t1_1)
 else
 (ψ36.f p0 p1).bind fun t2=>
 bif decide (t2<0) then
 some (t1_0,3)
 else
 (ψ39.f p0).bind fun t3=>
 bif decide ((p2.length:Int) > (w64 (p0.2.1 - t3))) then
 some (t1_0,2)
 else
 bif inB t2 p0.1.length then
 bif decide ((((rdA ([],[],0) p0.1 t2).2).1).length+p2.length≤9223372036854775807) then
 bif inB t2 t1_0.1.length then
 let l4:=t1_0.1.set t2.toNat ((rdA ([],[],0) t1_0.1 t2).1,(((rdA ([],[],0) p0.1 t2).2).1)++p2,((rdA ([],[],0) t1_0.1 t2).2).2)
 some ((l4,t1_0.2),0)
 else none
 else none
 else none
def ψ0.f (p0:QD) (p1:QB) (p2:QB):Option ((QD)×Int):=
 (ψ1D.f p0 (p1,p2)).bind fun (t1_0,t1_1)=>
 some (t1_0,t1_1)
def ψ37.l0 (rec:(List (QF)×(QF)×List (QF)×Bool×Int)→Option ((QF)×List (QF)×Bool)):(List (QF)×(QF)×List (QF)×Bool×Int)→Option ((QF)×List (QF)×Bool):=fun (x0,x3,x5,x6,x7)=>
 bif decide (x7<(x0.length:Int)) then
 (bif !x6 then
 bif inB x7 x0.length then
 bif !(Op.bytesLess ((rdA ([],[],0) x0 x7).1) x3.1 || ((rdA ([],[],0) x0 x7).1)==x3.1) then
 bif decide ((x5.length+[x3].length) * 40≤140737488355328) then
 some (x0,x3,x5++[x3],true,x7)
 else none
 else
 some (x0,x3,x5,x6,x7)
 else none
 else
 some (x0,x3,x5,x6,x7):Option (List (QF)×(QF)×List (QF)×Bool×Int)).bind (fun (x0,x3,x5,x6,x7)=>
 bif inB x7 x0.length then
 bif decide ((x5.length+([((rdA ([],[],0) x0 x7).1,((rdA ([],[],0) x0 x7).2))]:List (QF)).length) * 40≤140737488355328) then
 let l1:=x5++([((rdA ([],[],0) x0 x7).1,((rdA ([],[],0) x0 x7).2))]:List (QF))
 rec (x0,x3,l1,x6,w64 (x7+1))
 else none
 else none)
 else
 some (x3,x5,x6)
def ψ37.f (p0:List (QF)) (p1:QF):Option (List (QF)):=
 (lp ψ37.l0 (p0,p1,([]:List (QF)),false,0)).bind (fun (x3,x5,x6)=>
 bif !x6 then
 bif decide ((x5.length+[x3].length) * 40≤140737488355328) then
 some (x5++[x3])
 else none
 else
 some x5)
def ψ1j.f (p0:QD) (p1:QB):Option ((QD)×Int):=
 (ψ33.f p0).bind fun (t1_0,t1_1)=>
 bif t1_1 != 0 then
 some (t1_0,t1_1)
 else
 (ψ24.f p1).bind fun t2=>
 bif !t2 then
 some (t1_0,5)
 else
 (ψ36.f p0 p1).bind fun t3=>
 bif decide (t3≥0) then
 some (t1_0,4)
 else
 bif decide ((p0.1.length:Int)≥130) then
 some (t1_0,2)
 else
 (ψ37.f t1_0.1 (p1,[],0)).bind fun t4=>
 some ((t4,t1_0.2),0)
def ψ3.f (p0:QD) (p1:QB):Option ((QD)×Int):=
 (ψ1E.f p0 p1).bind fun (t1_0,t1_1)=>
 some (t1_0,t1_1)
def ψ2J.f (p0:QD) (p1:QB) (p2:QB):Option ((QD)×Int):=
 (ψ33.f p0).bind fun (t1_0,t1_1)=>
 bif t1_1 != 0 then
 some (t1_0,t1_1)
 else
 (ψ24.f p2).bind fun t2=>
 bif !t2 then
 some (t1_0,5)
 else
 (ψ36.f p0 p1).bind fun t3=>
 bif decide (t3<0) then
 some (t1_0,3)
 else
 bif p1==p2 then
 some (t1_0,0)
 else
 bif inB t3 p0.1.length then
 let y4:=(rdA ([],[],0) p0.1 t3).1
 let y5:=((rdA ([],[],0) p0.1 t3).2).1
 let y6:=((rdA ([],[],0) p0.1 t3).2).2
 (ψ3A.f t1_0.1 t3).bind fun t7=>
 (ψ36.f (t7,t1_0.2) p2).bind fun t8=>
 (bif decide (t8≥0) then
 (ψ3A.f t7 t8).bind fun t9=>
 some (([],0,0,false),(t9,t1_0.2),(p2,y5,y6))
 else
 some (([],0,0,false),(t7,t1_0.2),(p2,y5,y6)):Option ((QD)×(QD)×QF)).bind (fun (x6,x8,x11)=>
 (ψ37.f x8.1 x11).bind fun t10=>
 some ((t10,x8.2),0))
 else none
def ψg.f (p0:QD) (p1:QB) (p2:QB):Option ((QD)×Int):=
 (ψ1G.f p0 (p1,p2)).bind fun (t1_0,t1_1)=>
 some (t1_0,t1_1)
def ψ1f.f (p0:List Int):Option (Bool):=
 let y1:=decide ((p0.length:Int) > 1048576)
 some y1
def ψ2x.l0 (rec:(List Int×Int×Int)→Option (List Int×Int)):(List Int×Int×Int)→Option (List Int×Int):=fun (x0,x3,x4)=>
 bif decide (x4<(x0.length:Int)) then
 bif decide (x4<4000) then
 bif inB x4 x0.length then
 let y2:=bits (fun _ a b=>a &&& b) .i64 (w64 ((w64 ((w64 (x3 * 131))+(w64 (rdA 0 x0 x4))))+7)) 1073741823
 rec (x0,y2,w64 (x4+1))
 else none
 else
 some (x0,x3)
 else
 some (x0,x3)
def ψ2x.f (p0:List Int):Option (List Int×Int×Int):=
 let y1:=w64 (10101+(p0.length:Int))
 (lp ψ2x.l0 (p0,y1,0)).bind (fun (x0,x3)=>
 some (x0,0,x3))
def ψ2v.f (p0:List Int×Int×Int):Option (Int×List Int×Int×Int):=
 let y1:=w64 ((w64 (p0.2.2 * 6364136223846793005))+1442695040888963407)
 let y2:=bits (fun _ a b=>a &&& b) .i64 (bits (fun _ a b=>a ^^^ b) .i64 (Int.fdiv y1 (2 ^ (min 33 64))) (Int.fdiv y1 (2 ^ (min 45 64)))) 255
 bif decide (p0.2.1<(p0.1.length:Int)) then
 bif inB p0.2.1 p0.1.length then
 let y3:=bits (fun _ a b=>a &&& b) .i64 (w64 (y2+(w64 (rdA 0 p0.1 p0.2.1)))) 255
 let y4:=w64 (p0.2.1+1)
 some (y3,(p0.1,y4,y1))
 else none
 else
 some (y2,(p0.1,p0.2.1,y1))
def ψ2u.f (p0:List Int×Int×Int) (p1:Int):Option (Int×List Int×Int×Int):=
 bif decide (p1≤0) then
 some (0,p0)
 else
 bif decide (p1≤256) then
 (ψ2v.f p0).bind fun (t1_0,t1_1)=>
 bif p1 != 0 then
 let y2:=Int.tmod t1_0 p1
 some (y2,t1_1)
 else none
 else
 (ψ2v.f p0).bind fun (t3_0,t3_1)=>
 (ψ2v.f t3_1).bind fun (t4_0,t4_1)=>
 (ψ2v.f t4_1).bind fun (t5_0,t5_1)=>
 (ψ2v.f t5_1).bind fun (t6_0,t6_1)=>
 bif p1 != 0 then
 let y7:=Int.tmod (w64 ((w64 ((w64 ((w64 (t3_0 * 16777216))+(w64 (t4_0 * 65536))))+(w64 (t5_0 * 256))))+t6_0)) p1
 some (y7,t6_1)
 else none
def ψ2z.f (p0:List Int×Int×Int) (p1:List (QB)):Option (QB×List Int×Int×Int):=
 (ψ2u.f p0 (p1.length:Int)).bind fun (t1_0,t1_1)=>
 bif inB t1_0 p1.length then
 let y2:=rdA [] p1 t1_0
 some (y2,t1_1)
 else none
def ψ3B.f (p0:List Int×Int×Int):Option (QB×List Int×Int×Int):=
 (ψ2z.f p0 [[97],[98],[99],[107,101,121],[108,111,110,103,110,97,109,101]]).bind fun (t1_0,t1_1)=>
 some (t1_0,t1_1)
def ψ31.l0 (rec:((List Int×Int×Int)×List Int×Int×Int)→Option ((List Int×Int×Int)×List Int)):((List Int×Int×Int)×List Int×Int×Int)→Option ((List Int×Int×Int)×List Int):=fun (x0,x5,x6,x7)=>
 bif decide (x7 > 0) then
 (ψ2v.f x0).bind fun (t3_0,t3_1)=>
 (bif x6==1 then
 let y4:=Int.tmod t3_0 2
 some (t3_1,x5,x6,x7,y4)
 else
 some (t3_1,x5,x6,x7,t3_0):Option ((List Int×Int×Int)×List Int×Int×Int×Int)).bind (fun (x0,x5,x6,x7,x8)=>
 (bif x6==2 then
 let y5:=w64 (97+(Int.tmod x8 4))
 some (x0,x5,x6,x7,y5)
 else
 some (x0,x5,x6,x7,x8):Option ((List Int×Int×Int)×List Int×Int×Int×Int)).bind (fun (x0,x5,x6,x7,x8)=>
 bif decide ((x5.length+[IntKind.wrap .u8 (x8)].length) * 1≤140737488355328) then
 let l6:=x5++[IntKind.wrap .u8 (x8)]
 rec (x0,l6,x6,w64 (x7 - 1))
 else none))
 else
 some (x0,x5)
def ψ31.f (p0:List Int×Int×Int) (p1:Int):Option (QB×List Int×Int×Int):=
 (ψ2u.f p0 4).bind fun (t1_0,t1_1)=>
 (ψ2u.f t1_1 (w64 (p1+1))).bind fun (t2_0,t2_1)=>
 (lp ψ31.l0 (t2_1,([]:List Int),t1_0,t2_0)).bind (fun (x0,x5)=>
 some (strOf x5,x0))
def ψ2y.f (p0:List Int×Int×Int) (p1:Int):Option (Bool×List Int×Int×Int):=
 (ψ2u.f p0 p1).bind fun (t1_0,t1_1)=>
 some (t1_0==0,t1_1)
def ψ2m.l0 (rec:((List Int×Int×Int)×List (QP)×Int)→Option ((List Int×Int×Int)×List (QP))):((List Int×Int×Int)×List (QP)×Int)→Option ((List Int×Int×Int)×List (QP)):=fun (x0,x3,x4)=>
 bif decide (x4 > 0) then
 (ψ3B.f x0).bind fun (t2_0,t2_1)=>
 (ψ31.f t2_1 16).bind fun (t3_0,t3_1)=>
 ((ψ2y.f t3_1 4).bind fun (t4_0,t4_1)=>
 bif t4_0 then
 some (t4_1,x3,x4,(t2_0,true,[]))
 else
 some (t4_1,x3,x4,(t2_0,false,t3_0)):Option ((List Int×Int×Int)×List (QP)×Int×QP)).bind (fun (x0,x3,x4,x5)=>
 bif decide ((x3.length+[x5].length) * 40≤140737488355328) then
 rec (x0,x3++[x5],w64 (x4 - 1))
 else none)
 else
 some (x0,x3)
def ψ2m.f (p0:List Int×Int×Int):Option (List (QP)×List Int×Int×Int):=
 (ψ2u.f p0 4).bind fun (t1_0,t1_1)=>
 (lp ψ2m.l0 (t1_1,([]:List (QP)),t1_0)).bind (fun (x0,x3)=>
 some (x3,x0))
def ψ2r.f (p0:QF):Option (QR):=
 some (4,p0.2.2,p0.1,p0.2.1,0,0)
def ψ2T.l0 (rec:(List (QR)×QB×Int)→Option (QB)):(List (QR)×QB×Int)→Option (QB):=fun (x0,x3,x4)=>
 bif decide (x4<(x0.length:Int)) then
 bif inB x4 x0.length then
 (ψ2R.f ((rdA (0,0,[],[],0,0) x0 x4).1,((rdA (0,0,[],[],0,0) x0 x4).2).1,(((rdA (0,0,[],[],0,0) x0 x4).2).2).1,((((rdA (0,0,[],[],0,0) x0 x4).2).2).2).1,(((((rdA (0,0,[],[],0,0) x0 x4).2).2).2).2))).bind fun t1=>
 bif decide (x3.length+t1.length≤9223372036854775807) then
 rec (x0,x3++t1,w64 (x4+1))
 else none
 else none
 else
 some x3
def ψ2T.f (p0:List (QR)):Option (Int):=
 (lp ψ2T.l0 (p0,[],0)).bind (fun x3=>
 (ψ1i.f x3).bind fun t2=>
 some t2)
def ψ3K.f (p0:List (QR)) (p1:Int) (p2:Int):Option (QR):=
 (ψ2T.f p0).bind fun t1=>
 let y2:=(p0.length:Int)
 some (p2,p1,[],[],y2,t1)
def ψ1M.l0 (rec:(QB×List Int×Int×Int)→Option (QB)):(QB×List Int×Int×Int)→Option (QB):=fun (x3,x6,x7,x8)=>
 bif decide (x8<x7) then
 bif inB x8 x6.length then
 (ψw.f (rdA 0 x6 x8)).bind fun t1=>
 bif decide (x3.length+t1.length≤9223372036854775807) then
 rec (x3++t1,x6,x7,w64 (x8+1))
 else none
 else none
 else
 some x3
def ψ1M.f (p0:List Int):Option (QB):=
 (lp ψ1M.l0 ([],p0,(p0.length:Int),0)).bind (fun x3=>
 some x3)
def ψn.f (p0:QR):Option (QB):=
 (ψc.f p0).bind fun t1=>
 bif !t1 then
 some []
 else
 (ψ1M.f [p0.1,p0.2.1]).bind fun t2=>
 (bif p0.1==1 then
 some (p0,t2,p0.1,p0.1==1)
 else
 some (p0,t2,p0.1,p0.1==4):Option ((QR)×QB×Int×Bool)).bind (fun (x1,x3,x14,x15)=>
 bif x15 then
 (ψ1J.f x1.2.2.1).bind fun t3=>
 bif decide (x3.length+t3.length≤9223372036854775807) then
 (ψ1J.f x1.2.2.2.1).bind fun t4=>
 bif decide ((x3++t3).length+t4.length≤9223372036854775807) then
 let y5:=(x3++t3)++t4
 some y5
 else none
 else none
 else
 bif x14==2 then
 (ψ1J.f x1.2.2.1).bind fun t6=>
 bif decide (x3.length+t6.length≤9223372036854775807) then
 some (x3++t6)
 else none
 else
 (ψw.f x1.2.2.2.2.1).bind fun t7=>
 bif decide (x3.length+t7.length≤9223372036854775807) then
 (ψH.f x1.2.2.2.2.2 4).bind fun t8=>
 bif decide ((x3++t7).length+t8.length≤9223372036854775807) then
 let y9:=(x3++t7)++t8
 some y9
 else none
 else none)
def ψq.l0 (rec:(QB×List (QR)×Int×Int)→Option (QB)):(QB×List (QR)×Int×Int)→Option (QB):=fun (x3,x6,x7,x8)=>
 bif decide (x8<x7) then
 bif inB x8 x6.length then
 let y1:=(rdA (0,0,[],[],0,0) x6 x8).1
 let y2:=((rdA (0,0,[],[],0,0) x6 x8).2).1
 let y3:=(((rdA (0,0,[],[],0,0) x6 x8).2).2).1
 let y4:=((((rdA (0,0,[],[],0,0) x6 x8).2).2).2).1
 let y5:=(((((rdA (0,0,[],[],0,0) x6 x8).2).2).2).2).1
 let y6:=(((((rdA (0,0,[],[],0,0) x6 x8).2).2).2).2).2
 (ψn.f (y1,y2,y3,y4,y5,y6)).bind fun t7=>
 bif decide (x3.length+t7.length≤9223372036854775807) then
 rec (x3++t7,x6,x7,w64 (x8+1))
 else none
 else none
 else
 some x3
def ψq.f (p0:List (QR)):Option (Int):=
 (lp ψq.l0 ([],p0,(p0.length:Int),0)).bind (fun x3=>
 (ψ2.f x3).bind fun t8=>
 some t8)
def ψ16.l0 (rec:(List (QF)×Int×List (QR)×List (QF)×Int×Int)→Option (List (QF)×Int×List (QR))):(List (QF)×Int×List (QR)×List (QF)×Int×Int)→Option (List (QF)×Int×List (QR)):=fun (x0,x1,x5,x8,x9,x10)=>
 bif decide (x10<x9) then
 bif inB x10 x8.length then
 let y1:=(rdA ([],[],0) x8 x10).1
 let y2:=((rdA ([],[],0) x8 x10).2).1
 let y3:=((rdA ([],[],0) x8 x10).2).2
 bif decide ((x5.length+[(4,y3,y1,y2,0,0)].length) * 64≤140737488355328) then
 let l4:=x5++[(4,y3,y1,y2,0,0)]
 rec (x0,x1,l4,x8,x9,w64 (x10+1))
 else none
 else none
 else
 some (x0,x1,x5)
def ψ16.f (p0:List (QF)) (p1:Int):Option (List (QR)):=
 (lp ψ16.l0 (p0,p1,[],p0,(p0.length:Int),0)).bind (fun (x0,x1,x5)=>
 (ψq.f x5).bind fun t5=>
 bif decide ((x5.length+([(5,x1,[],[],(x0.length:Int),t5)]:List (QR)).length) * 64≤140737488355328) then
 let l6:=x5++([(5,x1,[],[],(x0.length:Int),t5)]:List (QR))
 some l6
 else none)
def ψ22.l0 (rec:((Int×List Int)×Int)→Option ((Unit) ⊕ (Bool))):((Int×List Int)×Int)→Option ((Unit) ⊕ (Bool)):=fun (x1,x3)=>
 bif decide (x3<(x1.2.length:Int)) then
 (bif inB x3 x1.2.length then
 (ψ2w.f (rdA 0 x1.2 x3) 1 (w64 (x1.1 - 1))).bind fun t3=>
 bif !t3 then
 some (Sum.inr false)
 else
 bif decide (x3 > 0) then
 bif inB x3 x1.2.length then
 bif inB (w64 (x3 - 1)) x1.2.length then
 bif decide ((rdA 0 x1.2 x3)≤(rdA 0 x1.2 (w64 (x3 - 1)))) then
 some (Sum.inr false)
 else
 some (Sum.inl (x1,x3))
 else none
 else none
 else
 some (Sum.inl (x1,x3))
 else none:Option (((Int×List Int)×Int) ⊕ (Bool))).bind (fun o4=>caseS o4 (fun (x1,x3)=>
 rec (x1,w64 (x3+1))) (fun x2=>
 some (Sum.inr x2)))
 else
 some (Sum.inl ())
def ψ22.f (p0:Int×List Int):Option (Bool):=
 (ψ2w.f p0.1 1 100000).bind fun t1=>
 bif !t1 then
 some false
 else
 (ψ2w.f (p0.2.length:Int) 1 60).bind fun t2=>
 bif !t2 then
 some false
 else
 (lp ψ22.l0 (p0,0)).bind (fun o5=>caseS o5 (fun _=>
 some true) (fun x2=>
 some x2))
def ψQ.l0 (rec:((Int×List Int)×List Int×Int×Int)→Option ((Int×List Int) ⊕ (Bool))):((Int×List Int)×List Int×Int×Int)→Option ((Int×List Int) ⊕ (Bool)):=fun (x1,x6,x7,x8)=>
 bif decide (x8<x7) then
 bif inB x8 x6.length then
 ((ψ15.f (rdA 0 x6 x8) 1 (w64 (x1.1 - 1))).bind fun t1=>
 bif !t1 then
 some (Sum.inr false)
 else
 bif decide (x8 > 0) then
 bif inB (w64 (x8 - 1)) x1.2.length then
 bif decide ((rdA 0 x1.2 (w64 (x8 - 1)))≥(rdA 0 x6 x8)) then
 some (Sum.inr false)
 else
 some (Sum.inl (x1,x6,x7,x8))
 else none
 else
 some (Sum.inl (x1,x6,x7,x8)):Option (((Int×List Int)×List Int×Int×Int) ⊕ (Bool))).bind (fun o2=>caseS o2 (fun (x1,x6,x7,x8)=>
 rec (x1,x6,x7,w64 (x8+1))) (fun x2=>
 some (Sum.inr x2)))
 else none
 else
 some (Sum.inl x1)
def ψQ.f (p0:Int×List Int):Option (Bool):=
 (lp ψQ.l0 (p0,p0.2,(p0.2.length:Int),0)).bind (fun o3=>caseS o3 (fun x1=>
 (ψ15.f x1.1 1 100000).bind fun t4=>
 bif t4 then
 (ψ15.f (x1.2.length:Int) 1 60).bind fun t5=>
 some t5
 else
 some false) (fun x2=>
 some x2))
def ψ1n.l0 (rec:(List (QE)×Int)→Option ((Unit) ⊕ (Bool))):(List (QE)×Int)→Option ((Unit) ⊕ (Bool)):=fun (x0,x3)=>
 bif decide (x3<(x0.length:Int)) then
 bif inB x3 x0.length then
 let y1:=(rdA ([],0,0,0,0) x0 x3).1
 let y2:=((rdA ([],0,0,0,0) x0 x3).2).1
 let y3:=(((rdA ([],0,0,0,0) x0 x3).2).2).1
 let y4:=((((rdA ([],0,0,0,0) x0 x3).2).2).2).1
 let y5:=((((rdA ([],0,0,0,0) x0 x3).2).2).2).2
 ((ψ21.f y1).bind fun t6=>
 bif !t6 then
 some (Sum.inr false)
 else
 (ψ2w.f y2 1 100000).bind fun t7=>
 bif !t7 then
 some (Sum.inr false)
 else
 bif decide (y3<0) then
 some (Sum.inr false)
 else
 (ψ2w.f y4 1 210).bind fun t8=>
 bif !t8 then
 some (Sum.inr false)
 else
 (ψ2w.f y5 1 1000000).bind fun t9=>
 bif !t9 then
 some (Sum.inr false)
 else
 bif decide (x3 > 0) then
 bif inB (w64 (x3 - 1)) x0.length then
 bif (Op.bytesLess y1 ((rdA ([],0,0,0,0) x0 (w64 (x3 - 1))).1) || y1==((rdA ([],0,0,0,0) x0 (w64 (x3 - 1))).1)) then
 some (Sum.inr false)
 else
 some (Sum.inl (x0,x3))
 else none
 else
 some (Sum.inl (x0,x3)):Option ((List (QE)×Int) ⊕ (Bool))).bind (fun o10=>caseS o10 (fun (x0,x3)=>
 rec (x0,w64 (x3+1))) (fun x2=>
 some (Sum.inr x2)))
 else none
 else
 some (Sum.inl ())
def ψ1n.f (p0:List (QE)):Option (Bool):=
 bif decide ((p0.length:Int) > 20) then
 some false
 else
 (lp ψ1n.l0 (p0,0)).bind (fun o11=>caseS o11 (fun _=>
 some true) (fun x2=>
 some x2))
def ψ2N.l0 (rec:(QB×List (Int×Int×QR)×Int)→Option ((List (Int×Int×QR)×Int) ⊕ (List (Int×Int×QR)×Int))):(QB×List (Int×Int×QR)×Int)→Option ((List (Int×Int×QR)×Int) ⊕ (List (Int×Int×QR)×Int)):=fun (x0,x4,x5)=>
 bif decide (x5<(x0.length:Int)) then
 bif (decide (0≤x5) && decide (x5≤(x0.length:Int))) then
 (ψ2W.f (x0.drop x5.toNat)).bind fun (t1_0,t1_1)=>
 (ψ2D.f t1_0).bind fun (t2_0,t2_1)=>
 bif t1_1==0 then
 some (Sum.inr (x4,x5))
 else
 bif !t2_1 then
 some (Sum.inr (x4,x5))
 else
 bif decide ((x4.length+[(x5,t1_1,t2_0)].length) * 80≤140737488355328) then
 let l3:=x4++[(x5,t1_1,t2_0)]
 let y4:=w64 (x5+t1_1)
 rec (x0,l3,y4)
 else none
 else none
 else
 some (Sum.inl (x4,x5))
def ψ2N.f (p0:QB):Option (List (Int×Int×QR)×Int):=
 (lp ψ2N.l0 (p0,([]:List (Int×Int×QR)),0)).bind (fun o5=>caseS o5 (fun (x4,x5)=>
 some (x4,x5)) (fun (x2,x3)=>
 some (x2,x3)))
def ψ2S.l0 (rec:((QS)×(QD)×Int)→Option (((QS)×QD) ⊕ (Bool))):((QS)×(QD)×Int)→Option (((QS)×QD) ⊕ (Bool)):=fun (x2,x3,x5)=>
 bif decide (x5<(x2.1.2.length:Int)) then
 bif inB x5 x2.1.2.length then
 (ψ2O.f (rdA 0 x2.1.2 x5)).bind fun t5=>
 (ψ1t.f x3 t5).bind fun (t6_0,t6_1)=>
 (ψ2N.f t6_0).bind fun (t7_0,t7_1)=>
 (bif !t6_1 then
 some (Sum.inr false)
 else
 bif decide (t7_1<(t6_0.length:Int)) then
 some (Sum.inr false)
 else
 bif (w64 (x5+1))==(x2.1.2.length:Int) then
 bif x2.2.2.2.1 != (t6_0.length:Int) then
 some (Sum.inr false)
 else
 some (Sum.inl (x2,x3,x5))
 else
 some (Sum.inl (x2,x3,x5)):Option (((QS)×(QD)×Int) ⊕ (Bool))).bind (fun o8=>caseS o8 (fun (x2,x3,x5)=>
 rec (x2,x3,w64 (x5+1))) (fun x4=>
 some (Sum.inr x4)))
 else none
 else
 some (Sum.inl (x2,x3))
def ψ2S.l2 (rec:((QS)×(QD)×Int)→Option ((Unit) ⊕ (Bool))):((QS)×(QD)×Int)→Option ((Unit) ⊕ (Bool)):=fun (x2,x3,x10)=>
 bif decide (x10<(x2.2.1.length:Int)) then
 bif inB x10 x2.2.1.length then
 let y10:=(rdA ([],0,0,0,0) x2.2.1 x10).1
 let y11:=((rdA ([],0,0,0,0) x2.2.1 x10).2).1
 let y12:=(((rdA ([],0,0,0,0) x2.2.1 x10).2).2).1
 let y13:=((((rdA ([],0,0,0,0) x2.2.1 x10).2).2).2).1
 let y14:=((((rdA ([],0,0,0,0) x2.2.1 x10).2).2).2).2
 (ψ2O.f y11).bind fun t15=>
 (ψ1t.f x3 t15).bind fun (t16_0,t16_1)=>
 (ψ2F.f t16_0 y12 y13).bind fun (t17_0,t17_1)=>
 (bif !t17_1 then
 some (Sum.inr false)
 else
 bif !(t17_0.2.2.1==y10) then
 some (Sum.inr false)
 else
 bif t17_0.2.1 != y14 then
 some (Sum.inr false)
 else
 bif t17_0.1 != 1 then
 bif t17_0.1 != 4 then
 some (Sum.inr false)
 else
 bif decide (y14≥x2.2.2.1) then
 some (Sum.inr false)
 else
 some (Sum.inl (x2,x3,x10))
 else
 bif decide (y14≥x2.2.2.1) then
 some (Sum.inr false)
 else
 some (Sum.inl (x2,x3,x10)):Option (((QS)×(QD)×Int) ⊕ (Bool))).bind (fun o18=>caseS o18 (fun (x2,x3,x10)=>
 rec (x2,x3,w64 (x10+1))) (fun x4=>
 some (Sum.inr x4)))
 else none
 else
 some (Sum.inl ())
def ψ2S.f (p0:QS) (p1:QD):Option (Bool):=
 (ψ1q.f p1).bind fun t1=>
 bif !t1 then
 some false
 else
 (ψ22.f p0.1).bind fun t2=>
 bif !t2 then
 some false
 else
 (ψ1n.f p0.2.1).bind fun t3=>
 bif !t3 then
 some false
 else
 (ψ2w.f p0.2.2.1 1 1000001).bind fun t4=>
 bif !t4 then
 some false
 else
 (lp ψ2S.l0 (p0,p1,0)).bind (fun o9=>caseS o9 (fun (x2,x3)=>
 (lp ψ2S.l2 (x2,x3,0)).bind (fun o19=>caseS o19 (fun _=>
 some true) (fun x4=>
 some x4))) (fun x4=>
 some x4))
def ψ9.l0 (rec:(List (QE)×List (QE)×Int×Int)→Option ((List (QE)) ⊕ (Bool))):(List (QE)×List (QE)×Int×Int)→Option ((List (QE)) ⊕ (Bool)):=fun (x0,x5,x6,x7)=>
 bif decide (x7<x6) then
 bif inB x7 x5.length then
 let y1:=(rdA ([],0,0,0,0) x5 x7).1
 let y2:=((rdA ([],0,0,0,0) x5 x7).2).1
 let y3:=(((rdA ([],0,0,0,0) x5 x7).2).2).1
 let y4:=((((rdA ([],0,0,0,0) x5 x7).2).2).2).1
 let y5:=((((rdA ([],0,0,0,0) x5 x7).2).2).2).2
 ((ψP.f y1).bind fun t6=>
 bif !t6 then
 some (Sum.inr false)
 else
 (ψ15.f y2 1 100000).bind fun t7=>
 bif !t7 then
 some (Sum.inr false)
 else
 bif decide (y3<0) then
 some (Sum.inr false)
 else
 (ψ15.f y4 1 210).bind fun t8=>
 bif !t8 then
 some (Sum.inr false)
 else
 (ψ15.f y5 1 1000000).bind fun t9=>
 bif !t9 then
 some (Sum.inr false)
 else
 bif decide (x7 > 0) then
 bif inB (w64 (x7 - 1)) x0.length then
 bif !(Op.bytesLess ((rdA ([],0,0,0,0) x0 (w64 (x7 - 1))).1) y1) then
 some (Sum.inr false)
 else
 some (Sum.inl (x0,x5,x6,x7))
 else none
 else
 some (Sum.inl (x0,x5,x6,x7)):Option ((List (QE)×List (QE)×Int×Int) ⊕ (Bool))).bind (fun o10=>caseS o10 (fun (x0,x5,x6,x7)=>
 rec (x0,x5,x6,w64 (x7+1))) (fun x2=>
 some (Sum.inr x2)))
 else none
 else
 some (Sum.inl x0)
def ψ9.f (p0:List (QE)):Option (Bool):=
 (lp ψ9.l0 (p0,p0,(p0.length:Int),0)).bind (fun o11=>caseS o11 (fun x0=>
 let y12:=decide ((x0.length:Int)≤20)
 some y12) (fun x2=>
 some x2))
def ψj.l0 (rec:(QB×List (Int×Int×QR)×Int)→Option (List (Int×Int×QR)×Int)):(QB×List (Int×Int×QR)×Int)→Option (List (Int×Int×QR)×Int):=fun (x0,x4,x5)=>
 bif (decide (0≤x5) && decide (x5≤(x0.length:Int))) then
 (ψv.f (x0.drop x5.toNat)).bind fun (t1_0,t1_1)=>
 (ψZ.f t1_0).bind fun (t2_0,t2_1)=>
 bif t1_1==0 then
 some (x4,x5)
 else
 bif !t2_1 then
 some (x4,x5)
 else
 bif decide ((x4.length+[(x5,t1_1,t2_0)].length) * 80≤140737488355328) then
 let l3:=x4++[(x5,t1_1,t2_0)]
 let y4:=w64 (x5+t1_1)
 rec (x0,l3,y4)
 else none
 else none
def ψj.f (p0:QB):Option (List (Int×Int×QR)×Int):=
 (lp ψj.l0 (p0,[],0)).bind (fun (x2,x3)=>
 some (x2,x3))
def ψo.l0 (rec:((QS)×(QD)×List Int×Int×Int)→Option (((QS)×QD) ⊕ (Bool))):((QS)×(QD)×List Int×Int×Int)→Option (((QS)×QD) ⊕ (Bool)):=fun (x2,x3,x40,x41,x42)=>
 bif decide (x42<x41) then
 bif inB x42 x40.length then
 (ψk.f (rdA 0 x40 x42)).bind fun t5=>
 (ψG.f x3 t5).bind fun (t6_0,t6_1)=>
 (ψj.f t6_0).bind fun (t7_0,t7_1)=>
 (bif !t6_1 then
 some (Sum.inr false)
 else
 bif t7_1 != (t6_0.length:Int) then
 some (Sum.inr false)
 else
 bif x42==(w64 ((x2.1.2.length:Int) - 1)) then
 bif x2.2.2.2.1 != t7_1 then
 some (Sum.inr false)
 else
 some (Sum.inl (x2,x3,x40,x41,x42))
 else
 some (Sum.inl (x2,x3,x40,x41,x42)):Option (((QS)×(QD)×List Int×Int×Int) ⊕ (Bool))).bind (fun o8=>caseS o8 (fun (x2,x3,x40,x41,x42)=>
 rec (x2,x3,x40,x41,w64 (x42+1))) (fun x4=>
 some (Sum.inr x4)))
 else none
 else
 some (Sum.inl (x2,x3))
def ψo.l2 (rec:((QS)×(QD)×List (QE)×Int×Int)→Option ((Unit) ⊕ (Bool))):((QS)×(QD)×List (QE)×Int×Int)→Option ((Unit) ⊕ (Bool)):=fun (x2,x3,x84,x85,x86)=>
 bif decide (x86<x85) then
 bif inB x86 x84.length then
 let y10:=(rdA ([],0,0,0,0) x84 x86).1
 let y11:=((rdA ([],0,0,0,0) x84 x86).2).1
 let y12:=(((rdA ([],0,0,0,0) x84 x86).2).2).1
 let y13:=((((rdA ([],0,0,0,0) x84 x86).2).2).2).1
 let y14:=((((rdA ([],0,0,0,0) x84 x86).2).2).2).2
 (ψk.f y11).bind fun t15=>
 (ψG.f x3 t15).bind fun (t16_0,t16_1)=>
 (ψb.f t16_0 y12 y13).bind fun (t17_0,t17_1)=>
 (bif !t17_1 then
 some (Sum.inr false)
 else
 bif t17_0.1 != 1 then
 bif t17_0.1 != 4 then
 some (Sum.inr false)
 else
 bif !(t17_0.2.2.1==y10) then
 some (Sum.inr false)
 else
 bif t17_0.2.1 != y14 then
 some (Sum.inr false)
 else
 bif decide (y14≥x2.2.2.1) then
 some (Sum.inr false)
 else
 some (Sum.inl (x2,x3,x84,x85,x86))
 else
 bif !(t17_0.2.2.1==y10) then
 some (Sum.inr false)
 else
 bif t17_0.2.1 != y14 then
 some (Sum.inr false)
 else
 bif decide (y14≥x2.2.2.1) then
 some (Sum.inr false)
 else
 some (Sum.inl (x2,x3,x84,x85,x86)):Option (((QS)×(QD)×List (QE)×Int×Int) ⊕ (Bool))).bind (fun o18=>caseS o18 (fun (x2,x3,x84,x85,x86)=>
 rec (x2,x3,x84,x85,w64 (x86+1))) (fun x4=>
 some (Sum.inr x4)))
 else none
 else
 some (Sum.inl ())
def ψo.f (p0:QS) (p1:QD):Option (Bool):=
 (ψB.f p1).bind fun t1=>
 bif !t1 then
 some false
 else
 (ψQ.f p0.1).bind fun t2=>
 bif !t2 then
 some false
 else
 (ψ9.f p0.2.1).bind fun t3=>
 bif !t3 then
 some false
 else
 (ψ15.f p0.2.2.1 1 1000001).bind fun t4=>
 bif !t4 then
 some false
 else
 (lp ψo.l0 (p0,p1,p0.1.2,(p0.1.2.length:Int),0)).bind (fun o9=>caseS o9 (fun (x2,x3)=>
 (lp ψo.l2 (x2,x3,x2.2.1,(x2.2.1.length:Int),0)).bind (fun o19=>caseS o19 (fun _=>
 some true) (fun x4=>
 some x4))) (fun x4=>
 some x4))
def ψ2d.f (p0:QD) (p1:QB):Option ((QD)×Int):=
 ((ψ36.f p0 p1).bind fun t1=>
 bif decide (t1≥0) then
 (ψ2I.f p0 p1).bind fun (t2_0,t2_1)=>
 bif t2_1 != 0 then
 some (Sum.inr (t2_0,t2_1))
 else
 some (Sum.inl (p1,t2_0,([],0,0,false)))
 else
 some (Sum.inl (p1,p0,([],0,0,false))):Option ((QB×(QD)×QD) ⊕ ((QD)×Int))).bind (fun o3=>caseS o3 (fun (x1,x2,x4)=>
 (ψ1j.f x2 x1).bind fun (t4_0,t4_1)=>
 some (t4_0,t4_1)) (fun (x4,x5)=>
 some (x4,x5)))
def ψ2b.f (p0:QD) (p1:QB) (p2:QB):Option ((QD)×Int):=
 (ψ2d.f p0 p1).bind fun (t1_0,t1_1)=>
 (bif t1_1==0 then
 (ψ1g.f t1_0 p1 p2).bind fun (t2_0,t2_1)=>
 some (p1,([],0,0,false),t2_0,t2_1)
 else
 some (p1,([],0,0,false),t1_0,t1_1):Option (QB×(QD)×(QD)×Int)).bind (fun (x1,x6,x8,x9)=>
 bif x9==0 then
 (ψ2U.f x8 x1).bind fun (t3_0,t3_1)=>
 some (t3_0,t3_1)
 else
 some (x8,x9))
def ψ2Q.l0 (rec:((Int×List Int)×QB×Int)→Option (QB)):((Int×List Int)×QB×Int)→Option (QB):=fun (x1,x3,x4)=>
 bif decide (x4<(x1.2.length:Int)) then
 bif inB x4 x1.2.length then
 (ψ2X.f (rdA 0 x1.2 x4)).bind fun t4=>
 bif decide (x3.length+t4.length≤9223372036854775807) then
 rec (x1,x3++t4,w64 (x4+1))
 else none
 else none
 else
 some x3
def ψ2Q.f (p0:Int×List Int):Option (QB):=
 (ψ22.f p0).bind fun t1=>
 bif !t1 then
 some []
 else
 (ψ2X.f p0.1).bind fun t2=>
 (ψ2X.f (p0.2.length:Int)).bind fun t3=>
 bif decide (t2.length+t3.length≤9223372036854775807) then
 (lp ψ2Q.l0 (p0,t2++t3,0)).bind (fun x3=>
 (ψ1v.f x3).bind fun t5=>
 some t5)
 else none
def ψ2a.f (p0:Int):Option (Int):=
 bif p0==0 then
 some 0
 else
 bif p0==1 then
 some 1
 else
 bif p0==2 then
 some 2
 else
 some 3
def ψ27.f (p0:QD) (p1:Int×List Int):Option ((QD)×Int):=
 (ψ1q.f p0).bind fun t1=>
 bif !t1 then
 (ψ34.f p0).bind fun t2=>
 some (t2,4)
 else
 (ψ22.f p1).bind fun t3=>
 bif !t3 then
 (ψ34.f p0).bind fun t4=>
 some (t4,4)
 else
 (ψ2Q.f p1).bind fun t5=>
 (ψ2b.f p0 [116,101,109,112] t5).bind fun (t6_0,t6_1)=>
 (bif t6_1==0 then
 (ψ2J.f t6_0 [116,101,109,112] [108,105,118,101]).bind fun (t7_0,t7_1)=>
 some (([],0,0,false),t7_0,t7_1)
 else
 some (([],0,0,false),t6_0,t6_1):Option ((QD)×(QD)×Int)).bind (fun (x4,x6,x7)=>
 (ψ2a.f x7).bind fun t8=>
 some (x6,t8))
def ψ1K.f (p0:Int):Option (Int):=
 bif p0==0 then
 some 0
 else
 bif p0==1 then
 some 1
 else
 bif p0==2 then
 some 2
 else
 some 3
def ψ1b.f (p0:(QD)×Int) (p1:QD) (p2:Int):Option ((QD)×Int):=
 (ψ1K.f p2).bind fun t1=>
 some (p1,t1)
def ψ1T.f (p0:(QD)×Int) (p1:QB):Option ((QD)×Int):=
 bif p0.2==0 then
 (ψ11.f p0.1 p1).bind fun t1=>
 bif decide (t1≥0) then
 (ψe.f p0.1 p1).bind fun (t2_0,t2_1)=>
 (ψ1b.f p0 t2_0 t2_1).bind fun t3=>
 some t3
 else
 some p0
 else
 some p0
def ψ1P.f (p0:(QD)×Int) (p1:QB):Option ((QD)×Int):=
 bif p0.2==0 then
 (ψ3.f p0.1 p1).bind fun (t1_0,t1_1)=>
 (ψ1b.f p0 t1_0 t1_1).bind fun t2=>
 some t2
 else
 some p0
def ψ1N.f (p0:(QD)×Int) (p1:QB):Option ((QD)×Int):=
 (ψ1T.f p0 p1).bind fun t1=>
 (ψ1P.f t1 p1).bind fun t2=>
 some t2
def ψ1W.f (p0:(QD)×Int) (p1:QB) (p2:QB):Option ((QD)×Int):=
 bif p0.2==0 then
 (ψ0.f p0.1 p1 p2).bind fun (t1_0,t1_1)=>
 (ψ1b.f p0 t1_0 t1_1).bind fun t2=>
 some t2
 else
 some p0
def ψ1a.f (p0:(QD)×Int) (p1:QB):Option ((QD)×Int):=
 bif p0.2==0 then
 (ψr.f p0.1 p1).bind fun (t1_0,t1_1)=>
 (ψ1b.f p0 t1_0 t1_1).bind fun t2=>
 some t2
 else
 some p0
def ψ1Q.f (p0:(QD)×Int) (p1:QB) (p2:QB):Option ((QD)×Int):=
 (ψ1N.f p0 p1).bind fun t1=>
 (ψ1W.f t1 p1 p2).bind fun t2=>
 (ψ1a.f t2 p1).bind fun t3=>
 some t3
def ψm.f (p0:Int×List Int):Option (QB):=
 (ψQ.f p0).bind fun t1=>
 bif !t1 then
 some []
 else
 (ψ1M.f [p0.1,(p0.2.length:Int)]).bind fun t2=>
 (ψ1M.f p0.2).bind fun t3=>
 bif decide (t2.length+t3.length≤9223372036854775807) then
 (ψI.f (t2++t3)).bind fun t4=>
 some t4
 else none
def ψ1Y.f (p0:(QD)×Int) (p1:QB) (p2:QB):Option ((QD)×Int):=
 bif p0.2==0 then
 (ψg.f p0.1 p1 p2).bind fun (t1_0,t1_1)=>
 (ψ1b.f p0 t1_0 t1_1).bind fun t2=>
 some t2
 else
 some p0
def ψ1X.f (p0:(QD)×Int) (p1:Int×List Int):Option ((QD)×Int):=
 (ψm.f p1).bind fun t1=>
 (ψ1Q.f p0 [116,101,109,112] t1).bind fun t2=>
 (ψ1Y.f t2 [116,101,109,112] [108,105,118,101]).bind fun t3=>
 some t3
def ψ38.f (p0:List Int×Int×Int):Option (QB×List Int×Int×Int):=
 (ψ2z.f p0 [[108,105,118,101],[115,101,103,49],[115,101,103,50],[115,101,103,51],[116,101,109,112],[104,105,110,116,49],[120],[97,57]]).bind fun (t1_0,t1_1)=>
 some (t1_0,t1_1)
def ψ1p.f (p0:Int):Option (QD):=
 (ψ2w.f p0 0 100000).bind fun t1=>
 bif !t1 then
 some ([],0,0,false)
 else
 some ([],p0,(-1),false)
def ψ30.f (p0:List Int×Int×Int) (p1:List Int):Option (Int×List Int×Int×Int):=
 (ψ2u.f p0 (p1.length:Int)).bind fun (t1_0,t1_1)=>
 bif inB t1_0 p1.length then
 some (rdA 0 p1 t1_0,t1_1)
 else none
def ψ1s.l0 (rec:((QS)×(QD)×List (QF)×Int)→Option ((List (QF)) ⊕ (List (QF)×Int))):((QS)×(QD)×List (QF)×Int)→Option ((List (QF)) ⊕ (List (QF)×Int)):=fun (x2,x3,x6,x7)=>
 bif decide (x7<(x2.2.1.length:Int)) then
 bif inB x7 x2.2.1.length then
 (ψ1w.f x2 x3 ((rdA ([],0,0,0,0) x2.2.1 x7).1)).bind fun (t1_0,t1_1)=>
 bif t1_1 != 0 then
 some (Sum.inr (([]:List (QF)),t1_1))
 else
 bif decide ((x6.length+[t1_0].length) * 40≤140737488355328) then
 rec (x2,x3,x6++[t1_0],w64 (x7+1))
 else none
 else none
 else
 some (Sum.inl x6)
def ψ1s.f (p0:QS) (p1:QD):Option (List (QF)×Int):=
 (lp ψ1s.l0 (p0,p1,([]:List (QF)),0)).bind (fun o2=>caseS o2 (fun x6=>
 some (x6,0)) (fun (x4,x5)=>
 some (x4,x5)))
def ψ2l.f (p0:QS):Option (QS):=
 bif decide ((([]:List Int).length+p0.1.2.length) * 8≤140737488355328) then
 let l1:=([]:List Int)++p0.1.2
 bif decide ((([]:List (QE)).length+p0.2.1.length) * 48≤140737488355328) then
 let l2:=([]:List (QE))++p0.2.1
 some ((p0.1.1,l1),l2,p0.2.2)
 else none
 else none
def ψ2g.f (p0:QS):Option (QB):=
 bif inB (w64 ((p0.1.2.length:Int) - 1)) p0.1.2.length then
 (ψ2O.f (rdA 0 p0.1.2 (w64 ((p0.1.2.length:Int) - 1)))).bind fun t1=>
 some t1
 else none
def ψ2p.l0 (rec:(List (QB)×(QD)×(QD)×Int)→Option (((QD)×QD) ⊕ ((QD)×Int))):(List (QB)×(QD)×(QD)×Int)→Option (((QD)×QD) ⊕ ((QD)×Int)):=fun (x1,x2,x4,x6)=>
 bif decide (x6<(x1.length:Int)) then
 (bif inB x6 x1.length then
 (ψ36.f x2 (rdA [] x1 x6)).bind fun t1=>
 bif decide (t1<0) then
 some (Sum.inl (x1,x2,x4,x6))
 else
 bif inB x6 x1.length then
 (ψ2I.f x2 (rdA [] x1 x6)).bind fun (t2_0,t2_1)=>
 bif t2_1 != 0 then
 some (Sum.inr (t2_0,t2_1))
 else
 some (Sum.inl (x1,t2_0,x4,x6))
 else none
 else none:Option ((List (QB)×(QD)×(QD)×Int) ⊕ ((QD)×Int))).bind (fun o3=>caseS o3 (fun (x1,x2,x4,x6)=>
 rec (x1,x2,x4,w64 (x6+1))) (fun (x4,x5)=>
 some (Sum.inr (x4,x5))))
 else
 some (Sum.inl (x2,x4))
def ψ2p.f (p0:QD) (p1:List (QB)):Option ((QD)×Int):=
 (lp ψ2p.l0 (p1,p0,([],0,0,false),0)).bind (fun o4=>caseS o4 (fun (x2,x4)=>
 some (x2,0)) (fun (x4,x5)=>
 some (x4,x5)))
def ψ2n.f (p0:QS) (p1:QD):Option ((QS)×(QD)×Int):=
 bif decide ((p0.1.2.length:Int)≥60) then
 some (p0,p1,5)
 else
 bif decide (p0.1.1≥100000) then
 some (p0,p1,5)
 else
 (ψ2g.f p0).bind fun t1=>
 (ψ2U.f p1 t1).bind fun (t2_0,t2_1)=>
 bif t2_1 != 0 then
 (ψ2a.f t2_1).bind fun t3=>
 some (p0,t2_0,t3)
 else
 let y4:=w64 (p0.1.1+1)
 (ψ2O.f p0.1.1).bind fun t5=>
 (ψ2d.f t2_0 t5).bind fun (t6_0,t6_1)=>
 bif t6_1 != 0 then
 (ψ2a.f t6_1).bind fun t7=>
 some (((y4,p0.1.2),p0.2),t6_0,t7)
 else
 bif decide ((([]:List Int).length+p0.1.2.length) * 8≤140737488355328) then
 let l8:=([]:List Int)++p0.1.2
 bif decide ((l8.length+[p0.1.1].length) * 8≤140737488355328) then
 let l9:=l8++[p0.1.1]
 let y10:=w64 (p0.1.1+1)
 (ψ27.f t6_0 (y10,l9)).bind fun (t11_0,t11_1)=>
 bif t11_1==2 then
 (ψ2O.f p0.1.1).bind fun t12=>
 (ψ2p.f t11_0 [[116,101,109,112],t12]).bind fun (t13_0,t13_1)=>
 bif t13_1 != 0 then
 (ψ2a.f t13_1).bind fun t14=>
 some (((y4,p0.1.2),p0.2),t13_0,t14)
 else
 some (((y4,p0.1.2),p0.2),t13_0,t11_1)
 else
 bif t11_1 != 0 then
 some (((y4,p0.1.2),p0.2),t11_0,t11_1)
 else
 some (((y10,l9),p0.2.1,p0.2.2.1,0,p0.2.2.2.2),t11_0,0)
 else none
 else none
def ψz.f (p0:Int×List Int):Option (Int×List Int):=
 bif decide ((([]:List Int).length+p0.2.length) * 8≤140737488355328) then
 let l1:=([]:List Int)++p0.2
 some (p0.1,l1)
 else none
def ψx.f (p0:List (QE)):Option (List (QE)):=
 bif decide ((([]:List (QE)).length+p0.length) * 48≤140737488355328) then
 let l1:=([]:List (QE))++p0
 some l1
 else none
def ψ10.f (p0:QS):Option (QS):=
 (ψz.f p0.1).bind fun t1=>
 (ψx.f p0.2.1).bind fun t2=>
 some (t1,t2,p0.2.2)
def ψ1O.l0 (rec:(((QD)×Int)×((QD)×Int)×List (QB)×Int×Int)→Option (((QD)×Int)×(QD)×Int)):(((QD)×Int)×((QD)×Int)×List (QB)×Int×Int)→Option (((QD)×Int)×(QD)×Int):=fun (x0,x4,x18,x19,x20)=>
 bif decide (x20<x19) then
 bif inB x20 x18.length then
 let y1:=rdA [] x18 x20
 (ψ1T.f x4 y1).bind fun t2=>
 rec ((([],x0.1.2),x0.2),t2,x18,x19,w64 (x20+1))
 else none
 else
 some ((([],x0.1.2),x0.2),x4)
def ψ1O.f (p0:(QD)×Int) (p1:List (QB)):Option ((QD)×Int):=
 bif p0.2 != 2 then
 some p0
 else
 (lp ψ1O.l0 ((([],p0.1.2),p0.2),(p0.1,0),p1,(p1.length:Int),0)).bind (fun (x0,x4)=>
 bif x4.2 != 0 then
 some x4
 else
 some (x4.1,x0.2))
def ψ1l.l0 (rec:(List (QE)×QB×List (QE)×Int)→Option (List (QE))):(List (QE)×QB×List (QE)×Int)→Option (List (QE)):=fun (x0,x1,x5,x6)=>
 bif decide (x6<(x0.length:Int)) then
 (bif inB x6 x0.length then
 bif !(((rdA ([],0,0,0,0) x0 x6).1)==x1) then
 bif inB x6 x0.length then
 bif decide ((x5.length+([((rdA ([],0,0,0,0) x0 x6).1,((rdA ([],0,0,0,0) x0 x6).2).1,(((rdA ([],0,0,0,0) x0 x6).2).2).1,((((rdA ([],0,0,0,0) x0 x6).2).2).2))]:List (QE)).length) * 48≤140737488355328) then
 let l1:=x5++([((rdA ([],0,0,0,0) x0 x6).1,((rdA ([],0,0,0,0) x0 x6).2).1,(((rdA ([],0,0,0,0) x0 x6).2).2).1,((((rdA ([],0,0,0,0) x0 x6).2).2).2))]:List (QE))
 some (x0,x1,l1,x6)
 else none
 else none
 else
 some (x0,x1,x5,x6)
 else none:Option (List (QE)×QB×List (QE)×Int)).bind (fun (x0,x1,x5,x6)=>
 rec (x0,x1,x5,w64 (x6+1)))
 else
 some x5
def ψ1l.f (p0:List (QE)) (p1:QB):Option (List (QE)):=
 (lp ψ1l.l0 (p0,p1,([]:List (QE)),0)).bind (fun x5=>
 some x5)
def ψ1o.l0 (rec:(List (QE)×(QE)×List (QE)×Bool×Int)→Option ((QE)×List (QE)×Bool)):(List (QE)×(QE)×List (QE)×Bool×Int)→Option ((QE)×List (QE)×Bool):=fun (x0,x3,x5,x6,x7)=>
 bif decide (x7<(x0.length:Int)) then
 (bif inB x7 x0.length then
 bif ((rdA ([],0,0,0,0) x0 x7).1)==x3.1 then
 some (x0,x3,x5,x6,x7)
 else
 (bif !x6 then
 bif inB x7 x0.length then
 bif !(Op.bytesLess ((rdA ([],0,0,0,0) x0 x7).1) x3.1 || ((rdA ([],0,0,0,0) x0 x7).1)==x3.1) then
 bif decide ((x5.length+[x3].length) * 48≤140737488355328) then
 some (x0,x3,x5++[x3],true,x7)
 else none
 else
 some (x0,x3,x5,x6,x7)
 else none
 else
 some (x0,x3,x5,x6,x7):Option (List (QE)×(QE)×List (QE)×Bool×Int)).bind (fun (x0,x3,x5,x6,x7)=>
 bif inB x7 x0.length then
 bif decide ((x5.length+([((rdA ([],0,0,0,0) x0 x7).1,((rdA ([],0,0,0,0) x0 x7).2).1,(((rdA ([],0,0,0,0) x0 x7).2).2).1,((((rdA ([],0,0,0,0) x0 x7).2).2).2))]:List (QE)).length) * 48≤140737488355328) then
 let l1:=x5++([((rdA ([],0,0,0,0) x0 x7).1,((rdA ([],0,0,0,0) x0 x7).2).1,(((rdA ([],0,0,0,0) x0 x7).2).2).1,((((rdA ([],0,0,0,0) x0 x7).2).2).2))]:List (QE))
 some (x0,x3,l1,x6,x7)
 else none
 else none)
 else none:Option (List (QE)×(QE)×List (QE)×Bool×Int)).bind (fun (x0,x3,x5,x6,x7)=>
 rec (x0,x3,x5,x6,w64 (x7+1)))
 else
 some (x3,x5,x6)
def ψ1o.f (p0:List (QE)) (p1:QE):Option (List (QE)):=
 (lp ψ1o.l0 (p0,p1,([]:List (QE)),false,0)).bind (fun (x3,x5,x6)=>
 bif !x6 then
 bif decide ((x5.length+[x3].length) * 48≤140737488355328) then
 some (x5++[x3])
 else none
 else
 some x5)
def ψ2i.l0 (rec:(List (QE)×List (QP)×Int)→Option (List (QE))):(List (QE)×List (QP)×Int)→Option (List (QE)):=fun (x0,x1,x5)=>
 bif decide (x5<(x1.length:Int)) then
 (bif inB x5 x1.length then
 bif ((rdA ([],false,[]) x1 x5).2).1 then
 bif inB x5 x1.length then
 (ψ1l.f x0 ((rdA ([],false,[]) x1 x5).1)).bind fun t1=>
 some (t1,x1,x5)
 else none
 else
 bif inB x5 x1.length then
 (ψ1o.f x0 ((rdA ([],false,[]) x1 x5).1,0,0,0,0)).bind fun t2=>
 some (t2,x1,x5)
 else none
 else none:Option (List (QE)×List (QP)×Int)).bind (fun (x0,x1,x5)=>
 rec (x0,x1,w64 (x5+1)))
 else
 some x0
def ψ2i.f (p0:List (QE)) (p1:List (QP)):Option (Int):=
 (lp ψ2i.l0 (p0,p1,0)).bind (fun x0=>
 let y3:=(x0.length:Int)
 some y3)
def ψ2h.f (p0:QS) (p1:QD) (p2:QR):Option ((QS)×(QD)×(Int×Int×Int×QR)×Int):=
 (ψ2R.f p2).bind fun t1=>
 (ψ1v.f t1).bind fun t2=>
 (bif decide (p0.2.2.2.1 > 0) then
 bif decide ((w64 (p0.2.2.2.1+(t2.length:Int))) > 200) then
 (ψ2n.f p0 p1).bind fun (t3_0,t3_1,t3_2)=>
 bif t3_2 != 0 then
 some (Sum.inr (t3_0,t3_1,(0,0,0,0,0,[],[],0,0),t3_2))
 else
 some (Sum.inl (t3_0,t3_1,p2,((0,[]),[],0,0,0),([],0,0,false),(0,0,0,0,0,[],[],0,0),t2))
 else
 some (Sum.inl (p0,p1,p2,((0,[]),[],0,0,0),([],0,0,false),(0,0,0,0,0,[],[],0,0),t2))
 else
 some (Sum.inl (p0,p1,p2,((0,[]),[],0,0,0),([],0,0,false),(0,0,0,0,0,[],[],0,0),t2)):Option (((QS)×(QD)×(QR)×(QS)×(QD)×(Int×Int×Int×QR)×QB) ⊕ ((QS)×(QD)×(Int×Int×Int×QR)×Int))).bind (fun o4=>caseS o4 (fun (x3,x4,x5,x6,x7,x8,x10)=>
 (ψ2g.f x3).bind fun t5=>
 (ψ1g.f x4 t5 x10).bind fun (t6_0,t6_1)=>
 bif t6_1 != 0 then
 (ψ2a.f t6_1).bind fun t7=>
 some (x3,t6_0,(0,0,0,0,0,[],[],0,0),t7)
 else
 bif inB (w64 ((x3.1.2.length:Int) - 1)) x3.1.2.length then
 let y8:=rdA 0 x3.1.2 (w64 ((x3.1.2.length:Int) - 1))
 let y9:=(x10.length:Int)
 let y10:=w64 (x3.2.2.2.1+(x10.length:Int))
 some ((x3.1,x3.2.1,x3.2.2.1,y10,x3.2.2.2.2),t6_0,(y8,x3.2.2.2.1,y9,x5),0)
 else none) (fun (x6,x7,x8,x9)=>
 some (x6,x7,x8,x9)))
def ψ3I.f (p0:List (QE)) (p1:Int×Int×Int×QR):Option (List (QE)):=
 bif p1.2.2.2.1==2 then
 (ψ1l.f p0 p1.2.2.2.2.2.1).bind fun t1=>
 some t1
 else
 (ψ1o.f p0 (p1.2.2.2.2.2.1,p1.1,p1.2.1,p1.2.2.1,p1.2.2.2.2.1)).bind fun t2=>
 some t2
def ψ2k.l0 (rec:(List (QP)×(QS)×(QD)×(QS)×(QD)×Int×List (QR)×List (QE)×Int)→Option (((QS)×(QD)×(QS)×(QD)×Int×List (QR)×List (QE)) ⊕ ((QS)×(QD)×Int))):(List (QP)×(QS)×(QD)×(QS)×(QD)×Int×List (QR)×List (QE)×Int)→Option (((QS)×(QD)×(QS)×(QD)×Int×List (QR)×List (QE)) ⊕ ((QS)×(QD)×Int)):=fun (x2,x3,x4,x6,x7,x9,x10,x11,x12)=>
 bif decide (x12<(x2.length:Int)) then
 bif inB x12 x2.length then
 bif inB x12 x2.length then
 let y3:=(rdA ([],false,[]) x2 x12).1
 let y4:=((rdA ([],false,[]) x2 x12).2).2
 (bif inB x12 x2.length then
 bif ((rdA ([],false,[]) x2 x12).2).1 then
 some (x2,x3,x4,x6,x7,x9,x10,x11,x12,(2,x9,y3,y4,0,0))
 else
 some (x2,x3,x4,x6,x7,x9,x10,x11,x12,(1,x9,y3,y4,0,0))
 else none:Option (List (QP)×(QS)×(QD)×(QS)×(QD)×Int×List (QR)×List (QE)×Int×QR)).bind (fun (x2,x3,x4,x6,x7,x9,x10,x11,x12,x13)=>
 (ψ2h.f x3 x4 x13).bind fun (t5_0,t5_1,t5_2,t5_3)=>
 bif t5_3 != 0 then
 some (Sum.inr (t5_0,t5_1,t5_3))
 else
 (ψ3I.f x11 t5_2).bind fun t6=>
 bif decide ((x10.length+[x13].length) * 64≤140737488355328) then
 rec (x2,t5_0,t5_1,x6,x7,x9,x10++[x13],t6,w64 (x12+1))
 else none)
 else none
 else none
 else
 some (Sum.inl (x3,x4,x6,x7,x9,x10,x11))
def ψ2k.f (p0:QS) (p1:QD) (p2:List (QP)):Option ((QS)×(QD)×Int):=
 let y1:=w64 (p0.2.2.1+1)
 bif decide ((([]:List (QE)).length+p0.2.1.length) * 48≤140737488355328) then
 let l2:=([]:List (QE))++p0.2.1
 (lp ψ2k.l0 (p2,(p0.1,p0.2.1,y1,p0.2.2.2),p1,((0,[]),[],0,0,0),([],0,0,false),p0.2.2.1,([]:List (QR)),l2,0)).bind (fun o7=>caseS o7 (fun (x3,x4,x6,x7,x9,x10,x11)=>
 (ψ3K.f x10 x9 3).bind fun t8=>
 (ψ2h.f x3 x4 t8).bind fun (t9_0,t9_1,t9_2,t9_3)=>
 bif t9_3 != 0 then
 some (t9_0,t9_1,t9_3)
 else
 (ψ2g.f t9_0).bind fun t10=>
 (ψ2U.f t9_1 t10).bind fun (t11_0,t11_1)=>
 bif t11_1 != 0 then
 (ψ2a.f t11_1).bind fun t12=>
 some (t9_0,t11_0,t12)
 else
 some ((t9_0.1,x11,t9_0.2.2),t11_0,0)) (fun (x6,x7,x8)=>
 some (x6,x7,x8)))
 else none
def ψ1h.f (p0:QS) (p1:QD) (p2:List (QP)):Option ((QS)×(QD)×Int):=
 (ψ2l.f p0).bind fun t1=>
 (ψ34.f p1).bind fun t2=>
 (ψ2S.f p0 p1).bind fun t3=>
 bif !t3 then
 some (t1,t2,4)
 else
 (ψ28.f p2).bind fun t4=>
 bif !t4 then
 some (t1,t2,4)
 else
 bif (p2.length:Int)==0 then
 some (t1,t2,0)
 else
 (ψ2i.f p0.2.1 p2).bind fun t5=>
 bif decide (t5 > 20) then
 some (t1,t2,5)
 else
 bif decide (p0.2.2.1 > 1000000) then
 some (t1,t2,5)
 else
 (ψ2k.f t1 t2 p2).bind fun (t6_0,t6_1,t6_2)=>
 some (t6_0,t6_1,t6_2)
def ψ6.l0 (rec:(QB×List (QE)×List (QE)×Int×Int)→Option (List (QE))):(QB×List (QE)×List (QE)×Int×Int)→Option (List (QE)):=fun (x1,x5,x8,x9,x10)=>
 bif decide (x10<x9) then
 bif inB x10 x8.length then
 let y1:=(rdA ([],0,0,0,0) x8 x10).1
 let y2:=((rdA ([],0,0,0,0) x8 x10).2).1
 let y3:=(((rdA ([],0,0,0,0) x8 x10).2).2).1
 let y4:=((((rdA ([],0,0,0,0) x8 x10).2).2).2).1
 let y5:=((((rdA ([],0,0,0,0) x8 x10).2).2).2).2
 (bif !(y1==x1) then
 bif decide ((x5.length+[(y1,y2,y3,y4,y5)].length) * 48≤140737488355328) then
 let l6:=x5++[(y1,y2,y3,y4,y5)]
 some (x1,l6,x8,x9,x10)
 else none
 else
 some (x1,x5,x8,x9,x10):Option (QB×List (QE)×List (QE)×Int×Int)).bind (fun (x1,x5,x8,x9,x10)=>
 rec (x1,x5,x8,x9,w64 (x10+1)))
 else none
 else
 some x5
def ψ6.f (p0:List (QE)) (p1:QB):Option (List (QE)):=
 (lp ψ6.l0 (p1,[],p0,(p0.length:Int),0)).bind (fun x5=>
 some x5)
def ψA.l0 (rec:((QE)×List (QE)×Int)→Option ((QE)×List (QE)×Int)):((QE)×List (QE)×Int)→Option ((QE)×List (QE)×Int):=fun (x3,x5,x6)=>
 bif decide (x6<(x5.length:Int)) then
 bif inB x6 x5.length then
 bif (Op.bytesLess ((rdA ([],0,0,0,0) x5 x6).1) x3.1 || ((rdA ([],0,0,0,0) x5 x6).1)==x3.1) then
 rec (x3,x5,w64 (x6+1))
 else
 some (x3,x5,x6)
 else none
 else
 some (x3,x5,x6)
def ψA.f (p0:List (QE)) (p1:QE):Option (List (QE)):=
 (ψ6.f p0 p1.1).bind fun t1=>
 (lp ψA.l0 (p1,t1,0)).bind (fun (x3,x5,x6)=>
 bif (decide (0≤x6) && decide (x6≤(x5.length:Int))) then
 (ψx.f (x5.take x6.toNat)).bind fun t2=>
 bif decide ((t2.length+[x3].length) * 48≤140737488355328) then
 bif (decide (0≤x6) && decide (x6≤(x5.length:Int))) then
 bif decide (((t2++[x3]).length+(x5.drop x6.toNat).length) * 48≤140737488355328) then
 let l3:=(t2++[x3])++(x5.drop x6.toNat)
 some l3
 else none
 else none
 else none
 else none)
def ψ2t.l0 (rec:(Int×List (QF)×Int×(QD)×List (QE)×(QD)×Int×List (QR)×Int×Int)→Option (Int×Int×(QD)×List (QE)×(QD)×Int×List (QR))):(Int×List (QF)×Int×(QD)×List (QE)×(QD)×Int×List (QR)×Int×Int)→Option (Int×Int×(QD)×List (QE)×(QD)×Int×List (QR)):=fun (x1,x2,x3,x8,x11,x12,x13,x14,x15,x16)=>
 bif decide (x16<(x2.length:Int)) then
 bif x13==0 then
 bif inB x16 x2.length then
 (ψ2r.f ((rdA ([],[],0) x2 x16).1,((rdA ([],[],0) x2 x16).2))).bind fun t3=>
 (ψ2R.f t3).bind fun t4=>
 (ψ1v.f t4).bind fun t5=>
 (ψ2O.f x1).bind fun t6=>
 (ψ1g.f x12 t6 t5).bind fun (t7_0,t7_1)=>
 bif decide ((x14.length+[t3].length) * 64≤140737488355328) then
 bif decide ((x11.length+[(t3.2.2.1,x1,x15,(t5.length:Int),t3.2.1)].length) * 48≤140737488355328) then
 let l8:=x11++[(t3.2.2.1,x1,x15,(t5.length:Int),t3.2.1)]
 let y9:=w64 (x15+(t5.length:Int))
 rec (x1,x2,x3,x8,l8,t7_0,t7_1,x14++[t3],y9,w64 (x16+1))
 else none
 else none
 else none
 else
 some (x1,x3,x8,x11,x12,x13,x14)
 else
 some (x1,x3,x8,x11,x12,x13,x14)
def ψ2t.f (p0:QD) (p1:Int) (p2:List (QF)) (p3:Int):Option ((QD)×List (QE)×Int):=
 (ψ2O.f p1).bind fun t1=>
 (ψ2d.f p0 t1).bind fun (t2_0,t2_1)=>
 (lp ψ2t.l0 (p1,p2,p3,([],0,0,false),([]:List (QE)),t2_0,t2_1,([]:List (QR)),0,0)).bind (fun (x1,x3,x8,x11,x12,x13,x14)=>
 (bif x13==0 then
 (ψ2O.f x1).bind fun t10=>
 (ψ3K.f x14 x3 5).bind fun t11=>
 (ψ2R.f t11).bind fun t12=>
 (ψ1v.f t12).bind fun t13=>
 (ψ1g.f x12 t10 t13).bind fun (t14_0,t14_1)=>
 some (x1,x8,x11,t14_0,t14_1)
 else
 some (x1,x8,x11,x12,x13):Option (Int×(QD)×List (QE)×(QD)×Int)).bind (fun (x1,x8,x11,x12,x13)=>
 (bif x13==0 then
 (ψ2O.f x1).bind fun t15=>
 (ψ2U.f x12 t15).bind fun (t16_0,t16_1)=>
 some (x8,x11,t16_0,t16_1)
 else
 some (x8,x11,x12,x13):Option ((QD)×List (QE)×(QD)×Int)).bind (fun (x8,x11,x12,x13)=>
 (ψ2a.f x13).bind fun t17=>
 some (x12,x11,t17))))
def ψ1y.f (p0:Int):Option (QB):=
 (ψ2w.f p0 1 100000).bind fun t1=>
 bif !t1 then
 some []
 else
 (ψ1k.f p0).bind fun t2=>
 bif decide (([104,105,110,116]:QB).length+t2.length≤9223372036854775807) then
 let y3:=[104,105,110,116]++t2
 some y3
 else none
def ψ2q.f (p0:QS) (p1:QD) (p2:Int) (p3:Int):Option ((QS)×(QD)×Int):=
 bif p3 != 2 then
 some (p0,p1,p3)
 else
 (ψ2O.f p2).bind fun t1=>
 (ψ2O.f (w64 (p2+1))).bind fun t2=>
 (ψ1y.f p2).bind fun t3=>
 (ψ2p.f p1 [[116,101,109,112],t1,t2,t3]).bind fun (t4_0,t4_1)=>
 bif t4_1 != 0 then
 (ψ2a.f t4_1).bind fun t5=>
 some (p0,t4_0,t5)
 else
 some (p0,t4_0,p3)
def ψ1z.l0 (rec:(Int×(Int×Int×List (QE))×List (Int×Int×QR)×(Int×Int×List (QE))×List (QR)×Int)→Option (((Int×Int×List (QE))×List (Int×Int×QR)×(Int×Int×List (QE))×List (QR)) ⊕ ((Int×Int×List (QE))×Bool))):(Int×(Int×Int×List (QE))×List (Int×Int×QR)×(Int×Int×List (QE))×List (QR)×Int)→Option (((Int×Int×List (QE))×List (Int×Int×QR)×(Int×Int×List (QE))×List (QR)) ⊕ ((Int×Int×List (QE))×Bool)):=fun (x0,x4,x6,x8,x9,x10)=>
 bif decide ((w64 (x10+1))<(x6.length:Int)) then
 bif inB x10 x6.length then
 let y5:=(((rdA (0,0,0,0,[],[],0,0) x6 x10).2).2).1
 let y6:=((((rdA (0,0,0,0,[],[],0,0) x6 x10).2).2).2).1
 let y7:=(((((rdA (0,0,0,0,[],[],0,0) x6 x10).2).2).2).2).1
 let y8:=((((((rdA (0,0,0,0,[],[],0,0) x6 x10).2).2).2).2).2).1
 let y9:=(((((((rdA (0,0,0,0,[],[],0,0) x6 x10).2).2).2).2).2).2).1
 let y10:=(((((((rdA (0,0,0,0,[],[],0,0) x6 x10).2).2).2).2).2).2).2
 (bif y5 != 4 then
 some (Sum.inr ((0,0,[]),false))
 else
 bif decide (y6 > x8.2.1) then
 some (Sum.inr ((0,0,[]),false))
 else
 bif decide (x10 > 0) then
 bif inB (w64 (x10 - 1)) x6.length then
 bif (Op.bytesLess y7 ((((((rdA (0,0,0,0,[],[],0,0) x6 (w64 (x10 - 1))).2).2).2).2).1) || y7==((((((rdA (0,0,0,0,[],[],0,0) x6 (w64 (x10 - 1))).2).2).2).2).1)) then
 some (Sum.inr ((0,0,[]),false))
 else
 some (Sum.inl (x0,x4,x6,x8,x9,x10,(y5,y6,y7,y8,y9,y10)))
 else none
 else
 some (Sum.inl (x0,x4,x6,x8,x9,x10,(y5,y6,y7,y8,y9,y10))):Option ((Int×(Int×Int×List (QE))×List (Int×Int×QR)×(Int×Int×List (QE))×List (QR)×Int×QR) ⊕ ((Int×Int×List (QE))×Bool))).bind (fun o11=>caseS o11 (fun (x0,x4,x6,x8,x9,x10,x11)=>
 bif decide ((x9.length+[x11].length) * 64≤140737488355328) then
 bif inB x10 x6.length then
 bif inB x10 x6.length then
 bif decide ((x8.2.2.length+([(x11.2.2.1,x0,(rdA (0,0,0,0,[],[],0,0) x6 x10).1,((rdA (0,0,0,0,[],[],0,0) x6 x10).2).1,x11.2.1)]:List (QE)).length) * 48≤140737488355328) then
 let l12:=x8.2.2++([(x11.2.2.1,x0,(rdA (0,0,0,0,[],[],0,0) x6 x10).1,((rdA (0,0,0,0,[],[],0,0) x6 x10).2).1,x11.2.1)]:List (QE))
 rec (x0,x4,x6,(x8.1,x8.2.1,l12),x9++[x11],w64 (x10+1))
 else none
 else none
 else none
 else none) (fun (x4,x5)=>
 some (Sum.inr (x4,x5))))
 else none
 else
 some (Sum.inl (x4,x6,x8,x9))
def ψ1z.f (p0:Int) (p1:QB):Option ((Int×Int×List (QE))×Bool):=
 (ψ2N.f p1).bind fun (t1_0,t1_1)=>
 bif t1_1 != (p1.length:Int) then
 some ((0,0,[]),false)
 else
 bif (t1_0.length:Int)==0 then
 some ((0,0,[]),false)
 else
 bif inB (w64 ((t1_0.length:Int) - 1)) t1_0.length then
 bif ((((rdA (0,0,0,0,[],[],0,0) t1_0 (w64 ((t1_0.length:Int) - 1))).2).2).1) != 5 then
 some ((0,0,[]),false)
 else
 (ψ2O.f p0).bind fun t2=>
 bif t2==[] then
 some ((0,0,[]),false)
 else
 bif inB (w64 ((t1_0.length:Int) - 1)) t1_0.length then
 let y3:=(p1.length:Int)
 let y4:=((((rdA (0,0,0,0,[],[],0,0) t1_0 (w64 ((t1_0.length:Int) - 1))).2).2).2).1
 (lp ψ1z.l0 (p0,(0,0,[]),t1_0,(y3,y4,[]),([]:List (QR)),0)).bind (fun o13=>caseS o13 (fun (x4,x6,x8,x9)=>
 bif inB (w64 ((x6.length:Int) - 1)) x6.length then
 let y14:=(((rdA (0,0,0,0,[],[],0,0) x6 (w64 ((x6.length:Int) - 1))).2).2).1
 let y15:=((((rdA (0,0,0,0,[],[],0,0) x6 (w64 ((x6.length:Int) - 1))).2).2).2).1
 let y16:=(((((rdA (0,0,0,0,[],[],0,0) x6 (w64 ((x6.length:Int) - 1))).2).2).2).2).1
 let y17:=((((((rdA (0,0,0,0,[],[],0,0) x6 (w64 ((x6.length:Int) - 1))).2).2).2).2).2).1
 let y18:=(((((((rdA (0,0,0,0,[],[],0,0) x6 (w64 ((x6.length:Int) - 1))).2).2).2).2).2).2).1
 let y19:=(((((((rdA (0,0,0,0,[],[],0,0) x6 (w64 ((x6.length:Int) - 1))).2).2).2).2).2).2).2
 bif y18 != (x9.length:Int) then
 some ((0,0,[]),false)
 else
 (ψ2T.f x9).bind fun t20=>
 bif y19 != t20 then
 some ((0,0,[]),false)
 else
 some (x8,true)
 else none) (fun (x4,x5)=>
 some (x4,x5)))
 else none
 else none
def ψ2Y.l0 (rec:((Int×Int×List (QE))×Int)→Option ((Unit) ⊕ (Bool))):((Int×Int×List (QE))×Int)→Option ((Unit) ⊕ (Bool)):=fun (x1,x3)=>
 bif decide (x3<(x1.2.2.length:Int)) then
 bif inB x3 x1.2.2.length then
 bif inB 0 x1.2.2.length then
 bif (((rdA ([],0,0,0,0) x1.2.2 x3).2).1) != (((rdA ([],0,0,0,0) x1.2.2 0).2).1) then
 some (Sum.inr false)
 else
 bif inB x3 x1.2.2.length then
 bif decide (((((rdA ([],0,0,0,0) x1.2.2 x3).2).2).1) > 100000) then
 some (Sum.inr false)
 else
 rec (x1,w64 (x3+1))
 else none
 else none
 else none
 else
 some (Sum.inl ())
def ψ2Y.f (p0:Int×Int×List (QE)):Option (Bool):=
 (ψ2w.f p0.1 0 100000).bind fun t1=>
 bif !t1 then
 some false
 else
 (ψ2w.f p0.2.1 0 1000000).bind fun t2=>
 bif !t2 then
 some false
 else
 (ψ1n.f p0.2.2).bind fun t3=>
 bif !t3 then
 some false
 else
 (lp ψ2Y.l0 (p0,0)).bind (fun o4=>caseS o4 (fun _=>
 some true) (fun x2=>
 some x2))
def ψ2P.l0 (rec:((Int×Int×List (QE))×QB×Int)→Option (QB)):((Int×Int×List (QE))×QB×Int)→Option (QB):=fun (x1,x3,x4)=>
 bif decide (x4<(x1.2.2.length:Int)) then
 bif inB x4 x1.2.2.length then
 let y6:=(rdA ([],0,0,0,0) x1.2.2 x4).1
 let y7:=((rdA ([],0,0,0,0) x1.2.2 x4).2).1
 let y8:=(((rdA ([],0,0,0,0) x1.2.2 x4).2).2).1
 let y9:=((((rdA ([],0,0,0,0) x1.2.2 x4).2).2).2).1
 let y10:=((((rdA ([],0,0,0,0) x1.2.2 x4).2).2).2).2
 (ψ2X.f (y6.length:Int)).bind fun t11=>
 bif decide (x3.length+t11.length≤9223372036854775807) then
 bif decide ((x3++t11).length+y6.length≤9223372036854775807) then
 (ψ2X.f y7).bind fun t12=>
 bif decide (((x3++t11)++y6).length+t12.length≤9223372036854775807) then
 (ψ2X.f y8).bind fun t13=>
 bif decide ((((x3++t11)++y6)++t12).length+t13.length≤9223372036854775807) then
 (ψ2X.f y9).bind fun t14=>
 bif decide (((((x3++t11)++y6)++t12)++t13).length+t14.length≤9223372036854775807) then
 (ψ2X.f y10).bind fun t15=>
 bif decide ((((((x3++t11)++y6)++t12)++t13)++t14).length+t15.length≤9223372036854775807) then
 let y16:=(((((x3++t11)++y6)++t12)++t13)++t14)++t15
 rec (x1,y16,w64 (x4+1))
 else none
 else none
 else none
 else none
 else none
 else none
 else none
 else
 some x3
def ψ2P.f (p0:Int×Int×List (QE)):Option (QB):=
 (ψ2Y.f p0).bind fun t1=>
 bif !t1 then
 some []
 else
 (ψ2X.f p0.1).bind fun t2=>
 (ψ2X.f p0.2.1).bind fun t3=>
 bif decide (t2.length+t3.length≤9223372036854775807) then
 (ψ2X.f (p0.2.2.length:Int)).bind fun t4=>
 bif decide ((t2++t3).length+t4.length≤9223372036854775807) then
 let y5:=(t2++t3)++t4
 (lp ψ2P.l0 (p0,y5,0)).bind (fun x3=>
 (ψ1i.f x3).bind fun t17=>
 (ψ1u.f t17 4).bind fun t18=>
 bif decide (t18.length+x3.length≤9223372036854775807) then
 some (t18++x3)
 else none)
 else none
 else none
def ψ2s.l0 (rec:((QS)×(QS)×(QD)×(QD)×List Int×Int)→Option (((QS)×(QS)×(QD)×QD) ⊕ ((QS)×(QD)×Int))):((QS)×(QS)×(QD)×(QD)×List Int×Int)→Option (((QS)×(QS)×(QD)×QD) ⊕ ((QS)×(QD)×Int)):=fun (x3,x6,x7,x10,x18,x20)=>
 bif decide (x20<(x18.length:Int)) then
 bif inB x20 x18.length then
 (ψ2O.f (rdA 0 x18 x20)).bind fun t20=>
 bif inB x20 x18.length then
 (ψ1y.f (rdA 0 x18 x20)).bind fun t21=>
 (ψ2p.f x10 [t20,t21]).bind fun (t22_0,t22_1)=>
 bif t22_1 != 0 then
 (ψ2a.f t22_1).bind fun t23=>
 some (Sum.inr (x3,t22_0,t23))
 else
 rec (x3,x6,x7,t22_0,x18,w64 (x20+1))
 else none
 else none
 else
 some (Sum.inl (x3,x6,x7,x10))
def ψ2s.f (p0:QS) (p1:QD) (p2:List (QF)):Option ((QS)×(QD)×Int):=
 let y1:=w64 (p0.1.1+2)
 (ψ2t.f p1 p0.1.1 p2 (w64 (p0.2.2.1 - 1))).bind fun (t2_0,t2_1,t2_2)=>
 bif t2_2 != 0 then
 (ψ2q.f ((y1,p0.1.2),p0.2) t2_0 p0.1.1 t2_2).bind fun (t3_0,t3_1,t3_2)=>
 some (t3_0,t3_1,t3_2)
 else
 (ψ2O.f (w64 (p0.1.1+1))).bind fun t4=>
 (ψ2d.f t2_0 t4).bind fun (t5_0,t5_1)=>
 bif t5_1 != 0 then
 (ψ2a.f t5_1).bind fun t6=>
 (ψ2q.f ((y1,p0.1.2),p0.2) t5_0 p0.1.1 t6).bind fun (t7_0,t7_1,t7_2)=>
 some (t7_0,t7_1,t7_2)
 else
 (ψ2O.f p0.1.1).bind fun t8=>
 (ψ1t.f t5_0 t8).bind fun (t9_0,t9_1)=>
 (ψ1z.f p0.1.1 t9_0).bind fun (t10_0,t10_1)=>
 (ψ1y.f p0.1.1).bind fun t11=>
 (ψ2P.f t10_0).bind fun t12=>
 (ψ2b.f t5_0 t11 t12).bind fun (t13_0,t13_1)=>
 (bif t13_1==2 then
 (ψ1y.f p0.1.1).bind fun t14=>
 (ψ2p.f t13_0 [t14]).bind fun (t15_0,t15_1)=>
 some (((y1,p0.1.2),p0.2),((0,[]),[],0,0,0),([],0,0,false),p0.1.1,t15_0,t2_1,t15_1)
 else
 some (((y1,p0.1.2),p0.2),((0,[]),[],0,0,0),([],0,0,false),p0.1.1,t13_0,t2_1,t13_1):Option ((QS)×(QS)×(QD)×Int×(QD)×List (QE)×Int)).bind (fun (x3,x6,x7,x9,x10,x11,x13)=>
 bif x13 != 0 then
 (ψ2a.f x13).bind fun t16=>
 some (x3,x10,t16)
 else
 bif decide ((([]:List Int).length+x3.1.2.length) * 8≤140737488355328) then
 let l17:=([]:List Int)++x3.1.2
 (ψ27.f x10 (w64 (x9+2),[x9,w64 (x9+1)])).bind fun (t18_0,t18_1)=>
 bif t18_1 != 0 then
 (ψ2q.f x3 t18_0 x9 t18_1).bind fun (t19_0,t19_1,t19_2)=>
 some (t19_0,t19_1,t19_2)
 else
 (lp ψ2s.l0 (((w64 (x9+2),[x9,w64 (x9+1)]),x11,x3.2.2.1,0,0),x6,x7,t18_0,l17,0)).bind (fun o24=>caseS o24 (fun (x3,x6,x7,x10)=>
 some (x3,x10,0)) (fun (x6,x7,x8)=>
 some (x6,x7,x8)))
 else none)
def ψ23.f (p0:QS) (p1:QD):Option ((QS)×(QD)×Int):=
 (ψ2l.f p0).bind fun t1=>
 (ψ34.f p1).bind fun t2=>
 (ψ2S.f p0 p1).bind fun t3=>
 bif !t3 then
 some (t1,t2,4)
 else
 bif decide ((w64 (p0.1.1+2)) > 100000) then
 some (t1,t2,5)
 else
 (ψ1s.f p0 p1).bind fun (t4_0,t4_1)=>
 bif t4_1 != 0 then
 some (t1,t2,t4_1)
 else
 (ψ2s.f t1 t2 t4_0).bind fun (t5_0,t5_1,t5_2)=>
 some (t5_0,t5_1,t5_2)
def ψ35.l0 (rec:((List Int×Int×Int)×(QD)×(QD)×Int)→Option ((List Int×Int×Int)×(QD)×QD)):((List Int×Int×Int)×(QD)×(QD)×Int)→Option ((List Int×Int×Int)×(QD)×QD):=fun (x0,x2,x3,x4)=>
 bif decide (x4 > 0) then
 (ψ38.f x0).bind fun (t3_0,t3_1)=>
 (ψ2u.f t3_1 6).bind fun (t4_0,t4_1)=>
 ((bif t4_0==0 then
 some (t4_1,x2,x3,x4,t3_0,([],x3.2),t4_0,t4_0==0)
 else
 some (t4_1,x2,x3,x4,t3_0,([],x3.2),t4_0,t4_0==1):Option ((List Int×Int×Int)×(QD)×(QD)×Int×QB×(QD)×Int×Bool)).bind (fun (x0,x2,x3,x4,x5,x6,x18,x27)=>
 bif x27 then
 (ψ1j.f x3 x5).bind fun (t5_0,t5_1)=>
 some (x0,x2,x3,x4,t5_0)
 else
 (bif x18==2 then
 some (x0,x2,x3,x4,x5,([],x6.2),x18,x18==2)
 else
 some (x0,x2,x3,x4,x5,([],x6.2),x18,x18==3):Option ((List Int×Int×Int)×(QD)×(QD)×Int×QB×(QD)×Int×Bool)).bind (fun (x0,x2,x3,x4,x5,x6,x18,x36)=>
 bif x36 then
 (ψ31.f x0 9).bind fun (t6_0,t6_1)=>
 (ψ1g.f x3 x5 t6_0).bind fun (t7_0,t7_1)=>
 some (t6_1,x2,x3,x4,t7_0)
 else
 (bif x18==4 then
 (ψ2U.f x3 x5).bind fun (t8_0,t8_1)=>
 some (x0,x2,x3,x4,t8_0)
 else
 (ψ38.f x0).bind fun (t9_0,t9_1)=>
 (ψ2J.f x3 x5 t9_0).bind fun (t10_0,t10_1)=>
 some (t9_1,x2,x3,x4,t10_0):Option ((List Int×Int×Int)×(QD)×(QD)×Int×QD)).bind (fun (x0,x2,x3,x4,x6)=>
 some (x0,x2,x3,x4,x6)))):Option ((List Int×Int×Int)×(QD)×(QD)×Int×QD)).bind (fun (x0,x2,x3,x4,x6)=>
 rec (x0,x2,x6,w64 (x4 - 1)))
 else
 some (x0,x2,x3)
def ψ35.f (p0:List Int×Int×Int):Option ((QD)×List Int×Int×Int):=
 (ψ1p.f 200).bind fun t1=>
 (ψ2u.f p0 12).bind fun (t2_0,t2_1)=>
 (lp ψ35.l0 (t2_1,([],0,0,false),t1,t2_0)).bind (fun (x0,x2,x3)=>
 some (x3,x0))
def ψ32.l1 (rec:((List Int×Int×Int)×(QD)×(QD)×Int)→Option ((List Int×Int×Int)×(QD)×QD)):((List Int×Int×Int)×(QD)×(QD)×Int)→Option ((List Int×Int×Int)×(QD)×QD):=fun (x0,x2,x3,x4)=>
 (ψ2u.f x0 3).bind fun (t11_0,t11_1)=>
 bif decide (x4<(w64 (129+t11_0))) then
 bif decide ((x3.1.length:Int)<131) then
 (ψ1k.f (w64 (100+x4))).bind fun t12=>
 bif decide (([121]:QB).length+t12.length≤9223372036854775807) then
 bif decide ((x3.1.length+([([121]++t12,[],0)]:List (QF)).length) * 40≤140737488355328) then
 let l13:=x3.1++([([121]++t12,[],0)]:List (QF))
 rec (t11_1,x2,(l13,x3.2),w64 (x4+1))
 else none
 else none
 else
 some (t11_1,x2,x3)
 else
 some (t11_1,x2,x3)
def ψ32.f (p0:List Int×Int×Int):Option ((QD)×List Int×Int×Int):=
 (ψ35.f p0).bind fun (t1_0,t1_1)=>
 (ψ2u.f t1_1 14).bind fun (t2_0,t2_1)=>
 bif t2_0==0 then
 (ψ30.f t2_1 [0,1,(-2),(-1)]).bind fun (t3_0,t3_1)=>
 some ((t1_0.1,t1_0.2.1,t3_0,t1_0.2.2.2),t3_1)
 else
 bif t2_0==1 then
 some ((t1_0.1,t1_0.2.1,t1_0.2.2.1,true),t2_1)
 else
 bif t2_0==2 then
 (ψ39.f t1_0).bind fun t4=>
 (ψ39.f t1_0).bind fun t5=>
 (ψ30.f t2_1 [(-1),5,t4,w64 (t5+3),100000,100001]).bind fun (t6_0,t6_1)=>
 some ((t1_0.1,t6_0,t1_0.2.2),t6_1)
 else
 bif t2_0==3 then
 bif decide ((t1_0.1.length:Int) > 0) then
 (ψ2u.f t2_1 9).bind fun (t7_0,t7_1)=>
 bif inB 0 t1_0.1.length then
 let l8:=t1_0.1.set 0 ((rdA ([],[],0) t1_0.1 0).1,((rdA ([],[],0) t1_0.1 0).2).1,w64 (t7_0 - 1))
 some ((l8,t1_0.2),t7_1)
 else none
 else
 some (t1_0,t2_1)
 else
 bif t2_0==4 then
 bif decide ((t1_0.1.length:Int) > 0) then
 (ψ2z.f t2_1 ([[],[65],[122,122],[116,111,111,108,111,110,103,97,110,97,109,101,49]]:List (QB))).bind fun (t9_0,t9_1)=>
 bif inB 0 t1_0.1.length then
 let l10:=t1_0.1.set 0 (t9_0,(rdA ([],[],0) t1_0.1 0).2)
 some ((l10,t1_0.2),t9_1)
 else none
 else
 some (t1_0,t2_1)
 else
 bif t2_0==5 then
 (lp ψ32.l1 (t2_1,([],0,0,false),t1_0,0)).bind (fun (x0,x2,x3)=>
 some (x3,x0))
 else
 some (t1_0,t2_1)
def ψ29.l0 (rec:(QB×Int×Int×Int)→Option (QB×Int×Int)):(QB×Int×Int×Int)→Option (QB×Int×Int):=fun (x0,x4,x5,x6)=>
 bif decide (x6<(x0.length:Int)) then
 bif decide (x6<11) then
 (bif inB x6 x0.length then
 bif decide ((bAt x0 x6)≥48) then
 bif inB x6 x0.length then
 bif decide ((bAt x0 x6)≤57) then
 bif inB x6 x0.length then
 let y1:=w64 ((w64 (x4 * 10))+(w64 (IntKind.wrap .u8 ((bAt x0 x6) - 48))))
 some (x0,y1,w64 (x5+1),x6)
 else none
 else
 some (x0,x4,x5,x6)
 else none
 else
 some (x0,x4,x5,x6)
 else none:Option (QB×Int×Int×Int)).bind (fun (x0,x4,x5,x6)=>
 rec (x0,x4,x5,w64 (x6+1)))
 else
 some (x0,x4,x5)
 else
 some (x0,x4,x5)
def ψ29.f (p0:QB):Option (Int×Bool):=
 (lp ψ29.l0 (p0,0,0,0)).bind (fun (x0,x4,x5)=>
 (bif decide ((x0.length:Int) > 0) then
 bif inB 0 x0.length then
 bif (bAt x0 0)==45 then
 some (x0,w64 (0 - x4),x5)
 else
 some (x0,x4,x5)
 else none
 else
 some (x0,x4,x5):Option (QB×Int×Int)).bind (fun (x0,x4,x5)=>
 bif decide (x5 > 9) then
 some (0,false)
 else
 bif decide ((x0.length:Int) > 10) then
 some (0,false)
 else
 (ψ1k.f x4).bind fun t2=>
 bif !(t2==x0) then
 some (0,false)
 else
 some (x4,true)))
def ψ20.l0 (rec:(QB×Int)→Option ((Unit) ⊕ (Int×Bool))):(QB×Int)→Option ((Unit) ⊕ (Int×Bool)):=fun (x0,x4)=>
 bif decide (x4≤4) then
 (bif decide ((x0.length:Int) > x4) then
 bif (decide (0≤x4) && decide (x4≤(x0.length:Int))) then
 (ψ29.f (x0.drop x4.toNat)).bind fun (t1_0,t1_1)=>
 (bif t1_1 then
 bif decide (t1_0≥1) then
 (ψ2O.f t1_0).bind fun t2=>
 bif t2==x0 then
 some (Sum.inr (t1_0,true))
 else
 (ψ1y.f t1_0).bind fun t3=>
 bif t3==x0 then
 some (Sum.inr (t1_0,true))
 else
 some (Sum.inl (x0,x4))
 else
 some (Sum.inl (x0,x4))
 else
 some (Sum.inl (x0,x4)):Option ((QB×Int) ⊕ (Int×Bool))).bind (fun o4=>caseS o4 (fun (x0,x4)=>
 some (Sum.inl (x0,x4))) (fun (x2,x3)=>
 some (Sum.inr (x2,x3))))
 else none
 else
 some (Sum.inl (x0,x4)):Option ((QB×Int) ⊕ (Int×Bool))).bind (fun o5=>caseS o5 (fun (x0,x4)=>
 rec (x0,w64 (x4+1))) (fun (x2,x3)=>
 some (Sum.inr (x2,x3))))
 else
 some (Sum.inl ())
def ψ20.f (p0:QB):Option (Int×Bool):=
 (lp ψ20.l0 (p0,3)).bind (fun o6=>caseS o6 (fun _=>
 some (0,false)) (fun (x2,x3)=>
 some (x2,x3)))
def ψ26.l2 (rec:((QD)×(Int×List Int)×List (QB)×Int×Int×Bool×Bool×Int)→Option ((QD)×(Int×List Int)×List (QB)×Int×Bool×Bool)):((QD)×(Int×List Int)×List (QB)×Int×Int×Bool×Bool×Int)→Option ((QD)×(Int×List Int)×List (QB)×Int×Bool×Bool):=fun (x2,x3,x5,x6,x7,x8,x9,x10)=>
 bif decide (x10<(x3.2.length:Int)) then
 (bif x9 then
 some (x2,x3,x5,x6,x7,x8,true,x10)
 else
 bif inB x10 x3.2.length then
 let y3:=(rdA 0 x3.2 x10)==x7
 some (x2,x3,x5,x6,x7,x8,y3,x10)
 else none:Option ((QD)×(Int×List Int)×List (QB)×Int×Int×Bool×Bool×Int)).bind (fun (x2,x3,x5,x6,x7,x8,x9,x10)=>
 rec (x2,x3,x5,x6,x7,x8,x9,w64 (x10+1)))
 else
 some (x2,x3,x5,x6,x8,x9)
def ψ26.l0 (rec:((QD)×(Int×List Int)×List (QB)×Int)→Option (List (QB))):((QD)×(Int×List Int)×List (QB)×Int)→Option (List (QB)):=fun (x2,x3,x5,x6)=>
 bif decide (x6<(x2.1.length:Int)) then
 bif inB x6 x2.1.length then
 (ψ20.f ((rdA ([],[],0) x2.1 x6).1)).bind fun (t2_0,t2_1)=>
 (lp ψ26.l2 (x2,x3,x5,x6,t2_0,t2_1,false,0)).bind (fun (x2,x3,x5,x6,x8,x9)=>
 (bif x8 then
 bif !x9 then
 bif inB x6 x2.1.length then
 bif decide ((x5.length+([(rdA ([],[],0) x2.1 x6).1]:List (QB)).length) * 16≤140737488355328) then
 let l4:=x5++([(rdA ([],[],0) x2.1 x6).1]:List (QB))
 some (x2,x3,l4,x6)
 else none
 else none
 else
 bif inB x6 x2.1.length then
 bif ((rdA ([],[],0) x2.1 x6).1)==[116,101,109,112] then
 bif inB x6 x2.1.length then
 bif decide ((x5.length+([(rdA ([],[],0) x2.1 x6).1]:List (QB)).length) * 16≤140737488355328) then
 let l5:=x5++([(rdA ([],[],0) x2.1 x6).1]:List (QB))
 some (x2,x3,l5,x6)
 else none
 else none
 else
 some (x2,x3,x5,x6)
 else none
 else
 bif inB x6 x2.1.length then
 bif ((rdA ([],[],0) x2.1 x6).1)==[116,101,109,112] then
 bif inB x6 x2.1.length then
 bif decide ((x5.length+([(rdA ([],[],0) x2.1 x6).1]:List (QB)).length) * 16≤140737488355328) then
 let l6:=x5++([(rdA ([],[],0) x2.1 x6).1]:List (QB))
 some (x2,x3,l6,x6)
 else none
 else none
 else
 some (x2,x3,x5,x6)
 else none:Option ((QD)×(Int×List Int)×List (QB)×Int)).bind (fun (x2,x3,x5,x6)=>
 rec (x2,x3,x5,w64 (x6+1))))
 else none
 else
 some x5
def ψ26.f (p0:QD) (p1:Int×List Int):Option (List (QB)):=
 (ψ1q.f p0).bind fun t1=>
 bif !t1 then
 some []
 else
 (lp ψ26.l0 (p0,p1,[],0)).bind (fun x5=>
 some x5)
def ψ2f.l0 (rec:((QD)×(QD)×List (QB)×Int)→Option (((QD)×QD) ⊕ ((QD)×Int))):((QD)×(QD)×List (QB)×Int)→Option (((QD)×QD) ⊕ ((QD)×Int)):=fun (x2,x4,x6,x7)=>
 bif decide (x7<(x6.length:Int)) then
 bif inB x7 x6.length then
 (ψ2I.f x2 (rdA [] x6 x7)).bind fun (t2_0,t2_1)=>
 bif t2_1 != 0 then
 (ψ2a.f t2_1).bind fun t3=>
 some (Sum.inr (t2_0,t3))
 else
 rec (t2_0,x4,x6,w64 (x7+1))
 else none
 else
 some (Sum.inl (x2,x4))
def ψ2f.f (p0:QD) (p1:Int×List Int):Option ((QD)×Int):=
 (ψ26.f p0 p1).bind fun t1=>
 (lp ψ2f.l0 (p0,([],0,0,false),t1,0)).bind (fun o4=>caseS o4 (fun (x2,x4)=>
 some (x2,0)) (fun (x4,x5)=>
 some (x4,x5)))
def ψ2c.f (p0:QD):Option ((QS)×(QD)×Int):=
 (ψ2f.f p0 (0,[])).bind fun (t1_0,t1_1)=>
 bif t1_1 != 0 then
 some (((0,[]),[],0,0,0),t1_0,t1_1)
 else
 (ψ2O.f 1).bind fun t2=>
 (ψ1j.f t1_0 t2).bind fun (t3_0,t3_1)=>
 bif t3_1 != 0 then
 (ψ2a.f t3_1).bind fun t4=>
 some (((0,[]),[],0,0,0),t3_0,t4)
 else
 (ψ27.f t3_0 (2,[1])).bind fun (t5_0,t5_1)=>
 bif t5_1 != 0 then
 some (((0,[]),[],0,0,0),t5_0,t5_1)
 else
 some (((2,[1]),[],1,0,0),t5_0,0)
def ψ2C.l0 (rec:(QB×(Int×List Int)×QB×Int×(Int×List Int)×Int×Int)→Option (QB×(Int×List Int)×Int×List Int)):(QB×(Int×List Int)×QB×Int×(Int×List Int)×Int×Int)→Option (QB×(Int×List Int)×Int×List Int):=fun (x0,x2,x4,x8,x10,x11,x12)=>
 bif decide (x12<x8) then
 bif decide (x12<60) then
 bif (decide (0≤x11) && decide (x11≤(x4.length:Int))) then
 (ψ2E.f (x4.drop x11.toNat)).bind fun (t5_0,t5_1)=>
 bif decide ((x10.2.length+[t5_0].length) * 8≤140737488355328) then
 let l6:=x10.2++[t5_0]
 let y7:=w64 (x11+t5_1)
 rec (x0,x2,x4,x8,(x10.1,l6),y7,w64 (x12+1))
 else none
 else none
 else
 some (x0,x2,x10)
 else
 some (x0,x2,x10)
def ψ2C.f (p0:QB):Option ((Int×List Int)×Bool):=
 (ψ2W.f p0).bind fun (t1_0,t1_1)=>
 (ψ2E.f t1_0).bind fun (t2_0,t2_1)=>
 bif t1_1 != (p0.length:Int) then
 some ((0,[]),false)
 else
 bif t1_1==0 then
 some ((0,[]),false)
 else
 bif t2_1==0 then
 some ((0,[]),false)
 else
 bif (decide (0≤t2_1) && decide (t2_1≤(t1_0.length:Int))) then
 (ψ2E.f (t1_0.drop t2_1.toNat)).bind fun (t3_0,t3_1)=>
 let y4:=w64 (t2_1+t3_1)
 (lp ψ2C.l0 (p0,(0,[]),t1_0,t3_0,(t2_0,[]),y4,0)).bind (fun (x0,x2,x10)=>
 (ψ2Q.f x10).bind fun t8=>
 bif !(t8==x0) then
 some ((0,[]),false)
 else
 some (x10,true))
 else none
def ψ2Z.l0 (rec:(QB×Int×Int×List Int×Int)→Option ((Int×List Int) ⊕ (List Int×Int))):(QB×Int×Int×List Int×Int)→Option ((Int×List Int) ⊕ (List Int×Int)):=fun (x0,x1,x2,x8,x9)=>
 bif decide (x9<x2) then
 bif (decide (0≤x1) && decide (x1≤(x0.length:Int))) then
 (ψ2E.f (x0.drop x1.toNat)).bind fun (t1_0,t1_1)=>
 bif t1_1==0 then
 bif (x2==x2) then
 bif (decide (0≤x2) && decide (8 * x2≤140737488355328)) then
 let l2:=List.replicate x2.toNat 0
 some (Sum.inr (l2,(-1)))
 else none
 else none
 else
 bif decide ((x8.length+[t1_0].length) * 8≤140737488355328) then
 let y3:=w64 (x1+t1_1)
 rec (x0,y3,x2,x8++[t1_0],w64 (x9+1))
 else none
 else none
 else
 some (Sum.inl (x1,x8))
def ψ2Z.f (p0:QB) (p1:Int) (p2:Int):Option (List Int×Int):=
 (lp ψ2Z.l0 (p0,p1,p2,([]:List Int),0)).bind (fun o4=>caseS o4 (fun (x1,x8)=>
 some (x8,x1)) (fun (x6,x7)=>
 some (x6,x7)))
def ψ2B.l0 (rec:(QB×(Int×Int×List (QE))×List Int×Int×(Int×Int×List (QE))×Int)→Option ((QB×(Int×Int×List (QE))×Int×Int×List (QE)) ⊕ ((Int×Int×List (QE))×Bool))):(QB×(Int×Int×List (QE))×List Int×Int×(Int×Int×List (QE))×Int)→Option ((QB×(Int×Int×List (QE))×Int×Int×List (QE)) ⊕ ((Int×Int×List (QE))×Bool)):=fun (x0,x2,x4,x5,x6,x7)=>
 bif inB 2 x4.length then
 bif decide (x7<(rdA 0 x4 2)) then
 bif (decide (0≤x5) && decide (x5≤(x0.length:Int))) then
 (ψ3C.f (x0.drop x5.toNat)).bind fun (t2_0,t2_1,t2_2)=>
 (ψ2Z.f t2_1 0 4).bind fun (t3_0,t3_1)=>
 bif !t2_2 then
 some (Sum.inr ((0,0,[]),false))
 else
 bif decide (t3_1<0) then
 some (Sum.inr ((0,0,[]),false))
 else
 bif inB 0 t3_0.length then
 bif inB 1 t3_0.length then
 bif inB 2 t3_0.length then
 bif inB 3 t3_0.length then
 bif decide ((x6.2.2.length+[(t2_0,rdA 0 t3_0 0,rdA 0 t3_0 1,rdA 0 t3_0 2,rdA 0 t3_0 3)].length) * 48≤140737488355328) then
 let l4:=x6.2.2++[(t2_0,rdA 0 t3_0 0,rdA 0 t3_0 1,rdA 0 t3_0 2,rdA 0 t3_0 3)]
 let y5:=w64 ((w64 ((x0.length:Int) - (t2_1.length:Int)))+t3_1)
 rec (x0,x2,x4,y5,(x6.1,x6.2.1,l4),w64 (x7+1))
 else none
 else none
 else none
 else none
 else none
 else none
 else
 some (Sum.inl (x0,x2,x6))
 else none
def ψ2B.f (p0:QB):Option ((Int×Int×List (QE))×Bool):=
 bif decide ((p0.length:Int)<4) then
 some ((0,0,[]),false)
 else
 (ψ2Z.f p0 4 3).bind fun (t1_0,t1_1)=>
 bif decide (t1_1<0) then
 some ((0,0,[]),false)
 else
 bif inB 2 t1_0.length then
 bif decide ((rdA 0 t1_0 2) > 20) then
 some ((0,0,[]),false)
 else
 bif inB 0 t1_0.length then
 bif inB 1 t1_0.length then
 (lp ψ2B.l0 (p0,(0,0,[]),t1_0,t1_1,(rdA 0 t1_0 0,rdA 0 t1_0 1,[]),0)).bind (fun o6=>caseS o6 (fun (x0,x2,x6)=>
 (ψ2P.f x6).bind fun t7=>
 bif !(t7==x0) then
 some ((0,0,[]),false)
 else
 some (x6,true)) (fun (x2,x3)=>
 some (x2,x3)))
 else none
 else none
 else none
def ψ2K.l0 (rec:(List (QE)×List (QE)×Int)→Option ((Unit) ⊕ (Bool))):(List (QE)×List (QE)×Int)→Option ((Unit) ⊕ (Bool)):=fun (x0,x1,x5)=>
 bif decide (x5<(x0.length:Int)) then
 bif inB x5 x0.length then
 bif inB x5 x1.length then
 bif !(((rdA ([],0,0,0,0) x0 x5).1)==((rdA ([],0,0,0,0) x1 x5).1) && ((((rdA ([],0,0,0,0) x0 x5).2).1)==(((rdA ([],0,0,0,0) x1 x5).2).1) && (((((rdA ([],0,0,0,0) x0 x5).2).2).1)==((((rdA ([],0,0,0,0) x1 x5).2).2).1) && ((((((rdA ([],0,0,0,0) x0 x5).2).2).2).1)==(((((rdA ([],0,0,0,0) x1 x5).2).2).2).1) && ((((((rdA ([],0,0,0,0) x0 x5).2).2).2).2)==(((((rdA ([],0,0,0,0) x1 x5).2).2).2).2)))))) then
 some (Sum.inr false)
 else
 rec (x0,x1,w64 (x5+1))
 else none
 else none
 else
 some (Sum.inl ())
def ψ2K.f (p0:List (QE)) (p1:List (QE)):Option (Bool):=
 bif (p0.length:Int) != (p1.length:Int) then
 some false
 else
 (lp ψ2K.l0 (p0,p1,0)).bind (fun o1=>caseS o1 (fun _=>
 some true) (fun x4=>
 some x4))
def ψ1x.f (p0:Int) (p1:QB) (p2:Int×Int×List (QE)):Option (Bool):=
 (ψ1z.f p0 p1).bind fun (t1_0,t1_1)=>
 bif t1_1 then
 bif t1_0.1==p2.1 then
 bif t1_0.2.1==p2.2.1 then
 (ψ2K.f t1_0.2.2 p2.2.2).bind fun t2=>
 some t2
 else
 some false
 else
 some false
 else
 some false
def ψ2e.l0 (rec:(Int×List (Int×Int×Int×QR)×List (Int×Int×QR)×Int)→Option (List (Int×Int×Int×QR))):(Int×List (Int×Int×Int×QR)×List (Int×Int×QR)×Int)→Option (List (Int×Int×Int×QR)):=fun (x0,x5,x6,x8)=>
 bif decide (x8<(x6.length:Int)) then
 bif inB x8 x6.length then
 bif inB x8 x6.length then
 bif inB x8 x6.length then
 bif decide ((x5.length+([(x0,(rdA (0,0,0,0,[],[],0,0) x6 x8).1,((rdA (0,0,0,0,[],[],0,0) x6 x8).2).1,(((rdA (0,0,0,0,[],[],0,0) x6 x8).2).2).1,((((rdA (0,0,0,0,[],[],0,0) x6 x8).2).2).2).1,(((((rdA (0,0,0,0,[],[],0,0) x6 x8).2).2).2).2).1,((((((rdA (0,0,0,0,[],[],0,0) x6 x8).2).2).2).2).2).1,(((((((rdA (0,0,0,0,[],[],0,0) x6 x8).2).2).2).2).2).2))]:List (Int×Int×Int×QR)).length) * 88≤140737488355328) then
 let l2:=x5++([(x0,(rdA (0,0,0,0,[],[],0,0) x6 x8).1,((rdA (0,0,0,0,[],[],0,0) x6 x8).2).1,(((rdA (0,0,0,0,[],[],0,0) x6 x8).2).2).1,((((rdA (0,0,0,0,[],[],0,0) x6 x8).2).2).2).1,(((((rdA (0,0,0,0,[],[],0,0) x6 x8).2).2).2).2).1,((((((rdA (0,0,0,0,[],[],0,0) x6 x8).2).2).2).2).2).1,(((((((rdA (0,0,0,0,[],[],0,0) x6 x8).2).2).2).2).2).2))]:List (Int×Int×Int×QR))
 rec (x0,l2,x6,w64 (x8+1))
 else none
 else none
 else none
 else none
 else
 some x5
def ψ2e.f (p0:Int) (p1:QB):Option (List (Int×Int×Int×QR)):=
 (ψ2N.f p1).bind fun (t1_0,t1_1)=>
 (lp ψ2e.l0 (p0,([]:List (Int×Int×Int×QR)),t1_0,0)).bind (fun x5=>
 some x5)
def ψ3H.l0 (rec:(List (Int×Int×Int×QR)×Int×Int×List (Int×Int×Int×QR)×Int)→Option (List (Int×Int×Int×QR))):(List (Int×Int×Int×QR)×Int×Int×List (Int×Int×Int×QR)×Int)→Option (List (Int×Int×Int×QR)):=fun (x0,x1,x2,x7,x8)=>
 bif decide (x8<x1) then
 bif inB x8 x0.length then
 let y1:=((((rdA (0,0,0,0,0,[],[],0,0) x0 x8).2).2).2).1
 let y2:=(((((rdA (0,0,0,0,0,[],[],0,0) x0 x8).2).2).2).2).1
 let y3:=((((((rdA (0,0,0,0,0,[],[],0,0) x0 x8).2).2).2).2).2).1
 let y4:=(((((((rdA (0,0,0,0,0,[],[],0,0) x0 x8).2).2).2).2).2).2).1
 let y5:=((((((((rdA (0,0,0,0,0,[],[],0,0) x0 x8).2).2).2).2).2).2).2).1
 let y6:=((((((((rdA (0,0,0,0,0,[],[],0,0) x0 x8).2).2).2).2).2).2).2).2
 (bif y2==x2 then
 bif y1==3 then
 some (x0,x1,x2,([]:List (Int×Int×Int×QR)),x8,(y1,y2,y3,y4,y5,y6))
 else
 some (x0,x1,x2,x7,x8,(y1,y2,y3,y4,y5,y6))
 else
 some (x0,x1,x2,x7,x8,(y1,y2,y3,y4,y5,y6)):Option (List (Int×Int×Int×QR)×Int×Int×List (Int×Int×Int×QR)×Int×QR)).bind (fun (x0,x1,x2,x7,x8,x9)=>
 (bif x9.2.1==x2 then
 bif x9.1==1 then
 bif inB x8 x0.length then
 bif decide ((x7.length+([((rdA (0,0,0,0,0,[],[],0,0) x0 x8).1,((rdA (0,0,0,0,0,[],[],0,0) x0 x8).2).1,(((rdA (0,0,0,0,0,[],[],0,0) x0 x8).2).2).1,((((rdA (0,0,0,0,0,[],[],0,0) x0 x8).2).2).2).1,(((((rdA (0,0,0,0,0,[],[],0,0) x0 x8).2).2).2).2).1,((((((rdA (0,0,0,0,0,[],[],0,0) x0 x8).2).2).2).2).2).1,(((((((rdA (0,0,0,0,0,[],[],0,0) x0 x8).2).2).2).2).2).2).1,((((((((rdA (0,0,0,0,0,[],[],0,0) x0 x8).2).2).2).2).2).2).2))]:List (Int×Int×Int×QR)).length) * 88≤140737488355328) then
 let l7:=x7++([((rdA (0,0,0,0,0,[],[],0,0) x0 x8).1,((rdA (0,0,0,0,0,[],[],0,0) x0 x8).2).1,(((rdA (0,0,0,0,0,[],[],0,0) x0 x8).2).2).1,((((rdA (0,0,0,0,0,[],[],0,0) x0 x8).2).2).2).1,(((((rdA (0,0,0,0,0,[],[],0,0) x0 x8).2).2).2).2).1,((((((rdA (0,0,0,0,0,[],[],0,0) x0 x8).2).2).2).2).2).1,(((((((rdA (0,0,0,0,0,[],[],0,0) x0 x8).2).2).2).2).2).2).1,((((((((rdA (0,0,0,0,0,[],[],0,0) x0 x8).2).2).2).2).2).2).2))]:List (Int×Int×Int×QR))
 some (x0,x1,x2,l7,x8)
 else none
 else none
 else
 bif x9.1==2 then
 bif inB x8 x0.length then
 bif decide ((x7.length+([((rdA (0,0,0,0,0,[],[],0,0) x0 x8).1,((rdA (0,0,0,0,0,[],[],0,0) x0 x8).2).1,(((rdA (0,0,0,0,0,[],[],0,0) x0 x8).2).2).1,((((rdA (0,0,0,0,0,[],[],0,0) x0 x8).2).2).2).1,(((((rdA (0,0,0,0,0,[],[],0,0) x0 x8).2).2).2).2).1,((((((rdA (0,0,0,0,0,[],[],0,0) x0 x8).2).2).2).2).2).1,(((((((rdA (0,0,0,0,0,[],[],0,0) x0 x8).2).2).2).2).2).2).1,((((((((rdA (0,0,0,0,0,[],[],0,0) x0 x8).2).2).2).2).2).2).2))]:List (Int×Int×Int×QR)).length) * 88≤140737488355328) then
 let l8:=x7++([((rdA (0,0,0,0,0,[],[],0,0) x0 x8).1,((rdA (0,0,0,0,0,[],[],0,0) x0 x8).2).1,(((rdA (0,0,0,0,0,[],[],0,0) x0 x8).2).2).1,((((rdA (0,0,0,0,0,[],[],0,0) x0 x8).2).2).2).1,(((((rdA (0,0,0,0,0,[],[],0,0) x0 x8).2).2).2).2).1,((((((rdA (0,0,0,0,0,[],[],0,0) x0 x8).2).2).2).2).2).1,(((((((rdA (0,0,0,0,0,[],[],0,0) x0 x8).2).2).2).2).2).2).1,((((((((rdA (0,0,0,0,0,[],[],0,0) x0 x8).2).2).2).2).2).2).2))]:List (Int×Int×Int×QR))
 some (x0,x1,x2,l8,x8)
 else none
 else none
 else
 some (x0,x1,x2,x7,x8)
 else
 some (x0,x1,x2,x7,x8):Option (List (Int×Int×Int×QR)×Int×Int×List (Int×Int×Int×QR)×Int)).bind (fun (x0,x1,x2,x7,x8)=>
 rec (x0,x1,x2,x7,w64 (x8+1))))
 else none
 else
 some x7
def ψ3H.f (p0:List (Int×Int×Int×QR)) (p1:Int) (p2:Int):Option (List (Int×Int×Int×QR)):=
 (lp ψ3H.l0 (p0,p1,p2,([]:List (Int×Int×Int×QR)),0)).bind (fun x7=>
 some x7)
def ψ3J.l0 (rec:(List (Int×Int×Int×QR)×List (QR)×Int)→Option (List (QR))):(List (Int×Int×Int×QR)×List (QR)×Int)→Option (List (QR)):=fun (x0,x3,x4)=>
 bif decide (x4<(x0.length:Int)) then
 bif inB x4 x0.length then
 bif decide ((x3.length+([(((((rdA (0,0,0,0,0,[],[],0,0) x0 x4).2).2).2).1,(((((rdA (0,0,0,0,0,[],[],0,0) x0 x4).2).2).2).2).1,((((((rdA (0,0,0,0,0,[],[],0,0) x0 x4).2).2).2).2).2).1,(((((((rdA (0,0,0,0,0,[],[],0,0) x0 x4).2).2).2).2).2).2).1,((((((((rdA (0,0,0,0,0,[],[],0,0) x0 x4).2).2).2).2).2).2).2))]:List (QR)).length) * 64≤140737488355328) then
 let l1:=x3++([(((((rdA (0,0,0,0,0,[],[],0,0) x0 x4).2).2).2).1,(((((rdA (0,0,0,0,0,[],[],0,0) x0 x4).2).2).2).2).1,((((((rdA (0,0,0,0,0,[],[],0,0) x0 x4).2).2).2).2).2).1,(((((((rdA (0,0,0,0,0,[],[],0,0) x0 x4).2).2).2).2).2).2).1,((((((((rdA (0,0,0,0,0,[],[],0,0) x0 x4).2).2).2).2).2).2).2))]:List (QR))
 rec (x0,l1,w64 (x4+1))
 else none
 else none
 else
 some x3
def ψ3J.f (p0:List (Int×Int×Int×QR)):Option (List (QR)):=
 (lp ψ3J.l0 (p0,([]:List (QR)),0)).bind (fun x3=>
 some x3)
def ψ3F.f (p0:QR) (p1:List (Int×Int×Int×QR)):Option (Bool):=
 bif p0.2.2.2.2.1==(p1.length:Int) then
 (ψ3J.f p1).bind fun t1=>
 (ψ2T.f t1).bind fun t2=>
 let y3:=p0.2.2.2.2.2==t2
 some y3
 else
 some false
def ψ3G.l0 (rec:(List (Int×Int×Int×QR)×Int×List (Int×Int×Int×QR)×Int)→Option (List (Int×Int×Int×QR))):(List (Int×Int×Int×QR)×Int×List (Int×Int×Int×QR)×Int)→Option (List (Int×Int×Int×QR)):=fun (x0,x1,x5,x6)=>
 bif decide (x6<x1) then
 (bif inB x6 x0.length then
 bif (((((rdA (0,0,0,0,0,[],[],0,0) x0 x6).2).2).2).1)==5 then
 some (x0,x1,([]:List (Int×Int×Int×QR)),x6)
 else
 some (x0,x1,x5,x6)
 else none:Option (List (Int×Int×Int×QR)×Int×List (Int×Int×Int×QR)×Int)).bind (fun (x0,x1,x5,x6)=>
 (bif inB x6 x0.length then
 bif (((((rdA (0,0,0,0,0,[],[],0,0) x0 x6).2).2).2).1)==4 then
 bif inB x6 x0.length then
 bif decide ((x5.length+([((rdA (0,0,0,0,0,[],[],0,0) x0 x6).1,((rdA (0,0,0,0,0,[],[],0,0) x0 x6).2).1,(((rdA (0,0,0,0,0,[],[],0,0) x0 x6).2).2).1,((((rdA (0,0,0,0,0,[],[],0,0) x0 x6).2).2).2).1,(((((rdA (0,0,0,0,0,[],[],0,0) x0 x6).2).2).2).2).1,((((((rdA (0,0,0,0,0,[],[],0,0) x0 x6).2).2).2).2).2).1,(((((((rdA (0,0,0,0,0,[],[],0,0) x0 x6).2).2).2).2).2).2).1,((((((((rdA (0,0,0,0,0,[],[],0,0) x0 x6).2).2).2).2).2).2).2))]:List (Int×Int×Int×QR)).length) * 88≤140737488355328) then
 let l1:=x5++([((rdA (0,0,0,0,0,[],[],0,0) x0 x6).1,((rdA (0,0,0,0,0,[],[],0,0) x0 x6).2).1,(((rdA (0,0,0,0,0,[],[],0,0) x0 x6).2).2).1,((((rdA (0,0,0,0,0,[],[],0,0) x0 x6).2).2).2).1,(((((rdA (0,0,0,0,0,[],[],0,0) x0 x6).2).2).2).2).1,((((((rdA (0,0,0,0,0,[],[],0,0) x0 x6).2).2).2).2).2).1,(((((((rdA (0,0,0,0,0,[],[],0,0) x0 x6).2).2).2).2).2).2).1,((((((((rdA (0,0,0,0,0,[],[],0,0) x0 x6).2).2).2).2).2).2).2))]:List (Int×Int×Int×QR))
 some (x0,x1,l1,x6)
 else none
 else none
 else
 some (x0,x1,x5,x6)
 else none:Option (List (Int×Int×Int×QR)×Int×List (Int×Int×Int×QR)×Int)).bind (fun (x0,x1,x5,x6)=>
 rec (x0,x1,x5,w64 (x6+1))))
 else
 some x5
def ψ3G.f (p0:List (Int×Int×Int×QR)) (p1:Int):Option (List (Int×Int×Int×QR)):=
 (lp ψ3G.l0 (p0,p1,([]:List (Int×Int×Int×QR)),0)).bind (fun x5=>
 some x5)
def ψ2H.l3 (rec:(List (Int×Int×Int×QR)×(List (QE)×Int×Int)×(List (QE)×Int×Int)×Int×List (Int×Int×Int×QR)×Int)→Option (List (Int×Int×Int×QR)×(List (QE)×Int×Int)×(List (QE)×Int×Int)×Int)):(List (Int×Int×Int×QR)×(List (QE)×Int×Int)×(List (QE)×Int×Int)×Int×List (Int×Int×Int×QR)×Int)→Option (List (Int×Int×Int×QR)×(List (QE)×Int×Int)×(List (QE)×Int×Int)×Int):=fun (x1,x4,x5,x6,x8,x9)=>
 bif decide (x9<(x8.length:Int)) then
 bif inB x9 x8.length then
 (ψ3I.f x5.1 ((rdA (0,0,0,0,0,[],[],0,0) x8 x9).1,((rdA (0,0,0,0,0,[],[],0,0) x8 x9).2).1,(((rdA (0,0,0,0,0,[],[],0,0) x8 x9).2).2).1,((((rdA (0,0,0,0,0,[],[],0,0) x8 x9).2).2).2).1,(((((rdA (0,0,0,0,0,[],[],0,0) x8 x9).2).2).2).2).1,((((((rdA (0,0,0,0,0,[],[],0,0) x8 x9).2).2).2).2).2).1,(((((((rdA (0,0,0,0,0,[],[],0,0) x8 x9).2).2).2).2).2).2).1,((((((((rdA (0,0,0,0,0,[],[],0,0) x8 x9).2).2).2).2).2).2).2))).bind fun t14=>
 rec (x1,x4,(t14,x5.2),x6,x8,w64 (x9+1))
 else none
 else
 some (x1,x4,x5,x6)
def ψ2H.l0 (rec:(List (Int×Int×Int×QR)×(List (QE)×Int×Int)×(List (QE)×Int×Int)×Int)→Option (List (Int×Int×Int×QR)×(List (QE)×Int×Int)×List (QE)×Int×Int)):(List (Int×Int×Int×QR)×(List (QE)×Int×Int)×(List (QE)×Int×Int)×Int)→Option (List (Int×Int×Int×QR)×(List (QE)×Int×Int)×List (QE)×Int×Int):=fun (x1,x4,x5,x6)=>
 bif decide (x6<(x1.length:Int)) then
 bif x5.2.2==0 then
 (bif inB x6 x1.length then
 let y2:=((((rdA (0,0,0,0,0,[],[],0,0) x1 x6).2).2).2).1
 let y3:=(((((rdA (0,0,0,0,0,[],[],0,0) x1 x6).2).2).2).2).1
 let y4:=((((((rdA (0,0,0,0,0,[],[],0,0) x1 x6).2).2).2).2).2).1
 let y5:=(((((((rdA (0,0,0,0,0,[],[],0,0) x1 x6).2).2).2).2).2).2).1
 let y6:=((((((((rdA (0,0,0,0,0,[],[],0,0) x1 x6).2).2).2).2).2).2).2).1
 let y7:=((((((((rdA (0,0,0,0,0,[],[],0,0) x1 x6).2).2).2).2).2).2).2).2
 let y8:=if y3 > x5.2.1 then y3 else x5.2.1
 (bif y2==3 then
 (ψ3H.f x1 x6 y3).bind fun t9=>
 (ψ3F.f (y2,y3,y4,y5,y6,y7) t9).bind fun t10=>
 bif !t10 then
 some (Sum.inr (x1,x4,(x5.1,y8,x5.2.2),x6))
 else
 some (Sum.inl (x1,x4,(x5.1,y8,x5.2.2),x6,t9))
 else
 bif y2==5 then
 (ψ3G.f x1 x6).bind fun t11=>
 (ψ3F.f (y2,y3,y4,y5,y6,y7) t11).bind fun t12=>
 bif !t12 then
 some (Sum.inr (x1,x4,(x5.1,y8,1),x6))
 else
 some (Sum.inl (x1,x4,(x5.1,y8,x5.2.2),x6,t11))
 else
 some (Sum.inr (x1,x4,(x5.1,y8,x5.2.2),x6)):Option ((List (Int×Int×Int×QR)×(List (QE)×Int×Int)×(List (QE)×Int×Int)×Int×List (Int×Int×Int×QR)) ⊕ (List (Int×Int×Int×QR)×(List (QE)×Int×Int)×(List (QE)×Int×Int)×Int))).bind (fun o13=>caseS o13 (fun (x1,x4,x5,x6,x8)=>
 (lp ψ2H.l3 (x1,x4,x5,x6,x8,0)).bind (fun (x1,x4,x5,x6)=>
 (bif decide ((x5.1.length:Int) > 20) then
 some (x1,x4,(x5.1,x5.2.1,2),x6)
 else
 some (x1,x4,x5,x6):Option (List (Int×Int×Int×QR)×(List (QE)×Int×Int)×(List (QE)×Int×Int)×Int)).bind (fun (x1,x4,x5,x6)=>
 some (x1,x4,x5,x6)))) (fun (x1,x4,x5,x6)=>
 some (x1,x4,x5,x6)))
 else none:Option (List (Int×Int×Int×QR)×(List (QE)×Int×Int)×(List (QE)×Int×Int)×Int)).bind (fun (x1,x4,x5,x6)=>
 rec (x1,x4,x5,w64 (x6+1)))
 else
 some (x1,x4,x5)
 else
 some (x1,x4,x5)
def ψ2H.f (p0:List (QE)×Int×Int) (p1:List (Int×Int×Int×QR)):Option (List (QE)×Int×Int):=
 bif decide ((([]:List (QE)).length+p0.1.length) * 48≤140737488355328) then
 let l1:=([]:List (QE))++p0.1
 (lp ψ2H.l0 (p1,([],0,0),(l1,p0.2),0)).bind (fun (x1,x4,x5)=>
 bif x5.2.2==0 then
 (ψ3G.f x1 (x1.length:Int)).bind fun t15=>
 bif decide ((t15.length:Int) > 0) then
 some (x5.1,x5.2.1,1)
 else
 some x5
 else
 some x5)
 else none
def ψ25.l0 (rec:((QD)×(QS)×(QD)×(QS)×(Int×List Int)×Int×Int)→Option (((QD)×(QS)×(QD)×(QS)×(Int×List Int)×Int) ⊕ ((QS)×(QD)×Int))):((QD)×(QS)×(QD)×(QS)×(Int×List Int)×Int×Int)→Option (((QD)×(QS)×(QD)×(QS)×(Int×List Int)×Int) ⊕ ((QS)×(QD)×Int)):=fun (x1,x2,x3,x5,x8,x9,x10)=>
 bif decide (x10<(x8.2.length:Int)) then
 bif inB x10 x8.2.length then
 (ψ2O.f (rdA 0 x8.2 x10)).bind fun t9=>
 (ψ1t.f x1 t9).bind fun (t10_0,t10_1)=>
 (ψ2N.f t10_0).bind fun (t11_0,t11_1)=>
 (bif !t10_1 then
 (ψ34.f x1).bind fun t12=>
 some (Sum.inr (x5,t12,3))
 else
 bif inB x10 x8.2.length then
 bif (rdA 0 x8.2 x10) != x9 then
 bif decide (t11_1<(t10_0.length:Int)) then
 (ψ34.f x1).bind fun t13=>
 some (Sum.inr (x5,t13,3))
 else
 some (Sum.inl (x1,x2,x3,x5,x8,x9,x10))
 else
 some (Sum.inl (x1,x2,x3,x5,x8,x9,x10))
 else none:Option (((QD)×(QS)×(QD)×(QS)×(Int×List Int)×Int×Int) ⊕ ((QS)×(QD)×Int))).bind (fun o14=>caseS o14 (fun (x1,x2,x3,x5,x8,x9,x10)=>
 rec (x1,x2,x3,x5,x8,x9,w64 (x10+1))) (fun (x2,x3,x4)=>
 some (Sum.inr (x2,x3,x4))))
 else none
 else
 some (Sum.inl (x1,x2,x3,x5,x8,x9))
def ψ25.l2 (rec:((QS)×(QD)×(QS)×(Int×List Int)×(QD)×(QS)×(List (QE)×Int×Int)×List (Int×Int×Int×QR)×Int)→Option ((QS)×(QD)×(QS)×(Int×List Int)×(QD)×(QS)×(List (QE)×Int×Int)×List (Int×Int×Int×QR))):((QS)×(QD)×(QS)×(Int×List Int)×(QD)×(QS)×(List (QE)×Int×Int)×List (Int×Int×Int×QR)×Int)→Option ((QS)×(QD)×(QS)×(Int×List Int)×(QD)×(QS)×(List (QE)×Int×Int)×List (Int×Int×Int×QR)):=fun (x2,x3,x5,x8,x19,x23,x24,x25,x26)=>
 bif decide (x26<(x8.2.length:Int)) then
 (bif inB x26 x8.2.length then
 (ψ2O.f (rdA 0 x8.2 x26)).bind fun t27=>
 (ψ1t.f x19 t27).bind fun (t28_0,t28_1)=>
 bif inB x26 x8.2.length then
 (ψ1y.f (rdA 0 x8.2 x26)).bind fun t29=>
 (ψ1t.f x19 t29).bind fun (t30_0,t30_1)=>
 (ψ2B.f t30_0).bind fun (t31_0,t31_1)=>
 (bif x26==0 then
 bif t30_1 then
 bif t31_1 then
 bif inB 0 x8.2.length then
 (ψ1x.f (rdA 0 x8.2 0) t28_0 t31_0).bind fun t32=>
 bif t32 then
 bif inB 0 x8.2.length then
 some (Sum.inr (x2,x3,x5,x8,x19,(x23.1,x23.2.1,x23.2.2.1,x23.2.2.2.1,rdA 0 x8.2 0),(t31_0.2.2,t31_0.2.1,x24.2.2),x25,x26))
 else none
 else
 some (Sum.inl (x2,x3,x5,x8,x19,x23,x24,x25,x26,t28_0))
 else none
 else
 some (Sum.inl (x2,x3,x5,x8,x19,x23,x24,x25,x26,t28_0))
 else
 some (Sum.inl (x2,x3,x5,x8,x19,x23,x24,x25,x26,t28_0))
 else
 some (Sum.inl (x2,x3,x5,x8,x19,x23,x24,x25,x26,t28_0)):Option (((QS)×(QD)×(QS)×(Int×List Int)×(QD)×(QS)×(List (QE)×Int×Int)×List (Int×Int×Int×QR)×Int×QB) ⊕ ((QS)×(QD)×(QS)×(Int×List Int)×(QD)×(QS)×(List (QE)×Int×Int)×List (Int×Int×Int×QR)×Int))).bind (fun o33=>caseS o33 (fun (x2,x3,x5,x8,x19,x23,x24,x25,x26,x27)=>
 bif inB x26 x8.2.length then
 (ψ2e.f (rdA 0 x8.2 x26) x27).bind fun t34=>
 bif decide ((x25.length+t34.length) * 88≤140737488355328) then
 some (x2,x3,x5,x8,x19,x23,x24,x25++t34,x26)
 else none
 else none) (fun (x2,x3,x5,x8,x19,x23,x24,x25,x26)=>
 some (x2,x3,x5,x8,x19,x23,x24,x25,x26)))
 else none
 else none:Option ((QS)×(QD)×(QS)×(Int×List Int)×(QD)×(QS)×(List (QE)×Int×Int)×List (Int×Int×Int×QR)×Int)).bind (fun (x2,x3,x5,x8,x19,x23,x24,x25,x26)=>
 rec (x2,x3,x5,x8,x19,x23,x24,x25,w64 (x26+1)))
 else
 some (x2,x3,x5,x8,x19,x23,x24,x25)
def ψ25.f (p0:QD):Option ((QS)×(QD)×Int):=
 (ψ1q.f p0).bind fun t1=>
 bif !t1 then
 (ψ34.f p0).bind fun t2=>
 some (((0,[]),[],0,0,0),t2,4)
 else
 bif p0.2.2.2 then
 (ψ34.f p0).bind fun t3=>
 some (((0,[]),[],0,0,0),t3,1)
 else
 (ψ1t.f p0 [108,105,118,101]).bind fun (t4_0,t4_1)=>
 bif !t4_1 then
 (ψ2c.f p0).bind fun (t5_0,t5_1,t5_2)=>
 some (t5_0,t5_1,t5_2)
 else
 (ψ2C.f t4_0).bind fun (t6_0,t6_1)=>
 bif !t6_1 then
 (ψ34.f p0).bind fun t7=>
 some (((0,[]),[],0,0,0),t7,3)
 else
 bif inB (w64 ((t6_0.2.length:Int) - 1)) t6_0.2.length then
 let y8:=rdA 0 t6_0.2 (w64 ((t6_0.2.length:Int) - 1))
 (lp ψ25.l0 (p0,((0,[]),[],0,0,0),([],0,0,false),((0,[]),[],0,0,0),t6_0,y8,0)).bind (fun o15=>caseS o15 (fun (x1,x2,x3,x5,x8,x9)=>
 (ψ2O.f x9).bind fun t16=>
 (ψ1t.f x1 t16).bind fun (t17_0,t17_1)=>
 (ψ2N.f t17_0).bind fun (t18_0,t18_1)=>
 (ψ34.f x1).bind fun t19=>
 (bif decide (t18_1<(t17_0.length:Int)) then
 (ψ2O.f x9).bind fun t20=>
 (ψ2V.f t19 t20 t18_1).bind fun (t21_0,t21_1)=>
 bif t21_1 != 0 then
 (ψ2a.f t21_1).bind fun t22=>
 some (Sum.inr (x5,t21_0,t22))
 else
 some (Sum.inl (x2,x3,x5,x8,x9,t18_1,t21_0))
 else
 some (Sum.inl (x2,x3,x5,x8,x9,t18_1,t19)):Option (((QS)×(QD)×(QS)×(Int×List Int)×Int×Int×QD) ⊕ ((QS)×(QD)×Int))).bind (fun o23=>caseS o23 (fun (x2,x3,x5,x8,x9,x18,x19)=>
 (ψ2O.f x9).bind fun t24=>
 (ψ2U.f x19 t24).bind fun (t25_0,t25_1)=>
 bif t25_1 != 0 then
 (ψ2a.f t25_1).bind fun t26=>
 some (x5,t25_0,t26)
 else
 (lp ψ25.l2 (x2,x3,x5,x8,t25_0,(x8,[],0,x18,0),([],0,0),([]:List (Int×Int×Int×QR)),0)).bind (fun (x2,x3,x5,x8,x19,x23,x24,x25)=>
 (ψ2H.f x24 x25).bind fun t35=>
 bif t35.2.2 != 0 then
 some (x5,x19,3)
 else
 (ψ2f.f x19 x8).bind fun (t36_0,t36_1)=>
 bif t36_1 != 0 then
 some (x5,t36_0,t36_1)
 else
 let y37:=w64 (t35.2.1+1)
 some ((x23.1,t35.1,y37,x23.2.2.2),t36_0,0))) (fun (x2,x3,x4)=>
 some (x2,x3,x4)))) (fun (x2,x3,x4)=>
 some (x2,x3,x4)))
 else none
def ψ2o.l0 (rec:((List Int×Int×Int)×(QS)×(QD)×(QS)×(QD)×Int)→Option (((List Int×Int×Int)×(QS)×(QD)×(QS)×QD) ⊕ ((List Int×Int×Int)×(QS)×QD))):((List Int×Int×Int)×(QS)×(QD)×(QS)×(QD)×Int)→Option (((List Int×Int×Int)×(QS)×(QD)×(QS)×QD) ⊕ ((List Int×Int×Int)×(QS)×QD)):=fun (x0,x2,x3,x4,x5,x7)=>
 bif decide (x7 > 0) then
 (bif (x4.1.2.length:Int)==0 then
 some (Sum.inr (x0,x4,x5))
 else
 (ψ2y.f x0 6).bind fun (t5_0,t5_1)=>
 bif t5_0 then
 (ψ23.f x4 x5).bind fun (t6_0,t6_1,t6_2)=>
 some (Sum.inl (t5_1,x2,x3,t6_0,t6_1,x7))
 else
 (ψ2m.f t5_1).bind fun (t7_0,t7_1)=>
 (ψ1h.f x4 x5 t7_0).bind fun (t8_0,t8_1,t8_2)=>
 some (Sum.inl (t7_1,x2,x3,t8_0,t8_1,x7)):Option (((List Int×Int×Int)×(QS)×(QD)×(QS)×(QD)×Int) ⊕ ((List Int×Int×Int)×(QS)×QD))).bind (fun o9=>caseS o9 (fun (x0,x2,x3,x4,x5,x7)=>
 rec (x0,x2,x3,x4,x5,w64 (x7 - 1))) (fun (x0,x2,x3)=>
 some (Sum.inr (x0,x2,x3))))
 else
 some (Sum.inl (x0,x2,x3,x4,x5))
def ψ2o.f (p0:List Int×Int×Int):Option ((QS)×(QD)×List Int×Int×Int):=
 (ψ30.f p0 [100000,100000,400,250]).bind fun (t1_0,t1_1)=>
 (ψ1p.f t1_0).bind fun t2=>
 (ψ25.f t2).bind fun (t3_0,t3_1,t3_2)=>
 (ψ2u.f t1_1 7).bind fun (t4_0,t4_1)=>
 (lp ψ2o.l0 (t4_1,((0,[]),[],0,0,0),([],0,0,false),t3_0,t3_1,t4_0)).bind (fun o10=>caseS o10 (fun (x0,x2,x3,x4,x5)=>
 some (x4,x5,x0)) (fun (x0,x2,x3)=>
 some (x2,x3,x0)))
def ψ3E.f (p0:List Int×Int×Int):Option ((QE)×List Int×Int×Int):=
 (ψ3B.f p0).bind fun (t1_0,t1_1)=>
 (ψ2u.f t1_1 4).bind fun (t2_0,t2_1)=>
 (ψ2u.f t2_1 90).bind fun (t3_0,t3_1)=>
 (ψ2u.f t3_1 30).bind fun (t4_0,t4_1)=>
 (ψ2u.f t4_1 9).bind fun (t5_0,t5_1)=>
 let y6:=w64 (1+t2_0)
 let y7:=w64 (8+t4_0)
 let y8:=w64 (1+t5_0)
 some ((t1_0,y6,t3_0,y7,y8),t5_1)
def ψ3D.l0 (rec:((List Int×Int×Int)×List (QE)×Int)→Option ((List Int×Int×Int)×List (QE))):((List Int×Int×Int)×List (QE)×Int)→Option ((List Int×Int×Int)×List (QE)):=fun (x0,x3,x4)=>
 bif decide (x4 > 0) then
 (ψ3E.f x0).bind fun (t2_0,t2_1)=>
 (ψ1o.f x3 t2_0).bind fun t3=>
 rec (t2_1,t3,w64 (x4 - 1))
 else
 some (x0,x3)
def ψ3D.f (p0:List Int×Int×Int):Option (List (QE)×List Int×Int×Int):=
 (ψ2u.f p0 7).bind fun (t1_0,t1_1)=>
 (lp ψ3D.l0 (t1_1,([]:List (QE)),t1_0)).bind (fun (x0,x3)=>
 bif decide ((x3.length:Int) > 0) then
 (ψ2y.f x0 8).bind fun (t4_0,t4_1)=>
 bif t4_0 then
 (ψ2u.f t4_1 (x3.length:Int)).bind fun (t5_0,t5_1)=>
 (ψ2u.f t5_1 4).bind fun (t6_0,t6_1)=>
 bif t6_0==0 then
 (ψ2z.f t6_1 ([[],[122,122,122,122,122,122,122,122,122],[97]]:List (QB))).bind fun (t7_0,t7_1)=>
 bif inB t5_0 x3.length then
 let l8:=x3.set t5_0.toNat (t7_0,(rdA ([],0,0,0,0) x3 t5_0).2)
 some (l8,t7_1)
 else none
 else
 bif t6_0==1 then
 bif inB t5_0 x3.length then
 let l9:=x3.set t5_0.toNat ((rdA ([],0,0,0,0) x3 t5_0).1,0,((rdA ([],0,0,0,0) x3 t5_0).2).2)
 some (l9,t6_1)
 else none
 else
 bif t6_0==2 then
 (ψ30.f t6_1 [0,210,211]).bind fun (t10_0,t10_1)=>
 bif inB t5_0 x3.length then
 let l11:=x3.set t5_0.toNat ((rdA ([],0,0,0,0) x3 t5_0).1,((rdA ([],0,0,0,0) x3 t5_0).2).1,(((rdA ([],0,0,0,0) x3 t5_0).2).2).1,t10_0,((((rdA ([],0,0,0,0) x3 t5_0).2).2).2).2)
 some (l11,t10_1)
 else none
 else
 (ψ30.f t6_1 [0,1000001]).bind fun (t12_0,t12_1)=>
 bif inB t5_0 x3.length then
 let l13:=x3.set t5_0.toNat ((rdA ([],0,0,0,0) x3 t5_0).1,((rdA ([],0,0,0,0) x3 t5_0).2).1,(((rdA ([],0,0,0,0) x3 t5_0).2).2).1,((((rdA ([],0,0,0,0) x3 t5_0).2).2).2).1,t12_0)
 some (l13,t12_1)
 else none
 else
 some (x3,t4_1)
 else
 some (x3,x0))
def ψ2j.f (p0:List Int×Int×Int):Option ((QS)×(QD)×List Int×Int×Int):=
 (ψ2o.f p0).bind fun (t1_0,t1_1,t1_2)=>
 (ψ2u.f t1_2 16).bind fun (t2_0,t2_1)=>
 bif t2_0==0 then
 let y3:=w64 (t1_0.2.2.2.1+1)
 some ((t1_0.1,t1_0.2.1,t1_0.2.2.1,y3,t1_0.2.2.2.2),t1_1,t2_1)
 else
 bif t2_0==1 then
 (ψ3D.f t2_1).bind fun (t4_0,t4_1)=>
 some ((t1_0.1,t4_0,t1_0.2.2),t1_1,t4_1)
 else
 bif t2_0==2 then
 (ψ30.f t2_1 [0,1000000,1000001,1000002,1]).bind fun (t5_0,t5_1)=>
 some ((t1_0.1,t1_0.2.1,t5_0,t1_0.2.2.2),t1_1,t5_1)
 else
 bif t2_0==3 then
 (ψ32.f t2_1).bind fun (t6_0,t6_1)=>
 some (t1_0,t6_0,t6_1)
 else
 (bif t2_0==4 then
 some (t2_1,((0,[]),[],0,0,0),([],0,0,false),t1_0,t1_1,t2_0,t2_0==4)
 else
 some (t2_1,((0,[]),[],0,0,0),([],0,0,false),t1_0,t1_1,t2_0,t2_0==5):Option ((List Int×Int×Int)×(QS)×(QD)×(QS)×(QD)×Int×Bool)).bind (fun (x0,x2,x3,x4,x5,x12,x34)=>
 bif x34 then
 (ψ2u.f x0 12).bind fun (t7_0,t7_1)=>
 some (x4,(x5.1,x5.2.1,t7_0,x5.2.2.2),t7_1)
 else
 bif x12==6 then
 some (((x4.1.1,[]),x4.2),x5,x0)
 else
 some (x4,x5,x0))
def ψ2L.l0 (rec:((QD)×(QD)×Int)→Option ((Unit) ⊕ (Bool))):((QD)×(QD)×Int)→Option ((Unit) ⊕ (Bool)):=fun (x2,x3,x5)=>
 bif decide (x5<(x2.1.length:Int)) then
 bif inB x5 x2.1.length then
 bif inB x5 x3.1.length then
 bif !(((rdA ([],[],0) x2.1 x5).1)==((rdA ([],[],0) x3.1 x5).1) && ((((rdA ([],[],0) x2.1 x5).2).1)==(((rdA ([],[],0) x3.1 x5).2).1) && ((((rdA ([],[],0) x2.1 x5).2).2)==(((rdA ([],[],0) x3.1 x5).2).2)))) then
 some (Sum.inr false)
 else
 rec (x2,x3,w64 (x5+1))
 else none
 else none
 else
 some (Sum.inl ())
def ψ2L.f (p0:QD) (p1:QD):Option (Bool):=
 bif (p0.1.length:Int) != (p1.1.length:Int) then
 some false
 else
 bif p0.2.1 != p1.2.1 then
 some false
 else
 bif p0.2.2.1 != p1.2.2.1 then
 some false
 else
 bif !(p0.2.2.2==p1.2.2.2) then
 some false
 else
 (lp ψ2L.l0 (p0,p1,0)).bind (fun o1=>caseS o1 (fun _=>
 some true) (fun x4=>
 some x4))
def ψ2M.l0 (rec:((QS)×(QS)×Int)→Option (((QS)×QS) ⊕ (Bool))):((QS)×(QS)×Int)→Option (((QS)×QS) ⊕ (Bool)):=fun (x2,x3,x5)=>
 bif decide (x5<(x2.1.2.length:Int)) then
 bif inB x5 x2.1.2.length then
 bif inB x5 x3.1.2.length then
 bif (rdA 0 x2.1.2 x5) != (rdA 0 x3.1.2 x5) then
 some (Sum.inr false)
 else
 rec (x2,x3,w64 (x5+1))
 else none
 else none
 else
 some (Sum.inl (x2,x3))
def ψ2M.f (p0:QS) (p1:QS):Option (Bool):=
 bif p0.1.1 != p1.1.1 then
 some false
 else
 bif (p0.1.2.length:Int) != (p1.1.2.length:Int) then
 some false
 else
 bif p0.2.2.1 != p1.2.2.1 then
 some false
 else
 bif p0.2.2.2.1 != p1.2.2.2.1 then
 some false
 else
 bif p0.2.2.2.2 != p1.2.2.2.2 then
 some false
 else
 (lp ψ2M.l0 (p0,p1,0)).bind (fun o1=>caseS o1 (fun (x2,x3)=>
 (ψ2K.f x2.2.1 x3.2.1).bind fun t2=>
 some t2) (fun x4=>
 some x4))
def ψ8.l0 (rec:(List (QB)×List (QE)×Int×Int)→Option (List (QB))):(List (QB)×List (QE)×Int×Int)→Option (List (QB)):=fun (x3,x6,x7,x8)=>
 bif decide (x8<x7) then
 bif inB x8 x6.length then
 let y1:=(rdA ([],0,0,0,0) x6 x8).1
 let y2:=((rdA ([],0,0,0,0) x6 x8).2).1
 let y3:=(((rdA ([],0,0,0,0) x6 x8).2).2).1
 let y4:=((((rdA ([],0,0,0,0) x6 x8).2).2).2).1
 let y5:=((((rdA ([],0,0,0,0) x6 x8).2).2).2).2
 bif decide ((x3.length+[y1].length) * 16≤140737488355328) then
 rec (x3++[y1],x6,x7,w64 (x8+1))
 else none
 else none
 else
 some x3
def ψ8.f (p0:List (QE)):Option (List (QB)):=
 (lp ψ8.l0 ([],p0,(p0.length:Int),0)).bind (fun x3=>
 some x3)
def ψF.l0 (rec:((QS)×(QD)×List (QF)×List (QB)×Int×Int)→Option ((List (QF)) ⊕ (List (QF)×Int))):((QS)×(QD)×List (QF)×List (QB)×Int×Int)→Option ((List (QF)) ⊕ (List (QF)×Int)):=fun (x2,x3,x6,x13,x14,x15)=>
 bif decide (x15<x14) then
 bif inB x15 x13.length then
 let y2:=rdA [] x13 x15
 (ψJ.f x2 x3 y2).bind fun (t3_0,t3_1)=>
 bif t3_1 != 0 then
 some (Sum.inr ([],t3_1))
 else
 bif decide ((x6.length+[t3_0].length) * 40≤140737488355328) then
 rec (x2,x3,x6++[t3_0],x13,x14,w64 (x15+1))
 else none
 else none
 else
 some (Sum.inl x6)
def ψF.f (p0:QS) (p1:QD):Option (List (QF)×Int):=
 (ψ8.f p0.2.1).bind fun t1=>
 (lp ψF.l0 (p0,p1,[],t1,(t1.length:Int),0)).bind (fun o4=>caseS o4 (fun x6=>
 some (x6,0)) (fun (x4,x5)=>
 some (x4,x5)))
def ψ1d.l0 (rec:(((QD)×Int)×Int×List (QE)×Int×List (QR)×Int×Int)→Option (((QD)×Int)×Int×List (QE))):(((QD)×Int)×Int×List (QE)×Int×List (QR)×Int×Int)→Option (((QD)×Int)×Int×List (QE)):=fun (x0,x1,x7,x8,x16,x17,x18)=>
 bif decide (x18<x17) then
 bif inB x18 x16.length then
 let y3:=(rdA (0,0,[],[],0,0) x16 x18).1
 let y4:=((rdA (0,0,[],[],0,0) x16 x18).2).1
 let y5:=(((rdA (0,0,[],[],0,0) x16 x18).2).2).1
 let y6:=((((rdA (0,0,[],[],0,0) x16 x18).2).2).2).1
 let y7:=(((((rdA (0,0,[],[],0,0) x16 x18).2).2).2).2).1
 let y8:=(((((rdA (0,0,[],[],0,0) x16 x18).2).2).2).2).2
 (ψn.f (y3,y4,y5,y6,y7,y8)).bind fun t9=>
 (ψI.f t9).bind fun t10=>
 (ψk.f x1).bind fun t11=>
 (ψ1W.f x0 t11 t10).bind fun t12=>
 (bif y3==4 then
 bif decide ((x7.length+[(y5,x1,x8,(t10.length:Int),y4)].length) * 48≤140737488355328) then
 let l13:=x7++[(y5,x1,x8,(t10.length:Int),y4)]
 some (t12,x1,l13,x8,t10,x16,x17,x18)
 else none
 else
 some (t12,x1,x7,x8,t10,x16,x17,x18):Option (((QD)×Int)×Int×List (QE)×Int×QB×List (QR)×Int×Int)).bind (fun (x0,x1,x7,x8,x11,x16,x17,x18)=>
 let y14:=w64 (x8+(x11.length:Int))
 rec (x0,x1,x7,y14,x16,x17,w64 (x18+1)))
 else none
 else
 some (x0,x1,x7)
def ψ1d.f (p0:(QD)×Int) (p1:Int) (p2:List (QR)):Option (List (QE)×(QD)×Int):=
 (ψk.f p1).bind fun t1=>
 (ψ1N.f p0 t1).bind fun t2=>
 (lp ψ1d.l0 (t2,p1,[],0,p2,(p2.length:Int),0)).bind (fun (x0,x1,x7)=>
 (ψk.f x1).bind fun t15=>
 (ψ1a.f x0 t15).bind fun t16=>
 (ψk.f (w64 (x1+1))).bind fun t17=>
 (ψ1N.f t16 t17).bind fun t18=>
 some (x7,t18))
def ψM.f (p0:Int):Option (QB):=
 (ψ17.f [104,105,110,116] p0).bind fun t1=>
 some t1
def ψ12.l0 (rec:((QR)×List (QR)×List (Int×Int×Int×QR)×Int×Int)→Option ((QR)×List (QR))):((QR)×List (QR)×List (Int×Int×Int×QR)×Int×Int)→Option ((QR)×List (QR)):=fun (x2,x5,x8,x9,x10)=>
 bif decide (x10<x9) then
 bif inB x10 x8.length then
 let y1:=(rdA (0,0,0,0,0,[],[],0,0) x8 x10).1
 let y2:=((rdA (0,0,0,0,0,[],[],0,0) x8 x10).2).1
 let y3:=(((rdA (0,0,0,0,0,[],[],0,0) x8 x10).2).2).1
 let y4:=((((rdA (0,0,0,0,0,[],[],0,0) x8 x10).2).2).2).1
 let y5:=(((((rdA (0,0,0,0,0,[],[],0,0) x8 x10).2).2).2).2).1
 let y6:=((((((rdA (0,0,0,0,0,[],[],0,0) x8 x10).2).2).2).2).2).1
 let y7:=(((((((rdA (0,0,0,0,0,[],[],0,0) x8 x10).2).2).2).2).2).2).1
 let y8:=((((((((rdA (0,0,0,0,0,[],[],0,0) x8 x10).2).2).2).2).2).2).2).1
 let y9:=((((((((rdA (0,0,0,0,0,[],[],0,0) x8 x10).2).2).2).2).2).2).2).2
 bif decide ((x5.length+[(y4,y5,y6,y7,y8,y9)].length) * 64≤140737488355328) then
 let l10:=x5++[(y4,y5,y6,y7,y8,y9)]
 rec (x2,l10,x8,x9,w64 (x10+1))
 else none
 else none
 else
 some (x2,x5)
def ψ12.f (p0:QR) (p1:List (Int×Int×Int×QR)):Option (Bool):=
 (lp ψ12.l0 (p0,[],p1,(p1.length:Int),0)).bind (fun (x2,x5)=>
 bif x2.2.2.2.2.1==(x5.length:Int) then
 (ψq.f x5).bind fun t11=>
 let y12:=x2.2.2.2.2.2==t11
 some y12
 else
 some false)
def ψ19.l0 (rec:(Int×List (Int×Int×Int×QR)×List (Int×Int×QR)×Int×Int)→Option (List (Int×Int×Int×QR))):(Int×List (Int×Int×Int×QR)×List (Int×Int×QR)×Int×Int)→Option (List (Int×Int×Int×QR)):=fun (x0,x5,x8,x9,x10)=>
 bif decide (x10<x9) then
 bif inB x10 x8.length then
 let y1:=(rdA (0,0,0,0,[],[],0,0) x8 x10).1
 let y2:=((rdA (0,0,0,0,[],[],0,0) x8 x10).2).1
 let y3:=(((rdA (0,0,0,0,[],[],0,0) x8 x10).2).2).1
 let y4:=((((rdA (0,0,0,0,[],[],0,0) x8 x10).2).2).2).1
 let y5:=(((((rdA (0,0,0,0,[],[],0,0) x8 x10).2).2).2).2).1
 let y6:=((((((rdA (0,0,0,0,[],[],0,0) x8 x10).2).2).2).2).2).1
 let y7:=(((((((rdA (0,0,0,0,[],[],0,0) x8 x10).2).2).2).2).2).2).1
 let y8:=(((((((rdA (0,0,0,0,[],[],0,0) x8 x10).2).2).2).2).2).2).2
 bif decide ((x5.length+[(x0,y1,y2,y3,y4,y5,y6,y7,y8)].length) * 88≤140737488355328) then
 let l9:=x5++[(x0,y1,y2,y3,y4,y5,y6,y7,y8)]
 rec (x0,l9,x8,x9,w64 (x10+1))
 else none
 else none
 else
 some x5
def ψ19.f (p0:Int) (p1:List (Int×Int×QR)):Option (List (Int×Int×Int×QR)):=
 (lp ψ19.l0 (p0,[],p1,(p1.length:Int),0)).bind (fun x5=>
 some x5)
def ψN.l0 (rec:(Int×(Int×Int×List (QE))×List (Int×Int×QR)×(Int×Int×List (QE))×List (Int×Int×QR)×Int×Int)→Option (((Int×Int×List (QE))×Int×Int×List (QE)) ⊕ ((Int×Int×List (QE))×Bool))):(Int×(Int×Int×List (QE))×List (Int×Int×QR)×(Int×Int×List (QE))×List (Int×Int×QR)×Int×Int)→Option (((Int×Int×List (QE))×Int×Int×List (QE)) ⊕ ((Int×Int×List (QE))×Bool)):=fun (x0,x4,x6,x9,x67,x68,x69)=>
 bif decide (x69<x68) then
 bif inB x69 x67.length then
 let y7:=(rdA (0,0,0,0,[],[],0,0) x67 x69).1
 let y8:=((rdA (0,0,0,0,[],[],0,0) x67 x69).2).1
 let y9:=(((rdA (0,0,0,0,[],[],0,0) x67 x69).2).2).1
 let y10:=((((rdA (0,0,0,0,[],[],0,0) x67 x69).2).2).2).1
 let y11:=(((((rdA (0,0,0,0,[],[],0,0) x67 x69).2).2).2).2).1
 let y12:=((((((rdA (0,0,0,0,[],[],0,0) x67 x69).2).2).2).2).2).1
 let y13:=(((((((rdA (0,0,0,0,[],[],0,0) x67 x69).2).2).2).2).2).2).1
 let y14:=(((((((rdA (0,0,0,0,[],[],0,0) x67 x69).2).2).2).2).2).2).2
 (bif y9 != 4 then
 some (Sum.inr ((0,0,[]),false))
 else
 bif decide (y10 > x9.2.1) then
 some (Sum.inr ((0,0,[]),false))
 else
 bif decide (x69 > 0) then
 bif inB (w64 (x69 - 1)) x6.length then
 bif !(Op.bytesLess ((((((rdA (0,0,0,0,[],[],0,0) x6 (w64 (x69 - 1))).2).2).2).2).1) y11) then
 some (Sum.inr ((0,0,[]),false))
 else
 some (Sum.inl (x0,x4,x6,x9,(y7,y8,y9,y10,y11,y12,y13,y14),x67,x68,x69))
 else none
 else
 some (Sum.inl (x0,x4,x6,x9,(y7,y8,y9,y10,y11,y12,y13,y14),x67,x68,x69)):Option ((Int×(Int×Int×List (QE))×List (Int×Int×QR)×(Int×Int×List (QE))×(Int×Int×QR)×List (Int×Int×QR)×Int×Int) ⊕ ((Int×Int×List (QE))×Bool))).bind (fun o15=>caseS o15 (fun (x0,x4,x6,x9,x11,x67,x68,x69)=>
 bif decide ((x9.2.2.length+[(x11.2.2.2.2.1,x0,x11.1,x11.2.1,x11.2.2.2.1)].length) * 48≤140737488355328) then
 let l16:=x9.2.2++[(x11.2.2.2.2.1,x0,x11.1,x11.2.1,x11.2.2.2.1)]
 rec (x0,x4,x6,(x9.1,x9.2.1,l16),x67,x68,w64 (x69+1))
 else none) (fun (x4,x5)=>
 some (Sum.inr (x4,x5))))
 else none
 else
 some (Sum.inl (x4,x9))
def ψN.f (p0:Int) (p1:QB):Option ((Int×Int×List (QE))×Bool):=
 (ψj.f p1).bind fun (t1_0,t1_1)=>
 let y2:=w64 ((t1_0.length:Int) - 1)
 bif decide (y2<0) then
 some ((0,0,[]),false)
 else
 bif t1_1 != (p1.length:Int) then
 some ((0,0,[]),false)
 else
 (ψ15.f p0 1 100000).bind fun t3=>
 bif !t3 then
 some ((0,0,[]),false)
 else
 bif inB y2 t1_0.length then
 bif ((((rdA (0,0,0,0,[],[],0,0) t1_0 y2).2).2).1) != 5 then
 some ((0,0,[]),false)
 else
 bif inB y2 t1_0.length then
 bif (decide (0≤y2) && decide (y2≤(t1_0.length:Int))) then
 (ψ19.f p0 (t1_0.take y2.toNat)).bind fun t4=>
 (ψ12.f ((((rdA (0,0,0,0,[],[],0,0) t1_0 y2).2).2).1,((((rdA (0,0,0,0,[],[],0,0) t1_0 y2).2).2).2).1,(((((rdA (0,0,0,0,[],[],0,0) t1_0 y2).2).2).2).2).1,((((((rdA (0,0,0,0,[],[],0,0) t1_0 y2).2).2).2).2).2).1,(((((((rdA (0,0,0,0,[],[],0,0) t1_0 y2).2).2).2).2).2).2)) t4).bind fun t5=>
 bif !t5 then
 some ((0,0,[]),false)
 else
 bif inB y2 t1_0.length then
 let y6:=((((rdA (0,0,0,0,[],[],0,0) t1_0 y2).2).2).2).1
 bif (decide (0≤y2) && decide (y2≤(t1_0.length:Int))) then
 (lp ψN.l0 (p0,(0,0,[]),t1_0,(t1_1,y6,[]),t1_0.take y2.toNat,((t1_0.take y2.toNat).length:Int),0)).bind (fun o17=>caseS o17 (fun (x4,x9)=>
 some (x9,true)) (fun (x4,x5)=>
 some (x4,x5)))
 else none
 else none
 else none
 else none
 else none
def ψ14.l0 (rec:((Int×Int×List (QE))×List (QE)×Int×Int)→Option ((Int×Int×List (QE)) ⊕ (Bool))):((Int×Int×List (QE))×List (QE)×Int×Int)→Option ((Int×Int×List (QE)) ⊕ (Bool)):=fun (x1,x6,x7,x8)=>
 bif decide (x8<x7) then
 bif inB x8 x6.length then
 let y1:=(rdA ([],0,0,0,0) x6 x8).1
 let y2:=((rdA ([],0,0,0,0) x6 x8).2).1
 let y3:=(((rdA ([],0,0,0,0) x6 x8).2).2).1
 let y4:=((((rdA ([],0,0,0,0) x6 x8).2).2).2).1
 let y5:=((((rdA ([],0,0,0,0) x6 x8).2).2).2).2
 bif inB 0 x1.2.2.length then
 bif y2 != (((rdA ([],0,0,0,0) x1.2.2 0).2).1) then
 some (Sum.inr false)
 else
 bif decide (y3 > 100000) then
 some (Sum.inr false)
 else
 rec (x1,x6,x7,w64 (x8+1))
 else none
 else none
 else
 some (Sum.inl x1)
def ψ14.f (p0:Int×Int×List (QE)):Option (Bool):=
 (lp ψ14.l0 (p0,p0.2.2,(p0.2.2.length:Int),0)).bind (fun o6=>caseS o6 (fun x1=>
 (ψ15.f x1.1 0 100000).bind fun t7=>
 bif t7 then
 (ψ15.f x1.2.1 0 1000000).bind fun t8=>
 bif t8 then
 (ψ9.f x1.2.2).bind fun t9=>
 some t9
 else
 some false
 else
 some false) (fun x2=>
 some x2))
def ψl.l0 (rec:(QB×List (QE)×Int×Int)→Option (QB)):(QB×List (QE)×Int×Int)→Option (QB):=fun (x3,x19,x20,x21)=>
 bif decide (x21<x20) then
 bif inB x21 x19.length then
 let y3:=(rdA ([],0,0,0,0) x19 x21).1
 let y4:=((rdA ([],0,0,0,0) x19 x21).2).1
 let y5:=(((rdA ([],0,0,0,0) x19 x21).2).2).1
 let y6:=((((rdA ([],0,0,0,0) x19 x21).2).2).2).1
 let y7:=((((rdA ([],0,0,0,0) x19 x21).2).2).2).2
 (ψ1J.f y3).bind fun t8=>
 (ψ1M.f [y4,y5,y6,y7]).bind fun t9=>
 bif decide (t8.length+t9.length≤9223372036854775807) then
 bif decide (x3.length+(t8++t9).length≤9223372036854775807) then
 let y10:=x3++(t8++t9)
 rec (y10,x19,x20,w64 (x21+1))
 else none
 else none
 else none
 else
 some x3
def ψl.f (p0:Int×Int×List (QE)):Option (QB):=
 (ψ14.f p0).bind fun t1=>
 bif !t1 then
 some []
 else
 (ψ1M.f [p0.1,p0.2.1,(p0.2.2.length:Int)]).bind fun t2=>
 (lp ψl.l0 (t2,p0.2.2,(p0.2.2.length:Int),0)).bind (fun x3=>
 (ψ2.f x3).bind fun t11=>
 (ψH.f t11 4).bind fun t12=>
 bif decide (t12.length+x3.length≤9223372036854775807) then
 some (t12++x3)
 else none)
def ψ1c.f (p0:(QD)×Int) (p1:Int):Option ((QD)×Int):=
 bif p0.2 != 0 then
 some p0
 else
 (ψk.f p1).bind fun t1=>
 (ψG.f p0.1 t1).bind fun (t2_0,t2_1)=>
 (ψN.f p1 t2_0).bind fun (t3_0,t3_1)=>
 (ψM.f p1).bind fun t4=>
 (ψl.f t3_0).bind fun t5=>
 (ψ1Q.f p0 t4 t5).bind fun t6=>
 bif t6.2==2 then
 (ψM.f p1).bind fun t7=>
 (ψ1T.f (t6.1,0) t7).bind fun t8=>
 some t8
 else
 some t6
def ψp.l0 (rec:((QS)×((QD)×Int)×List Int×Int×Int)→Option ((QS)×(QD)×Int)):((QS)×((QD)×Int)×List Int×Int×Int)→Option ((QS)×(QD)×Int):=fun (x0,x1,x85,x86,x87)=>
 bif decide (x87<x86) then
 bif inB x87 x85.length then
 (ψk.f (rdA 0 x85 x87)).bind fun t11=>
 (ψ1T.f x1 t11).bind fun t12=>
 (ψM.f (rdA 0 x85 x87)).bind fun t13=>
 (ψ1T.f t12 t13).bind fun t14=>
 rec (x0,t14,x85,x86,w64 (x87+1))
 else none
 else
 some (x0,x1)
def ψp.f (p0:QS) (p1:(QD)×Int) (p2:List (QF)):Option ((QS)×(QD)×Int):=
 let y1:=w64 (p0.1.1+2)
 (ψ16.f p2 (w64 (p0.2.2.1 - 1))).bind fun t2=>
 (ψ1d.f p1 p0.1.1 t2).bind fun (t3_0,t3_1)=>
 (ψ1c.f t3_1 p0.1.1).bind fun t4=>
 let y5:=w64 (p0.1.1+2)
 (bif t4.2==0 then
 (ψ1X.f t4 (y5,[p0.1.1,w64 (p0.1.1+1)])).bind fun t6=>
 some (((y1,p0.1.2),p0.2),t6,p0.1.1,t3_0,(y5,[p0.1.1,w64 (p0.1.1+1)]))
 else
 some (((y1,p0.1.2),p0.2),t4,p0.1.1,t3_0,(y5,[p0.1.1,w64 (p0.1.1+1)])):Option ((QS)×((QD)×Int)×Int×List (QE)×Int×List Int)).bind (fun (x0,x1,x6,x7,x8)=>
 bif x1.2 != 0 then
 (ψk.f x6).bind fun t7=>
 (ψk.f (w64 (x6+1))).bind fun t8=>
 (ψM.f x6).bind fun t9=>
 (ψ1O.f x1 [[116,101,109,112],t7,t8,t9]).bind fun t10=>
 some (x0,t10)
 else
 (lp ψp.l0 ((x8,x7,x0.2.2.1,0,0),x1,x0.1.2,(x0.1.2.length:Int),0)).bind (fun (x0,x1)=>
 some (x0,x1)))
def ψR.f (p0:QS) (p1:QD):Option ((QS)×(QD)×Int):=
 (ψ10.f p0).bind fun t1=>
 (ψy.f p1).bind fun t2=>
 (ψF.f p0 p1).bind fun (t3_0,t3_1)=>
 (ψo.f p0 p1).bind fun t4=>
 bif !t4 then
 some (t1,t2,4)
 else
 let y5:=decide ((w64 (p0.1.1+2)) > 100000)
 bif y5 then
 some (t1,t2,5)
 else
 bif t3_1 != 0 then
 some (t1,t2,t3_1)
 else
 (ψp.f t1 (t2,0) t3_0).bind fun (t6_0,t6_1)=>
 some (t6_0,t6_1.1,t6_1.2)
def ψY.l0 (rec:(QB×(Int×List Int)×Int×(QB×Bool)×(Int×List Int)×Int×Int)→Option (QB×(Int×List Int)×Int×(QB×Bool)×Int×List Int)):(QB×(Int×List Int)×Int×(QB×Bool)×(Int×List Int)×Int×Int)→Option (QB×(Int×List Int)×Int×(QB×Bool)×Int×List Int):=fun (x0,x2,x5,x6,x7,x8,x9)=>
 bif decide (x9<x8) then
 bif !x6.2 then
 (ψ1B.f x6).bind fun (t4_0,t4_1)=>
 bif decide ((x7.2.length+[t4_0].length) * 8≤140737488355328) then
 let l5:=x7.2++[t4_0]
 rec (x0,x2,x5,t4_1,(x7.1,l5),x8,w64 (x9+1))
 else none
 else
 some (x0,x2,x5,x6,x7)
 else
 some (x0,x2,x5,x6,x7)
def ψY.f (p0:QB):Option ((Int×List Int)×Bool):=
 (ψv.f p0).bind fun (t1_0,t1_1)=>
 (ψ1B.f (t1_0,false)).bind fun (t2_0,t2_1)=>
 (ψ1B.f t2_1).bind fun (t3_0,t3_1)=>
 (lp ψY.l0 (p0,(0,[]),t1_1,t3_1,(t2_0,[]),t3_0,0)).bind (fun (x0,x2,x5,x6,x7)=>
 bif x5==0 then
 some ((0,[]),false)
 else
 bif x5 != (x0.length:Int) then
 some ((0,[]),false)
 else
 bif x6.2 then
 some ((0,[]),false)
 else
 bif !(x6.1==[]) then
 some ((0,[]),false)
 else
 (ψQ.f x7).bind fun t6=>
 bif !t6 then
 some ((0,[]),false)
 else
 some (x7,true))
def ψ1Z.l0 (rec:(((QD)×Int)×(Int×List Int)×List (List (Int×Int×Int×QR))×Int×List Int×Int×Int)→Option ((((QD)×Int)×List (List (Int×Int×Int×QR))×Int) ⊕ (((QD)×Int)×List (List (Int×Int×Int×QR))×Int×Bool))):(((QD)×Int)×(Int×List Int)×List (List (Int×Int×Int×QR))×Int×List Int×Int×Int)→Option ((((QD)×Int)×List (List (Int×Int×Int×QR))×Int) ⊕ (((QD)×Int)×List (List (Int×Int×Int×QR))×Int×Bool)):=fun (x0,x3,x7,x8,x16,x17,x18)=>
 bif decide (x18<x17) then
 bif inB x18 x16.length then
 (ψk.f (rdA 0 x16 x18)).bind fun t1=>
 (ψG.f x0.1 t1).bind fun (t2_0,t2_1)=>
 (ψj.f t2_0).bind fun (t3_0,t3_1)=>
 (bif !t2_1 then
 some (Sum.inr (x0,[],0,false))
 else
 bif decide (x18<(w64 ((x3.2.length:Int) - 1))) then
 bif t3_1 != (t2_0.length:Int) then
 some (Sum.inr (x0,[],0,false))
 else
 some (Sum.inl (x0,x3,x7,rdA 0 x16 x18,t3_0,t3_1,x16,x17,x18))
 else
 some (Sum.inl (x0,x3,x7,rdA 0 x16 x18,t3_0,t3_1,x16,x17,x18)):Option ((((QD)×Int)×(Int×List Int)×List (List (Int×Int×Int×QR))×Int×List (Int×Int×QR)×Int×List Int×Int×Int) ⊕ (((QD)×Int)×List (List (Int×Int×Int×QR))×Int×Bool))).bind (fun o4=>caseS o4 (fun (x0,x3,x7,x10,x13,x14,x16,x17,x18)=>
 (ψ19.f x10 x13).bind fun t5=>
 bif decide ((x7.length+[t5].length) * 24≤140737488355328) then
 rec (x0,x3,x7++[t5],x14,x16,x17,w64 (x18+1))
 else none) (fun (x0,x4,x5,x6)=>
 some (Sum.inr (x0,x4,x5,x6))))
 else none
 else
 some (Sum.inl (x0,x7,x8))
def ψ1Z.f (p0:(QD)×Int) (p1:Int×List Int):Option (List (List (Int×Int×Int×QR))×Int×Bool×(QD)×Int):=
 (lp ψ1Z.l0 (p0,p1,[],0,p1.2,(p1.2.length:Int),0)).bind (fun o6=>caseS o6 (fun (x0,x7,x8)=>
 some (x7,x8,true,x0)) (fun (x0,x4,x5,x6)=>
 some (x4,x5,x6,x0)))
def ψX.l0 (rec:(QB×(Int×Int×List (QE))×(QB×Bool)×(Int×Int×List (QE))×Int×Int)→Option (QB×(Int×Int×List (QE))×(QB×Bool)×Int×Int×List (QE))):(QB×(Int×Int×List (QE))×(QB×Bool)×(Int×Int×List (QE))×Int×Int)→Option (QB×(Int×Int×List (QE))×(QB×Bool)×Int×Int×List (QE)):=fun (x0,x2,x4,x5,x6,x7)=>
 bif decide (x7<x6) then
 bif !x4.2 then
 (ψ1C.f x4).bind fun (t5_0,t5_1)=>
 (ψ1B.f t5_1).bind fun (t6_0,t6_1)=>
 (ψ1B.f t6_1).bind fun (t7_0,t7_1)=>
 (ψ1B.f t7_1).bind fun (t8_0,t8_1)=>
 (ψ1B.f t8_1).bind fun (t9_0,t9_1)=>
 bif decide ((x5.2.2.length+[(t5_0,t6_0,t7_0,t8_0,t9_0)].length) * 48≤140737488355328) then
 let l10:=x5.2.2++[(t5_0,t6_0,t7_0,t8_0,t9_0)]
 rec (x0,x2,t9_1,(x5.1,x5.2.1,l10),x6,w64 (x7+1))
 else none
 else
 some (x0,x2,x4,x5)
 else
 some (x0,x2,x4,x5)
def ψX.f (p0:QB):Option ((Int×Int×List (QE))×Bool):=
 (ψ1A.f (p0,false) 4).bind fun (t1_0,t1_1)=>
 (ψ1B.f t1_1).bind fun (t2_0,t2_1)=>
 (ψ1B.f t2_1).bind fun (t3_0,t3_1)=>
 (ψ1B.f t3_1).bind fun (t4_0,t4_1)=>
 (lp ψX.l0 (p0,(0,0,[]),t4_1,(t2_0,t3_0,[]),t4_0,0)).bind (fun (x0,x2,x4,x5)=>
 bif x4.2 then
 some ((0,0,[]),false)
 else
 (ψ14.f x5).bind fun t11=>
 bif !t11 then
 some ((0,0,[]),false)
 else
 (ψl.f x5).bind fun t12=>
 bif !(t12==x0) then
 some ((0,0,[]),false)
 else
 some (x5,true))
def ψi.l0 (rec:(List (QE)×List (QE)×Int×Int)→Option ((Unit) ⊕ (Bool))):(List (QE)×List (QE)×Int×Int)→Option ((Unit) ⊕ (Bool)):=fun (x0,x1,x12,x13)=>
 bif decide (x13<x12) then
 bif inB x13 x0.length then
 bif inB x13 x1.length then
 bif !(((rdA ([],0,0,0,0) x0 x13).1)==((rdA ([],0,0,0,0) x1 x13).1) && ((((rdA ([],0,0,0,0) x0 x13).2).1)==(((rdA ([],0,0,0,0) x1 x13).2).1) && (((((rdA ([],0,0,0,0) x0 x13).2).2).1)==((((rdA ([],0,0,0,0) x1 x13).2).2).1) && ((((((rdA ([],0,0,0,0) x0 x13).2).2).2).1)==(((((rdA ([],0,0,0,0) x1 x13).2).2).2).1) && ((((((rdA ([],0,0,0,0) x0 x13).2).2).2).2)==(((((rdA ([],0,0,0,0) x1 x13).2).2).2).2)))))) then
 some (Sum.inr false)
 else
 rec (x0,x1,x12,w64 (x13+1))
 else none
 else none
 else
 some (Sum.inl ())
def ψi.f (p0:List (QE)) (p1:List (QE)):Option (Bool):=
 bif (p0.length:Int) != (p1.length:Int) then
 some false
 else
 (lp ψi.l0 (p0,p1,(p0.length:Int),0)).bind (fun o1=>caseS o1 (fun _=>
 some true) (fun x4=>
 some x4))
def ψL.f (p0:Int) (p1:QB) (p2:Int×Int×List (QE)):Option (Bool):=
 (ψN.f p0 p1).bind fun (t1_0,t1_1)=>
 bif t1_1 then
 bif t1_0.1==p2.1 then
 bif t1_0.2.1==p2.2.1 then
 (ψi.f t1_0.2.2 p2.2.2).bind fun t2=>
 some t2
 else
 some false
 else
 some false
 else
 some false
def ψ1U.f (p0:(QD)×Int) (p1:Int):Option ((List (QE)×Int×Int)×Bool×(QD)×Int):=
 (ψM.f p1).bind fun t1=>
 (ψG.f p0.1 t1).bind fun (t2_0,t2_1)=>
 (ψX.f t2_0).bind fun (t3_0,t3_1)=>
 (ψk.f p1).bind fun t4=>
 (ψG.f p0.1 t4).bind fun (t5_0,t5_1)=>
 bif !t2_1 then
 some (([],0,0),false,p0)
 else
 bif !t3_1 then
 some (([],0,0),false,p0)
 else
 (ψL.f p1 t5_0 t3_0).bind fun t6=>
 bif !t6 then
 some (([],0,0),false,p0)
 else
 some ((t3_0.2.2,t3_0.2.1,0),true,p0)
def ψ18.l0 (rec:((QR)×List (Int×Int×Int×QR)×List (Int×Int×Int×QR)×Int×Int)→Option (List (Int×Int×Int×QR))):((QR)×List (Int×Int×Int×QR)×List (Int×Int×Int×QR)×Int×Int)→Option (List (Int×Int×Int×QR)):=fun (x3,x5,x9,x10,x11)=>
 bif decide (x11<x10) then
 bif inB x11 x9.length then
 let y1:=(rdA (0,0,0,0,0,[],[],0,0) x9 x11).1
 let y2:=((rdA (0,0,0,0,0,[],[],0,0) x9 x11).2).1
 let y3:=(((rdA (0,0,0,0,0,[],[],0,0) x9 x11).2).2).1
 let y4:=((((rdA (0,0,0,0,0,[],[],0,0) x9 x11).2).2).2).1
 let y5:=(((((rdA (0,0,0,0,0,[],[],0,0) x9 x11).2).2).2).2).1
 let y6:=((((((rdA (0,0,0,0,0,[],[],0,0) x9 x11).2).2).2).2).2).1
 let y7:=(((((((rdA (0,0,0,0,0,[],[],0,0) x9 x11).2).2).2).2).2).2).1
 let y8:=((((((((rdA (0,0,0,0,0,[],[],0,0) x9 x11).2).2).2).2).2).2).2).1
 let y9:=((((((((rdA (0,0,0,0,0,[],[],0,0) x9 x11).2).2).2).2).2).2).2).2
 (bif x3.1==3 then
 bif y5 != x3.2.1 then
 some (x3,x5,x9,x10,x11)
 else
 (bif y4==x3.1 then
 some (x3,[],x9,x10,x11)
 else
 (bif x3.1==3 then
 bif y4==1 then
 some (x3,x5,(y1,y2,y3,y4,y5,y6,y7,y8,y9),x9,x10,x11,true)
 else
 bif y4==2 then
 some (x3,x5,(y1,y2,y3,y4,y5,y6,y7,y8,y9),x9,x10,x11,y4==2)
 else
 bif x3.1==5 then
 some (x3,x5,(y1,y2,y3,y4,y5,y6,y7,y8,y9),x9,x10,x11,y4==4)
 else
 some (x3,x5,(y1,y2,y3,y4,y5,y6,y7,y8,y9),x9,x10,x11,false)
 else
 bif x3.1==5 then
 some (x3,x5,(y1,y2,y3,y4,y5,y6,y7,y8,y9),x9,x10,x11,y4==4)
 else
 some (x3,x5,(y1,y2,y3,y4,y5,y6,y7,y8,y9),x9,x10,x11,false):Option ((QR)×List (Int×Int×Int×QR)×(Int×Int×Int×QR)×List (Int×Int×Int×QR)×Int×Int×Bool)).bind (fun (x3,x5,x7,x9,x10,x11,x34)=>
 bif x34 then
 bif decide ((x5.length+[x7].length) * 88≤140737488355328) then
 some (x3,x5++[x7],x9,x10,x11)
 else none
 else
 some (x3,x5,x9,x10,x11)):Option ((QR)×List (Int×Int×Int×QR)×List (Int×Int×Int×QR)×Int×Int)).bind (fun (x3,x5,x9,x10,x11)=>
 some (x3,x5,x9,x10,x11))
 else
 (bif y4==x3.1 then
 some (x3,[],x9,x10,x11)
 else
 (bif x3.1==3 then
 bif y4==1 then
 some (x3,x5,(y1,y2,y3,y4,y5,y6,y7,y8,y9),x9,x10,x11,true)
 else
 bif y4==2 then
 some (x3,x5,(y1,y2,y3,y4,y5,y6,y7,y8,y9),x9,x10,x11,y4==2)
 else
 bif x3.1==5 then
 some (x3,x5,(y1,y2,y3,y4,y5,y6,y7,y8,y9),x9,x10,x11,y4==4)
 else
 some (x3,x5,(y1,y2,y3,y4,y5,y6,y7,y8,y9),x9,x10,x11,false)
 else
 bif x3.1==5 then
 some (x3,x5,(y1,y2,y3,y4,y5,y6,y7,y8,y9),x9,x10,x11,y4==4)
 else
 some (x3,x5,(y1,y2,y3,y4,y5,y6,y7,y8,y9),x9,x10,x11,false):Option ((QR)×List (Int×Int×Int×QR)×(Int×Int×Int×QR)×List (Int×Int×Int×QR)×Int×Int×Bool)).bind (fun (x3,x5,x7,x9,x10,x11,x34)=>
 bif x34 then
 bif decide ((x5.length+[x7].length) * 88≤140737488355328) then
 some (x3,x5++[x7],x9,x10,x11)
 else none
 else
 some (x3,x5,x9,x10,x11)):Option ((QR)×List (Int×Int×Int×QR)×List (Int×Int×Int×QR)×Int×Int)).bind (fun (x3,x5,x9,x10,x11)=>
 some (x3,x5,x9,x10,x11)):Option ((QR)×List (Int×Int×Int×QR)×List (Int×Int×Int×QR)×Int×Int)).bind (fun (x3,x5,x9,x10,x11)=>
 rec (x3,x5,x9,x10,w64 (x11+1)))
 else none
 else
 some x5
def ψ18.f (p0:List (Int×Int×Int×QR)) (p1:QR):Option (List (Int×Int×Int×QR)):=
 (lp ψ18.l0 (p1,[],p0,(p0.length:Int),0)).bind (fun x5=>
 some x5)
def ψK.l0 (rec:((List (QE)×Int×Int)×List (Int×Int×Int×QR)×Int×Int)→Option (List (QE)×Int×Int)):((List (QE)×Int×Int)×List (Int×Int×Int×QR)×Int×Int)→Option (List (QE)×Int×Int):=fun (x0,x6,x7,x8)=>
 bif decide (x8<x7) then
 bif inB x8 x6.length then
 let y1:=(rdA (0,0,0,0,0,[],[],0,0) x6 x8).1
 let y2:=((rdA (0,0,0,0,0,[],[],0,0) x6 x8).2).1
 let y3:=(((rdA (0,0,0,0,0,[],[],0,0) x6 x8).2).2).1
 let y4:=((((rdA (0,0,0,0,0,[],[],0,0) x6 x8).2).2).2).1
 let y5:=(((((rdA (0,0,0,0,0,[],[],0,0) x6 x8).2).2).2).2).1
 let y6:=((((((rdA (0,0,0,0,0,[],[],0,0) x6 x8).2).2).2).2).2).1
 let y7:=(((((((rdA (0,0,0,0,0,[],[],0,0) x6 x8).2).2).2).2).2).2).1
 let y8:=((((((((rdA (0,0,0,0,0,[],[],0,0) x6 x8).2).2).2).2).2).2).2).1
 let y9:=((((((((rdA (0,0,0,0,0,[],[],0,0) x6 x8).2).2).2).2).2).2).2).2
 (bif y4==2 then
 (ψ6.f x0.1 y6).bind fun t10=>
 some ((t10,x0.2),x6,x7,x8)
 else
 (ψA.f x0.1 (y6,y1,y2,y3,y5)).bind fun t11=>
 some ((t11,x0.2),x6,x7,x8):Option ((List (QE)×Int×Int)×List (Int×Int×Int×QR)×Int×Int)).bind (fun (x0,x6,x7,x8)=>
 rec (x0,x6,x7,w64 (x8+1)))
 else none
 else
 some x0
def ψK.f (p0:List (QE)×Int×Int) (p1:List (Int×Int×Int×QR)):Option (List (QE)×Int×Int):=
 (lp ψK.l0 (p0,p1,(p1.length:Int),0)).bind (fun x0=>
 bif decide ((x0.1.length:Int) > 20) then
 some (x0.1,x0.2.1,2)
 else
 some x0)
def ψd.l0 (rec:(List (Int×Int×Int×QR)×(List (QE)×Int×Int)×(List (QE)×Int×Int)×List (Int×Int×Int×QR)×Int×Int)→Option ((List (Int×Int×Int×QR)×(List (QE)×Int×Int)×List (QE)×Int×Int) ⊕ (List (QE)×Int×Int))):(List (Int×Int×Int×QR)×(List (QE)×Int×Int)×(List (QE)×Int×Int)×List (Int×Int×Int×QR)×Int×Int)→Option ((List (Int×Int×Int×QR)×(List (QE)×Int×Int)×List (QE)×Int×Int) ⊕ (List (QE)×Int×Int)):=fun (x1,x4,x5,x17,x18,x19)=>
 bif decide (x19<x18) then
 (bif inB x19 x17.length then
 let y2:=(rdA (0,0,0,0,0,[],[],0,0) x17 x19).1
 let y3:=((rdA (0,0,0,0,0,[],[],0,0) x17 x19).2).1
 let y4:=(((rdA (0,0,0,0,0,[],[],0,0) x17 x19).2).2).1
 let y5:=((((rdA (0,0,0,0,0,[],[],0,0) x17 x19).2).2).2).1
 let y6:=(((((rdA (0,0,0,0,0,[],[],0,0) x17 x19).2).2).2).2).1
 let y7:=((((((rdA (0,0,0,0,0,[],[],0,0) x17 x19).2).2).2).2).2).1
 let y8:=(((((((rdA (0,0,0,0,0,[],[],0,0) x17 x19).2).2).2).2).2).2).1
 let y9:=((((((((rdA (0,0,0,0,0,[],[],0,0) x17 x19).2).2).2).2).2).2).2).1
 let y10:=((((((((rdA (0,0,0,0,0,[],[],0,0) x17 x19).2).2).2).2).2).2).2).2
 bif x5.2.2 != 0 then
 some (Sum.inr x5)
 else
 let y11:=if y6 > x5.2.1 then y6 else x5.2.1
 (bif y5 != 3 then
 bif y5 != 5 then
 some (Sum.inr (x1,x4,(x5.1,y11,x5.2.2),x17,x18,x19))
 else
 some (Sum.inl (x1,x4,(x5.1,y11,x5.2.2),x19,(y2,y3,y4,y5,y6,y7,y8,y9,y10),x17,x18,x19))
 else
 some (Sum.inl (x1,x4,(x5.1,y11,x5.2.2),x19,(y2,y3,y4,y5,y6,y7,y8,y9,y10),x17,x18,x19)):Option ((List (Int×Int×Int×QR)×(List (QE)×Int×Int)×(List (QE)×Int×Int)×Int×(Int×Int×Int×QR)×List (Int×Int×Int×QR)×Int×Int) ⊕ (List (Int×Int×Int×QR)×(List (QE)×Int×Int)×(List (QE)×Int×Int)×List (Int×Int×Int×QR)×Int×Int))).bind (fun o12=>caseS o12 (fun (x1,x4,x5,x6,x7,x17,x18,x19)=>
 bif (decide (0≤x6) && decide (x6≤(x1.length:Int))) then
 (ψ18.f (x1.take x6.toNat) x7.2.2.2).bind fun t13=>
 ((ψ12.f x7.2.2.2 t13).bind fun t14=>
 bif t14 then
 (ψK.f x5 t13).bind fun t15=>
 some (x1,x4,t15,x17,x18,x19)
 else
 (let y16:=x7.2.2.2.1==5
 bif y16 then
 some (x1,x4,(x5.1,x5.2.1,1),x17,x18,x19)
 else
 some (x1,x4,x5,x17,x18,x19):Option (List (Int×Int×Int×QR)×(List (QE)×Int×Int)×(List (QE)×Int×Int)×List (Int×Int×Int×QR)×Int×Int)).bind (fun (x1,x4,x5,x17,x18,x19)=>
 some (x1,x4,x5,x17,x18,x19)):Option (List (Int×Int×Int×QR)×(List (QE)×Int×Int)×(List (QE)×Int×Int)×List (Int×Int×Int×QR)×Int×Int)).bind (fun (x1,x4,x5,x17,x18,x19)=>
 some (Sum.inl (x1,x4,x5,x17,x18,x19)))
 else none) (fun (x1,x4,x5,x17,x18,x19)=>
 some (Sum.inl (x1,x4,x5,x17,x18,x19))))
 else none:Option ((List (Int×Int×Int×QR)×(List (QE)×Int×Int)×(List (QE)×Int×Int)×List (Int×Int×Int×QR)×Int×Int) ⊕ (List (QE)×Int×Int))).bind (fun o17=>caseS o17 (fun (x1,x4,x5,x17,x18,x19)=>
 rec (x1,x4,x5,x17,x18,w64 (x19+1))) (fun x4=>
 some (Sum.inr x4)))
 else
 some (Sum.inl (x1,x4,x5))
def ψd.f (p0:List (QE)×Int×Int) (p1:List (Int×Int×Int×QR)):Option (List (QE)×Int×Int):=
 (ψx.f p0.1).bind fun t1=>
 (lp ψd.l0 (p1,([],0,0),(t1,p0.2),p1,(p1.length:Int),0)).bind (fun o18=>caseS o18 (fun (x1,x4,x5)=>
 bif x5.2.2==0 then
 (ψ18.f x1 (5,0,[],[],0,0)).bind fun t19=>
 bif decide ((t19.length:Int) > 0) then
 some (x5.1,x5.2.1,1)
 else
 some x5
 else
 some x5) (fun x4=>
 some x4))
def ψ3N.f (p0:QB) (p1:QB):Option (QB×Bool):=
 (ψ3O.f p0 p1).bind fun t1=>
 bif !t1 then
 some (p0,false)
 else
 bif (decide (0≤(p1.length:Int)) && decide ((p1.length:Int)≤(p0.length:Int))) then
 let y2:=p0.drop ((p1.length:Int).toNat)
 some (y2,true)
 else none
def ψ3L.f (p0:QB) (p1:QB):Option (QB×Bool):=
 (ψ3N.f p0 p1).bind fun (t1_0,t1_1)=>
 some (t1_0,t1_1)
def ψV.f (p0:QB):Option (Int×Bool):=
 (strconv_Atoi.f p0).bind fun (t1_0,t1_1)=>
 bif t1_1 then
 some (0,false)
 else
 (ψ5.f t1_0).bind fun t2=>
 bif !(t2==p0) then
 some (0,false)
 else
 (ψ15.f t1_0 (-999999999) 999999999).bind fun t3=>
 bif !t3 then
 some (0,false)
 else
 some (t1_0,true)
def ψO.f (p0:QB):Option (Int×Bool):=
 (ψ3L.f p0 [115,101,103]).bind fun (t1_0,t1_1)=>
 (bif !t1_1 then
 (ψ3L.f p0 [104,105,110,116]).bind fun (t2_0,t2_1)=>
 some (t2_0,t2_1)
 else
 some (t1_0,t1_1):Option (QB×Bool)).bind (fun (x4,x5)=>
 (ψV.f x4).bind fun (t3_0,t3_1)=>
 bif !x5 then
 some (0,false)
 else
 bif !t3_1 then
 some (0,false)
 else
 (ψ15.f t3_0 1 100000).bind fun t4=>
 bif !t4 then
 some (0,false)
 else
 some (t3_0,true))
def ψ13.l0 (rec:(Int×List Int×Int×Int)→Option ((Unit) ⊕ (Bool))):(Int×List Int×Int×Int)→Option ((Unit) ⊕ (Bool)):=fun (x1,x7,x8,x9)=>
 bif decide (x9<x8) then
 bif inB x9 x7.length then
 bif (rdA 0 x7 x9)==x1 then
 some (Sum.inr true)
 else
 rec (x1,x7,x8,w64 (x9+1))
 else none
 else
 some (Sum.inl ())
def ψ13.f (p0:List Int) (p1:Int):Option (Bool):=
 (lp ψ13.l0 (p1,p0,(p0.length:Int),0)).bind (fun o1=>caseS o1 (fun _=>
 some false) (fun x4=>
 some x4))
def ψU.l0 (rec:((Int×List Int)×List (QB)×List (QF)×Int×Int)→Option (List (QB))):((Int×List Int)×List (QB)×List (QF)×Int×Int)→Option (List (QB)):=fun (x3,x5,x14,x15,x16)=>
 bif decide (x16<x15) then
 bif inB x16 x14.length then
 let y2:=(rdA ([],[],0) x14 x16).1
 let y3:=((rdA ([],[],0) x14 x16).2).1
 let y4:=((rdA ([],[],0) x14 x16).2).2
 (ψO.f y2).bind fun (t5_0,t5_1)=>
 (bif y2==[116,101,109,112] then
 bif decide ((x5.length+[y2].length) * 16≤140737488355328) then
 some (x3,x5++[y2],x14,x15,x16)
 else none
 else
 bif t5_1 then
 (ψ13.f x3.2 t5_0).bind fun t6=>
 bif !t6 then
 bif decide ((x5.length+[y2].length) * 16≤140737488355328) then
 some (x3,x5++[y2],x14,x15,x16)
 else none
 else
 some (x3,x5,x14,x15,x16)
 else
 some (x3,x5,x14,x15,x16):Option ((Int×List Int)×List (QB)×List (QF)×Int×Int)).bind (fun (x3,x5,x14,x15,x16)=>
 rec (x3,x5,x14,x15,w64 (x16+1)))
 else none
 else
 some x5
def ψU.f (p0:QD) (p1:Int×List Int):Option (List (QB)):=
 (ψB.f p0).bind fun t1=>
 bif !t1 then
 some []
 else
 (lp ψU.l0 (p1,[],p0.1,(p0.1.length:Int),0)).bind (fun x5=>
 some x5)
def ψ1V.l0 (rec:(((QD)×Int)×List (QB)×Int×Int)→Option ((QD)×Int)):(((QD)×Int)×List (QB)×Int×Int)→Option ((QD)×Int):=fun (x0,x11,x12,x13)=>
 bif decide (x13<x12) then
 bif inB x13 x11.length then
 let y2:=rdA [] x11 x13
 (ψ1T.f x0 y2).bind fun t3=>
 rec (t3,x11,x12,w64 (x13+1))
 else none
 else
 some x0
def ψ1V.f (p0:(QD)×Int) (p1:Int×List Int):Option ((QD)×Int):=
 (ψU.f p0.1 p1).bind fun t1=>
 (lp ψ1V.l0 (p0,t1,(t1.length:Int),0)).bind (fun x0=>
 some x0)
def ψ1S.l0 (rec:(((QD)×Int)×(QS)×(Int×List Int)×(QS)×(List (QE)×Int×Int)×List (Int×Int×Int×QR)×List (List (Int×Int×Int×QR))×Int×Int)→Option (((QD)×Int)×(QS)×(Int×List Int)×(QS)×(List (QE)×Int×Int)×List (Int×Int×Int×QR))):(((QD)×Int)×(QS)×(Int×List Int)×(QS)×(List (QE)×Int×Int)×List (Int×Int×Int×QR)×List (List (Int×Int×Int×QR))×Int×Int)→Option (((QD)×Int)×(QS)×(Int×List Int)×(QS)×(List (QE)×Int×Int)×List (Int×Int×Int×QR)):=fun (x0,x4,x5,x13,x14,x16,x103,x104,x105)=>
 bif decide (x105<x104) then
 bif inB x105 x103.length then
 bif decide ((x16.length+(rdA [] x103 x105).length) * 88≤140737488355328) then
 let l9:=x16++(rdA [] x103 x105)
 rec (x0,x4,(x5.1,[]),x13,x14,l9,x103,x104,w64 (x105+1))
 else none
 else none
 else
 some (x0,x4,(x5.1,[]),x13,x14,x16)
def ψ1S.f (p0:(QD)×Int) (p1:QB):Option ((QS)×(QD)×Int):=
 (ψY.f p1).bind fun (t1_0,t1_1)=>
 (ψ1Z.f p0 t1_0).bind fun (t2_0,t2_1,t2_2,t2_3)=>
 bif !t1_1 then
 some (((0,[]),[],0,0,0),(t2_3.1,3))
 else
 bif !t2_2 then
 some (((0,[]),[],0,0,0),(t2_3.1,3))
 else
 bif inB (w64 ((t1_0.2.length:Int) - 1)) t1_0.2.length then
 (ψk.f (rdA 0 t1_0.2 (w64 ((t1_0.2.length:Int) - 1)))).bind fun t3=>
 (ψG.f t2_3.1 t3).bind fun (t4_0,t4_1)=>
 (bif (t4_0.length:Int) != t2_1 then
 (ψt.f t2_3.1 t3 t2_1).bind fun (t5_0,t5_1)=>
 (ψ1b.f t2_3 t5_0 t5_1).bind fun t6=>
 some (t6,((0,[]),[],0,0,0),t1_0,t2_0,t2_1,t3)
 else
 some (t2_3,((0,[]),[],0,0,0),t1_0,t2_0,t2_1,t3):Option (((QD)×Int)×(QS)×(Int×List Int)×List (List (Int×Int×Int×QR))×Int×QB)).bind (fun (x0,x4,x5,x7,x8,x10)=>
 (ψ1a.f x0 x10).bind fun t7=>
 bif t7.2 != 0 then
 some (((0,[]),[],0,0,0),t7)
 else
 bif inB 0 x5.2.length then
 (ψ1U.f t7 (rdA 0 x5.2 0)).bind fun (t8_0,t8_1,t8_2)=>
 (bif t8_1 then
 bif inB 0 x5.2.length then
 bif (decide (0≤(1:Int)) && decide (1≤(x7.length:Int))) then
 some (t8_2,x4,(x5.1,[]),x7.drop 1,(x5,[],0,x8,rdA 0 x5.2 0),t8_0)
 else none
 else none
 else
 some (t8_2,x4,(x5.1,[]),x7,(x5,[],0,x8,0),t8_0):Option (((QD)×Int)×(QS)×(Int×List Int)×List (List (Int×Int×Int×QR))×(QS)×List (QE)×Int×Int)).bind (fun (x0,x4,x5,x7,x13,x14)=>
 (lp ψ1S.l0 (x0,x4,(x5.1,[]),x13,x14,[],x7,(x7.length:Int),0)).bind (fun (x0,x4,x5,x13,x14,x16)=>
 (ψd.f x14 x16).bind fun t10=>
 bif t10.2.2 != 0 then
 some (((0,[]),[],0,0,0),(x0.1,3))
 else
 (ψ1V.f x0 (x5.1,x13.1.2)).bind fun t11=>
 let y12:=w64 (t10.2.1+1)
 some ((x13.1,t10.1,y12,x13.2.2.2),t11)))
 else none)
 else none
def ψ1R.f (p0:(QD)×Int):Option ((QS)×(QD)×Int):=
 (ψ1V.f p0 (0,[])).bind fun t1=>
 (ψk.f 1).bind fun t2=>
 (ψ1P.f t1 t2).bind fun t3=>
 (ψ1X.f t3 (2,[1])).bind fun t4=>
 some (((2,[1]),[],1,0,0),t4)
def ψT.f (p0:QD):Option ((QS)×(QD)×Int):=
 (ψy.f p0).bind fun t1=>
 (ψB.f p0).bind fun t2=>
 bif !t2 then
 some (((0,[]),[],0,0,0),t1,4)
 else
 bif p0.2.2.2 then
 some (((0,[]),[],0,0,0),t1,1)
 else
 (ψG.f p0 [108,105,118,101]).bind fun (t3_0,t3_1)=>
 (bif t3_1 then
 (ψ1S.f (t1,0) t3_0).bind fun (t4_0,t4_1)=>
 some (((0,[]),[],0,0,0),([],0,0,false),t4_1,t4_0)
 else
 (ψ1R.f (t1,0)).bind fun (t5_0,t5_1)=>
 some (((0,[]),[],0,0,0),([],0,0,false),t5_1,t5_0):Option ((QS)×(QD)×((QD)×Int)×QS)).bind (fun (x2,x3,x5,x6)=>
 bif x5.2 != 0 then
 some (((0,[]),[],0,0,0),x5.1,x5.2)
 else
 some (x6,x5.1,0))
def ψ1r.f (p0:List Int):Option (QD):=
 (ψ2x.f p0).bind fun t1=>
 (ψ2j.f t1).bind fun (t2_0,t2_1,t2_2)=>
 (ψ2y.f t2_2 4).bind fun (t3_0,t3_1)=>
 bif t3_0 then
 (ψ32.f t3_1).bind fun (t4_0,t4_1)=>
 some t4_0
 else
 some t2_1
def ψ1e.f (p0:List Int):Option (Bool):=
 (ψ1f.f p0).bind fun t1=>
 bif t1 then
 some true
 else
 (ψ1r.f p0).bind fun t2=>
 (ψT.f t2).bind fun (t3_0,t3_1,t3_2)=>
 (ψ25.f t2).bind fun (t4_0,t4_1,t4_2)=>
 (bif t3_2 != t4_2 then
 some (Sum.inr false)
 else
 (ψ2M.f t3_0 t4_0).bind fun t5=>
 bif !t5 then
 some (Sum.inr false)
 else
 bif t3_2==0 then
 bif (t3_1.1.length:Int)==0 then
 some (Sum.inr false)
 else
 some (Sum.inl (t2,t3_0,t3_1,t3_2))
 else
 some (Sum.inl (t2,t3_0,t3_1,t3_2)):Option (((QD)×(QS)×(QD)×Int) ⊕ (Bool))).bind (fun o6=>caseS o6 (fun (x3,x4,x5,x6)=>
 (ψE.f x3).bind fun t7=>
 (ψT.f t7).bind fun (t8_0,t8_1,t8_2)=>
 bif x6==0 then
 bif t8_2==0 then
 bif t8_0.2.2.2.2==0 then
 (ψ2M.f (x4.1,x4.2.1,x4.2.2.1,x4.2.2.2.1,t8_0.2.2.2.2) t8_0).bind fun t9=>
 bif t9 then
 bif decide (x3.2.2.1≥0) then
 some true
 else
 (ψE.f x5).bind fun t10=>
 (ψ2L.f t10 t8_1).bind fun t11=>
 some t11
 else
 some false
 else
 some false
 else
 bif decide (x3.2.2.1≥0) then
 some true
 else
 (ψ1q.f x3).bind fun t12=>
 bif !t12 then
 some true
 else
 some (x6==t8_2)
 else
 bif decide (x3.2.2.1≥0) then
 some true
 else
 (ψ1q.f x3).bind fun t13=>
 bif !t13 then
 some true
 else
 some (x6==t8_2)) (fun x2=>
 some x2))
end
end Go.Rf.G
