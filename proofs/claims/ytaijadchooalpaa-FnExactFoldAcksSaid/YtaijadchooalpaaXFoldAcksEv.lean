import Derived.Test.YtaijadchooalpaaRf5
import Derived.Test.YtaijadchooalpaaXFoldAcksFns
import Derived.Test.YtaijadchooalpaaProg
open Option renaming bind_some→bS
open List renaming length_append→lA,append_assoc→aA,mem_cons_of_mem→mC,mem_append→mA,mem_append_right→mR,mem_append_left→mL,mem_cons→mc,drop_eq_getElem_cons→dG,length_take→lT,length_drop→lD,mem_map→mM,length_map→lM,length_cons→lC,length_nil→lN,getElem_mem→gM,map_append→mp,mem_singleton→mZ,nodup_append→κ1,mem_cons_self→κ2,append_nil→κ3,flatMap_append→κ6,nodup_cons→κ9,range'→κB,take_append_drop→κC,take_succ_eq_append_getElem→κE,map_cons→κF,cons_append→κG
open Bool renaming and_eq_true→bA,eq_false_or_eq_true→bE,not_true→nZ,not_false→nF,true_and→tA,not_not→nn,or_eq_false_iff→κ4
open Int renaming toNat_natCast→tN,ofNat_lt→oL
open Nat renaming eq_of_beq_eq_true→κ0,lt_or_ge→κ5,le_of_ble_eq_true→κ7,lt_of_lt_of_le→κ8,le_refl→κA
open Array renaming length_toList→κD
set_option linter.unusedVariables false
set_option linter.unusedSimpArgs false
namespace Go.Proofs.Ytaijadchooalpaa
noncomputable section
open Go Go.Rf Go.Rf.G Go.Proofs
set_option maxRecDepth 100000
abbrev tyR:Ty:=.pair (.int .i64) (.pair (.int .i64) (.pair .str (.pair .str (.pair (.int .i64) (.int .i64)))))
abbrev tyE:Ty:=.pair .str (.pair (.int .i64) (.pair (.int .i64) (.pair (.int .i64) (.int .i64))))
abbrev tyF:Ty:=.pair .str (.pair .str (.int .i64))
abbrev tyP:Ty:=.pair .str (.pair .bool .str)
abbrev tyD:Ty:=.pair (.sl true tyF) (.pair (.int .i64) (.pair (.int .i64) .bool))
abbrev tyS:Ty:=.pair (.pair (.int .i64) (.sl true (.int .i64))) (.pair (.sl true tyE) (.pair (.int .i64) (.pair (.int .i64) (.int .i64))))
abbrev tyd:Ty:=.pair (.sl false tyF) (.pair (.int .i64) (.pair (.int .i64) .bool))
abbrev tys:Ty:=.pair (.pair (.int .i64) (.sl false (.int .i64))) (.pair (.sl false tyE) (.pair (.int .i64) (.pair (.int .i64) (.int .i64))))
abbrev tyI:Ty:=.int .i64
def φ34 (f:Func):Code:=f.body.getD .skip
def tab:Tab:=[(3,⟨tyI,false,[],none,8,false⟩),
 (4,⟨.bool,false,[],none,1,false⟩),
 (5,⟨(.int .u8),false,[],none,1,false⟩),
 (9,⟨.str,false,[],none,16,false⟩),
 (22,⟨(.sl true tyF),false,[],some 68,24,false⟩),
 (30,⟨(.sl true tyF),false,[],some 59,24,false⟩),
 (31,⟨(.sl true (.pair tyI (.sl true tyP))),false,[],some 63,24,false⟩),
 (36,⟨(.sl true (.pair tyI (.sl true tyP))),false,[],some 67,24,false⟩),
 (59,⟨tyF,true,[(0,1,false),(1,1,false),(2,1,false)],none,40,true⟩),
 (61,⟨(.sl true tyP),false,[],some 119,24,false⟩),
 (63,⟨(.pair tyI (.sl true tyP)),true,[(0,1,false),(1,1,false)],none,32,false⟩),
 (65,⟨(.sl true tyP),false,[],some 98,24,false⟩),
 (67,⟨(.pair tyI (.sl true tyP)),true,[(0,1,false),(1,1,false)],none,32,false⟩),
 (68,⟨tyF,true,[(0,1,false),(1,1,false),(2,1,false)],none,40,true⟩),
 (98,⟨tyP,true,[(0,1,false),(1,1,false),(2,1,false)],none,40,true⟩),
 (102,⟨(.sl true (.int .u8)),false,[],some 5,24,false⟩),
 (119,⟨tyP,true,[(0,1,false),(1,1,false),(2,1,false)],none,40,true⟩)]
theorem tabOk:φE Try.prog tab:=Rf.tabOk (by kernel_rfl)
theorem φ6Y:Try.prog.follows .mixedOrders=true:=by kernel_rfl
instance laid:Laid:=φ7Y
theorem eC {g:Nat} {c:Ctr} {E:Env} (h:φ6 Try.prog g c) (k:φ8 Try.prog E):φ8 Try.prog ((g,[c])::E):=φ8.cons (φ6g h φ2o) k
theorem fS {A:Ann} {E:Env} {g:Nat} {fn:Func} {ctr:Ctr} (hE:φ8 Try.prog E) (hf:Try.prog.funcs[g]?=some fn) (hn:(fn.name == "runtime.NumGoroutine")=false) (hb:fn.body=some (φ34 fn)) (hev:∀x,evF tab E A ctr.g fn.ntmps fn.results.toList (φ34 fn) x=ctr.fn x):φ6 Try.prog g ctr:=φ6z (A:=A) tabOk hE φ6Y (fn:=fn) (body:=φ34 fn) hf hn hb hev
def ψI.sig:Sig:=⟨[.val tyF,.val tyI],[.val tyI],false⟩
def ψI.ctr:Ctr:=⟨ψI.sig,fun x=>ψI.f x.1 x.2⟩
def ψI.env:Env:=[]
def ψI.ann:Ann:=⟨[],[],[]⟩
theorem ψI.ok:φ6 Try.prog 34 ψI.ctr:=fS (A:=ψI.ann) φ8.nil Try.func34 (by kernel_rfl) (by kernel_rfl) (fun x=>by kernel_rfl)
def ψJ.sig:Sig:=⟨[.val (.sl false tyF),.val tyI],[.val tyI],false⟩
def ψJ.ctr:Ctr:=⟨ψJ.sig,fun x=>ψJ.f x.1 x.2⟩
def ψJ.env:Env:=[(34,[ψI.ctr])]
def ψJ.ann:Ann:=⟨[(0,([(0,.val (.sl false tyF)),(1,.val tyI),(5,.val tyI)],[(.exit 0,[(1,.val tyI)]),(.ret,[(4,.val tyI)])]))],[],[]⟩
theorem ψJ.ok:φ6 Try.prog 11 ψJ.ctr:=fS (A:=ψJ.ann) (eC ψI.ok φ8.nil) Try.func11 (by kernel_rfl) (by kernel_rfl) (fun x=>by kernel_rfl)
def ψK.sig:Sig:=⟨[.val tyP,.val tyI],[.val tyI],false⟩
def ψK.ctr:Ctr:=⟨ψK.sig,fun x=>ψK.f x.1 x.2⟩
def ψK.env:Env:=[]
def ψK.ann:Ann:=⟨[],[],[]⟩
theorem ψK.ok:φ6 Try.prog 75 ψK.ctr:=fS (A:=ψK.ann) φ8.nil Try.func75 (by kernel_rfl) (by kernel_rfl) (fun x=>by kernel_rfl)
def ψL.sig:Sig:=⟨[.val (.sl false tyP),.val tyI],[.val tyI],false⟩
def ψL.ctr:Ctr:=⟨ψL.sig,fun x=>ψL.f x.1 x.2⟩
def ψL.env:Env:=[(75,[ψK.ctr])]
def ψL.ann:Ann:=⟨[(0,([(0,.val (.sl false tyP)),(1,.val tyI),(5,.val tyI)],[(.exit 0,[(1,.val tyI)]),(.ret,[(4,.val tyI)])]))],[],[]⟩
theorem ψL.ok:φ6 Try.prog 57 ψL.ctr:=fS (A:=ψL.ann) (eC ψK.ok φ8.nil) Try.func57 (by kernel_rfl) (by kernel_rfl) (fun x=>by kernel_rfl)
def ψG.sig:Sig:=⟨[.val (.pair tyI (.sl false tyP)),.val tyI],[.val tyI],false⟩
def ψG.ctr:Ctr:=⟨ψG.sig,fun x=>ψG.f x.1 x.2⟩
def ψG.env:Env:=[(57,[ψL.ctr])]
def ψG.ann:Ann:=⟨[],[],[]⟩
theorem ψG.ok:φ6 Try.prog 35 ψG.ctr:=fS (A:=ψG.ann) (eC ψL.ok φ8.nil) Try.func35 (by kernel_rfl) (by kernel_rfl) (fun x=>by kernel_rfl)
def ψH.sig:Sig:=⟨[.val (.sl false (.pair tyI (.sl false tyP))),.val tyI],[.val tyI],false⟩
def ψH.ctr:Ctr:=⟨ψH.sig,fun x=>ψH.f x.1 x.2⟩
def ψH.env:Env:=[(35,[ψG.ctr])]
def ψH.ann:Ann:=⟨[(0,([(0,.val (.sl false (.pair tyI (.sl false tyP)))),(1,.val tyI),(5,.val tyI)],[(.exit 0,[(1,.val tyI)]),(.ret,[(4,.val tyI)])]))],[],[]⟩
theorem ψH.ok:φ6 Try.prog 12 ψH.ctr:=fS (A:=ψH.ann) (eC ψG.ok φ8.nil) Try.func12 (by kernel_rfl) (by kernel_rfl) (fun x=>by kernel_rfl)
def ψU.sig:Sig:=⟨[.val (.sl false tyF),.val tyF,.val .bool],[.val (.sl true tyF)],false⟩
def ψU.ctr:Ctr:=⟨ψU.sig,fun x=>ψU.f x.1 x.2.1 x.2.2⟩
def ψU.env:Env:=[]
def ψU.ann:Ann:=⟨[(0,([(0,.val (.sl false tyF)),(4,.ptr tyF),(7,.val (.sl true tyF)),(8,.val .bool),(9,.val tyI)],[(.exit 0,[(4,.ptr tyF),(7,.val (.sl true tyF)),(8,.val .bool)])]))],[(1,[(.normal,[(0,.val (.sl false tyF)),(4,.ptr tyF),(7,.val (.sl true tyF)),(8,.val .bool),(9,.val tyI)])])],[(7,[(.normal,[(0,.val (.sl false tyF)),(4,.ptr tyF),(7,.val (.sl true tyF)),(8,.val .bool),(9,.val tyI)])])]⟩
theorem ψU.ok:φ6 Try.prog 58 ψU.ctr:=fS (A:=ψU.ann) φ8.nil Try.func58 (by kernel_rfl) (by kernel_rfl) (fun x=>by kernel_rfl)
def ψS.sig:Sig:=⟨[.val (.sl false tyF),.val (.sl false tyP),.val tyI],[.val (.sl true tyF)],false⟩
def ψS.ctr:Ctr:=⟨ψS.sig,fun x=>ψS.f x.1 x.2.1 x.2.2⟩
def ψS.env:Env:=[(58,[ψU.ctr])]
def ψS.ann:Ann:=⟨[(0,([(1,.val (.sl false tyP)),(2,.val tyI),(7,.val (.sl true tyF)),(8,.val tyI)],[(.exit 0,[(7,.val (.sl true tyF))])]))],[],[]⟩
theorem ψS.ok:φ6 Try.prog 36 ψS.ctr:=fS (A:=ψS.ann) (eC ψU.ok φ8.nil) Try.func36 (by kernel_rfl) (by kernel_rfl) (fun x=>by kernel_rfl)
def ψT.sig:Sig:=⟨[.val (.sl false tyF),.val (.sl false (.pair tyI (.sl false tyP)))],[.val (.sl true tyF)],false⟩
def ψT.ctr:Ctr:=⟨ψT.sig,fun x=>ψT.f x.1 x.2⟩
def ψT.env:Env:=[(36,[ψS.ctr])]
def ψT.ann:Ann:=⟨[(0,([(1,.val (.sl false (.pair tyI (.sl false tyP)))),(5,.val (.sl true tyF)),(6,.val tyI)],[(.exit 0,[(5,.val (.sl true tyF))])]))],[],[]⟩
theorem ψT.ok:φ6 Try.prog 13 ψT.ctr:=fS (A:=ψT.ann) (eC ψS.ok φ8.nil) Try.func13 (by kernel_rfl) (by kernel_rfl) (fun x=>by kernel_rfl)
def ψO.sig:Sig:=⟨[.val tyF],[.val tyF],false⟩
def ψO.ctr:Ctr:=⟨ψO.sig,fun x=>ψO.f x⟩
def ψO.env:Env:=[]
def ψO.ann:Ann:=⟨[],[],[]⟩
theorem ψO.ok:φ6 Try.prog 37 ψO.ctr:=fS (A:=ψO.ann) φ8.nil Try.func37 (by kernel_rfl) (by kernel_rfl) (fun x=>by kernel_rfl)
def ψP.sig:Sig:=⟨[.val (.sl false tyF)],[.val (.sl true tyF)],false⟩
def ψP.ctr:Ctr:=⟨ψP.sig,fun x=>ψP.f x⟩
def ψP.env:Env:=[(37,[ψO.ctr])]
def ψP.ann:Ann:=⟨[(0,([(0,.val (.sl false tyF)),(3,.val (.sl true tyF)),(4,.val tyI)],[(.exit 0,[(3,.val (.sl true tyF))])]))],[],[]⟩
theorem ψP.ok:φ6 Try.prog 14 ψP.ctr:=fS (A:=ψP.ann) (eC ψO.ok φ8.nil) Try.func14 (by kernel_rfl) (by kernel_rfl) (fun x=>by kernel_rfl)
def ψQ.sig:Sig:=⟨[.val tyP],[.val tyP],false⟩
def ψQ.ctr:Ctr:=⟨ψQ.sig,fun x=>ψQ.f x⟩
def ψQ.env:Env:=[]
def ψQ.ann:Ann:=⟨[],[],[]⟩
theorem ψQ.ok:φ6 Try.prog 76 ψQ.ctr:=fS (A:=ψQ.ann) φ8.nil Try.func76 (by kernel_rfl) (by kernel_rfl) (fun x=>by kernel_rfl)
def ψR.sig:Sig:=⟨[.val (.sl false tyP)],[.val (.sl true tyP)],false⟩
def ψR.ctr:Ctr:=⟨ψR.sig,fun x=>ψR.f x⟩
def ψR.env:Env:=[(76,[ψQ.ctr])]
def ψR.ann:Ann:=⟨[(0,([(0,.val (.sl false tyP)),(3,.val (.sl true tyP)),(4,.val tyI)],[(.exit 0,[(3,.val (.sl true tyP))])]))],[],[]⟩
theorem ψR.ok:φ6 Try.prog 59 ψR.ctr:=fS (A:=ψR.ann) (eC ψQ.ok φ8.nil) Try.func59 (by kernel_rfl) (by kernel_rfl) (fun x=>by kernel_rfl)
def ψM.sig:Sig:=⟨[.val (.pair tyI (.sl false tyP))],[.val (.pair tyI (.sl true tyP))],false⟩
def ψM.ctr:Ctr:=⟨ψM.sig,fun x=>ψM.f x⟩
def ψM.env:Env:=[(59,[ψR.ctr])]
def ψM.ann:Ann:=⟨[],[],[]⟩
theorem ψM.ok:φ6 Try.prog 38 ψM.ctr:=fS (A:=ψM.ann) (eC ψR.ok φ8.nil) Try.func38 (by kernel_rfl) (by kernel_rfl) (fun x=>by kernel_rfl)
def ψN.sig:Sig:=⟨[.val (.sl false (.pair tyI (.sl false tyP)))],[.val (.sl true (.pair tyI (.sl true tyP)))],false⟩
def ψN.ctr:Ctr:=⟨ψN.sig,fun x=>ψN.f x⟩
def ψN.env:Env:=[(38,[ψM.ctr])]
def ψN.ann:Ann:=⟨[(0,([(0,.val (.sl false (.pair tyI (.sl false tyP)))),(3,.val (.sl true (.pair tyI (.sl true tyP)))),(4,.val tyI)],[(.exit 0,[(3,.val (.sl true (.pair tyI (.sl true tyP))))])]))],[],[]⟩
theorem ψN.ok:φ6 Try.prog 15 ψN.ctr:=fS (A:=ψN.ann) (eC ψM.ok φ8.nil) Try.func15 (by kernel_rfl) (by kernel_rfl) (fun x=>by kernel_rfl)
def ψ2.sig:Sig:=⟨[.val (.sl false tyF)],[.val (.sl true tyF)],false⟩
def ψ2.ctr:Ctr:=⟨ψ2.sig,fun x=>ψ2.f x⟩
def ψ2.env:Env:=[]
def ψ2.ann:Ann:=⟨[],[],[]⟩
theorem ψ2.ok:φ6 Try.prog 39 ψ2.ctr:=fS (A:=ψ2.ann) φ8.nil Try.func39 (by kernel_rfl) (by kernel_rfl) (fun x=>by kernel_rfl)
def ψ3.sig:Sig:=⟨[.val (.sl false tyF),.val .str],[.val (.sl true tyF)],false⟩
def ψ3.ctr:Ctr:=⟨ψ3.sig,fun x=>ψ3.f x.1 x.2⟩
def ψ3.env:Env:=[]
def ψ3.ann:Ann:=⟨[(0,([(1,.val .str),(5,.val (.sl true tyF)),(8,.val (.sl false tyF)),(9,.val tyI),(10,.val tyI)],[(.exit 0,[(5,.val (.sl true tyF))])]))],[],[(5,[(.normal,[(1,.val .str),(5,.val (.sl true tyF)),(8,.val (.sl false tyF)),(9,.val tyI),(10,.val tyI)])])]⟩
theorem ψ3.ok:φ6 Try.prog 60 ψ3.ctr:=fS (A:=ψ3.ann) φ8.nil Try.func60 (by kernel_rfl) (by kernel_rfl) (fun x=>by kernel_rfl)
def ψ0.sig:Sig:=⟨[.val (.sl false tyF),.val (.sl false tyP),.val tyI],[.val (.sl true tyF)],false⟩
def ψ0.ctr:Ctr:=⟨ψ0.sig,fun x=>ψ0.f x.1 x.2.1 x.2.2⟩
def ψ0.env:Env:=[(39,[ψ2.ctr]),(60,[ψ3.ctr])]
def ψ0.ann:Ann:=⟨[(2,([(2,.val tyI),(7,.val (.sl true tyF)),(9,.ptr tyP),(10,.val tyI),(13,.val (.sl false tyP)),(14,.val tyI),(15,.val tyI)],[(.exit 2,[(2,.val tyI),(7,.val (.sl true tyF)),(9,.ptr tyP),(10,.val tyI),(13,.val (.sl false tyP)),(14,.val tyI),(15,.val tyI)])])),(0,([(2,.val tyI),(7,.val (.sl true tyF)),(13,.val (.sl false tyP)),(14,.val tyI),(15,.val tyI)],[(.exit 0,[(7,.val (.sl true tyF))])]))],[(1,[(.normal,[(2,.val tyI),(7,.val (.sl true tyF)),(13,.val (.sl false tyP)),(14,.val tyI),(15,.val tyI)])])],[]⟩
theorem ψ0.ok:φ6 Try.prog 40 ψ0.ctr:=fS (A:=ψ0.ann) (eC ψ2.ok (eC ψ3.ok φ8.nil)) Try.func40 (by kernel_rfl) (by kernel_rfl) (fun x=>by kernel_rfl)
def ψ1.sig:Sig:=⟨[.val (.sl false tyF),.val (.sl false (.pair tyI (.sl false tyP)))],[.val (.sl true tyF)],false⟩
def ψ1.ctr:Ctr:=⟨ψ1.sig,fun x=>ψ1.f x.1 x.2⟩
def ψ1.env:Env:=[(39,[ψ2.ctr]),(40,[ψ0.ctr])]
def ψ1.ann:Ann:=⟨[(0,([(5,.val (.sl true tyF)),(10,.val (.sl false (.pair tyI (.sl false tyP)))),(11,.val tyI),(12,.val tyI)],[(.exit 0,[(5,.val (.sl true tyF))])]))],[],[]⟩
theorem ψ1.ok:φ6 Try.prog 16 ψ1.ctr:=fS (A:=ψ1.ann) (eC ψ2.ok (eC ψ0.ok φ8.nil)) Try.func16 (by kernel_rfl) (by kernel_rfl) (fun x=>by kernel_rfl)
def ψ7.sig:Sig:=⟨[.val tyF,.val tyF],[.val .bool],false⟩
def ψ7.ctr:Ctr:=⟨ψ7.sig,fun x=>ψ7.f x.1 x.2⟩
def ψ7.env:Env:=[]
def ψ7.ann:Ann:=⟨[],[],[]⟩
theorem ψ7.ok:φ6 Try.prog 41 ψ7.ctr:=fS (A:=ψ7.ann) φ8.nil Try.func41 (by kernel_rfl) (by kernel_rfl) (fun x=>by kernel_rfl)
def ψ8.sig:Sig:=⟨[.val (.sl false tyF),.val (.sl false tyF)],[.val .bool],false⟩
def ψ8.ctr:Ctr:=⟨ψ8.sig,fun x=>ψ8.f x.1 x.2⟩
def ψ8.env:Env:=[(41,[ψ7.ctr])]
def ψ8.ann:Ann:=⟨[(0,([(0,.val (.sl false tyF)),(1,.val (.sl false tyF)),(5,.val tyI)],[(.exit 0,[]),(.ret,[(4,.val .bool)])]))],[],[]⟩
theorem ψ8.ok:φ6 Try.prog 17 ψ8.ctr:=fS (A:=ψ8.ann) (eC ψ7.ok φ8.nil) Try.func17 (by kernel_rfl) (by kernel_rfl) (fun x=>by kernel_rfl)
def ψ9.sig:Sig:=⟨[.val tyP,.val tyP],[.val .bool],false⟩
def ψ9.ctr:Ctr:=⟨ψ9.sig,fun x=>ψ9.f x.1 x.2⟩
def ψ9.env:Env:=[]
def ψ9.ann:Ann:=⟨[],[],[]⟩
theorem ψ9.ok:φ6 Try.prog 77 ψ9.ctr:=fS (A:=ψ9.ann) φ8.nil Try.func77 (by kernel_rfl) (by kernel_rfl) (fun x=>by kernel_rfl)
def ψA.sig:Sig:=⟨[.val (.sl false tyP),.val (.sl false tyP)],[.val .bool],false⟩
def ψA.ctr:Ctr:=⟨ψA.sig,fun x=>ψA.f x.1 x.2⟩
def ψA.env:Env:=[(77,[ψ9.ctr])]
def ψA.ann:Ann:=⟨[(0,([(0,.val (.sl false tyP)),(1,.val (.sl false tyP)),(5,.val tyI)],[(.exit 0,[]),(.ret,[(4,.val .bool)])]))],[],[]⟩
theorem ψA.ok:φ6 Try.prog 61 ψA.ctr:=fS (A:=ψA.ann) (eC ψ9.ok φ8.nil) Try.func61 (by kernel_rfl) (by kernel_rfl) (fun x=>by kernel_rfl)
def ψ5.sig:Sig:=⟨[.val (.pair tyI (.sl false tyP)),.val (.pair tyI (.sl false tyP))],[.val .bool],false⟩
def ψ5.ctr:Ctr:=⟨ψ5.sig,fun x=>ψ5.f x.1 x.2⟩
def ψ5.env:Env:=[(61,[ψA.ctr])]
def ψ5.ann:Ann:=⟨[],[],[]⟩
theorem ψ5.ok:φ6 Try.prog 42 ψ5.ctr:=fS (A:=ψ5.ann) (eC ψA.ok φ8.nil) Try.func42 (by kernel_rfl) (by kernel_rfl) (fun x=>by kernel_rfl)
def ψ6.sig:Sig:=⟨[.val (.sl false (.pair tyI (.sl false tyP))),.val (.sl false (.pair tyI (.sl false tyP)))],[.val .bool],false⟩
def ψ6.ctr:Ctr:=⟨ψ6.sig,fun x=>ψ6.f x.1 x.2⟩
def ψ6.env:Env:=[(42,[ψ5.ctr])]
def ψ6.ann:Ann:=⟨[(0,([(0,.val (.sl false (.pair tyI (.sl false tyP)))),(1,.val (.sl false (.pair tyI (.sl false tyP)))),(5,.val tyI)],[(.exit 0,[]),(.ret,[(4,.val .bool)])]))],[],[]⟩
theorem ψ6.ok:φ6 Try.prog 18 ψ6.ctr:=fS (A:=ψ6.ann) (eC ψ5.ok φ8.nil) Try.func18 (by kernel_rfl) (by kernel_rfl) (fun x=>by kernel_rfl)
def ψF.sig:Sig:=⟨[.val tyI],[.val .str],false⟩
def ψF.ctr:Ctr:=⟨ψF.sig,fun x=>ψF.f x⟩
def ψF.env:Env:=[]
def ψF.ann:Ann:=⟨[(0,([(0,.val tyI),(3,.val .str)],[(.exit 0,[(3,.val .str)])]))],[],[]⟩
theorem ψF.ok:φ6 Try.prog 43 ψF.ctr:=fS (A:=ψF.ann) φ8.nil Try.func43 (by kernel_rfl) (by kernel_rfl) (fun x=>by kernel_rfl)
def ψD.sig:Sig:=⟨[.io (.sl true tyF),.val tyI],[.val tyI],false⟩
def ψD.ctr:Ctr:=⟨ψD.sig,fun x=>ψD.f x.1 x.2⟩
def ψD.env:Env:=[(43,[ψF.ctr])]
def ψD.ann:Ann:=⟨[(0,([(0,.val (.sl true tyF)),(1,.val tyI),(5,.val tyI)],[(.exit 0,[(0,.val (.sl true tyF)),(1,.val tyI)])]))],[],[]⟩
theorem ψD.ok:φ6 Try.prog 19 ψD.ctr:=fS (A:=ψD.ann) (eC ψF.ok φ8.nil) Try.func19 (by kernel_rfl) (by kernel_rfl) (fun x=>by kernel_rfl)
def ψE.sig:Sig:=⟨[.io (.sl true tyP),.val tyI],[.val tyI],false⟩
def ψE.ctr:Ctr:=⟨ψE.sig,fun x=>ψE.f x.1 x.2⟩
def ψE.env:Env:=[(43,[ψF.ctr])]
def ψE.ann:Ann:=⟨[(0,([(0,.val (.sl true tyP)),(1,.val tyI),(5,.val tyI)],[(.exit 0,[(0,.val (.sl true tyP)),(1,.val tyI)])]))],[],[]⟩
theorem ψE.ok:φ6 Try.prog 44 ψE.ctr:=fS (A:=ψE.ann) (eC ψF.ok φ8.nil) Try.func44 (by kernel_rfl) (by kernel_rfl) (fun x=>by kernel_rfl)
def ψC.sig:Sig:=⟨[.io (.sl true (.pair tyI (.sl true tyP))),.val tyI],[.val tyI],true⟩
def ψC.ctr:Ctr:=⟨ψC.sig,fun x=>ψC.f x.1 x.2⟩
def ψC.env:Env:=[(44,[ψE.ctr]),(1000000007,[]),(1000000008,[])]
def ψC.ann:Ann:=⟨[(0,([(0,.val (.sl true (.pair tyI (.sl true tyP)))),(1,.val tyI),(5,.val tyI)],[(.exit 0,[(0,.val (.sl true (.pair tyI (.sl true tyP)))),(1,.val tyI)])]))],[],[]⟩
theorem ψC.ok:φ6 Try.prog 20 ψC.ctr:=fS (A:=ψC.ann) (eC ψE.ok (φ8.cons (g:=1000000007) φ2o (φ8.cons (g:=1000000008) φ2o φ8.nil))) Try.func20 (by kernel_rfl) (by kernel_rfl) (fun x=>by kernel_rfl)
def ψB.sig:Sig:=⟨[.val (.sl false tyF),.val tyI],[.val tyI],false⟩
def ψB.ctr:Ctr:=⟨ψB.sig,fun x=>ψB.f x.1 x.2⟩
def ψB.env:Env:=[(43,[ψF.ctr])]
def ψB.ann:Ann:=⟨[(0,([(0,.val (.sl false tyF)),(1,.val tyI),(5,.val tyI)],[(.exit 0,[(1,.val tyI)]),(.ret,[(4,.val tyI)])]))],[],[]⟩
theorem ψB.ok:φ6 Try.prog 21 ψB.ctr:=fS (A:=ψB.ann) (eC ψF.ok φ8.nil) Try.func21 (by kernel_rfl) (by kernel_rfl) (fun x=>by kernel_rfl)
def ψ4.sig:Sig:=⟨[.val (.sl false tyF),.val (.sl false (.pair tyI (.sl false tyP)))],[.val .bool],false⟩
def ψ4.ctr:Ctr:=⟨ψ4.sig,fun x=>ψ4.f x.1 x.2⟩
def ψ4.env:Env:=[(11,[ψJ.ctr]),(12,[ψH.ctr]),(13,[ψT.ctr]),(14,[ψP.ctr]),(15,[ψN.ctr]),(16,[ψ1.ctr]),(17,[ψ8.ctr]),(18,[ψ6.ctr]),(19,[ψD.ctr]),(20,[ψC.ctr]),(21,[ψB.ctr]),(1000000008,[])]
def ψ4.ann:Ann:=⟨[],[],[]⟩
theorem ψ4.ok:φ6 Try.prog 4 ψ4.ctr:=fS (A:=ψ4.ann) (eC ψJ.ok (eC ψH.ok (eC ψT.ok (eC ψP.ok (eC ψN.ok (eC ψ1.ok (eC ψ8.ok (eC ψ6.ok (eC ψD.ok (eC ψC.ok (eC ψB.ok (φ8.cons (g:=1000000008) φ2o φ8.nil)))))))))))) Try.func4 (by kernel_rfl) (by kernel_rfl) (fun x=>by kernel_rfl)
end
end Go.Proofs.Ytaijadchooalpaa
