import Derived.Test.YtaijadchooalpaaRf5
import Derived.Test.YtaijadchooalpaaXModelNewFns
import Derived.Test.YtaijadchooalpaaProg
open Option renaming bind_some→bS
open List renaming length_append→lA,append_assoc→aA,mem_cons_of_mem→mC,mem_append→mA,mem_append_right→mR,mem_append_left→mL,mem_cons→mc,drop_eq_getElem_cons→dG,length_take→lT,length_drop→lD,mem_map→mM,length_map→lM,length_cons→lC,length_nil→lN,getElem_mem→gM,map_append→mp,mem_singleton→mZ,nodup_append→κ1,mem_cons_self→κ2,append_nil→κ3,flatMap_append→κ5,nodup_cons→κ9,range'→κA,take_append_drop→κB,map_cons→κD,cons_append→κF
open Bool renaming and_eq_true→bA,eq_false_or_eq_true→bE,not_true→nZ,not_false→nF,true_and→tA,not_not→nn,or_eq_false_iff→κ4
open Int renaming toNat_natCast→tN,ofNat_lt→oL
open Nat renaming eq_of_beq_eq_true→κ0,le_of_ble_eq_true→κ6,lt_of_lt_of_le→κ7,lt_or_ge→κ8,le_refl→κE
open Array renaming length_toList→κC
set_option linter.unusedVariables false
set_option linter.unusedSimpArgs false
namespace Go.Proofs.Ytaijadchooalpaa
noncomputable section
open Go Go.Rf Go.Rf.G Go.Proofs
set_option maxRecDepth 100000
abbrev tyR:Ty:=.pair (.int .i64) (.pair (.int .i64) (.pair .str (.pair .str (.pair (.int .i64) (.int .i64)))))
abbrev tyE:Ty:=.pair .str (.pair (.int .i64) (.pair (.int .i64) (.pair (.int .i64) (.int .i64))))
abbrev tyF:Ty:=.pair .str (.pair .str (.int .i64))
abbrev tyP:Ty:=.pair .str (.pair .bool .str)
abbrev tyD:Ty:=.pair (.sl true tyF) (.pair (.int .i64) (.pair (.int .i64) .bool))
abbrev tyS:Ty:=.pair (.pair (.int .i64) (.sl true (.int .i64))) (.pair (.sl true tyE) (.pair (.int .i64) (.pair (.int .i64) (.int .i64))))
abbrev tyd:Ty:=.pair (.sl false tyF) (.pair (.int .i64) (.pair (.int .i64) .bool))
abbrev tys:Ty:=.pair (.pair (.int .i64) (.sl false (.int .i64))) (.pair (.sl false tyE) (.pair (.int .i64) (.pair (.int .i64) (.int .i64))))
abbrev tyI:Ty:=.int .i64
def φ2o (f:Func):Code:=f.body.getD .skip
def tab:Tab:=[(3,⟨tyI,false,[],none,8,false⟩),
 (4,⟨.bool,false,[],none,1,false⟩),
 (5,⟨(.int .u8),false,[],none,1,false⟩),
 (9,⟨.str,false,[],none,16,false⟩),
 (22,⟨(.sl true tyF),false,[],some 68,24,false⟩),
 (23,⟨(.sl true (.pair .bool (.pair (.sl true (.pair .str tyI)) (.sl true tyP)))),false,[],some 93,24,false⟩),
 (25,⟨(.pair .bool (.pair (.sl true tyF) (.pair tyI (.sl true (.pair .bool (.pair (.sl true (.pair .str tyI)) (.sl true tyP))))))),true,[(0,1,false),(1,1,false),(2,1,false),(3,1,false)],none,64,false⟩),
 (65,⟨(.sl true tyP),false,[],some 98,24,false⟩),
 (68,⟨tyF,true,[(0,1,false),(1,1,false),(2,1,false)],none,40,true⟩),
 (91,⟨(.sl true (.pair .str tyI)),false,[],some 117,24,false⟩),
 (93,⟨(.pair .bool (.pair (.sl true (.pair .str tyI)) (.sl true tyP))),true,[(0,1,false),(1,1,false),(2,1,false)],none,56,false⟩),
 (98,⟨tyP,true,[(0,1,false),(1,1,false),(2,1,false)],none,40,true⟩),
 (102,⟨(.sl true (.int .u8)),false,[],some 5,24,false⟩),
 (117,⟨(.pair .str tyI),true,[(0,1,false),(1,1,false)],none,24,true⟩)]
theorem tabOk:φD Try.prog tab:=Rf.tabOk (by kernel_rfl)
theorem φ65:Try.prog.follows .mixedOrders=true:=by kernel_rfl
instance laid:Laid:=φ6h
theorem eC {g:Nat} {c:Ctr} {E:Env} (h:φB Try.prog g c) (k:φ9 Try.prog E):φ9 Try.prog ((g,[c])::E):=φ9.cons (φ7B h φ2W) k
theorem fS {A:Ann} {E:Env} {g:Nat} {fn:Func} {ctr:Ctr} (hE:φ9 Try.prog E) (hf:Try.prog.funcs[g]?=some fn) (hn:(fn.name == "runtime.NumGoroutine")=false) (hb:fn.body=some (φ2o fn)) (hev:∀x,evF tab E A ctr.g fn.ntmps fn.results.toList (φ2o fn) x=ctr.fn x):φB Try.prog g ctr:=φ6U (A:=A) tabOk hE φ65 (fn:=fn) (body:=φ2o fn) hf hn hb hev
def ψM.sig:Sig:=⟨[],[.val (.pair .bool (.pair (.sl true tyF) (.pair tyI (.sl true (.pair .bool (.pair (.sl true (.pair .str tyI)) (.sl true tyP)))))))],false⟩
def ψM.ctr:Ctr:=⟨ψM.sig,fun _=>ψM.f⟩
def ψM.env:Env:=[]
def ψM.ann:Ann:=⟨[],[],[]⟩
theorem ψM.ok:φB Try.prog 6 ψM.ctr:=fS (A:=ψM.ann) φ9.nil Try.func6 (by kernel_rfl) (by kernel_rfl) (fun x=>by kernel_rfl)
def ψ0.sig:Sig:=⟨[],[.val (.pair .bool (.pair (.sl true tyF) (.pair tyI (.sl true (.pair .bool (.pair (.sl true (.pair .str tyI)) (.sl true tyP)))))))],false⟩
def ψ0.ctr:Ctr:=⟨ψ0.sig,fun _=>ψ0.f⟩
def ψ0.env:Env:=[]
def ψ0.ann:Ann:=⟨[],[],[]⟩
theorem ψ0.ok:φB Try.prog 7 ψ0.ctr:=fS (A:=ψ0.ann) φ9.nil Try.func7 (by kernel_rfl) (by kernel_rfl) (fun x=>by kernel_rfl)
def ψ3.sig:Sig:=⟨[.val tyF,.val tyF],[.val .bool],false⟩
def ψ3.ctr:Ctr:=⟨ψ3.sig,fun x=>ψ3.f x.1 x.2⟩
def ψ3.env:Env:=[]
def ψ3.ann:Ann:=⟨[],[],[]⟩
theorem ψ3.ok:φB Try.prog 41 ψ3.ctr:=fS (A:=ψ3.ann) φ9.nil Try.func41 (by kernel_rfl) (by kernel_rfl) (fun x=>by kernel_rfl)
def ψ4.sig:Sig:=⟨[.val (.sl false tyF),.val (.sl false tyF)],[.val .bool],false⟩
def ψ4.ctr:Ctr:=⟨ψ4.sig,fun x=>ψ4.f x.1 x.2⟩
def ψ4.env:Env:=[(41,[ψ3.ctr])]
def ψ4.ann:Ann:=⟨[(0,([(0,.val (.sl false tyF)),(1,.val (.sl false tyF)),(5,.val tyI)],[(.exit 0,[]),(.ret,[(4,.val .bool)])]))],[],[]⟩
theorem ψ4.ok:φB Try.prog 17 ψ4.ctr:=fS (A:=ψ4.ann) (eC ψ3.ok φ9.nil) Try.func17 (by kernel_rfl) (by kernel_rfl) (fun x=>by kernel_rfl)
def ψ5.sig:Sig:=⟨[.val tyP,.val tyP],[.val .bool],false⟩
def ψ5.ctr:Ctr:=⟨ψ5.sig,fun x=>ψ5.f x.1 x.2⟩
def ψ5.env:Env:=[]
def ψ5.ann:Ann:=⟨[],[],[]⟩
theorem ψ5.ok:φB Try.prog 77 ψ5.ctr:=fS (A:=ψ5.ann) φ9.nil Try.func77 (by kernel_rfl) (by kernel_rfl) (fun x=>by kernel_rfl)
def ψ6.sig:Sig:=⟨[.val (.sl false tyP),.val (.sl false tyP)],[.val .bool],false⟩
def ψ6.ctr:Ctr:=⟨ψ6.sig,fun x=>ψ6.f x.1 x.2⟩
def ψ6.env:Env:=[(77,[ψ5.ctr])]
def ψ6.ann:Ann:=⟨[(0,([(0,.val (.sl false tyP)),(1,.val (.sl false tyP)),(5,.val tyI)],[(.exit 0,[]),(.ret,[(4,.val .bool)])]))],[],[]⟩
theorem ψ6.ok:φB Try.prog 61 ψ6.ctr:=fS (A:=ψ6.ann) (eC ψ5.ok φ9.nil) Try.func61 (by kernel_rfl) (by kernel_rfl) (fun x=>by kernel_rfl)
def ψ7.sig:Sig:=⟨[.val (.pair .str tyI),.val (.pair .str tyI)],[.val .bool],false⟩
def ψ7.ctr:Ctr:=⟨ψ7.sig,fun x=>ψ7.f x.1 x.2⟩
def ψ7.env:Env:=[]
def ψ7.ann:Ann:=⟨[],[],[]⟩
theorem ψ7.ok:φB Try.prog 88 ψ7.ctr:=fS (A:=ψ7.ann) φ9.nil Try.func88 (by kernel_rfl) (by kernel_rfl) (fun x=>by kernel_rfl)
def ψ8.sig:Sig:=⟨[.val (.sl false (.pair .str tyI)),.val (.sl false (.pair .str tyI))],[.val .bool],false⟩
def ψ8.ctr:Ctr:=⟨ψ8.sig,fun x=>ψ8.f x.1 x.2⟩
def ψ8.env:Env:=[(88,[ψ7.ctr])]
def ψ8.ann:Ann:=⟨[(0,([(0,.val (.sl false (.pair .str tyI))),(1,.val (.sl false (.pair .str tyI))),(5,.val tyI)],[(.exit 0,[]),(.ret,[(4,.val .bool)])]))],[],[]⟩
theorem ψ8.ok:φB Try.prog 74 ψ8.ctr:=fS (A:=ψ8.ann) (eC ψ7.ok φ9.nil) Try.func74 (by kernel_rfl) (by kernel_rfl) (fun x=>by kernel_rfl)
def ψ9.sig:Sig:=⟨[.val (.pair .bool (.pair (.sl false (.pair .str tyI)) (.sl false tyP))),.val (.pair .bool (.pair (.sl false (.pair .str tyI)) (.sl false tyP)))],[.val .bool],false⟩
def ψ9.ctr:Ctr:=⟨ψ9.sig,fun x=>ψ9.f x.1 x.2⟩
def ψ9.env:Env:=[(61,[ψ6.ctr]),(74,[ψ8.ctr])]
def ψ9.ann:Ann:=⟨[],[],[]⟩
theorem ψ9.ok:φB Try.prog 53 ψ9.ctr:=fS (A:=ψ9.ann) (eC ψ6.ok (eC ψ8.ok φ9.nil)) Try.func53 (by kernel_rfl) (by kernel_rfl) (fun x=>by kernel_rfl)
def ψA.sig:Sig:=⟨[.val (.sl false (.pair .bool (.pair (.sl false (.pair .str tyI)) (.sl false tyP)))),.val (.sl false (.pair .bool (.pair (.sl false (.pair .str tyI)) (.sl false tyP))))],[.val .bool],false⟩
def ψA.ctr:Ctr:=⟨ψA.sig,fun x=>ψA.f x.1 x.2⟩
def ψA.env:Env:=[(53,[ψ9.ctr])]
def ψA.ann:Ann:=⟨[(0,([(0,.val (.sl false (.pair .bool (.pair (.sl false (.pair .str tyI)) (.sl false tyP))))),(1,.val (.sl false (.pair .bool (.pair (.sl false (.pair .str tyI)) (.sl false tyP))))),(5,.val tyI)],[(.exit 0,[]),(.ret,[(4,.val .bool)])]))],[],[]⟩
theorem ψA.ok:φB Try.prog 31 ψA.ctr:=fS (A:=ψA.ann) (eC ψ9.ok φ9.nil) Try.func31 (by kernel_rfl) (by kernel_rfl) (fun x=>by kernel_rfl)
def ψ2.sig:Sig:=⟨[.val (.pair .bool (.pair (.sl false tyF) (.pair tyI (.sl false (.pair .bool (.pair (.sl false (.pair .str tyI)) (.sl false tyP))))))),.val (.pair .bool (.pair (.sl false tyF) (.pair tyI (.sl false (.pair .bool (.pair (.sl false (.pair .str tyI)) (.sl false tyP)))))))],[.val .bool],false⟩
def ψ2.ctr:Ctr:=⟨ψ2.sig,fun x=>ψ2.f x.1 x.2⟩
def ψ2.env:Env:=[(17,[ψ4.ctr]),(31,[ψA.ctr])]
def ψ2.ann:Ann:=⟨[],[],[]⟩
theorem ψ2.ok:φB Try.prog 8 ψ2.ctr:=fS (A:=ψ2.ann) (eC ψ4.ok (eC ψA.ok φ9.nil)) Try.func8 (by kernel_rfl) (by kernel_rfl) (fun x=>by kernel_rfl)
def ψK.sig:Sig:=⟨[.val tyI],[.val .str],false⟩
def ψK.ctr:Ctr:=⟨ψK.sig,fun x=>ψK.f x⟩
def ψK.env:Env:=[]
def ψK.ann:Ann:=⟨[(0,([(0,.val tyI),(3,.val .str)],[(.exit 0,[(3,.val .str)])]))],[],[]⟩
theorem ψK.ok:φB Try.prog 43 ψK.ctr:=fS (A:=ψK.ann) φ9.nil Try.func43 (by kernel_rfl) (by kernel_rfl) (fun x=>by kernel_rfl)
def ψH.sig:Sig:=⟨[.io (.sl true tyF),.val tyI],[.val tyI],false⟩
def ψH.ctr:Ctr:=⟨ψH.sig,fun x=>ψH.f x.1 x.2⟩
def ψH.env:Env:=[(43,[ψK.ctr])]
def ψH.ann:Ann:=⟨[(0,([(0,.val (.sl true tyF)),(1,.val tyI),(5,.val tyI)],[(.exit 0,[(0,.val (.sl true tyF)),(1,.val tyI)])]))],[],[]⟩
theorem ψH.ok:φB Try.prog 19 ψH.ctr:=fS (A:=ψH.ann) (eC ψK.ok φ9.nil) Try.func19 (by kernel_rfl) (by kernel_rfl) (fun x=>by kernel_rfl)
def ψI.sig:Sig:=⟨[.io (.sl true tyP),.val tyI],[.val tyI],false⟩
def ψI.ctr:Ctr:=⟨ψI.sig,fun x=>ψI.f x.1 x.2⟩
def ψI.env:Env:=[(43,[ψK.ctr])]
def ψI.ann:Ann:=⟨[(0,([(0,.val (.sl true tyP)),(1,.val tyI),(5,.val tyI)],[(.exit 0,[(0,.val (.sl true tyP)),(1,.val tyI)])]))],[],[]⟩
theorem ψI.ok:φB Try.prog 44 ψI.ctr:=fS (A:=ψI.ann) (eC ψK.ok φ9.nil) Try.func44 (by kernel_rfl) (by kernel_rfl) (fun x=>by kernel_rfl)
def ψJ.sig:Sig:=⟨[.io (.sl true (.pair .str tyI)),.val tyI],[.val tyI],false⟩
def ψJ.ctr:Ctr:=⟨ψJ.sig,fun x=>ψJ.f x.1 x.2⟩
def ψJ.env:Env:=[(43,[ψK.ctr])]
def ψJ.ann:Ann:=⟨[(0,([(0,.val (.sl true (.pair .str tyI))),(1,.val tyI),(5,.val tyI)],[(.exit 0,[(0,.val (.sl true (.pair .str tyI))),(1,.val tyI)])]))],[],[]⟩
theorem ψJ.ok:φB Try.prog 54 ψJ.ctr:=fS (A:=ψJ.ann) (eC ψK.ok φ9.nil) Try.func54 (by kernel_rfl) (by kernel_rfl) (fun x=>by kernel_rfl)
def ψL.sig:Sig:=⟨[.io (.sl true (.pair .bool (.pair (.sl true (.pair .str tyI)) (.sl true tyP)))),.val tyI],[.val tyI],true⟩
def ψL.ctr:Ctr:=⟨ψL.sig,fun x=>ψL.f x.1 x.2⟩
def ψL.env:Env:=[(44,[ψI.ctr]),(54,[ψJ.ctr]),(1000000007,[]),(1000000008,[])]
def ψL.ann:Ann:=⟨[(0,([(0,.val (.sl true (.pair .bool (.pair (.sl true (.pair .str tyI)) (.sl true tyP))))),(1,.val tyI),(5,.val tyI)],[(.exit 0,[(0,.val (.sl true (.pair .bool (.pair (.sl true (.pair .str tyI)) (.sl true tyP))))),(1,.val tyI)])]))],[],[]⟩
theorem ψL.ok:φB Try.prog 32 ψL.ctr:=fS (A:=ψL.ann) (eC ψI.ok (eC ψJ.ok (φ9.cons (g:=1000000007) φ2W (φ9.cons (g:=1000000008) φ2W φ9.nil)))) Try.func32 (by kernel_rfl) (by kernel_rfl) (fun x=>by kernel_rfl)
def ψG.sig:Sig:=⟨[.io (.pair .bool (.pair (.sl true tyF) (.pair tyI (.sl true (.pair .bool (.pair (.sl true (.pair .str tyI)) (.sl true tyP))))))),.val tyI],[.val tyI],true⟩
def ψG.ctr:Ctr:=⟨ψG.sig,fun x=>ψG.f x.1 x.2⟩
def ψG.env:Env:=[(19,[ψH.ctr]),(32,[ψL.ctr]),(1000000008,[])]
def ψG.ann:Ann:=⟨[],[],[]⟩
theorem ψG.ok:φB Try.prog 9 ψG.ctr:=fS (A:=ψG.ann) (eC ψH.ok (eC ψL.ok (φ9.cons (g:=1000000008) φ2W φ9.nil))) Try.func9 (by kernel_rfl) (by kernel_rfl) (fun x=>by kernel_rfl)
def ψC.sig:Sig:=⟨[.val (.sl false tyF),.val tyI],[.val tyI],false⟩
def ψC.ctr:Ctr:=⟨ψC.sig,fun x=>ψC.f x.1 x.2⟩
def ψC.env:Env:=[(43,[ψK.ctr])]
def ψC.ann:Ann:=⟨[(0,([(0,.val (.sl false tyF)),(1,.val tyI),(5,.val tyI)],[(.exit 0,[(1,.val tyI)]),(.ret,[(4,.val tyI)])]))],[],[]⟩
theorem ψC.ok:φB Try.prog 21 ψC.ctr:=fS (A:=ψC.ann) (eC ψK.ok φ9.nil) Try.func21 (by kernel_rfl) (by kernel_rfl) (fun x=>by kernel_rfl)
def ψE.sig:Sig:=⟨[.val (.sl false (.pair .str tyI)),.val tyI],[.val tyI],false⟩
def ψE.ctr:Ctr:=⟨ψE.sig,fun x=>ψE.f x.1 x.2⟩
def ψE.env:Env:=[(43,[ψK.ctr])]
def ψE.ann:Ann:=⟨[(0,([(0,.val (.sl false (.pair .str tyI))),(1,.val tyI),(5,.val tyI)],[(.exit 0,[(1,.val tyI)]),(.ret,[(4,.val tyI)])]))],[],[]⟩
theorem ψE.ok:φB Try.prog 55 ψE.ctr:=fS (A:=ψE.ann) (eC ψK.ok φ9.nil) Try.func55 (by kernel_rfl) (by kernel_rfl) (fun x=>by kernel_rfl)
def ψD.sig:Sig:=⟨[.val (.sl false tyP),.val tyI],[.val tyI],false⟩
def ψD.ctr:Ctr:=⟨ψD.sig,fun x=>ψD.f x.1 x.2⟩
def ψD.env:Env:=[(43,[ψK.ctr])]
def ψD.ann:Ann:=⟨[(0,([(0,.val (.sl false tyP)),(1,.val tyI),(5,.val tyI)],[(.exit 0,[(1,.val tyI)]),(.ret,[(4,.val tyI)])]))],[],[]⟩
theorem ψD.ok:φB Try.prog 56 ψD.ctr:=fS (A:=ψD.ann) (eC ψK.ok φ9.nil) Try.func56 (by kernel_rfl) (by kernel_rfl) (fun x=>by kernel_rfl)
def ψF.sig:Sig:=⟨[.val (.sl false (.pair .bool (.pair (.sl false (.pair .str tyI)) (.sl false tyP)))),.val tyI],[.val tyI],false⟩
def ψF.ctr:Ctr:=⟨ψF.sig,fun x=>ψF.f x.1 x.2⟩
def ψF.env:Env:=[(55,[ψE.ctr]),(56,[ψD.ctr])]
def ψF.ann:Ann:=⟨[(0,([(0,.val (.sl false (.pair .bool (.pair (.sl false (.pair .str tyI)) (.sl false tyP))))),(1,.val tyI),(5,.val tyI)],[(.exit 0,[(1,.val tyI)]),(.ret,[(4,.val tyI)])]))],[],[]⟩
theorem ψF.ok:φB Try.prog 33 ψF.ctr:=fS (A:=ψF.ann) (eC ψE.ok (eC ψD.ok φ9.nil)) Try.func33 (by kernel_rfl) (by kernel_rfl) (fun x=>by kernel_rfl)
def ψB.sig:Sig:=⟨[.val (.pair .bool (.pair (.sl false tyF) (.pair tyI (.sl false (.pair .bool (.pair (.sl false (.pair .str tyI)) (.sl false tyP))))))),.val tyI],[.val tyI],false⟩
def ψB.ctr:Ctr:=⟨ψB.sig,fun x=>ψB.f x.1 x.2⟩
def ψB.env:Env:=[(21,[ψC.ctr]),(33,[ψF.ctr])]
def ψB.ann:Ann:=⟨[],[],[]⟩
theorem ψB.ok:φB Try.prog 10 ψB.ctr:=fS (A:=ψB.ann) (eC ψC.ok (eC ψF.ok φ9.nil)) Try.func10 (by kernel_rfl) (by kernel_rfl) (fun x=>by kernel_rfl)
def ψ1.sig:Sig:=⟨[],[.val .bool],false⟩
def ψ1.ctr:Ctr:=⟨ψ1.sig,fun _=>ψ1.f⟩
def ψ1.env:Env:=[(6,[ψM.ctr]),(7,[ψ0.ctr]),(8,[ψ2.ctr]),(9,[ψG.ctr]),(10,[ψB.ctr]),(1000000008,[])]
def ψ1.ann:Ann:=⟨[],[],[]⟩
theorem ψ1.ok:φB Try.prog 3 ψ1.ctr:=fS (A:=ψ1.ann) (eC ψM.ok (eC ψ0.ok (eC ψ2.ok (eC ψG.ok (eC ψB.ok (φ9.cons (g:=1000000008) φ2W φ9.nil)))))) Try.func3 (by kernel_rfl) (by kernel_rfl) (fun x=>by kernel_rfl)
end
end Go.Proofs.Ytaijadchooalpaa
