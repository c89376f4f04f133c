import Derived.Test.YtaijadchooalpaaRf5
import Derived.Test.YtaijadchooalpaaXModelPlayFns
import Derived.Test.YtaijadchooalpaaProg
open Option renaming bind_some→bS
open List renaming length_append→lA,append_assoc→aA,mem_cons_of_mem→mC,mem_append→mA,mem_append_right→mR,mem_append_left→mL,mem_cons→mc,drop_eq_getElem_cons→dG,length_take→lT,length_drop→lD,mem_map→mM,length_map→lM,length_cons→lC,length_nil→lN,getElem_mem→gM,map_append→mp,mem_singleton→mZ,take_succ_eq_append_getElem→κ0,nodup_append→κ2,mem_cons_self→κ3,append_nil→κ5,flatMap_append→κ8,replicate→κA,take_length→κB,nodup_cons→κC,range'→κE,cons_append→κG,map_cons→κH,take_append_drop→κJ
open Bool renaming and_eq_true→bA,eq_false_or_eq_true→bE,not_true→nZ,not_false→nF,true_and→tA,not_not→nn,or_eq_false_iff→κ6,not_eq_true'→κF,false_eq_true→κI
open Int renaming toNat_natCast→tN,ofNat_lt→oL
open Nat renaming eq_of_beq_eq_true→κ1,lt_or_ge→κ4,lt_of_lt_of_le→κ7,le_of_ble_eq_true→κ9,le_refl→κD,zero_le→κL
open Array renaming length_toList→κK
set_option linter.unusedVariables false
set_option linter.unusedSimpArgs false
namespace Go.Proofs.Ytaijadchooalpaa
noncomputable section
open Go Go.Rf Go.Rf.G Go.Proofs
set_option maxRecDepth 100000
abbrev tyR:Ty:=.pair (.int .i64) (.pair (.int .i64) (.pair .str (.pair .str (.pair (.int .i64) (.int .i64)))))
abbrev tyE:Ty:=.pair .str (.pair (.int .i64) (.pair (.int .i64) (.pair (.int .i64) (.int .i64))))
abbrev tyF:Ty:=.pair .str (.pair .str (.int .i64))
abbrev tyP:Ty:=.pair .str (.pair .bool .str)
abbrev tyD:Ty:=.pair (.sl true tyF) (.pair (.int .i64) (.pair (.int .i64) .bool))
abbrev tyS:Ty:=.pair (.pair (.int .i64) (.sl true (.int .i64))) (.pair (.sl true tyE) (.pair (.int .i64) (.pair (.int .i64) (.int .i64))))
abbrev tyd:Ty:=.pair (.sl false tyF) (.pair (.int .i64) (.pair (.int .i64) .bool))
abbrev tys:Ty:=.pair (.pair (.int .i64) (.sl false (.int .i64))) (.pair (.sl false tyE) (.pair (.int .i64) (.pair (.int .i64) (.int .i64))))
abbrev tyI:Ty:=.int .i64
def φ2H (f:Func):Code:=f.body.getD .skip
def tab:Tab:=[(3,⟨tyI,false,[],none,8,false⟩),
 (4,⟨.bool,false,[],none,1,false⟩),
 (5,⟨(.int .u8),false,[],none,1,false⟩),
 (9,⟨.str,false,[],none,16,false⟩),
 (22,⟨(.sl true tyF),false,[],some 68,24,false⟩),
 (23,⟨(.sl true (.pair .bool (.pair (.sl true (.pair .str tyI)) (.sl true tyP)))),false,[],some 93,24,false⟩),
 (25,⟨(.pair .bool (.pair (.sl true tyF) (.pair tyI (.sl true (.pair .bool (.pair (.sl true (.pair .str tyI)) (.sl true tyP))))))),true,[(0,1,false),(1,1,false),(2,1,false),(3,1,false)],none,64,false⟩),
 (43,⟨(.sl true (.pair tyI (.pair tyI tyF))),false,[],some 78,24,false⟩),
 (45,⟨(.sl true (.pair tyI (.pair .str (.sl true .str)))),false,[],some 81,24,false⟩),
 (48,⟨(.sl true (.pair tyI (.pair tyI tyF))),false,[],some 84,24,false⟩),
 (65,⟨(.sl true tyP),false,[],some 98,24,false⟩),
 (68,⟨tyF,true,[(0,1,false),(1,1,false),(2,1,false)],none,40,true⟩),
 (78,⟨(.pair tyI (.pair tyI tyF)),true,[(0,1,false),(1,1,false),(2,1,false),(3,1,false),(4,1,false)],none,56,true⟩),
 (79,⟨(.sl true .str),false,[],some 9,24,false⟩),
 (81,⟨(.pair tyI (.pair .str (.sl true .str))),true,[(0,1,false),(1,1,false),(2,1,false)],none,48,false⟩),
 (84,⟨(.pair tyI (.pair tyI tyF)),true,[(0,1,false),(1,1,false),(2,1,false),(3,1,false),(4,1,false)],none,56,true⟩),
 (91,⟨(.sl true (.pair .str tyI)),false,[],some 117,24,false⟩),
 (93,⟨(.pair .bool (.pair (.sl true (.pair .str tyI)) (.sl true tyP))),true,[(0,1,false),(1,1,false),(2,1,false)],none,56,false⟩),
 (98,⟨tyP,true,[(0,1,false),(1,1,false),(2,1,false)],none,40,true⟩),
 (102,⟨(.sl true (.int .u8)),false,[],some 5,24,false⟩),
 (105,⟨(.sl true tyE),false,[],some 123,24,false⟩),
 (117,⟨(.pair .str tyI),true,[(0,1,false),(1,1,false)],none,24,true⟩),
 (123,⟨tyE,true,[(0,1,false),(1,1,false),(2,1,false),(3,1,false),(4,1,false)],none,48,true⟩)]
def tabR:Tab:=[(3,⟨tyI,false,[],none,8,false⟩),
 (4,⟨.bool,false,[],none,1,false⟩),
 (9,⟨.str,false,[],none,16,false⟩),
 (22,⟨(.sl true tyF),false,[],some 68,24,false⟩),
 (23,⟨(.sl true (.pair .bool (.pair (.sl false (.pair .str tyI)) (.sl false tyP)))),false,[],some 93,24,false⟩),
 (25,⟨(.pair .bool (.pair (.sl true tyF) (.pair tyI (.sl true (.pair .bool (.pair (.sl false (.pair .str tyI)) (.sl false tyP))))))),true,[(0,1,false),(1,1,false),(2,1,false),(3,1,false)],none,64,false⟩),
 (45,⟨(.sl true (.pair tyI (.pair .str (.sl true .str)))),false,[],some 81,24,false⟩),
 (48,⟨(.sl true (.pair tyI (.pair tyI tyF))),false,[],some 84,24,false⟩),
 (65,⟨(.sl true tyP),false,[],some 98,24,false⟩),
 (68,⟨tyF,true,[(0,1,false),(1,1,false),(2,1,false)],none,40,true⟩),
 (79,⟨(.sl true .str),false,[],some 9,24,false⟩),
 (81,⟨(.pair tyI (.pair .str (.sl true .str))),true,[(0,1,false),(1,1,false),(2,1,false)],none,48,false⟩),
 (84,⟨(.pair tyI (.pair tyI tyF)),true,[(0,1,false),(1,1,false),(2,1,false),(3,1,false),(4,1,false)],none,56,true⟩),
 (91,⟨(.sl true (.pair .str tyI)),false,[],some 117,24,false⟩),
 (93,⟨(.pair .bool (.pair (.sl false (.pair .str tyI)) (.sl false tyP))),true,[(0,1,false),(1,1,false),(2,1,false)],none,56,false⟩),
 (98,⟨tyP,true,[(0,1,false),(1,1,false),(2,1,false)],none,40,true⟩),
 (105,⟨(.sl true tyE),false,[],some 123,24,false⟩),
 (117,⟨(.pair .str tyI),true,[(0,1,false),(1,1,false)],none,24,true⟩),
 (123,⟨tyE,true,[(0,1,false),(1,1,false),(2,1,false),(3,1,false),(4,1,false)],none,48,true⟩)]
theorem tabOk:φK Try.prog tab:=Rf.tabOk (by kernel_rfl)
theorem φ8R:φK Try.prog tabR:=Rf.tabOk (by kernel_rfl)
theorem φ6t:Try.prog.follows .mixedOrders=true:=by kernel_rfl
instance laid:Laid:=φ7g
theorem eC {g:Nat} {c:Ctr} {E:Env} (h:φ1 Try.prog g c) (k:φ0 Try.prog E):φ0 Try.prog ((g,[c])::E):=φ0.cons (φ7u h φ2D) k
theorem fS {A:Ann} {E:Env} {g:Nat} {fn:Func} {ctr:Ctr} (hE:φ0 Try.prog E) (hf:Try.prog.funcs[g]?=some fn) (hn:(fn.name == "runtime.NumGoroutine")=false) (hb:fn.body=some (φ2H fn)) (hev:∀x,evF tab E A ctr.g fn.ntmps fn.results.toList (φ2H fn) x=ctr.fn x):φ1 Try.prog g ctr:=φ5e (A:=A) tabOk hE φ6t (fn:=fn) (body:=φ2H fn) hf hn hb hev
theorem fR {A:Ann} {E:Env} {g:Nat} {fn:Func} {ctr:Ctr} (hE:φ0 Try.prog E) (hf:Try.prog.funcs[g]?=some fn) (hn:(fn.name == "runtime.NumGoroutine")=false) (hb:fn.body=some (φ2H fn)) (hev:∀x,evF tabR E A ctr.g fn.ntmps fn.results.toList (φ2H fn) x=ctr.fn x):φ1 Try.prog g ctr:=φ5e (A:=A) φ8R hE φ6t (fn:=fn) (body:=φ2H fn) hf hn hb hev
def ψW.sig:Sig:=⟨[.val tyF,.val tyF],[.val .bool],false,false⟩
def ψW.ctr:Ctr:=⟨ψW.sig,fun x=>ψW.f x.1 x.2⟩
def ψW.env:Env:=[]
def ψW.ann:Ann:=⟨[],[],[]⟩
theorem ψW.ok:φ1 Try.prog 41 ψW.ctr:=fS (A:=ψW.ann) φ0.nil Try.func41 (by kernel_rfl) (by kernel_rfl) (fun x=>by kernel_rfl)
def ψX.sig:Sig:=⟨[.val (.sl false tyF),.val (.sl false tyF)],[.val .bool],false,false⟩
def ψX.ctr:Ctr:=⟨ψX.sig,fun x=>ψX.f x.1 x.2⟩
def ψX.env:Env:=[(41,[ψW.ctr])]
def ψX.ann:Ann:=⟨[(0,([(0,.val (.sl false tyF)),(1,.val (.sl false tyF)),(5,.val tyI)],[(.exit 0,[]),(.ret,[(4,.val .bool)])]))],[],[]⟩
theorem ψX.ok:φ1 Try.prog 17 ψX.ctr:=fS (A:=ψX.ann) (eC ψW.ok φ0.nil) Try.func17 (by kernel_rfl) (by kernel_rfl) (fun x=>by kernel_rfl)
def ψY.sig:Sig:=⟨[.val tyP,.val tyP],[.val .bool],false,false⟩
def ψY.ctr:Ctr:=⟨ψY.sig,fun x=>ψY.f x.1 x.2⟩
def ψY.env:Env:=[]
def ψY.ann:Ann:=⟨[],[],[]⟩
theorem ψY.ok:φ1 Try.prog 77 ψY.ctr:=fS (A:=ψY.ann) φ0.nil Try.func77 (by kernel_rfl) (by kernel_rfl) (fun x=>by kernel_rfl)
def ψZ.sig:Sig:=⟨[.val (.sl false tyP),.val (.sl false tyP)],[.val .bool],false,false⟩
def ψZ.ctr:Ctr:=⟨ψZ.sig,fun x=>ψZ.f x.1 x.2⟩
def ψZ.env:Env:=[(77,[ψY.ctr])]
def ψZ.ann:Ann:=⟨[(0,([(0,.val (.sl false tyP)),(1,.val (.sl false tyP)),(5,.val tyI)],[(.exit 0,[]),(.ret,[(4,.val .bool)])]))],[],[]⟩
theorem ψZ.ok:φ1 Try.prog 61 ψZ.ctr:=fS (A:=ψZ.ann) (eC ψY.ok φ0.nil) Try.func61 (by kernel_rfl) (by kernel_rfl) (fun x=>by kernel_rfl)
def ψa.sig:Sig:=⟨[.val (.pair .str tyI),.val (.pair .str tyI)],[.val .bool],false,false⟩
def ψa.ctr:Ctr:=⟨ψa.sig,fun x=>ψa.f x.1 x.2⟩
def ψa.env:Env:=[]
def ψa.ann:Ann:=⟨[],[],[]⟩
theorem ψa.ok:φ1 Try.prog 88 ψa.ctr:=fS (A:=ψa.ann) φ0.nil Try.func88 (by kernel_rfl) (by kernel_rfl) (fun x=>by kernel_rfl)
def ψb.sig:Sig:=⟨[.val (.sl false (.pair .str tyI)),.val (.sl false (.pair .str tyI))],[.val .bool],false,false⟩
def ψb.ctr:Ctr:=⟨ψb.sig,fun x=>ψb.f x.1 x.2⟩
def ψb.env:Env:=[(88,[ψa.ctr])]
def ψb.ann:Ann:=⟨[(0,([(0,.val (.sl false (.pair .str tyI))),(1,.val (.sl false (.pair .str tyI))),(5,.val tyI)],[(.exit 0,[]),(.ret,[(4,.val .bool)])]))],[],[]⟩
theorem ψb.ok:φ1 Try.prog 74 ψb.ctr:=fS (A:=ψb.ann) (eC ψa.ok φ0.nil) Try.func74 (by kernel_rfl) (by kernel_rfl) (fun x=>by kernel_rfl)
def ψf.sig:Sig:=⟨[.val (.pair .bool (.pair (.sl false (.pair .str tyI)) (.sl false tyP))),.val (.pair .bool (.pair (.sl false (.pair .str tyI)) (.sl false tyP)))],[.val .bool],false,false⟩
def ψf.ctr:Ctr:=⟨ψf.sig,fun x=>ψf.f x.1 x.2⟩
def ψf.env:Env:=[(61,[ψZ.ctr]),(74,[ψb.ctr])]
def ψf.ann:Ann:=⟨[],[],[]⟩
theorem ψf.ok:φ1 Try.prog 53 ψf.ctr:=fS (A:=ψf.ann) (eC ψZ.ok (eC ψb.ok φ0.nil)) Try.func53 (by kernel_rfl) (by kernel_rfl) (fun x=>by kernel_rfl)
def ψg.sig:Sig:=⟨[.val (.sl false (.pair .bool (.pair (.sl false (.pair .str tyI)) (.sl false tyP)))),.val (.sl false (.pair .bool (.pair (.sl false (.pair .str tyI)) (.sl false tyP))))],[.val .bool],false,false⟩
def ψg.ctr:Ctr:=⟨ψg.sig,fun x=>ψg.f x.1 x.2⟩
def ψg.env:Env:=[(53,[ψf.ctr])]
def ψg.ann:Ann:=⟨[(0,([(0,.val (.sl false (.pair .bool (.pair (.sl false (.pair .str tyI)) (.sl false tyP))))),(1,.val (.sl false (.pair .bool (.pair (.sl false (.pair .str tyI)) (.sl false tyP))))),(5,.val tyI)],[(.exit 0,[]),(.ret,[(4,.val .bool)])]))],[],[]⟩
theorem ψg.ok:φ1 Try.prog 31 ψg.ctr:=fS (A:=ψg.ann) (eC ψf.ok φ0.nil) Try.func31 (by kernel_rfl) (by kernel_rfl) (fun x=>by kernel_rfl)
def ψV.sig:Sig:=⟨[.val (.pair .bool (.pair (.sl false tyF) (.pair tyI (.sl false (.pair .bool (.pair (.sl false (.pair .str tyI)) (.sl false tyP))))))),.val (.pair .bool (.pair (.sl false tyF) (.pair tyI (.sl false (.pair .bool (.pair (.sl false (.pair .str tyI)) (.sl false tyP)))))))],[.val .bool],false,false⟩
def ψV.ctr:Ctr:=⟨ψV.sig,fun x=>ψV.f x.1 x.2⟩
def ψV.env:Env:=[(17,[ψX.ctr]),(31,[ψg.ctr])]
def ψV.ann:Ann:=⟨[],[],[]⟩
theorem ψV.ok:φ1 Try.prog 8 ψV.ctr:=fS (A:=ψV.ann) (eC ψX.ok (eC ψg.ok φ0.nil)) Try.func8 (by kernel_rfl) (by kernel_rfl) (fun x=>by kernel_rfl)
def ψv.sig:Sig:=⟨[.val tyI],[.val .str],false,false⟩
def ψv.ctr:Ctr:=⟨ψv.sig,fun x=>ψv.f x⟩
def ψv.env:Env:=[]
def ψv.ann:Ann:=⟨[(0,([(0,.val tyI),(3,.val .str)],[(.exit 0,[(3,.val .str)])]))],[],[]⟩
theorem ψv.ok:φ1 Try.prog 43 ψv.ctr:=fS (A:=ψv.ann) φ0.nil Try.func43 (by kernel_rfl) (by kernel_rfl) (fun x=>by kernel_rfl)
def ψq.sig:Sig:=⟨[.io (.sl true tyF),.val tyI],[.val tyI],false,false⟩
def ψq.ctr:Ctr:=⟨ψq.sig,fun x=>ψq.f x.1 x.2⟩
def ψq.env:Env:=[(43,[ψv.ctr])]
def ψq.ann:Ann:=⟨[(0,([(0,.val (.sl true tyF)),(1,.val tyI),(5,.val tyI)],[(.exit 0,[(0,.val (.sl true tyF)),(1,.val tyI)])]))],[],[]⟩
theorem ψq.ok:φ1 Try.prog 19 ψq.ctr:=fS (A:=ψq.ann) (eC ψv.ok φ0.nil) Try.func19 (by kernel_rfl) (by kernel_rfl) (fun x=>by kernel_rfl)
def ψr.sig:Sig:=⟨[.io (.sl true tyP),.val tyI],[.val tyI],false,false⟩
def ψr.ctr:Ctr:=⟨ψr.sig,fun x=>ψr.f x.1 x.2⟩
def ψr.env:Env:=[(43,[ψv.ctr])]
def ψr.ann:Ann:=⟨[(0,([(0,.val (.sl true tyP)),(1,.val tyI),(5,.val tyI)],[(.exit 0,[(0,.val (.sl true tyP)),(1,.val tyI)])]))],[],[]⟩
theorem ψr.ok:φ1 Try.prog 44 ψr.ctr:=fS (A:=ψr.ann) (eC ψv.ok φ0.nil) Try.func44 (by kernel_rfl) (by kernel_rfl) (fun x=>by kernel_rfl)
def ψs.sig:Sig:=⟨[.io (.sl true (.pair .str tyI)),.val tyI],[.val tyI],false,false⟩
def ψs.ctr:Ctr:=⟨ψs.sig,fun x=>ψs.f x.1 x.2⟩
def ψs.env:Env:=[(43,[ψv.ctr])]
def ψs.ann:Ann:=⟨[(0,([(0,.val (.sl true (.pair .str tyI))),(1,.val tyI),(5,.val tyI)],[(.exit 0,[(0,.val (.sl true (.pair .str tyI))),(1,.val tyI)])]))],[],[]⟩
theorem ψs.ok:φ1 Try.prog 54 ψs.ctr:=fS (A:=ψs.ann) (eC ψv.ok φ0.nil) Try.func54 (by kernel_rfl) (by kernel_rfl) (fun x=>by kernel_rfl)
def ψw.sig:Sig:=⟨[.io (.sl true (.pair .bool (.pair (.sl true (.pair .str tyI)) (.sl true tyP)))),.val tyI],[.val tyI],true,false⟩
def ψw.ctr:Ctr:=⟨ψw.sig,fun x=>ψw.f x.1 x.2⟩
def ψw.env:Env:=[(44,[ψr.ctr]),(54,[ψs.ctr]),(1000000007,[]),(1000000008,[])]
def ψw.ann:Ann:=⟨[(0,([(0,.val (.sl true (.pair .bool (.pair (.sl true (.pair .str tyI)) (.sl true tyP))))),(1,.val tyI),(5,.val tyI)],[(.exit 0,[(0,.val (.sl true (.pair .bool (.pair (.sl true (.pair .str tyI)) (.sl true tyP))))),(1,.val tyI)])]))],[],[]⟩
theorem ψw.ok:φ1 Try.prog 32 ψw.ctr:=fS (A:=ψw.ann) (eC ψr.ok (eC ψs.ok (φ0.cons (g:=1000000007) φ2D (φ0.cons (g:=1000000008) φ2D φ0.nil)))) Try.func32 (by kernel_rfl) (by kernel_rfl) (fun x=>by kernel_rfl)
def ψp.sig:Sig:=⟨[.io (.pair .bool (.pair (.sl true tyF) (.pair tyI (.sl true (.pair .bool (.pair (.sl true (.pair .str tyI)) (.sl true tyP))))))),.val tyI],[.val tyI],true,false⟩
def ψp.ctr:Ctr:=⟨ψp.sig,fun x=>ψp.f x.1 x.2⟩
def ψp.env:Env:=[(19,[ψq.ctr]),(32,[ψw.ctr]),(1000000008,[])]
def ψp.ann:Ann:=⟨[],[],[]⟩
theorem ψp.ok:φ1 Try.prog 9 ψp.ctr:=fS (A:=ψp.ann) (eC ψq.ok (eC ψw.ok (φ0.cons (g:=1000000008) φ2D φ0.nil))) Try.func9 (by kernel_rfl) (by kernel_rfl) (fun x=>by kernel_rfl)
def ψj.sig:Sig:=⟨[.val (.sl false tyF),.val tyI],[.val tyI],false,false⟩
def ψj.ctr:Ctr:=⟨ψj.sig,fun x=>ψj.f x.1 x.2⟩
def ψj.env:Env:=[(43,[ψv.ctr])]
def ψj.ann:Ann:=⟨[(0,([(0,.val (.sl false tyF)),(1,.val tyI),(5,.val tyI)],[(.exit 0,[(1,.val tyI)]),(.ret,[(4,.val tyI)])]))],[],[]⟩
theorem ψj.ok:φ1 Try.prog 21 ψj.ctr:=fS (A:=ψj.ann) (eC ψv.ok φ0.nil) Try.func21 (by kernel_rfl) (by kernel_rfl) (fun x=>by kernel_rfl)
def ψl.sig:Sig:=⟨[.val (.sl false (.pair .str tyI)),.val tyI],[.val tyI],false,false⟩
def ψl.ctr:Ctr:=⟨ψl.sig,fun x=>ψl.f x.1 x.2⟩
def ψl.env:Env:=[(43,[ψv.ctr])]
def ψl.ann:Ann:=⟨[(0,([(0,.val (.sl false (.pair .str tyI))),(1,.val tyI),(5,.val tyI)],[(.exit 0,[(1,.val tyI)]),(.ret,[(4,.val tyI)])]))],[],[]⟩
theorem ψl.ok:φ1 Try.prog 55 ψl.ctr:=fS (A:=ψl.ann) (eC ψv.ok φ0.nil) Try.func55 (by kernel_rfl) (by kernel_rfl) (fun x=>by kernel_rfl)
def ψk.sig:Sig:=⟨[.val (.sl false tyP),.val tyI],[.val tyI],false,false⟩
def ψk.ctr:Ctr:=⟨ψk.sig,fun x=>ψk.f x.1 x.2⟩
def ψk.env:Env:=[(43,[ψv.ctr])]
def ψk.ann:Ann:=⟨[(0,([(0,.val (.sl false tyP)),(1,.val tyI),(5,.val tyI)],[(.exit 0,[(1,.val tyI)]),(.ret,[(4,.val tyI)])]))],[],[]⟩
theorem ψk.ok:φ1 Try.prog 56 ψk.ctr:=fS (A:=ψk.ann) (eC ψv.ok φ0.nil) Try.func56 (by kernel_rfl) (by kernel_rfl) (fun x=>by kernel_rfl)
def ψn.sig:Sig:=⟨[.val (.sl false (.pair .bool (.pair (.sl false (.pair .str tyI)) (.sl false tyP)))),.val tyI],[.val tyI],false,false⟩
def ψn.ctr:Ctr:=⟨ψn.sig,fun x=>ψn.f x.1 x.2⟩
def ψn.env:Env:=[(55,[ψl.ctr]),(56,[ψk.ctr])]
def ψn.ann:Ann:=⟨[(0,([(0,.val (.sl false (.pair .bool (.pair (.sl false (.pair .str tyI)) (.sl false tyP))))),(1,.val tyI),(5,.val tyI)],[(.exit 0,[(1,.val tyI)]),(.ret,[(4,.val tyI)])]))],[],[]⟩
theorem ψn.ok:φ1 Try.prog 33 ψn.ctr:=fS (A:=ψn.ann) (eC ψl.ok (eC ψk.ok φ0.nil)) Try.func33 (by kernel_rfl) (by kernel_rfl) (fun x=>by kernel_rfl)
def ψi.sig:Sig:=⟨[.val (.pair .bool (.pair (.sl false tyF) (.pair tyI (.sl false (.pair .bool (.pair (.sl false (.pair .str tyI)) (.sl false tyP))))))),.val tyI],[.val tyI],false,false⟩
def ψi.ctr:Ctr:=⟨ψi.sig,fun x=>ψi.f x.1 x.2⟩
def ψi.env:Env:=[(21,[ψj.ctr]),(33,[ψn.ctr])]
def ψi.ann:Ann:=⟨[],[],[]⟩
theorem ψi.ok:φ1 Try.prog 10 ψi.ctr:=fS (A:=ψi.ann) (eC ψj.ok (eC ψn.ok φ0.nil)) Try.func10 (by kernel_rfl) (by kernel_rfl) (fun x=>by kernel_rfl)
def ψx.sig:Sig:=⟨[.val (.pair tyI (.pair tyI tyF)),.val tyI],[.val tyI],false,false⟩
def ψx.ctr:Ctr:=⟨ψx.sig,fun x=>ψx.f x.1 x.2⟩
def ψx.env:Env:=[]
def ψx.ann:Ann:=⟨[],[],[]⟩
theorem ψx.ok:φ1 Try.prog 45 ψx.ctr:=fS (A:=ψx.ann) φ0.nil Try.func45 (by kernel_rfl) (by kernel_rfl) (fun x=>by kernel_rfl)
def ψy.sig:Sig:=⟨[.val (.sl false (.pair tyI (.pair tyI tyF))),.val tyI],[.val tyI],false,false⟩
def ψy.ctr:Ctr:=⟨ψy.sig,fun x=>ψy.f x.1 x.2⟩
def ψy.env:Env:=[(45,[ψx.ctr])]
def ψy.ann:Ann:=⟨[(0,([(0,.val (.sl false (.pair tyI (.pair tyI tyF)))),(1,.val tyI),(5,.val tyI)],[(.exit 0,[(1,.val tyI)]),(.ret,[(4,.val tyI)])]))],[],[]⟩
theorem ψy.ok:φ1 Try.prog 22 ψy.ctr:=fS (A:=ψy.ann) (eC ψx.ok φ0.nil) Try.func22 (by kernel_rfl) (by kernel_rfl) (fun x=>by kernel_rfl)
def ψ15.sig:Sig:=⟨[],[.val (.pair .bool (.pair (.sl true tyF) (.pair tyI (.sl true (.pair .bool (.pair (.sl false (.pair .str tyI)) (.sl false tyP)))))))],false,false⟩
def ψ15.ctr:Ctr:=⟨ψ15.sig,fun _=>ψ15.f⟩
def ψ15.env:Env:=[]
def ψ15.ann:Ann:=⟨[],[],[]⟩
theorem ψ15.ok:φ1 Try.prog 6 ψ15.ctr:=fR (A:=ψ15.ann) φ0.nil Try.func6 (by kernel_rfl) (by kernel_rfl) (fun x=>by kernel_rfl)
def ψ1F.sig:Sig:=⟨[.val (.pair .bool (.pair (.sl false (.pair .str tyI)) (.sl false tyP)))],[.val (.pair .bool (.pair (.sl true (.pair .str tyI)) (.sl true tyP)))],false,false⟩
def ψ1F.ctr:Ctr:=⟨ψ1F.sig,fun x=>ψ1F.f x⟩
def ψ1F.env:Env:=[]
def ψ1F.ann:Ann:=⟨[],[],[]⟩
theorem ψ1F.ok:φ1 Try.prog 62 ψ1F.ctr:=fR (A:=ψ1F.ann) φ0.nil Try.func62 (by kernel_rfl) (by kernel_rfl) (fun x=>by kernel_rfl)
def ψ12.sig:Sig:=⟨[.val (.sl false tyE)],[.val (.sl true .str)],false,false⟩
def ψ12.ctr:Ctr:=⟨ψ12.sig,fun x=>ψ12.f x⟩
def ψ12.env:Env:=[]
def ψ12.ann:Ann:=⟨[(0,([(0,.val (.sl false tyE)),(3,.val (.sl true .str)),(4,.val tyI)],[(.exit 0,[(3,.val (.sl true .str))])]))],[],[]⟩
theorem ψ12.ok:φ1 Try.prog 63 ψ12.ctr:=fR (A:=ψ12.ann) φ0.nil Try.func63 (by kernel_rfl) (by kernel_rfl) (fun x=>by kernel_rfl)
def ψ1H.sig:Sig:=⟨[.val (.sl false tyF)],[.val (.sl true tyE)],false,false⟩
def ψ1H.ctr:Ctr:=⟨ψ1H.sig,fun x=>ψ1H.f x⟩
def ψ1H.env:Env:=[]
def ψ1H.ann:Ann:=⟨[(0,([(0,.val (.sl false tyF)),(3,.val (.sl true tyE)),(4,.val tyI)],[(.exit 0,[(3,.val (.sl true tyE))])]))],[],[]⟩
theorem ψ1H.ok:φ1 Try.prog 64 ψ1H.ctr:=fR (A:=ψ1H.ann) φ0.nil Try.func64 (by kernel_rfl) (by kernel_rfl) (fun x=>by kernel_rfl)
def ψ1K.sig:Sig:=⟨[.val tyI,.val tyI,.val tyI],[.val .bool],false,false⟩
def ψ1K.ctr:Ctr:=⟨ψ1K.sig,fun x=>ψ1K.f x.1 x.2.1 x.2.2⟩
def ψ1K.env:Env:=[]
def ψ1K.ann:Ann:=⟨[],[],[]⟩
theorem ψ1K.ok:φ1 Try.prog 65 ψ1K.ctr:=fR (A:=ψ1K.ann) φ0.nil Try.func65 (by kernel_rfl) (by kernel_rfl) (fun x=>by kernel_rfl)
def ψ1E.sig:Sig:=⟨[.val (.sl false tyF),.val tyF,.val .bool],[.val (.sl true tyF)],false,false⟩
def ψ1E.ctr:Ctr:=⟨ψ1E.sig,fun x=>ψ1E.f x.1 x.2.1 x.2.2⟩
def ψ1E.env:Env:=[]
def ψ1E.ann:Ann:=⟨[(0,([(0,.val (.sl false tyF)),(4,.ptr tyF),(7,.val (.sl true tyF)),(8,.val .bool),(9,.val tyI)],[(.exit 0,[(4,.ptr tyF),(7,.val (.sl true tyF)),(8,.val .bool)])]))],[(1,[(.normal,[(0,.val (.sl false tyF)),(4,.ptr tyF),(7,.val (.sl true tyF)),(8,.val .bool),(9,.val tyI)])])],[(7,[(.normal,[(0,.val (.sl false tyF)),(4,.ptr tyF),(7,.val (.sl true tyF)),(8,.val .bool),(9,.val tyI)])])]⟩
theorem ψ1E.ok:φ1 Try.prog 58 ψ1E.ctr:=fR (A:=ψ1E.ann) φ0.nil Try.func58 (by kernel_rfl) (by kernel_rfl) (fun x=>by kernel_rfl)
def ψ13.sig:Sig:=⟨[.val (.sl false tyF),.val (.sl false tyP),.val tyI],[.val (.sl true tyF)],false,false⟩
def ψ13.ctr:Ctr:=⟨ψ13.sig,fun x=>ψ13.f x.1 x.2.1 x.2.2⟩
def ψ13.env:Env:=[(58,[ψ1E.ctr])]
def ψ13.ann:Ann:=⟨[(0,([(1,.val (.sl false tyP)),(2,.val tyI),(7,.val (.sl true tyF)),(8,.val tyI)],[(.exit 0,[(7,.val (.sl true tyF))])]))],[],[]⟩
theorem ψ13.ok:φ1 Try.prog 36 ψ13.ctr:=fR (A:=ψ13.ann) (eC ψ1E.ok φ0.nil) Try.func36 (by kernel_rfl) (by kernel_rfl) (fun x=>by kernel_rfl)
def ψ11.sig:Sig:=⟨[.val (.sl false tyE),.val .str],[.val tyE,.val .bool],false,false⟩
def ψ11.ctr:Ctr:=⟨ψ11.sig,fun x=>ψ11.f x.1 x.2⟩
def ψ11.env:Env:=[]
def ψ11.ann:Ann:=⟨[(0,([(0,.val (.sl false tyE)),(1,.val .str),(4,.ptr tyE),(6,.val tyI)],[(.exit 0,[(4,.ptr tyE)]),(.ret,[(4,.ptr tyE),(5,.val .bool)])]))],[],[]⟩
theorem ψ11.ok:φ1 Try.prog 89 ψ11.ctr:=fR (A:=ψ11.ann) φ0.nil Try.func89 (by kernel_rfl) (by kernel_rfl) (fun x=>by kernel_rfl)
def ψ1D.sig:Sig:=⟨[.val (.pair .bool (.pair (.sl false (.pair .str tyI)) (.sl false tyP))),.val (.sl false tyE)],[.val .bool],false,false⟩
def ψ1D.ctr:Ctr:=⟨ψ1D.sig,fun x=>ψ1D.f x.1 x.2⟩
def ψ1D.env:Env:=[(89,[ψ11.ctr])]
def ψ1D.ann:Ann:=⟨[(0,([(1,.val (.sl false tyE)),(2,.ptr (.pair .bool (.pair (.sl false (.pair .str tyI)) (.sl false tyP)))),(5,.val tyI)],[(.exit 0,[]),(.ret,[(4,.val .bool)])]))],[],[]⟩
theorem ψ1D.ok:φ1 Try.prog 78 ψ1D.ctr:=fR (A:=ψ1D.ann) (eC ψ11.ok φ0.nil) Try.func78 (by kernel_rfl) (by kernel_rfl) (fun x=>by kernel_rfl)
def ψ19.sig:Sig:=⟨[.val (.pair .bool (.pair (.sl false (.pair .str tyI)) (.sl false tyP))),.val .str],[.val tyP,.val .bool],false,false⟩
def ψ19.ctr:Ctr:=⟨ψ19.sig,fun x=>ψ19.f x.1 x.2⟩
def ψ19.env:Env:=[]
def ψ19.ann:Ann:=⟨[(0,([(1,.val .str),(2,.ptr (.pair .bool (.pair (.sl false (.pair .str tyI)) (.sl false tyP)))),(4,.ptr tyP),(6,.val tyI)],[(.exit 0,[(4,.ptr tyP)]),(.ret,[(4,.ptr tyP),(5,.val .bool)])]))],[],[]⟩
theorem ψ19.ok:φ1 Try.prog 81 ψ19.ctr:=fR (A:=ψ19.ann) φ0.nil Try.func81 (by kernel_rfl) (by kernel_rfl) (fun x=>by kernel_rfl)
def ψ18.sig:Sig:=⟨[.val (.pair .bool (.pair (.sl false (.pair .str tyI)) (.sl false tyP)))],[.val (.sl true tyP)],false,false⟩
def ψ18.ctr:Ctr:=⟨ψ18.sig,fun x=>ψ18.f x⟩
def ψ18.env:Env:=[(81,[ψ19.ctr])]
def ψ18.ann:Ann:=⟨[(2,([(1,.ptr (.pair .bool (.pair (.sl false (.pair .str tyI)) (.sl false tyP)))),(3,.val (.sl true tyP)),(4,.val tyI),(5,.val .bool),(6,.val tyI)],[(.exit 2,[(1,.ptr (.pair .bool (.pair (.sl false (.pair .str tyI)) (.sl false tyP)))),(3,.val (.sl true tyP)),(4,.val tyI),(5,.val .bool)])])),(0,([(1,.ptr (.pair .bool (.pair (.sl false (.pair .str tyI)) (.sl false tyP)))),(3,.val (.sl true tyP)),(4,.val tyI)],[(.exit 0,[(3,.val (.sl true tyP))])]))],[(3,[(.normal,[(1,.ptr (.pair .bool (.pair (.sl false (.pair .str tyI)) (.sl false tyP)))),(3,.val (.sl true tyP)),(4,.val tyI),(5,.val .bool),(6,.val tyI)])])],[(10,[(.normal,[(1,.ptr (.pair .bool (.pair (.sl false (.pair .str tyI)) (.sl false tyP)))),(3,.val (.sl true tyP)),(4,.val tyI)])])]⟩
theorem ψ18.ok:φ1 Try.prog 79 ψ18.ctr:=fR (A:=ψ18.ann) (eC ψ19.ok φ0.nil) Try.func79 (by kernel_rfl) (by kernel_rfl) (fun x=>by kernel_rfl)
def ψ1G.sig:Sig:=⟨[.val (.pair .bool (.pair (.sl false tyF) (.pair tyI (.sl false (.pair .bool (.pair (.sl false (.pair .str tyI)) (.sl false tyP))))))),.val (.pair .bool (.pair (.sl false (.pair .str tyI)) (.sl false tyP)))],[.val (.pair .bool (.pair (.sl false tyF) (.pair tyI (.sl false (.pair .bool (.pair (.sl false (.pair .str tyI)) (.sl false tyP))))))),.val (.pair tyI (.pair .str (.sl true .str)))],false,false⟩
def ψ1G.ctr:Ctr:=⟨ψ1G.sig,fun x=>ψ1G.f x.1 x.2⟩
def ψ1G.env:Env:=[(36,[ψ13.ctr]),(64,[ψ1H.ctr]),(78,[ψ1D.ctr]),(79,[ψ18.ctr])]
def ψ1G.ann:Ann:=⟨[],[],[]⟩
theorem ψ1G.ok:φ1 Try.prog 66 ψ1G.ctr:=fR (A:=ψ1G.ann) (eC ψ13.ok (eC ψ1H.ok (eC ψ1D.ok (eC ψ18.ok φ0.nil)))) Try.func66 (by kernel_rfl) (by kernel_rfl) (fun x=>by kernel_rfl)
def ψ14.sig:Sig:=⟨[.val .str],[.val .bool],false,false⟩
def ψ14.ctr:Ctr:=⟨ψ14.sig,fun x=>ψ14.f x⟩
def ψ14.env:Env:=[(65,[ψ1K.ctr])]
def ψ14.ann:Ann:=⟨[],[],[]⟩
theorem ψ14.ok:φ1 Try.prog 80 ψ14.ctr:=fR (A:=ψ14.ann) (eC ψ1K.ok φ0.nil) Try.func80 (by kernel_rfl) (by kernel_rfl) (fun x=>by kernel_rfl)
def ψ1I.sig:Sig:=⟨[.val (.sl false tyF),.val .str],[.val tyF,.val tyI],false,false⟩
def ψ1I.ctr:Ctr:=⟨ψ1I.sig,fun x=>ψ1I.f x.1 x.2⟩
def ψ1I.env:Env:=[]
def ψ1I.ann:Ann:=⟨[(0,([(0,.val (.sl false tyF)),(1,.val .str),(4,.ptr tyF),(6,.val tyI)],[(.exit 0,[(4,.ptr tyF)]),(.ret,[(4,.ptr tyF),(5,.val tyI)])]))],[],[]⟩
theorem ψ1I.ok:φ1 Try.prog 82 ψ1I.ctr:=fR (A:=ψ1I.ann) φ0.nil Try.func82 (by kernel_rfl) (by kernel_rfl) (fun x=>by kernel_rfl)
def ψ1B.sig:Sig:=⟨[.val (.pair .bool (.pair (.sl false (.pair .str tyI)) (.sl false tyP))),.val .str,.val tyI],[.val (.pair .bool (.pair (.sl true (.pair .str tyI)) (.sl true tyP))),.val tyI],false,false⟩
def ψ1B.ctr:Ctr:=⟨ψ1B.sig,fun x=>ψ1B.f x.1 x.2.1 x.2.2⟩
def ψ1B.env:Env:=[(62,[ψ1F.ctr]),(80,[ψ14.ctr])]
def ψ1B.ann:Ann:=⟨[(0,([(1,.val .str),(2,.val tyI),(3,.ptr (.pair .bool (.pair (.sl false (.pair .str tyI)) (.sl false tyP)))),(6,.ptr (.pair .bool (.pair (.sl true (.pair .str tyI)) (.sl true tyP)))),(8,.ptr (.pair .bool (.pair (.sl true (.pair .str tyI)) (.sl true tyP)))),(9,.val tyI)],[(.exit 0,[(1,.val .str),(2,.val tyI),(3,.ptr (.pair .bool (.pair (.sl false (.pair .str tyI)) (.sl false tyP)))),(6,.ptr (.pair .bool (.pair (.sl true (.pair .str tyI)) (.sl true tyP)))),(8,.ptr (.pair .bool (.pair (.sl true (.pair .str tyI)) (.sl true tyP))))]),(.ret,[(6,.ptr (.pair .bool (.pair (.sl true (.pair .str tyI)) (.sl true tyP)))),(7,.val tyI)])]))],[],[]⟩
theorem ψ1B.ok:φ1 Try.prog 83 ψ1B.ctr:=fR (A:=ψ1B.ann) (eC ψ1F.ok (eC ψ14.ok φ0.nil)) Try.func83 (by kernel_rfl) (by kernel_rfl) (fun x=>by kernel_rfl)
def ψ1J.sig:Sig:=⟨[.val (.pair .bool (.pair (.sl false tyF) (.pair tyI (.sl true (.pair .bool (.pair (.sl false (.pair .str tyI)) (.sl false tyP))))))),.val (.pair tyI (.pair tyI tyF)),.val (.pair .bool (.pair (.sl false (.pair .str tyI)) (.sl false tyP)))],[.val (.pair .bool (.pair (.sl false tyF) (.pair tyI (.sl true (.pair .bool (.pair (.sl false (.pair .str tyI)) (.sl false tyP))))))),.val (.pair tyI (.pair .str (.sl true .str)))],false,false⟩
def ψ1J.ctr:Ctr:=⟨ψ1J.sig,fun x=>ψ1J.f x.1 x.2.1 x.2.2⟩
def ψ1J.env:Env:=[(80,[ψ14.ctr]),(81,[ψ19.ctr]),(82,[ψ1I.ctr]),(83,[ψ1B.ctr])]
def ψ1J.ann:Ann:=⟨[],[],[(4,[(.normal,[(3,.ptr (.pair .bool (.pair (.sl false tyF) (.pair tyI (.sl true (.pair .bool (.pair (.sl false (.pair .str tyI)) (.sl false tyP)))))))),(4,.ptr (.pair tyI (.pair tyI tyF))),(5,.ptr (.pair .bool (.pair (.sl false (.pair .str tyI)) (.sl false tyP)))),(6,.ptr (.pair .bool (.pair (.sl true tyF) (.pair tyI (.sl true (.pair .bool (.pair (.sl false (.pair .str tyI)) (.sl false tyP)))))))),(7,.ptr (.pair tyI (.pair .str (.sl true .str)))),(8,.ptr tyP),(9,.val .bool)]),(.ret,[(6,.ptr (.pair .bool (.pair (.sl false tyF) (.pair tyI (.sl true (.pair .bool (.pair (.sl false (.pair .str tyI)) (.sl false tyP)))))))),(7,.ptr (.pair tyI (.pair .str (.sl true .str))))])])]⟩
theorem ψ1J.ok:φ1 Try.prog 67 ψ1J.ctr:=fR (A:=ψ1J.ann) (eC ψ14.ok (eC ψ19.ok (eC ψ1I.ok (eC ψ1B.ok φ0.nil)))) Try.func67 (by kernel_rfl) (by kernel_rfl) (fun x=>by kernel_rfl)
def ψ1A.sig:Sig:=⟨[.val (.sl false tyP)],[.val .bool],false,false⟩
def ψ1A.ctr:Ctr:=⟨ψ1A.sig,fun x=>ψ1A.f x⟩
def ψ1A.env:Env:=[(80,[ψ14.ctr])]
def ψ1A.ann:Ann:=⟨[(0,([(0,.val (.sl false tyP)),(3,.val tyI)],[(.exit 0,[]),(.ret,[(2,.val .bool)])]))],[],[(6,[(.normal,[(0,.val (.sl false tyP)),(3,.val tyI)]),(.ret,[(2,.val .bool)])])]⟩
theorem ψ1A.ok:φ1 Try.prog 69 ψ1A.ctr:=fR (A:=ψ1A.ann) (eC ψ14.ok φ0.nil) Try.func69 (by kernel_rfl) (by kernel_rfl) (fun x=>by kernel_rfl)
def ψ1C.sig:Sig:=⟨[.val (.pair .bool (.pair (.sl false (.pair .str tyI)) (.sl false tyP))),.val tyP],[.val (.pair .bool (.pair (.sl true (.pair .str tyI)) (.sl true tyP))),.val .bool],false,false⟩
def ψ1C.ctr:Ctr:=⟨ψ1C.sig,fun x=>ψ1C.f x.1 x.2⟩
def ψ1C.env:Env:=[(62,[ψ1F.ctr]),(69,[ψ1A.ctr]),(79,[ψ18.ctr])]
def ψ1C.ann:Ann:=⟨[],[],[]⟩
theorem ψ1C.ok:φ1 Try.prog 68 ψ1C.ctr:=fR (A:=ψ1C.ann) (eC ψ1F.ok (eC ψ1A.ok (eC ψ18.ok φ0.nil))) Try.func68 (by kernel_rfl) (by kernel_rfl) (fun x=>by kernel_rfl)
def ψ17.sig:Sig:=⟨[.val (.pair .bool (.pair (.sl false tyF) (.pair tyI (.sl false (.pair .bool (.pair (.sl false (.pair .str tyI)) (.sl false tyP))))))),.val (.pair tyI (.pair tyI tyF))],[.val (.pair .bool (.pair (.sl false tyF) (.pair tyI (.sl false (.pair .bool (.pair (.sl false (.pair .str tyI)) (.sl false tyP))))))),.val (.pair tyI (.pair .str (.sl true .str)))],false,false⟩
def ψ17.ctr:Ctr:=⟨ψ17.sig,fun x=>ψ17.f x.1 x.2⟩
def ψ17.env:Env:=[(62,[ψ1F.ctr]),(63,[ψ12.ctr]),(64,[ψ1H.ctr]),(65,[ψ1K.ctr]),(66,[ψ1G.ctr]),(67,[ψ1J.ctr]),(68,[ψ1C.ctr]),(69,[ψ1A.ctr])]
def ψ17.ann:Ann:=⟨[(0,([(2,.ptr (.pair .bool (.pair (.sl false tyF) (.pair tyI (.sl false (.pair .bool (.pair (.sl false (.pair .str tyI)) (.sl false tyP)))))))),(3,.ptr (.pair tyI (.pair tyI tyF))),(4,.ptr (.pair .bool (.pair (.sl true tyF) (.pair tyI (.sl true (.pair .bool (.pair (.sl false (.pair .str tyI)) (.sl false tyP)))))))),(5,.ptr (.pair tyI (.pair .str (.sl true .str)))),(6,.ptr (.pair .bool (.pair (.sl true tyF) (.pair tyI (.sl true (.pair .bool (.pair (.sl false (.pair .str tyI)) (.sl false tyP)))))))),(7,.val tyI)],[(.exit 0,[(2,.ptr (.pair .bool (.pair (.sl false tyF) (.pair tyI (.sl false (.pair .bool (.pair (.sl false (.pair .str tyI)) (.sl false tyP)))))))),(3,.ptr (.pair tyI (.pair tyI tyF))),(4,.ptr (.pair .bool (.pair (.sl true tyF) (.pair tyI (.sl true (.pair .bool (.pair (.sl false (.pair .str tyI)) (.sl false tyP)))))))),(5,.ptr (.pair tyI (.pair .str (.sl true .str)))),(6,.ptr (.pair .bool (.pair (.sl true tyF) (.pair tyI (.sl true (.pair .bool (.pair (.sl false (.pair .str tyI)) (.sl false tyP))))))))])]))],[],[(28,[(.normal,[(3,.ptr (.pair tyI (.pair tyI tyF))),(4,.ptr (.pair .bool (.pair (.sl true tyF) (.pair tyI (.sl true (.pair .bool (.pair (.sl false (.pair .str tyI)) (.sl false tyP)))))))),(5,.ptr (.pair tyI (.pair .str (.sl true .str)))),(6,.ptr (.pair .bool (.pair (.sl true tyF) (.pair tyI (.sl true (.pair .bool (.pair (.sl false (.pair .str tyI)) (.sl false tyP))))))))]),(.ret,[(4,.ptr (.pair .bool (.pair (.sl true tyF) (.pair tyI (.sl true (.pair .bool (.pair (.sl false (.pair .str tyI)) (.sl false tyP)))))))),(5,.ptr (.pair tyI (.pair .str (.sl true .str))))])])]⟩
theorem ψ17.ok:φ1 Try.prog 46 ψ17.ctr:=fR (A:=ψ17.ann) (eC ψ1F.ok (eC ψ12.ok (eC ψ1H.ok (eC ψ1K.ok (eC ψ1G.ok (eC ψ1J.ok (eC ψ1C.ok (eC ψ1A.ok φ0.nil)))))))) Try.func46 (by kernel_rfl) (by kernel_rfl) (fun x=>by kernel_rfl)
def ψ16.sig:Sig:=⟨[.val (.sl false (.pair tyI (.pair tyI tyF)))],[.val (.pair .bool (.pair (.sl false tyF) (.pair tyI (.sl false (.pair .bool (.pair (.sl false (.pair .str tyI)) (.sl false tyP))))))),.val (.sl true (.pair tyI (.pair .str (.sl true .str))))],false,false⟩
def ψ16.ctr:Ctr:=⟨ψ16.sig,fun x=>ψ16.f x⟩
def ψ16.env:Env:=[(6,[ψ15.ctr]),(46,[ψ17.ctr])]
def ψ16.ann:Ann:=⟨[(0,([(0,.val (.sl false (.pair tyI (.pair tyI tyF)))),(2,.ptr (.pair .bool (.pair (.sl true tyF) (.pair tyI (.sl true (.pair .bool (.pair (.sl false (.pair .str tyI)) (.sl false tyP)))))))),(4,.ptr (.pair .bool (.pair (.sl false tyF) (.pair tyI (.sl false (.pair .bool (.pair (.sl false (.pair .str tyI)) (.sl false tyP)))))))),(5,.val (.sl true (.pair tyI (.pair .str (.sl true .str))))),(6,.val tyI)],[(.exit 0,[(2,.ptr (.pair .bool (.pair (.sl true tyF) (.pair tyI (.sl true (.pair .bool (.pair (.sl false (.pair .str tyI)) (.sl false tyP)))))))),(4,.ptr (.pair .bool (.pair (.sl false tyF) (.pair tyI (.sl false (.pair .bool (.pair (.sl false (.pair .str tyI)) (.sl false tyP)))))))),(5,.val (.sl true (.pair tyI (.pair .str (.sl true .str)))))])]))],[],[]⟩
theorem ψ16.ok:φ1 Try.prog 23 ψ16.ctr:=fR (A:=ψ16.ann) (eC ψ15.ok (eC ψ17.ok φ0.nil)) Try.func23 (by kernel_rfl) (by kernel_rfl) (fun x=>by kernel_rfl)
def ψz.sig:Sig:=⟨[.val (.pair tyI (.pair tyI tyF))],[.val (.pair tyI (.pair tyI tyF))],false,false⟩
def ψz.ctr:Ctr:=⟨ψz.sig,fun x=>ψz.f x⟩
def ψz.env:Env:=[]
def ψz.ann:Ann:=⟨[],[],[]⟩
theorem ψz.ok:φ1 Try.prog 47 ψz.ctr:=fS (A:=ψz.ann) φ0.nil Try.func47 (by kernel_rfl) (by kernel_rfl) (fun x=>by kernel_rfl)
def ψ10.sig:Sig:=⟨[.val (.sl false (.pair tyI (.pair tyI tyF)))],[.val (.sl true (.pair tyI (.pair tyI tyF)))],false,false⟩
def ψ10.ctr:Ctr:=⟨ψ10.sig,fun x=>ψ10.f x⟩
def ψ10.env:Env:=[(47,[ψz.ctr])]
def ψ10.ann:Ann:=⟨[(0,([(0,.val (.sl false (.pair tyI (.pair tyI tyF)))),(3,.val (.sl true (.pair tyI (.pair tyI tyF)))),(4,.val tyI)],[(.exit 0,[(3,.val (.sl true (.pair tyI (.pair tyI tyF))))])]))],[],[]⟩
theorem ψ10.ok:φ1 Try.prog 24 ψ10.ctr:=fS (A:=ψ10.ann) (eC ψz.ok φ0.nil) Try.func24 (by kernel_rfl) (by kernel_rfl) (fun x=>by kernel_rfl)
def ψ4.sig:Sig:=⟨[],[.val (.pair .bool (.pair (.sl true tyF) (.pair tyI (.sl true (.pair .bool (.pair (.sl true (.pair .str tyI)) (.sl true tyP)))))))],false,false⟩
def ψ4.ctr:Ctr:=⟨ψ4.sig,fun _=>ψ4.f⟩
def ψ4.env:Env:=[]
def ψ4.ann:Ann:=⟨[],[],[]⟩
theorem ψ4.ok:φ1 Try.prog 7 ψ4.ctr:=fS (A:=ψ4.ann) φ0.nil Try.func7 (by kernel_rfl) (by kernel_rfl) (fun x=>by kernel_rfl)
def ψ1.sig:Sig:=⟨[.val (.sl false tyE)],[.val (.sl true .str)],false,false⟩
def ψ1.ctr:Ctr:=⟨ψ1.sig,fun x=>ψ1.f x⟩
def ψ1.env:Env:=[]
def ψ1.ann:Ann:=⟨[(0,([(3,.val (.sl true .str)),(6,.val (.sl false tyE)),(7,.val tyI),(8,.val tyI)],[(.exit 0,[(3,.val (.sl true .str))])]))],[],[]⟩
theorem ψ1.ok:φ1 Try.prog 70 ψ1.ctr:=fS (A:=ψ1.ann) φ0.nil Try.func70 (by kernel_rfl) (by kernel_rfl) (fun x=>by kernel_rfl)
def ψI.sig:Sig:=⟨[.val (.sl false tyF)],[.val (.sl true tyE)],false,false⟩
def ψI.ctr:Ctr:=⟨ψI.sig,fun x=>ψI.f x⟩
def ψI.env:Env:=[]
def ψI.ann:Ann:=⟨[(0,([(3,.val (.sl true tyE)),(6,.val (.sl false tyF)),(7,.val tyI),(8,.val tyI)],[(.exit 0,[(3,.val (.sl true tyE))])]))],[],[]⟩
theorem ψI.ok:φ1 Try.prog 71 ψI.ctr:=fS (A:=ψI.ann) φ0.nil Try.func71 (by kernel_rfl) (by kernel_rfl) (fun x=>by kernel_rfl)
def ψJ.sig:Sig:=⟨[.val tyI,.val tyI,.val tyI],[.val .bool],false,false⟩
def ψJ.ctr:Ctr:=⟨ψJ.sig,fun x=>ψJ.f x.1 x.2.1 x.2.2⟩
def ψJ.env:Env:=[]
def ψJ.ann:Ann:=⟨[],[],[]⟩
theorem ψJ.ok:φ1 Try.prog 90 ψJ.ctr:=fS (A:=ψJ.ann) φ0.nil Try.func90 (by kernel_rfl) (by kernel_rfl) (fun x=>by kernel_rfl)
def ψP.sig:Sig:=⟨[.val (.sl false (.pair .bool (.pair (.sl false (.pair .str tyI)) (.sl false tyP)))),.val (.pair tyI (.pair tyI tyF))],[.val .bool],false,false⟩
def ψP.ctr:Ctr:=⟨ψP.sig,fun x=>ψP.f x.1 x.2⟩
def ψP.env:Env:=[(90,[ψJ.ctr])]
def ψP.ann:Ann:=⟨[],[],[]⟩
theorem ψP.ok:φ1 Try.prog 84 ψP.ctr:=fS (A:=ψP.ann) (eC ψJ.ok φ0.nil) Try.func84 (by kernel_rfl) (by kernel_rfl) (fun x=>by kernel_rfl)
def ψ3.sig:Sig:=⟨[.val .str],[.val .bool],false,false⟩
def ψ3.ctr:Ctr:=⟨ψ3.sig,fun x=>ψ3.f x⟩
def ψ3.env:Env:=[(90,[ψJ.ctr])]
def ψ3.ann:Ann:=⟨[],[],[]⟩
theorem ψ3.ok:φ1 Try.prog 91 ψ3.ctr:=fS (A:=ψ3.ann) (eC ψJ.ok φ0.nil) Try.func91 (by kernel_rfl) (by kernel_rfl) (fun x=>by kernel_rfl)
def ψB.sig:Sig:=⟨[.val (.pair .bool (.pair (.sl false (.pair .str tyI)) (.sl false tyP))),.val .str],[.val tyP,.val .bool],false,false⟩
def ψB.ctr:Ctr:=⟨ψB.sig,fun x=>ψB.f x.1 x.2⟩
def ψB.env:Env:=[]
def ψB.ann:Ann:=⟨[(0,([(1,.val .str),(2,.ptr (.pair .bool (.pair (.sl false (.pair .str tyI)) (.sl false tyP)))),(4,.ptr tyP),(6,.val tyI)],[(.exit 0,[(4,.ptr tyP)]),(.ret,[(4,.ptr tyP),(5,.val .bool)])]))],[],[]⟩
theorem ψB.ok:φ1 Try.prog 99 ψB.ctr:=fS (A:=ψB.ann) φ0.nil Try.func99 (by kernel_rfl) (by kernel_rfl) (fun x=>by kernel_rfl)
def ψL.sig:Sig:=⟨[.val (.pair .bool (.pair (.sl false (.pair .str tyI)) (.sl false tyP))),.val .str],[.val (.pair tyI (.pair .str (.sl true .str))),.val .bool],false,false⟩
def ψL.ctr:Ctr:=⟨ψL.sig,fun x=>ψL.f x.1 x.2⟩
def ψL.env:Env:=[(99,[ψB.ctr])]
def ψL.ann:Ann:=⟨[],[],[]⟩
theorem ψL.ok:φ1 Try.prog 92 ψL.ctr:=fS (A:=ψL.ann) (eC ψB.ok φ0.nil) Try.func92 (by kernel_rfl) (by kernel_rfl) (fun x=>by kernel_rfl)
def ψM.sig:Sig:=⟨[.val (.sl false tyF),.val .str],[.val tyF,.val .bool],false,false⟩
def ψM.ctr:Ctr:=⟨ψM.sig,fun x=>ψM.f x.1 x.2⟩
def ψM.env:Env:=[]
def ψM.ann:Ann:=⟨[(0,([(1,.val .str),(4,.ptr tyF),(8,.val (.sl false tyF)),(9,.val tyI),(10,.val tyI)],[(.exit 0,[(4,.ptr tyF)]),(.ret,[(4,.ptr tyF),(5,.val .bool)])]))],[],[]⟩
theorem ψM.ok:φ1 Try.prog 93 ψM.ctr:=fS (A:=ψM.ann) φ0.nil Try.func93 (by kernel_rfl) (by kernel_rfl) (fun x=>by kernel_rfl)
def ψG.sig:Sig:=⟨[.val (.sl false tyP)],[.val (.sl true tyP)],false,false⟩
def ψG.ctr:Ctr:=⟨ψG.sig,fun x=>ψG.f x⟩
def ψG.env:Env:=[]
def ψG.ann:Ann:=⟨[],[],[]⟩
theorem ψG.ok:φ1 Try.prog 104 ψG.ctr:=fS (A:=ψG.ann) φ0.nil Try.func104 (by kernel_rfl) (by kernel_rfl) (fun x=>by kernel_rfl)
def ψH.sig:Sig:=⟨[.val (.pair .bool (.pair (.sl false (.pair .str tyI)) (.sl false tyP)))],[.val (.pair .bool (.pair (.sl true (.pair .str tyI)) (.sl true tyP)))],false,false⟩
def ψH.ctr:Ctr:=⟨ψH.sig,fun x=>ψH.f x⟩
def ψH.env:Env:=[(104,[ψG.ctr])]
def ψH.ann:Ann:=⟨[],[],[]⟩
theorem ψH.ok:φ1 Try.prog 101 ψH.ctr:=fS (A:=ψH.ann) (eC ψG.ok φ0.nil) Try.func101 (by kernel_rfl) (by kernel_rfl) (fun x=>by kernel_rfl)
def ψC.sig:Sig:=⟨[.val (.pair .bool (.pair (.sl false (.pair .str tyI)) (.sl false tyP))),.val .str,.val tyI],[.val (.pair .bool (.pair (.sl true (.pair .str tyI)) (.sl true tyP))),.val tyI],false,false⟩
def ψC.ctr:Ctr:=⟨ψC.sig,fun x=>ψC.f x.1 x.2.1 x.2.2⟩
def ψC.env:Env:=[(91,[ψ3.ctr]),(101,[ψH.ctr])]
def ψC.ann:Ann:=⟨[(0,([(1,.val .str),(2,.val tyI),(3,.ptr (.pair .bool (.pair (.sl false (.pair .str tyI)) (.sl false tyP)))),(6,.ptr (.pair .bool (.pair (.sl true (.pair .str tyI)) (.sl true tyP)))),(8,.ptr (.pair .bool (.pair (.sl true (.pair .str tyI)) (.sl true tyP)))),(9,.val .bool),(24,.val (.sl false (.pair .str tyI))),(25,.val tyI),(26,.val tyI)],[(.exit 0,[(1,.val .str),(2,.val tyI),(3,.ptr (.pair .bool (.pair (.sl false (.pair .str tyI)) (.sl false tyP)))),(6,.ptr (.pair .bool (.pair (.sl true (.pair .str tyI)) (.sl true tyP)))),(8,.ptr (.pair .bool (.pair (.sl true (.pair .str tyI)) (.sl true tyP)))),(9,.val .bool)]),(.ret,[(6,.ptr (.pair .bool (.pair (.sl true (.pair .str tyI)) (.sl true tyP)))),(7,.val tyI)])]))],[(1,[(.normal,[(1,.val .str),(2,.val tyI),(3,.ptr (.pair .bool (.pair (.sl false (.pair .str tyI)) (.sl false tyP)))),(6,.ptr (.pair .bool (.pair (.sl true (.pair .str tyI)) (.sl true tyP)))),(8,.ptr (.pair .bool (.pair (.sl true (.pair .str tyI)) (.sl true tyP)))),(9,.val .bool),(24,.val (.sl false (.pair .str tyI))),(25,.val tyI),(26,.val tyI)]),(.ret,[(6,.ptr (.pair .bool (.pair (.sl true (.pair .str tyI)) (.sl true tyP)))),(7,.val tyI)])])],[]⟩
theorem ψC.ok:φ1 Try.prog 100 ψC.ctr:=fS (A:=ψC.ann) (eC ψ3.ok (eC ψH.ok φ0.nil)) Try.func100 (by kernel_rfl) (by kernel_rfl) (fun x=>by kernel_rfl)
def ψO.sig:Sig:=⟨[.val (.pair .bool (.pair (.sl false (.pair .str tyI)) (.sl false tyP))),.val .str,.val tyF,.val tyI],[.val (.pair .bool (.pair (.sl true (.pair .str tyI)) (.sl true tyP))),.val (.pair tyI (.pair .str (.sl true .str)))],false,false⟩
def ψO.ctr:Ctr:=⟨ψO.sig,fun x=>ψO.f x.1 x.2.1 x.2.2.1 x.2.2.2⟩
def ψO.env:Env:=[(100,[ψC.ctr])]
def ψO.ann:Ann:=⟨[],[],[]⟩
theorem ψO.ok:φ1 Try.prog 94 ψO.ctr:=fS (A:=ψO.ann) (eC ψC.ok φ0.nil) Try.func94 (by kernel_rfl) (by kernel_rfl) (fun x=>by kernel_rfl)
def ψ7.sig:Sig:=⟨[.ptr (.pair .bool (.pair (.sl true tyF) (.pair tyI (.sl true (.pair .bool (.pair (.sl true (.pair .str tyI)) (.sl true tyP))))))),.val (.pair tyI (.pair tyI tyF))],[.val (.pair tyI (.pair .str (.sl true .str)))],false,false⟩
def ψ7.ctr:Ctr:=⟨ψ7.sig,fun x=>ψ7.f x.1 x.2⟩
def ψ7.env:Env:=[(91,[ψ3.ctr]),(92,[ψL.ctr]),(93,[ψM.ctr]),(94,[ψO.ctr])]
def ψ7.ann:Ann:=⟨[],[],[]⟩
theorem ψ7.ok:φ1 Try.prog 85 ψ7.ctr:=fS (A:=ψ7.ann) (eC ψ3.ok (eC ψL.ok (eC ψM.ok (eC ψO.ok φ0.nil)))) Try.func85 (by kernel_rfl) (by kernel_rfl) (fun x=>by kernel_rfl)
def ψN.sig:Sig:=⟨[.val tyP],[.val .bool],false,false⟩
def ψN.ctr:Ctr:=⟨ψN.sig,fun x=>ψN.f x⟩
def ψN.env:Env:=[(91,[ψ3.ctr])]
def ψN.ann:Ann:=⟨[],[],[]⟩
theorem ψN.ok:φ1 Try.prog 96 ψN.ctr:=fS (A:=ψN.ann) (eC ψ3.ok φ0.nil) Try.func96 (by kernel_rfl) (by kernel_rfl) (fun x=>by kernel_rfl)
def ψK.sig:Sig:=⟨[.val (.sl false tyP)],[.val (.sl true tyP)],false,false⟩
def ψK.ctr:Ctr:=⟨ψK.sig,fun x=>ψK.f x⟩
def ψK.env:Env:=[]
def ψK.ann:Ann:=⟨[(2,([(3,.val (.sl true tyP)),(5,.ptr tyP),(6,.val tyI),(9,.val (.sl false tyP)),(10,.val tyI),(11,.val tyI),(15,.dup 3),(16,.val tyI),(17,.val tyI)],[(.exit 2,[(3,.val (.sl true tyP)),(5,.ptr tyP),(6,.val tyI),(9,.val (.sl false tyP)),(10,.val tyI),(11,.val tyI)])])),(0,([(3,.val (.sl true tyP)),(9,.val (.sl false tyP)),(10,.val tyI),(11,.val tyI)],[(.exit 0,[(3,.val (.sl true tyP))])]))],[],[(9,[(.normal,[(3,.val (.sl true tyP)),(5,.ptr tyP),(6,.val tyI),(9,.val (.sl false tyP)),(10,.val tyI),(11,.val tyI),(15,.dup 3),(16,.val tyI),(17,.val tyI)])]),(12,[(.normal,[(3,.val (.sl true tyP)),(9,.val (.sl false tyP)),(10,.val tyI),(11,.val tyI)])])]⟩
theorem ψK.ok:φ1 Try.prog 102 ψK.ctr:=fS (A:=ψK.ann) φ0.nil Try.func102 (by kernel_rfl) (by kernel_rfl) (fun x=>by kernel_rfl)
def ψA.sig:Sig:=⟨[.val (.pair .bool (.pair (.sl false (.pair .str tyI)) (.sl false tyP)))],[.val (.sl true tyP)],false,false⟩
def ψA.ctr:Ctr:=⟨ψA.sig,fun x=>ψA.f x⟩
def ψA.env:Env:=[(102,[ψK.ctr])]
def ψA.ann:Ann:=⟨[],[],[]⟩
theorem ψA.ok:φ1 Try.prog 97 ψA.ctr:=fS (A:=ψA.ann) (eC ψK.ok φ0.nil) Try.func97 (by kernel_rfl) (by kernel_rfl) (fun x=>by kernel_rfl)
def ψD.sig:Sig:=⟨[.val (.pair .bool (.pair (.sl false (.pair .str tyI)) (.sl false tyP))),.val tyP],[.val (.pair .bool (.pair (.sl true (.pair .str tyI)) (.sl true tyP))),.val .bool],false,false⟩
def ψD.ctr:Ctr:=⟨ψD.sig,fun x=>ψD.f x.1 x.2⟩
def ψD.env:Env:=[(96,[ψN.ctr]),(97,[ψA.ctr]),(101,[ψH.ctr])]
def ψD.ann:Ann:=⟨[],[],[]⟩
theorem ψD.ok:φ1 Try.prog 95 ψD.ctr:=fS (A:=ψD.ann) (eC ψN.ok (eC ψA.ok (eC ψH.ok φ0.nil))) Try.func95 (by kernel_rfl) (by kernel_rfl) (fun x=>by kernel_rfl)
def ψR.sig:Sig:=⟨[.val (.pair .bool (.pair (.sl false (.pair .str tyI)) (.sl false tyP))),.val (.pair tyI (.pair tyI tyF))],[.val (.pair .bool (.pair (.sl true (.pair .str tyI)) (.sl true tyP))),.val (.pair tyI (.pair .str (.sl true .str)))],false,false⟩
def ψR.ctr:Ctr:=⟨ψR.sig,fun x=>ψR.f x.1 x.2⟩
def ψR.env:Env:=[(95,[ψD.ctr]),(96,[ψN.ctr])]
def ψR.ann:Ann:=⟨[],[],[]⟩
theorem ψR.ok:φ1 Try.prog 86 ψR.ctr:=fS (A:=ψR.ann) (eC ψD.ok (eC ψN.ok φ0.nil)) Try.func86 (by kernel_rfl) (by kernel_rfl) (fun x=>by kernel_rfl)
def ψF.sig:Sig:=⟨[.val (.sl false tyF)],[.val (.sl true tyF)],false,false⟩
def ψF.ctr:Ctr:=⟨ψF.sig,fun x=>ψF.f x⟩
def ψF.env:Env:=[]
def ψF.ann:Ann:=⟨[],[],[]⟩
theorem ψF.ok:φ1 Try.prog 39 ψF.ctr:=fS (A:=ψF.ann) φ0.nil Try.func39 (by kernel_rfl) (by kernel_rfl) (fun x=>by kernel_rfl)
def ψQ.sig:Sig:=⟨[.val (.sl false tyF),.val .str],[.val (.sl true tyF)],false,false⟩
def ψQ.ctr:Ctr:=⟨ψQ.sig,fun x=>ψQ.f x.1 x.2⟩
def ψQ.env:Env:=[]
def ψQ.ann:Ann:=⟨[(0,([(1,.val .str),(5,.val (.sl true tyF)),(8,.val (.sl false tyF)),(9,.val tyI),(10,.val tyI)],[(.exit 0,[(5,.val (.sl true tyF))])]))],[],[(5,[(.normal,[(1,.val .str),(5,.val (.sl true tyF)),(8,.val (.sl false tyF)),(9,.val tyI),(10,.val tyI)])])]⟩
theorem ψQ.ok:φ1 Try.prog 60 ψQ.ctr:=fS (A:=ψQ.ann) φ0.nil Try.func60 (by kernel_rfl) (by kernel_rfl) (fun x=>by kernel_rfl)
def ψ2.sig:Sig:=⟨[.val (.sl false tyF),.val (.sl false tyP),.val tyI],[.val (.sl true tyF)],false,false⟩
def ψ2.ctr:Ctr:=⟨ψ2.sig,fun x=>ψ2.f x.1 x.2.1 x.2.2⟩
def ψ2.env:Env:=[(39,[ψF.ctr]),(60,[ψQ.ctr])]
def ψ2.ann:Ann:=⟨[(2,([(2,.val tyI),(7,.val (.sl true tyF)),(9,.ptr tyP),(10,.val tyI),(13,.val (.sl false tyP)),(14,.val tyI),(15,.val tyI)],[(.exit 2,[(2,.val tyI),(7,.val (.sl true tyF)),(9,.ptr tyP),(10,.val tyI),(13,.val (.sl false tyP)),(14,.val tyI),(15,.val tyI)])])),(0,([(2,.val tyI),(7,.val (.sl true tyF)),(13,.val (.sl false tyP)),(14,.val tyI),(15,.val tyI)],[(.exit 0,[(7,.val (.sl true tyF))])]))],[(1,[(.normal,[(2,.val tyI),(7,.val (.sl true tyF)),(13,.val (.sl false tyP)),(14,.val tyI),(15,.val tyI)])])],[]⟩
theorem ψ2.ok:φ1 Try.prog 40 ψ2.ctr:=fS (A:=ψ2.ann) (eC ψF.ok (eC ψQ.ok φ0.nil)) Try.func40 (by kernel_rfl) (by kernel_rfl) (fun x=>by kernel_rfl)
def ψ0.sig:Sig:=⟨[.val (.sl false tyE),.val .str],[.val tyE,.val .bool],false,false⟩
def ψ0.ctr:Ctr:=⟨ψ0.sig,fun x=>ψ0.f x.1 x.2⟩
def ψ0.env:Env:=[]
def ψ0.ann:Ann:=⟨[(0,([(1,.val .str),(4,.ptr tyE),(8,.val (.sl false tyE)),(9,.val tyI),(10,.val tyI)],[(.exit 0,[(4,.ptr tyE)]),(.ret,[(4,.ptr tyE),(5,.val .bool)])]))],[],[]⟩
theorem ψ0.ok:φ1 Try.prog 103 ψ0.ctr:=fS (A:=ψ0.ann) φ0.nil Try.func103 (by kernel_rfl) (by kernel_rfl) (fun x=>by kernel_rfl)
def ψE.sig:Sig:=⟨[.val (.pair .bool (.pair (.sl false (.pair .str tyI)) (.sl false tyP))),.val (.sl false tyE)],[.val .bool],false,false⟩
def ψE.ctr:Ctr:=⟨ψE.sig,fun x=>ψE.f x.1 x.2⟩
def ψE.env:Env:=[(103,[ψ0.ctr])]
def ψE.ann:Ann:=⟨[(0,([(1,.val (.sl false tyE)),(10,.val (.sl false (.pair .str tyI))),(11,.val tyI),(12,.val tyI)],[(.exit 0,[]),(.ret,[(4,.val .bool)])]))],[],[]⟩
theorem ψE.ok:φ1 Try.prog 98 ψE.ctr:=fS (A:=ψE.ann) (eC ψ0.ok φ0.nil) Try.func98 (by kernel_rfl) (by kernel_rfl) (fun x=>by kernel_rfl)
def ψ6.sig:Sig:=⟨[.ptr (.pair .bool (.pair (.sl true tyF) (.pair tyI (.sl true (.pair .bool (.pair (.sl true (.pair .str tyI)) (.sl true tyP))))))),.val (.pair .bool (.pair (.sl false (.pair .str tyI)) (.sl false tyP)))],[.val (.pair tyI (.pair .str (.sl true .str)))],false,true⟩
def ψ6.ctr:Ctr:=⟨ψ6.sig,fun x=>ψ6.f x.1 x.2⟩
def ψ6.env:Env:=[(40,[ψ2.ctr]),(71,[ψI.ctr]),(97,[ψA.ctr]),(98,[ψE.ctr])]
def ψ6.ann:Ann:=⟨[],[],[]⟩
theorem ψ6.ok:φ1 Try.prog 87 ψ6.ctr:=fS (A:=ψ6.ann) (eC ψ2.ok (eC ψI.ok (eC ψA.ok (eC ψE.ok φ0.nil)))) Try.func87 (by kernel_rfl) (by kernel_rfl) (fun x=>by kernel_rfl)
def ψ8.sig:Sig:=⟨[.ptr (.pair .bool (.pair (.sl true tyF) (.pair tyI (.sl true (.pair .bool (.pair (.sl true (.pair .str tyI)) (.sl true tyP))))))),.val (.pair tyI (.pair tyI tyF))],[.val (.pair tyI (.pair .str (.sl true .str)))],false,false⟩
def ψ8.ctr:Ctr:=⟨ψ8.sig,fun x=>ψ8.f x.1 x.2⟩
def ψ8.env:Env:=[(84,[ψP.ctr]),(85,[ψ7.ctr]),(86,[ψR.ctr]),(87,[ψ6.ctr])]
def ψ8.ann:Ann:=⟨[],[],[]⟩
theorem ψ8.ok:φ1 Try.prog 72 ψ8.ctr:=fS (A:=ψ8.ann) (eC ψP.ok (eC ψ7.ok (eC ψR.ok (eC ψ6.ok φ0.nil)))) Try.func72 (by kernel_rfl) (by kernel_rfl) (fun x=>by kernel_rfl)
def ψ9.sig:Sig:=⟨[.ptr (.pair .bool (.pair (.sl true tyF) (.pair tyI (.sl true (.pair .bool (.pair (.sl true (.pair .str tyI)) (.sl true tyP))))))),.val (.pair tyI (.pair tyI tyF))],[.val (.pair tyI (.pair .str (.sl true .str)))],false,false⟩
def ψ9.ctr:Ctr:=⟨ψ9.sig,fun x=>ψ9.f x.1 x.2⟩
def ψ9.env:Env:=[(70,[ψ1.ctr]),(71,[ψI.ctr]),(72,[ψ8.ctr])]
def ψ9.ann:Ann:=⟨[],[],[]⟩
theorem ψ9.ok:φ1 Try.prog 48 ψ9.ctr:=fS (A:=ψ9.ann) (eC ψ1.ok (eC ψI.ok (eC ψ8.ok φ0.nil))) Try.func48 (by kernel_rfl) (by kernel_rfl) (fun x=>by kernel_rfl)
def ψ5.sig:Sig:=⟨[.val (.sl false (.pair tyI (.pair tyI tyF)))],[.val (.pair .bool (.pair (.sl true tyF) (.pair tyI (.sl true (.pair .bool (.pair (.sl true (.pair .str tyI)) (.sl true tyP))))))),.val (.sl true (.pair tyI (.pair .str (.sl true .str))))],false,false⟩
def ψ5.ctr:Ctr:=⟨ψ5.sig,fun x=>ψ5.f x⟩
def ψ5.env:Env:=[(7,[ψ4.ctr]),(48,[ψ9.ctr])]
def ψ5.ann:Ann:=⟨[(0,([(2,.ptr (.pair .bool (.pair (.sl true tyF) (.pair tyI (.sl true (.pair .bool (.pair (.sl true (.pair .str tyI)) (.sl true tyP)))))))),(4,.ptr (.pair .bool (.pair (.sl true tyF) (.pair tyI (.sl true (.pair .bool (.pair (.sl true (.pair .str tyI)) (.sl true tyP)))))))),(5,.val (.sl true (.pair tyI (.pair .str (.sl true .str))))),(10,.val (.sl false (.pair tyI (.pair tyI tyF)))),(11,.val tyI),(12,.val tyI)],[(.exit 0,[(2,.ptr (.pair .bool (.pair (.sl true tyF) (.pair tyI (.sl true (.pair .bool (.pair (.sl true (.pair .str tyI)) (.sl true tyP)))))))),(4,.ptr (.pair .bool (.pair (.sl true tyF) (.pair tyI (.sl true (.pair .bool (.pair (.sl true (.pair .str tyI)) (.sl true tyP)))))))),(5,.val (.sl true (.pair tyI (.pair .str (.sl true .str)))))])]))],[],[(6,[(.normal,[(2,.ptr (.pair .bool (.pair (.sl true tyF) (.pair tyI (.sl true (.pair .bool (.pair (.sl true (.pair .str tyI)) (.sl true tyP)))))))),(4,.ptr (.pair .bool (.pair (.sl true tyF) (.pair tyI (.sl true (.pair .bool (.pair (.sl true (.pair .str tyI)) (.sl true tyP)))))))),(5,.val (.sl true (.pair tyI (.pair .str (.sl true .str))))),(10,.val (.sl false (.pair tyI (.pair tyI tyF)))),(11,.val tyI),(12,.val tyI)])])]⟩
theorem ψ5.ok:φ1 Try.prog 25 ψ5.ctr:=fS (A:=ψ5.ann) (eC ψ4.ok (eC ψ9.ok φ0.nil)) Try.func25 (by kernel_rfl) (by kernel_rfl) (fun x=>by kernel_rfl)
def ψe.sig:Sig:=⟨[.val (.sl false .str),.val (.sl false .str)],[.val .bool],false,false⟩
def ψe.ctr:Ctr:=⟨ψe.sig,fun x=>ψe.f x.1 x.2⟩
def ψe.env:Env:=[]
def ψe.ann:Ann:=⟨[(0,([(0,.val (.sl false .str)),(1,.val (.sl false .str)),(5,.val tyI)],[(.exit 0,[]),(.ret,[(4,.val .bool)])]))],[],[]⟩
theorem ψe.ok:φ1 Try.prog 73 ψe.ctr:=fS (A:=ψe.ann) φ0.nil Try.func73 (by kernel_rfl) (by kernel_rfl) (fun x=>by kernel_rfl)
def ψT.sig:Sig:=⟨[.val (.pair tyI (.pair .str (.sl false .str))),.val (.pair tyI (.pair .str (.sl false .str)))],[.val .bool],false,false⟩
def ψT.ctr:Ctr:=⟨ψT.sig,fun x=>ψT.f x.1 x.2⟩
def ψT.env:Env:=[(73,[ψe.ctr])]
def ψT.ann:Ann:=⟨[],[],[]⟩
theorem ψT.ok:φ1 Try.prog 49 ψT.ctr:=fS (A:=ψT.ann) (eC ψe.ok φ0.nil) Try.func49 (by kernel_rfl) (by kernel_rfl) (fun x=>by kernel_rfl)
def ψU.sig:Sig:=⟨[.val (.sl false (.pair tyI (.pair .str (.sl false .str)))),.val (.sl false (.pair tyI (.pair .str (.sl false .str))))],[.val .bool],false,false⟩
def ψU.ctr:Ctr:=⟨ψU.sig,fun x=>ψU.f x.1 x.2⟩
def ψU.env:Env:=[(49,[ψT.ctr])]
def ψU.ann:Ann:=⟨[(0,([(0,.val (.sl false (.pair tyI (.pair .str (.sl false .str))))),(1,.val (.sl false (.pair tyI (.pair .str (.sl false .str))))),(5,.val tyI)],[(.exit 0,[]),(.ret,[(4,.val .bool)])]))],[],[]⟩
theorem ψU.ok:φ1 Try.prog 26 ψU.ctr:=fS (A:=ψU.ann) (eC ψT.ok φ0.nil) Try.func26 (by kernel_rfl) (by kernel_rfl) (fun x=>by kernel_rfl)
def ψc.sig:Sig:=⟨[.val (.pair tyI (.pair tyI tyF)),.val (.pair tyI (.pair tyI tyF))],[.val .bool],false,false⟩
def ψc.ctr:Ctr:=⟨ψc.sig,fun x=>ψc.f x.1 x.2⟩
def ψc.env:Env:=[]
def ψc.ann:Ann:=⟨[],[],[]⟩
theorem ψc.ok:φ1 Try.prog 50 ψc.ctr:=fS (A:=ψc.ann) φ0.nil Try.func50 (by kernel_rfl) (by kernel_rfl) (fun x=>by kernel_rfl)
def ψd.sig:Sig:=⟨[.val (.sl false (.pair tyI (.pair tyI tyF))),.val (.sl false (.pair tyI (.pair tyI tyF)))],[.val .bool],false,false⟩
def ψd.ctr:Ctr:=⟨ψd.sig,fun x=>ψd.f x.1 x.2⟩
def ψd.env:Env:=[(50,[ψc.ctr])]
def ψd.ann:Ann:=⟨[(0,([(0,.val (.sl false (.pair tyI (.pair tyI tyF)))),(1,.val (.sl false (.pair tyI (.pair tyI tyF)))),(5,.val tyI)],[(.exit 0,[]),(.ret,[(4,.val .bool)])]))],[],[]⟩
theorem ψd.ok:φ1 Try.prog 27 ψd.ctr:=fS (A:=ψd.ann) (eC ψc.ok φ0.nil) Try.func27 (by kernel_rfl) (by kernel_rfl) (fun x=>by kernel_rfl)
def ψt.sig:Sig:=⟨[.io (.sl true (.pair tyI (.pair tyI tyF))),.val tyI],[.val tyI],false,false⟩
def ψt.ctr:Ctr:=⟨ψt.sig,fun x=>ψt.f x.1 x.2⟩
def ψt.env:Env:=[(43,[ψv.ctr])]
def ψt.ann:Ann:=⟨[(0,([(0,.val (.sl true (.pair tyI (.pair tyI tyF)))),(1,.val tyI),(5,.val tyI)],[(.exit 0,[(0,.val (.sl true (.pair tyI (.pair tyI tyF)))),(1,.val tyI)])]))],[],[]⟩
theorem ψt.ok:φ1 Try.prog 28 ψt.ctr:=fS (A:=ψt.ann) (eC ψv.ok φ0.nil) Try.func28 (by kernel_rfl) (by kernel_rfl) (fun x=>by kernel_rfl)
def ψu.sig:Sig:=⟨[.io (.sl true .str),.val tyI],[.val tyI],false,false⟩
def ψu.ctr:Ctr:=⟨ψu.sig,fun x=>ψu.f x.1 x.2⟩
def ψu.env:Env:=[(43,[ψv.ctr])]
def ψu.ann:Ann:=⟨[(0,([(0,.val (.sl true .str)),(1,.val tyI),(5,.val tyI)],[(.exit 0,[(0,.val (.sl true .str)),(1,.val tyI)])]))],[],[]⟩
theorem ψu.ok:φ1 Try.prog 51 ψu.ctr:=fS (A:=ψu.ann) (eC ψv.ok φ0.nil) Try.func51 (by kernel_rfl) (by kernel_rfl) (fun x=>by kernel_rfl)
def ψo.sig:Sig:=⟨[.io (.sl true (.pair tyI (.pair .str (.sl true .str)))),.val tyI],[.val tyI],true,false⟩
def ψo.ctr:Ctr:=⟨ψo.sig,fun x=>ψo.f x.1 x.2⟩
def ψo.env:Env:=[(43,[ψv.ctr]),(51,[ψu.ctr]),(1000000007,[]),(1000000008,[])]
def ψo.ann:Ann:=⟨[(0,([(0,.val (.sl true (.pair tyI (.pair .str (.sl true .str))))),(1,.val tyI),(5,.val tyI)],[(.exit 0,[(0,.val (.sl true (.pair tyI (.pair .str (.sl true .str))))),(1,.val tyI)])]))],[],[]⟩
theorem ψo.ok:φ1 Try.prog 29 ψo.ctr:=fS (A:=ψo.ann) (eC ψv.ok (eC ψu.ok (φ0.cons (g:=1000000007) φ2D (φ0.cons (g:=1000000008) φ2D φ0.nil)))) Try.func29 (by kernel_rfl) (by kernel_rfl) (fun x=>by kernel_rfl)
def ψm.sig:Sig:=⟨[.val (.sl false .str),.val tyI],[.val tyI],false,false⟩
def ψm.ctr:Ctr:=⟨ψm.sig,fun x=>ψm.f x.1 x.2⟩
def ψm.env:Env:=[(43,[ψv.ctr])]
def ψm.ann:Ann:=⟨[(0,([(0,.val (.sl false .str)),(1,.val tyI),(5,.val tyI)],[(.exit 0,[(1,.val tyI)]),(.ret,[(4,.val tyI)])]))],[],[]⟩
theorem ψm.ok:φ1 Try.prog 52 ψm.ctr:=fS (A:=ψm.ann) (eC ψv.ok φ0.nil) Try.func52 (by kernel_rfl) (by kernel_rfl) (fun x=>by kernel_rfl)
def ψh.sig:Sig:=⟨[.val (.sl false (.pair tyI (.pair .str (.sl false .str)))),.val tyI],[.val tyI],false,false⟩
def ψh.ctr:Ctr:=⟨ψh.sig,fun x=>ψh.f x.1 x.2⟩
def ψh.env:Env:=[(43,[ψv.ctr]),(52,[ψm.ctr])]
def ψh.ann:Ann:=⟨[(0,([(0,.val (.sl false (.pair tyI (.pair .str (.sl false .str))))),(1,.val tyI),(5,.val tyI)],[(.exit 0,[(1,.val tyI)]),(.ret,[(4,.val tyI)])]))],[],[]⟩
theorem ψh.ok:φ1 Try.prog 30 ψh.ctr:=fS (A:=ψh.ann) (eC ψv.ok (eC ψm.ok φ0.nil)) Try.func30 (by kernel_rfl) (by kernel_rfl) (fun x=>by kernel_rfl)
def ψS.sig:Sig:=⟨[.val (.sl false (.pair tyI (.pair tyI tyF)))],[.val .bool],false,false⟩
def ψS.ctr:Ctr:=⟨ψS.sig,fun x=>ψS.f x⟩
def ψS.env:Env:=[(8,[ψV.ctr]),(9,[ψp.ctr]),(10,[ψi.ctr]),(22,[ψy.ctr]),(23,[ψ16.ctr]),(24,[ψ10.ctr]),(25,[ψ5.ctr]),(26,[ψU.ctr]),(27,[ψd.ctr]),(28,[ψt.ctr]),(29,[ψo.ctr]),(30,[ψh.ctr]),(1000000008,[])]
def ψS.ann:Ann:=⟨[],[],[]⟩
theorem ψS.ok:φ1 Try.prog 5 ψS.ctr:=fS (A:=ψS.ann) (eC ψV.ok (eC ψp.ok (eC ψi.ok (eC ψy.ok (eC ψ16.ok (eC ψ10.ok (eC ψ5.ok (eC ψU.ok (eC ψd.ok (eC ψt.ok (eC ψo.ok (eC ψh.ok (φ0.cons (g:=1000000008) φ2D φ0.nil))))))))))))) Try.func5 (by kernel_rfl) (by kernel_rfl) (fun x=>by kernel_rfl)
end
end Go.Proofs.Ytaijadchooalpaa
