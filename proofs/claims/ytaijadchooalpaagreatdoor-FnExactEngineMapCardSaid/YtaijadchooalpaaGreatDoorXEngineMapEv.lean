import Derived.Test.YtaijadchooalpaaGreatDoorShelf
import Derived.Lib.AppendIntMem
import Derived.Test.YtaijadchooalpaaGreatDoorRf5
import Derived.Test.YtaijadchooalpaaGreatDoorXEngineMapFns
import Derived.Test.YtaijadchooalpaaGreatDoorProg
open Option renaming bind_some→bS
open List renaming length_append→lA,append_assoc→aA,mem_cons_of_mem→mC,mem_append→mA,mem_append_right→mR,mem_append_left→mL,mem_cons→mc,drop_eq_getElem_cons→dG,length_take→lT,length_drop→lD,mem_map→mM,length_map→lM,length_cons→lC,length_nil→lN,getElem_mem→gM,map_append→mp,mem_singleton→mZ,append_nil→κ3,nodup_append→κ4,mem_cons_self→κ5,take_append_drop→κ7,take_succ_eq_append_getElem→κ8,flatMap_append→κ9,map_cons→κC,nodup_cons→κE,range'→κF,cons_append→κH,replicate→κI
open Bool renaming and_eq_true→bA,eq_false_or_eq_true→bE,not_true→nZ,not_false→nF,true_and→tA,not_not→nn,or_eq_false_iff→κ6
open Int renaming toNat_natCast→tN,ofNat_lt→oL
open Nat renaming eq_of_beq_eq_true→κ0,lt_or_ge→κ1,lt_of_lt_of_le→κ2,le_of_ble_eq_true→κA,zero_le→κB,le_refl→κD,pow_succ→κJ
open Array renaming length_toList→κG
set_option linter.unusedVariables false
set_option linter.unusedSimpArgs false
namespace Go.Proofs.YtaijadchooalpaaGreatDoor
noncomputable section
open Go Go.Rf Go.Rf.G Go.Proofs Go.Lib
set_option maxRecDepth 100000
abbrev tyR:Ty:=.pair (.int .i64) (.pair (.int .i64) (.pair .str (.pair .str (.pair (.int .i64) (.int .i64)))))
abbrev tyE:Ty:=.pair .str (.pair (.int .i64) (.pair (.int .i64) (.pair (.int .i64) (.int .i64))))
abbrev tyF:Ty:=.pair .str (.pair .str (.int .i64))
abbrev tyP:Ty:=.pair .str (.pair .bool .str)
abbrev tyD:Ty:=.pair (.sl true tyF) (.pair (.int .i64) (.pair (.int .i64) .bool))
abbrev tyS:Ty:=.pair (.pair (.int .i64) (.sl true (.int .i64))) (.pair (.sl true tyE) (.pair (.int .i64) (.pair (.int .i64) (.int .i64))))
abbrev tyd:Ty:=.pair (.sl false tyF) (.pair (.int .i64) (.pair (.int .i64) .bool))
abbrev tys:Ty:=.pair (.pair (.int .i64) (.sl false (.int .i64))) (.pair (.sl false tyE) (.pair (.int .i64) (.pair (.int .i64) (.int .i64))))
abbrev tyI:Ty:=.int .i64
def φ4g (f:Func):Code:=f.body.getD .skip
def tab:Tab:=[(3,⟨tyI,false,[],none,8,false⟩),
 (4,⟨.bool,false,[],none,1,false⟩),
 (5,⟨(.int .u8),false,[],none,1,false⟩),
 (9,⟨.str,false,[],none,16,false⟩),
 (22,⟨(.sl true tyI),false,[],some 3,24,false⟩),
 (24,⟨(.pair tyI (.sl true tyI)),true,[(0,1,false),(1,1,false)],none,32,false⟩),
 (25,⟨(.sl true tyE),false,[],some 145,24,false⟩),
 (27,⟨tyS,true,[(0,2,true),(2,1,false),(3,1,false),(4,1,false),(5,1,false)],none,80,false⟩),
 (28,⟨(.sl true tyF),false,[],some 110,24,false⟩),
 (30,⟨tyD,true,[(0,1,false),(1,1,false),(2,1,false),(3,1,false)],none,48,false⟩),
 (31,⟨(.sl true (.pair .bool (.pair (.sl true (.pair .str tyI)) (.sl true tyP)))),false,[],some 86,24,false⟩),
 (33,⟨(.pair .bool (.pair tyS (.pair tyD (.sl true (.pair .bool (.pair (.sl true (.pair .str tyI)) (.sl true tyP))))))),true,[(0,1,false),(1,6,true),(7,4,true),(11,1,false)],none,160,false⟩),
 (35,⟨(.sl true tyF),false,[],some 68,24,false⟩),
 (38,⟨(.pair tyI (.sl true tyI)),true,[(0,1,false),(1,1,false)],none,32,false⟩),
 (39,⟨(.sl true tyE),false,[],some 90,24,false⟩),
 (41,⟨tyS,true,[(0,2,true),(2,1,false),(3,1,false),(4,1,false),(5,1,false)],none,80,false⟩),
 (42,⟨(.sl true tyF),false,[],some 135,24,false⟩),
 (44,⟨tyD,true,[(0,1,false),(1,1,false),(2,1,false),(3,1,false)],none,48,false⟩),
 (45,⟨(.sl true (.pair .bool (.pair (.sl true (.pair .str tyI)) (.sl true tyP)))),false,[],some 96,24,false⟩),
 (47,⟨(.pair .bool (.pair tyS (.pair tyD (.sl true (.pair .bool (.pair (.sl true (.pair .str tyI)) (.sl true tyP))))))),true,[(0,1,false),(1,6,true),(7,4,true),(11,1,false)],none,160,false⟩),
 (68,⟨tyF,true,[(0,1,false),(1,1,false),(2,1,false)],none,40,true⟩),
 (83,⟨(.sl true (.pair .str tyI)),false,[],some 201,24,false⟩),
 (84,⟨(.sl true tyP),false,[],some 203,24,false⟩),
 (86,⟨(.pair .bool (.pair (.sl true (.pair .str tyI)) (.sl true tyP))),true,[(0,1,false),(1,1,false),(2,1,false)],none,56,false⟩),
 (90,⟨tyE,true,[(0,1,false),(1,1,false),(2,1,false),(3,1,false),(4,1,false)],none,48,true⟩),
 (93,⟨(.sl true (.pair .str tyI)),false,[],some 163,24,false⟩),
 (94,⟨(.sl true tyP),false,[],some 165,24,false⟩),
 (96,⟨(.pair .bool (.pair (.sl true (.pair .str tyI)) (.sl true tyP))),true,[(0,1,false),(1,1,false),(2,1,false)],none,56,false⟩),
 (98,⟨(.sl true .str),false,[],some 9,24,false⟩),
 (107,⟨(.sl true (.int .u8)),false,[],some 5,24,false⟩),
 (110,⟨tyF,true,[(0,1,false),(1,1,false),(2,1,false)],none,40,true⟩),
 (135,⟨tyF,true,[(0,1,false),(1,1,false),(2,1,false)],none,40,true⟩),
 (145,⟨tyE,true,[(0,1,false),(1,1,false),(2,1,false),(3,1,false),(4,1,false)],none,48,true⟩),
 (151,⟨tyR,true,[(0,1,false),(1,1,false),(2,1,false),(3,1,false),(4,1,false),(5,1,false)],none,64,true⟩),
 (163,⟨(.pair .str tyI),true,[(0,1,false),(1,1,false)],none,24,true⟩),
 (165,⟨tyP,true,[(0,1,false),(1,1,false),(2,1,false)],none,40,true⟩),
 (201,⟨(.pair .str tyI),true,[(0,1,false),(1,1,false)],none,24,true⟩),
 (203,⟨tyP,true,[(0,1,false),(1,1,false),(2,1,false)],none,40,true⟩),
 (228,⟨(.pair .str .bool),true,[(0,1,false),(1,1,false)],none,24,true⟩),
 (248,⟨(.int .u32),false,[],none,4,false⟩)]
theorem tabOk:φM Tryz.prog tab:=Rf.tabOk (by kernel_rfl)
theorem φ9m:Tryz.prog.follows .mixedOrders=true:=by kernel_rfl
instance laid:Laid:=φ95 Tryz.prog "internal/strconv.uint64pow10" .u64 Lib.pow10Tab
theorem eC {g:Nat} {c:Ctr} {E:Env} (h:φ0 Tryz.prog g c) (k:φ1 Tryz.prog E):φ1 Tryz.prog ((g,[c])::E):=φ1.cons (φ8f h φ3Q) k
theorem fS {A:Ann} {E:Env} {g:Nat} {fn:Func} {ctr:Ctr} (hE:φ1 Tryz.prog E) (hf:Tryz.prog.funcs[g]?=some fn) (hn:(fn.name == "runtime.NumGoroutine")=false) (hb:fn.body=some (φ4g fn)) (hev:∀x,evF tab E A ctr.g fn.ntmps fn.results.toList (φ4g fn) x=ctr.fn x):φ0 Tryz.prog g ctr:=φBR (A:=A) tabOk hE φ9m (fn:=fn) (body:=φ4g fn) hf hn hb hev
def ψ11.sig:Sig:=⟨[.val tyF,.val tyI],[.val tyI],false⟩
def ψ11.ctr:Ctr:=⟨ψ11.sig,fun x=>ψ11.f x.1 x.2⟩
def ψ11.env:Env:=[]
def ψ11.ann:Ann:=⟨[],[],[]⟩
theorem ψ11.ok:φ0 Tryz.prog 58 ψ11.ctr:=fS (A:=ψ11.ann) φ1.nil Tryz.func58 (by kernel_rfl) (by kernel_rfl) (fun x=>by kernel_rfl)
def ψ12.sig:Sig:=⟨[.val (.sl false tyF),.val tyI],[.val tyI],false⟩
def ψ12.ctr:Ctr:=⟨ψ12.sig,fun x=>ψ12.f x.1 x.2⟩
def ψ12.env:Env:=[(58,[ψ11.ctr])]
def ψ12.ann:Ann:=⟨[(0,([(0,.val (.sl false tyF)),(1,.val tyI),(5,.val tyI)],[(.exit 0,[(1,.val tyI)]),(.ret,[(4,.val tyI)])]))],[],[]⟩
theorem ψ12.ok:φ0 Tryz.prog 33 ψ12.ctr:=fS (A:=ψ12.ann) (eC ψ11.ok φ1.nil) Tryz.func33 (by kernel_rfl) (by kernel_rfl) (fun x=>by kernel_rfl)
def ψx.sig:Sig:=⟨[.val tyd,.val tyI],[.val tyI],false⟩
def ψx.ctr:Ctr:=⟨ψx.sig,fun x=>ψx.f x.1 x.2⟩
def ψx.env:Env:=[(33,[ψ12.ctr])]
def ψx.ann:Ann:=⟨[],[],[]⟩
theorem ψx.ok:φ0 Tryz.prog 14 ψx.ctr:=fS (A:=ψx.ann) (eC ψ12.ok φ1.nil) Tryz.func14 (by kernel_rfl) (by kernel_rfl) (fun x=>by kernel_rfl)
def ψ13.sig:Sig:=⟨[.val (.sl false tyI),.val tyI],[.val tyI],false⟩
def ψ13.ctr:Ctr:=⟨ψ13.sig,fun x=>ψ13.f x.1 x.2⟩
def ψ13.env:Env:=[]
def ψ13.ann:Ann:=⟨[],[],[]⟩
theorem ψ13.ok:φ0 Tryz.prog 87 ψ13.ctr:=fS (A:=ψ13.ann) φ1.nil Tryz.func87 (by kernel_rfl) (by kernel_rfl) (fun x=>by kernel_rfl)
def ψ14.sig:Sig:=⟨[.val (.pair tyI (.sl false tyI)),.val tyI],[.val tyI],false⟩
def ψ14.ctr:Ctr:=⟨ψ14.sig,fun x=>ψ14.f x.1 x.2⟩
def ψ14.env:Env:=[(87,[ψ13.ctr])]
def ψ14.ann:Ann:=⟨[],[],[]⟩
theorem ψ14.ok:φ0 Tryz.prog 42 ψ14.ctr:=fS (A:=ψ14.ann) (eC ψ13.ok φ1.nil) Tryz.func42 (by kernel_rfl) (by kernel_rfl) (fun x=>by kernel_rfl)
def ψz.sig:Sig:=⟨[.val tyE,.val tyI],[.val tyI],false⟩
def ψz.ctr:Ctr:=⟨ψz.sig,fun x=>ψz.f x.1 x.2⟩
def ψz.env:Env:=[]
def ψz.ann:Ann:=⟨[],[],[]⟩
theorem ψz.ok:φ0 Tryz.prog 88 ψz.ctr:=fS (A:=ψz.ann) φ1.nil Tryz.func88 (by kernel_rfl) (by kernel_rfl) (fun x=>by kernel_rfl)
def ψ10.sig:Sig:=⟨[.val (.sl false tyE),.val tyI],[.val tyI],false⟩
def ψ10.ctr:Ctr:=⟨ψ10.sig,fun x=>ψ10.f x.1 x.2⟩
def ψ10.env:Env:=[(88,[ψz.ctr])]
def ψ10.ann:Ann:=⟨[(0,([(0,.val (.sl false tyE)),(1,.val tyI),(5,.val tyI)],[(.exit 0,[(1,.val tyI)]),(.ret,[(4,.val tyI)])]))],[],[]⟩
theorem ψ10.ok:φ0 Tryz.prog 43 ψ10.ctr:=fS (A:=ψ10.ann) (eC ψz.ok φ1.nil) Tryz.func43 (by kernel_rfl) (by kernel_rfl) (fun x=>by kernel_rfl)
def ψ19.sig:Sig:=⟨[.val tys,.val tyI],[.val tyI],false⟩
def ψ19.ctr:Ctr:=⟨ψ19.sig,fun x=>ψ19.f x.1 x.2⟩
def ψ19.env:Env:=[(42,[ψ14.ctr]),(43,[ψ10.ctr])]
def ψ19.ann:Ann:=⟨[],[],[]⟩
theorem ψ19.ok:φ0 Tryz.prog 21 ψ19.ctr:=fS (A:=ψ19.ann) (eC ψ14.ok (eC ψ10.ok φ1.nil)) Tryz.func21 (by kernel_rfl) (by kernel_rfl) (fun x=>by kernel_rfl)
def ψ17.sig:Sig:=⟨[.val (.pair .str tyI),.val tyI],[.val tyI],false⟩
def ψ17.ctr:Ctr:=⟨ψ17.sig,fun x=>ψ17.f x.1 x.2⟩
def ψ17.env:Env:=[]
def ψ17.ann:Ann:=⟨[],[],[]⟩
theorem ψ17.ok:φ0 Tryz.prog 142 ψ17.ctr:=fS (A:=ψ17.ann) φ1.nil Tryz.func142 (by kernel_rfl) (by kernel_rfl) (fun x=>by kernel_rfl)
def ψ18.sig:Sig:=⟨[.val (.sl false (.pair .str tyI)),.val tyI],[.val tyI],false⟩
def ψ18.ctr:Ctr:=⟨ψ18.sig,fun x=>ψ18.f x.1 x.2⟩
def ψ18.env:Env:=[(142,[ψ17.ctr])]
def ψ18.ann:Ann:=⟨[(0,([(0,.val (.sl false (.pair .str tyI))),(1,.val tyI),(5,.val tyI)],[(.exit 0,[(1,.val tyI)]),(.ret,[(4,.val tyI)])]))],[],[]⟩
theorem ψ18.ok:φ0 Tryz.prog 89 ψ18.ctr:=fS (A:=ψ18.ann) (eC ψ17.ok φ1.nil) Tryz.func89 (by kernel_rfl) (by kernel_rfl) (fun x=>by kernel_rfl)
def ψ15.sig:Sig:=⟨[.val tyP,.val tyI],[.val tyI],false⟩
def ψ15.ctr:Ctr:=⟨ψ15.sig,fun x=>ψ15.f x.1 x.2⟩
def ψ15.env:Env:=[]
def ψ15.ann:Ann:=⟨[],[],[]⟩
theorem ψ15.ok:φ0 Tryz.prog 143 ψ15.ctr:=fS (A:=ψ15.ann) φ1.nil Tryz.func143 (by kernel_rfl) (by kernel_rfl) (fun x=>by kernel_rfl)
def ψ16.sig:Sig:=⟨[.val (.sl false tyP),.val tyI],[.val tyI],false⟩
def ψ16.ctr:Ctr:=⟨ψ16.sig,fun x=>ψ16.f x.1 x.2⟩
def ψ16.env:Env:=[(143,[ψ15.ctr])]
def ψ16.ann:Ann:=⟨[(0,([(0,.val (.sl false tyP)),(1,.val tyI),(5,.val tyI)],[(.exit 0,[(1,.val tyI)]),(.ret,[(4,.val tyI)])]))],[],[]⟩
theorem ψ16.ok:φ0 Tryz.prog 90 ψ16.ctr:=fS (A:=ψ16.ann) (eC ψ15.ok φ1.nil) Tryz.func90 (by kernel_rfl) (by kernel_rfl) (fun x=>by kernel_rfl)
def ψ1A.sig:Sig:=⟨[.val (.pair .bool (.pair (.sl false (.pair .str tyI)) (.sl false tyP))),.val tyI],[.val tyI],false⟩
def ψ1A.ctr:Ctr:=⟨ψ1A.sig,fun x=>ψ1A.f x.1 x.2⟩
def ψ1A.env:Env:=[(89,[ψ18.ctr]),(90,[ψ16.ctr])]
def ψ1A.ann:Ann:=⟨[],[],[]⟩
theorem ψ1A.ok:φ0 Tryz.prog 44 ψ1A.ctr:=fS (A:=ψ1A.ann) (eC ψ18.ok (eC ψ16.ok φ1.nil)) Tryz.func44 (by kernel_rfl) (by kernel_rfl) (fun x=>by kernel_rfl)
def ψ1B.sig:Sig:=⟨[.val (.sl false (.pair .bool (.pair (.sl false (.pair .str tyI)) (.sl false tyP)))),.val tyI],[.val tyI],false⟩
def ψ1B.ctr:Ctr:=⟨ψ1B.sig,fun x=>ψ1B.f x.1 x.2⟩
def ψ1B.env:Env:=[(44,[ψ1A.ctr])]
def ψ1B.ann:Ann:=⟨[(0,([(0,.val (.sl false (.pair .bool (.pair (.sl false (.pair .str tyI)) (.sl false tyP))))),(1,.val tyI),(5,.val tyI)],[(.exit 0,[(1,.val tyI)]),(.ret,[(4,.val tyI)])]))],[],[]⟩
theorem ψ1B.ok:φ0 Tryz.prog 22 ψ1B.ctr:=fS (A:=ψ1B.ann) (eC ψ1A.ok φ1.nil) Tryz.func22 (by kernel_rfl) (by kernel_rfl) (fun x=>by kernel_rfl)
def ψy.sig:Sig:=⟨[.val (.pair .bool (.pair tys (.pair tyd (.sl false (.pair .bool (.pair (.sl false (.pair .str tyI)) (.sl false tyP))))))),.val tyI],[.val tyI],false⟩
def ψy.ctr:Ctr:=⟨ψy.sig,fun x=>ψy.f x.1 x.2⟩
def ψy.env:Env:=[(14,[ψx.ctr]),(21,[ψ19.ctr]),(22,[ψ1B.ctr])]
def ψy.ann:Ann:=⟨[],[],[]⟩
theorem ψy.ok:φ0 Tryz.prog 5 ψy.ctr:=fS (A:=ψy.ann) (eC ψx.ok (eC ψ19.ok (eC ψ1B.ok φ1.nil))) Tryz.func5 (by kernel_rfl) (by kernel_rfl) (fun x=>by kernel_rfl)
def ψ1m.sig:Sig:=⟨[.val tyI,.val tyI,.val tyI],[.val .bool],false⟩
def ψ1m.ctr:Ctr:=⟨ψ1m.sig,fun x=>ψ1m.f x.1 x.2.1 x.2.2⟩
def ψ1m.env:Env:=[]
def ψ1m.ann:Ann:=⟨[],[],[]⟩
theorem ψ1m.ok:φ0 Tryz.prog 105 ψ1m.ctr:=fS (A:=ψ1m.ann) φ1.nil Tryz.func105 (by kernel_rfl) (by kernel_rfl) (fun x=>by kernel_rfl)
def ψ1o.sig:Sig:=⟨[.val tyd],[.val tyI],false⟩
def ψ1o.ctr:Ctr:=⟨ψ1o.sig,fun x=>ψ1o.f x⟩
def ψ1o.env:Env:=[]
def ψ1o.ann:Ann:=⟨[(0,([(1,.ptr tyd),(3,.val tyI),(4,.val tyI)],[(.exit 0,[(3,.val tyI)])]))],[],[]⟩
theorem ψ1o.ok:φ0 Tryz.prog 106 ψ1o.ctr:=fS (A:=ψ1o.ann) φ1.nil Tryz.func106 (by kernel_rfl) (by kernel_rfl) (fun x=>by kernel_rfl)
def ψ1c.sig:Sig:=⟨[.val .str],[.val .bool],false⟩
def ψ1c.ctr:Ctr:=⟨ψ1c.sig,fun x=>ψ1c.f x⟩
def ψ1c.env:Env:=[(105,[ψ1m.ctr])]
def ψ1c.ann:Ann:=⟨[(0,([(0,.val .str),(3,.val tyI)],[(.exit 0,[(0,.val .str)]),(.ret,[(2,.val .bool)])]))],[],[(4,[(.normal,[(0,.val .str),(3,.val tyI)]),(.ret,[(2,.val .bool)])])]⟩
theorem ψ1c.ok:φ0 Tryz.prog 107 ψ1c.ctr:=fS (A:=ψ1c.ann) (eC ψ1m.ok φ1.nil) Tryz.func107 (by kernel_rfl) (by kernel_rfl) (fun x=>by kernel_rfl)
def ψ1U.sig:Sig:=⟨[.val tyd],[.val .bool],false⟩
def ψ1U.ctr:Ctr:=⟨ψ1U.sig,fun x=>ψ1U.f x⟩
def ψ1U.env:Env:=[(105,[ψ1m.ctr]),(106,[ψ1o.ctr]),(107,[ψ1c.ctr])]
def ψ1U.ann:Ann:=⟨[(0,([(1,.ptr tyd),(3,.val tyI)],[(.exit 0,[]),(.ret,[(2,.val .bool)])]))],[],[(6,[(.normal,[(1,.ptr tyd),(3,.val tyI)]),(.ret,[(2,.val .bool)])])]⟩
theorem ψ1U.ok:φ0 Tryz.prog 59 ψ1U.ctr:=fS (A:=ψ1U.ann) (eC ψ1m.ok (eC ψ1o.ok (eC ψ1c.ok φ1.nil))) Tryz.func59 (by kernel_rfl) (by kernel_rfl) (fun x=>by kernel_rfl)
def ψ1n.sig:Sig:=⟨[.val tyd,.val .str],[.val tyI],false⟩
def ψ1n.ctr:Ctr:=⟨ψ1n.sig,fun x=>ψ1n.f x.1 x.2⟩
def ψ1n.env:Env:=[]
def ψ1n.ann:Ann:=⟨[(0,([(1,.val .str),(2,.ptr tyd),(5,.val tyI)],[(.exit 0,[]),(.ret,[(4,.val tyI)])]))],[],[]⟩
theorem ψ1n.ok:φ0 Tryz.prog 108 ψ1n.ctr:=fS (A:=ψ1n.ann) φ1.nil Tryz.func108 (by kernel_rfl) (by kernel_rfl) (fun x=>by kernel_rfl)
def ψ1X.sig:Sig:=⟨[.val tyd,.val .str],[.val .str,.val .bool],false⟩
def ψ1X.ctr:Ctr:=⟨ψ1X.sig,fun x=>ψ1X.f x.1 x.2⟩
def ψ1X.env:Env:=[(59,[ψ1U.ctr]),(108,[ψ1n.ctr])]
def ψ1X.ann:Ann:=⟨[],[],[]⟩
theorem ψ1X.ok:φ0 Tryz.prog 61 ψ1X.ctr:=fS (A:=ψ1X.ann) (eC ψ1U.ok (eC ψ1n.ok φ1.nil)) Tryz.func61 (by kernel_rfl) (by kernel_rfl) (fun x=>by kernel_rfl)
def ψ1S.sig:Sig:=⟨[.val tyI],[.val .str],false⟩
def ψ1S.ctr:Ctr:=⟨ψ1S.sig,fun x=>ψ1S.f x⟩
def ψ1S.env:Env:=[]
def ψ1S.ann:Ann:=⟨[(0,([(0,.val tyI),(3,.val .str),(4,.val .bool)],[(.exit 0,[(3,.val .str),(4,.val .bool)])]))],[],[(7,[(.normal,[(0,.val tyI),(3,.val .str),(4,.val .bool),(5,.val tyI)])])]⟩
theorem ψ1S.ok:φ0 Tryz.prog 114 ψ1S.ctr:=fS (A:=ψ1S.ann) φ1.nil Tryz.func114 (by kernel_rfl) (by kernel_rfl) (fun x=>by kernel_rfl)
def ψ1i.sig:Sig:=⟨[.val tyI],[.val .str],false⟩
def ψ1i.ctr:Ctr:=⟨ψ1i.sig,fun x=>ψ1i.f x⟩
def ψ1i.env:Env:=[(105,[ψ1m.ctr]),(114,[ψ1S.ctr])]
def ψ1i.ann:Ann:=⟨[],[],[]⟩
theorem ψ1i.ok:φ0 Tryz.prog 64 ψ1i.ctr:=fS (A:=ψ1i.ann) (eC ψ1m.ok (eC ψ1S.ok φ1.nil)) Tryz.func64 (by kernel_rfl) (by kernel_rfl) (fun x=>by kernel_rfl)
def ψ1T.sig:Sig:=⟨[.val (.sl false tyE),.val .str],[.val tyE,.val .bool],false⟩
def ψ1T.ctr:Ctr:=⟨ψ1T.sig,fun x=>ψ1T.f x.1 x.2⟩
def ψ1T.env:Env:=[]
def ψ1T.ann:Ann:=⟨[(0,([(0,.val (.sl false tyE)),(1,.val .str),(4,.ptr tyE),(6,.val tyI)],[(.exit 0,[(4,.ptr tyE)]),(.ret,[(4,.ptr tyE),(5,.val .bool)])]))],[],[]⟩
theorem ψ1T.ok:φ0 Tryz.prog 91 ψ1T.ctr:=fS (A:=ψ1T.ann) φ1.nil Tryz.func91 (by kernel_rfl) (by kernel_rfl) (fun x=>by kernel_rfl)
def ψ1l.sig:Sig:=⟨[.val tyI],[.val .str],false⟩
def ψ1l.ctr:Ctr:=⟨ψ1l.sig,fun x=>ψ1l.f x⟩
def ψ1l.env:Env:=[(105,[ψ1m.ctr])]
def ψ1l.ann:Ann:=⟨[(0,([(0,.val tyI),(3,.val (.sl true (.int .u8)))],[(.exit 0,[(0,.val tyI),(3,.val (.sl true (.int .u8)))])]))],[],[]⟩
theorem ψ1l.ok:φ0 Tryz.prog 156 ψ1l.ctr:=fS (A:=ψ1l.ann) (eC ψ1m.ok φ1.nil) Tryz.func156 (by kernel_rfl) (by kernel_rfl) (fun x=>by kernel_rfl)
def ψ1f.sig:Sig:=⟨[.val .str],[.val tyI,.val tyI],false⟩
def ψ1f.ctr:Ctr:=⟨ψ1f.sig,fun x=>ψ1f.f x⟩
def ψ1f.env:Env:=[(156,[ψ1l.ctr])]
def ψ1f.ann:Ann:=⟨[(2,([(0,.val .str),(4,.val tyI),(5,.val tyI),(6,.val tyI)],[(.exit 2,[(0,.val .str),(4,.val tyI),(5,.val tyI)])])),(0,([(0,.val .str),(4,.val tyI)],[(.exit 0,[]),(.ret,[(2,.val tyI),(3,.val tyI)])]))],[],[]⟩
theorem ψ1f.ok:φ0 Tryz.prog 112 ψ1f.ctr:=fS (A:=ψ1f.ann) (eC ψ1l.ok φ1.nil) Tryz.func112 (by kernel_rfl) (by kernel_rfl) (fun x=>by kernel_rfl)
def ψ1Y.sig:Sig:=⟨[.val tyI,.val tyI],[.val .str],false⟩
def ψ1Y.ctr:Ctr:=⟨ψ1Y.sig,fun x=>ψ1Y.f x.1 x.2⟩
def ψ1Y.env:Env:=[(105,[ψ1m.ctr])]
def ψ1Y.ann:Ann:=⟨[(0,([(0,.val tyI),(1,.val tyI),(5,.val .str),(6,.val tyI)],[(.exit 0,[(0,.val tyI),(5,.val .str)])]))],[],[]⟩
theorem ψ1Y.ok:φ0 Tryz.prog 160 ψ1Y.ctr:=fS (A:=ψ1Y.ann) (eC ψ1m.ok φ1.nil) Tryz.func160 (by kernel_rfl) (by kernel_rfl) (fun x=>by kernel_rfl)
def ψ1R.sig:Sig:=⟨[.val .str],[.val tyI],false⟩
def ψ1R.ctr:Ctr:=⟨ψ1R.sig,fun x=>ψ1R.f x⟩
def ψ1R.env:Env:=[]
def ψ1R.ann:Ann:=⟨[(2,([(0,.val .str),(3,.val tyI),(4,.val tyI),(5,.val tyI)],[(.exit 2,[(0,.val .str),(3,.val tyI),(4,.val tyI)])])),(0,([(0,.val .str),(3,.val tyI),(4,.val tyI)],[(.exit 0,[(3,.val tyI)])]))],[],[(11,[(.normal,[(0,.val .str),(3,.val tyI),(4,.val tyI),(5,.val tyI)])])]⟩
theorem ψ1R.ok:φ0 Tryz.prog 161 ψ1R.ctr:=fS (A:=ψ1R.ann) φ1.nil Tryz.func161 (by kernel_rfl) (by kernel_rfl) (fun x=>by kernel_rfl)
def ψ1Z.sig:Sig:=⟨[.val .str],[.val .str],false⟩
def ψ1Z.ctr:Ctr:=⟨ψ1Z.sig,fun x=>ψ1Z.f x⟩
def ψ1Z.env:Env:=[(156,[ψ1l.ctr]),(160,[ψ1Y.ctr]),(161,[ψ1R.ctr])]
def ψ1Z.ann:Ann:=⟨[],[],[]⟩
theorem ψ1Z.ok:φ0 Tryz.prog 155 ψ1Z.ctr:=fS (A:=ψ1Z.ann) (eC ψ1l.ok (eC ψ1Y.ok (eC ψ1R.ok φ1.nil))) Tryz.func155 (by kernel_rfl) (by kernel_rfl) (fun x=>by kernel_rfl)
def ψ1k.sig:Sig:=⟨[.val .str],[.val .str,.val tyI],false⟩
def ψ1k.ctr:Ctr:=⟨ψ1k.sig,fun x=>ψ1k.f x⟩
def ψ1k.env:Env:=[(112,[ψ1f.ctr]),(155,[ψ1Z.ctr])]
def ψ1k.ann:Ann:=⟨[],[],[]⟩
theorem ψ1k.ok:φ0 Tryz.prog 111 ψ1k.ctr:=fS (A:=ψ1k.ann) (eC ψ1f.ok (eC ψ1Z.ok φ1.nil)) Tryz.func111 (by kernel_rfl) (by kernel_rfl) (fun x=>by kernel_rfl)
def ψ1p.sig:Sig:=⟨[.val .str],[.val .str,.val .str,.val .bool],false⟩
def ψ1p.ctr:Ctr:=⟨ψ1p.sig,fun x=>ψ1p.f x⟩
def ψ1p.env:Env:=[(112,[ψ1f.ctr])]
def ψ1p.ann:Ann:=⟨[],[],[]⟩
theorem ψ1p.ok:φ0 Tryz.prog 118 ψ1p.ctr:=fS (A:=ψ1p.ann) (eC ψ1f.ok φ1.nil) Tryz.func118 (by kernel_rfl) (by kernel_rfl) (fun x=>by kernel_rfl)
def ψ1d.sig:Sig:=⟨[.val .str,.val tyI],[.val tyI,.val .bool],false⟩
def ψ1d.ctr:Ctr:=⟨ψ1d.sig,fun x=>ψ1d.f x.1 x.2⟩
def ψ1d.env:Env:=[(105,[ψ1m.ctr])]
def ψ1d.ann:Ann:=⟨[(0,([(0,.val .str),(1,.val tyI),(6,.val tyI),(7,.val tyI)],[(.exit 0,[(6,.val tyI)])]))],[],[]⟩
theorem ψ1d.ok:φ0 Tryz.prog 157 ψ1d.ctr:=fS (A:=ψ1d.ann) (eC ψ1m.ok φ1.nil) Tryz.func157 (by kernel_rfl) (by kernel_rfl) (fun x=>by kernel_rfl)
def ψ1b.sig:Sig:=⟨[.val .str],[.val .bool],false⟩
def ψ1b.ctr:Ctr:=⟨ψ1b.sig,fun x=>ψ1b.f x⟩
def ψ1b.env:Env:=[(105,[ψ1m.ctr])]
def ψ1b.ann:Ann:=⟨[],[],[]⟩
theorem ψ1b.ok:φ0 Tryz.prog 223 ψ1b.ctr:=fS (A:=ψ1b.ann) (eC ψ1m.ok φ1.nil) Tryz.func223 (by kernel_rfl) (by kernel_rfl) (fun x=>by kernel_rfl)
def ψ1h.sig:Sig:=⟨[.val tyR],[.val .bool],false⟩
def ψ1h.ctr:Ctr:=⟨ψ1h.sig,fun x=>ψ1h.f x⟩
def ψ1h.env:Env:=[(105,[ψ1m.ctr]),(223,[ψ1b.ctr])]
def ψ1h.ann:Ann:=⟨[],[],[(1,[(.normal,[(1,.ptr tyR)]),(.ret,[(2,.val .bool)])]),(4,[(.normal,[(1,.ptr tyR),(18,.val tyI),(19,.val .bool)])])]⟩
theorem ψ1h.ok:φ0 Tryz.prog 198 ψ1h.ctr:=fS (A:=ψ1h.ann) (eC ψ1m.ok (eC ψ1b.ok φ1.nil)) Tryz.func198 (by kernel_rfl) (by kernel_rfl) (fun x=>by kernel_rfl)
def ψ1j.sig:Sig:=⟨[.val tyR],[.val .str],false⟩
def ψ1j.ctr:Ctr:=⟨ψ1j.sig,fun x=>ψ1j.f x⟩
def ψ1j.env:Env:=[(156,[ψ1l.ctr]),(160,[ψ1Y.ctr]),(198,[ψ1h.ctr])]
def ψ1j.ann:Ann:=⟨[],[],[(5,[(.normal,[(1,.ptr tyR),(3,.val .str),(15,.val tyI),(16,.val .bool)])])]⟩
theorem ψ1j.ok:φ0 Tryz.prog 158 ψ1j.ctr:=fS (A:=ψ1j.ann) (eC ψ1l.ok (eC ψ1Y.ok (eC ψ1h.ok φ1.nil))) Tryz.func158 (by kernel_rfl) (by kernel_rfl) (fun x=>by kernel_rfl)
def ψ1e.sig:Sig:=⟨[.val .str],[.val tyR,.val .bool],false⟩
def ψ1e.ctr:Ctr:=⟨ψ1e.sig,fun x=>ψ1e.f x⟩
def ψ1e.env:Env:=[(112,[ψ1f.ctr]),(118,[ψ1p.ctr]),(157,[ψ1d.ctr]),(158,[ψ1j.ctr])]
def ψ1e.ann:Ann:=⟨[],[(0,[(.normal,[(0,.val .str),(2,.ptr tyR),(8,.ptr tyR)])])],[(12,[(.normal,[(0,.val .str),(2,.ptr tyR),(8,.ptr tyR),(9,.val .str),(50,.val tyI),(67,.val .bool)])]),(18,[(.normal,[(0,.val .str),(2,.ptr tyR),(8,.ptr tyR)])])]⟩
theorem ψ1e.ok:φ0 Tryz.prog 115 ψ1e.ctr:=fS (A:=ψ1e.ann) (eC ψ1f.ok (eC ψ1p.ok (eC ψ1d.ok (eC ψ1j.ok φ1.nil)))) Tryz.func115 (by kernel_rfl) (by kernel_rfl) (fun x=>by kernel_rfl)
def ψ1g.sig:Sig:=⟨[.val .str,.val tyI,.val tyI],[.val tyR,.val .bool],false⟩
def ψ1g.ctr:Ctr:=⟨ψ1g.sig,fun x=>ψ1g.f x.1 x.2.1 x.2.2⟩
def ψ1g.env:Env:=[(105,[ψ1m.ctr]),(111,[ψ1k.ctr]),(115,[ψ1e.ctr])]
def ψ1g.ann:Ann:=⟨[],[],[]⟩
theorem ψ1g.ok:φ0 Tryz.prog 92 ψ1g.ctr:=fS (A:=ψ1g.ann) (eC ψ1m.ok (eC ψ1k.ok (eC ψ1e.ok φ1.nil))) Tryz.func92 (by kernel_rfl) (by kernel_rfl) (fun x=>by kernel_rfl)
def ψ1a.sig:Sig:=⟨[.val tys,.val tyd,.val .str],[.val tyF,.val tyI],false⟩
def ψ1a.ctr:Ctr:=⟨ψ1a.sig,fun x=>ψ1a.f x.1 x.2.1 x.2.2⟩
def ψ1a.env:Env:=[(61,[ψ1X.ctr]),(64,[ψ1i.ctr]),(91,[ψ1T.ctr]),(92,[ψ1g.ctr])]
def ψ1a.ann:Ann:=⟨[],[],[]⟩
theorem ψ1a.ok:φ0 Tryz.prog 45 ψ1a.ctr:=fS (A:=ψ1a.ann) (eC ψ1X.ok (eC ψ1i.ok (eC ψ1T.ok (eC ψ1g.ok φ1.nil)))) Tryz.func45 (by kernel_rfl) (by kernel_rfl) (fun x=>by kernel_rfl)
def ψ1V.sig:Sig:=⟨[.val tys,.val tyd],[.val (.sl true tyF),.val tyI],false⟩
def ψ1V.ctr:Ctr:=⟨ψ1V.sig,fun x=>ψ1V.f x.1 x.2⟩
def ψ1V.env:Env:=[(45,[ψ1a.ctr])]
def ψ1V.ann:Ann:=⟨[(0,([(2,.ptr tys),(3,.ptr tyd),(6,.val (.sl true tyF)),(7,.val tyI)],[(.exit 0,[(6,.val (.sl true tyF))]),(.ret,[(4,.val (.sl true tyF)),(5,.val tyI)])]))],[],[]⟩
theorem ψ1V.ok:φ0 Tryz.prog 23 ψ1V.ctr:=fS (A:=ψ1V.ann) (eC ψ1a.ok φ1.nil) Tryz.func23 (by kernel_rfl) (by kernel_rfl) (fun x=>by kernel_rfl)
def ψ1W.sig:Sig:=⟨[.val (.pair .bool (.pair tys (.pair tyd (.sl false (.pair .bool (.pair (.sl false (.pair .str tyI)) (.sl false tyP)))))))],[.val (.sl true tyF),.val tyI],false⟩
def ψ1W.ctr:Ctr:=⟨ψ1W.sig,fun x=>ψ1W.f x⟩
def ψ1W.env:Env:=[(23,[ψ1V.ctr])]
def ψ1W.ann:Ann:=⟨[],[],[]⟩
theorem ψ1W.ok:φ0 Tryz.prog 6 ψ1W.ctr:=fS (A:=ψ1W.ann) (eC ψ1V.ok φ1.nil) Tryz.func6 (by kernel_rfl) (by kernel_rfl) (fun x=>by kernel_rfl)
def ψ1G.sig:Sig:=⟨[.val tyF],[.val tyF],false⟩
def ψ1G.ctr:Ctr:=⟨ψ1G.sig,fun x=>ψ1G.f x⟩
def ψ1G.env:Env:=[]
def ψ1G.ann:Ann:=⟨[],[],[]⟩
theorem ψ1G.ok:φ0 Tryz.prog 75 ψ1G.ctr:=fS (A:=ψ1G.ann) φ1.nil Tryz.func75 (by kernel_rfl) (by kernel_rfl) (fun x=>by kernel_rfl)
def ψ1H.sig:Sig:=⟨[.val (.sl false tyF)],[.val (.sl true tyF)],false⟩
def ψ1H.ctr:Ctr:=⟨ψ1H.sig,fun x=>ψ1H.f x⟩
def ψ1H.env:Env:=[(75,[ψ1G.ctr])]
def ψ1H.ann:Ann:=⟨[(0,([(0,.val (.sl false tyF)),(3,.val (.sl true tyF)),(4,.val tyI)],[(.exit 0,[(3,.val (.sl true tyF))])]))],[],[]⟩
theorem ψ1H.ok:φ0 Tryz.prog 35 ψ1H.ctr:=fS (A:=ψ1H.ann) (eC ψ1G.ok φ1.nil) Tryz.func35 (by kernel_rfl) (by kernel_rfl) (fun x=>by kernel_rfl)
def ψ1C.sig:Sig:=⟨[.val tyd],[.val tyD],false⟩
def ψ1C.ctr:Ctr:=⟨ψ1C.sig,fun x=>ψ1C.f x⟩
def ψ1C.env:Env:=[(35,[ψ1H.ctr])]
def ψ1C.ann:Ann:=⟨[],[],[]⟩
theorem ψ1C.ok:φ0 Tryz.prog 16 ψ1C.ctr:=fS (A:=ψ1C.ann) (eC ψ1H.ok φ1.nil) Tryz.func16 (by kernel_rfl) (by kernel_rfl) (fun x=>by kernel_rfl)
def ψ1I.sig:Sig:=⟨[.val (.sl false tyI)],[.val (.sl true tyI)],false⟩
def ψ1I.ctr:Ctr:=⟨ψ1I.sig,fun x=>ψ1I.f x⟩
def ψ1I.env:Env:=[]
def ψ1I.ann:Ann:=⟨[(0,([(0,.val (.sl false tyI)),(3,.val (.sl true tyI)),(4,.val tyI)],[(.exit 0,[(3,.val (.sl true tyI))])]))],[],[]⟩
theorem ψ1I.ok:φ0 Tryz.prog 93 ψ1I.ctr:=fS (A:=ψ1I.ann) φ1.nil Tryz.func93 (by kernel_rfl) (by kernel_rfl) (fun x=>by kernel_rfl)
def ψ1J.sig:Sig:=⟨[.val (.pair tyI (.sl false tyI))],[.val (.pair tyI (.sl true tyI))],false⟩
def ψ1J.ctr:Ctr:=⟨ψ1J.sig,fun x=>ψ1J.f x⟩
def ψ1J.env:Env:=[(93,[ψ1I.ctr])]
def ψ1J.ann:Ann:=⟨[],[],[]⟩
theorem ψ1J.ok:φ0 Tryz.prog 46 ψ1J.ctr:=fS (A:=ψ1J.ann) (eC ψ1I.ok φ1.nil) Tryz.func46 (by kernel_rfl) (by kernel_rfl) (fun x=>by kernel_rfl)
def ψ1E.sig:Sig:=⟨[.val tyE],[.val tyE],false⟩
def ψ1E.ctr:Ctr:=⟨ψ1E.sig,fun x=>ψ1E.f x⟩
def ψ1E.env:Env:=[]
def ψ1E.ann:Ann:=⟨[],[],[]⟩
theorem ψ1E.ok:φ0 Tryz.prog 94 ψ1E.ctr:=fS (A:=ψ1E.ann) φ1.nil Tryz.func94 (by kernel_rfl) (by kernel_rfl) (fun x=>by kernel_rfl)
def ψ1F.sig:Sig:=⟨[.val (.sl false tyE)],[.val (.sl true tyE)],false⟩
def ψ1F.ctr:Ctr:=⟨ψ1F.sig,fun x=>ψ1F.f x⟩
def ψ1F.env:Env:=[(94,[ψ1E.ctr])]
def ψ1F.ann:Ann:=⟨[(0,([(0,.val (.sl false tyE)),(3,.val (.sl true tyE)),(4,.val tyI)],[(.exit 0,[(3,.val (.sl true tyE))])]))],[],[]⟩
theorem ψ1F.ok:φ0 Tryz.prog 47 ψ1F.ctr:=fS (A:=ψ1F.ann) (eC ψ1E.ok φ1.nil) Tryz.func47 (by kernel_rfl) (by kernel_rfl) (fun x=>by kernel_rfl)
def ψ1O.sig:Sig:=⟨[.val tys],[.val tyS],false⟩
def ψ1O.ctr:Ctr:=⟨ψ1O.sig,fun x=>ψ1O.f x⟩
def ψ1O.env:Env:=[(46,[ψ1J.ctr]),(47,[ψ1F.ctr])]
def ψ1O.ann:Ann:=⟨[],[],[]⟩
theorem ψ1O.ok:φ0 Tryz.prog 24 ψ1O.ctr:=fS (A:=ψ1O.ann) (eC ψ1J.ok (eC ψ1F.ok φ1.nil)) Tryz.func24 (by kernel_rfl) (by kernel_rfl) (fun x=>by kernel_rfl)
def ψ1M.sig:Sig:=⟨[.val (.pair .str tyI)],[.val (.pair .str tyI)],false⟩
def ψ1M.ctr:Ctr:=⟨ψ1M.sig,fun x=>ψ1M.f x⟩
def ψ1M.env:Env:=[]
def ψ1M.ann:Ann:=⟨[],[],[]⟩
theorem ψ1M.ok:φ0 Tryz.prog 144 ψ1M.ctr:=fS (A:=ψ1M.ann) φ1.nil Tryz.func144 (by kernel_rfl) (by kernel_rfl) (fun x=>by kernel_rfl)
def ψ1N.sig:Sig:=⟨[.val (.sl false (.pair .str tyI))],[.val (.sl true (.pair .str tyI))],false⟩
def ψ1N.ctr:Ctr:=⟨ψ1N.sig,fun x=>ψ1N.f x⟩
def ψ1N.env:Env:=[(144,[ψ1M.ctr])]
def ψ1N.ann:Ann:=⟨[(0,([(0,.val (.sl false (.pair .str tyI))),(3,.val (.sl true (.pair .str tyI))),(4,.val tyI)],[(.exit 0,[(3,.val (.sl true (.pair .str tyI)))])]))],[],[]⟩
theorem ψ1N.ok:φ0 Tryz.prog 95 ψ1N.ctr:=fS (A:=ψ1N.ann) (eC ψ1M.ok φ1.nil) Tryz.func95 (by kernel_rfl) (by kernel_rfl) (fun x=>by kernel_rfl)
def ψ1K.sig:Sig:=⟨[.val tyP],[.val tyP],false⟩
def ψ1K.ctr:Ctr:=⟨ψ1K.sig,fun x=>ψ1K.f x⟩
def ψ1K.env:Env:=[]
def ψ1K.ann:Ann:=⟨[],[],[]⟩
theorem ψ1K.ok:φ0 Tryz.prog 145 ψ1K.ctr:=fS (A:=ψ1K.ann) φ1.nil Tryz.func145 (by kernel_rfl) (by kernel_rfl) (fun x=>by kernel_rfl)
def ψ1L.sig:Sig:=⟨[.val (.sl false tyP)],[.val (.sl true tyP)],false⟩
def ψ1L.ctr:Ctr:=⟨ψ1L.sig,fun x=>ψ1L.f x⟩
def ψ1L.env:Env:=[(145,[ψ1K.ctr])]
def ψ1L.ann:Ann:=⟨[(0,([(0,.val (.sl false tyP)),(3,.val (.sl true tyP)),(4,.val tyI)],[(.exit 0,[(3,.val (.sl true tyP))])]))],[],[]⟩
theorem ψ1L.ok:φ0 Tryz.prog 96 ψ1L.ctr:=fS (A:=ψ1L.ann) (eC ψ1K.ok φ1.nil) Tryz.func96 (by kernel_rfl) (by kernel_rfl) (fun x=>by kernel_rfl)
def ψ1P.sig:Sig:=⟨[.val (.pair .bool (.pair (.sl false (.pair .str tyI)) (.sl false tyP)))],[.val (.pair .bool (.pair (.sl true (.pair .str tyI)) (.sl true tyP)))],false⟩
def ψ1P.ctr:Ctr:=⟨ψ1P.sig,fun x=>ψ1P.f x⟩
def ψ1P.env:Env:=[(95,[ψ1N.ctr]),(96,[ψ1L.ctr])]
def ψ1P.ann:Ann:=⟨[],[],[]⟩
theorem ψ1P.ok:φ0 Tryz.prog 48 ψ1P.ctr:=fS (A:=ψ1P.ann) (eC ψ1N.ok (eC ψ1L.ok φ1.nil)) Tryz.func48 (by kernel_rfl) (by kernel_rfl) (fun x=>by kernel_rfl)
def ψ1Q.sig:Sig:=⟨[.val (.sl false (.pair .bool (.pair (.sl false (.pair .str tyI)) (.sl false tyP))))],[.val (.sl true (.pair .bool (.pair (.sl true (.pair .str tyI)) (.sl true tyP))))],false⟩
def ψ1Q.ctr:Ctr:=⟨ψ1Q.sig,fun x=>ψ1Q.f x⟩
def ψ1Q.env:Env:=[(48,[ψ1P.ctr])]
def ψ1Q.ann:Ann:=⟨[(0,([(0,.val (.sl false (.pair .bool (.pair (.sl false (.pair .str tyI)) (.sl false tyP))))),(3,.val (.sl true (.pair .bool (.pair (.sl true (.pair .str tyI)) (.sl true tyP))))),(4,.val tyI)],[(.exit 0,[(3,.val (.sl true (.pair .bool (.pair (.sl true (.pair .str tyI)) (.sl true tyP)))))])]))],[],[]⟩
theorem ψ1Q.ok:φ0 Tryz.prog 25 ψ1Q.ctr:=fS (A:=ψ1Q.ann) (eC ψ1P.ok φ1.nil) Tryz.func25 (by kernel_rfl) (by kernel_rfl) (fun x=>by kernel_rfl)
def ψ1D.sig:Sig:=⟨[.val (.pair .bool (.pair tys (.pair tyd (.sl false (.pair .bool (.pair (.sl false (.pair .str tyI)) (.sl false tyP)))))))],[.val (.pair .bool (.pair tyS (.pair tyD (.sl true (.pair .bool (.pair (.sl true (.pair .str tyI)) (.sl true tyP)))))))],false⟩
def ψ1D.ctr:Ctr:=⟨ψ1D.sig,fun x=>ψ1D.f x⟩
def ψ1D.env:Env:=[(16,[ψ1C.ctr]),(24,[ψ1O.ctr]),(25,[ψ1Q.ctr])]
def ψ1D.ann:Ann:=⟨[],[],[]⟩
theorem ψ1D.ok:φ0 Tryz.prog 7 ψ1D.ctr:=fS (A:=ψ1D.ann) (eC ψ1C.ok (eC ψ1O.ok (eC ψ1Q.ok φ1.nil))) Tryz.func7 (by kernel_rfl) (by kernel_rfl) (fun x=>by kernel_rfl)
def ψ3.sig:Sig:=⟨[.val (.sl false tyE)],[.val (.sl true .str)],false⟩
def ψ3.ctr:Ctr:=⟨ψ3.sig,fun x=>ψ3.f x⟩
def ψ3.env:Env:=[]
def ψ3.ann:Ann:=⟨[(0,([(3,.val (.sl true .str)),(6,.val (.sl false tyE)),(7,.val tyI),(8,.val tyI)],[(.exit 0,[(3,.val (.sl true .str))])]))],[],[]⟩
theorem ψ3.ok:φ0 Tryz.prog 49 ψ3.ctr:=fS (A:=ψ3.ann) φ1.nil Tryz.func49 (by kernel_rfl) (by kernel_rfl) (fun x=>by kernel_rfl)
def ψM.sig:Sig:=⟨[.val tyI,.val tyI,.val tyI],[.val .bool],false⟩
def ψM.ctr:Ctr:=⟨ψM.sig,fun x=>ψM.f x.1 x.2.1 x.2.2⟩
def ψM.env:Env:=[]
def ψM.ann:Ann:=⟨[],[],[]⟩
theorem ψM.ok:φ0 Tryz.prog 128 ψM.ctr:=fS (A:=ψM.ann) φ1.nil Tryz.func128 (by kernel_rfl) (by kernel_rfl) (fun x=>by kernel_rfl)
def ψC.sig:Sig:=⟨[.val .str],[.val .bool],false⟩
def ψC.ctr:Ctr:=⟨ψC.sig,fun x=>ψC.f x⟩
def ψC.env:Env:=[(128,[ψM.ctr])]
def ψC.ann:Ann:=⟨[(0,([(0,.val .str),(3,.val tyI)],[(.exit 0,[(0,.val .str)]),(.ret,[(2,.val .bool)])]))],[],[(4,[(.normal,[(0,.val .str),(3,.val tyI)]),(.ret,[(2,.val .bool)])])]⟩
theorem ψC.ok:φ0 Tryz.prog 129 ψC.ctr:=fS (A:=ψC.ann) (eC ψM.ok φ1.nil) Tryz.func129 (by kernel_rfl) (by kernel_rfl) (fun x=>by kernel_rfl)
def ψ4.sig:Sig:=⟨[.val tyd],[.val .bool],false⟩
def ψ4.ctr:Ctr:=⟨ψ4.sig,fun x=>ψ4.f x⟩
def ψ4.env:Env:=[(128,[ψM.ctr]),(129,[ψC.ctr])]
def ψ4.ann:Ann:=⟨[(0,([(1,.ptr tyd),(3,.val tyI),(23,.val (.sl false tyF)),(24,.val tyI),(25,.val tyI)],[(.exit 0,[(1,.ptr tyd),(3,.val tyI)]),(.ret,[(2,.val .bool)])]))],[],[(7,[(.normal,[(1,.ptr tyd),(3,.val tyI),(5,.ptr tyF),(23,.val (.sl false tyF)),(24,.val tyI),(25,.val tyI)]),(.ret,[(2,.val .bool)])])]⟩
theorem ψ4.ok:φ0 Tryz.prog 77 ψ4.ctr:=fS (A:=ψ4.ann) (eC ψM.ok (eC ψC.ok φ1.nil)) Tryz.func77 (by kernel_rfl) (by kernel_rfl) (fun x=>by kernel_rfl)
def ψL.sig:Sig:=⟨[.val tyd,.val .str],[.val tyI],false⟩
def ψL.ctr:Ctr:=⟨ψL.sig,fun x=>ψL.f x.1 x.2⟩
def ψL.env:Env:=[]
def ψL.ann:Ann:=⟨[(0,([(1,.val .str),(8,.val (.sl false tyF)),(9,.val tyI),(10,.val tyI)],[(.exit 0,[]),(.ret,[(4,.val tyI)])]))],[],[]⟩
theorem ψL.ok:φ0 Tryz.prog 130 ψL.ctr:=fS (A:=ψL.ann) φ1.nil Tryz.func130 (by kernel_rfl) (by kernel_rfl) (fun x=>by kernel_rfl)
def ψ7.sig:Sig:=⟨[.val tyd,.val .str],[.val .str,.val .bool],false⟩
def ψ7.ctr:Ctr:=⟨ψ7.sig,fun x=>ψ7.f x.1 x.2⟩
def ψ7.env:Env:=[(77,[ψ4.ctr]),(130,[ψL.ctr])]
def ψ7.ann:Ann:=⟨[],[],[]⟩
theorem ψ7.ok:φ0 Tryz.prog 78 ψ7.ctr:=fS (A:=ψ7.ann) (eC ψ4.ok (eC ψL.ok φ1.nil)) Tryz.func78 (by kernel_rfl) (by kernel_rfl) (fun x=>by kernel_rfl)
def ψ2.sig:Sig:=⟨[.val (.sl false tyE),.val .str],[.val tyE,.val .bool],false⟩
def ψ2.ctr:Ctr:=⟨ψ2.sig,fun x=>ψ2.f x.1 x.2⟩
def ψ2.env:Env:=[]
def ψ2.ann:Ann:=⟨[(0,([(1,.val .str),(4,.ptr tyE),(8,.val (.sl false tyE)),(9,.val tyI),(10,.val tyI)],[(.exit 0,[(4,.ptr tyE)]),(.ret,[(4,.ptr tyE),(5,.val .bool)])]))],[],[]⟩
theorem ψ2.ok:φ0 Tryz.prog 97 ψ2.ctr:=fS (A:=ψ2.ann) φ1.nil Tryz.func97 (by kernel_rfl) (by kernel_rfl) (fun x=>by kernel_rfl)
def strconv_Itoa.ctr:Ctr:=φ7m
theorem strconv_Itoa.ok:φ0 Tryz.prog 218 strconv_Itoa.ctr:=φC4 Tryz.func218 (by kernel_rfl) (by kernel_rfl) fun n h0 h1 w hL=>(Tryz.strconv_Itoa n h0 h1 w hL).mono fun e w' ⟨he,k,os,hw⟩=>⟨he,hw ▸ below_grow _ w (κD _) k os⟩
def ψ1.sig:Sig:=⟨[.val tyI],[.val .str],false⟩
def ψ1.ctr:Ctr:=⟨ψ1.sig,fun x=>ψ1.f x⟩
def ψ1.env:Env:=[(218,[strconv_Itoa.ctr])]
def ψ1.ann:Ann:=⟨[],[],[]⟩
theorem ψ1.ok:φ0 Tryz.prog 189 ψ1.ctr:=fS (A:=ψ1.ann) (eC strconv_Itoa.ok φ1.nil) Tryz.func189 (by kernel_rfl) (by kernel_rfl) (fun x=>by kernel_rfl)
def ψN.sig:Sig:=⟨[.val .str,.val tyI],[.val .str],false⟩
def ψN.ctr:Ctr:=⟨ψN.sig,fun x=>ψN.f x.1 x.2⟩
def ψN.env:Env:=[(128,[ψM.ctr]),(189,[ψ1.ctr])]
def ψN.ann:Ann:=⟨[],[],[]⟩
theorem ψN.ok:φ0 Tryz.prog 146 ψN.ctr:=fS (A:=ψN.ann) (eC ψM.ok (eC ψ1.ok φ1.nil)) Tryz.func146 (by kernel_rfl) (by kernel_rfl) (fun x=>by kernel_rfl)
def ψI.sig:Sig:=⟨[.val tyI],[.val .str],false⟩
def ψI.ctr:Ctr:=⟨ψI.sig,fun x=>ψI.f x⟩
def ψI.env:Env:=[(146,[ψN.ctr])]
def ψI.ann:Ann:=⟨[],[],[]⟩
theorem ψI.ok:φ0 Tryz.prog 98 ψI.ctr:=fS (A:=ψI.ann) (eC ψN.ok φ1.nil) Tryz.func98 (by kernel_rfl) (by kernel_rfl) (fun x=>by kernel_rfl)
def ψF.sig:Sig:=⟨[.val .str],[.val tyI,.val tyI],false⟩
def ψF.ctr:Ctr:=⟨ψF.sig,fun x=>ψF.f x⟩
def ψF.env:Env:=[]
def ψF.ann:Ann:=⟨[(0,([(0,.val .str),(4,.val tyI),(5,.val tyI)],[(.exit 0,[]),(.ret,[(2,.val tyI),(3,.val tyI)])]))],[],[(8,[(.normal,[(4,.val tyI),(5,.val tyI)]),(.ret,[(2,.val tyI),(3,.val tyI)])])]⟩
theorem ψF.ok:φ0 Tryz.prog 190 ψF.ctr:=fS (A:=ψF.ann) φ1.nil Tryz.func190 (by kernel_rfl) (by kernel_rfl) (fun x=>by kernel_rfl)
def ψK.sig:Sig:=⟨[.val tyI],[.val .str],false⟩
def ψK.ctr:Ctr:=⟨ψK.sig,fun x=>ψK.f x⟩
def ψK.env:Env:=[(128,[ψM.ctr])]
def ψK.ann:Ann:=⟨[(0,([(0,.val tyI),(3,.val (.sl true (.int .u8)))],[(.exit 0,[(0,.val tyI),(3,.val (.sl true (.int .u8)))])]))],[],[]⟩
theorem ψK.ok:φ0 Tryz.prog 231 ψK.ctr:=fS (A:=ψK.ann) (eC ψM.ok φ1.nil) Tryz.func231 (by kernel_rfl) (by kernel_rfl) (fun x=>by kernel_rfl)
def ψR.sig:Sig:=⟨[.val .str],[.val .str],false⟩
def ψR.ctr:Ctr:=⟨ψR.sig,fun x=>ψR.f x⟩
def ψR.env:Env:=[(231,[ψK.ctr])]
def ψR.ann:Ann:=⟨[],[],[]⟩
theorem ψR.ok:φ0 Tryz.prog 219 ψR.ctr:=fS (A:=ψR.ann) (eC ψK.ok φ1.nil) Tryz.func219 (by kernel_rfl) (by kernel_rfl) (fun x=>by kernel_rfl)
def ψ8.sig:Sig:=⟨[.val tyI,.val tyI],[.val .str],false⟩
def ψ8.ctr:Ctr:=⟨ψ8.sig,fun x=>ψ8.f x.1 x.2⟩
def ψ8.env:Env:=[(128,[ψM.ctr])]
def ψ8.ann:Ann:=⟨[(0,([(0,.val tyI),(5,.val (.sl true (.int .u8))),(6,.val tyI)],[(.exit 0,[(5,.val (.sl true (.int .u8)))])]))],[],[]⟩
theorem ψ8.ok:φ0 Tryz.prog 220 ψ8.ctr:=fS (A:=ψ8.ann) (eC ψM.ok φ1.nil) Tryz.func220 (by kernel_rfl) (by kernel_rfl) (fun x=>by kernel_rfl)
def ψ0.sig:Sig:=⟨[.val .str],[.val tyI],false⟩
def ψ0.ctr:Ctr:=⟨ψ0.sig,fun x=>ψ0.f x⟩
def ψ0.env:Env:=[]
def ψ0.ann:Ann:=⟨[(2,([(0,.val .str),(3,.val (.int .u32)),(4,.val tyI),(18,.val tyI)],[(.exit 2,[(0,.val .str),(3,.val (.int .u32)),(4,.val tyI)])])),(0,([(0,.val .str),(3,.val (.int .u32)),(4,.val tyI)],[(.exit 0,[(3,.val (.int .u32))])]))],[],[(10,[(.normal,[(0,.val .str),(3,.val (.int .u32)),(4,.val tyI),(18,.val tyI)])])]⟩
theorem ψ0.ok:φ0 Tryz.prog 221 ψ0.ctr:=fS (A:=ψ0.ann) φ1.nil Tryz.func221 (by kernel_rfl) (by kernel_rfl) (fun x=>by kernel_rfl)
def ψ9.sig:Sig:=⟨[.val .str],[.val .str],false⟩
def ψ9.ctr:Ctr:=⟨ψ9.sig,fun x=>ψ9.f x⟩
def ψ9.env:Env:=[(219,[ψR.ctr]),(220,[ψ8.ctr]),(221,[ψ0.ctr])]
def ψ9.ann:Ann:=⟨[],[],[]⟩
theorem ψ9.ok:φ0 Tryz.prog 191 ψ9.ctr:=fS (A:=ψ9.ann) (eC ψR.ok (eC ψ8.ok (eC ψ0.ok φ1.nil))) Tryz.func191 (by kernel_rfl) (by kernel_rfl) (fun x=>by kernel_rfl)
def ψJ.sig:Sig:=⟨[.val .str],[.val .str,.val tyI],false⟩
def ψJ.ctr:Ctr:=⟨ψJ.sig,fun x=>ψJ.f x⟩
def ψJ.env:Env:=[(190,[ψF.ctr]),(191,[ψ9.ctr])]
def ψJ.ann:Ann:=⟨[],[],[]⟩
theorem ψJ.ok:φ0 Tryz.prog 147 ψJ.ctr:=fS (A:=ψJ.ann) (eC ψF.ok (eC ψ9.ok φ1.nil)) Tryz.func147 (by kernel_rfl) (by kernel_rfl) (fun x=>by kernel_rfl)
def ψP.sig:Sig:=⟨[.ptr (.pair .str .bool)],[.val tyI],false⟩
def ψP.ctr:Ctr:=⟨ψP.sig,fun x=>ψP.f x⟩
def ψP.env:Env:=[(190,[ψF.ctr])]
def ψP.ann:Ann:=⟨[],[],[]⟩
theorem ψP.ok:φ0 Tryz.prog 168 ψP.ctr:=fS (A:=ψP.ann) (eC ψF.ok φ1.nil) Tryz.func168 (by kernel_rfl) (by kernel_rfl) (fun x=>by kernel_rfl)
def ψO.sig:Sig:=⟨[.ptr (.pair .str .bool),.val tyI],[.val .str],false⟩
def ψO.ctr:Ctr:=⟨ψO.sig,fun x=>ψO.f x.1 x.2⟩
def ψO.env:Env:=[]
def ψO.ann:Ann:=⟨[],[],[]⟩
theorem ψO.ok:φ0 Tryz.prog 194 ψO.ctr:=fS (A:=ψO.ann) φ1.nil Tryz.func194 (by kernel_rfl) (by kernel_rfl) (fun x=>by kernel_rfl)
def ψQ.sig:Sig:=⟨[.ptr (.pair .str .bool)],[.val .str],false⟩
def ψQ.ctr:Ctr:=⟨ψQ.sig,fun x=>ψQ.f x⟩
def ψQ.env:Env:=[(168,[ψP.ctr]),(194,[ψO.ctr])]
def ψQ.ann:Ann:=⟨[],[],[]⟩
theorem ψQ.ok:φ0 Tryz.prog 192 ψQ.ctr:=fS (A:=ψQ.ann) (eC ψP.ok (eC ψO.ok φ1.nil)) Tryz.func192 (by kernel_rfl) (by kernel_rfl) (fun x=>by kernel_rfl)
def ψD.sig:Sig:=⟨[.val .str,.val tyI],[.val tyI,.val .bool],false⟩
def ψD.ctr:Ctr:=⟨ψD.sig,fun x=>ψD.f x.1 x.2⟩
def ψD.env:Env:=[(128,[ψM.ctr])]
def ψD.ann:Ann:=⟨[(0,([(0,.val .str),(6,.val tyI),(17,.val tyI),(18,.val tyI)],[(.exit 0,[(6,.val tyI)])]))],[],[]⟩
theorem ψD.ok:φ0 Tryz.prog 193 ψD.ctr:=fS (A:=ψD.ann) (eC ψM.ok φ1.nil) Tryz.func193 (by kernel_rfl) (by kernel_rfl) (fun x=>by kernel_rfl)
def ψB.sig:Sig:=⟨[.val .str],[.val .bool],false⟩
def ψB.ctr:Ctr:=⟨ψB.sig,fun x=>ψB.f x⟩
def ψB.env:Env:=[(128,[ψM.ctr])]
def ψB.ann:Ann:=⟨[],[],[]⟩
theorem ψB.ok:φ0 Tryz.prog 222 ψB.ctr:=fS (A:=ψB.ann) (eC ψM.ok φ1.nil) Tryz.func222 (by kernel_rfl) (by kernel_rfl) (fun x=>by kernel_rfl)
def ψH.sig:Sig:=⟨[.val tyR],[.val .bool],false⟩
def ψH.ctr:Ctr:=⟨ψH.sig,fun x=>ψH.f x⟩
def ψH.env:Env:=[(128,[ψM.ctr]),(222,[ψB.ctr])]
def ψH.ann:Ann:=⟨[],[],[(4,[(.normal,[(1,.ptr tyR),(3,.ptr tyR),(4,.val .bool),(5,.val tyI),(12,.val tyI),(13,.val .bool)])])]⟩
theorem ψH.ok:φ0 Tryz.prog 195 ψH.ctr:=fS (A:=ψH.ann) (eC ψM.ok (eC ψB.ok φ1.nil)) Tryz.func195 (by kernel_rfl) (by kernel_rfl) (fun x=>by kernel_rfl)
def ψE.sig:Sig:=⟨[.val .str],[.val tyR,.val .bool],false⟩
def ψE.ctr:Ctr:=⟨ψE.sig,fun x=>ψE.f x⟩
def ψE.env:Env:=[(168,[ψP.ctr]),(192,[ψQ.ctr]),(193,[ψD.ctr]),(194,[ψO.ctr]),(195,[ψH.ctr])]
def ψE.ann:Ann:=⟨[],[(0,[(.normal,[(2,.ptr tyR),(4,.ptr (.pair .str .bool)),(5,.ptr tyR)])])],[(8,[(.normal,[(2,.ptr tyR),(4,.ptr (.pair .str .bool)),(5,.ptr tyR),(16,.val tyI),(27,.val .bool)])]),(12,[(.normal,[(2,.ptr tyR),(4,.ptr (.pair .str .bool)),(5,.ptr tyR)])])]⟩
theorem ψE.ok:φ0 Tryz.prog 148 ψE.ctr:=fS (A:=ψE.ann) (eC ψP.ok (eC ψQ.ok (eC ψD.ok (eC ψO.ok (eC ψH.ok φ1.nil))))) Tryz.func148 (by kernel_rfl) (by kernel_rfl) (fun x=>by kernel_rfl)
def ψG.sig:Sig:=⟨[.val .str,.val tyI,.val tyI],[.val tyR,.val .bool],false⟩
def ψG.ctr:Ctr:=⟨ψG.sig,fun x=>ψG.f x.1 x.2.1 x.2.2⟩
def ψG.env:Env:=[(128,[ψM.ctr]),(147,[ψJ.ctr]),(148,[ψE.ctr])]
def ψG.ann:Ann:=⟨[],[],[]⟩
theorem ψG.ok:φ0 Tryz.prog 99 ψG.ctr:=fS (A:=ψG.ann) (eC ψM.ok (eC ψJ.ok (eC ψE.ok φ1.nil))) Tryz.func99 (by kernel_rfl) (by kernel_rfl) (fun x=>by kernel_rfl)
def ψA.sig:Sig:=⟨[.val tys,.val tyd,.val .str],[.val tyF,.val tyI],false⟩
def ψA.ctr:Ctr:=⟨ψA.sig,fun x=>ψA.f x.1 x.2.1 x.2.2⟩
def ψA.env:Env:=[(78,[ψ7.ctr]),(97,[ψ2.ctr]),(98,[ψI.ctr]),(99,[ψG.ctr])]
def ψA.ann:Ann:=⟨[],[],[]⟩
theorem ψA.ok:φ0 Tryz.prog 50 ψA.ctr:=fS (A:=ψA.ann) (eC ψ7.ok (eC ψ2.ok (eC ψI.ok (eC ψG.ok φ1.nil)))) Tryz.func50 (by kernel_rfl) (by kernel_rfl) (fun x=>by kernel_rfl)
def ψ5.sig:Sig:=⟨[.val tys,.val tyd],[.val (.sl true tyF),.val tyI],false⟩
def ψ5.ctr:Ctr:=⟨ψ5.sig,fun x=>ψ5.f x.1 x.2⟩
def ψ5.env:Env:=[(49,[ψ3.ctr]),(50,[ψA.ctr])]
def ψ5.ann:Ann:=⟨[(0,([(2,.ptr tys),(3,.ptr tyd),(6,.val (.sl true tyF)),(13,.val (.sl true .str)),(14,.val tyI),(15,.val tyI)],[(.exit 0,[(6,.val (.sl true tyF))]),(.ret,[(4,.val (.sl true tyF)),(5,.val tyI)])]))],[],[]⟩
theorem ψ5.ok:φ0 Tryz.prog 26 ψ5.ctr:=fS (A:=ψ5.ann) (eC ψ3.ok (eC ψA.ok φ1.nil)) Tryz.func26 (by kernel_rfl) (by kernel_rfl) (fun x=>by kernel_rfl)
def ψ6.sig:Sig:=⟨[.val (.pair .bool (.pair tys (.pair tyd (.sl false (.pair .bool (.pair (.sl false (.pair .str tyI)) (.sl false tyP)))))))],[.val (.sl true tyF),.val tyI],false⟩
def ψ6.ctr:Ctr:=⟨ψ6.sig,fun x=>ψ6.f x⟩
def ψ6.env:Env:=[(26,[ψ5.ctr])]
def ψ6.ann:Ann:=⟨[],[],[]⟩
theorem ψ6.ok:φ0 Tryz.prog 8 ψ6.ctr:=fS (A:=ψ6.ann) (eC ψ5.ok φ1.nil) Tryz.func8 (by kernel_rfl) (by kernel_rfl) (fun x=>by kernel_rfl)
def ψb.sig:Sig:=⟨[.val tyF,.val tyF],[.val .bool],false⟩
def ψb.ctr:Ctr:=⟨ψb.sig,fun x=>ψb.f x.1 x.2⟩
def ψb.env:Env:=[]
def ψb.ann:Ann:=⟨[],[],[]⟩
theorem ψb.ok:φ0 Tryz.prog 27 ψb.ctr:=fS (A:=ψb.ann) φ1.nil Tryz.func27 (by kernel_rfl) (by kernel_rfl) (fun x=>by kernel_rfl)
def ψc.sig:Sig:=⟨[.val (.sl false tyF),.val (.sl false tyF)],[.val .bool],false⟩
def ψc.ctr:Ctr:=⟨ψc.sig,fun x=>ψc.f x.1 x.2⟩
def ψc.env:Env:=[(27,[ψb.ctr])]
def ψc.ann:Ann:=⟨[(0,([(0,.val (.sl false tyF)),(1,.val (.sl false tyF)),(5,.val tyI)],[(.exit 0,[]),(.ret,[(4,.val .bool)])]))],[],[]⟩
theorem ψc.ok:φ0 Tryz.prog 9 ψc.ctr:=fS (A:=ψc.ann) (eC ψb.ok φ1.nil) Tryz.func9 (by kernel_rfl) (by kernel_rfl) (fun x=>by kernel_rfl)
def ψX.sig:Sig:=⟨[.val tyF,.val tyF],[.val .bool],false⟩
def ψX.ctr:Ctr:=⟨ψX.sig,fun x=>ψX.f x.1 x.2⟩
def ψX.env:Env:=[]
def ψX.ann:Ann:=⟨[],[],[]⟩
theorem ψX.ok:φ0 Tryz.prog 81 ψX.ctr:=fS (A:=ψX.ann) φ1.nil Tryz.func81 (by kernel_rfl) (by kernel_rfl) (fun x=>by kernel_rfl)
def ψY.sig:Sig:=⟨[.val (.sl false tyF),.val (.sl false tyF)],[.val .bool],false⟩
def ψY.ctr:Ctr:=⟨ψY.sig,fun x=>ψY.f x.1 x.2⟩
def ψY.env:Env:=[(81,[ψX.ctr])]
def ψY.ann:Ann:=⟨[(0,([(0,.val (.sl false tyF)),(1,.val (.sl false tyF)),(5,.val tyI)],[(.exit 0,[]),(.ret,[(4,.val .bool)])]))],[],[]⟩
theorem ψY.ok:φ0 Tryz.prog 37 ψY.ctr:=fS (A:=ψY.ann) (eC ψX.ok φ1.nil) Tryz.func37 (by kernel_rfl) (by kernel_rfl) (fun x=>by kernel_rfl)
def ψT.sig:Sig:=⟨[.val tyd,.val tyd],[.val .bool],false⟩
def ψT.ctr:Ctr:=⟨ψT.sig,fun x=>ψT.f x.1 x.2⟩
def ψT.env:Env:=[(37,[ψY.ctr])]
def ψT.ann:Ann:=⟨[],[],[]⟩
theorem ψT.ok:φ0 Tryz.prog 18 ψT.ctr:=fS (A:=ψT.ann) (eC ψY.ok φ1.nil) Tryz.func18 (by kernel_rfl) (by kernel_rfl) (fun x=>by kernel_rfl)
def ψZ.sig:Sig:=⟨[.val (.sl false tyI),.val (.sl false tyI)],[.val .bool],false⟩
def ψZ.ctr:Ctr:=⟨ψZ.sig,fun x=>ψZ.f x.1 x.2⟩
def ψZ.env:Env:=[]
def ψZ.ann:Ann:=⟨[(0,([(0,.val (.sl false tyI)),(1,.val (.sl false tyI)),(5,.val tyI)],[(.exit 0,[]),(.ret,[(4,.val .bool)])]))],[],[]⟩
theorem ψZ.ok:φ0 Tryz.prog 100 ψZ.ctr:=fS (A:=ψZ.ann) φ1.nil Tryz.func100 (by kernel_rfl) (by kernel_rfl) (fun x=>by kernel_rfl)
def ψa.sig:Sig:=⟨[.val (.pair tyI (.sl false tyI)),.val (.pair tyI (.sl false tyI))],[.val .bool],false⟩
def ψa.ctr:Ctr:=⟨ψa.sig,fun x=>ψa.f x.1 x.2⟩
def ψa.env:Env:=[(100,[ψZ.ctr])]
def ψa.ann:Ann:=⟨[],[],[]⟩
theorem ψa.ok:φ0 Tryz.prog 51 ψa.ctr:=fS (A:=ψa.ann) (eC ψZ.ok φ1.nil) Tryz.func51 (by kernel_rfl) (by kernel_rfl) (fun x=>by kernel_rfl)
def ψV.sig:Sig:=⟨[.val tyE,.val tyE],[.val .bool],false⟩
def ψV.ctr:Ctr:=⟨ψV.sig,fun x=>ψV.f x.1 x.2⟩
def ψV.env:Env:=[]
def ψV.ann:Ann:=⟨[],[],[]⟩
theorem ψV.ok:φ0 Tryz.prog 101 ψV.ctr:=fS (A:=ψV.ann) φ1.nil Tryz.func101 (by kernel_rfl) (by kernel_rfl) (fun x=>by kernel_rfl)
def ψW.sig:Sig:=⟨[.val (.sl false tyE),.val (.sl false tyE)],[.val .bool],false⟩
def ψW.ctr:Ctr:=⟨ψW.sig,fun x=>ψW.f x.1 x.2⟩
def ψW.env:Env:=[(101,[ψV.ctr])]
def ψW.ann:Ann:=⟨[(0,([(0,.val (.sl false tyE)),(1,.val (.sl false tyE)),(5,.val tyI)],[(.exit 0,[]),(.ret,[(4,.val .bool)])]))],[],[]⟩
theorem ψW.ok:φ0 Tryz.prog 52 ψW.ctr:=fS (A:=ψW.ann) (eC ψV.ok φ1.nil) Tryz.func52 (by kernel_rfl) (by kernel_rfl) (fun x=>by kernel_rfl)
def ψh.sig:Sig:=⟨[.val tys,.val tys],[.val .bool],false⟩
def ψh.ctr:Ctr:=⟨ψh.sig,fun x=>ψh.f x.1 x.2⟩
def ψh.env:Env:=[(51,[ψa.ctr]),(52,[ψW.ctr])]
def ψh.ann:Ann:=⟨[],[],[]⟩
theorem ψh.ok:φ0 Tryz.prog 28 ψh.ctr:=fS (A:=ψh.ann) (eC ψa.ok (eC ψW.ok φ1.nil)) Tryz.func28 (by kernel_rfl) (by kernel_rfl) (fun x=>by kernel_rfl)
def ψf.sig:Sig:=⟨[.val (.pair .str tyI),.val (.pair .str tyI)],[.val .bool],false⟩
def ψf.ctr:Ctr:=⟨ψf.sig,fun x=>ψf.f x.1 x.2⟩
def ψf.env:Env:=[]
def ψf.ann:Ann:=⟨[],[],[]⟩
theorem ψf.ok:φ0 Tryz.prog 149 ψf.ctr:=fS (A:=ψf.ann) φ1.nil Tryz.func149 (by kernel_rfl) (by kernel_rfl) (fun x=>by kernel_rfl)
def ψg.sig:Sig:=⟨[.val (.sl false (.pair .str tyI)),.val (.sl false (.pair .str tyI))],[.val .bool],false⟩
def ψg.ctr:Ctr:=⟨ψg.sig,fun x=>ψg.f x.1 x.2⟩
def ψg.env:Env:=[(149,[ψf.ctr])]
def ψg.ann:Ann:=⟨[(0,([(0,.val (.sl false (.pair .str tyI))),(1,.val (.sl false (.pair .str tyI))),(5,.val tyI)],[(.exit 0,[]),(.ret,[(4,.val .bool)])]))],[],[]⟩
theorem ψg.ok:φ0 Tryz.prog 102 ψg.ctr:=fS (A:=ψg.ann) (eC ψf.ok φ1.nil) Tryz.func102 (by kernel_rfl) (by kernel_rfl) (fun x=>by kernel_rfl)
def ψd.sig:Sig:=⟨[.val tyP,.val tyP],[.val .bool],false⟩
def ψd.ctr:Ctr:=⟨ψd.sig,fun x=>ψd.f x.1 x.2⟩
def ψd.env:Env:=[]
def ψd.ann:Ann:=⟨[],[],[]⟩
theorem ψd.ok:φ0 Tryz.prog 150 ψd.ctr:=fS (A:=ψd.ann) φ1.nil Tryz.func150 (by kernel_rfl) (by kernel_rfl) (fun x=>by kernel_rfl)
def ψe.sig:Sig:=⟨[.val (.sl false tyP),.val (.sl false tyP)],[.val .bool],false⟩
def ψe.ctr:Ctr:=⟨ψe.sig,fun x=>ψe.f x.1 x.2⟩
def ψe.env:Env:=[(150,[ψd.ctr])]
def ψe.ann:Ann:=⟨[(0,([(0,.val (.sl false tyP)),(1,.val (.sl false tyP)),(5,.val tyI)],[(.exit 0,[]),(.ret,[(4,.val .bool)])]))],[],[]⟩
theorem ψe.ok:φ0 Tryz.prog 103 ψe.ctr:=fS (A:=ψe.ann) (eC ψd.ok φ1.nil) Tryz.func103 (by kernel_rfl) (by kernel_rfl) (fun x=>by kernel_rfl)
def ψi.sig:Sig:=⟨[.val (.pair .bool (.pair (.sl false (.pair .str tyI)) (.sl false tyP))),.val (.pair .bool (.pair (.sl false (.pair .str tyI)) (.sl false tyP)))],[.val .bool],false⟩
def ψi.ctr:Ctr:=⟨ψi.sig,fun x=>ψi.f x.1 x.2⟩
def ψi.env:Env:=[(102,[ψg.ctr]),(103,[ψe.ctr])]
def ψi.ann:Ann:=⟨[],[],[]⟩
theorem ψi.ok:φ0 Tryz.prog 53 ψi.ctr:=fS (A:=ψi.ann) (eC ψg.ok (eC ψe.ok φ1.nil)) Tryz.func53 (by kernel_rfl) (by kernel_rfl) (fun x=>by kernel_rfl)
def ψj.sig:Sig:=⟨[.val (.sl false (.pair .bool (.pair (.sl false (.pair .str tyI)) (.sl false tyP)))),.val (.sl false (.pair .bool (.pair (.sl false (.pair .str tyI)) (.sl false tyP))))],[.val .bool],false⟩
def ψj.ctr:Ctr:=⟨ψj.sig,fun x=>ψj.f x.1 x.2⟩
def ψj.env:Env:=[(53,[ψi.ctr])]
def ψj.ann:Ann:=⟨[(0,([(0,.val (.sl false (.pair .bool (.pair (.sl false (.pair .str tyI)) (.sl false tyP))))),(1,.val (.sl false (.pair .bool (.pair (.sl false (.pair .str tyI)) (.sl false tyP))))),(5,.val tyI)],[(.exit 0,[]),(.ret,[(4,.val .bool)])]))],[],[]⟩
theorem ψj.ok:φ0 Tryz.prog 29 ψj.ctr:=fS (A:=ψj.ann) (eC ψi.ok φ1.nil) Tryz.func29 (by kernel_rfl) (by kernel_rfl) (fun x=>by kernel_rfl)
def ψU.sig:Sig:=⟨[.val (.pair .bool (.pair tys (.pair tyd (.sl false (.pair .bool (.pair (.sl false (.pair .str tyI)) (.sl false tyP))))))),.val (.pair .bool (.pair tys (.pair tyd (.sl false (.pair .bool (.pair (.sl false (.pair .str tyI)) (.sl false tyP)))))))],[.val .bool],false⟩
def ψU.ctr:Ctr:=⟨ψU.sig,fun x=>ψU.f x.1 x.2⟩
def ψU.env:Env:=[(18,[ψT.ctr]),(28,[ψh.ctr]),(29,[ψj.ctr])]
def ψU.ann:Ann:=⟨[],[],[]⟩
theorem ψU.ok:φ0 Tryz.prog 10 ψU.ctr:=fS (A:=ψU.ann) (eC ψT.ok (eC ψh.ok (eC ψj.ok φ1.nil))) Tryz.func10 (by kernel_rfl) (by kernel_rfl) (fun x=>by kernel_rfl)
def ψv.sig:Sig:=⟨[.val tyI],[.val .str],false⟩
def ψv.ctr:Ctr:=⟨ψv.sig,fun x=>ψv.f x⟩
def ψv.env:Env:=[]
def ψv.ann:Ann:=⟨[(0,([(0,.val tyI),(3,.val .str)],[(.exit 0,[(3,.val .str)])]))],[],[]⟩
theorem ψv.ok:φ0 Tryz.prog 32 ψv.ctr:=fS (A:=ψv.ann) φ1.nil Tryz.func32 (by kernel_rfl) (by kernel_rfl) (fun x=>by kernel_rfl)
def ψo.sig:Sig:=⟨[.io (.sl true tyF),.val tyI],[.val tyI],false⟩
def ψo.ctr:Ctr:=⟨ψo.sig,fun x=>ψo.f x.1 x.2⟩
def ψo.env:Env:=[(32,[ψv.ctr])]
def ψo.ann:Ann:=⟨[(0,([(0,.val (.sl true tyF)),(1,.val tyI),(5,.val tyI)],[(.exit 0,[(0,.val (.sl true tyF)),(1,.val tyI)])]))],[],[]⟩
theorem ψo.ok:φ0 Tryz.prog 38 ψo.ctr:=fS (A:=ψo.ann) (eC ψv.ok φ1.nil) Tryz.func38 (by kernel_rfl) (by kernel_rfl) (fun x=>by kernel_rfl)
def ψl.sig:Sig:=⟨[.io tyD,.val tyI],[.val tyI],false⟩
def ψl.ctr:Ctr:=⟨ψl.sig,fun x=>ψl.f x.1 x.2⟩
def ψl.env:Env:=[(38,[ψo.ctr])]
def ψl.ann:Ann:=⟨[],[],[]⟩
theorem ψl.ok:φ0 Tryz.prog 19 ψl.ctr:=fS (A:=ψl.ann) (eC ψo.ok φ1.nil) Tryz.func19 (by kernel_rfl) (by kernel_rfl) (fun x=>by kernel_rfl)
def ψp.sig:Sig:=⟨[.io (.sl true tyI),.val tyI],[.val tyI],false⟩
def ψp.ctr:Ctr:=⟨ψp.sig,fun x=>ψp.f x.1 x.2⟩
def ψp.env:Env:=[]
def ψp.ann:Ann:=⟨[(0,([(0,.val (.sl true tyI)),(1,.val tyI),(5,.val tyI)],[(.exit 0,[(0,.val (.sl true tyI)),(1,.val tyI)])]))],[],[]⟩
theorem ψp.ok:φ0 Tryz.prog 104 ψp.ctr:=fS (A:=ψp.ann) φ1.nil Tryz.func104 (by kernel_rfl) (by kernel_rfl) (fun x=>by kernel_rfl)
def ψq.sig:Sig:=⟨[.io (.pair tyI (.sl true tyI)),.val tyI],[.val tyI],false⟩
def ψq.ctr:Ctr:=⟨ψq.sig,fun x=>ψq.f x.1 x.2⟩
def ψq.env:Env:=[(104,[ψp.ctr])]
def ψq.ann:Ann:=⟨[],[],[]⟩
theorem ψq.ok:φ0 Tryz.prog 54 ψq.ctr:=fS (A:=ψq.ann) (eC ψp.ok φ1.nil) Tryz.func54 (by kernel_rfl) (by kernel_rfl) (fun x=>by kernel_rfl)
def ψn.sig:Sig:=⟨[.io (.sl true tyE),.val tyI],[.val tyI],false⟩
def ψn.ctr:Ctr:=⟨ψn.sig,fun x=>ψn.f x.1 x.2⟩
def ψn.env:Env:=[(32,[ψv.ctr])]
def ψn.ann:Ann:=⟨[(0,([(0,.val (.sl true tyE)),(1,.val tyI),(5,.val tyI)],[(.exit 0,[(0,.val (.sl true tyE)),(1,.val tyI)])]))],[],[]⟩
theorem ψn.ok:φ0 Tryz.prog 55 ψn.ctr:=fS (A:=ψn.ann) (eC ψv.ok φ1.nil) Tryz.func55 (by kernel_rfl) (by kernel_rfl) (fun x=>by kernel_rfl)
def ψu.sig:Sig:=⟨[.io tyS,.val tyI],[.val tyI],false⟩
def ψu.ctr:Ctr:=⟨ψu.sig,fun x=>ψu.f x.1 x.2⟩
def ψu.env:Env:=[(54,[ψq.ctr]),(55,[ψn.ctr])]
def ψu.ann:Ann:=⟨[],[],[]⟩
theorem ψu.ok:φ0 Tryz.prog 30 ψu.ctr:=fS (A:=ψu.ann) (eC ψq.ok (eC ψn.ok φ1.nil)) Tryz.func30 (by kernel_rfl) (by kernel_rfl) (fun x=>by kernel_rfl)
def ψt.sig:Sig:=⟨[.io (.sl true (.pair .str tyI)),.val tyI],[.val tyI],false⟩
def ψt.ctr:Ctr:=⟨ψt.sig,fun x=>ψt.f x.1 x.2⟩
def ψt.env:Env:=[(32,[ψv.ctr])]
def ψt.ann:Ann:=⟨[(0,([(0,.val (.sl true (.pair .str tyI))),(1,.val tyI),(5,.val tyI)],[(.exit 0,[(0,.val (.sl true (.pair .str tyI))),(1,.val tyI)])]))],[],[]⟩
theorem ψt.ok:φ0 Tryz.prog 56 ψt.ctr:=fS (A:=ψt.ann) (eC ψv.ok φ1.nil) Tryz.func56 (by kernel_rfl) (by kernel_rfl) (fun x=>by kernel_rfl)
def ψs.sig:Sig:=⟨[.io (.sl true tyP),.val tyI],[.val tyI],false⟩
def ψs.ctr:Ctr:=⟨ψs.sig,fun x=>ψs.f x.1 x.2⟩
def ψs.env:Env:=[(32,[ψv.ctr])]
def ψs.ann:Ann:=⟨[(0,([(0,.val (.sl true tyP)),(1,.val tyI),(5,.val tyI)],[(.exit 0,[(0,.val (.sl true tyP)),(1,.val tyI)])]))],[],[]⟩
theorem ψs.ok:φ0 Tryz.prog 57 ψs.ctr:=fS (A:=ψs.ann) (eC ψv.ok φ1.nil) Tryz.func57 (by kernel_rfl) (by kernel_rfl) (fun x=>by kernel_rfl)
def ψw.sig:Sig:=⟨[.io (.sl true (.pair .bool (.pair (.sl true (.pair .str tyI)) (.sl true tyP)))),.val tyI],[.val tyI],true⟩
def ψw.ctr:Ctr:=⟨ψw.sig,fun x=>ψw.f x.1 x.2⟩
def ψw.env:Env:=[(56,[ψt.ctr]),(57,[ψs.ctr]),(1000000007,[]),(1000000008,[])]
def ψw.ann:Ann:=⟨[(0,([(0,.val (.sl true (.pair .bool (.pair (.sl true (.pair .str tyI)) (.sl true tyP))))),(1,.val tyI),(5,.val tyI)],[(.exit 0,[(0,.val (.sl true (.pair .bool (.pair (.sl true (.pair .str tyI)) (.sl true tyP))))),(1,.val tyI)])]))],[],[]⟩
theorem ψw.ok:φ0 Tryz.prog 31 ψw.ctr:=fS (A:=ψw.ann) (eC ψt.ok (eC ψs.ok (φ1.cons (g:=1000000007) φ3Q (φ1.cons (g:=1000000008) φ3Q φ1.nil)))) Tryz.func31 (by kernel_rfl) (by kernel_rfl) (fun x=>by kernel_rfl)
def ψm.sig:Sig:=⟨[.io (.pair .bool (.pair tyS (.pair tyD (.sl true (.pair .bool (.pair (.sl true (.pair .str tyI)) (.sl true tyP))))))),.val tyI],[.val tyI],true⟩
def ψm.ctr:Ctr:=⟨ψm.sig,fun x=>ψm.f x.1 x.2⟩
def ψm.env:Env:=[(19,[ψl.ctr]),(30,[ψu.ctr]),(31,[ψw.ctr]),(1000000008,[])]
def ψm.ann:Ann:=⟨[],[],[]⟩
theorem ψm.ok:φ0 Tryz.prog 11 ψm.ctr:=fS (A:=ψm.ann) (eC ψl.ok (eC ψu.ok (eC ψw.ok (φ1.cons (g:=1000000008) φ3Q φ1.nil)))) Tryz.func11 (by kernel_rfl) (by kernel_rfl) (fun x=>by kernel_rfl)
def ψr.sig:Sig:=⟨[.io (.sl true tyF),.val tyI],[.val tyI],false⟩
def ψr.ctr:Ctr:=⟨ψr.sig,fun x=>ψr.f x.1 x.2⟩
def ψr.env:Env:=[(32,[ψv.ctr])]
def ψr.ann:Ann:=⟨[(0,([(0,.val (.sl true tyF)),(1,.val tyI),(5,.val tyI)],[(.exit 0,[(0,.val (.sl true tyF)),(1,.val tyI)])]))],[],[]⟩
theorem ψr.ok:φ0 Tryz.prog 12 ψr.ctr:=fS (A:=ψr.ann) (eC ψv.ok φ1.nil) Tryz.func12 (by kernel_rfl) (by kernel_rfl) (fun x=>by kernel_rfl)
def ψk.sig:Sig:=⟨[.val (.sl false tyF),.val tyI],[.val tyI],false⟩
def ψk.ctr:Ctr:=⟨ψk.sig,fun x=>ψk.f x.1 x.2⟩
def ψk.env:Env:=[(32,[ψv.ctr])]
def ψk.ann:Ann:=⟨[(0,([(0,.val (.sl false tyF)),(1,.val tyI),(5,.val tyI)],[(.exit 0,[(1,.val tyI)]),(.ret,[(4,.val tyI)])]))],[],[]⟩
theorem ψk.ok:φ0 Tryz.prog 13 ψk.ctr:=fS (A:=ψk.ann) (eC ψv.ok φ1.nil) Tryz.func13 (by kernel_rfl) (by kernel_rfl) (fun x=>by kernel_rfl)
def ψS.sig:Sig:=⟨[.val (.pair .bool (.pair tys (.pair tyd (.sl false (.pair .bool (.pair (.sl false (.pair .str tyI)) (.sl false tyP)))))))],[.val .bool],false⟩
def ψS.ctr:Ctr:=⟨ψS.sig,fun x=>ψS.f x⟩
def ψS.env:Env:=[(5,[ψy.ctr]),(6,[ψ1W.ctr]),(7,[ψ1D.ctr]),(8,[ψ6.ctr]),(9,[ψc.ctr]),(10,[ψU.ctr]),(11,[ψm.ctr]),(12,[ψr.ctr]),(13,[ψk.ctr]),(1000000008,[])]
def ψS.ann:Ann:=⟨[],[],[]⟩
theorem ψS.ok:φ0 Tryz.prog 3 ψS.ctr:=fS (A:=ψS.ann) (eC ψy.ok (eC ψ1W.ok (eC ψ1D.ok (eC ψ6.ok (eC ψc.ok (eC ψU.ok (eC ψm.ok (eC ψr.ok (eC ψk.ok (φ1.cons (g:=1000000008) φ3Q φ1.nil)))))))))) Tryz.func3 (by kernel_rfl) (by kernel_rfl) (fun x=>by kernel_rfl)
end
end Go.Proofs.YtaijadchooalpaaGreatDoor
