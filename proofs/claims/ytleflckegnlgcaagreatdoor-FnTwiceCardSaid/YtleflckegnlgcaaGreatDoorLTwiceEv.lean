import Derived.Test.YtleflckegnlgcaaGreatDoorShelf
import Derived.Lib.AppendIntMem
import Derived.Test.YtleflckegnlgcaaGreatDoorRf5
import Derived.Test.YtleflckegnlgcaaGreatDoorLTwiceFns
import Derived.Test.YtleflckegnlgcaaGreatDoorProg
open Option renaming bind_some→bS
open List renaming length_append→lA,append_assoc→aA,mem_cons_of_mem→mC,mem_append→mA,mem_append_right→mR,mem_append_left→mL,mem_cons→mc,drop_eq_getElem_cons→dG,length_take→lT,length_drop→lD,mem_map→mM,length_map→lM,length_cons→lC,length_nil→lN,getElem_mem→gM,map_append→mp,mem_singleton→mZ,mem_cons_self→κ0,take_succ_eq_append_getElem→κ3,map_cons→κ6,append_nil→κ7,nil_append→κ9,length_singleton→κA,drop_zero→κC,take_append_drop→κE,cons_append→κF,flatMap_append→κJ,replicate→κK,nodup_append→κL,foldl_cons→κO,drop_left→κP,nodup_cons→κQ,range'→κR,all_eq_true→κT,foldl_append→κU,take_length→κW,pairwise_cons→κY,mem_or_eq_of_mem_set→κd,pairwise_append→κe,mem_of_mem_take→κf
open Bool renaming and_eq_true→bA,eq_false_or_eq_true→bE,not_true→nZ,not_false→nF,true_and→tA,not_not→nn,false_eq_true→κ2,true_eq_false→κ8,false_and→κD,or_eq_false_iff→κI,and_true→κM,not_eq_true'→κN,false_or→κS,or_eq_true→κX
open Int renaming toNat_natCast→tN,ofNat_lt→oL,le_refl→κH
open Nat renaming lt_or_ge→κ1,zero_le→κ4,le_refl→κ5,eq_of_beq_eq_true→κB,lt_of_lt_of_le→κG,zero_add→κV,le_trans→κZ,pow_succ→κa,mod_eq_of_lt→κc
open Array renaming length_toList→κb
set_option linter.unusedVariables false
set_option linter.unusedSimpArgs false
namespace Go.Proofs.YtleflckegnlgcaaGreatDoor
noncomputable section
open Go Go.Rf Go.Rf.G Go.Proofs Go.Lib
set_option maxRecDepth 100000
abbrev tyR:Ty:=.pair (.int .i64) (.pair (.int .i64) (.pair .str (.pair .str (.pair (.int .i64) (.int .i64)))))
abbrev tyE:Ty:=.pair .str (.pair (.int .i64) (.pair (.int .i64) (.pair (.int .i64) (.int .i64))))
abbrev tyF:Ty:=.pair .str (.pair .str (.int .i64))
abbrev tyP:Ty:=.pair .str (.pair .bool .str)
abbrev tyD:Ty:=.pair (.sl true tyF) (.pair (.int .i64) (.pair (.int .i64) .bool))
abbrev tyS:Ty:=.pair (.pair (.int .i64) (.sl true (.int .i64))) (.pair (.sl true tyE) (.pair (.int .i64) (.pair (.int .i64) (.int .i64))))
abbrev tyd:Ty:=.pair (.sl false tyF) (.pair (.int .i64) (.pair (.int .i64) .bool))
abbrev tys:Ty:=.pair (.pair (.int .i64) (.sl false (.int .i64))) (.pair (.sl false tyE) (.pair (.int .i64) (.pair (.int .i64) (.int .i64))))
abbrev tyI:Ty:=.int .i64
def φ8u (f:Func):Code:=f.body.getD .skip
def tab:Tab:=[(3,⟨tyI,false,[],none,8,false⟩),
 (4,⟨.bool,false,[],none,1,false⟩),
 (5,⟨(.int .u8),false,[],none,1,false⟩),
 (9,⟨.str,false,[],none,16,false⟩),
 (22,⟨(.sl true (.int .u8)),false,[],some 5,24,false⟩),
 (24,⟨(.sl true (.pair tyI (.pair tyI tyF))),false,[],some 28,24,false⟩),
 (28,⟨(.pair tyI (.pair tyI tyF)),true,[(0,1,false),(1,1,false),(2,1,false),(3,1,false),(4,1,false)],none,56,true⟩),
 (29,⟨(.sl true tyI),false,[],some 3,24,false⟩),
 (31,⟨(.pair tyI (.sl true tyI)),true,[(0,1,false),(1,1,false)],none,32,false⟩),
 (32,⟨(.sl true tyE),false,[],some 96,24,false⟩),
 (34,⟨tyS,true,[(0,2,true),(2,1,false),(3,1,false),(4,1,false),(5,1,false)],none,80,false⟩),
 (35,⟨(.sl true tyF),false,[],some 103,24,false⟩),
 (37,⟨tyD,true,[(0,1,false),(1,1,false),(2,1,false),(3,1,false)],none,48,false⟩),
 (38,⟨(.sl true (.pair .bool (.pair (.sl true (.pair .str tyI)) (.sl true tyP)))),false,[],some 133,24,false⟩),
 (40,⟨(.pair .bool (.pair tyS (.pair tyD (.sl true (.pair .bool (.pair (.sl true (.pair .str tyI)) (.sl true tyP))))))),true,[(0,1,false),(1,6,true),(7,4,true),(11,1,false)],none,160,false⟩),
 (41,⟨(.sl true (.pair tyI (.pair .str (.sl true .str)))),false,[],some 58,24,false⟩),
 (42,⟨(.sl true (.pair tyI (.sl true tyP))),false,[],some 116,24,false⟩),
 (43,⟨(.sl true tyP),false,[],some 139,24,false⟩),
 (45,⟨(.pair (.pair .bool (.pair tyS (.pair tyD (.sl true (.pair .bool (.pair (.sl true (.pair .str tyI)) (.sl true tyP))))))) (.pair (.sl true (.pair tyI (.pair .str (.sl true .str)))) (.pair (.sl true (.pair tyI (.sl true tyP))) (.sl true tyP)))),true,[(0,12,true),(12,1,false),(13,1,false),(14,1,false)],none,232,false⟩),
 (48,⟨(.pair tyI (.pair tyI (.sl true (.pair tyI (.pair tyI tyF))))),true,[(0,1,false),(1,1,false),(2,1,false)],none,40,false⟩),
 (50,⟨(.sl true tyF),false,[],some 81,24,false⟩),
 (56,⟨(.sl true .str),false,[],some 9,24,false⟩),
 (58,⟨(.pair tyI (.pair .str (.sl true .str))),true,[(0,1,false),(1,1,false),(2,1,false)],none,48,false⟩),
 (81,⟨tyF,true,[(0,1,false),(1,1,false),(2,1,false)],none,40,true⟩),
 (92,⟨(.sl true (.pair tyI (.pair tyI tyR))),false,[],some 130,24,false⟩),
 (96,⟨tyE,true,[(0,1,false),(1,1,false),(2,1,false),(3,1,false),(4,1,false)],none,48,true⟩),
 (98,⟨tyR,true,[(0,1,false),(1,1,false),(2,1,false),(3,1,false),(4,1,false),(5,1,false)],none,64,true⟩),
 (103,⟨tyF,true,[(0,1,false),(1,1,false),(2,1,false)],none,40,true⟩),
 (108,⟨(.pair (.sl true (.int .u8)) (.pair tyI tyI)),true,[(0,1,false),(1,1,false),(2,1,false)],none,40,false⟩),
 (109,⟨(.sl true .bool),false,[],some 4,24,false⟩),
 (116,⟨(.pair tyI (.sl true tyP)),true,[(0,1,false),(1,1,false)],none,32,false⟩),
 (130,⟨(.pair tyI (.pair tyI tyR)),true,[(0,1,false),(1,1,false),(2,6,true)],none,80,true⟩),
 (131,⟨(.sl true (.pair .str tyI)),false,[],some 207,24,false⟩),
 (133,⟨(.pair .bool (.pair (.sl true (.pair .str tyI)) (.sl true tyP))),true,[(0,1,false),(1,1,false),(2,1,false)],none,56,false⟩),
 (139,⟨tyP,true,[(0,1,false),(1,1,false),(2,1,false)],none,40,true⟩),
 (148,⟨(.pair tyD tyI),true,[(0,4,true),(4,1,false)],none,56,false⟩),
 (180,⟨(.sl true (.sl true (.pair tyI (.pair tyI (.pair tyI tyR))))),false,[],some 191,24,false⟩),
 (188,⟨(.pair (.sl true tyE) (.pair tyI tyI)),true,[(0,1,false),(1,1,false),(2,1,false)],none,40,false⟩),
 (191,⟨(.sl true (.pair tyI (.pair tyI (.pair tyI tyR)))),false,[],some 231,24,false⟩),
 (198,⟨(.sl true tyR),false,[],some 98,24,false⟩),
 (207,⟨(.pair .str tyI),true,[(0,1,false),(1,1,false)],none,24,true⟩),
 (216,⟨(.pair .str .bool),true,[(0,1,false),(1,1,false)],none,24,true⟩),
 (226,⟨(.pair tyI (.pair tyI (.sl true tyE))),true,[(0,1,false),(1,1,false),(2,1,false)],none,40,false⟩),
 (231,⟨(.pair tyI (.pair tyI (.pair tyI tyR))),true,[(0,1,false),(1,1,false),(2,1,false),(3,6,true)],none,88,true⟩),
 (257,⟨(.int .u32),false,[],none,4,false⟩),
 (259,⟨.box none .bool,false,[],none,16,false⟩)]
theorem tabOk:φ1a Tryz.prog tab:=Rf.tabOk (by kernel_rfl)
theorem φK7:Tryz.prog.follows .mixedOrders=true:=by kernel_rfl
instance laid:Laid:=φJB (φKn Tryz.prog "internal/strconv.uint64pow10" .u64 Lib.pow10Tab) (φNE 1 2)
theorem eC {g:Nat} {c:Ctr} {E:Env} (h:φ5 Tryz.prog g c) (k:φ8 Tryz.prog E):φ8 Tryz.prog ((g,[c])::E):=φ8.cons (φNi h φLN) k
theorem fS {A:Ann} {E:Env} {g:Nat} {fn:Func} {ctr:Ctr} (hE:φ8 Tryz.prog E) (hf:Tryz.prog.funcs[g]?=some fn) (hn:(fn.name == "runtime.NumGoroutine")=false) (hb:fn.body=some (φ8u fn)) (hev:∀x,evF tab E A ctr.g fn.ntmps fn.results.toList (φ8u fn) x=ctr.fn x):φ5 Tryz.prog g ctr:=φJ3 (A:=A) tabOk hE φK7 (fn:=fn) (body:=φ8u fn) hf hn hb hev
def ψ2F.sig:Sig:=⟨[.val (.sl false (.int .u8))],[.val .bool]⟩
def ψ2F.ctr:Ctr:=⟨ψ2F.sig,fun x=>ψ2F.f x⟩
def ψ2F.env:Env:=[]
def ψ2F.ann:Ann:=⟨[],[],[]⟩
theorem ψ2F.ok:φ5 Tryz.prog 8 ψ2F.ctr:=fS (A:=ψ2F.ann) φ8.nil Tryz.func8 (by kernel_rfl) (by kernel_rfl) (fun x=>by kernel_rfl)
def ψ38.sig:Sig:=⟨[.val (.sl false (.int .u8))],[.ptr (.pair (.sl false (.int .u8)) (.pair tyI tyI))]⟩
def ψ38.ctr:Ctr:=⟨ψ38.sig,fun x=>ψ38.f x⟩
def ψ38.env:Env:=[]
def ψ38.ann:Ann:=⟨[(0,([(0,.val (.sl false (.int .u8))),(3,.val tyI),(4,.val tyI)],[(.exit 0,[(0,.val (.sl false (.int .u8))),(3,.val tyI)])]))],[],[]⟩
theorem ψ38.ok:φ5 Tryz.prog 23 ψ38.ctr:=fS (A:=ψ38.ann) φ8.nil Tryz.func23 (by kernel_rfl) (by kernel_rfl) (fun x=>by kernel_rfl)
def ψ36.sig:Sig:=⟨[.ptr (.pair (.sl false (.int .u8)) (.pair tyI tyI))],[.val tyI]⟩
def ψ36.ctr:Ctr:=⟨ψ36.sig,fun x=>ψ36.f x⟩
def ψ36.env:Env:=[]
def ψ36.ann:Ann:=⟨[],[],[]⟩
theorem ψ36.ok:φ5 Tryz.prog 57 ψ36.ctr:=fS (A:=ψ36.ann) φ8.nil Tryz.func57 (by kernel_rfl) (by kernel_rfl) (fun x=>by kernel_rfl)
def ψ35.sig:Sig:=⟨[.ptr (.pair (.sl false (.int .u8)) (.pair tyI tyI)),.val tyI],[.val tyI]⟩
def ψ35.ctr:Ctr:=⟨ψ35.sig,fun x=>ψ35.f x.1 x.2⟩
def ψ35.env:Env:=[(57,[ψ36.ctr])]
def ψ35.ann:Ann:=⟨[],[],[]⟩
theorem ψ35.ok:φ5 Tryz.prog 33 ψ35.ctr:=fS (A:=ψ35.ann) (eC ψ36.ok φ8.nil) Tryz.func33 (by kernel_rfl) (by kernel_rfl) (fun x=>by kernel_rfl)
def ψ39.sig:Sig:=⟨[.ptr (.pair (.sl false (.int .u8)) (.pair tyI tyI)),.val tyI],[.val .bool]⟩
def ψ39.ctr:Ctr:=⟨ψ39.sig,fun x=>ψ39.f x.1 x.2⟩
def ψ39.env:Env:=[(33,[ψ35.ctr])]
def ψ39.ann:Ann:=⟨[],[],[]⟩
theorem ψ39.ok:φ5 Tryz.prog 35 ψ39.ctr:=fS (A:=ψ39.ann) (eC ψ35.ok φ8.nil) Tryz.func35 (by kernel_rfl) (by kernel_rfl) (fun x=>by kernel_rfl)
def ψ37.sig:Sig:=⟨[.val tyI,.val tyI,.val tyI],[.val .bool]⟩
def ψ37.ctr:Ctr:=⟨ψ37.sig,fun x=>ψ37.f x.1 x.2.1 x.2.2⟩
def ψ37.env:Env:=[]
def ψ37.ann:Ann:=⟨[],[],[]⟩
theorem ψ37.ok:φ5 Tryz.prog 40 ψ37.ctr:=fS (A:=ψ37.ann) φ8.nil Tryz.func40 (by kernel_rfl) (by kernel_rfl) (fun x=>by kernel_rfl)
def ψ3B.sig:Sig:=⟨[.ptr (.pair (.sl false (.int .u8)) (.pair tyI tyI)),.val (.sl false tyI)],[.val tyI]⟩
def ψ3B.ctr:Ctr:=⟨ψ3B.sig,fun x=>ψ3B.f x.1 x.2⟩
def ψ3B.env:Env:=[(33,[ψ35.ctr])]
def ψ3B.ann:Ann:=⟨[],[],[]⟩
theorem ψ3B.ok:φ5 Tryz.prog 34 ψ3B.ctr:=fS (A:=ψ3B.ann) (eC ψ35.ok φ8.nil) Tryz.func34 (by kernel_rfl) (by kernel_rfl) (fun x=>by kernel_rfl)
def ψ3A.sig:Sig:=⟨[.ptr (.pair (.sl false (.int .u8)) (.pair tyI tyI)),.val (.sl false .str)],[.val .str]⟩
def ψ3A.ctr:Ctr:=⟨ψ3A.sig,fun x=>ψ3A.f x.1 x.2⟩
def ψ3A.env:Env:=[(33,[ψ35.ctr])]
def ψ3A.ann:Ann:=⟨[],[],[]⟩
theorem ψ3A.ok:φ5 Tryz.prog 76 ψ3A.ctr:=fS (A:=ψ3A.ann) (eC ψ35.ok φ8.nil) Tryz.func76 (by kernel_rfl) (by kernel_rfl) (fun x=>by kernel_rfl)
def ψ3J.sig:Sig:=⟨[.ptr (.pair (.sl false (.int .u8)) (.pair tyI tyI))],[.val .str]⟩
def ψ3J.ctr:Ctr:=⟨ψ3J.sig,fun x=>ψ3J.f x⟩
def ψ3J.env:Env:=[(76,[ψ3A.ctr])]
def ψ3J.ann:Ann:=⟨[],[],[]⟩
theorem ψ3J.ok:φ5 Tryz.prog 74 ψ3J.ctr:=fS (A:=ψ3J.ann) (eC ψ3A.ok φ8.nil) Tryz.func74 (by kernel_rfl) (by kernel_rfl) (fun x=>by kernel_rfl)
def ψ3C.sig:Sig:=⟨[.ptr (.pair (.sl false (.int .u8)) (.pair tyI tyI)),.val tyI],[.val .str]⟩
def ψ3C.ctr:Ctr:=⟨ψ3C.sig,fun x=>ψ3C.f x.1 x.2⟩
def ψ3C.env:Env:=[(33,[ψ35.ctr]),(57,[ψ36.ctr])]
def ψ3C.ann:Ann:=⟨[(0,([(0,.ptr (.pair (.sl false (.int .u8)) (.pair tyI tyI))),(5,.val (.sl true (.int .u8))),(6,.val tyI),(7,.val tyI)],[(.exit 0,[(0,.ptr (.pair (.sl false (.int .u8)) (.pair tyI tyI))),(5,.val (.sl true (.int .u8)))])]))],[],[(7,[(.normal,[(0,.ptr (.pair (.sl false (.int .u8)) (.pair tyI tyI))),(5,.val (.sl true (.int .u8))),(6,.val tyI),(7,.val tyI),(8,.val tyI)])]),(9,[(.normal,[(0,.ptr (.pair (.sl false (.int .u8)) (.pair tyI tyI))),(5,.val (.sl true (.int .u8))),(6,.val tyI),(7,.val tyI),(8,.val tyI)])])]⟩
theorem ψ3C.ok:φ5 Tryz.prog 75 ψ3C.ctr:=fS (A:=ψ3C.ann) (eC ψ35.ok (eC ψ36.ok φ8.nil)) Tryz.func75 (by kernel_rfl) (by kernel_rfl) (fun x=>by kernel_rfl)
def ψ33.sig:Sig:=⟨[.ptr (.pair (.sl false (.int .u8)) (.pair tyI tyI))],[.val (.pair tyI (.pair tyI tyF))]⟩
def ψ33.ctr:Ctr:=⟨ψ33.sig,fun x=>ψ33.f x⟩
def ψ33.env:Env:=[(33,[ψ35.ctr]),(34,[ψ3B.ctr]),(74,[ψ3J.ctr]),(75,[ψ3C.ctr]),(76,[ψ3A.ctr])]
def ψ33.ann:Ann:=⟨[],[(0,[(.normal,[(0,.ptr (.pair (.sl false (.int .u8)) (.pair tyI tyI))),(2,.ptr (.pair tyI (.pair tyI tyF))),(3,.ptr (.pair tyI (.pair tyI tyF)))])])],[(3,[(.normal,[(0,.ptr (.pair (.sl false (.int .u8)) (.pair tyI tyI))),(2,.ptr (.pair tyI (.pair tyI tyF))),(3,.ptr (.pair tyI (.pair tyI tyF))),(11,.val tyI),(12,.val .bool)])]),(6,[(.normal,[(0,.ptr (.pair (.sl false (.int .u8)) (.pair tyI tyI))),(2,.ptr (.pair tyI (.pair tyI tyF))),(3,.ptr (.pair tyI (.pair tyI tyF)))])]),(12,[(.normal,[(0,.ptr (.pair (.sl false (.int .u8)) (.pair tyI tyI))),(2,.ptr (.pair tyI (.pair tyI tyF))),(3,.ptr (.pair tyI (.pair tyI tyF))),(27,.val tyI),(31,.val .bool)])])]⟩
theorem ψ33.ok:φ5 Tryz.prog 51 ψ33.ctr:=fS (A:=ψ33.ann) (eC ψ35.ok (eC ψ3B.ok (eC ψ3J.ok (eC ψ3C.ok (eC ψ3A.ok φ8.nil))))) Tryz.func51 (by kernel_rfl) (by kernel_rfl) (fun x=>by kernel_rfl)
def ψ34.sig:Sig:=⟨[.ptr (.pair (.sl false (.int .u8)) (.pair tyI tyI)),.val tyI],[.val (.sl true (.pair tyI (.pair tyI tyF)))]⟩
def ψ34.ctr:Ctr:=⟨ψ34.sig,fun x=>ψ34.f x.1 x.2⟩
def ψ34.env:Env:=[(33,[ψ35.ctr]),(35,[ψ39.ctr]),(40,[ψ37.ctr]),(51,[ψ33.ctr])]
def ψ34.ann:Ann:=⟨[(0,([(0,.ptr (.pair (.sl false (.int .u8)) (.pair tyI tyI))),(5,.val (.sl true (.pair tyI (.pair tyI tyF)))),(6,.val (.sl true .bool)),(7,.val tyI)],[(.exit 0,[(0,.ptr (.pair (.sl false (.int .u8)) (.pair tyI tyI))),(5,.val (.sl true (.pair tyI (.pair tyI tyF))))])]))],[],[(8,[(.normal,[(0,.ptr (.pair (.sl false (.int .u8)) (.pair tyI tyI))),(5,.val (.sl true (.pair tyI (.pair tyI tyF)))),(6,.val (.sl true .bool)),(7,.val tyI),(8,.ptr (.pair tyI (.pair tyI tyF)))])]),(10,[(.normal,[(0,.ptr (.pair (.sl false (.int .u8)) (.pair tyI tyI))),(5,.val (.sl true (.pair tyI (.pair tyI tyF)))),(6,.val (.sl true .bool)),(7,.val tyI),(8,.ptr (.pair tyI (.pair tyI tyF)))])]),(7,[(.normal,[(0,.ptr (.pair (.sl false (.int .u8)) (.pair tyI tyI))),(5,.val (.sl true (.pair tyI (.pair tyI tyF)))),(6,.val (.sl true .bool)),(7,.val tyI),(8,.ptr (.pair tyI (.pair tyI tyF)))])]),(13,[(.normal,[(0,.ptr (.pair (.sl false (.int .u8)) (.pair tyI tyI))),(5,.val (.sl true (.pair tyI (.pair tyI tyF)))),(6,.val (.sl true .bool)),(7,.val tyI),(8,.ptr (.pair tyI (.pair tyI tyF)))])])]⟩
theorem ψ34.ok:φ5 Tryz.prog 24 ψ34.ctr:=fS (A:=ψ34.ann) (eC ψ35.ok (eC ψ39.ok (eC ψ37.ok (eC ψ33.ok φ8.nil)))) Tryz.func24 (by kernel_rfl) (by kernel_rfl) (fun x=>by kernel_rfl)
def ψ2O.sig:Sig:=⟨[.val (.sl false (.int .u8))],[.val (.sl true (.pair tyI (.pair tyI tyF)))]⟩
def ψ2O.ctr:Ctr:=⟨ψ2O.sig,fun x=>ψ2O.f x⟩
def ψ2O.env:Env:=[(23,[ψ38.ctr]),(24,[ψ34.ctr])]
def ψ2O.ann:Ann:=⟨[],[],[]⟩
theorem ψ2O.ok:φ5 Tryz.prog 9 ψ2O.ctr:=fS (A:=ψ2O.ann) (eC ψ38.ok (eC ψ34.ok φ8.nil)) Tryz.func9 (by kernel_rfl) (by kernel_rfl) (fun x=>by kernel_rfl)
def ψ1W.sig:Sig:=⟨[.val tyI,.val tyI,.val tyI],[.val .bool]⟩
def ψ1W.ctr:Ctr:=⟨ψ1W.sig,fun x=>ψ1W.f x.1 x.2.1 x.2.2⟩
def ψ1W.env:Env:=[]
def ψ1W.ann:Ann:=⟨[],[],[]⟩
theorem ψ1W.ok:φ5 Tryz.prog 25 ψ1W.ctr:=fS (A:=ψ1W.ann) φ8.nil Tryz.func25 (by kernel_rfl) (by kernel_rfl) (fun x=>by kernel_rfl)
def ψa.sig:Sig:=⟨[.val .str],[.val .bool]⟩
def ψa.ctr:Ctr:=⟨ψa.sig,fun x=>ψa.f x⟩
def ψa.env:Env:=[(25,[ψ1W.ctr])]
def ψa.ann:Ann:=⟨[(0,([(0,.val .str),(3,.val tyI)],[(.exit 0,[(0,.val .str)]),(.ret,[(2,.val .bool)])]))],[],[(4,[(.normal,[(0,.val .str),(3,.val tyI)]),(.ret,[(2,.val .bool)])])]⟩
theorem ψa.ok:φ5 Tryz.prog 66 ψa.ctr:=fS (A:=ψa.ann) (eC ψ1W.ok φ8.nil) Tryz.func66 (by kernel_rfl) (by kernel_rfl) (fun x=>by kernel_rfl)
def ψD.sig:Sig:=⟨[.val tyd],[.val .bool]⟩
def ψD.ctr:Ctr:=⟨ψD.sig,fun x=>ψD.f x⟩
def ψD.env:Env:=[(25,[ψ1W.ctr]),(66,[ψa.ctr])]
def ψD.ann:Ann:=⟨[(0,([(1,.ptr tyd),(3,.val tyI),(23,.val (.sl false tyF)),(24,.val tyI),(25,.val tyI)],[(.exit 0,[(1,.ptr tyd),(3,.val tyI)]),(.ret,[(2,.val .bool)])]))],[],[(7,[(.normal,[(1,.ptr tyd),(3,.val tyI),(5,.ptr tyF),(23,.val (.sl false tyF)),(24,.val tyI),(25,.val tyI)]),(.ret,[(2,.val .bool)])])]⟩
theorem ψD.ok:φ5 Tryz.prog 47 ψD.ctr:=fS (A:=ψD.ann) (eC ψ1W.ok (eC ψa.ok φ8.nil)) Tryz.func47 (by kernel_rfl) (by kernel_rfl) (fun x=>by kernel_rfl)
def ψ1J.sig:Sig:=⟨[.val tyd],[.val tyD]⟩
def ψ1J.ctr:Ctr:=⟨ψ1J.sig,fun x=>ψ1J.f x⟩
def ψ1J.env:Env:=[]
def ψ1J.ann:Ann:=⟨[],[],[]⟩
theorem ψ1J.ok:φ5 Tryz.prog 53 ψ1J.ctr:=fS (A:=ψ1J.ann) φ8.nil Tryz.func53 (by kernel_rfl) (by kernel_rfl) (fun x=>by kernel_rfl)
def ψ1S.sig:Sig:=⟨[.val tyd,.val .str],[.val tyI]⟩
def ψ1S.ctr:Ctr:=⟨ψ1S.sig,fun x=>ψ1S.f x.1 x.2⟩
def ψ1S.env:Env:=[]
def ψ1S.ann:Ann:=⟨[(0,([(1,.val .str),(8,.val (.sl false tyF)),(9,.val tyI),(10,.val tyI)],[(.exit 0,[]),(.ret,[(4,.val tyI)])]))],[],[]⟩
theorem ψ1S.ok:φ5 Tryz.prog 105 ψ1S.ctr:=fS (A:=ψ1S.ann) φ8.nil Tryz.func105 (by kernel_rfl) (by kernel_rfl) (fun x=>by kernel_rfl)
def ψO.sig:Sig:=⟨[.val tyd,.val .str],[.val .str,.val .bool]⟩
def ψO.ctr:Ctr:=⟨ψO.sig,fun x=>ψO.f x.1 x.2⟩
def ψO.env:Env:=[(47,[ψD.ctr]),(105,[ψ1S.ctr])]
def ψO.ann:Ann:=⟨[],[],[]⟩
theorem ψO.ok:φ5 Tryz.prog 77 ψO.ctr:=fS (A:=ψO.ann) (eC ψD.ok (eC ψ1S.ok φ8.nil)) Tryz.func77 (by kernel_rfl) (by kernel_rfl) (fun x=>by kernel_rfl)
def strconv_Itoa.ctr:Ctr:=φFM
theorem strconv_Itoa.ok:φ5 Tryz.prog 191 strconv_Itoa.ctr:=φIa Tryz.func191 (by kernel_rfl) (by kernel_rfl) fun n h0 h1 w hL=>(Tryz.strconv_Itoa n h0 h1 w hL.1).mono fun e w' ⟨he,k,os,hw⟩=>⟨he,hw ▸ below_grow _ w (κ5 _) k os⟩
def ψ6.sig:Sig:=⟨[.val tyI],[.val .str]⟩
def ψ6.ctr:Ctr:=⟨ψ6.sig,fun x=>ψ6.f x⟩
def ψ6.env:Env:=[(191,[strconv_Itoa.ctr])]
def ψ6.ann:Ann:=⟨[],[],[]⟩
theorem ψ6.ok:φ5 Tryz.prog 160 ψ6.ctr:=fS (A:=ψ6.ann) (eC strconv_Itoa.ok φ8.nil) Tryz.func160 (by kernel_rfl) (by kernel_rfl) (fun x=>by kernel_rfl)
def ψ1Z.sig:Sig:=⟨[.val .str,.val tyI],[.val .str]⟩
def ψ1Z.ctr:Ctr:=⟨ψ1Z.sig,fun x=>ψ1Z.f x.1 x.2⟩
def ψ1Z.env:Env:=[(25,[ψ1W.ctr]),(160,[ψ6.ctr])]
def ψ1Z.ann:Ann:=⟨[],[],[]⟩
theorem ψ1Z.ok:φ5 Tryz.prog 117 ψ1Z.ctr:=fS (A:=ψ1Z.ann) (eC ψ1W.ok (eC ψ6.ok φ8.nil)) Tryz.func117 (by kernel_rfl) (by kernel_rfl) (fun x=>by kernel_rfl)
def ψx.sig:Sig:=⟨[.val tyI],[.val .str]⟩
def ψx.ctr:Ctr:=⟨ψx.sig,fun x=>ψx.f x⟩
def ψx.env:Env:=[(117,[ψ1Z.ctr])]
def ψx.ann:Ann:=⟨[],[],[]⟩
theorem ψx.ok:φ5 Tryz.prog 82 ψx.ctr:=fS (A:=ψx.ann) (eC ψ1Z.ok φ8.nil) Tryz.func82 (by kernel_rfl) (by kernel_rfl) (fun x=>by kernel_rfl)
def ψm.sig:Sig:=⟨[.val .str],[.val tyI,.val tyI]⟩
def ψm.ctr:Ctr:=⟨ψm.sig,fun x=>ψm.f x⟩
def ψm.env:Env:=[]
def ψm.ann:Ann:=⟨[(0,([(0,.val .str),(4,.val tyI),(5,.val tyI)],[(.exit 0,[]),(.ret,[(2,.val tyI),(3,.val tyI)])]))],[],[(8,[(.normal,[(4,.val tyI),(5,.val tyI)]),(.ret,[(2,.val tyI),(3,.val tyI)])])]⟩
theorem ψm.ok:φ5 Tryz.prog 161 ψm.ctr:=fS (A:=ψm.ann) φ8.nil Tryz.func161 (by kernel_rfl) (by kernel_rfl) (fun x=>by kernel_rfl)
def ψ1G.sig:Sig:=⟨[.val tyI],[.val .str]⟩
def ψ1G.ctr:Ctr:=⟨ψ1G.sig,fun x=>ψ1G.f x⟩
def ψ1G.env:Env:=[(25,[ψ1W.ctr])]
def ψ1G.ann:Ann:=⟨[(0,([(0,.val tyI),(3,.val (.sl true (.int .u8)))],[(.exit 0,[(0,.val tyI),(3,.val (.sl true (.int .u8)))])]))],[],[]⟩
theorem ψ1G.ok:φ5 Tryz.prog 195 ψ1G.ctr:=fS (A:=ψ1G.ann) (eC ψ1W.ok φ8.nil) Tryz.func195 (by kernel_rfl) (by kernel_rfl) (fun x=>by kernel_rfl)
def ψ1r.sig:Sig:=⟨[.val .str],[.val .str]⟩
def ψ1r.ctr:Ctr:=⟨ψ1r.sig,fun x=>ψ1r.f x⟩
def ψ1r.env:Env:=[(195,[ψ1G.ctr])]
def ψ1r.ann:Ann:=⟨[],[],[]⟩
theorem ψ1r.ok:φ5 Tryz.prog 192 ψ1r.ctr:=fS (A:=ψ1r.ann) (eC ψ1G.ok φ8.nil) Tryz.func192 (by kernel_rfl) (by kernel_rfl) (fun x=>by kernel_rfl)
def ψP.sig:Sig:=⟨[.val tyI,.val tyI],[.val .str]⟩
def ψP.ctr:Ctr:=⟨ψP.sig,fun x=>ψP.f x.1 x.2⟩
def ψP.env:Env:=[(25,[ψ1W.ctr])]
def ψP.ann:Ann:=⟨[(0,([(0,.val tyI),(5,.val (.sl true (.int .u8))),(6,.val tyI)],[(.exit 0,[(5,.val (.sl true (.int .u8)))])]))],[],[]⟩
theorem ψP.ok:φ5 Tryz.prog 193 ψP.ctr:=fS (A:=ψP.ann) (eC ψ1W.ok φ8.nil) Tryz.func193 (by kernel_rfl) (by kernel_rfl) (fun x=>by kernel_rfl)
def ψ3.sig:Sig:=⟨[.val .str],[.val tyI]⟩
def ψ3.ctr:Ctr:=⟨ψ3.sig,fun x=>ψ3.f x⟩
def ψ3.env:Env:=[]
def ψ3.ann:Ann:=⟨[(2,([(0,.val .str),(3,.val (.int .u32)),(4,.val tyI),(18,.val tyI)],[(.exit 2,[(0,.val .str),(3,.val (.int .u32)),(4,.val tyI)])])),(0,([(0,.val .str),(3,.val (.int .u32)),(4,.val tyI)],[(.exit 0,[(3,.val (.int .u32))])]))],[],[(10,[(.normal,[(0,.val .str),(3,.val (.int .u32)),(4,.val tyI),(18,.val tyI)])])]⟩
theorem ψ3.ok:φ5 Tryz.prog 194 ψ3.ctr:=fS (A:=ψ3.ann) φ8.nil Tryz.func194 (by kernel_rfl) (by kernel_rfl) (fun x=>by kernel_rfl)
def ψQ.sig:Sig:=⟨[.val .str],[.val .str]⟩
def ψQ.ctr:Ctr:=⟨ψQ.sig,fun x=>ψQ.f x⟩
def ψQ.env:Env:=[(192,[ψ1r.ctr]),(193,[ψP.ctr]),(194,[ψ3.ctr])]
def ψQ.ann:Ann:=⟨[],[],[]⟩
theorem ψQ.ok:φ5 Tryz.prog 162 ψQ.ctr:=fS (A:=ψQ.ann) (eC ψ1r.ok (eC ψP.ok (eC ψ3.ok φ8.nil))) Tryz.func162 (by kernel_rfl) (by kernel_rfl) (fun x=>by kernel_rfl)
def ψ1E.sig:Sig:=⟨[.val .str],[.val .str,.val tyI]⟩
def ψ1E.ctr:Ctr:=⟨ψ1E.sig,fun x=>ψ1E.f x⟩
def ψ1E.env:Env:=[(161,[ψm.ctr]),(162,[ψQ.ctr])]
def ψ1E.ann:Ann:=⟨[],[],[]⟩
theorem ψ1E.ok:φ5 Tryz.prog 118 ψ1E.ctr:=fS (A:=ψ1E.ann) (eC ψm.ok (eC ψQ.ok φ8.nil)) Tryz.func118 (by kernel_rfl) (by kernel_rfl) (fun x=>by kernel_rfl)
def ψY.sig:Sig:=⟨[.val (.pair tyI (.sl false tyI))],[.val .bool]⟩
def ψY.ctr:Ctr:=⟨ψY.sig,fun x=>ψY.f x⟩
def ψY.env:Env:=[(25,[ψ1W.ctr])]
def ψY.ann:Ann:=⟨[(0,([(1,.ptr (.pair tyI (.sl false tyI))),(6,.val (.sl false tyI)),(7,.val tyI),(8,.val tyI)],[(.exit 0,[(1,.ptr (.pair tyI (.sl false tyI)))]),(.ret,[(2,.val .bool)])]))],[],[(4,[(.normal,[(1,.ptr (.pair tyI (.sl false tyI))),(6,.val (.sl false tyI)),(7,.val tyI),(8,.val tyI)]),(.ret,[(2,.val .bool)])])]⟩
theorem ψY.ok:φ5 Tryz.prog 121 ψY.ctr:=fS (A:=ψY.ann) (eC ψ1W.ok φ8.nil) Tryz.func121 (by kernel_rfl) (by kernel_rfl) (fun x=>by kernel_rfl)
def ψ1j.sig:Sig:=⟨[.ptr (.pair .str .bool)],[.val tyI]⟩
def ψ1j.ctr:Ctr:=⟨ψ1j.sig,fun x=>ψ1j.f x⟩
def ψ1j.env:Env:=[(161,[ψm.ctr])]
def ψ1j.ann:Ann:=⟨[],[],[]⟩
theorem ψ1j.ok:φ5 Tryz.prog 144 ψ1j.ctr:=fS (A:=ψ1j.ann) (eC ψm.ok φ8.nil) Tryz.func144 (by kernel_rfl) (by kernel_rfl) (fun x=>by kernel_rfl)
def ψk.sig:Sig:=⟨[.val .str],[.val (.pair tyI (.sl true tyI)),.val .bool]⟩
def ψk.ctr:Ctr:=⟨ψk.sig,fun x=>ψk.f x⟩
def ψk.env:Env:=[(118,[ψ1E.ctr]),(121,[ψY.ctr]),(144,[ψ1j.ctr])]
def ψk.ann:Ann:=⟨[(0,([(0,.val .str),(2,.ptr (.pair tyI (.sl true tyI))),(5,.val tyI),(6,.ptr (.pair .str .bool)),(7,.ptr (.pair tyI (.sl true tyI))),(8,.val tyI),(9,.val tyI)],[(.exit 0,[(0,.val .str),(2,.ptr (.pair tyI (.sl true tyI))),(5,.val tyI),(6,.ptr (.pair .str .bool)),(7,.ptr (.pair tyI (.sl true tyI)))])]))],[],[]⟩
theorem ψk.ok:φ5 Tryz.prog 106 ψk.ctr:=fS (A:=ψk.ann) (eC ψ1E.ok (eC ψY.ok (eC ψ1j.ok φ8.nil))) Tryz.func106 (by kernel_rfl) (by kernel_rfl) (fun x=>by kernel_rfl)
def ψ1i.sig:Sig:=⟨[.ptr (.pair .str .bool),.val tyI],[.val .str]⟩
def ψ1i.ctr:Ctr:=⟨ψ1i.sig,fun x=>ψ1i.f x.1 x.2⟩
def ψ1i.env:Env:=[]
def ψ1i.ann:Ann:=⟨[],[],[]⟩
theorem ψ1i.ok:φ5 Tryz.prog 165 ψ1i.ctr:=fS (A:=ψ1i.ann) φ8.nil Tryz.func165 (by kernel_rfl) (by kernel_rfl) (fun x=>by kernel_rfl)
def ψ1k.sig:Sig:=⟨[.ptr (.pair .str .bool)],[.val .str]⟩
def ψ1k.ctr:Ctr:=⟨ψ1k.sig,fun x=>ψ1k.f x⟩
def ψ1k.env:Env:=[(144,[ψ1j.ctr]),(165,[ψ1i.ctr])]
def ψ1k.ann:Ann:=⟨[],[],[]⟩
theorem ψ1k.ok:φ5 Tryz.prog 163 ψ1k.ctr:=fS (A:=ψ1k.ann) (eC ψ1j.ok (eC ψ1i.ok φ8.nil)) Tryz.func163 (by kernel_rfl) (by kernel_rfl) (fun x=>by kernel_rfl)
def ψi.sig:Sig:=⟨[.val .str,.val tyI],[.val tyI,.val .bool]⟩
def ψi.ctr:Ctr:=⟨ψi.sig,fun x=>ψi.f x.1 x.2⟩
def ψi.env:Env:=[(25,[ψ1W.ctr])]
def ψi.ann:Ann:=⟨[(0,([(0,.val .str),(6,.val tyI),(17,.val tyI),(18,.val tyI)],[(.exit 0,[(6,.val tyI)])]))],[],[]⟩
theorem ψi.ok:φ5 Tryz.prog 164 ψi.ctr:=fS (A:=ψi.ann) (eC ψ1W.ok φ8.nil) Tryz.func164 (by kernel_rfl) (by kernel_rfl) (fun x=>by kernel_rfl)
def ψX.sig:Sig:=⟨[.val .str],[.val .bool]⟩
def ψX.ctr:Ctr:=⟨ψX.sig,fun x=>ψX.f x⟩
def ψX.env:Env:=[(25,[ψ1W.ctr])]
def ψX.ann:Ann:=⟨[],[],[]⟩
theorem ψX.ok:φ5 Tryz.prog 130 ψX.ctr:=fS (A:=ψX.ann) (eC ψ1W.ok φ8.nil) Tryz.func130 (by kernel_rfl) (by kernel_rfl) (fun x=>by kernel_rfl)
def ψo.sig:Sig:=⟨[.val tyR],[.val .bool]⟩
def ψo.ctr:Ctr:=⟨ψo.sig,fun x=>ψo.f x⟩
def ψo.env:Env:=[(25,[ψ1W.ctr]),(130,[ψX.ctr])]
def ψo.ann:Ann:=⟨[],[],[(4,[(.normal,[(1,.ptr tyR),(3,.ptr tyR),(4,.val .bool),(5,.val tyI),(12,.val tyI),(13,.val .bool)])])]⟩
theorem ψo.ok:φ5 Tryz.prog 166 ψo.ctr:=fS (A:=ψo.ann) (eC ψ1W.ok (eC ψX.ok φ8.nil)) Tryz.func166 (by kernel_rfl) (by kernel_rfl) (fun x=>by kernel_rfl)
def ψl.sig:Sig:=⟨[.val .str],[.val tyR,.val .bool]⟩
def ψl.ctr:Ctr:=⟨ψl.sig,fun x=>ψl.f x⟩
def ψl.env:Env:=[(144,[ψ1j.ctr]),(163,[ψ1k.ctr]),(164,[ψi.ctr]),(165,[ψ1i.ctr]),(166,[ψo.ctr])]
def ψl.ann:Ann:=⟨[],[(0,[(.normal,[(2,.ptr tyR),(4,.ptr (.pair .str .bool)),(5,.ptr tyR)])])],[(8,[(.normal,[(2,.ptr tyR),(4,.ptr (.pair .str .bool)),(5,.ptr tyR),(16,.val tyI),(27,.val .bool)])]),(12,[(.normal,[(2,.ptr tyR),(4,.ptr (.pair .str .bool)),(5,.ptr tyR)])])]⟩
theorem ψl.ok:φ5 Tryz.prog 119 ψl.ctr:=fS (A:=ψl.ann) (eC ψ1j.ok (eC ψ1k.ok (eC ψi.ok (eC ψ1i.ok (eC ψo.ok φ8.nil))))) Tryz.func119 (by kernel_rfl) (by kernel_rfl) (fun x=>by kernel_rfl)
def ψw.sig:Sig:=⟨[.val .str],[.val (.sl false (.pair tyI (.pair tyI tyR))),.val tyI]⟩
def ψw.ctr:Ctr:=⟨ψw.sig,fun x=>ψw.f x⟩
def ψw.env:Env:=[(118,[ψ1E.ctr]),(119,[ψl.ctr])]
def ψw.ann:Ann:=⟨[(0,([(0,.val .str),(4,.val (.sl true (.pair tyI (.pair tyI tyR)))),(5,.val tyI)],[(.ret,[(2,.val (.sl true (.pair tyI (.pair tyI tyR)))),(3,.val tyI)])]))],[],[]⟩
theorem ψw.ok:φ5 Tryz.prog 123 ψw.ctr:=fS (A:=ψw.ann) (eC ψ1E.ok (eC ψl.ok φ8.nil)) Tryz.func123 (by kernel_rfl) (by kernel_rfl) (fun x=>by kernel_rfl)
def ψ1e.sig:Sig:=⟨[.val tyI,.val (.sl false (.pair tyI (.pair tyI tyR)))],[.val (.sl true (.pair tyI (.pair tyI (.pair tyI tyR))))]⟩
def ψ1e.ctr:Ctr:=⟨ψ1e.sig,fun x=>ψ1e.f x.1 x.2⟩
def ψ1e.env:Env:=[]
def ψ1e.ann:Ann:=⟨[(0,([(0,.val tyI),(5,.val (.sl true (.pair tyI (.pair tyI (.pair tyI tyR))))),(8,.val (.sl false (.pair tyI (.pair tyI tyR)))),(9,.val tyI),(10,.val tyI)],[(.exit 0,[(5,.val (.sl true (.pair tyI (.pair tyI (.pair tyI tyR)))))])]))],[],[]⟩
theorem ψ1e.ok:φ5 Tryz.prog 145 ψ1e.ctr:=fS (A:=ψ1e.ann) φ8.nil Tryz.func145 (by kernel_rfl) (by kernel_rfl) (fun x=>by kernel_rfl)
def ψ28.sig:Sig:=⟨[.ptr (.pair tyD tyI),.val (.pair tyI (.sl false tyI))],[.val (.sl true (.sl true (.pair tyI (.pair tyI (.pair tyI tyR))))),.val tyI,.val .bool]⟩
def ψ28.ctr:Ctr:=⟨ψ28.sig,fun x=>ψ28.f x.1 x.2⟩
def ψ28.env:Env:=[(77,[ψO.ctr]),(82,[ψx.ctr]),(123,[ψw.ctr]),(145,[ψ1e.ctr])]
def ψ28.ann:Ann:=⟨[(0,([(0,.ptr (.pair tyD tyI)),(3,.ptr (.pair tyI (.sl false tyI))),(7,.val (.sl true (.sl true (.pair tyI (.pair tyI (.pair tyI tyR)))))),(8,.val tyI),(16,.val (.sl false tyI)),(17,.val tyI),(18,.val tyI)],[(.exit 0,[(0,.ptr (.pair tyD tyI)),(7,.val (.sl true (.sl true (.pair tyI (.pair tyI (.pair tyI tyR)))))),(8,.val tyI)]),(.ret,[(0,.ptr (.pair tyD tyI)),(4,.val (.sl true (.sl true (.pair tyI (.pair tyI (.pair tyI tyR)))))),(5,.val tyI),(6,.val .bool)])]))],[],[(8,[(.normal,[(0,.ptr (.pair tyD tyI)),(3,.ptr (.pair tyI (.sl false tyI))),(7,.val (.sl true (.sl true (.pair tyI (.pair tyI (.pair tyI tyR)))))),(10,.val tyI),(13,.val (.sl false (.pair tyI (.pair tyI tyR)))),(14,.val tyI),(16,.val (.sl false tyI)),(17,.val tyI),(18,.val tyI)]),(.ret,[(0,.ptr (.pair tyD tyI)),(4,.val (.sl true (.sl true (.pair tyI (.pair tyI (.pair tyI tyR)))))),(5,.val tyI),(6,.val .bool)])])]⟩
theorem ψ28.ok:φ5 Tryz.prog 107 ψ28.ctr:=fS (A:=ψ28.ann) (eC ψO.ok (eC ψx.ok (eC ψw.ok (eC ψ1e.ok φ8.nil)))) Tryz.func107 (by kernel_rfl) (by kernel_rfl) (fun x=>by kernel_rfl)
def ψ1s.sig:Sig:=⟨[.val tyI],[.val tyI]⟩
def ψ1s.ctr:Ctr:=⟨ψ1s.sig,fun x=>ψ1s.f x⟩
def ψ1s.env:Env:=[]
def ψ1s.ann:Ann:=⟨[],[],[]⟩
theorem ψ1s.ok:φ5 Tryz.prog 146 ψ1s.ctr:=fS (A:=ψ1s.ann) φ8.nil Tryz.func146 (by kernel_rfl) (by kernel_rfl) (fun x=>by kernel_rfl)
def ψ2A.sig:Sig:=⟨[.ptr (.pair tyD tyI),.val tyD,.val tyI],[]⟩
def ψ2A.ctr:Ctr:=⟨ψ2A.sig,fun x=>ψ2A.f x.1 x.2.1 x.2.2⟩
def ψ2A.env:Env:=[(146,[ψ1s.ctr])]
def ψ2A.ann:Ann:=⟨[],[],[]⟩
theorem ψ2A.ok:φ5 Tryz.prog 108 ψ2A.ctr:=fS (A:=ψ2A.ann) (eC ψ1s.ok φ8.nil) Tryz.func108 (by kernel_rfl) (by kernel_rfl) (fun x=>by kernel_rfl)
def ψ1B.sig:Sig:=⟨[.ptr tyD,.val (.box none .str),.val (.box none tyI)],[.val tyI]⟩
def ψ1B.ctr:Ctr:=⟨ψ1B.sig,fun x=>ψ1B.f x.1 x.2.1 x.2.2⟩
def ψ1B.env:Env:=[(25,[ψ1W.ctr]),(105,[ψ1S.ctr])]
def ψ1B.ann:Ann:=⟨[],[],[]⟩
theorem ψ1B.ok:φ5 Tryz.prog 148 ψ1B.ctr:=fS (A:=ψ1B.ann) (eC ψ1W.ok (eC ψ1S.ok φ8.nil)) Tryz.func148 (by kernel_rfl) (by kernel_rfl) (fun x=>by kernel_rfl)
def ψ1q.sig:Sig:=⟨[.val tyd,.val (.box (some 148) (.pair (.box none .str) (.box none tyI)))],[.val tyD,.val tyI]⟩
def ψ1q.ctr:Ctr:=⟨ψ1q.sig,fun x=>ψ1q.f x.1 x.2⟩
def ψ1q.env:Env:=[(47,[ψD.ctr]),(53,[ψ1J.ctr]),(148,[ψ1B.ctr])]
def ψ1q.ann:Ann:=⟨[],[],[(7,[(.normal,[(1,.val (.box (some 148) (.pair (.box none .str) (.box none tyI)))),(4,.ptr tyD),(6,.ptr tyD)])])]⟩
theorem ψ1q.ok:φ5 Tryz.prog 147 ψ1q.ctr:=fS (A:=ψ1q.ann) (eC ψD.ok (eC ψ1J.ok (eC ψ1B.ok φ8.nil))) Tryz.func147 (by kernel_rfl) (by kernel_rfl) (fun x=>by kernel_rfl)
def ψ1A.sig:Sig:=⟨[.val tyd,.val .str,.val tyI],[.val tyD,.val tyI]⟩
def ψ1A.ctr:Ctr:=⟨ψ1A.sig,fun x=>ψ1A.f x.1 x.2.1 x.2.2⟩
def ψ1A.env:Env:=[(147,[ψ1q.ctr])]
def ψ1A.ann:Ann:=⟨[],[],[]⟩
theorem ψ1A.ok:φ5 Tryz.prog 109 ψ1A.ctr:=fS (A:=ψ1A.ann) (eC ψ1q.ok φ8.nil) Tryz.func109 (by kernel_rfl) (by kernel_rfl) (fun x=>by kernel_rfl)
def ψ19.sig:Sig:=⟨[.ptr tyD,.val (.box none .str)],[.val tyI]⟩
def ψ19.ctr:Ctr:=⟨ψ19.sig,fun x=>ψ19.f x.1 x.2⟩
def ψ19.env:Env:=[(105,[ψ1S.ctr])]
def ψ19.ann:Ann:=⟨[],[],[]⟩
theorem ψ19.ok:φ5 Tryz.prog 180 ψ19.ctr:=fS (A:=ψ19.ann) (eC ψ1S.ok φ8.nil) Tryz.func180 (by kernel_rfl) (by kernel_rfl) (fun x=>by kernel_rfl)
def ψ1p.sig:Sig:=⟨[.val tyd,.val (.box (some 180) (.box none .str))],[.val tyD,.val tyI]⟩
def ψ1p.ctr:Ctr:=⟨ψ1p.sig,fun x=>ψ1p.f x.1 x.2⟩
def ψ1p.env:Env:=[(47,[ψD.ctr]),(53,[ψ1J.ctr]),(180,[ψ19.ctr])]
def ψ1p.ann:Ann:=⟨[],[],[(7,[(.normal,[(1,.val (.box (some 180) (.box none .str))),(4,.ptr tyD),(6,.ptr tyD)])])]⟩
theorem ψ1p.ok:φ5 Tryz.prog 147 ψ1p.ctr:=fS (A:=ψ1p.ann) (eC ψD.ok (eC ψ1J.ok (eC ψ19.ok φ8.nil))) Tryz.func147 (by kernel_rfl) (by kernel_rfl) (fun x=>by kernel_rfl)
def ψ18.sig:Sig:=⟨[.val tyd,.val .str],[.val tyD,.val tyI]⟩
def ψ18.ctr:Ctr:=⟨ψ18.sig,fun x=>ψ18.f x.1 x.2⟩
def ψ18.env:Env:=[(147,[ψ1p.ctr])]
def ψ18.ann:Ann:=⟨[],[],[]⟩
theorem ψ18.ok:φ5 Tryz.prog 149 ψ18.ctr:=fS (A:=ψ18.ann) (eC ψ1p.ok φ8.nil) Tryz.func149 (by kernel_rfl) (by kernel_rfl) (fun x=>by kernel_rfl)
def ψ29.sig:Sig:=⟨[.ptr (.pair tyD tyI),.val .str],[]⟩
def ψ29.ctr:Ctr:=⟨ψ29.sig,fun x=>ψ29.f x.1 x.2⟩
def ψ29.env:Env:=[(108,[ψ2A.ctr]),(149,[ψ18.ctr])]
def ψ29.ann:Ann:=⟨[],[],[]⟩
theorem ψ29.ok:φ5 Tryz.prog 110 ψ29.ctr:=fS (A:=ψ29.ann) (eC ψ2A.ok (eC ψ18.ok φ8.nil)) Tryz.func110 (by kernel_rfl) (by kernel_rfl) (fun x=>by kernel_rfl)
def ψU.sig:Sig:=⟨[.val tyI],[.val .str]⟩
def ψU.ctr:Ctr:=⟨ψU.sig,fun x=>ψU.f x⟩
def ψU.env:Env:=[(117,[ψ1Z.ctr])]
def ψU.ann:Ann:=⟨[],[],[]⟩
theorem ψU.ok:φ5 Tryz.prog 128 ψU.ctr:=fS (A:=ψU.ann) (eC ψ1Z.ok φ8.nil) Tryz.func128 (by kernel_rfl) (by kernel_rfl) (fun x=>by kernel_rfl)
def ψA.sig:Sig:=⟨[.val (.sl false tyE)],[.val .bool]⟩
def ψA.ctr:Ctr:=⟨ψA.sig,fun x=>ψA.f x⟩
def ψA.env:Env:=[(25,[ψ1W.ctr]),(130,[ψX.ctr])]
def ψA.ann:Ann:=⟨[(0,([(0,.val (.sl false tyE)),(5,.val (.sl false tyE)),(6,.val tyI),(7,.val tyI)],[(.exit 0,[(0,.val (.sl false tyE))]),(.ret,[(2,.val .bool)])]))],[],[(4,[(.normal,[(0,.val (.sl false tyE)),(5,.val (.sl false tyE)),(6,.val tyI),(7,.val tyI)]),(.ret,[(2,.val .bool)])])]⟩
theorem ψA.ok:φ5 Tryz.prog 122 ψA.ctr:=fS (A:=ψA.ann) (eC ψ1W.ok (eC ψX.ok φ8.nil)) Tryz.func122 (by kernel_rfl) (by kernel_rfl) (fun x=>by kernel_rfl)
def ψ1V.sig:Sig:=⟨[.val (.pair tyI (.pair tyI (.sl false tyE)))],[.val .bool]⟩
def ψ1V.ctr:Ctr:=⟨ψ1V.sig,fun x=>ψ1V.f x⟩
def ψ1V.env:Env:=[(25,[ψ1W.ctr]),(122,[ψA.ctr])]
def ψ1V.ann:Ann:=⟨[(0,([(1,.ptr (.pair tyI (.pair tyI (.sl false tyE)))),(6,.val (.sl false tyE)),(7,.val tyI),(8,.val tyI)],[(.exit 0,[(1,.ptr (.pair tyI (.pair tyI (.sl false tyE))))]),(.ret,[(2,.val .bool)])]))],[],[]⟩
theorem ψ1V.ok:φ5 Tryz.prog 181 ψ1V.ctr:=fS (A:=ψ1V.ann) (eC ψ1W.ok (eC ψA.ok φ8.nil)) Tryz.func181 (by kernel_rfl) (by kernel_rfl) (fun x=>by kernel_rfl)
def ψ1v.sig:Sig:=⟨[.val (.sl false tyI)],[.val .str]⟩
def ψ1v.ctr:Ctr:=⟨ψ1v.sig,fun x=>ψ1v.f x⟩
def ψ1v.env:Env:=[(195,[ψ1G.ctr])]
def ψ1v.ann:Ann:=⟨[(0,([(3,.val .str),(6,.val (.sl false tyI)),(7,.val tyI),(8,.val tyI)],[(.exit 0,[(3,.val .str)])]))],[],[]⟩
theorem ψ1v.ok:φ5 Tryz.prog 189 ψ1v.ctr:=fS (A:=ψ1v.ann) (eC ψ1G.ok φ8.nil) Tryz.func189 (by kernel_rfl) (by kernel_rfl) (fun x=>by kernel_rfl)
def ψy.sig:Sig:=⟨[.val (.pair tyI (.pair tyI (.sl false tyE)))],[.val .str]⟩
def ψy.ctr:Ctr:=⟨ψy.sig,fun x=>ψy.f x⟩
def ψy.env:Env:=[(181,[ψ1V.ctr]),(189,[ψ1v.ctr]),(192,[ψ1r.ctr]),(193,[ψP.ctr]),(194,[ψ3.ctr])]
def ψy.ann:Ann:=⟨[(0,([(3,.val .str),(19,.val (.sl false tyE)),(20,.val tyI),(21,.val tyI)],[(.exit 0,[(3,.val .str)])]))],[],[]⟩
theorem ψy.ok:φ5 Tryz.prog 172 ψy.ctr:=fS (A:=ψy.ann) (eC ψ1V.ok (eC ψ1v.ok (eC ψ1r.ok (eC ψP.ok (eC ψ3.ok φ8.nil))))) Tryz.func172 (by kernel_rfl) (by kernel_rfl) (fun x=>by kernel_rfl)
def ψj.sig:Sig:=⟨[.val .str],[.val (.pair tyI (.pair tyI (.sl true tyE))),.val .bool]⟩
def ψj.ctr:Ctr:=⟨ψj.sig,fun x=>ψj.f x⟩
def ψj.env:Env:=[(144,[ψ1j.ctr]),(163,[ψ1k.ctr]),(165,[ψ1i.ctr]),(172,[ψy.ctr]),(181,[ψ1V.ctr])]
def ψj.ann:Ann:=⟨[(0,([(0,.val .str),(2,.ptr (.pair tyI (.pair tyI (.sl true tyE)))),(4,.ptr (.pair .str .bool)),(5,.ptr (.pair tyI (.pair tyI (.sl true tyE)))),(6,.val tyI),(7,.val tyI)],[(.exit 0,[(0,.val .str),(2,.ptr (.pair tyI (.pair tyI (.sl true tyE)))),(4,.ptr (.pair .str .bool)),(5,.ptr (.pair tyI (.pair tyI (.sl true tyE))))])]))],[],[]⟩
theorem ψj.ok:φ5 Tryz.prog 150 ψj.ctr:=fS (A:=ψj.ann) (eC ψ1j.ok (eC ψ1k.ok (eC ψ1i.ok (eC ψy.ok (eC ψ1V.ok φ8.nil))))) Tryz.func150 (by kernel_rfl) (by kernel_rfl) (fun x=>by kernel_rfl)
def ψ10.sig:Sig:=⟨[.val tyR],[.val .str]⟩
def ψ10.ctr:Ctr:=⟨ψ10.sig,fun x=>ψ10.f x⟩
def ψ10.env:Env:=[(166,[ψo.ctr]),(189,[ψ1v.ctr]),(192,[ψ1r.ctr]),(193,[ψP.ctr]),(195,[ψ1G.ctr])]
def ψ10.ann:Ann:=⟨[],[],[(5,[(.normal,[(1,.ptr tyR),(3,.val .str),(14,.val tyI),(15,.val .bool)])])]⟩
theorem ψ10.ok:φ5 Tryz.prog 168 ψ10.ctr:=fS (A:=ψ10.ann) (eC ψo.ok (eC ψ1v.ok (eC ψ1r.ok (eC ψP.ok (eC ψ1G.ok φ8.nil))))) Tryz.func168 (by kernel_rfl) (by kernel_rfl) (fun x=>by kernel_rfl)
def ψ17.sig:Sig:=⟨[.val (.sl false tyR)],[.val tyI]⟩
def ψ17.ctr:Ctr:=⟨ψ17.sig,fun x=>ψ17.f x⟩
def ψ17.env:Env:=[(168,[ψ10.ctr]),(194,[ψ3.ctr])]
def ψ17.ann:Ann:=⟨[(0,([(3,.val .str),(6,.val (.sl false tyR)),(7,.val tyI),(8,.val tyI)],[(.exit 0,[(3,.val .str)])]))],[],[]⟩
theorem ψ17.ok:φ5 Tryz.prog 170 ψ17.ctr:=fS (A:=ψ17.ann) (eC ψ10.ok (eC ψ3.ok φ8.nil)) Tryz.func170 (by kernel_rfl) (by kernel_rfl) (fun x=>by kernel_rfl)
def ψ1T.sig:Sig:=⟨[.val tyR,.val (.sl false (.pair tyI (.pair tyI (.pair tyI tyR))))],[.val .bool]⟩
def ψ1T.ctr:Ctr:=⟨ψ1T.sig,fun x=>ψ1T.f x.1 x.2⟩
def ψ1T.env:Env:=[(170,[ψ17.ctr])]
def ψ1T.ann:Ann:=⟨[(0,([(2,.ptr tyR),(5,.val (.sl true tyR)),(8,.val (.sl false (.pair tyI (.pair tyI (.pair tyI tyR))))),(9,.val tyI),(10,.val tyI)],[(.exit 0,[(2,.ptr tyR),(5,.val (.sl true tyR))])]))],[],[]⟩
theorem ψ1T.ok:φ5 Tryz.prog 153 ψ1T.ctr:=fS (A:=ψ1T.ann) (eC ψ17.ok φ8.nil) Tryz.func153 (by kernel_rfl) (by kernel_rfl) (fun x=>by kernel_rfl)
def ψV.sig:Sig:=⟨[.val tyI,.val .str],[.val (.pair tyI (.pair tyI (.sl true tyE))),.val .bool]⟩
def ψV.ctr:Ctr:=⟨ψV.sig,fun x=>ψV.f x.1 x.2⟩
def ψV.env:Env:=[(25,[ψ1W.ctr]),(123,[ψw.ctr]),(145,[ψ1e.ctr]),(153,[ψ1T.ctr])]
def ψV.ann:Ann:=⟨[(0,([(0,.val tyI),(4,.ptr (.pair tyI (.pair tyI (.sl true tyE)))),(6,.val (.sl false (.pair tyI (.pair tyI tyR)))),(9,.ptr (.pair tyI (.pair tyI (.sl true tyE)))),(67,.val (.sl false (.pair tyI (.pair tyI tyR)))),(68,.val tyI),(69,.val tyI)],[(.exit 0,[(4,.ptr (.pair tyI (.pair tyI (.sl true tyE)))),(9,.ptr (.pair tyI (.pair tyI (.sl true tyE))))]),(.ret,[(4,.ptr (.pair tyI (.pair tyI (.sl true tyE)))),(5,.val .bool)])]))],[],[(9,[(.normal,[(0,.val tyI),(4,.ptr (.pair tyI (.pair tyI (.sl true tyE)))),(6,.val (.sl false (.pair tyI (.pair tyI tyR)))),(9,.ptr (.pair tyI (.pair tyI (.sl true tyE)))),(11,.ptr (.pair tyI (.pair tyI tyR))),(67,.val (.sl false (.pair tyI (.pair tyI tyR)))),(68,.val tyI),(69,.val tyI)]),(.ret,[(4,.ptr (.pair tyI (.pair tyI (.sl true tyE)))),(5,.val .bool)])])]⟩
theorem ψV.ok:φ5 Tryz.prog 171 ψV.ctr:=fS (A:=ψV.ann) (eC ψ1W.ok (eC ψw.ok (eC ψ1e.ok (eC ψ1T.ok φ8.nil)))) Tryz.func171 (by kernel_rfl) (by kernel_rfl) (fun x=>by kernel_rfl)
def ψv.sig:Sig:=⟨[.val (.sl false tyE),.val (.sl false tyE)],[.val .bool]⟩
def ψv.ctr:Ctr:=⟨ψv.sig,fun x=>ψv.f x.1 x.2⟩
def ψv.env:Env:=[]
def ψv.ann:Ann:=⟨[(0,([(0,.val (.sl false tyE)),(1,.val (.sl false tyE)),(12,.val tyI),(13,.val tyI)],[(.exit 0,[]),(.ret,[(4,.val .bool)])]))],[],[]⟩
theorem ψv.ok:φ5 Tryz.prog 182 ψv.ctr:=fS (A:=ψv.ann) φ8.nil Tryz.func182 (by kernel_rfl) (by kernel_rfl) (fun x=>by kernel_rfl)
def ψT.sig:Sig:=⟨[.val tyI,.val .str,.val (.pair tyI (.pair tyI (.sl false tyE)))],[.val .bool]⟩
def ψT.ctr:Ctr:=⟨ψT.sig,fun x=>ψT.f x.1 x.2.1 x.2.2⟩
def ψT.env:Env:=[(171,[ψV.ctr]),(182,[ψv.ctr])]
def ψT.ann:Ann:=⟨[],[],[]⟩
theorem ψT.ok:φ5 Tryz.prog 151 ψT.ctr:=fS (A:=ψT.ann) (eC ψV.ok (eC ψv.ok φ8.nil)) Tryz.func151 (by kernel_rfl) (by kernel_rfl) (fun x=>by kernel_rfl)
def ψ23.sig:Sig:=⟨[.ptr (.pair tyD tyI),.val tyI],[.val (.pair (.sl true tyE) (.pair tyI tyI)),.val .bool]⟩
def ψ23.ctr:Ctr:=⟨ψ23.sig,fun x=>ψ23.f x.1 x.2⟩
def ψ23.env:Env:=[(77,[ψO.ctr]),(82,[ψx.ctr]),(128,[ψU.ctr]),(150,[ψj.ctr]),(151,[ψT.ctr])]
def ψ23.ann:Ann:=⟨[],[],[]⟩
theorem ψ23.ok:φ5 Tryz.prog 111 ψ23.ctr:=fS (A:=ψ23.ann) (eC ψO.ok (eC ψx.ok (eC ψU.ok (eC ψj.ok (eC ψT.ok φ8.nil))))) Tryz.func111 (by kernel_rfl) (by kernel_rfl) (fun x=>by kernel_rfl)
def ψ1I.sig:Sig:=⟨[.val (.sl false tyE)],[.val (.sl true tyE)]⟩
def ψ1I.ctr:Ctr:=⟨ψ1I.sig,fun x=>ψ1I.f x⟩
def ψ1I.env:Env:=[]
def ψ1I.ann:Ann:=⟨[],[],[]⟩
theorem ψ1I.ok:φ5 Tryz.prog 85 ψ1I.ctr:=fS (A:=ψ1I.ann) φ8.nil Tryz.func85 (by kernel_rfl) (by kernel_rfl) (fun x=>by kernel_rfl)
def ψ1d.sig:Sig:=⟨[.val (.sl false (.pair tyI (.pair tyI (.pair tyI tyR)))),.val tyR],[.val (.sl true (.pair tyI (.pair tyI (.pair tyI tyR))))]⟩
def ψ1d.ctr:Ctr:=⟨ψ1d.sig,fun x=>ψ1d.f x.1 x.2⟩
def ψ1d.env:Env:=[]
def ψ1d.ann:Ann:=⟨[(0,([(3,.ptr tyR),(5,.val (.sl true (.pair tyI (.pair tyI (.pair tyI tyR))))),(9,.val (.sl false (.pair tyI (.pair tyI (.pair tyI tyR))))),(10,.val tyI),(11,.val tyI)],[(.exit 0,[(5,.val (.sl true (.pair tyI (.pair tyI (.pair tyI tyR)))))])]))],[],[(9,[(.normal,[(3,.ptr tyR),(5,.val (.sl true (.pair tyI (.pair tyI (.pair tyI tyR))))),(7,.ptr (.pair tyI (.pair tyI (.pair tyI tyR)))),(9,.val (.sl false (.pair tyI (.pair tyI (.pair tyI tyR))))),(10,.val tyI),(11,.val tyI),(34,.val .bool)])]),(7,[(.normal,[(3,.ptr tyR),(5,.val (.sl true (.pair tyI (.pair tyI (.pair tyI tyR))))),(9,.val (.sl false (.pair tyI (.pair tyI (.pair tyI tyR))))),(10,.val tyI),(11,.val tyI)])]),(6,[(.normal,[(3,.ptr tyR),(5,.val (.sl true (.pair tyI (.pair tyI (.pair tyI tyR))))),(9,.val (.sl false (.pair tyI (.pair tyI (.pair tyI tyR))))),(10,.val tyI),(11,.val tyI)])])]⟩
theorem ψ1d.ok:φ5 Tryz.prog 152 ψ1d.ctr:=fS (A:=ψ1d.ann) φ8.nil Tryz.func152 (by kernel_rfl) (by kernel_rfl) (fun x=>by kernel_rfl)
def ψ7.sig:Sig:=⟨[.val (.sl false tyE),.val .str],[.val (.sl true tyE)]⟩
def ψ7.ctr:Ctr:=⟨ψ7.sig,fun x=>ψ7.f x.1 x.2⟩
def ψ7.env:Env:=[]
def ψ7.ann:Ann:=⟨[(0,([(1,.val .str),(5,.val (.sl true tyE)),(8,.val (.sl false tyE)),(9,.val tyI),(10,.val tyI)],[(.exit 0,[(5,.val (.sl true tyE))])]))],[],[(5,[(.normal,[(1,.val .str),(5,.val (.sl true tyE)),(8,.val (.sl false tyE)),(9,.val tyI),(10,.val tyI)])])]⟩
theorem ψ7.ok:φ5 Tryz.prog 183 ψ7.ctr:=fS (A:=ψ7.ann) φ8.nil Tryz.func183 (by kernel_rfl) (by kernel_rfl) (fun x=>by kernel_rfl)
def ψB.sig:Sig:=⟨[.val (.sl false tyE),.val tyE],[.val (.sl true tyE)]⟩
def ψB.ctr:Ctr:=⟨ψB.sig,fun x=>ψB.f x.1 x.2⟩
def ψB.env:Env:=[(85,[ψ1I.ctr]),(183,[ψ7.ctr])]
def ψB.ann:Ann:=⟨[(0,([(3,.ptr tyE),(5,.val (.sl true tyE)),(6,.val tyI)],[(.exit 0,[(3,.ptr tyE),(5,.val (.sl true tyE)),(6,.val tyI)])]))],[],[]⟩
theorem ψB.ok:φ5 Tryz.prog 184 ψB.ctr:=fS (A:=ψB.ann) (eC ψ1I.ok (eC ψ7.ok φ8.nil)) Tryz.func184 (by kernel_rfl) (by kernel_rfl) (fun x=>by kernel_rfl)
def ψS.sig:Sig:=⟨[.ptr (.pair (.sl true tyE) (.pair tyI tyI)),.val (.sl false (.pair tyI (.pair tyI (.pair tyI tyR))))],[]⟩
def ψS.ctr:Ctr:=⟨ψS.sig,fun x=>ψS.f x.1 x.2⟩
def ψS.env:Env:=[(183,[ψ7.ctr]),(184,[ψB.ctr])]
def ψS.ann:Ann:=⟨[(0,([(0,.ptr (.pair (.sl true tyE) (.pair tyI tyI))),(6,.val (.sl false (.pair tyI (.pair tyI (.pair tyI tyR))))),(7,.val tyI),(8,.val tyI)],[(.exit 0,[(0,.ptr (.pair (.sl true tyE) (.pair tyI tyI)))])]))],[],[(3,[(.normal,[(0,.ptr (.pair (.sl true tyE) (.pair tyI tyI))),(6,.val (.sl false (.pair tyI (.pair tyI (.pair tyI tyR))))),(7,.val tyI),(8,.val tyI)])])]⟩
theorem ψS.ok:φ5 Tryz.prog 154 ψS.ctr:=fS (A:=ψS.ann) (eC ψ7.ok (eC ψB.ok φ8.nil)) Tryz.func154 (by kernel_rfl) (by kernel_rfl) (fun x=>by kernel_rfl)
def ψp.sig:Sig:=⟨[.val (.pair (.sl false tyE) (.pair tyI tyI)),.val (.sl false (.pair tyI (.pair tyI (.pair tyI tyR))))],[.val (.pair (.sl true tyE) (.pair tyI tyI))]⟩
def ψp.ctr:Ctr:=⟨ψp.sig,fun x=>ψp.f x.1 x.2⟩
def ψp.env:Env:=[(85,[ψ1I.ctr]),(152,[ψ1d.ctr]),(153,[ψ1T.ctr]),(154,[ψS.ctr])]
def ψp.ann:Ann:=⟨[(0,([(1,.val (.sl false (.pair tyI (.pair tyI (.pair tyI tyR))))),(4,.ptr (.pair (.sl true tyE) (.pair tyI tyI))),(5,.ptr (.pair (.sl true tyE) (.pair tyI tyI))),(17,.val (.sl false (.pair tyI (.pair tyI (.pair tyI tyR))))),(18,.val tyI),(19,.val tyI)],[(.exit 0,[(1,.val (.sl false (.pair tyI (.pair tyI (.pair tyI tyR))))),(4,.ptr (.pair (.sl true tyE) (.pair tyI tyI))),(5,.ptr (.pair (.sl true tyE) (.pair tyI tyI)))]),(.ret,[(4,.ptr (.pair (.sl true tyE) (.pair tyI tyI)))])]))],[(1,[(.normal,[(1,.val (.sl false (.pair tyI (.pair tyI (.pair tyI tyR))))),(4,.ptr (.pair (.sl true tyE) (.pair tyI tyI))),(5,.ptr (.pair (.sl true tyE) (.pair tyI tyI))),(17,.val (.sl false (.pair tyI (.pair tyI (.pair tyI tyR))))),(18,.val tyI),(19,.val tyI)]),(.ret,[(4,.ptr (.pair (.sl true tyE) (.pair tyI tyI)))])])],[(8,[(.normal,[(1,.val (.sl false (.pair tyI (.pair tyI (.pair tyI tyR))))),(4,.ptr (.pair (.sl true tyE) (.pair tyI tyI))),(5,.ptr (.pair (.sl true tyE) (.pair tyI tyI))),(6,.val tyI),(7,.ptr (.pair tyI (.pair tyI (.pair tyI tyR)))),(17,.val (.sl false (.pair tyI (.pair tyI (.pair tyI tyR))))),(18,.val tyI),(19,.val tyI)]),(.exit 1,[(1,.val (.sl false (.pair tyI (.pair tyI (.pair tyI tyR))))),(4,.ptr (.pair (.sl true tyE) (.pair tyI tyI))),(5,.ptr (.pair (.sl true tyE) (.pair tyI tyI))),(17,.val (.sl false (.pair tyI (.pair tyI (.pair tyI tyR))))),(18,.val tyI),(19,.val tyI)])]),(12,[(.normal,[(1,.val (.sl false (.pair tyI (.pair tyI (.pair tyI tyR))))),(4,.ptr (.pair (.sl true tyE) (.pair tyI tyI))),(5,.ptr (.pair (.sl true tyE) (.pair tyI tyI))),(17,.val (.sl false (.pair tyI (.pair tyI (.pair tyI tyR))))),(18,.val tyI),(19,.val tyI)])]),(10,[(.normal,[(1,.val (.sl false (.pair tyI (.pair tyI (.pair tyI tyR))))),(4,.ptr (.pair (.sl true tyE) (.pair tyI tyI))),(5,.ptr (.pair (.sl true tyE) (.pair tyI tyI))),(17,.val (.sl false (.pair tyI (.pair tyI (.pair tyI tyR))))),(18,.val tyI),(19,.val tyI)])])]⟩
theorem ψp.ok:φ5 Tryz.prog 112 ψp.ctr:=fS (A:=ψp.ann) (eC ψ1I.ok (eC ψ1d.ok (eC ψ1T.ok (eC ψS.ok φ8.nil)))) Tryz.func112 (by kernel_rfl) (by kernel_rfl) (fun x=>by kernel_rfl)
def ψE.sig:Sig:=⟨[.ptr tyD,.val .str],[]⟩
def ψE.ctr:Ctr:=⟨ψE.sig,fun x=>ψE.f x.1 x.2⟩
def ψE.env:Env:=[(105,[ψ1S.ctr])]
def ψE.ann:Ann:=⟨[],[],[]⟩
theorem ψE.ok:φ5 Tryz.prog 198 ψE.ctr:=fS (A:=ψE.ann) (eC ψ1S.ok φ8.nil) Tryz.func198 (by kernel_rfl) (by kernel_rfl) (fun x=>by kernel_rfl)
def ψr.sig:Sig:=⟨[.ptr tyD,.val (.box none .str)],[.val tyI]⟩
def ψr.ctr:Ctr:=⟨ψr.sig,fun x=>ψr.f x.1 x.2⟩
def ψr.env:Env:=[(105,[ψ1S.ctr]),(198,[ψE.ctr])]
def ψr.ann:Ann:=⟨[],[],[]⟩
theorem ψr.ok:φ5 Tryz.prog 197 ψr.ctr:=fS (A:=ψr.ann) (eC ψ1S.ok (eC ψE.ok φ8.nil)) Tryz.func197 (by kernel_rfl) (by kernel_rfl) (fun x=>by kernel_rfl)
def ψ1n.sig:Sig:=⟨[.val tyd,.val (.box (some 197) (.box none .str))],[.val tyD,.val tyI]⟩
def ψ1n.ctr:Ctr:=⟨ψ1n.sig,fun x=>ψ1n.f x.1 x.2⟩
def ψ1n.env:Env:=[(47,[ψD.ctr]),(53,[ψ1J.ctr]),(197,[ψr.ctr])]
def ψ1n.ann:Ann:=⟨[],[],[(7,[(.normal,[(1,.val (.box (some 197) (.box none .str))),(4,.ptr tyD),(6,.ptr tyD)])])]⟩
theorem ψ1n.ok:φ5 Tryz.prog 147 ψ1n.ctr:=fS (A:=ψ1n.ann) (eC ψD.ok (eC ψ1J.ok (eC ψr.ok φ8.nil))) Tryz.func147 (by kernel_rfl) (by kernel_rfl) (fun x=>by kernel_rfl)
def ψq.sig:Sig:=⟨[.val tyd,.val .str],[.val tyD,.val tyI]⟩
def ψq.ctr:Ctr:=⟨ψq.sig,fun x=>ψq.f x.1 x.2⟩
def ψq.env:Env:=[(147,[ψ1n.ctr])]
def ψq.ann:Ann:=⟨[],[],[]⟩
theorem ψq.ok:φ5 Tryz.prog 173 ψq.ctr:=fS (A:=ψq.ann) (eC ψ1n.ok φ8.nil) Tryz.func173 (by kernel_rfl) (by kernel_rfl) (fun x=>by kernel_rfl)
def ψ22.sig:Sig:=⟨[.ptr (.pair tyD tyI),.val .str],[]⟩
def ψ22.ctr:Ctr:=⟨ψ22.sig,fun x=>ψ22.f x.1 x.2⟩
def ψ22.env:Env:=[(105,[ψ1S.ctr]),(108,[ψ2A.ctr]),(173,[ψq.ctr])]
def ψ22.ann:Ann:=⟨[],[],[]⟩
theorem ψ22.ok:φ5 Tryz.prog 129 ψ22.ctr:=fS (A:=ψ22.ann) (eC ψ1S.ok (eC ψ2A.ok (eC ψq.ok φ8.nil))) Tryz.func129 (by kernel_rfl) (by kernel_rfl) (fun x=>by kernel_rfl)
def ψ3O.sig:Sig:=⟨[.val .str,.val .str],[.val .bool]⟩
def ψ3O.ctr:Ctr:=⟨ψ3O.sig,fun x=>ψ3O.f x.1 x.2⟩
def ψ3O.env:Env:=[]
def ψ3O.ann:Ann:=⟨[],[],[]⟩
theorem ψ3O.ok:φ5 Tryz.prog 208 ψ3O.ctr:=fS (A:=ψ3O.ann) φ8.nil Tryz.func208 (by kernel_rfl) (by kernel_rfl) (fun x=>by kernel_rfl)
def ψ3N.sig:Sig:=⟨[.val .str,.val .str],[.val .str,.val .bool]⟩
def ψ3N.ctr:Ctr:=⟨ψ3N.sig,fun x=>ψ3N.f x.1 x.2⟩
def ψ3N.env:Env:=[(208,[ψ3O.ctr])]
def ψ3N.ann:Ann:=⟨[],[],[]⟩
theorem ψ3N.ok:φ5 Tryz.prog 205 ψ3N.ctr:=fS (A:=ψ3N.ann) (eC ψ3O.ok φ8.nil) Tryz.func205 (by kernel_rfl) (by kernel_rfl) (fun x=>by kernel_rfl)
def ψ3M.sig:Sig:=⟨[.val .str,.val .str],[.val .str,.val .bool]⟩
def ψ3M.ctr:Ctr:=⟨ψ3M.sig,fun x=>ψ3M.f x.1 x.2⟩
def ψ3M.env:Env:=[(205,[ψ3N.ctr])]
def ψ3M.ann:Ann:=⟨[],[],[]⟩
theorem ψ3M.ok:φ5 Tryz.prog 200 ψ3M.ctr:=fS (A:=ψ3M.ann) (eC ψ3N.ok φ8.nil) Tryz.func200 (by kernel_rfl) (by kernel_rfl) (fun x=>by kernel_rfl)
def strconv_Atoi.ctr:Ctr:=φ5H
theorem strconv_Atoi.ok:φ5 Tryz.prog 206 strconv_Atoi.ctr:=φJR Tryz.func206 (by kernel_rfl) (by kernel_rfl) (fun s h v hv w _=>Tryz.strconv_Atoi_ok s h v hv w)
 (fun s h hv w hL=>by obtain ⟨ev,h1,h2⟩:=hL.2.1;exact (Tryz.strconv_Atoi_syntax s h hv ev w h1 h2).mono fun e w' ⟨N,he,_,_,hB⟩=>⟨N,he,hB⟩)
 (fun s h hv w hL=>by obtain ⟨ev,h1,h2⟩:=hL.2.2;exact (Tryz.strconv_Atoi_range s h hv ev w h1 h2).mono fun e w' ⟨N,he,_,_,hB⟩=>⟨N,he,hB⟩)
def ψh.sig:Sig:=⟨[.val .str],[.val tyI,.val .bool]⟩
def ψh.ctr:Ctr:=⟨ψh.sig,fun x=>ψh.f x⟩
def ψh.env:Env:=[(25,[ψ1W.ctr]),(160,[ψ6.ctr]),(206,[strconv_Atoi.ctr])]
def ψh.ann:Ann:=⟨[],[],[]⟩
theorem ψh.ok:φ5 Tryz.prog 201 ψh.ctr:=fS (A:=ψh.ann) (eC ψ1W.ok (eC ψ6.ok (eC strconv_Atoi.ok φ8.nil))) Tryz.func201 (by kernel_rfl) (by kernel_rfl) (fun x=>by kernel_rfl)
def ψW.sig:Sig:=⟨[.val .str],[.val tyI,.val .bool]⟩
def ψW.ctr:Ctr:=⟨ψW.sig,fun x=>ψW.f x⟩
def ψW.env:Env:=[(25,[ψ1W.ctr]),(200,[ψ3M.ctr]),(201,[ψh.ctr])]
def ψW.ann:Ann:=⟨[],[],[(2,[(.normal,[(4,.val .str),(5,.val .bool)])])]⟩
theorem ψW.ok:φ5 Tryz.prog 185 ψW.ctr:=fS (A:=ψW.ann) (eC ψ1W.ok (eC ψ3M.ok (eC ψh.ok φ8.nil))) Tryz.func185 (by kernel_rfl) (by kernel_rfl) (fun x=>by kernel_rfl)
def ψ1U.sig:Sig:=⟨[.val (.sl false tyI),.val tyI],[.val .bool]⟩
def ψ1U.ctr:Ctr:=⟨ψ1U.sig,fun x=>ψ1U.f x.1 x.2⟩
def ψ1U.env:Env:=[]
def ψ1U.ann:Ann:=⟨[(0,([(1,.val tyI),(7,.val (.sl false tyI)),(8,.val tyI),(9,.val tyI)],[(.exit 0,[]),(.ret,[(4,.val .bool)])]))],[],[]⟩
theorem ψ1U.ok:φ5 Tryz.prog 186 ψ1U.ctr:=fS (A:=ψ1U.ann) φ8.nil Tryz.func186 (by kernel_rfl) (by kernel_rfl) (fun x=>by kernel_rfl)
def ψd.sig:Sig:=⟨[.val tyd,.val (.pair tyI (.sl false tyI))],[.val (.sl true .str)]⟩
def ψd.ctr:Ctr:=⟨ψd.sig,fun x=>ψd.f x.1 x.2⟩
def ψd.env:Env:=[(47,[ψD.ctr]),(185,[ψW.ctr]),(186,[ψ1U.ctr])]
def ψd.ann:Ann:=⟨[(0,([(3,.ptr (.pair tyI (.sl false tyI))),(5,.val (.sl true .str)),(14,.val (.sl false tyF)),(15,.val tyI),(16,.val tyI)],[(.exit 0,[(5,.val (.sl true .str))])]))],[],[(8,[(.normal,[(3,.ptr (.pair tyI (.sl false tyI))),(5,.val (.sl true .str)),(14,.val (.sl false tyF)),(15,.val tyI),(16,.val tyI)])])]⟩
theorem ψd.ok:φ5 Tryz.prog 155 ψd.ctr:=fS (A:=ψd.ann) (eC ψD.ok (eC ψW.ok (eC ψ1U.ok φ8.nil))) Tryz.func155 (by kernel_rfl) (by kernel_rfl) (fun x=>by kernel_rfl)
def ψ24.sig:Sig:=⟨[.ptr (.pair tyD tyI),.val (.pair tyI (.sl false tyI))],[]⟩
def ψ24.ctr:Ctr:=⟨ψ24.sig,fun x=>ψ24.f x.1 x.2⟩
def ψ24.env:Env:=[(129,[ψ22.ctr]),(155,[ψd.ctr])]
def ψ24.ann:Ann:=⟨[(0,([(0,.ptr (.pair tyD tyI)),(11,.val (.sl true .str)),(12,.val tyI),(13,.val tyI)],[(.exit 0,[(0,.ptr (.pair tyD tyI))])]))],[],[]⟩
theorem ψ24.ok:φ5 Tryz.prog 113 ψ24.ctr:=fS (A:=ψ24.ann) (eC ψ22.ok (eC ψd.ok φ8.nil)) Tryz.func113 (by kernel_rfl) (by kernel_rfl) (fun x=>by kernel_rfl)
def ψ21.sig:Sig:=⟨[.ptr (.pair tyD tyI),.val .str],[.val tyS]⟩
def ψ21.ctr:Ctr:=⟨ψ21.sig,fun x=>ψ21.f x.1 x.2⟩
def ψ21.env:Env:=[(77,[ψO.ctr]),(82,[ψx.ctr]),(106,[ψk.ctr]),(107,[ψ28.ctr]),(108,[ψ2A.ctr]),(109,[ψ1A.ctr]),(110,[ψ29.ctr]),(111,[ψ23.ctr]),(112,[ψp.ctr]),(113,[ψ24.ctr])]
def ψ21.ann:Ann:=⟨[(0,([(0,.ptr (.pair tyD tyI)),(4,.ptr tyS),(5,.ptw (.pair tyI (.sl true tyI))),(13,.ptr tyS),(14,.ptr (.pair (.sl true tyE) (.pair tyI tyI))),(16,.val (.sl true (.pair tyI (.pair tyI (.pair tyI tyR))))),(103,.val (.sl false (.sl false (.pair tyI (.pair tyI (.pair tyI tyR)))))),(104,.val tyI),(105,.val tyI),(5,.lnk 1 13 1)],[(.exit 0,[(0,.ptr (.pair tyD tyI)),(4,.ptr tyS),(5,.ptw (.pair tyI (.sl true tyI))),(13,.ptr tyS),(14,.ptr (.pair (.sl true tyE) (.pair tyI tyI))),(16,.val (.sl true (.pair tyI (.pair tyI (.pair tyI tyR))))),(5,.lnk 1 13 1)])]))],[],[(8,[(.normal,[(0,.ptr (.pair tyD tyI)),(4,.ptr tyS),(5,.ptr (.pair tyI (.sl true tyI))),(7,.val (.sl true (.sl true (.pair tyI (.pair tyI (.pair tyI tyR)))))),(8,.val tyI),(10,.val .str)])]),(15,[(.normal,[(0,.ptr (.pair tyD tyI)),(4,.ptr tyS),(5,.ptw (.pair tyI (.sl true tyI))),(7,.val (.sl false (.sl false (.pair tyI (.pair tyI (.pair tyI tyR)))))),(13,.ptr tyS),(14,.ptr (.pair (.sl true tyE) (.pair tyI tyI))),(5,.lnk 1 13 1)])])]⟩
theorem ψ21.ok:φ5 Tryz.prog 78 ψ21.ctr:=fS (A:=ψ21.ann) (eC ψO.ok (eC ψx.ok (eC ψk.ok (eC ψ28.ok (eC ψ2A.ok (eC ψ1A.ok (eC ψ29.ok (eC ψ23.ok (eC ψp.ok (eC ψ24.ok φ8.nil)))))))))) Tryz.func78 (by kernel_rfl) (by kernel_rfl) (fun x=>by kernel_rfl)
def ψF.sig:Sig:=⟨[.ptr tyD,.val tyF],[]⟩
def ψF.ctr:Ctr:=⟨ψF.sig,fun x=>ψF.f x.1 x.2⟩
def ψF.env:Env:=[]
def ψF.ann:Ann:=⟨[(0,([(0,.ptr tyD),(3,.ptr tyF),(4,.val tyI)],[(.exit 0,[(0,.ptr tyD),(3,.ptr tyF),(4,.val tyI)])]))],[],[]⟩
theorem ψF.ok:φ5 Tryz.prog 188 ψF.ctr:=fS (A:=ψF.ann) φ8.nil Tryz.func188 (by kernel_rfl) (by kernel_rfl) (fun x=>by kernel_rfl)
def ψ5.sig:Sig:=⟨[.ptr tyD,.val (.box none .str)],[.val tyI]⟩
def ψ5.ctr:Ctr:=⟨ψ5.sig,fun x=>ψ5.f x.1 x.2⟩
def ψ5.env:Env:=[(66,[ψa.ctr]),(105,[ψ1S.ctr]),(188,[ψF.ctr])]
def ψ5.ann:Ann:=⟨[],[],[]⟩
theorem ψ5.ok:φ5 Tryz.prog 187 ψ5.ctr:=fS (A:=ψ5.ann) (eC ψa.ok (eC ψ1S.ok (eC ψF.ok φ8.nil))) Tryz.func187 (by kernel_rfl) (by kernel_rfl) (fun x=>by kernel_rfl)
def ψ1m.sig:Sig:=⟨[.val tyd,.val (.box (some 187) (.box none .str))],[.val tyD,.val tyI]⟩
def ψ1m.ctr:Ctr:=⟨ψ1m.sig,fun x=>ψ1m.f x.1 x.2⟩
def ψ1m.env:Env:=[(47,[ψD.ctr]),(53,[ψ1J.ctr]),(187,[ψ5.ctr])]
def ψ1m.ann:Ann:=⟨[],[],[(7,[(.normal,[(1,.val (.box (some 187) (.box none .str))),(4,.ptr tyD),(6,.ptr tyD)])])]⟩
theorem ψ1m.ok:φ5 Tryz.prog 147 ψ1m.ctr:=fS (A:=ψ1m.ann) (eC ψD.ok (eC ψ1J.ok (eC ψ5.ok φ8.nil))) Tryz.func147 (by kernel_rfl) (by kernel_rfl) (fun x=>by kernel_rfl)
def ψ4.sig:Sig:=⟨[.val tyd,.val .str],[.val tyD,.val tyI]⟩
def ψ4.ctr:Ctr:=⟨ψ4.sig,fun x=>ψ4.f x.1 x.2⟩
def ψ4.env:Env:=[(147,[ψ1m.ctr])]
def ψ4.ann:Ann:=⟨[],[],[]⟩
theorem ψ4.ok:φ5 Tryz.prog 156 ψ4.ctr:=fS (A:=ψ4.ann) (eC ψ1m.ok φ8.nil) Tryz.func156 (by kernel_rfl) (by kernel_rfl) (fun x=>by kernel_rfl)
def ψ1y.sig:Sig:=⟨[.ptr (.pair tyD tyI),.val .str],[]⟩
def ψ1y.ctr:Ctr:=⟨ψ1y.sig,fun x=>ψ1y.f x.1 x.2⟩
def ψ1y.env:Env:=[(108,[ψ2A.ctr]),(156,[ψ4.ctr])]
def ψ1y.ann:Ann:=⟨[],[],[]⟩
theorem ψ1y.ok:φ5 Tryz.prog 114 ψ1y.ctr:=fS (A:=ψ1y.ann) (eC ψ2A.ok (eC ψ4.ok φ8.nil)) Tryz.func114 (by kernel_rfl) (by kernel_rfl) (fun x=>by kernel_rfl)
def ψ1w.sig:Sig:=⟨[.ptr (.pair tyD tyI),.val .str],[]⟩
def ψ1w.ctr:Ctr:=⟨ψ1w.sig,fun x=>ψ1w.f x.1 x.2⟩
def ψ1w.env:Env:=[(114,[ψ1y.ctr]),(129,[ψ22.ctr])]
def ψ1w.ann:Ann:=⟨[],[],[]⟩
theorem ψ1w.ok:φ5 Tryz.prog 167 ψ1w.ctr:=fS (A:=ψ1w.ann) (eC ψ1y.ok (eC ψ22.ok φ8.nil)) Tryz.func167 (by kernel_rfl) (by kernel_rfl) (fun x=>by kernel_rfl)
def ψ1u.sig:Sig:=⟨[.val tyd],[.val tyI]⟩
def ψ1u.ctr:Ctr:=⟨ψ1u.sig,fun x=>ψ1u.f x⟩
def ψ1u.env:Env:=[]
def ψ1u.ann:Ann:=⟨[(0,([(3,.val tyI),(7,.val (.sl false tyF)),(8,.val tyI),(9,.val tyI)],[(.exit 0,[(3,.val tyI)])]))],[],[]⟩
theorem ψ1u.ok:φ5 Tryz.prog 48 ψ1u.ctr:=fS (A:=ψ1u.ann) φ8.nil Tryz.func48 (by kernel_rfl) (by kernel_rfl) (fun x=>by kernel_rfl)
def ψ1.sig:Sig:=⟨[.ptr tyD,.val (.box none .str),.val (.box none .str)],[.val tyI]⟩
def ψ1.ctr:Ctr:=⟨ψ1.sig,fun x=>ψ1.f x.1 x.2.1 x.2.2⟩
def ψ1.env:Env:=[(48,[ψ1u.ctr]),(105,[ψ1S.ctr])]
def ψ1.ann:Ann:=⟨[],[],[]⟩
theorem ψ1.ok:φ5 Tryz.prog 204 ψ1.ctr:=fS (A:=ψ1.ann) (eC ψ1u.ok (eC ψ1S.ok φ8.nil)) Tryz.func204 (by kernel_rfl) (by kernel_rfl) (fun x=>by kernel_rfl)
def ψ1l.sig:Sig:=⟨[.val tyd,.val (.box (some 204) (.pair (.box none .str) (.box none .str)))],[.val tyD,.val tyI]⟩
def ψ1l.ctr:Ctr:=⟨ψ1l.sig,fun x=>ψ1l.f x.1 x.2⟩
def ψ1l.env:Env:=[(47,[ψD.ctr]),(53,[ψ1J.ctr]),(204,[ψ1.ctr])]
def ψ1l.ann:Ann:=⟨[],[],[(7,[(.normal,[(1,.val (.box (some 204) (.pair (.box none .str) (.box none .str)))),(4,.ptr tyD),(6,.ptr tyD)])])]⟩
theorem ψ1l.ok:φ5 Tryz.prog 147 ψ1l.ctr:=fS (A:=ψ1l.ann) (eC ψD.ok (eC ψ1J.ok (eC ψ1.ok φ8.nil))) Tryz.func147 (by kernel_rfl) (by kernel_rfl) (fun x=>by kernel_rfl)
def ψ0.sig:Sig:=⟨[.val tyd,.val .str,.val .str],[.val tyD,.val tyI]⟩
def ψ0.ctr:Ctr:=⟨ψ0.sig,fun x=>ψ0.f x.1 x.2.1 x.2.2⟩
def ψ0.env:Env:=[(147,[ψ1l.ctr])]
def ψ0.ann:Ann:=⟨[],[],[]⟩
theorem ψ0.ok:φ5 Tryz.prog 196 ψ0.ctr:=fS (A:=ψ0.ann) (eC ψ1l.ok φ8.nil) Tryz.func196 (by kernel_rfl) (by kernel_rfl) (fun x=>by kernel_rfl)
def ψ25.sig:Sig:=⟨[.ptr (.pair tyD tyI),.val .str,.val .str],[]⟩
def ψ25.ctr:Ctr:=⟨ψ25.sig,fun x=>ψ25.f x.1 x.2.1 x.2.2⟩
def ψ25.env:Env:=[(108,[ψ2A.ctr]),(196,[ψ0.ctr])]
def ψ25.ann:Ann:=⟨[],[],[]⟩
theorem ψ25.ok:φ5 Tryz.prog 169 ψ25.ctr:=fS (A:=ψ25.ann) (eC ψ2A.ok (eC ψ0.ok φ8.nil)) Tryz.func169 (by kernel_rfl) (by kernel_rfl) (fun x=>by kernel_rfl)
def ψ1z.sig:Sig:=⟨[.ptr (.pair tyD tyI),.val .str,.val .str],[]⟩
def ψ1z.ctr:Ctr:=⟨ψ1z.sig,fun x=>ψ1z.f x.1 x.2.1 x.2.2⟩
def ψ1z.env:Env:=[(110,[ψ29.ctr]),(167,[ψ1w.ctr]),(169,[ψ25.ctr])]
def ψ1z.ann:Ann:=⟨[],[],[]⟩
theorem ψ1z.ok:φ5 Tryz.prog 157 ψ1z.ctr:=fS (A:=ψ1z.ann) (eC ψ29.ok (eC ψ1w.ok (eC ψ25.ok φ8.nil))) Tryz.func157 (by kernel_rfl) (by kernel_rfl) (fun x=>by kernel_rfl)
def ψz.sig:Sig:=⟨[.val (.pair tyI (.sl false tyI))],[.val .str]⟩
def ψz.ctr:Ctr:=⟨ψz.sig,fun x=>ψz.f x⟩
def ψz.env:Env:=[(121,[ψY.ctr]),(162,[ψQ.ctr]),(189,[ψ1v.ctr])]
def ψz.ann:Ann:=⟨[],[],[]⟩
theorem ψz.ok:φ5 Tryz.prog 158 ψz.ctr:=fS (A:=ψz.ann) (eC ψY.ok (eC ψQ.ok (eC ψ1v.ok φ8.nil))) Tryz.func158 (by kernel_rfl) (by kernel_rfl) (fun x=>by kernel_rfl)
def ψt.sig:Sig:=⟨[.ptr tyD,.val (.box none .str),.val (.box none .str)],[.val tyI]⟩
def ψt.ctr:Ctr:=⟨ψt.sig,fun x=>ψt.f x.1 x.2.1 x.2.2⟩
def ψt.env:Env:=[(66,[ψa.ctr]),(105,[ψ1S.ctr]),(188,[ψF.ctr]),(198,[ψE.ctr])]
def ψt.ann:Ann:=⟨[],[],[]⟩
theorem ψt.ok:φ5 Tryz.prog 202 ψt.ctr:=fS (A:=ψt.ann) (eC ψa.ok (eC ψ1S.ok (eC ψF.ok (eC ψE.ok φ8.nil)))) Tryz.func202 (by kernel_rfl) (by kernel_rfl) (fun x=>by kernel_rfl)
def ψ1o.sig:Sig:=⟨[.val tyd,.val (.box (some 202) (.pair (.box none .str) (.box none .str)))],[.val tyD,.val tyI]⟩
def ψ1o.ctr:Ctr:=⟨ψ1o.sig,fun x=>ψ1o.f x.1 x.2⟩
def ψ1o.env:Env:=[(47,[ψD.ctr]),(53,[ψ1J.ctr]),(202,[ψt.ctr])]
def ψ1o.ann:Ann:=⟨[],[],[(7,[(.normal,[(1,.val (.box (some 202) (.pair (.box none .str) (.box none .str)))),(4,.ptr tyD),(6,.ptr tyD)])])]⟩
theorem ψ1o.ok:φ5 Tryz.prog 147 ψ1o.ctr:=fS (A:=ψ1o.ann) (eC ψD.ok (eC ψ1J.ok (eC ψt.ok φ8.nil))) Tryz.func147 (by kernel_rfl) (by kernel_rfl) (fun x=>by kernel_rfl)
def ψs.sig:Sig:=⟨[.val tyd,.val .str,.val .str],[.val tyD,.val tyI]⟩
def ψs.ctr:Ctr:=⟨ψs.sig,fun x=>ψs.f x.1 x.2.1 x.2.2⟩
def ψs.env:Env:=[(147,[ψ1o.ctr])]
def ψs.ann:Ann:=⟨[],[],[]⟩
theorem ψs.ok:φ5 Tryz.prog 190 ψs.ctr:=fS (A:=ψs.ann) (eC ψ1o.ok φ8.nil) Tryz.func190 (by kernel_rfl) (by kernel_rfl) (fun x=>by kernel_rfl)
def ψ27.sig:Sig:=⟨[.ptr (.pair tyD tyI),.val .str,.val .str],[]⟩
def ψ27.ctr:Ctr:=⟨ψ27.sig,fun x=>ψ27.f x.1 x.2.1 x.2.2⟩
def ψ27.env:Env:=[(108,[ψ2A.ctr]),(190,[ψs.ctr])]
def ψ27.ann:Ann:=⟨[],[],[]⟩
theorem ψ27.ok:φ5 Tryz.prog 159 ψ27.ctr:=fS (A:=ψ27.ann) (eC ψ2A.ok (eC ψs.ok φ8.nil)) Tryz.func159 (by kernel_rfl) (by kernel_rfl) (fun x=>by kernel_rfl)
def ψ26.sig:Sig:=⟨[.ptr (.pair tyD tyI),.val (.pair tyI (.sl false tyI))],[]⟩
def ψ26.ctr:Ctr:=⟨ψ26.sig,fun x=>ψ26.f x.1 x.2⟩
def ψ26.env:Env:=[(157,[ψ1z.ctr]),(158,[ψz.ctr]),(159,[ψ27.ctr])]
def ψ26.ann:Ann:=⟨[],[],[]⟩
theorem ψ26.ok:φ5 Tryz.prog 115 ψ26.ctr:=fS (A:=ψ26.ann) (eC ψ1z.ok (eC ψz.ok (eC ψ27.ok φ8.nil))) Tryz.func115 (by kernel_rfl) (by kernel_rfl) (fun x=>by kernel_rfl)
def ψ20.sig:Sig:=⟨[.ptr (.pair tyD tyI)],[.val tyS]⟩
def ψ20.ctr:Ctr:=⟨ψ20.sig,fun x=>ψ20.f x⟩
def ψ20.env:Env:=[(82,[ψx.ctr]),(113,[ψ24.ctr]),(114,[ψ1y.ctr]),(115,[ψ26.ctr])]
def ψ20.ann:Ann:=⟨[],[],[]⟩
theorem ψ20.ok:φ5 Tryz.prog 79 ψ20.ctr:=fS (A:=ψ20.ann) (eC ψx.ok (eC ψ24.ok (eC ψ1y.ok (eC ψ26.ok φ8.nil)))) Tryz.func79 (by kernel_rfl) (by kernel_rfl) (fun x=>by kernel_rfl)
def ψc.sig:Sig:=⟨[.val tyd],[.val tyS,.val tyD,.val tyI]⟩
def ψc.ctr:Ctr:=⟨ψc.sig,fun x=>ψc.f x⟩
def ψc.env:Env:=[(47,[ψD.ctr]),(53,[ψ1J.ctr]),(77,[ψO.ctr]),(78,[ψ21.ctr]),(79,[ψ20.ctr])]
def ψc.ann:Ann:=⟨[],[],[(8,[(.normal,[(2,.ptr tyS),(3,.ptr tyD),(5,.ptr (.pair tyD tyI)),(6,.ptr tyS)])])]⟩
theorem ψc.ok:φ5 Tryz.prog 52 ψc.ctr:=fS (A:=ψc.ann) (eC ψD.ok (eC ψ1J.ok (eC ψO.ok (eC ψ21.ok (eC ψ20.ok φ8.nil))))) Tryz.func52 (by kernel_rfl) (by kernel_rfl) (fun x=>by kernel_rfl)
def ψH.sig:Sig:=⟨[.val tyd],[.val (.pair .bool (.pair tyS (.pair tyD (.sl true (.pair .bool (.pair (.sl true (.pair .str tyI)) (.sl true tyP))))))),.val tyI]⟩
def ψH.ctr:Ctr:=⟨ψH.sig,fun x=>ψH.f x⟩
def ψH.env:Env:=[(52,[ψc.ctr])]
def ψH.ann:Ann:=⟨[],[],[]⟩
theorem ψH.ok:φ5 Tryz.prog 26 ψH.ctr:=fS (A:=ψH.ann) (eC ψc.ok φ8.nil) Tryz.func26 (by kernel_rfl) (by kernel_rfl) (fun x=>by kernel_rfl)
def ψ1H.sig:Sig:=⟨[.val tyd,.val tyI],[.val tyD]⟩
def ψ1H.ctr:Ctr:=⟨ψ1H.sig,fun x=>ψ1H.f x.1 x.2⟩
def ψ1H.env:Env:=[(25,[ψ1W.ctr]),(47,[ψD.ctr]),(53,[ψ1J.ctr])]
def ψ1H.ann:Ann:=⟨[],[],[]⟩
theorem ψ1H.ok:φ5 Tryz.prog 27 ψ1H.ctr:=fS (A:=ψ1H.ann) (eC ψ1W.ok (eC ψD.ok (eC ψ1J.ok φ8.nil))) Tryz.func27 (by kernel_rfl) (by kernel_rfl) (fun x=>by kernel_rfl)
def ψC.sig:Sig:=⟨[.val tyI],[.val tyD]⟩
def ψC.ctr:Ctr:=⟨ψC.sig,fun x=>ψC.f x⟩
def ψC.env:Env:=[(25,[ψ1W.ctr])]
def ψC.ann:Ann:=⟨[],[],[]⟩
theorem ψC.ok:φ5 Tryz.prog 28 ψC.ctr:=fS (A:=ψC.ann) (eC ψ1W.ok φ8.nil) Tryz.func28 (by kernel_rfl) (by kernel_rfl) (fun x=>by kernel_rfl)
def ψ1L.sig:Sig:=⟨[.val (.pair tyI (.sl false tyI))],[.val (.pair tyI (.sl true tyI))]⟩
def ψ1L.ctr:Ctr:=⟨ψ1L.sig,fun x=>ψ1L.f x⟩
def ψ1L.env:Env:=[]
def ψ1L.ann:Ann:=⟨[],[],[]⟩
theorem ψ1L.ok:φ5 Tryz.prog 84 ψ1L.ctr:=fS (A:=ψ1L.ann) φ8.nil Tryz.func84 (by kernel_rfl) (by kernel_rfl) (fun x=>by kernel_rfl)
def ψ1N.sig:Sig:=⟨[.val tys],[.val tyS]⟩
def ψ1N.ctr:Ctr:=⟨ψ1N.sig,fun x=>ψ1N.f x⟩
def ψ1N.env:Env:=[(84,[ψ1L.ctr]),(85,[ψ1I.ctr])]
def ψ1N.ann:Ann:=⟨[],[],[]⟩
theorem ψ1N.ok:φ5 Tryz.prog 58 ψ1N.ctr:=fS (A:=ψ1N.ann) (eC ψ1L.ok (eC ψ1I.ok φ8.nil)) Tryz.func58 (by kernel_rfl) (by kernel_rfl) (fun x=>by kernel_rfl)
def ψ1M.sig:Sig:=⟨[.val (.sl false tyP)],[.val (.sl true tyP)]⟩
def ψ1M.ctr:Ctr:=⟨ψ1M.sig,fun x=>ψ1M.f x⟩
def ψ1M.env:Env:=[]
def ψ1M.ann:Ann:=⟨[],[],[]⟩
theorem ψ1M.ok:φ5 Tryz.prog 120 ψ1M.ctr:=fS (A:=ψ1M.ann) φ8.nil Tryz.func120 (by kernel_rfl) (by kernel_rfl) (fun x=>by kernel_rfl)
def ψ1O.sig:Sig:=⟨[.val (.pair .bool (.pair (.sl false (.pair .str tyI)) (.sl false tyP)))],[.val (.pair .bool (.pair (.sl true (.pair .str tyI)) (.sl true tyP)))]⟩
def ψ1O.ctr:Ctr:=⟨ψ1O.sig,fun x=>ψ1O.f x⟩
def ψ1O.env:Env:=[(120,[ψ1M.ctr])]
def ψ1O.ann:Ann:=⟨[],[],[]⟩
theorem ψ1O.ok:φ5 Tryz.prog 86 ψ1O.ctr:=fS (A:=ψ1O.ann) (eC ψ1M.ok φ8.nil) Tryz.func86 (by kernel_rfl) (by kernel_rfl) (fun x=>by kernel_rfl)
def ψ1P.sig:Sig:=⟨[.val (.sl false (.pair .bool (.pair (.sl false (.pair .str tyI)) (.sl false tyP))))],[.val (.sl true (.pair .bool (.pair (.sl true (.pair .str tyI)) (.sl true tyP))))]⟩
def ψ1P.ctr:Ctr:=⟨ψ1P.sig,fun x=>ψ1P.f x⟩
def ψ1P.env:Env:=[(86,[ψ1O.ctr])]
def ψ1P.ann:Ann:=⟨[(0,([(3,.val (.sl true (.pair .bool (.pair (.sl true (.pair .str tyI)) (.sl true tyP))))),(6,.val (.sl false (.pair .bool (.pair (.sl false (.pair .str tyI)) (.sl false tyP))))),(7,.val tyI),(8,.val tyI)],[(.exit 0,[(3,.val (.sl true (.pair .bool (.pair (.sl true (.pair .str tyI)) (.sl true tyP)))))])]))],[],[]⟩
theorem ψ1P.ok:φ5 Tryz.prog 59 ψ1P.ctr:=fS (A:=ψ1P.ann) (eC ψ1O.ok φ8.nil) Tryz.func59 (by kernel_rfl) (by kernel_rfl) (fun x=>by kernel_rfl)
def ψ1K.sig:Sig:=⟨[.val (.pair .bool (.pair tys (.pair tyd (.sl false (.pair .bool (.pair (.sl false (.pair .str tyI)) (.sl false tyP)))))))],[.val (.pair .bool (.pair tyS (.pair tyD (.sl true (.pair .bool (.pair (.sl true (.pair .str tyI)) (.sl true tyP)))))))]⟩
def ψ1K.ctr:Ctr:=⟨ψ1K.sig,fun x=>ψ1K.f x⟩
def ψ1K.env:Env:=[(53,[ψ1J.ctr]),(58,[ψ1N.ctr]),(59,[ψ1P.ctr])]
def ψ1K.ann:Ann:=⟨[],[],[]⟩
theorem ψ1K.ok:φ5 Tryz.prog 36 ψ1K.ctr:=fS (A:=ψ1K.ann) (eC ψ1J.ok (eC ψ1N.ok (eC ψ1P.ok φ8.nil))) Tryz.func36 (by kernel_rfl) (by kernel_rfl) (fun x=>by kernel_rfl)
def ψ9.sig:Sig:=⟨[.val (.sl false tyE)],[.val (.sl true .str)]⟩
def ψ9.ctr:Ctr:=⟨ψ9.sig,fun x=>ψ9.f x⟩
def ψ9.env:Env:=[]
def ψ9.ann:Ann:=⟨[(0,([(3,.val (.sl true .str)),(6,.val (.sl false tyE)),(7,.val tyI),(8,.val tyI)],[(.exit 0,[(3,.val (.sl true .str))])]))],[],[]⟩
theorem ψ9.ok:φ5 Tryz.prog 55 ψ9.ctr:=fS (A:=ψ9.ann) φ8.nil Tryz.func55 (by kernel_rfl) (by kernel_rfl) (fun x=>by kernel_rfl)
def ψ8.sig:Sig:=⟨[.val (.sl false tyE),.val .str],[.val tyE,.val .bool]⟩
def ψ8.ctr:Ctr:=⟨ψ8.sig,fun x=>ψ8.f x.1 x.2⟩
def ψ8.env:Env:=[]
def ψ8.ann:Ann:=⟨[(0,([(1,.val .str),(4,.ptr tyE),(8,.val (.sl false tyE)),(9,.val tyI),(10,.val tyI)],[(.exit 0,[(4,.ptr tyE)]),(.ret,[(4,.ptr tyE),(5,.val .bool)])]))],[],[]⟩
theorem ψ8.ok:φ5 Tryz.prog 81 ψ8.ctr:=fS (A:=ψ8.ann) φ8.nil Tryz.func81 (by kernel_rfl) (by kernel_rfl) (fun x=>by kernel_rfl)
def ψn.sig:Sig:=⟨[.val .str,.val tyI,.val tyI],[.val tyR,.val .bool]⟩
def ψn.ctr:Ctr:=⟨ψn.sig,fun x=>ψn.f x.1 x.2.1 x.2.2⟩
def ψn.env:Env:=[(25,[ψ1W.ctr]),(118,[ψ1E.ctr]),(119,[ψl.ctr])]
def ψn.ann:Ann:=⟨[],[],[]⟩
theorem ψn.ok:φ5 Tryz.prog 83 ψn.ctr:=fS (A:=ψn.ann) (eC ψ1W.ok (eC ψ1E.ok (eC ψl.ok φ8.nil))) Tryz.func83 (by kernel_rfl) (by kernel_rfl) (fun x=>by kernel_rfl)
def ψR.sig:Sig:=⟨[.val tys,.val tyd,.val .str],[.val tyF,.val tyI]⟩
def ψR.ctr:Ctr:=⟨ψR.sig,fun x=>ψR.f x.1 x.2.1 x.2.2⟩
def ψR.env:Env:=[(77,[ψO.ctr]),(81,[ψ8.ctr]),(82,[ψx.ctr]),(83,[ψn.ctr])]
def ψR.ann:Ann:=⟨[],[],[]⟩
theorem ψR.ok:φ5 Tryz.prog 56 ψR.ctr:=fS (A:=ψR.ann) (eC ψO.ok (eC ψ8.ok (eC ψx.ok (eC ψn.ok φ8.nil)))) Tryz.func56 (by kernel_rfl) (by kernel_rfl) (fun x=>by kernel_rfl)
def ψG.sig:Sig:=⟨[.val tys,.val tyd],[.val (.sl true tyF),.val tyI]⟩
def ψG.ctr:Ctr:=⟨ψG.sig,fun x=>ψG.f x.1 x.2⟩
def ψG.env:Env:=[(55,[ψ9.ctr]),(56,[ψR.ctr])]
def ψG.ann:Ann:=⟨[(0,([(2,.ptr tys),(3,.ptr tyd),(6,.val (.sl true tyF)),(13,.val (.sl true .str)),(14,.val tyI),(15,.val tyI)],[(.exit 0,[(6,.val (.sl true tyF))]),(.ret,[(4,.val (.sl true tyF)),(5,.val tyI)])]))],[],[]⟩
theorem ψG.ok:φ5 Tryz.prog 30 ψG.ctr:=fS (A:=ψG.ann) (eC ψ9.ok (eC ψR.ok φ8.nil)) Tryz.func30 (by kernel_rfl) (by kernel_rfl) (fun x=>by kernel_rfl)
def ψ11.sig:Sig:=⟨[.val tys,.val tyd],[.val .bool]⟩
def ψ11.ctr:Ctr:=⟨ψ11.sig,fun x=>ψ11.f x.1 x.2⟩
def ψ11.env:Env:=[(25,[ψ1W.ctr]),(47,[ψD.ctr]),(77,[ψO.ctr]),(82,[ψx.ctr]),(83,[ψn.ctr]),(121,[ψY.ctr]),(122,[ψA.ctr]),(123,[ψw.ctr])]
def ψ11.ann:Ann:=⟨[(0,([(2,.ptr tys),(3,.ptr tyd),(40,.val (.sl false tyI)),(41,.val tyI),(42,.val tyI)],[(.exit 0,[(2,.ptr tys),(3,.ptr tyd)]),(.ret,[(4,.val .bool)])])),(2,([(2,.ptr tys),(3,.ptr tyd),(84,.val (.sl false tyE)),(85,.val tyI),(86,.val tyI)],[(.exit 2,[]),(.ret,[(4,.val .bool)])]))],[],[(8,[(.normal,[(2,.ptr tys),(3,.ptr tyd),(40,.val (.sl false tyI)),(41,.val tyI),(42,.val tyI)]),(.ret,[(4,.val .bool)])]),(16,[(.normal,[(2,.ptr tys),(3,.ptr tyd),(84,.val (.sl false tyE)),(85,.val tyI),(86,.val tyI)]),(.ret,[(4,.val .bool)])])]⟩
theorem ψ11.ok:φ5 Tryz.prog 87 ψ11.ctr:=fS (A:=ψ11.ann) (eC ψ1W.ok (eC ψD.ok (eC ψO.ok (eC ψx.ok (eC ψn.ok (eC ψY.ok (eC ψA.ok (eC ψw.ok φ8.nil)))))))) Tryz.func87 (by kernel_rfl) (by kernel_rfl) (fun x=>by kernel_rfl)
def ψ2C.sig:Sig:=⟨[.ptr (.pair tyD tyI),.val tyI,.val (.sl false tyR)],[.val (.sl true tyE)]⟩
def ψ2C.ctr:Ctr:=⟨ψ2C.sig,fun x=>ψ2C.f x.1 x.2.1 x.2.2⟩
def ψ2C.env:Env:=[(82,[ψx.ctr]),(110,[ψ29.ctr]),(162,[ψQ.ctr]),(167,[ψ1w.ctr]),(168,[ψ10.ctr]),(169,[ψ25.ctr])]
def ψ2C.ann:Ann:=⟨[(0,([(0,.ptr (.pair tyD tyI)),(1,.val tyI),(7,.val (.sl true tyE)),(8,.val tyI),(16,.val (.sl false tyR)),(17,.val tyI),(18,.val tyI)],[(.exit 0,[(0,.ptr (.pair tyD tyI)),(1,.val tyI),(7,.val (.sl true tyE))])]))],[],[(9,[(.normal,[(0,.ptr (.pair tyD tyI)),(1,.val tyI),(7,.val (.sl true tyE)),(8,.val tyI),(11,.val .str),(16,.val (.sl false tyR)),(17,.val tyI),(18,.val tyI)])])]⟩
theorem ψ2C.ok:φ5 Tryz.prog 124 ψ2C.ctr:=fS (A:=ψ2C.ann) (eC ψx.ok (eC ψ29.ok (eC ψQ.ok (eC ψ1w.ok (eC ψ10.ok (eC ψ25.ok φ8.nil)))))) Tryz.func124 (by kernel_rfl) (by kernel_rfl) (fun x=>by kernel_rfl)
def ψ1X.sig:Sig:=⟨[.val (.sl false tyF),.val tyI],[.val (.sl true tyR)]⟩
def ψ1X.ctr:Ctr:=⟨ψ1X.sig,fun x=>ψ1X.f x.1 x.2⟩
def ψ1X.env:Env:=[(170,[ψ17.ctr])]
def ψ1X.ann:Ann:=⟨[(0,([(0,.val (.sl false tyF)),(1,.val tyI),(5,.val (.sl true tyR)),(8,.val (.sl false tyF)),(9,.val tyI),(10,.val tyI)],[(.exit 0,[(0,.val (.sl false tyF)),(1,.val tyI),(5,.val (.sl true tyR))])]))],[],[]⟩
theorem ψ1X.ok:φ5 Tryz.prog 125 ψ1X.ctr:=fS (A:=ψ1X.ann) (eC ψ17.ok φ8.nil) Tryz.func125 (by kernel_rfl) (by kernel_rfl) (fun x=>by kernel_rfl)
def ψ2B.sig:Sig:=⟨[.ptr (.pair tyD tyI),.val tyI],[]⟩
def ψ2B.ctr:Ctr:=⟨ψ2B.sig,fun x=>ψ2B.f x.1 x.2⟩
def ψ2B.env:Env:=[(77,[ψO.ctr]),(82,[ψx.ctr]),(128,[ψU.ctr]),(129,[ψ22.ctr]),(157,[ψ1z.ctr]),(171,[ψV.ctr]),(172,[ψy.ctr])]
def ψ2B.ann:Ann:=⟨[],[],[]⟩
theorem ψ2B.ok:φ5 Tryz.prog 126 ψ2B.ctr:=fS (A:=ψ2B.ann) (eC ψO.ok (eC ψx.ok (eC ψU.ok (eC ψ22.ok (eC ψ1z.ok (eC ψV.ok (eC ψy.ok φ8.nil))))))) Tryz.func126 (by kernel_rfl) (by kernel_rfl) (fun x=>by kernel_rfl)
def ψ1x.sig:Sig:=⟨[.ptr (.pair tyD tyI),.val (.sl false .str)],[]⟩
def ψ1x.ctr:Ctr:=⟨ψ1x.sig,fun x=>ψ1x.f x.1 x.2⟩
def ψ1x.env:Env:=[(129,[ψ22.ctr])]
def ψ1x.ann:Ann:=⟨[(0,([(0,.ptw (.pair tyD tyI)),(4,.ptr (.pair tyD tyI)),(18,.val (.sl false .str)),(19,.val tyI),(20,.val tyI)],[(.exit 0,[(0,.ptw (.pair tyD tyI)),(4,.ptr (.pair tyD tyI))])]))],[],[]⟩
theorem ψ1x.ok:φ5 Tryz.prog 127 ψ1x.ctr:=fS (A:=ψ1x.ann) (eC ψ22.ok φ8.nil) Tryz.func127 (by kernel_rfl) (by kernel_rfl) (fun x=>by kernel_rfl)
def ψ15.sig:Sig:=⟨[.ptr tyS,.ptr (.pair tyD tyI),.val (.sl false tyF)],[]⟩
def ψ15.ctr:Ctr:=⟨ψ15.sig,fun x=>ψ15.f x.1 x.2.1 x.2.2⟩
def ψ15.env:Env:=[(82,[ψx.ctr]),(115,[ψ26.ctr]),(124,[ψ2C.ctr]),(125,[ψ1X.ctr]),(126,[ψ2B.ctr]),(127,[ψ1x.ctr]),(128,[ψU.ctr]),(129,[ψ22.ctr])]
def ψ15.ann:Ann:=⟨[(0,([(0,.ptr tyS),(1,.ptr (.pair tyD tyI)),(85,.val (.sl true tyI)),(86,.val tyI),(87,.val tyI)],[(.exit 0,[(0,.ptr tyS),(1,.ptr (.pair tyD tyI))])]))],[],[(5,[(.normal,[(0,.ptr tyS),(1,.ptr (.pair tyD tyI)),(6,.val tyI),(7,.val (.sl true tyE)),(8,.ptr (.pair tyI (.sl true tyI)))])])]⟩
theorem ψ15.ok:φ5 Tryz.prog 88 ψ15.ctr:=fS (A:=ψ15.ann) (eC ψx.ok (eC ψ26.ok (eC ψ2C.ok (eC ψ1X.ok (eC ψ2B.ok (eC ψ1x.ok (eC ψU.ok (eC ψ22.ok φ8.nil)))))))) Tryz.func88 (by kernel_rfl) (by kernel_rfl) (fun x=>by kernel_rfl)
def ψZ.sig:Sig:=⟨[.val tys,.val tyd],[.val tyS,.val tyD,.val tyI]⟩
def ψZ.ctr:Ctr:=⟨ψZ.sig,fun x=>ψZ.f x.1 x.2⟩
def ψZ.env:Env:=[(30,[ψG.ctr]),(53,[ψ1J.ctr]),(58,[ψ1N.ctr]),(87,[ψ11.ctr]),(88,[ψ15.ctr])]
def ψZ.ann:Ann:=⟨[],[],[]⟩
theorem ψZ.ok:φ5 Tryz.prog 60 ψZ.ctr:=fS (A:=ψZ.ann) (eC ψG.ok (eC ψ1J.ok (eC ψ1N.ok (eC ψ11.ok (eC ψ15.ok φ8.nil))))) Tryz.func60 (by kernel_rfl) (by kernel_rfl) (fun x=>by kernel_rfl)
def ψ1a.sig:Sig:=⟨[.val (.sl false tyP)],[.val (.sl true tyP)]⟩
def ψ1a.ctr:Ctr:=⟨ψ1a.sig,fun x=>ψ1a.f x⟩
def ψ1a.env:Env:=[]
def ψ1a.ann:Ann:=⟨[(2,([(3,.val (.sl true tyP)),(5,.ptr tyP),(6,.val tyI),(9,.val (.sl false tyP)),(10,.val tyI),(11,.val tyI),(15,.dup 3),(16,.val tyI),(17,.val tyI)],[(.exit 2,[(3,.val (.sl true tyP)),(5,.ptr tyP),(6,.val tyI),(9,.val (.sl false tyP)),(10,.val tyI),(11,.val tyI)])])),(0,([(3,.val (.sl true tyP)),(9,.val (.sl false tyP)),(10,.val tyI),(11,.val tyI)],[(.exit 0,[(3,.val (.sl true tyP))])]))],[],[(9,[(.normal,[(3,.val (.sl true tyP)),(5,.ptr tyP),(6,.val tyI),(9,.val (.sl false tyP)),(10,.val tyI),(11,.val tyI),(15,.dup 3),(16,.val tyI),(17,.val tyI)])]),(12,[(.normal,[(3,.val (.sl true tyP)),(9,.val (.sl false tyP)),(10,.val tyI),(11,.val tyI)])])]⟩
theorem ψ1a.ok:φ5 Tryz.prog 116 ψ1a.ctr:=fS (A:=ψ1a.ann) φ8.nil Tryz.func116 (by kernel_rfl) (by kernel_rfl) (fun x=>by kernel_rfl)
def ψb.sig:Sig:=⟨[.val (.pair .bool (.pair (.sl false (.pair .str tyI)) (.sl false tyP)))],[.val (.sl true tyP)]⟩
def ψb.ctr:Ctr:=⟨ψb.sig,fun x=>ψb.f x⟩
def ψb.env:Env:=[(116,[ψ1a.ctr])]
def ψb.ann:Ann:=⟨[],[],[]⟩
theorem ψb.ok:φ5 Tryz.prog 80 ψb.ctr:=fS (A:=ψb.ann) (eC ψ1a.ok φ8.nil) Tryz.func80 (by kernel_rfl) (by kernel_rfl) (fun x=>by kernel_rfl)
def ψ1t.sig:Sig:=⟨[.val (.sl false (.pair .bool (.pair (.sl false (.pair .str tyI)) (.sl false tyP)))),.val (.pair tyI (.pair tyI tyF))],[.val .bool]⟩
def ψ1t.ctr:Ctr:=⟨ψ1t.sig,fun x=>ψ1t.f x.1 x.2⟩
def ψ1t.env:Env:=[(25,[ψ1W.ctr])]
def ψ1t.ann:Ann:=⟨[],[],[]⟩
theorem ψ1t.ok:φ5 Tryz.prog 89 ψ1t.ctr:=fS (A:=ψ1t.ann) (eC ψ1W.ok φ8.nil) Tryz.func89 (by kernel_rfl) (by kernel_rfl) (fun x=>by kernel_rfl)
def ψe.sig:Sig:=⟨[.val (.pair .bool (.pair (.sl false (.pair .str tyI)) (.sl false tyP))),.val .str],[.val tyP,.val .bool]⟩
def ψe.ctr:Ctr:=⟨ψe.sig,fun x=>ψe.f x.1 x.2⟩
def ψe.env:Env:=[]
def ψe.ann:Ann:=⟨[(0,([(1,.val .str),(2,.ptr (.pair .bool (.pair (.sl false (.pair .str tyI)) (.sl false tyP)))),(4,.ptr tyP),(6,.val tyI)],[(.exit 0,[(4,.ptr tyP)]),(.ret,[(4,.ptr tyP),(5,.val .bool)])]))],[],[]⟩
theorem ψe.ok:φ5 Tryz.prog 174 ψe.ctr:=fS (A:=ψe.ann) φ8.nil Tryz.func174 (by kernel_rfl) (by kernel_rfl) (fun x=>by kernel_rfl)
def ψ1c.sig:Sig:=⟨[.val (.pair .bool (.pair (.sl false (.pair .str tyI)) (.sl false tyP))),.val .str],[.val (.pair tyI (.pair .str (.sl true .str))),.val .bool]⟩
def ψ1c.ctr:Ctr:=⟨ψ1c.sig,fun x=>ψ1c.f x.1 x.2⟩
def ψ1c.env:Env:=[(174,[ψe.ctr])]
def ψ1c.ann:Ann:=⟨[],[],[]⟩
theorem ψ1c.ok:φ5 Tryz.prog 131 ψ1c.ctr:=fS (A:=ψ1c.ann) (eC ψe.ok φ8.nil) Tryz.func131 (by kernel_rfl) (by kernel_rfl) (fun x=>by kernel_rfl)
def ψ1C.sig:Sig:=⟨[.val (.pair .bool (.pair (.sl false (.pair .str tyI)) (.sl false tyP))),.val .str,.val tyI],[.val (.pair .bool (.pair (.sl true (.pair .str tyI)) (.sl true tyP))),.val tyI]⟩
def ψ1C.ctr:Ctr:=⟨ψ1C.sig,fun x=>ψ1C.f x.1 x.2.1 x.2.2⟩
def ψ1C.env:Env:=[(86,[ψ1O.ctr]),(130,[ψX.ctr])]
def ψ1C.ann:Ann:=⟨[(0,([(1,.val .str),(2,.val tyI),(3,.ptr (.pair .bool (.pair (.sl false (.pair .str tyI)) (.sl false tyP)))),(6,.ptr (.pair .bool (.pair (.sl true (.pair .str tyI)) (.sl true tyP)))),(8,.ptr (.pair .bool (.pair (.sl true (.pair .str tyI)) (.sl true tyP)))),(9,.val .bool),(24,.val (.sl false (.pair .str tyI))),(25,.val tyI),(26,.val tyI)],[(.exit 0,[(1,.val .str),(2,.val tyI),(3,.ptr (.pair .bool (.pair (.sl false (.pair .str tyI)) (.sl false tyP)))),(6,.ptr (.pair .bool (.pair (.sl true (.pair .str tyI)) (.sl true tyP)))),(8,.ptr (.pair .bool (.pair (.sl true (.pair .str tyI)) (.sl true tyP)))),(9,.val .bool)]),(.ret,[(6,.ptr (.pair .bool (.pair (.sl true (.pair .str tyI)) (.sl true tyP)))),(7,.val tyI)])]))],[(1,[(.normal,[(1,.val .str),(2,.val tyI),(3,.ptr (.pair .bool (.pair (.sl false (.pair .str tyI)) (.sl false tyP)))),(6,.ptr (.pair .bool (.pair (.sl true (.pair .str tyI)) (.sl true tyP)))),(8,.ptr (.pair .bool (.pair (.sl true (.pair .str tyI)) (.sl true tyP)))),(9,.val .bool),(24,.val (.sl false (.pair .str tyI))),(25,.val tyI),(26,.val tyI)]),(.ret,[(6,.ptr (.pair .bool (.pair (.sl true (.pair .str tyI)) (.sl true tyP)))),(7,.val tyI)])])],[]⟩
theorem ψ1C.ok:φ5 Tryz.prog 175 ψ1C.ctr:=fS (A:=ψ1C.ann) (eC ψ1O.ok (eC ψX.ok φ8.nil)) Tryz.func175 (by kernel_rfl) (by kernel_rfl) (fun x=>by kernel_rfl)
def ψ1g.sig:Sig:=⟨[.val (.pair .bool (.pair (.sl false (.pair .str tyI)) (.sl false tyP))),.val .str,.val tyF,.val tyI],[.val (.pair .bool (.pair (.sl true (.pair .str tyI)) (.sl true tyP))),.val (.pair tyI (.pair .str (.sl true .str)))]⟩
def ψ1g.ctr:Ctr:=⟨ψ1g.sig,fun x=>ψ1g.f x.1 x.2.1 x.2.2.1 x.2.2.2⟩
def ψ1g.env:Env:=[(175,[ψ1C.ctr])]
def ψ1g.ann:Ann:=⟨[],[],[]⟩
theorem ψ1g.ok:φ5 Tryz.prog 132 ψ1g.ctr:=fS (A:=ψ1g.ann) (eC ψ1C.ok φ8.nil) Tryz.func132 (by kernel_rfl) (by kernel_rfl) (fun x=>by kernel_rfl)
def ψJ.sig:Sig:=⟨[.ptr (.pair (.pair .bool (.pair tyS (.pair tyD (.sl true (.pair .bool (.pair (.sl true (.pair .str tyI)) (.sl true tyP))))))) (.pair (.sl true (.pair tyI (.pair .str (.sl true .str)))) (.pair (.sl true (.pair tyI (.sl true tyP))) (.sl true tyP)))),.val (.pair tyI (.pair tyI tyF))],[.val (.pair tyI (.pair .str (.sl true .str)))]⟩
def ψJ.ctr:Ctr:=⟨ψJ.sig,fun x=>ψJ.f x.1 x.2⟩
def ψJ.env:Env:=[(56,[ψR.ctr]),(130,[ψX.ctr]),(131,[ψ1c.ctr]),(132,[ψ1g.ctr])]
def ψJ.ann:Ann:=⟨[],[],[]⟩
theorem ψJ.ok:φ5 Tryz.prog 90 ψJ.ctr:=fS (A:=ψJ.ann) (eC ψR.ok (eC ψX.ok (eC ψ1c.ok (eC ψ1g.ok φ8.nil)))) Tryz.func90 (by kernel_rfl) (by kernel_rfl) (fun x=>by kernel_rfl)
def ψ1f.sig:Sig:=⟨[.val tyP],[.val .bool]⟩
def ψ1f.ctr:Ctr:=⟨ψ1f.sig,fun x=>ψ1f.f x⟩
def ψ1f.env:Env:=[(130,[ψX.ctr])]
def ψ1f.ann:Ann:=⟨[],[],[]⟩
theorem ψ1f.ok:φ5 Tryz.prog 134 ψ1f.ctr:=fS (A:=ψ1f.ann) (eC ψX.ok φ8.nil) Tryz.func134 (by kernel_rfl) (by kernel_rfl) (fun x=>by kernel_rfl)
def ψ1D.sig:Sig:=⟨[.val (.pair .bool (.pair (.sl false (.pair .str tyI)) (.sl false tyP))),.val tyP],[.val (.pair .bool (.pair (.sl true (.pair .str tyI)) (.sl true tyP))),.val .bool]⟩
def ψ1D.ctr:Ctr:=⟨ψ1D.sig,fun x=>ψ1D.f x.1 x.2⟩
def ψ1D.env:Env:=[(80,[ψb.ctr]),(86,[ψ1O.ctr]),(134,[ψ1f.ctr])]
def ψ1D.ann:Ann:=⟨[],[],[]⟩
theorem ψ1D.ok:φ5 Tryz.prog 133 ψ1D.ctr:=fS (A:=ψ1D.ann) (eC ψb.ok (eC ψ1O.ok (eC ψ1f.ok φ8.nil))) Tryz.func133 (by kernel_rfl) (by kernel_rfl) (fun x=>by kernel_rfl)
def ψ2D.sig:Sig:=⟨[.val (.pair .bool (.pair (.sl false (.pair .str tyI)) (.sl false tyP))),.val (.pair tyI (.pair tyI tyF))],[.val (.pair .bool (.pair (.sl true (.pair .str tyI)) (.sl true tyP))),.val (.pair tyI (.pair .str (.sl true .str)))]⟩
def ψ2D.ctr:Ctr:=⟨ψ2D.sig,fun x=>ψ2D.f x.1 x.2⟩
def ψ2D.env:Env:=[(133,[ψ1D.ctr]),(134,[ψ1f.ctr])]
def ψ2D.ann:Ann:=⟨[],[],[]⟩
theorem ψ2D.ok:φ5 Tryz.prog 91 ψ2D.ctr:=fS (A:=ψ2D.ann) (eC ψ1D.ok (eC ψ1f.ok φ8.nil)) Tryz.func91 (by kernel_rfl) (by kernel_rfl) (fun x=>by kernel_rfl)
def ψ1F.sig:Sig:=⟨[.val (.pair .bool (.pair (.sl false (.pair .str tyI)) (.sl false tyP))),.val (.sl false tyE)],[.val .bool]⟩
def ψ1F.ctr:Ctr:=⟨ψ1F.sig,fun x=>ψ1F.f x.1 x.2⟩
def ψ1F.env:Env:=[(81,[ψ8.ctr])]
def ψ1F.ann:Ann:=⟨[(0,([(1,.val (.sl false tyE)),(10,.val (.sl false (.pair .str tyI))),(11,.val tyI),(12,.val tyI)],[(.exit 0,[]),(.ret,[(4,.val .bool)])]))],[],[]⟩
theorem ψ1F.ok:φ5 Tryz.prog 92 ψ1F.ctr:=fS (A:=ψ1F.ann) (eC ψ8.ok φ8.nil) Tryz.func92 (by kernel_rfl) (by kernel_rfl) (fun x=>by kernel_rfl)
def ψg.sig:Sig:=⟨[.val (.sl false tyP)],[.val .bool]⟩
def ψg.ctr:Ctr:=⟨ψg.sig,fun x=>ψg.f x⟩
def ψg.env:Env:=[(134,[ψ1f.ctr])]
def ψg.ann:Ann:=⟨[(0,([(0,.val (.sl false tyP)),(5,.val (.sl false tyP)),(6,.val tyI),(7,.val tyI)],[(.exit 0,[(0,.val (.sl false tyP))]),(.ret,[(2,.val .bool)])]))],[],[]⟩
theorem ψg.ok:φ5 Tryz.prog 135 ψg.ctr:=fS (A:=ψg.ann) (eC ψ1f.ok φ8.nil) Tryz.func135 (by kernel_rfl) (by kernel_rfl) (fun x=>by kernel_rfl)
def ψ1Q.sig:Sig:=⟨[.val (.sl false tyE),.val (.sl false tyP),.val (.sl false tyE)],[.val (.sl false tyE)]⟩
def ψ1Q.ctr:Ctr:=⟨ψ1Q.sig,fun x=>ψ1Q.f x.1 x.2.1 x.2.2⟩
def ψ1Q.env:Env:=[(183,[ψ7.ctr]),(184,[ψB.ctr])]
def ψ1Q.ann:Ann:=⟨[(0,([(0,.val (.sl false tyE)),(2,.val (.sl false tyE)),(9,.val (.sl false tyP)),(10,.val tyI),(11,.val tyI)],[(.exit 0,[(0,.val (.sl false tyE))])]))],[],[(4,[(.normal,[(0,.val (.sl true tyE)),(2,.val (.sl false tyE)),(9,.val (.sl false tyP)),(10,.val tyI),(11,.val tyI)])])]⟩
theorem ψ1Q.ok:φ5 Tryz.prog 176 ψ1Q.ctr:=fS (A:=ψ1Q.ann) (eC ψ7.ok (eC ψB.ok φ8.nil)) Tryz.func176 (by kernel_rfl) (by kernel_rfl) (fun x=>by kernel_rfl)
def ψ1Y.sig:Sig:=⟨[.val (.sl false tyE),.val (.sl false tyP)],[.val tyI]⟩
def ψ1Y.ctr:Ctr:=⟨ψ1Y.sig,fun x=>ψ1Y.f x.1 x.2⟩
def ψ1Y.env:Env:=[(176,[ψ1Q.ctr])]
def ψ1Y.ann:Ann:=⟨[(0,([(0,.val (.sl false tyE)),(1,.val (.sl false tyP)),(5,.val (.sl true tyE)),(8,.val (.sl false tyP)),(9,.val tyI),(10,.val tyI)],[(.exit 0,[(0,.val (.sl false tyE)),(1,.val (.sl false tyP)),(5,.val (.sl true tyE))])]))],[],[]⟩
theorem ψ1Y.ok:φ5 Tryz.prog 136 ψ1Y.ctr:=fS (A:=ψ1Y.ann) (eC ψ1Q.ok φ8.nil) Tryz.func136 (by kernel_rfl) (by kernel_rfl) (fun x=>by kernel_rfl)
def ψ1R.sig:Sig:=⟨[.val (.sl true tyE),.val (.sl false tyP),.val (.sl false tyE)],[.val (.sl true tyE)]⟩
def ψ1R.ctr:Ctr:=⟨ψ1R.sig,fun x=>ψ1R.f x.1 x.2.1 x.2.2⟩
def ψ1R.env:Env:=[(183,[ψ7.ctr]),(184,[ψB.ctr])]
def ψ1R.ann:Ann:=⟨[(0,([(0,.val (.sl true tyE)),(2,.val (.sl false tyE)),(9,.val (.sl false tyP)),(10,.val tyI),(11,.val tyI)],[(.exit 0,[(0,.val (.sl true tyE))])]))],[],[(4,[(.normal,[(0,.val (.sl true tyE)),(2,.val (.sl false tyE)),(9,.val (.sl false tyP)),(10,.val tyI),(11,.val tyI)])])]⟩
theorem ψ1R.ok:φ5 Tryz.prog 176 ψ1R.ctr:=fS (A:=ψ1R.ann) (eC ψ7.ok (eC ψB.ok φ8.nil)) Tryz.func176 (by kernel_rfl) (by kernel_rfl) (fun x=>by kernel_rfl)
def ψ1h.sig:Sig:=⟨[.val (.sl false tyP),.val tyI],[.val (.sl true tyR)]⟩
def ψ1h.ctr:Ctr:=⟨ψ1h.sig,fun x=>ψ1h.f x.1 x.2⟩
def ψ1h.env:Env:=[(170,[ψ17.ctr])]
def ψ1h.ann:Ann:=⟨[(0,([(0,.val (.sl false tyP)),(1,.val tyI),(5,.val (.sl true tyR)),(8,.val (.sl false tyP)),(9,.val tyI),(10,.val tyI)],[(.exit 0,[(0,.val (.sl false tyP)),(1,.val tyI),(5,.val (.sl true tyR))])]))],[],[(5,[(.normal,[(0,.val (.sl false tyP)),(1,.val tyI),(5,.val (.sl true tyR)),(8,.val (.sl false tyP)),(9,.val tyI),(10,.val tyI)])])]⟩
theorem ψ1h.ok:φ5 Tryz.prog 177 ψ1h.ctr:=fS (A:=ψ1h.ann) (eC ψ17.ok φ8.nil) Tryz.func177 (by kernel_rfl) (by kernel_rfl) (fun x=>by kernel_rfl)
def ψ12.sig:Sig:=⟨[.ptr tyS],[.val .str]⟩
def ψ12.ctr:Ctr:=⟨ψ12.sig,fun x=>ψ12.f x⟩
def ψ12.env:Env:=[(82,[ψx.ctr])]
def ψ12.ann:Ann:=⟨[],[],[]⟩
theorem ψ12.ok:φ5 Tryz.prog 179 ψ12.ctr:=fS (A:=ψ12.ann) (eC ψx.ok φ8.nil) Tryz.func179 (by kernel_rfl) (by kernel_rfl) (fun x=>by kernel_rfl)
def ψ16.sig:Sig:=⟨[.ptr tyS,.ptr (.pair tyD tyI)],[]⟩
def ψ16.ctr:Ctr:=⟨ψ16.sig,fun x=>ψ16.f x.1 x.2⟩
def ψ16.env:Env:=[(82,[ψx.ctr]),(84,[ψ1L.ctr]),(110,[ψ29.ctr]),(115,[ψ26.ctr]),(127,[ψ1x.ctr]),(167,[ψ1w.ctr]),(179,[ψ12.ctr])]
def ψ16.ann:Ann:=⟨[],[],[]⟩
theorem ψ16.ok:φ5 Tryz.prog 199 ψ16.ctr:=fS (A:=ψ16.ann) (eC ψx.ok (eC ψ1L.ok (eC ψ29.ok (eC ψ26.ok (eC ψ1x.ok (eC ψ1w.ok (eC ψ12.ok φ8.nil))))))) Tryz.func199 (by kernel_rfl) (by kernel_rfl) (fun x=>by kernel_rfl)
def ψ13.sig:Sig:=⟨[.ptr tyS,.ptr (.pair tyD tyI),.val tyR],[.val tyE]⟩
def ψ13.ctr:Ctr:=⟨ψ13.sig,fun x=>ψ13.f x.1 x.2.1 x.2.2⟩
def ψ13.env:Env:=[(162,[ψQ.ctr]),(168,[ψ10.ctr]),(169,[ψ25.ctr]),(179,[ψ12.ctr]),(199,[ψ16.ctr])]
def ψ13.ann:Ann:=⟨[],[],[(2,[(.normal,[(0,.ptr tyS),(1,.ptr (.pair tyD tyI)),(5,.ptr tyR),(6,.ptr tyE),(7,.val .str)])])]⟩
theorem ψ13.ok:φ5 Tryz.prog 178 ψ13.ctr:=fS (A:=ψ13.ann) (eC ψQ.ok (eC ψ10.ok (eC ψ25.ok (eC ψ12.ok (eC ψ16.ok φ8.nil))))) Tryz.func178 (by kernel_rfl) (by kernel_rfl) (fun x=>by kernel_rfl)
def ψ14.sig:Sig:=⟨[.ptr tyS,.ptr (.pair tyD tyI),.val (.sl false tyP)],[]⟩
def ψ14.ctr:Ctr:=⟨ψ14.sig,fun x=>ψ14.f x.1 x.2.1 x.2.2⟩
def ψ14.env:Env:=[(110,[ψ29.ctr]),(176,[ψ1R.ctr]),(177,[ψ1h.ctr]),(178,[ψ13.ctr]),(179,[ψ12.ctr])]
def ψ14.ann:Ann:=⟨[(0,([(0,.ptr tyS),(1,.ptr (.pair tyD tyI)),(2,.val (.sl false tyP)),(7,.val (.sl true tyE)),(24,.val (.sl true tyR)),(25,.val tyI),(26,.val tyI)],[(.exit 0,[(0,.ptr tyS),(1,.ptr (.pair tyD tyI)),(2,.val (.sl false tyP)),(7,.val (.sl true tyE))]),(.ret,[(0,.ptr tyS),(1,.ptr (.pair tyD tyI))])]))],[],[]⟩
theorem ψ14.ok:φ5 Tryz.prog 137 ψ14.ctr:=fS (A:=ψ14.ann) (eC ψ29.ok (eC ψ1R.ok (eC ψ1h.ok (eC ψ13.ok (eC ψ12.ok φ8.nil))))) Tryz.func137 (by kernel_rfl) (by kernel_rfl) (fun x=>by kernel_rfl)
def ψ2.sig:Sig:=⟨[.val tys,.val tyd,.val (.sl false tyP)],[.val tyS,.val tyD,.val tyI]⟩
def ψ2.ctr:Ctr:=⟨ψ2.sig,fun x=>ψ2.f x.1 x.2.1 x.2.2⟩
def ψ2.env:Env:=[(53,[ψ1J.ctr]),(58,[ψ1N.ctr]),(87,[ψ11.ctr]),(135,[ψg.ctr]),(136,[ψ1Y.ctr]),(137,[ψ14.ctr])]
def ψ2.ann:Ann:=⟨[],[],[]⟩
theorem ψ2.ok:φ5 Tryz.prog 93 ψ2.ctr:=fS (A:=ψ2.ann) (eC ψ1J.ok (eC ψ1N.ok (eC ψ11.ok (eC ψg.ok (eC ψ1Y.ok (eC ψ14.ok φ8.nil)))))) Tryz.func93 (by kernel_rfl) (by kernel_rfl) (fun x=>by kernel_rfl)
def ψL.sig:Sig:=⟨[.ptr (.pair (.pair .bool (.pair tyS (.pair tyD (.sl true (.pair .bool (.pair (.sl true (.pair .str tyI)) (.sl true tyP))))))) (.pair (.sl true (.pair tyI (.pair .str (.sl true .str)))) (.pair (.sl true (.pair tyI (.sl true tyP))) (.sl true tyP)))),.val (.pair tyI (.pair tyI tyF))],[.val (.pair tyI (.pair .str (.sl true .str)))]⟩
def ψL.ctr:Ctr:=⟨ψL.sig,fun x=>ψL.f x.1 x.2⟩
def ψL.env:Env:=[(80,[ψb.ctr]),(89,[ψ1t.ctr]),(90,[ψJ.ctr]),(91,[ψ2D.ctr]),(92,[ψ1F.ctr]),(93,[ψ2.ctr])]
def ψL.ann:Ann:=⟨[],[],[]⟩
theorem ψL.ok:φ5 Tryz.prog 61 ψL.ctr:=fS (A:=ψL.ann) (eC ψb.ok (eC ψ1t.ok (eC ψJ.ok (eC ψ2D.ok (eC ψ1F.ok (eC ψ2.ok φ8.nil)))))) Tryz.func61 (by kernel_rfl) (by kernel_rfl) (fun x=>by kernel_rfl)
def ψN.sig:Sig:=⟨[.ptr (.pair (.pair .bool (.pair tyS (.pair tyD (.sl true (.pair .bool (.pair (.sl true (.pair .str tyI)) (.sl true tyP))))))) (.pair (.sl true (.pair tyI (.pair .str (.sl true .str)))) (.pair (.sl true (.pair tyI (.sl true tyP))) (.sl true tyP)))),.val (.pair tyI (.pair tyI tyF))],[.val (.pair tyI (.pair .str (.sl true .str)))]⟩
def ψN.ctr:Ctr:=⟨ψN.sig,fun x=>ψN.f x.1 x.2⟩
def ψN.env:Env:=[(25,[ψ1W.ctr]),(26,[ψH.ctr]),(47,[ψD.ctr]),(48,[ψ1u.ctr]),(55,[ψ9.ctr]),(60,[ψZ.ctr]),(61,[ψL.ctr])]
def ψN.ann:Ann:=⟨[],[],[]⟩
theorem ψN.ok:φ5 Tryz.prog 37 ψN.ctr:=fS (A:=ψN.ann) (eC ψ1W.ok (eC ψH.ok (eC ψD.ok (eC ψ1u.ok (eC ψ9.ok (eC ψZ.ok (eC ψL.ok φ8.nil))))))) Tryz.func37 (by kernel_rfl) (by kernel_rfl) (fun x=>by kernel_rfl)
def ψ1b.sig:Sig:=⟨[.val (.pair .bool (.pair tys (.pair tyd (.sl false (.pair .bool (.pair (.sl false (.pair .str tyI)) (.sl false tyP))))))),.val (.pair tyI (.pair tyI tyF))],[.val (.sl true tyP)]⟩
def ψ1b.ctr:Ctr:=⟨ψ1b.sig,fun x=>ψ1b.f x.1 x.2⟩
def ψ1b.env:Env:=[(25,[ψ1W.ctr]),(80,[ψb.ctr])]
def ψ1b.ann:Ann:=⟨[],[],[]⟩
theorem ψ1b.ok:φ5 Tryz.prog 54 ψ1b.ctr:=fS (A:=ψ1b.ann) (eC ψ1W.ok (eC ψb.ok φ8.nil)) Tryz.func54 (by kernel_rfl) (by kernel_rfl) (fun x=>by kernel_rfl)
def ψu.sig:Sig:=⟨[.val (.pair .bool (.pair tys (.pair tyd (.sl false (.pair .bool (.pair (.sl false (.pair .str tyI)) (.sl false tyP))))))),.val (.sl false (.pair tyI (.pair tyI tyF)))],[.val (.pair (.pair .bool (.pair tyS (.pair tyD (.sl true (.pair .bool (.pair (.sl true (.pair .str tyI)) (.sl true tyP))))))) (.pair (.sl true (.pair tyI (.pair .str (.sl true .str)))) (.pair (.sl true (.pair tyI (.sl true tyP))) (.sl true tyP))))]⟩
def ψu.ctr:Ctr:=⟨ψu.sig,fun x=>ψu.f x.1 x.2⟩
def ψu.env:Env:=[(36,[ψ1K.ctr]),(37,[ψN.ctr]),(54,[ψ1b.ctr])]
def ψu.ann:Ann:=⟨[(0,([(4,.ptr (.pair (.pair .bool (.pair tyS (.pair tyD (.sl true (.pair .bool (.pair (.sl true (.pair .str tyI)) (.sl true tyP))))))) (.pair (.sl true (.pair tyI (.pair .str (.sl true .str)))) (.pair (.sl true (.pair tyI (.sl true tyP))) (.sl true tyP))))),(5,.ptr (.pair (.pair .bool (.pair tyS (.pair tyD (.sl true (.pair .bool (.pair (.sl true (.pair .str tyI)) (.sl true tyP))))))) (.pair (.sl true (.pair tyI (.pair .str (.sl true .str)))) (.pair (.sl true (.pair tyI (.sl true tyP))) (.sl true tyP))))),(14,.val (.sl false (.pair tyI (.pair tyI tyF)))),(15,.val tyI),(16,.val tyI)],[(.exit 0,[(4,.ptr (.pair (.pair .bool (.pair tyS (.pair tyD (.sl true (.pair .bool (.pair (.sl true (.pair .str tyI)) (.sl true tyP))))))) (.pair (.sl true (.pair tyI (.pair .str (.sl true .str)))) (.pair (.sl true (.pair tyI (.sl true tyP))) (.sl true tyP))))),(5,.ptr (.pair (.pair .bool (.pair tyS (.pair tyD (.sl true (.pair .bool (.pair (.sl true (.pair .str tyI)) (.sl true tyP))))))) (.pair (.sl true (.pair tyI (.pair .str (.sl true .str)))) (.pair (.sl true (.pair tyI (.sl true tyP))) (.sl true tyP)))))])]))],[],[(11,[(.normal,[(4,.ptr (.pair (.pair .bool (.pair tyS (.pair tyD (.sl true (.pair .bool (.pair (.sl true (.pair .str tyI)) (.sl true tyP))))))) (.pair (.sl true (.pair tyI (.pair .str (.sl true .str)))) (.pair (.sl true (.pair tyI (.sl true tyP))) (.sl true tyP))))),(5,.ptr (.pair (.pair .bool (.pair tyS (.pair tyD (.sl true (.pair .bool (.pair (.sl true (.pair .str tyI)) (.sl true tyP))))))) (.pair (.sl true (.pair tyI (.pair .str (.sl true .str)))) (.pair (.sl true (.pair tyI (.sl true tyP))) (.sl true tyP))))),(14,.val (.sl false (.pair tyI (.pair tyI tyF)))),(15,.val tyI),(16,.val tyI)])])]⟩
theorem ψu.ok:φ5 Tryz.prog 29 ψu.ctr:=fS (A:=ψu.ann) (eC ψ1K.ok (eC ψN.ok (eC ψ1b.ok φ8.nil))) Tryz.func29 (by kernel_rfl) (by kernel_rfl) (fun x=>by kernel_rfl)
def ψf.sig:Sig:=⟨[.val (.pair tyI (.pair tyI (.sl false (.pair tyI (.pair tyI tyF)))))],[.val (.pair (.pair .bool (.pair tyS (.pair tyD (.sl true (.pair .bool (.pair (.sl true (.pair .str tyI)) (.sl true tyP))))))) (.pair (.sl true (.pair tyI (.pair .str (.sl true .str)))) (.pair (.sl true (.pair tyI (.sl true tyP))) (.sl true tyP))))]⟩
def ψf.ctr:Ctr:=⟨ψf.sig,fun x=>ψf.f x⟩
def ψf.env:Env:=[(25,[ψ1W.ctr]),(26,[ψH.ctr]),(27,[ψ1H.ctr]),(28,[ψC.ctr]),(29,[ψu.ctr])]
def ψf.ann:Ann:=⟨[],[],[]⟩
theorem ψf.ok:φ5 Tryz.prog 11 ψf.ctr:=fS (A:=ψf.ann) (eC ψ1W.ok (eC ψH.ok (eC ψ1H.ok (eC ψC.ok (eC ψu.ok φ8.nil))))) Tryz.func11 (by kernel_rfl) (by kernel_rfl) (fun x=>by kernel_rfl)
def ψ2G.sig:Sig:=⟨[.val (.sl false (.pair tyI (.pair tyI tyF)))],[.val (.pair tyI (.pair tyI (.sl false (.pair tyI (.pair tyI tyF)))))]⟩
def ψ2G.ctr:Ctr:=⟨ψ2G.sig,fun x=>ψ2G.f x⟩
def ψ2G.env:Env:=[]
def ψ2G.ann:Ann:=⟨[],[],[]⟩
theorem ψ2G.ok:φ5 Tryz.prog 12 ψ2G.ctr:=fS (A:=ψ2G.ann) φ8.nil Tryz.func12 (by kernel_rfl) (by kernel_rfl) (fun x=>by kernel_rfl)
def ψ2E.sig:Sig:=⟨[.val (.sl false (.int .u8))],[.val .bool]⟩
def ψ2E.ctr:Ctr:=⟨ψ2E.sig,fun x=>ψ2E.f x⟩
def ψ2E.env:Env:=[(8,[ψ2F.ctr]),(9,[ψ2O.ctr]),(11,[ψf.ctr]),(12,[ψ2G.ctr])]
def ψ2E.ann:Ann:=⟨[(2,([(3,.val (.sl false (.pair tyI (.pair tyI tyF)))),(4,.ptr (.pair (.pair .bool (.pair tyS (.pair tyD (.sl true (.pair .bool (.pair (.sl true (.pair .str tyI)) (.sl true tyP))))))) (.pair (.sl true (.pair tyI (.pair .str (.sl true .str)))) (.pair (.sl true (.pair tyI (.sl true tyP))) (.sl true tyP))))),(5,.val tyI),(6,.val tyI)],[(.exit 2,[(3,.val (.sl false (.pair tyI (.pair tyI tyF)))),(4,.ptr (.pair (.pair .bool (.pair tyS (.pair tyD (.sl true (.pair .bool (.pair (.sl true (.pair .str tyI)) (.sl true tyP))))))) (.pair (.sl true (.pair tyI (.pair .str (.sl true .str)))) (.pair (.sl true (.pair tyI (.sl true tyP))) (.sl true tyP))))),(5,.val tyI)]),(.ret,[(2,.val .bool)])])),(0,([(3,.val (.sl false (.pair tyI (.pair tyI tyF)))),(4,.ptr (.pair (.pair .bool (.pair tyS (.pair tyD (.sl true (.pair .bool (.pair (.sl true (.pair .str tyI)) (.sl true tyP))))))) (.pair (.sl true (.pair tyI (.pair .str (.sl true .str)))) (.pair (.sl true (.pair tyI (.sl true tyP))) (.sl true tyP))))),(5,.val tyI)],[(.exit 0,[]),(.ret,[(2,.val .bool)])]))],[(3,[(.normal,[(3,.val (.sl false (.pair tyI (.pair tyI tyF)))),(4,.ptr (.pair (.pair .bool (.pair tyS (.pair tyD (.sl true (.pair .bool (.pair (.sl true (.pair .str tyI)) (.sl true tyP))))))) (.pair (.sl true (.pair tyI (.pair .str (.sl true .str)))) (.pair (.sl true (.pair tyI (.sl true tyP))) (.sl true tyP))))),(5,.val tyI),(6,.val tyI)]),(.exit 2,[(3,.val (.sl false (.pair tyI (.pair tyI tyF)))),(4,.ptr (.pair (.pair .bool (.pair tyS (.pair tyD (.sl true (.pair .bool (.pair (.sl true (.pair .str tyI)) (.sl true tyP))))))) (.pair (.sl true (.pair tyI (.pair .str (.sl true .str)))) (.pair (.sl true (.pair tyI (.sl true tyP))) (.sl true tyP))))),(5,.val tyI)]),(.ret,[(2,.val .bool)])]),(1,[(.normal,[(3,.val (.sl false (.pair tyI (.pair tyI tyF)))),(4,.ptr (.pair (.pair .bool (.pair tyS (.pair tyD (.sl true (.pair .bool (.pair (.sl true (.pair .str tyI)) (.sl true tyP))))))) (.pair (.sl true (.pair tyI (.pair .str (.sl true .str)))) (.pair (.sl true (.pair tyI (.sl true tyP))) (.sl true tyP))))),(5,.val tyI)]),(.ret,[(2,.val .bool)])])],[(4,[(.normal,[(3,.val (.sl false (.pair tyI (.pair tyI tyF))))])]),(18,[(.normal,[(3,.val (.sl false (.pair tyI (.pair tyI tyF)))),(4,.ptr (.pair (.pair .bool (.pair tyS (.pair tyD (.sl true (.pair .bool (.pair (.sl true (.pair .str tyI)) (.sl true tyP))))))) (.pair (.sl true (.pair tyI (.pair .str (.sl true .str)))) (.pair (.sl true (.pair tyI (.sl true tyP))) (.sl true tyP))))),(5,.val tyI),(6,.val tyI)]),(.exit 2,[(3,.val (.sl false (.pair tyI (.pair tyI tyF)))),(4,.ptr (.pair (.pair .bool (.pair tyS (.pair tyD (.sl true (.pair .bool (.pair (.sl true (.pair .str tyI)) (.sl true tyP))))))) (.pair (.sl true (.pair tyI (.pair .str (.sl true .str)))) (.pair (.sl true (.pair tyI (.sl true tyP))) (.sl true tyP))))),(5,.val tyI)])]),(22,[(.normal,[(3,.val (.sl false (.pair tyI (.pair tyI tyF)))),(4,.ptr (.pair (.pair .bool (.pair tyS (.pair tyD (.sl true (.pair .bool (.pair (.sl true (.pair .str tyI)) (.sl true tyP))))))) (.pair (.sl true (.pair tyI (.pair .str (.sl true .str)))) (.pair (.sl true (.pair tyI (.sl true tyP))) (.sl true tyP))))),(5,.val tyI)]),(.ret,[(2,.val .bool)])]),(19,[(.normal,[(3,.val (.sl false (.pair tyI (.pair tyI tyF)))),(4,.ptr (.pair (.pair .bool (.pair tyS (.pair tyD (.sl true (.pair .bool (.pair (.sl true (.pair .str tyI)) (.sl true tyP))))))) (.pair (.sl true (.pair tyI (.pair .str (.sl true .str)))) (.pair (.sl true (.pair tyI (.sl true tyP))) (.sl true tyP))))),(5,.val tyI),(6,.val tyI)]),(.exit 2,[(3,.val (.sl false (.pair tyI (.pair tyI tyF)))),(4,.ptr (.pair (.pair .bool (.pair tyS (.pair tyD (.sl true (.pair .bool (.pair (.sl true (.pair .str tyI)) (.sl true tyP))))))) (.pair (.sl true (.pair tyI (.pair .str (.sl true .str)))) (.pair (.sl true (.pair tyI (.sl true tyP))) (.sl true tyP))))),(5,.val tyI)]),(.ret,[(2,.val .bool)])])]⟩
theorem ψ2E.ok:φ5 Tryz.prog 6 ψ2E.ctr:=fS (A:=ψ2E.ann) (eC ψ2F.ok (eC ψ2O.ok (eC ψf.ok (eC ψ2G.ok φ8.nil)))) Tryz.func6 (by kernel_rfl) (by kernel_rfl) (fun x=>by kernel_rfl)
end
end Go.Proofs.YtleflckegnlgcaaGreatDoor
