import Derived.Test.YtleflckegnlgcaaGreatDoorShelf
import Derived.Lib.AppendIntMem
import Derived.Test.YtleflckegnlgcaaGreatDoorRf5
import Derived.Test.YtleflckegnlgcaaGreatDoorLTopFns
import Derived.Test.YtleflckegnlgcaaGreatDoorProg
open Option renaming bind_some→bS
open List renaming length_append→lA,append_assoc→aA,mem_cons_of_mem→mC,mem_append→mA,mem_append_right→mR,mem_append_left→mL,mem_cons→mc,drop_eq_getElem_cons→dG,length_take→lT,length_drop→lD,mem_map→mM,length_map→lM,length_cons→lC,length_nil→lN,getElem_mem→gM,map_append→mp,mem_singleton→mZ,mem_cons_self→κ0,take_succ_eq_append_getElem→κ1,map_cons→κ5,append_nil→κ7,nil_append→κ8,length_singleton→κA,drop_zero→κC,take_append_drop→κE,cons_append→κF,replicate→κH,flatMap_append→κJ,foldl_cons→κL,nodup_append→κM,take_length→κN,drop_left→κQ,all_eq_true→κR,nodup_cons→κS,range'→κT,foldl_append→κX,pairwise_cons→κY,mem_or_eq_of_mem_set→κc,pairwise_append→κd,mem_of_mem_take→κe
open Bool renaming and_eq_true→bA,eq_false_or_eq_true→bE,not_true→nZ,not_false→nF,true_and→tA,not_not→nn,false_eq_true→κ3,true_eq_false→κ9,false_and→κD,or_eq_false_iff→κI,not_eq_true'→κO,and_true→κP,false_or→κU,or_eq_true→κW
open Int renaming toNat_natCast→tN,ofNat_lt→oL,le_refl→κK
open Nat renaming lt_or_ge→κ2,zero_le→κ4,le_refl→κ6,eq_of_beq_eq_true→κB,lt_of_lt_of_le→κG,zero_add→κV,pow_succ→κZ,mod_eq_of_lt→κb,le_trans→κf
open Array renaming length_toList→κa
set_option linter.unusedVariables false
set_option linter.unusedSimpArgs false
namespace Go.Proofs.YtleflckegnlgcaaGreatDoor
noncomputable section
open Go Go.Rf Go.Rf.G Go.Proofs Go.Lib
set_option maxRecDepth 100000
abbrev tyR:Ty:=.pair (.int .i64) (.pair (.int .i64) (.pair .str (.pair .str (.pair (.int .i64) (.int .i64)))))
abbrev tyE:Ty:=.pair .str (.pair (.int .i64) (.pair (.int .i64) (.pair (.int .i64) (.int .i64))))
abbrev tyF:Ty:=.pair .str (.pair .str (.int .i64))
abbrev tyP:Ty:=.pair .str (.pair .bool .str)
abbrev tyD:Ty:=.pair (.sl true tyF) (.pair (.int .i64) (.pair (.int .i64) .bool))
abbrev tyS:Ty:=.pair (.pair (.int .i64) (.sl true (.int .i64))) (.pair (.sl true tyE) (.pair (.int .i64) (.pair (.int .i64) (.int .i64))))
abbrev tyd:Ty:=.pair (.sl false tyF) (.pair (.int .i64) (.pair (.int .i64) .bool))
abbrev tys:Ty:=.pair (.pair (.int .i64) (.sl false (.int .i64))) (.pair (.sl false tyE) (.pair (.int .i64) (.pair (.int .i64) (.int .i64))))
abbrev tyI:Ty:=.int .i64
def φ8t (f:Func):Code:=f.body.getD .skip
def tab:Tab:=[(3,⟨tyI,false,[],none,8,false⟩),
 (4,⟨.bool,false,[],none,1,false⟩),
 (5,⟨(.int .u8),false,[],none,1,false⟩),
 (9,⟨.str,false,[],none,16,false⟩),
 (22,⟨(.sl true (.int .u8)),false,[],some 5,24,false⟩),
 (24,⟨(.sl true (.pair tyI (.pair tyI tyF))),false,[],some 28,24,false⟩),
 (28,⟨(.pair tyI (.pair tyI tyF)),true,[(0,1,false),(1,1,false),(2,1,false),(3,1,false),(4,1,false)],none,56,true⟩),
 (29,⟨(.sl true tyI),false,[],some 3,24,false⟩),
 (31,⟨(.pair tyI (.sl true tyI)),true,[(0,1,false),(1,1,false)],none,32,false⟩),
 (32,⟨(.sl true tyE),false,[],some 96,24,false⟩),
 (34,⟨tyS,true,[(0,2,true),(2,1,false),(3,1,false),(4,1,false),(5,1,false)],none,80,false⟩),
 (35,⟨(.sl true tyF),false,[],some 103,24,false⟩),
 (37,⟨tyD,true,[(0,1,false),(1,1,false),(2,1,false),(3,1,false)],none,48,false⟩),
 (38,⟨(.sl true (.pair .bool (.pair (.sl false (.pair .str tyI)) (.sl false tyP)))),false,[],some 133,24,false⟩),
 (40,⟨(.pair .bool (.pair tyS (.pair tyD (.sl true (.pair .bool (.pair (.sl false (.pair .str tyI)) (.sl false tyP))))))),true,[(0,1,false),(1,6,true),(7,4,true),(11,1,false)],none,160,false⟩),
 (41,⟨(.sl true (.pair tyI (.pair .str (.sl true .str)))),false,[],some 58,24,false⟩),
 (42,⟨(.sl true (.pair tyI (.sl true tyP))),false,[],some 116,24,false⟩),
 (43,⟨(.sl true tyP),false,[],some 139,24,false⟩),
 (45,⟨(.pair (.pair .bool (.pair tyS (.pair tyD (.sl true (.pair .bool (.pair (.sl false (.pair .str tyI)) (.sl false tyP))))))) (.pair (.sl true (.pair tyI (.pair .str (.sl true .str)))) (.pair (.sl true (.pair tyI (.sl true tyP))) (.sl true tyP)))),true,[(0,12,true),(12,1,false),(13,1,false),(14,1,false)],none,232,false⟩),
 (48,⟨(.pair tyI (.pair tyI (.sl true (.pair tyI (.pair tyI tyF))))),true,[(0,1,false),(1,1,false),(2,1,false)],none,40,false⟩),
 (50,⟨(.sl true tyF),false,[],some 81,24,false⟩),
 (56,⟨(.sl true .str),false,[],some 9,24,false⟩),
 (58,⟨(.pair tyI (.pair .str (.sl true .str))),true,[(0,1,false),(1,1,false),(2,1,false)],none,48,false⟩),
 (66,⟨(.pair .bool (.pair (.sl true tyF) (.pair tyI (.sl true (.pair .bool (.pair (.sl false (.pair .str tyI)) (.sl false tyP))))))),true,[(0,1,false),(1,1,false),(2,1,false),(3,1,false)],none,64,false⟩),
 (81,⟨tyF,true,[(0,1,false),(1,1,false),(2,1,false)],none,40,true⟩),
 (92,⟨(.sl true (.pair tyI (.pair tyI tyR))),false,[],some 130,24,false⟩),
 (96,⟨tyE,true,[(0,1,false),(1,1,false),(2,1,false),(3,1,false),(4,1,false)],none,48,true⟩),
 (98,⟨tyR,true,[(0,1,false),(1,1,false),(2,1,false),(3,1,false),(4,1,false),(5,1,false)],none,64,true⟩),
 (103,⟨tyF,true,[(0,1,false),(1,1,false),(2,1,false)],none,40,true⟩),
 (108,⟨(.pair (.sl true (.int .u8)) (.pair tyI tyI)),true,[(0,1,false),(1,1,false),(2,1,false)],none,40,false⟩),
 (109,⟨(.sl true .bool),false,[],some 4,24,false⟩),
 (116,⟨(.pair tyI (.sl true tyP)),true,[(0,1,false),(1,1,false)],none,32,false⟩),
 (130,⟨(.pair tyI (.pair tyI tyR)),true,[(0,1,false),(1,1,false),(2,6,true)],none,80,true⟩),
 (131,⟨(.sl true (.pair .str tyI)),false,[],some 207,24,false⟩),
 (133,⟨(.pair .bool (.pair (.sl false (.pair .str tyI)) (.sl false tyP))),true,[(0,1,false),(1,1,false),(2,1,false)],none,56,false⟩),
 (139,⟨tyP,true,[(0,1,false),(1,1,false),(2,1,false)],none,40,true⟩),
 (148,⟨(.pair tyD tyI),true,[(0,4,true),(4,1,false)],none,56,false⟩),
 (180,⟨(.sl true (.sl true (.pair tyI (.pair tyI (.pair tyI tyR))))),false,[],some 191,24,false⟩),
 (188,⟨(.pair (.sl true tyE) (.pair tyI tyI)),true,[(0,1,false),(1,1,false),(2,1,false)],none,40,false⟩),
 (191,⟨(.sl true (.pair tyI (.pair tyI (.pair tyI tyR)))),false,[],some 231,24,false⟩),
 (198,⟨(.sl true tyR),false,[],some 98,24,false⟩),
 (207,⟨(.pair .str tyI),true,[(0,1,false),(1,1,false)],none,24,true⟩),
 (216,⟨(.pair .str .bool),true,[(0,1,false),(1,1,false)],none,24,true⟩),
 (226,⟨(.pair tyI (.pair tyI (.sl true tyE))),true,[(0,1,false),(1,1,false),(2,1,false)],none,40,false⟩),
 (231,⟨(.pair tyI (.pair tyI (.pair tyI tyR))),true,[(0,1,false),(1,1,false),(2,1,false),(3,6,true)],none,88,true⟩),
 (257,⟨(.int .u32),false,[],none,4,false⟩),
 (259,⟨.box none .bool,false,[],none,16,false⟩)]
theorem tabOk:φ1Z Tryz.prog tab:=Rf.tabOk (by kernel_rfl)
theorem φKb:Tryz.prog.follows .mixedOrders=true:=by kernel_rfl
instance laid:Laid:=φNu (φL1 Tryz.prog "internal/strconv.uint64pow10" .u64 Lib.pow10Tab) (φO5 1 2)
theorem eC {g:Nat} {c:Ctr} {E:Env} (h:φ4 Tryz.prog g c) (k:φ5 Tryz.prog E):φ5 Tryz.prog ((g,[c])::E):=φ5.cons (φN5 h φJV) k
theorem fS {A:Ann} {E:Env} {g:Nat} {fn:Func} {ctr:Ctr} (hE:φ5 Tryz.prog E) (hf:Tryz.prog.funcs[g]?=some fn) (hn:(fn.name == "runtime.NumGoroutine")=false) (hb:fn.body=some (φ8t fn)) (hev:∀x,evF tab E A ctr.g fn.ntmps fn.results.toList (φ8t fn) x=ctr.fn x):φ4 Tryz.prog g ctr:=φM7 (A:=A) tabOk hE φKb (fn:=fn) (body:=φ8t fn) hf hn hb hev
def ψ2G.sig:Sig:=⟨[.val (.sl false (.int .u8))],[.val .bool]⟩
def ψ2G.ctr:Ctr:=⟨ψ2G.sig,fun x=>ψ2G.f x⟩
def ψ2G.env:Env:=[]
def ψ2G.ann:Ann:=⟨[],[],[]⟩
theorem ψ2G.ok:φ4 Tryz.prog 8 ψ2G.ctr:=fS (A:=ψ2G.ann) φ5.nil Tryz.func8 (by kernel_rfl) (by kernel_rfl) (fun x=>by kernel_rfl)
def ψ3T.sig:Sig:=⟨[.val (.sl false (.int .u8))],[.ptr (.pair (.sl false (.int .u8)) (.pair tyI tyI))]⟩
def ψ3T.ctr:Ctr:=⟨ψ3T.sig,fun x=>ψ3T.f x⟩
def ψ3T.env:Env:=[]
def ψ3T.ann:Ann:=⟨[(0,([(0,.val (.sl false (.int .u8))),(3,.val tyI),(4,.val tyI)],[(.exit 0,[(0,.val (.sl false (.int .u8))),(3,.val tyI)])]))],[],[]⟩
theorem ψ3T.ok:φ4 Tryz.prog 23 ψ3T.ctr:=fS (A:=ψ3T.ann) φ5.nil Tryz.func23 (by kernel_rfl) (by kernel_rfl) (fun x=>by kernel_rfl)
def ψ3R.sig:Sig:=⟨[.ptr (.pair (.sl false (.int .u8)) (.pair tyI tyI))],[.val tyI]⟩
def ψ3R.ctr:Ctr:=⟨ψ3R.sig,fun x=>ψ3R.f x⟩
def ψ3R.env:Env:=[]
def ψ3R.ann:Ann:=⟨[],[],[]⟩
theorem ψ3R.ok:φ4 Tryz.prog 57 ψ3R.ctr:=fS (A:=ψ3R.ann) φ5.nil Tryz.func57 (by kernel_rfl) (by kernel_rfl) (fun x=>by kernel_rfl)
def ψ3Q.sig:Sig:=⟨[.ptr (.pair (.sl false (.int .u8)) (.pair tyI tyI)),.val tyI],[.val tyI]⟩
def ψ3Q.ctr:Ctr:=⟨ψ3Q.sig,fun x=>ψ3Q.f x.1 x.2⟩
def ψ3Q.env:Env:=[(57,[ψ3R.ctr])]
def ψ3Q.ann:Ann:=⟨[],[],[]⟩
theorem ψ3Q.ok:φ4 Tryz.prog 33 ψ3Q.ctr:=fS (A:=ψ3Q.ann) (eC ψ3R.ok φ5.nil) Tryz.func33 (by kernel_rfl) (by kernel_rfl) (fun x=>by kernel_rfl)
def ψ3U.sig:Sig:=⟨[.ptr (.pair (.sl false (.int .u8)) (.pair tyI tyI)),.val tyI],[.val .bool]⟩
def ψ3U.ctr:Ctr:=⟨ψ3U.sig,fun x=>ψ3U.f x.1 x.2⟩
def ψ3U.env:Env:=[(33,[ψ3Q.ctr])]
def ψ3U.ann:Ann:=⟨[],[],[]⟩
theorem ψ3U.ok:φ4 Tryz.prog 35 ψ3U.ctr:=fS (A:=ψ3U.ann) (eC ψ3Q.ok φ5.nil) Tryz.func35 (by kernel_rfl) (by kernel_rfl) (fun x=>by kernel_rfl)
def ψ3S.sig:Sig:=⟨[.val tyI,.val tyI,.val tyI],[.val .bool]⟩
def ψ3S.ctr:Ctr:=⟨ψ3S.sig,fun x=>ψ3S.f x.1 x.2.1 x.2.2⟩
def ψ3S.env:Env:=[]
def ψ3S.ann:Ann:=⟨[],[],[]⟩
theorem ψ3S.ok:φ4 Tryz.prog 40 ψ3S.ctr:=fS (A:=ψ3S.ann) φ5.nil Tryz.func40 (by kernel_rfl) (by kernel_rfl) (fun x=>by kernel_rfl)
def ψ3W.sig:Sig:=⟨[.ptr (.pair (.sl false (.int .u8)) (.pair tyI tyI)),.val (.sl false tyI)],[.val tyI]⟩
def ψ3W.ctr:Ctr:=⟨ψ3W.sig,fun x=>ψ3W.f x.1 x.2⟩
def ψ3W.env:Env:=[(33,[ψ3Q.ctr])]
def ψ3W.ann:Ann:=⟨[],[],[]⟩
theorem ψ3W.ok:φ4 Tryz.prog 34 ψ3W.ctr:=fS (A:=ψ3W.ann) (eC ψ3Q.ok φ5.nil) Tryz.func34 (by kernel_rfl) (by kernel_rfl) (fun x=>by kernel_rfl)
def ψ3V.sig:Sig:=⟨[.ptr (.pair (.sl false (.int .u8)) (.pair tyI tyI)),.val (.sl false .str)],[.val .str]⟩
def ψ3V.ctr:Ctr:=⟨ψ3V.sig,fun x=>ψ3V.f x.1 x.2⟩
def ψ3V.env:Env:=[(33,[ψ3Q.ctr])]
def ψ3V.ann:Ann:=⟨[],[],[]⟩
theorem ψ3V.ok:φ4 Tryz.prog 76 ψ3V.ctr:=fS (A:=ψ3V.ann) (eC ψ3Q.ok φ5.nil) Tryz.func76 (by kernel_rfl) (by kernel_rfl) (fun x=>by kernel_rfl)
def ψ3e.sig:Sig:=⟨[.ptr (.pair (.sl false (.int .u8)) (.pair tyI tyI))],[.val .str]⟩
def ψ3e.ctr:Ctr:=⟨ψ3e.sig,fun x=>ψ3e.f x⟩
def ψ3e.env:Env:=[(76,[ψ3V.ctr])]
def ψ3e.ann:Ann:=⟨[],[],[]⟩
theorem ψ3e.ok:φ4 Tryz.prog 74 ψ3e.ctr:=fS (A:=ψ3e.ann) (eC ψ3V.ok φ5.nil) Tryz.func74 (by kernel_rfl) (by kernel_rfl) (fun x=>by kernel_rfl)
def ψ3X.sig:Sig:=⟨[.ptr (.pair (.sl false (.int .u8)) (.pair tyI tyI)),.val tyI],[.val .str]⟩
def ψ3X.ctr:Ctr:=⟨ψ3X.sig,fun x=>ψ3X.f x.1 x.2⟩
def ψ3X.env:Env:=[(33,[ψ3Q.ctr]),(57,[ψ3R.ctr])]
def ψ3X.ann:Ann:=⟨[(0,([(0,.ptr (.pair (.sl false (.int .u8)) (.pair tyI tyI))),(5,.val (.sl true (.int .u8))),(6,.val tyI),(7,.val tyI)],[(.exit 0,[(0,.ptr (.pair (.sl false (.int .u8)) (.pair tyI tyI))),(5,.val (.sl true (.int .u8)))])]))],[],[(7,[(.normal,[(0,.ptr (.pair (.sl false (.int .u8)) (.pair tyI tyI))),(5,.val (.sl true (.int .u8))),(6,.val tyI),(7,.val tyI),(8,.val tyI)])]),(9,[(.normal,[(0,.ptr (.pair (.sl false (.int .u8)) (.pair tyI tyI))),(5,.val (.sl true (.int .u8))),(6,.val tyI),(7,.val tyI),(8,.val tyI)])])]⟩
theorem ψ3X.ok:φ4 Tryz.prog 75 ψ3X.ctr:=fS (A:=ψ3X.ann) (eC ψ3Q.ok (eC ψ3R.ok φ5.nil)) Tryz.func75 (by kernel_rfl) (by kernel_rfl) (fun x=>by kernel_rfl)
def ψ3J.sig:Sig:=⟨[.ptr (.pair (.sl false (.int .u8)) (.pair tyI tyI))],[.val (.pair tyI (.pair tyI tyF))]⟩
def ψ3J.ctr:Ctr:=⟨ψ3J.sig,fun x=>ψ3J.f x⟩
def ψ3J.env:Env:=[(33,[ψ3Q.ctr]),(34,[ψ3W.ctr]),(74,[ψ3e.ctr]),(75,[ψ3X.ctr]),(76,[ψ3V.ctr])]
def ψ3J.ann:Ann:=⟨[],[(0,[(.normal,[(0,.ptr (.pair (.sl false (.int .u8)) (.pair tyI tyI))),(2,.ptr (.pair tyI (.pair tyI tyF))),(3,.ptr (.pair tyI (.pair tyI tyF)))])])],[(3,[(.normal,[(0,.ptr (.pair (.sl false (.int .u8)) (.pair tyI tyI))),(2,.ptr (.pair tyI (.pair tyI tyF))),(3,.ptr (.pair tyI (.pair tyI tyF))),(11,.val tyI),(12,.val .bool)])]),(6,[(.normal,[(0,.ptr (.pair (.sl false (.int .u8)) (.pair tyI tyI))),(2,.ptr (.pair tyI (.pair tyI tyF))),(3,.ptr (.pair tyI (.pair tyI tyF)))])]),(12,[(.normal,[(0,.ptr (.pair (.sl false (.int .u8)) (.pair tyI tyI))),(2,.ptr (.pair tyI (.pair tyI tyF))),(3,.ptr (.pair tyI (.pair tyI tyF))),(27,.val tyI),(31,.val .bool)])])]⟩
theorem ψ3J.ok:φ4 Tryz.prog 51 ψ3J.ctr:=fS (A:=ψ3J.ann) (eC ψ3Q.ok (eC ψ3W.ok (eC ψ3e.ok (eC ψ3X.ok (eC ψ3V.ok φ5.nil))))) Tryz.func51 (by kernel_rfl) (by kernel_rfl) (fun x=>by kernel_rfl)
def ψ3K.sig:Sig:=⟨[.ptr (.pair (.sl false (.int .u8)) (.pair tyI tyI)),.val tyI],[.val (.sl true (.pair tyI (.pair tyI tyF)))]⟩
def ψ3K.ctr:Ctr:=⟨ψ3K.sig,fun x=>ψ3K.f x.1 x.2⟩
def ψ3K.env:Env:=[(33,[ψ3Q.ctr]),(35,[ψ3U.ctr]),(40,[ψ3S.ctr]),(51,[ψ3J.ctr])]
def ψ3K.ann:Ann:=⟨[(0,([(0,.ptr (.pair (.sl false (.int .u8)) (.pair tyI tyI))),(5,.val (.sl true (.pair tyI (.pair tyI tyF)))),(6,.val (.sl true .bool)),(7,.val tyI)],[(.exit 0,[(0,.ptr (.pair (.sl false (.int .u8)) (.pair tyI tyI))),(5,.val (.sl true (.pair tyI (.pair tyI tyF))))])]))],[],[(8,[(.normal,[(0,.ptr (.pair (.sl false (.int .u8)) (.pair tyI tyI))),(5,.val (.sl true (.pair tyI (.pair tyI tyF)))),(6,.val (.sl true .bool)),(7,.val tyI),(8,.ptr (.pair tyI (.pair tyI tyF)))])]),(10,[(.normal,[(0,.ptr (.pair (.sl false (.int .u8)) (.pair tyI tyI))),(5,.val (.sl true (.pair tyI (.pair tyI tyF)))),(6,.val (.sl true .bool)),(7,.val tyI),(8,.ptr (.pair tyI (.pair tyI tyF)))])]),(7,[(.normal,[(0,.ptr (.pair (.sl false (.int .u8)) (.pair tyI tyI))),(5,.val (.sl true (.pair tyI (.pair tyI tyF)))),(6,.val (.sl true .bool)),(7,.val tyI),(8,.ptr (.pair tyI (.pair tyI tyF)))])]),(13,[(.normal,[(0,.ptr (.pair (.sl false (.int .u8)) (.pair tyI tyI))),(5,.val (.sl true (.pair tyI (.pair tyI tyF)))),(6,.val (.sl true .bool)),(7,.val tyI),(8,.ptr (.pair tyI (.pair tyI tyF)))])])]⟩
theorem ψ3K.ok:φ4 Tryz.prog 24 ψ3K.ctr:=fS (A:=ψ3K.ann) (eC ψ3Q.ok (eC ψ3U.ok (eC ψ3S.ok (eC ψ3J.ok φ5.nil)))) Tryz.func24 (by kernel_rfl) (by kernel_rfl) (fun x=>by kernel_rfl)
def ψ2Q.sig:Sig:=⟨[.val (.sl false (.int .u8))],[.val (.sl true (.pair tyI (.pair tyI tyF)))]⟩
def ψ2Q.ctr:Ctr:=⟨ψ2Q.sig,fun x=>ψ2Q.f x⟩
def ψ2Q.env:Env:=[(23,[ψ3T.ctr]),(24,[ψ3K.ctr])]
def ψ2Q.ann:Ann:=⟨[],[],[]⟩
theorem ψ2Q.ok:φ4 Tryz.prog 9 ψ2Q.ctr:=fS (A:=ψ2Q.ann) (eC ψ3T.ok (eC ψ3K.ok φ5.nil)) Tryz.func9 (by kernel_rfl) (by kernel_rfl) (fun x=>by kernel_rfl)
def ψ1X.sig:Sig:=⟨[.val tyI,.val tyI,.val tyI],[.val .bool]⟩
def ψ1X.ctr:Ctr:=⟨ψ1X.sig,fun x=>ψ1X.f x.1 x.2.1 x.2.2⟩
def ψ1X.env:Env:=[]
def ψ1X.ann:Ann:=⟨[],[],[]⟩
theorem ψ1X.ok:φ4 Tryz.prog 25 ψ1X.ctr:=fS (A:=ψ1X.ann) φ5.nil Tryz.func25 (by kernel_rfl) (by kernel_rfl) (fun x=>by kernel_rfl)
def ψb.sig:Sig:=⟨[.val .str],[.val .bool]⟩
def ψb.ctr:Ctr:=⟨ψb.sig,fun x=>ψb.f x⟩
def ψb.env:Env:=[(25,[ψ1X.ctr])]
def ψb.ann:Ann:=⟨[(0,([(0,.val .str),(3,.val tyI)],[(.exit 0,[(0,.val .str)]),(.ret,[(2,.val .bool)])]))],[],[(4,[(.normal,[(0,.val .str),(3,.val tyI)]),(.ret,[(2,.val .bool)])])]⟩
theorem ψb.ok:φ4 Tryz.prog 66 ψb.ctr:=fS (A:=ψb.ann) (eC ψ1X.ok φ5.nil) Tryz.func66 (by kernel_rfl) (by kernel_rfl) (fun x=>by kernel_rfl)
def ψD.sig:Sig:=⟨[.val tyd],[.val .bool]⟩
def ψD.ctr:Ctr:=⟨ψD.sig,fun x=>ψD.f x⟩
def ψD.env:Env:=[(25,[ψ1X.ctr]),(66,[ψb.ctr])]
def ψD.ann:Ann:=⟨[(0,([(1,.ptr tyd),(3,.val tyI),(23,.val (.sl false tyF)),(24,.val tyI),(25,.val tyI)],[(.exit 0,[(1,.ptr tyd),(3,.val tyI)]),(.ret,[(2,.val .bool)])]))],[],[(7,[(.normal,[(1,.ptr tyd),(3,.val tyI),(5,.ptr tyF),(23,.val (.sl false tyF)),(24,.val tyI),(25,.val tyI)]),(.ret,[(2,.val .bool)])])]⟩
theorem ψD.ok:φ4 Tryz.prog 47 ψD.ctr:=fS (A:=ψD.ann) (eC ψ1X.ok (eC ψb.ok φ5.nil)) Tryz.func47 (by kernel_rfl) (by kernel_rfl) (fun x=>by kernel_rfl)
def ψ1K.sig:Sig:=⟨[.val tyd],[.val tyD]⟩
def ψ1K.ctr:Ctr:=⟨ψ1K.sig,fun x=>ψ1K.f x⟩
def ψ1K.env:Env:=[]
def ψ1K.ann:Ann:=⟨[],[],[]⟩
theorem ψ1K.ok:φ4 Tryz.prog 53 ψ1K.ctr:=fS (A:=ψ1K.ann) φ5.nil Tryz.func53 (by kernel_rfl) (by kernel_rfl) (fun x=>by kernel_rfl)
def ψ1T.sig:Sig:=⟨[.val tyd,.val .str],[.val tyI]⟩
def ψ1T.ctr:Ctr:=⟨ψ1T.sig,fun x=>ψ1T.f x.1 x.2⟩
def ψ1T.env:Env:=[]
def ψ1T.ann:Ann:=⟨[(0,([(1,.val .str),(8,.val (.sl false tyF)),(9,.val tyI),(10,.val tyI)],[(.exit 0,[]),(.ret,[(4,.val tyI)])]))],[],[]⟩
theorem ψ1T.ok:φ4 Tryz.prog 105 ψ1T.ctr:=fS (A:=ψ1T.ann) φ5.nil Tryz.func105 (by kernel_rfl) (by kernel_rfl) (fun x=>by kernel_rfl)
def ψP.sig:Sig:=⟨[.val tyd,.val .str],[.val .str,.val .bool]⟩
def ψP.ctr:Ctr:=⟨ψP.sig,fun x=>ψP.f x.1 x.2⟩
def ψP.env:Env:=[(47,[ψD.ctr]),(105,[ψ1T.ctr])]
def ψP.ann:Ann:=⟨[],[],[]⟩
theorem ψP.ok:φ4 Tryz.prog 77 ψP.ctr:=fS (A:=ψP.ann) (eC ψD.ok (eC ψ1T.ok φ5.nil)) Tryz.func77 (by kernel_rfl) (by kernel_rfl) (fun x=>by kernel_rfl)
def strconv_Itoa.ctr:Ctr:=φFJ
theorem strconv_Itoa.ok:φ4 Tryz.prog 191 strconv_Itoa.ctr:=φJN Tryz.func191 (by kernel_rfl) (by kernel_rfl) fun n h0 h1 w hL=>(Tryz.strconv_Itoa n h0 h1 w hL.1).mono fun e w' ⟨he,k,os,hw⟩=>⟨he,hw ▸ below_grow _ w (κ6 _) k os⟩
def ψ6.sig:Sig:=⟨[.val tyI],[.val .str]⟩
def ψ6.ctr:Ctr:=⟨ψ6.sig,fun x=>ψ6.f x⟩
def ψ6.env:Env:=[(191,[strconv_Itoa.ctr])]
def ψ6.ann:Ann:=⟨[],[],[]⟩
theorem ψ6.ok:φ4 Tryz.prog 160 ψ6.ctr:=fS (A:=ψ6.ann) (eC strconv_Itoa.ok φ5.nil) Tryz.func160 (by kernel_rfl) (by kernel_rfl) (fun x=>by kernel_rfl)
def ψ1a.sig:Sig:=⟨[.val .str,.val tyI],[.val .str]⟩
def ψ1a.ctr:Ctr:=⟨ψ1a.sig,fun x=>ψ1a.f x.1 x.2⟩
def ψ1a.env:Env:=[(25,[ψ1X.ctr]),(160,[ψ6.ctr])]
def ψ1a.ann:Ann:=⟨[],[],[]⟩
theorem ψ1a.ok:φ4 Tryz.prog 117 ψ1a.ctr:=fS (A:=ψ1a.ann) (eC ψ1X.ok (eC ψ6.ok φ5.nil)) Tryz.func117 (by kernel_rfl) (by kernel_rfl) (fun x=>by kernel_rfl)
def ψy.sig:Sig:=⟨[.val tyI],[.val .str]⟩
def ψy.ctr:Ctr:=⟨ψy.sig,fun x=>ψy.f x⟩
def ψy.env:Env:=[(117,[ψ1a.ctr])]
def ψy.ann:Ann:=⟨[],[],[]⟩
theorem ψy.ok:φ4 Tryz.prog 82 ψy.ctr:=fS (A:=ψy.ann) (eC ψ1a.ok φ5.nil) Tryz.func82 (by kernel_rfl) (by kernel_rfl) (fun x=>by kernel_rfl)
def ψn.sig:Sig:=⟨[.val .str],[.val tyI,.val tyI]⟩
def ψn.ctr:Ctr:=⟨ψn.sig,fun x=>ψn.f x⟩
def ψn.env:Env:=[]
def ψn.ann:Ann:=⟨[(0,([(0,.val .str),(4,.val tyI),(5,.val tyI)],[(.exit 0,[]),(.ret,[(2,.val tyI),(3,.val tyI)])]))],[],[(8,[(.normal,[(4,.val tyI),(5,.val tyI)]),(.ret,[(2,.val tyI),(3,.val tyI)])])]⟩
theorem ψn.ok:φ4 Tryz.prog 161 ψn.ctr:=fS (A:=ψn.ann) φ5.nil Tryz.func161 (by kernel_rfl) (by kernel_rfl) (fun x=>by kernel_rfl)
def ψ1H.sig:Sig:=⟨[.val tyI],[.val .str]⟩
def ψ1H.ctr:Ctr:=⟨ψ1H.sig,fun x=>ψ1H.f x⟩
def ψ1H.env:Env:=[(25,[ψ1X.ctr])]
def ψ1H.ann:Ann:=⟨[(0,([(0,.val tyI),(3,.val (.sl true (.int .u8)))],[(.exit 0,[(0,.val tyI),(3,.val (.sl true (.int .u8)))])]))],[],[]⟩
theorem ψ1H.ok:φ4 Tryz.prog 195 ψ1H.ctr:=fS (A:=ψ1H.ann) (eC ψ1X.ok φ5.nil) Tryz.func195 (by kernel_rfl) (by kernel_rfl) (fun x=>by kernel_rfl)
def ψ1s.sig:Sig:=⟨[.val .str],[.val .str]⟩
def ψ1s.ctr:Ctr:=⟨ψ1s.sig,fun x=>ψ1s.f x⟩
def ψ1s.env:Env:=[(195,[ψ1H.ctr])]
def ψ1s.ann:Ann:=⟨[],[],[]⟩
theorem ψ1s.ok:φ4 Tryz.prog 192 ψ1s.ctr:=fS (A:=ψ1s.ann) (eC ψ1H.ok φ5.nil) Tryz.func192 (by kernel_rfl) (by kernel_rfl) (fun x=>by kernel_rfl)
def ψQ.sig:Sig:=⟨[.val tyI,.val tyI],[.val .str]⟩
def ψQ.ctr:Ctr:=⟨ψQ.sig,fun x=>ψQ.f x.1 x.2⟩
def ψQ.env:Env:=[(25,[ψ1X.ctr])]
def ψQ.ann:Ann:=⟨[(0,([(0,.val tyI),(5,.val (.sl true (.int .u8))),(6,.val tyI)],[(.exit 0,[(5,.val (.sl true (.int .u8)))])]))],[],[]⟩
theorem ψQ.ok:φ4 Tryz.prog 193 ψQ.ctr:=fS (A:=ψQ.ann) (eC ψ1X.ok φ5.nil) Tryz.func193 (by kernel_rfl) (by kernel_rfl) (fun x=>by kernel_rfl)
def ψ3.sig:Sig:=⟨[.val .str],[.val tyI]⟩
def ψ3.ctr:Ctr:=⟨ψ3.sig,fun x=>ψ3.f x⟩
def ψ3.env:Env:=[]
def ψ3.ann:Ann:=⟨[(2,([(0,.val .str),(3,.val (.int .u32)),(4,.val tyI),(18,.val tyI)],[(.exit 2,[(0,.val .str),(3,.val (.int .u32)),(4,.val tyI)])])),(0,([(0,.val .str),(3,.val (.int .u32)),(4,.val tyI)],[(.exit 0,[(3,.val (.int .u32))])]))],[],[(10,[(.normal,[(0,.val .str),(3,.val (.int .u32)),(4,.val tyI),(18,.val tyI)])])]⟩
theorem ψ3.ok:φ4 Tryz.prog 194 ψ3.ctr:=fS (A:=ψ3.ann) φ5.nil Tryz.func194 (by kernel_rfl) (by kernel_rfl) (fun x=>by kernel_rfl)
def ψR.sig:Sig:=⟨[.val .str],[.val .str]⟩
def ψR.ctr:Ctr:=⟨ψR.sig,fun x=>ψR.f x⟩
def ψR.env:Env:=[(192,[ψ1s.ctr]),(193,[ψQ.ctr]),(194,[ψ3.ctr])]
def ψR.ann:Ann:=⟨[],[],[]⟩
theorem ψR.ok:φ4 Tryz.prog 162 ψR.ctr:=fS (A:=ψR.ann) (eC ψ1s.ok (eC ψQ.ok (eC ψ3.ok φ5.nil))) Tryz.func162 (by kernel_rfl) (by kernel_rfl) (fun x=>by kernel_rfl)
def ψ1F.sig:Sig:=⟨[.val .str],[.val .str,.val tyI]⟩
def ψ1F.ctr:Ctr:=⟨ψ1F.sig,fun x=>ψ1F.f x⟩
def ψ1F.env:Env:=[(161,[ψn.ctr]),(162,[ψR.ctr])]
def ψ1F.ann:Ann:=⟨[],[],[]⟩
theorem ψ1F.ok:φ4 Tryz.prog 118 ψ1F.ctr:=fS (A:=ψ1F.ann) (eC ψn.ok (eC ψR.ok φ5.nil)) Tryz.func118 (by kernel_rfl) (by kernel_rfl) (fun x=>by kernel_rfl)
def ψZ.sig:Sig:=⟨[.val (.pair tyI (.sl false tyI))],[.val .bool]⟩
def ψZ.ctr:Ctr:=⟨ψZ.sig,fun x=>ψZ.f x⟩
def ψZ.env:Env:=[(25,[ψ1X.ctr])]
def ψZ.ann:Ann:=⟨[(0,([(1,.ptr (.pair tyI (.sl false tyI))),(6,.val (.sl false tyI)),(7,.val tyI),(8,.val tyI)],[(.exit 0,[(1,.ptr (.pair tyI (.sl false tyI)))]),(.ret,[(2,.val .bool)])]))],[],[(4,[(.normal,[(1,.ptr (.pair tyI (.sl false tyI))),(6,.val (.sl false tyI)),(7,.val tyI),(8,.val tyI)]),(.ret,[(2,.val .bool)])])]⟩
theorem ψZ.ok:φ4 Tryz.prog 121 ψZ.ctr:=fS (A:=ψZ.ann) (eC ψ1X.ok φ5.nil) Tryz.func121 (by kernel_rfl) (by kernel_rfl) (fun x=>by kernel_rfl)
def ψ1k.sig:Sig:=⟨[.ptr (.pair .str .bool)],[.val tyI]⟩
def ψ1k.ctr:Ctr:=⟨ψ1k.sig,fun x=>ψ1k.f x⟩
def ψ1k.env:Env:=[(161,[ψn.ctr])]
def ψ1k.ann:Ann:=⟨[],[],[]⟩
theorem ψ1k.ok:φ4 Tryz.prog 144 ψ1k.ctr:=fS (A:=ψ1k.ann) (eC ψn.ok φ5.nil) Tryz.func144 (by kernel_rfl) (by kernel_rfl) (fun x=>by kernel_rfl)
def ψl.sig:Sig:=⟨[.val .str],[.val (.pair tyI (.sl true tyI)),.val .bool]⟩
def ψl.ctr:Ctr:=⟨ψl.sig,fun x=>ψl.f x⟩
def ψl.env:Env:=[(118,[ψ1F.ctr]),(121,[ψZ.ctr]),(144,[ψ1k.ctr])]
def ψl.ann:Ann:=⟨[(0,([(0,.val .str),(2,.ptr (.pair tyI (.sl true tyI))),(5,.val tyI),(6,.ptr (.pair .str .bool)),(7,.ptr (.pair tyI (.sl true tyI))),(8,.val tyI),(9,.val tyI)],[(.exit 0,[(0,.val .str),(2,.ptr (.pair tyI (.sl true tyI))),(5,.val tyI),(6,.ptr (.pair .str .bool)),(7,.ptr (.pair tyI (.sl true tyI)))])]))],[],[]⟩
theorem ψl.ok:φ4 Tryz.prog 106 ψl.ctr:=fS (A:=ψl.ann) (eC ψ1F.ok (eC ψZ.ok (eC ψ1k.ok φ5.nil))) Tryz.func106 (by kernel_rfl) (by kernel_rfl) (fun x=>by kernel_rfl)
def ψ1j.sig:Sig:=⟨[.ptr (.pair .str .bool),.val tyI],[.val .str]⟩
def ψ1j.ctr:Ctr:=⟨ψ1j.sig,fun x=>ψ1j.f x.1 x.2⟩
def ψ1j.env:Env:=[]
def ψ1j.ann:Ann:=⟨[],[],[]⟩
theorem ψ1j.ok:φ4 Tryz.prog 165 ψ1j.ctr:=fS (A:=ψ1j.ann) φ5.nil Tryz.func165 (by kernel_rfl) (by kernel_rfl) (fun x=>by kernel_rfl)
def ψ1l.sig:Sig:=⟨[.ptr (.pair .str .bool)],[.val .str]⟩
def ψ1l.ctr:Ctr:=⟨ψ1l.sig,fun x=>ψ1l.f x⟩
def ψ1l.env:Env:=[(144,[ψ1k.ctr]),(165,[ψ1j.ctr])]
def ψ1l.ann:Ann:=⟨[],[],[]⟩
theorem ψ1l.ok:φ4 Tryz.prog 163 ψ1l.ctr:=fS (A:=ψ1l.ann) (eC ψ1k.ok (eC ψ1j.ok φ5.nil)) Tryz.func163 (by kernel_rfl) (by kernel_rfl) (fun x=>by kernel_rfl)
def ψj.sig:Sig:=⟨[.val .str,.val tyI],[.val tyI,.val .bool]⟩
def ψj.ctr:Ctr:=⟨ψj.sig,fun x=>ψj.f x.1 x.2⟩
def ψj.env:Env:=[(25,[ψ1X.ctr])]
def ψj.ann:Ann:=⟨[(0,([(0,.val .str),(6,.val tyI),(17,.val tyI),(18,.val tyI)],[(.exit 0,[(6,.val tyI)])]))],[],[]⟩
theorem ψj.ok:φ4 Tryz.prog 164 ψj.ctr:=fS (A:=ψj.ann) (eC ψ1X.ok φ5.nil) Tryz.func164 (by kernel_rfl) (by kernel_rfl) (fun x=>by kernel_rfl)
def ψY.sig:Sig:=⟨[.val .str],[.val .bool]⟩
def ψY.ctr:Ctr:=⟨ψY.sig,fun x=>ψY.f x⟩
def ψY.env:Env:=[(25,[ψ1X.ctr])]
def ψY.ann:Ann:=⟨[],[],[]⟩
theorem ψY.ok:φ4 Tryz.prog 130 ψY.ctr:=fS (A:=ψY.ann) (eC ψ1X.ok φ5.nil) Tryz.func130 (by kernel_rfl) (by kernel_rfl) (fun x=>by kernel_rfl)
def ψp.sig:Sig:=⟨[.val tyR],[.val .bool]⟩
def ψp.ctr:Ctr:=⟨ψp.sig,fun x=>ψp.f x⟩
def ψp.env:Env:=[(25,[ψ1X.ctr]),(130,[ψY.ctr])]
def ψp.ann:Ann:=⟨[],[],[(4,[(.normal,[(1,.ptr tyR),(3,.ptr tyR),(4,.val .bool),(5,.val tyI),(12,.val tyI),(13,.val .bool)])])]⟩
theorem ψp.ok:φ4 Tryz.prog 166 ψp.ctr:=fS (A:=ψp.ann) (eC ψ1X.ok (eC ψY.ok φ5.nil)) Tryz.func166 (by kernel_rfl) (by kernel_rfl) (fun x=>by kernel_rfl)
def ψm.sig:Sig:=⟨[.val .str],[.val tyR,.val .bool]⟩
def ψm.ctr:Ctr:=⟨ψm.sig,fun x=>ψm.f x⟩
def ψm.env:Env:=[(144,[ψ1k.ctr]),(163,[ψ1l.ctr]),(164,[ψj.ctr]),(165,[ψ1j.ctr]),(166,[ψp.ctr])]
def ψm.ann:Ann:=⟨[],[(0,[(.normal,[(2,.ptr tyR),(4,.ptr (.pair .str .bool)),(5,.ptr tyR)])])],[(8,[(.normal,[(2,.ptr tyR),(4,.ptr (.pair .str .bool)),(5,.ptr tyR),(16,.val tyI),(27,.val .bool)])]),(12,[(.normal,[(2,.ptr tyR),(4,.ptr (.pair .str .bool)),(5,.ptr tyR)])])]⟩
theorem ψm.ok:φ4 Tryz.prog 119 ψm.ctr:=fS (A:=ψm.ann) (eC ψ1k.ok (eC ψ1l.ok (eC ψj.ok (eC ψ1j.ok (eC ψp.ok φ5.nil))))) Tryz.func119 (by kernel_rfl) (by kernel_rfl) (fun x=>by kernel_rfl)
def ψx.sig:Sig:=⟨[.val .str],[.val (.sl false (.pair tyI (.pair tyI tyR))),.val tyI]⟩
def ψx.ctr:Ctr:=⟨ψx.sig,fun x=>ψx.f x⟩
def ψx.env:Env:=[(118,[ψ1F.ctr]),(119,[ψm.ctr])]
def ψx.ann:Ann:=⟨[(0,([(0,.val .str),(4,.val (.sl true (.pair tyI (.pair tyI tyR)))),(5,.val tyI)],[(.ret,[(2,.val (.sl true (.pair tyI (.pair tyI tyR)))),(3,.val tyI)])]))],[],[]⟩
theorem ψx.ok:φ4 Tryz.prog 123 ψx.ctr:=fS (A:=ψx.ann) (eC ψ1F.ok (eC ψm.ok φ5.nil)) Tryz.func123 (by kernel_rfl) (by kernel_rfl) (fun x=>by kernel_rfl)
def ψ1f.sig:Sig:=⟨[.val tyI,.val (.sl false (.pair tyI (.pair tyI tyR)))],[.val (.sl true (.pair tyI (.pair tyI (.pair tyI tyR))))]⟩
def ψ1f.ctr:Ctr:=⟨ψ1f.sig,fun x=>ψ1f.f x.1 x.2⟩
def ψ1f.env:Env:=[]
def ψ1f.ann:Ann:=⟨[(0,([(0,.val tyI),(5,.val (.sl true (.pair tyI (.pair tyI (.pair tyI tyR))))),(8,.val (.sl false (.pair tyI (.pair tyI tyR)))),(9,.val tyI),(10,.val tyI)],[(.exit 0,[(5,.val (.sl true (.pair tyI (.pair tyI (.pair tyI tyR)))))])]))],[],[]⟩
theorem ψ1f.ok:φ4 Tryz.prog 145 ψ1f.ctr:=fS (A:=ψ1f.ann) φ5.nil Tryz.func145 (by kernel_rfl) (by kernel_rfl) (fun x=>by kernel_rfl)
def ψ29.sig:Sig:=⟨[.ptr (.pair tyD tyI),.val (.pair tyI (.sl false tyI))],[.val (.sl true (.sl true (.pair tyI (.pair tyI (.pair tyI tyR))))),.val tyI,.val .bool]⟩
def ψ29.ctr:Ctr:=⟨ψ29.sig,fun x=>ψ29.f x.1 x.2⟩
def ψ29.env:Env:=[(77,[ψP.ctr]),(82,[ψy.ctr]),(123,[ψx.ctr]),(145,[ψ1f.ctr])]
def ψ29.ann:Ann:=⟨[(0,([(0,.ptr (.pair tyD tyI)),(3,.ptr (.pair tyI (.sl false tyI))),(7,.val (.sl true (.sl true (.pair tyI (.pair tyI (.pair tyI tyR)))))),(8,.val tyI),(16,.val (.sl false tyI)),(17,.val tyI),(18,.val tyI)],[(.exit 0,[(0,.ptr (.pair tyD tyI)),(7,.val (.sl true (.sl true (.pair tyI (.pair tyI (.pair tyI tyR)))))),(8,.val tyI)]),(.ret,[(0,.ptr (.pair tyD tyI)),(4,.val (.sl true (.sl true (.pair tyI (.pair tyI (.pair tyI tyR)))))),(5,.val tyI),(6,.val .bool)])]))],[],[(8,[(.normal,[(0,.ptr (.pair tyD tyI)),(3,.ptr (.pair tyI (.sl false tyI))),(7,.val (.sl true (.sl true (.pair tyI (.pair tyI (.pair tyI tyR)))))),(10,.val tyI),(13,.val (.sl false (.pair tyI (.pair tyI tyR)))),(14,.val tyI),(16,.val (.sl false tyI)),(17,.val tyI),(18,.val tyI)]),(.ret,[(0,.ptr (.pair tyD tyI)),(4,.val (.sl true (.sl true (.pair tyI (.pair tyI (.pair tyI tyR)))))),(5,.val tyI),(6,.val .bool)])])]⟩
theorem ψ29.ok:φ4 Tryz.prog 107 ψ29.ctr:=fS (A:=ψ29.ann) (eC ψP.ok (eC ψy.ok (eC ψx.ok (eC ψ1f.ok φ5.nil)))) Tryz.func107 (by kernel_rfl) (by kernel_rfl) (fun x=>by kernel_rfl)
def ψ1t.sig:Sig:=⟨[.val tyI],[.val tyI]⟩
def ψ1t.ctr:Ctr:=⟨ψ1t.sig,fun x=>ψ1t.f x⟩
def ψ1t.env:Env:=[]
def ψ1t.ann:Ann:=⟨[],[],[]⟩
theorem ψ1t.ok:φ4 Tryz.prog 146 ψ1t.ctr:=fS (A:=ψ1t.ann) φ5.nil Tryz.func146 (by kernel_rfl) (by kernel_rfl) (fun x=>by kernel_rfl)
def ψ2B.sig:Sig:=⟨[.ptr (.pair tyD tyI),.val tyD,.val tyI],[]⟩
def ψ2B.ctr:Ctr:=⟨ψ2B.sig,fun x=>ψ2B.f x.1 x.2.1 x.2.2⟩
def ψ2B.env:Env:=[(146,[ψ1t.ctr])]
def ψ2B.ann:Ann:=⟨[],[],[]⟩
theorem ψ2B.ok:φ4 Tryz.prog 108 ψ2B.ctr:=fS (A:=ψ2B.ann) (eC ψ1t.ok φ5.nil) Tryz.func108 (by kernel_rfl) (by kernel_rfl) (fun x=>by kernel_rfl)
def ψ1C.sig:Sig:=⟨[.ptr tyD,.val (.box none .str),.val (.box none tyI)],[.val tyI]⟩
def ψ1C.ctr:Ctr:=⟨ψ1C.sig,fun x=>ψ1C.f x.1 x.2.1 x.2.2⟩
def ψ1C.env:Env:=[(25,[ψ1X.ctr]),(105,[ψ1T.ctr])]
def ψ1C.ann:Ann:=⟨[],[],[]⟩
theorem ψ1C.ok:φ4 Tryz.prog 148 ψ1C.ctr:=fS (A:=ψ1C.ann) (eC ψ1X.ok (eC ψ1T.ok φ5.nil)) Tryz.func148 (by kernel_rfl) (by kernel_rfl) (fun x=>by kernel_rfl)
def ψ1r.sig:Sig:=⟨[.val tyd,.val (.box (some 148) (.pair (.box none .str) (.box none tyI)))],[.val tyD,.val tyI]⟩
def ψ1r.ctr:Ctr:=⟨ψ1r.sig,fun x=>ψ1r.f x.1 x.2⟩
def ψ1r.env:Env:=[(47,[ψD.ctr]),(53,[ψ1K.ctr]),(148,[ψ1C.ctr])]
def ψ1r.ann:Ann:=⟨[],[],[(7,[(.normal,[(1,.val (.box (some 148) (.pair (.box none .str) (.box none tyI)))),(4,.ptr tyD),(6,.ptr tyD)])])]⟩
theorem ψ1r.ok:φ4 Tryz.prog 147 ψ1r.ctr:=fS (A:=ψ1r.ann) (eC ψD.ok (eC ψ1K.ok (eC ψ1C.ok φ5.nil))) Tryz.func147 (by kernel_rfl) (by kernel_rfl) (fun x=>by kernel_rfl)
def ψ1B.sig:Sig:=⟨[.val tyd,.val .str,.val tyI],[.val tyD,.val tyI]⟩
def ψ1B.ctr:Ctr:=⟨ψ1B.sig,fun x=>ψ1B.f x.1 x.2.1 x.2.2⟩
def ψ1B.env:Env:=[(147,[ψ1r.ctr])]
def ψ1B.ann:Ann:=⟨[],[],[]⟩
theorem ψ1B.ok:φ4 Tryz.prog 109 ψ1B.ctr:=fS (A:=ψ1B.ann) (eC ψ1r.ok φ5.nil) Tryz.func109 (by kernel_rfl) (by kernel_rfl) (fun x=>by kernel_rfl)
def ψ1A.sig:Sig:=⟨[.ptr tyD,.val (.box none .str)],[.val tyI]⟩
def ψ1A.ctr:Ctr:=⟨ψ1A.sig,fun x=>ψ1A.f x.1 x.2⟩
def ψ1A.env:Env:=[(105,[ψ1T.ctr])]
def ψ1A.ann:Ann:=⟨[],[],[]⟩
theorem ψ1A.ok:φ4 Tryz.prog 180 ψ1A.ctr:=fS (A:=ψ1A.ann) (eC ψ1T.ok φ5.nil) Tryz.func180 (by kernel_rfl) (by kernel_rfl) (fun x=>by kernel_rfl)
def ψ1q.sig:Sig:=⟨[.val tyd,.val (.box (some 180) (.box none .str))],[.val tyD,.val tyI]⟩
def ψ1q.ctr:Ctr:=⟨ψ1q.sig,fun x=>ψ1q.f x.1 x.2⟩
def ψ1q.env:Env:=[(47,[ψD.ctr]),(53,[ψ1K.ctr]),(180,[ψ1A.ctr])]
def ψ1q.ann:Ann:=⟨[],[],[(7,[(.normal,[(1,.val (.box (some 180) (.box none .str))),(4,.ptr tyD),(6,.ptr tyD)])])]⟩
theorem ψ1q.ok:φ4 Tryz.prog 147 ψ1q.ctr:=fS (A:=ψ1q.ann) (eC ψD.ok (eC ψ1K.ok (eC ψ1A.ok φ5.nil))) Tryz.func147 (by kernel_rfl) (by kernel_rfl) (fun x=>by kernel_rfl)
def ψ19.sig:Sig:=⟨[.val tyd,.val .str],[.val tyD,.val tyI]⟩
def ψ19.ctr:Ctr:=⟨ψ19.sig,fun x=>ψ19.f x.1 x.2⟩
def ψ19.env:Env:=[(147,[ψ1q.ctr])]
def ψ19.ann:Ann:=⟨[],[],[]⟩
theorem ψ19.ok:φ4 Tryz.prog 149 ψ19.ctr:=fS (A:=ψ19.ann) (eC ψ1q.ok φ5.nil) Tryz.func149 (by kernel_rfl) (by kernel_rfl) (fun x=>by kernel_rfl)
def ψ2A.sig:Sig:=⟨[.ptr (.pair tyD tyI),.val .str],[]⟩
def ψ2A.ctr:Ctr:=⟨ψ2A.sig,fun x=>ψ2A.f x.1 x.2⟩
def ψ2A.env:Env:=[(108,[ψ2B.ctr]),(149,[ψ19.ctr])]
def ψ2A.ann:Ann:=⟨[],[],[]⟩
theorem ψ2A.ok:φ4 Tryz.prog 110 ψ2A.ctr:=fS (A:=ψ2A.ann) (eC ψ2B.ok (eC ψ19.ok φ5.nil)) Tryz.func110 (by kernel_rfl) (by kernel_rfl) (fun x=>by kernel_rfl)
def ψV.sig:Sig:=⟨[.val tyI],[.val .str]⟩
def ψV.ctr:Ctr:=⟨ψV.sig,fun x=>ψV.f x⟩
def ψV.env:Env:=[(117,[ψ1a.ctr])]
def ψV.ann:Ann:=⟨[],[],[]⟩
theorem ψV.ok:φ4 Tryz.prog 128 ψV.ctr:=fS (A:=ψV.ann) (eC ψ1a.ok φ5.nil) Tryz.func128 (by kernel_rfl) (by kernel_rfl) (fun x=>by kernel_rfl)
def ψA.sig:Sig:=⟨[.val (.sl false tyE)],[.val .bool]⟩
def ψA.ctr:Ctr:=⟨ψA.sig,fun x=>ψA.f x⟩
def ψA.env:Env:=[(25,[ψ1X.ctr]),(130,[ψY.ctr])]
def ψA.ann:Ann:=⟨[(0,([(0,.val (.sl false tyE)),(5,.val (.sl false tyE)),(6,.val tyI),(7,.val tyI)],[(.exit 0,[(0,.val (.sl false tyE))]),(.ret,[(2,.val .bool)])]))],[],[(4,[(.normal,[(0,.val (.sl false tyE)),(5,.val (.sl false tyE)),(6,.val tyI),(7,.val tyI)]),(.ret,[(2,.val .bool)])])]⟩
theorem ψA.ok:φ4 Tryz.prog 122 ψA.ctr:=fS (A:=ψA.ann) (eC ψ1X.ok (eC ψY.ok φ5.nil)) Tryz.func122 (by kernel_rfl) (by kernel_rfl) (fun x=>by kernel_rfl)
def ψ1W.sig:Sig:=⟨[.val (.pair tyI (.pair tyI (.sl false tyE)))],[.val .bool]⟩
def ψ1W.ctr:Ctr:=⟨ψ1W.sig,fun x=>ψ1W.f x⟩
def ψ1W.env:Env:=[(25,[ψ1X.ctr]),(122,[ψA.ctr])]
def ψ1W.ann:Ann:=⟨[(0,([(1,.ptr (.pair tyI (.pair tyI (.sl false tyE)))),(6,.val (.sl false tyE)),(7,.val tyI),(8,.val tyI)],[(.exit 0,[(1,.ptr (.pair tyI (.pair tyI (.sl false tyE))))]),(.ret,[(2,.val .bool)])]))],[],[]⟩
theorem ψ1W.ok:φ4 Tryz.prog 181 ψ1W.ctr:=fS (A:=ψ1W.ann) (eC ψ1X.ok (eC ψA.ok φ5.nil)) Tryz.func181 (by kernel_rfl) (by kernel_rfl) (fun x=>by kernel_rfl)
def ψ1w.sig:Sig:=⟨[.val (.sl false tyI)],[.val .str]⟩
def ψ1w.ctr:Ctr:=⟨ψ1w.sig,fun x=>ψ1w.f x⟩
def ψ1w.env:Env:=[(195,[ψ1H.ctr])]
def ψ1w.ann:Ann:=⟨[(0,([(3,.val .str),(6,.val (.sl false tyI)),(7,.val tyI),(8,.val tyI)],[(.exit 0,[(3,.val .str)])]))],[],[]⟩
theorem ψ1w.ok:φ4 Tryz.prog 189 ψ1w.ctr:=fS (A:=ψ1w.ann) (eC ψ1H.ok φ5.nil) Tryz.func189 (by kernel_rfl) (by kernel_rfl) (fun x=>by kernel_rfl)
def ψz.sig:Sig:=⟨[.val (.pair tyI (.pair tyI (.sl false tyE)))],[.val .str]⟩
def ψz.ctr:Ctr:=⟨ψz.sig,fun x=>ψz.f x⟩
def ψz.env:Env:=[(181,[ψ1W.ctr]),(189,[ψ1w.ctr]),(192,[ψ1s.ctr]),(193,[ψQ.ctr]),(194,[ψ3.ctr])]
def ψz.ann:Ann:=⟨[(0,([(3,.val .str),(19,.val (.sl false tyE)),(20,.val tyI),(21,.val tyI)],[(.exit 0,[(3,.val .str)])]))],[],[]⟩
theorem ψz.ok:φ4 Tryz.prog 172 ψz.ctr:=fS (A:=ψz.ann) (eC ψ1W.ok (eC ψ1w.ok (eC ψ1s.ok (eC ψQ.ok (eC ψ3.ok φ5.nil))))) Tryz.func172 (by kernel_rfl) (by kernel_rfl) (fun x=>by kernel_rfl)
def ψk.sig:Sig:=⟨[.val .str],[.val (.pair tyI (.pair tyI (.sl true tyE))),.val .bool]⟩
def ψk.ctr:Ctr:=⟨ψk.sig,fun x=>ψk.f x⟩
def ψk.env:Env:=[(144,[ψ1k.ctr]),(163,[ψ1l.ctr]),(165,[ψ1j.ctr]),(172,[ψz.ctr]),(181,[ψ1W.ctr])]
def ψk.ann:Ann:=⟨[(0,([(0,.val .str),(2,.ptr (.pair tyI (.pair tyI (.sl true tyE)))),(4,.ptr (.pair .str .bool)),(5,.ptr (.pair tyI (.pair tyI (.sl true tyE)))),(6,.val tyI),(7,.val tyI)],[(.exit 0,[(0,.val .str),(2,.ptr (.pair tyI (.pair tyI (.sl true tyE)))),(4,.ptr (.pair .str .bool)),(5,.ptr (.pair tyI (.pair tyI (.sl true tyE))))])]))],[],[]⟩
theorem ψk.ok:φ4 Tryz.prog 150 ψk.ctr:=fS (A:=ψk.ann) (eC ψ1k.ok (eC ψ1l.ok (eC ψ1j.ok (eC ψz.ok (eC ψ1W.ok φ5.nil))))) Tryz.func150 (by kernel_rfl) (by kernel_rfl) (fun x=>by kernel_rfl)
def ψ11.sig:Sig:=⟨[.val tyR],[.val .str]⟩
def ψ11.ctr:Ctr:=⟨ψ11.sig,fun x=>ψ11.f x⟩
def ψ11.env:Env:=[(166,[ψp.ctr]),(189,[ψ1w.ctr]),(192,[ψ1s.ctr]),(193,[ψQ.ctr]),(195,[ψ1H.ctr])]
def ψ11.ann:Ann:=⟨[],[],[(5,[(.normal,[(1,.ptr tyR),(3,.val .str),(14,.val tyI),(15,.val .bool)])])]⟩
theorem ψ11.ok:φ4 Tryz.prog 168 ψ11.ctr:=fS (A:=ψ11.ann) (eC ψp.ok (eC ψ1w.ok (eC ψ1s.ok (eC ψQ.ok (eC ψ1H.ok φ5.nil))))) Tryz.func168 (by kernel_rfl) (by kernel_rfl) (fun x=>by kernel_rfl)
def ψ18.sig:Sig:=⟨[.val (.sl false tyR)],[.val tyI]⟩
def ψ18.ctr:Ctr:=⟨ψ18.sig,fun x=>ψ18.f x⟩
def ψ18.env:Env:=[(168,[ψ11.ctr]),(194,[ψ3.ctr])]
def ψ18.ann:Ann:=⟨[(0,([(3,.val .str),(6,.val (.sl false tyR)),(7,.val tyI),(8,.val tyI)],[(.exit 0,[(3,.val .str)])]))],[],[]⟩
theorem ψ18.ok:φ4 Tryz.prog 170 ψ18.ctr:=fS (A:=ψ18.ann) (eC ψ11.ok (eC ψ3.ok φ5.nil)) Tryz.func170 (by kernel_rfl) (by kernel_rfl) (fun x=>by kernel_rfl)
def ψ1U.sig:Sig:=⟨[.val tyR,.val (.sl false (.pair tyI (.pair tyI (.pair tyI tyR))))],[.val .bool]⟩
def ψ1U.ctr:Ctr:=⟨ψ1U.sig,fun x=>ψ1U.f x.1 x.2⟩
def ψ1U.env:Env:=[(170,[ψ18.ctr])]
def ψ1U.ann:Ann:=⟨[(0,([(2,.ptr tyR),(5,.val (.sl true tyR)),(8,.val (.sl false (.pair tyI (.pair tyI (.pair tyI tyR))))),(9,.val tyI),(10,.val tyI)],[(.exit 0,[(2,.ptr tyR),(5,.val (.sl true tyR))])]))],[],[]⟩
theorem ψ1U.ok:φ4 Tryz.prog 153 ψ1U.ctr:=fS (A:=ψ1U.ann) (eC ψ18.ok φ5.nil) Tryz.func153 (by kernel_rfl) (by kernel_rfl) (fun x=>by kernel_rfl)
def ψW.sig:Sig:=⟨[.val tyI,.val .str],[.val (.pair tyI (.pair tyI (.sl true tyE))),.val .bool]⟩
def ψW.ctr:Ctr:=⟨ψW.sig,fun x=>ψW.f x.1 x.2⟩
def ψW.env:Env:=[(25,[ψ1X.ctr]),(123,[ψx.ctr]),(145,[ψ1f.ctr]),(153,[ψ1U.ctr])]
def ψW.ann:Ann:=⟨[(0,([(0,.val tyI),(4,.ptr (.pair tyI (.pair tyI (.sl true tyE)))),(6,.val (.sl false (.pair tyI (.pair tyI tyR)))),(9,.ptr (.pair tyI (.pair tyI (.sl true tyE)))),(67,.val (.sl false (.pair tyI (.pair tyI tyR)))),(68,.val tyI),(69,.val tyI)],[(.exit 0,[(4,.ptr (.pair tyI (.pair tyI (.sl true tyE)))),(9,.ptr (.pair tyI (.pair tyI (.sl true tyE))))]),(.ret,[(4,.ptr (.pair tyI (.pair tyI (.sl true tyE)))),(5,.val .bool)])]))],[],[(9,[(.normal,[(0,.val tyI),(4,.ptr (.pair tyI (.pair tyI (.sl true tyE)))),(6,.val (.sl false (.pair tyI (.pair tyI tyR)))),(9,.ptr (.pair tyI (.pair tyI (.sl true tyE)))),(11,.ptr (.pair tyI (.pair tyI tyR))),(67,.val (.sl false (.pair tyI (.pair tyI tyR)))),(68,.val tyI),(69,.val tyI)]),(.ret,[(4,.ptr (.pair tyI (.pair tyI (.sl true tyE)))),(5,.val .bool)])])]⟩
theorem ψW.ok:φ4 Tryz.prog 171 ψW.ctr:=fS (A:=ψW.ann) (eC ψ1X.ok (eC ψx.ok (eC ψ1f.ok (eC ψ1U.ok φ5.nil)))) Tryz.func171 (by kernel_rfl) (by kernel_rfl) (fun x=>by kernel_rfl)
def ψw.sig:Sig:=⟨[.val (.sl false tyE),.val (.sl false tyE)],[.val .bool]⟩
def ψw.ctr:Ctr:=⟨ψw.sig,fun x=>ψw.f x.1 x.2⟩
def ψw.env:Env:=[]
def ψw.ann:Ann:=⟨[(0,([(0,.val (.sl false tyE)),(1,.val (.sl false tyE)),(12,.val tyI),(13,.val tyI)],[(.exit 0,[]),(.ret,[(4,.val .bool)])]))],[],[]⟩
theorem ψw.ok:φ4 Tryz.prog 182 ψw.ctr:=fS (A:=ψw.ann) φ5.nil Tryz.func182 (by kernel_rfl) (by kernel_rfl) (fun x=>by kernel_rfl)
def ψU.sig:Sig:=⟨[.val tyI,.val .str,.val (.pair tyI (.pair tyI (.sl false tyE)))],[.val .bool]⟩
def ψU.ctr:Ctr:=⟨ψU.sig,fun x=>ψU.f x.1 x.2.1 x.2.2⟩
def ψU.env:Env:=[(171,[ψW.ctr]),(182,[ψw.ctr])]
def ψU.ann:Ann:=⟨[],[],[]⟩
theorem ψU.ok:φ4 Tryz.prog 151 ψU.ctr:=fS (A:=ψU.ann) (eC ψW.ok (eC ψw.ok φ5.nil)) Tryz.func151 (by kernel_rfl) (by kernel_rfl) (fun x=>by kernel_rfl)
def ψ24.sig:Sig:=⟨[.ptr (.pair tyD tyI),.val tyI],[.val (.pair (.sl true tyE) (.pair tyI tyI)),.val .bool]⟩
def ψ24.ctr:Ctr:=⟨ψ24.sig,fun x=>ψ24.f x.1 x.2⟩
def ψ24.env:Env:=[(77,[ψP.ctr]),(82,[ψy.ctr]),(128,[ψV.ctr]),(150,[ψk.ctr]),(151,[ψU.ctr])]
def ψ24.ann:Ann:=⟨[],[],[]⟩
theorem ψ24.ok:φ4 Tryz.prog 111 ψ24.ctr:=fS (A:=ψ24.ann) (eC ψP.ok (eC ψy.ok (eC ψV.ok (eC ψk.ok (eC ψU.ok φ5.nil))))) Tryz.func111 (by kernel_rfl) (by kernel_rfl) (fun x=>by kernel_rfl)
def ψ1J.sig:Sig:=⟨[.val (.sl false tyE)],[.val (.sl true tyE)]⟩
def ψ1J.ctr:Ctr:=⟨ψ1J.sig,fun x=>ψ1J.f x⟩
def ψ1J.env:Env:=[]
def ψ1J.ann:Ann:=⟨[],[],[]⟩
theorem ψ1J.ok:φ4 Tryz.prog 85 ψ1J.ctr:=fS (A:=ψ1J.ann) φ5.nil Tryz.func85 (by kernel_rfl) (by kernel_rfl) (fun x=>by kernel_rfl)
def ψ1e.sig:Sig:=⟨[.val (.sl false (.pair tyI (.pair tyI (.pair tyI tyR)))),.val tyR],[.val (.sl true (.pair tyI (.pair tyI (.pair tyI tyR))))]⟩
def ψ1e.ctr:Ctr:=⟨ψ1e.sig,fun x=>ψ1e.f x.1 x.2⟩
def ψ1e.env:Env:=[]
def ψ1e.ann:Ann:=⟨[(0,([(3,.ptr tyR),(5,.val (.sl true (.pair tyI (.pair tyI (.pair tyI tyR))))),(9,.val (.sl false (.pair tyI (.pair tyI (.pair tyI tyR))))),(10,.val tyI),(11,.val tyI)],[(.exit 0,[(5,.val (.sl true (.pair tyI (.pair tyI (.pair tyI tyR)))))])]))],[],[(9,[(.normal,[(3,.ptr tyR),(5,.val (.sl true (.pair tyI (.pair tyI (.pair tyI tyR))))),(7,.ptr (.pair tyI (.pair tyI (.pair tyI tyR)))),(9,.val (.sl false (.pair tyI (.pair tyI (.pair tyI tyR))))),(10,.val tyI),(11,.val tyI),(34,.val .bool)])]),(7,[(.normal,[(3,.ptr tyR),(5,.val (.sl true (.pair tyI (.pair tyI (.pair tyI tyR))))),(9,.val (.sl false (.pair tyI (.pair tyI (.pair tyI tyR))))),(10,.val tyI),(11,.val tyI)])]),(6,[(.normal,[(3,.ptr tyR),(5,.val (.sl true (.pair tyI (.pair tyI (.pair tyI tyR))))),(9,.val (.sl false (.pair tyI (.pair tyI (.pair tyI tyR))))),(10,.val tyI),(11,.val tyI)])])]⟩
theorem ψ1e.ok:φ4 Tryz.prog 152 ψ1e.ctr:=fS (A:=ψ1e.ann) φ5.nil Tryz.func152 (by kernel_rfl) (by kernel_rfl) (fun x=>by kernel_rfl)
def ψ7.sig:Sig:=⟨[.val (.sl false tyE),.val .str],[.val (.sl true tyE)]⟩
def ψ7.ctr:Ctr:=⟨ψ7.sig,fun x=>ψ7.f x.1 x.2⟩
def ψ7.env:Env:=[]
def ψ7.ann:Ann:=⟨[(0,([(1,.val .str),(5,.val (.sl true tyE)),(8,.val (.sl false tyE)),(9,.val tyI),(10,.val tyI)],[(.exit 0,[(5,.val (.sl true tyE))])]))],[],[(5,[(.normal,[(1,.val .str),(5,.val (.sl true tyE)),(8,.val (.sl false tyE)),(9,.val tyI),(10,.val tyI)])])]⟩
theorem ψ7.ok:φ4 Tryz.prog 183 ψ7.ctr:=fS (A:=ψ7.ann) φ5.nil Tryz.func183 (by kernel_rfl) (by kernel_rfl) (fun x=>by kernel_rfl)
def ψB.sig:Sig:=⟨[.val (.sl false tyE),.val tyE],[.val (.sl true tyE)]⟩
def ψB.ctr:Ctr:=⟨ψB.sig,fun x=>ψB.f x.1 x.2⟩
def ψB.env:Env:=[(85,[ψ1J.ctr]),(183,[ψ7.ctr])]
def ψB.ann:Ann:=⟨[(0,([(3,.ptr tyE),(5,.val (.sl true tyE)),(6,.val tyI)],[(.exit 0,[(3,.ptr tyE),(5,.val (.sl true tyE)),(6,.val tyI)])]))],[],[]⟩
theorem ψB.ok:φ4 Tryz.prog 184 ψB.ctr:=fS (A:=ψB.ann) (eC ψ1J.ok (eC ψ7.ok φ5.nil)) Tryz.func184 (by kernel_rfl) (by kernel_rfl) (fun x=>by kernel_rfl)
def ψT.sig:Sig:=⟨[.ptr (.pair (.sl true tyE) (.pair tyI tyI)),.val (.sl false (.pair tyI (.pair tyI (.pair tyI tyR))))],[]⟩
def ψT.ctr:Ctr:=⟨ψT.sig,fun x=>ψT.f x.1 x.2⟩
def ψT.env:Env:=[(183,[ψ7.ctr]),(184,[ψB.ctr])]
def ψT.ann:Ann:=⟨[(0,([(0,.ptr (.pair (.sl true tyE) (.pair tyI tyI))),(6,.val (.sl false (.pair tyI (.pair tyI (.pair tyI tyR))))),(7,.val tyI),(8,.val tyI)],[(.exit 0,[(0,.ptr (.pair (.sl true tyE) (.pair tyI tyI)))])]))],[],[(3,[(.normal,[(0,.ptr (.pair (.sl true tyE) (.pair tyI tyI))),(6,.val (.sl false (.pair tyI (.pair tyI (.pair tyI tyR))))),(7,.val tyI),(8,.val tyI)])])]⟩
theorem ψT.ok:φ4 Tryz.prog 154 ψT.ctr:=fS (A:=ψT.ann) (eC ψ7.ok (eC ψB.ok φ5.nil)) Tryz.func154 (by kernel_rfl) (by kernel_rfl) (fun x=>by kernel_rfl)
def ψq.sig:Sig:=⟨[.val (.pair (.sl false tyE) (.pair tyI tyI)),.val (.sl false (.pair tyI (.pair tyI (.pair tyI tyR))))],[.val (.pair (.sl true tyE) (.pair tyI tyI))]⟩
def ψq.ctr:Ctr:=⟨ψq.sig,fun x=>ψq.f x.1 x.2⟩
def ψq.env:Env:=[(85,[ψ1J.ctr]),(152,[ψ1e.ctr]),(153,[ψ1U.ctr]),(154,[ψT.ctr])]
def ψq.ann:Ann:=⟨[(0,([(1,.val (.sl false (.pair tyI (.pair tyI (.pair tyI tyR))))),(4,.ptr (.pair (.sl true tyE) (.pair tyI tyI))),(5,.ptr (.pair (.sl true tyE) (.pair tyI tyI))),(17,.val (.sl false (.pair tyI (.pair tyI (.pair tyI tyR))))),(18,.val tyI),(19,.val tyI)],[(.exit 0,[(1,.val (.sl false (.pair tyI (.pair tyI (.pair tyI tyR))))),(4,.ptr (.pair (.sl true tyE) (.pair tyI tyI))),(5,.ptr (.pair (.sl true tyE) (.pair tyI tyI)))]),(.ret,[(4,.ptr (.pair (.sl true tyE) (.pair tyI tyI)))])]))],[(1,[(.normal,[(1,.val (.sl false (.pair tyI (.pair tyI (.pair tyI tyR))))),(4,.ptr (.pair (.sl true tyE) (.pair tyI tyI))),(5,.ptr (.pair (.sl true tyE) (.pair tyI tyI))),(17,.val (.sl false (.pair tyI (.pair tyI (.pair tyI tyR))))),(18,.val tyI),(19,.val tyI)]),(.ret,[(4,.ptr (.pair (.sl true tyE) (.pair tyI tyI)))])])],[(8,[(.normal,[(1,.val (.sl false (.pair tyI (.pair tyI (.pair tyI tyR))))),(4,.ptr (.pair (.sl true tyE) (.pair tyI tyI))),(5,.ptr (.pair (.sl true tyE) (.pair tyI tyI))),(6,.val tyI),(7,.ptr (.pair tyI (.pair tyI (.pair tyI tyR)))),(17,.val (.sl false (.pair tyI (.pair tyI (.pair tyI tyR))))),(18,.val tyI),(19,.val tyI)]),(.exit 1,[(1,.val (.sl false (.pair tyI (.pair tyI (.pair tyI tyR))))),(4,.ptr (.pair (.sl true tyE) (.pair tyI tyI))),(5,.ptr (.pair (.sl true tyE) (.pair tyI tyI))),(17,.val (.sl false (.pair tyI (.pair tyI (.pair tyI tyR))))),(18,.val tyI),(19,.val tyI)])]),(12,[(.normal,[(1,.val (.sl false (.pair tyI (.pair tyI (.pair tyI tyR))))),(4,.ptr (.pair (.sl true tyE) (.pair tyI tyI))),(5,.ptr (.pair (.sl true tyE) (.pair tyI tyI))),(17,.val (.sl false (.pair tyI (.pair tyI (.pair tyI tyR))))),(18,.val tyI),(19,.val tyI)])]),(10,[(.normal,[(1,.val (.sl false (.pair tyI (.pair tyI (.pair tyI tyR))))),(4,.ptr (.pair (.sl true tyE) (.pair tyI tyI))),(5,.ptr (.pair (.sl true tyE) (.pair tyI tyI))),(17,.val (.sl false (.pair tyI (.pair tyI (.pair tyI tyR))))),(18,.val tyI),(19,.val tyI)])])]⟩
theorem ψq.ok:φ4 Tryz.prog 112 ψq.ctr:=fS (A:=ψq.ann) (eC ψ1J.ok (eC ψ1e.ok (eC ψ1U.ok (eC ψT.ok φ5.nil)))) Tryz.func112 (by kernel_rfl) (by kernel_rfl) (fun x=>by kernel_rfl)
def ψE.sig:Sig:=⟨[.ptr tyD,.val .str],[]⟩
def ψE.ctr:Ctr:=⟨ψE.sig,fun x=>ψE.f x.1 x.2⟩
def ψE.env:Env:=[(105,[ψ1T.ctr])]
def ψE.ann:Ann:=⟨[],[],[]⟩
theorem ψE.ok:φ4 Tryz.prog 198 ψE.ctr:=fS (A:=ψE.ann) (eC ψ1T.ok φ5.nil) Tryz.func198 (by kernel_rfl) (by kernel_rfl) (fun x=>by kernel_rfl)
def ψs.sig:Sig:=⟨[.ptr tyD,.val (.box none .str)],[.val tyI]⟩
def ψs.ctr:Ctr:=⟨ψs.sig,fun x=>ψs.f x.1 x.2⟩
def ψs.env:Env:=[(105,[ψ1T.ctr]),(198,[ψE.ctr])]
def ψs.ann:Ann:=⟨[],[],[]⟩
theorem ψs.ok:φ4 Tryz.prog 197 ψs.ctr:=fS (A:=ψs.ann) (eC ψ1T.ok (eC ψE.ok φ5.nil)) Tryz.func197 (by kernel_rfl) (by kernel_rfl) (fun x=>by kernel_rfl)
def ψ1o.sig:Sig:=⟨[.val tyd,.val (.box (some 197) (.box none .str))],[.val tyD,.val tyI]⟩
def ψ1o.ctr:Ctr:=⟨ψ1o.sig,fun x=>ψ1o.f x.1 x.2⟩
def ψ1o.env:Env:=[(47,[ψD.ctr]),(53,[ψ1K.ctr]),(197,[ψs.ctr])]
def ψ1o.ann:Ann:=⟨[],[],[(7,[(.normal,[(1,.val (.box (some 197) (.box none .str))),(4,.ptr tyD),(6,.ptr tyD)])])]⟩
theorem ψ1o.ok:φ4 Tryz.prog 147 ψ1o.ctr:=fS (A:=ψ1o.ann) (eC ψD.ok (eC ψ1K.ok (eC ψs.ok φ5.nil))) Tryz.func147 (by kernel_rfl) (by kernel_rfl) (fun x=>by kernel_rfl)
def ψr.sig:Sig:=⟨[.val tyd,.val .str],[.val tyD,.val tyI]⟩
def ψr.ctr:Ctr:=⟨ψr.sig,fun x=>ψr.f x.1 x.2⟩
def ψr.env:Env:=[(147,[ψ1o.ctr])]
def ψr.ann:Ann:=⟨[],[],[]⟩
theorem ψr.ok:φ4 Tryz.prog 173 ψr.ctr:=fS (A:=ψr.ann) (eC ψ1o.ok φ5.nil) Tryz.func173 (by kernel_rfl) (by kernel_rfl) (fun x=>by kernel_rfl)
def ψ23.sig:Sig:=⟨[.ptr (.pair tyD tyI),.val .str],[]⟩
def ψ23.ctr:Ctr:=⟨ψ23.sig,fun x=>ψ23.f x.1 x.2⟩
def ψ23.env:Env:=[(105,[ψ1T.ctr]),(108,[ψ2B.ctr]),(173,[ψr.ctr])]
def ψ23.ann:Ann:=⟨[],[],[]⟩
theorem ψ23.ok:φ4 Tryz.prog 129 ψ23.ctr:=fS (A:=ψ23.ann) (eC ψ1T.ok (eC ψ2B.ok (eC ψr.ok φ5.nil))) Tryz.func129 (by kernel_rfl) (by kernel_rfl) (fun x=>by kernel_rfl)
def ψ3j.sig:Sig:=⟨[.val .str,.val .str],[.val .bool]⟩
def ψ3j.ctr:Ctr:=⟨ψ3j.sig,fun x=>ψ3j.f x.1 x.2⟩
def ψ3j.env:Env:=[]
def ψ3j.ann:Ann:=⟨[],[],[]⟩
theorem ψ3j.ok:φ4 Tryz.prog 208 ψ3j.ctr:=fS (A:=ψ3j.ann) φ5.nil Tryz.func208 (by kernel_rfl) (by kernel_rfl) (fun x=>by kernel_rfl)
def ψ3i.sig:Sig:=⟨[.val .str,.val .str],[.val .str,.val .bool]⟩
def ψ3i.ctr:Ctr:=⟨ψ3i.sig,fun x=>ψ3i.f x.1 x.2⟩
def ψ3i.env:Env:=[(208,[ψ3j.ctr])]
def ψ3i.ann:Ann:=⟨[],[],[]⟩
theorem ψ3i.ok:φ4 Tryz.prog 205 ψ3i.ctr:=fS (A:=ψ3i.ann) (eC ψ3j.ok φ5.nil) Tryz.func205 (by kernel_rfl) (by kernel_rfl) (fun x=>by kernel_rfl)
def ψ3h.sig:Sig:=⟨[.val .str,.val .str],[.val .str,.val .bool]⟩
def ψ3h.ctr:Ctr:=⟨ψ3h.sig,fun x=>ψ3h.f x.1 x.2⟩
def ψ3h.env:Env:=[(205,[ψ3i.ctr])]
def ψ3h.ann:Ann:=⟨[],[],[]⟩
theorem ψ3h.ok:φ4 Tryz.prog 200 ψ3h.ctr:=fS (A:=ψ3h.ann) (eC ψ3i.ok φ5.nil) Tryz.func200 (by kernel_rfl) (by kernel_rfl) (fun x=>by kernel_rfl)
def strconv_Atoi.ctr:Ctr:=φ4r
theorem strconv_Atoi.ok:φ4 Tryz.prog 206 strconv_Atoi.ctr:=φOA Tryz.func206 (by kernel_rfl) (by kernel_rfl) (fun s h v hv w _=>Tryz.strconv_Atoi_ok s h v hv w)
 (fun s h hv w hL=>by obtain ⟨ev,h1,h2⟩:=hL.2.1;exact (Tryz.strconv_Atoi_syntax s h hv ev w h1 h2).mono fun e w' ⟨N,he,_,_,hB⟩=>⟨N,he,hB⟩)
 (fun s h hv w hL=>by obtain ⟨ev,h1,h2⟩:=hL.2.2;exact (Tryz.strconv_Atoi_range s h hv ev w h1 h2).mono fun e w' ⟨N,he,_,_,hB⟩=>⟨N,he,hB⟩)
def ψi.sig:Sig:=⟨[.val .str],[.val tyI,.val .bool]⟩
def ψi.ctr:Ctr:=⟨ψi.sig,fun x=>ψi.f x⟩
def ψi.env:Env:=[(25,[ψ1X.ctr]),(160,[ψ6.ctr]),(206,[strconv_Atoi.ctr])]
def ψi.ann:Ann:=⟨[],[],[]⟩
theorem ψi.ok:φ4 Tryz.prog 201 ψi.ctr:=fS (A:=ψi.ann) (eC ψ1X.ok (eC ψ6.ok (eC strconv_Atoi.ok φ5.nil))) Tryz.func201 (by kernel_rfl) (by kernel_rfl) (fun x=>by kernel_rfl)
def ψX.sig:Sig:=⟨[.val .str],[.val tyI,.val .bool]⟩
def ψX.ctr:Ctr:=⟨ψX.sig,fun x=>ψX.f x⟩
def ψX.env:Env:=[(25,[ψ1X.ctr]),(200,[ψ3h.ctr]),(201,[ψi.ctr])]
def ψX.ann:Ann:=⟨[],[],[(2,[(.normal,[(4,.val .str),(5,.val .bool)])])]⟩
theorem ψX.ok:φ4 Tryz.prog 185 ψX.ctr:=fS (A:=ψX.ann) (eC ψ1X.ok (eC ψ3h.ok (eC ψi.ok φ5.nil))) Tryz.func185 (by kernel_rfl) (by kernel_rfl) (fun x=>by kernel_rfl)
def ψ1V.sig:Sig:=⟨[.val (.sl false tyI),.val tyI],[.val .bool]⟩
def ψ1V.ctr:Ctr:=⟨ψ1V.sig,fun x=>ψ1V.f x.1 x.2⟩
def ψ1V.env:Env:=[]
def ψ1V.ann:Ann:=⟨[(0,([(1,.val tyI),(7,.val (.sl false tyI)),(8,.val tyI),(9,.val tyI)],[(.exit 0,[]),(.ret,[(4,.val .bool)])]))],[],[]⟩
theorem ψ1V.ok:φ4 Tryz.prog 186 ψ1V.ctr:=fS (A:=ψ1V.ann) φ5.nil Tryz.func186 (by kernel_rfl) (by kernel_rfl) (fun x=>by kernel_rfl)
def ψe.sig:Sig:=⟨[.val tyd,.val (.pair tyI (.sl false tyI))],[.val (.sl true .str)]⟩
def ψe.ctr:Ctr:=⟨ψe.sig,fun x=>ψe.f x.1 x.2⟩
def ψe.env:Env:=[(47,[ψD.ctr]),(185,[ψX.ctr]),(186,[ψ1V.ctr])]
def ψe.ann:Ann:=⟨[(0,([(3,.ptr (.pair tyI (.sl false tyI))),(5,.val (.sl true .str)),(14,.val (.sl false tyF)),(15,.val tyI),(16,.val tyI)],[(.exit 0,[(5,.val (.sl true .str))])]))],[],[(8,[(.normal,[(3,.ptr (.pair tyI (.sl false tyI))),(5,.val (.sl true .str)),(14,.val (.sl false tyF)),(15,.val tyI),(16,.val tyI)])])]⟩
theorem ψe.ok:φ4 Tryz.prog 155 ψe.ctr:=fS (A:=ψe.ann) (eC ψD.ok (eC ψX.ok (eC ψ1V.ok φ5.nil))) Tryz.func155 (by kernel_rfl) (by kernel_rfl) (fun x=>by kernel_rfl)
def ψ25.sig:Sig:=⟨[.ptr (.pair tyD tyI),.val (.pair tyI (.sl false tyI))],[]⟩
def ψ25.ctr:Ctr:=⟨ψ25.sig,fun x=>ψ25.f x.1 x.2⟩
def ψ25.env:Env:=[(129,[ψ23.ctr]),(155,[ψe.ctr])]
def ψ25.ann:Ann:=⟨[(0,([(0,.ptr (.pair tyD tyI)),(11,.val (.sl true .str)),(12,.val tyI),(13,.val tyI)],[(.exit 0,[(0,.ptr (.pair tyD tyI))])]))],[],[]⟩
theorem ψ25.ok:φ4 Tryz.prog 113 ψ25.ctr:=fS (A:=ψ25.ann) (eC ψ23.ok (eC ψe.ok φ5.nil)) Tryz.func113 (by kernel_rfl) (by kernel_rfl) (fun x=>by kernel_rfl)
def ψ22.sig:Sig:=⟨[.ptr (.pair tyD tyI),.val .str],[.val tyS]⟩
def ψ22.ctr:Ctr:=⟨ψ22.sig,fun x=>ψ22.f x.1 x.2⟩
def ψ22.env:Env:=[(77,[ψP.ctr]),(82,[ψy.ctr]),(106,[ψl.ctr]),(107,[ψ29.ctr]),(108,[ψ2B.ctr]),(109,[ψ1B.ctr]),(110,[ψ2A.ctr]),(111,[ψ24.ctr]),(112,[ψq.ctr]),(113,[ψ25.ctr])]
def ψ22.ann:Ann:=⟨[(0,([(0,.ptr (.pair tyD tyI)),(4,.ptr tyS),(5,.ptw (.pair tyI (.sl true tyI))),(13,.ptr tyS),(14,.ptr (.pair (.sl true tyE) (.pair tyI tyI))),(16,.val (.sl true (.pair tyI (.pair tyI (.pair tyI tyR))))),(103,.val (.sl false (.sl false (.pair tyI (.pair tyI (.pair tyI tyR)))))),(104,.val tyI),(105,.val tyI),(5,.lnk 1 13 1)],[(.exit 0,[(0,.ptr (.pair tyD tyI)),(4,.ptr tyS),(5,.ptw (.pair tyI (.sl true tyI))),(13,.ptr tyS),(14,.ptr (.pair (.sl true tyE) (.pair tyI tyI))),(16,.val (.sl true (.pair tyI (.pair tyI (.pair tyI tyR))))),(5,.lnk 1 13 1)])]))],[],[(8,[(.normal,[(0,.ptr (.pair tyD tyI)),(4,.ptr tyS),(5,.ptr (.pair tyI (.sl true tyI))),(7,.val (.sl true (.sl true (.pair tyI (.pair tyI (.pair tyI tyR)))))),(8,.val tyI),(10,.val .str)])]),(15,[(.normal,[(0,.ptr (.pair tyD tyI)),(4,.ptr tyS),(5,.ptw (.pair tyI (.sl true tyI))),(7,.val (.sl false (.sl false (.pair tyI (.pair tyI (.pair tyI tyR)))))),(13,.ptr tyS),(14,.ptr (.pair (.sl true tyE) (.pair tyI tyI))),(5,.lnk 1 13 1)])])]⟩
theorem ψ22.ok:φ4 Tryz.prog 78 ψ22.ctr:=fS (A:=ψ22.ann) (eC ψP.ok (eC ψy.ok (eC ψl.ok (eC ψ29.ok (eC ψ2B.ok (eC ψ1B.ok (eC ψ2A.ok (eC ψ24.ok (eC ψq.ok (eC ψ25.ok φ5.nil)))))))))) Tryz.func78 (by kernel_rfl) (by kernel_rfl) (fun x=>by kernel_rfl)
def ψF.sig:Sig:=⟨[.ptr tyD,.val tyF],[]⟩
def ψF.ctr:Ctr:=⟨ψF.sig,fun x=>ψF.f x.1 x.2⟩
def ψF.env:Env:=[]
def ψF.ann:Ann:=⟨[(0,([(0,.ptr tyD),(3,.ptr tyF),(4,.val tyI)],[(.exit 0,[(0,.ptr tyD),(3,.ptr tyF),(4,.val tyI)])]))],[],[]⟩
theorem ψF.ok:φ4 Tryz.prog 188 ψF.ctr:=fS (A:=ψF.ann) φ5.nil Tryz.func188 (by kernel_rfl) (by kernel_rfl) (fun x=>by kernel_rfl)
def ψ5.sig:Sig:=⟨[.ptr tyD,.val (.box none .str)],[.val tyI]⟩
def ψ5.ctr:Ctr:=⟨ψ5.sig,fun x=>ψ5.f x.1 x.2⟩
def ψ5.env:Env:=[(66,[ψb.ctr]),(105,[ψ1T.ctr]),(188,[ψF.ctr])]
def ψ5.ann:Ann:=⟨[],[],[]⟩
theorem ψ5.ok:φ4 Tryz.prog 187 ψ5.ctr:=fS (A:=ψ5.ann) (eC ψb.ok (eC ψ1T.ok (eC ψF.ok φ5.nil))) Tryz.func187 (by kernel_rfl) (by kernel_rfl) (fun x=>by kernel_rfl)
def ψ1n.sig:Sig:=⟨[.val tyd,.val (.box (some 187) (.box none .str))],[.val tyD,.val tyI]⟩
def ψ1n.ctr:Ctr:=⟨ψ1n.sig,fun x=>ψ1n.f x.1 x.2⟩
def ψ1n.env:Env:=[(47,[ψD.ctr]),(53,[ψ1K.ctr]),(187,[ψ5.ctr])]
def ψ1n.ann:Ann:=⟨[],[],[(7,[(.normal,[(1,.val (.box (some 187) (.box none .str))),(4,.ptr tyD),(6,.ptr tyD)])])]⟩
theorem ψ1n.ok:φ4 Tryz.prog 147 ψ1n.ctr:=fS (A:=ψ1n.ann) (eC ψD.ok (eC ψ1K.ok (eC ψ5.ok φ5.nil))) Tryz.func147 (by kernel_rfl) (by kernel_rfl) (fun x=>by kernel_rfl)
def ψ4.sig:Sig:=⟨[.val tyd,.val .str],[.val tyD,.val tyI]⟩
def ψ4.ctr:Ctr:=⟨ψ4.sig,fun x=>ψ4.f x.1 x.2⟩
def ψ4.env:Env:=[(147,[ψ1n.ctr])]
def ψ4.ann:Ann:=⟨[],[],[]⟩
theorem ψ4.ok:φ4 Tryz.prog 156 ψ4.ctr:=fS (A:=ψ4.ann) (eC ψ1n.ok φ5.nil) Tryz.func156 (by kernel_rfl) (by kernel_rfl) (fun x=>by kernel_rfl)
def ψ1z.sig:Sig:=⟨[.ptr (.pair tyD tyI),.val .str],[]⟩
def ψ1z.ctr:Ctr:=⟨ψ1z.sig,fun x=>ψ1z.f x.1 x.2⟩
def ψ1z.env:Env:=[(108,[ψ2B.ctr]),(156,[ψ4.ctr])]
def ψ1z.ann:Ann:=⟨[],[],[]⟩
theorem ψ1z.ok:φ4 Tryz.prog 114 ψ1z.ctr:=fS (A:=ψ1z.ann) (eC ψ2B.ok (eC ψ4.ok φ5.nil)) Tryz.func114 (by kernel_rfl) (by kernel_rfl) (fun x=>by kernel_rfl)
def ψ1x.sig:Sig:=⟨[.ptr (.pair tyD tyI),.val .str],[]⟩
def ψ1x.ctr:Ctr:=⟨ψ1x.sig,fun x=>ψ1x.f x.1 x.2⟩
def ψ1x.env:Env:=[(114,[ψ1z.ctr]),(129,[ψ23.ctr])]
def ψ1x.ann:Ann:=⟨[],[],[]⟩
theorem ψ1x.ok:φ4 Tryz.prog 167 ψ1x.ctr:=fS (A:=ψ1x.ann) (eC ψ1z.ok (eC ψ23.ok φ5.nil)) Tryz.func167 (by kernel_rfl) (by kernel_rfl) (fun x=>by kernel_rfl)
def ψ1v.sig:Sig:=⟨[.val tyd],[.val tyI]⟩
def ψ1v.ctr:Ctr:=⟨ψ1v.sig,fun x=>ψ1v.f x⟩
def ψ1v.env:Env:=[]
def ψ1v.ann:Ann:=⟨[(0,([(3,.val tyI),(7,.val (.sl false tyF)),(8,.val tyI),(9,.val tyI)],[(.exit 0,[(3,.val tyI)])]))],[],[]⟩
theorem ψ1v.ok:φ4 Tryz.prog 48 ψ1v.ctr:=fS (A:=ψ1v.ann) φ5.nil Tryz.func48 (by kernel_rfl) (by kernel_rfl) (fun x=>by kernel_rfl)
def ψ1.sig:Sig:=⟨[.ptr tyD,.val (.box none .str),.val (.box none .str)],[.val tyI]⟩
def ψ1.ctr:Ctr:=⟨ψ1.sig,fun x=>ψ1.f x.1 x.2.1 x.2.2⟩
def ψ1.env:Env:=[(48,[ψ1v.ctr]),(105,[ψ1T.ctr])]
def ψ1.ann:Ann:=⟨[],[],[]⟩
theorem ψ1.ok:φ4 Tryz.prog 204 ψ1.ctr:=fS (A:=ψ1.ann) (eC ψ1v.ok (eC ψ1T.ok φ5.nil)) Tryz.func204 (by kernel_rfl) (by kernel_rfl) (fun x=>by kernel_rfl)
def ψ1m.sig:Sig:=⟨[.val tyd,.val (.box (some 204) (.pair (.box none .str) (.box none .str)))],[.val tyD,.val tyI]⟩
def ψ1m.ctr:Ctr:=⟨ψ1m.sig,fun x=>ψ1m.f x.1 x.2⟩
def ψ1m.env:Env:=[(47,[ψD.ctr]),(53,[ψ1K.ctr]),(204,[ψ1.ctr])]
def ψ1m.ann:Ann:=⟨[],[],[(7,[(.normal,[(1,.val (.box (some 204) (.pair (.box none .str) (.box none .str)))),(4,.ptr tyD),(6,.ptr tyD)])])]⟩
theorem ψ1m.ok:φ4 Tryz.prog 147 ψ1m.ctr:=fS (A:=ψ1m.ann) (eC ψD.ok (eC ψ1K.ok (eC ψ1.ok φ5.nil))) Tryz.func147 (by kernel_rfl) (by kernel_rfl) (fun x=>by kernel_rfl)
def ψ0.sig:Sig:=⟨[.val tyd,.val .str,.val .str],[.val tyD,.val tyI]⟩
def ψ0.ctr:Ctr:=⟨ψ0.sig,fun x=>ψ0.f x.1 x.2.1 x.2.2⟩
def ψ0.env:Env:=[(147,[ψ1m.ctr])]
def ψ0.ann:Ann:=⟨[],[],[]⟩
theorem ψ0.ok:φ4 Tryz.prog 196 ψ0.ctr:=fS (A:=ψ0.ann) (eC ψ1m.ok φ5.nil) Tryz.func196 (by kernel_rfl) (by kernel_rfl) (fun x=>by kernel_rfl)
def ψ26.sig:Sig:=⟨[.ptr (.pair tyD tyI),.val .str,.val .str],[]⟩
def ψ26.ctr:Ctr:=⟨ψ26.sig,fun x=>ψ26.f x.1 x.2.1 x.2.2⟩
def ψ26.env:Env:=[(108,[ψ2B.ctr]),(196,[ψ0.ctr])]
def ψ26.ann:Ann:=⟨[],[],[]⟩
theorem ψ26.ok:φ4 Tryz.prog 169 ψ26.ctr:=fS (A:=ψ26.ann) (eC ψ2B.ok (eC ψ0.ok φ5.nil)) Tryz.func169 (by kernel_rfl) (by kernel_rfl) (fun x=>by kernel_rfl)
def ψ20.sig:Sig:=⟨[.ptr (.pair tyD tyI),.val .str,.val .str],[]⟩
def ψ20.ctr:Ctr:=⟨ψ20.sig,fun x=>ψ20.f x.1 x.2.1 x.2.2⟩
def ψ20.env:Env:=[(110,[ψ2A.ctr]),(167,[ψ1x.ctr]),(169,[ψ26.ctr])]
def ψ20.ann:Ann:=⟨[],[],[]⟩
theorem ψ20.ok:φ4 Tryz.prog 157 ψ20.ctr:=fS (A:=ψ20.ann) (eC ψ2A.ok (eC ψ1x.ok (eC ψ26.ok φ5.nil))) Tryz.func157 (by kernel_rfl) (by kernel_rfl) (fun x=>by kernel_rfl)
def ψ10.sig:Sig:=⟨[.val (.pair tyI (.sl false tyI))],[.val .str]⟩
def ψ10.ctr:Ctr:=⟨ψ10.sig,fun x=>ψ10.f x⟩
def ψ10.env:Env:=[(121,[ψZ.ctr]),(162,[ψR.ctr]),(189,[ψ1w.ctr])]
def ψ10.ann:Ann:=⟨[],[],[]⟩
theorem ψ10.ok:φ4 Tryz.prog 158 ψ10.ctr:=fS (A:=ψ10.ann) (eC ψZ.ok (eC ψR.ok (eC ψ1w.ok φ5.nil))) Tryz.func158 (by kernel_rfl) (by kernel_rfl) (fun x=>by kernel_rfl)
def ψu.sig:Sig:=⟨[.ptr tyD,.val (.box none .str),.val (.box none .str)],[.val tyI]⟩
def ψu.ctr:Ctr:=⟨ψu.sig,fun x=>ψu.f x.1 x.2.1 x.2.2⟩
def ψu.env:Env:=[(66,[ψb.ctr]),(105,[ψ1T.ctr]),(188,[ψF.ctr]),(198,[ψE.ctr])]
def ψu.ann:Ann:=⟨[],[],[]⟩
theorem ψu.ok:φ4 Tryz.prog 202 ψu.ctr:=fS (A:=ψu.ann) (eC ψb.ok (eC ψ1T.ok (eC ψF.ok (eC ψE.ok φ5.nil)))) Tryz.func202 (by kernel_rfl) (by kernel_rfl) (fun x=>by kernel_rfl)
def ψ1p.sig:Sig:=⟨[.val tyd,.val (.box (some 202) (.pair (.box none .str) (.box none .str)))],[.val tyD,.val tyI]⟩
def ψ1p.ctr:Ctr:=⟨ψ1p.sig,fun x=>ψ1p.f x.1 x.2⟩
def ψ1p.env:Env:=[(47,[ψD.ctr]),(53,[ψ1K.ctr]),(202,[ψu.ctr])]
def ψ1p.ann:Ann:=⟨[],[],[(7,[(.normal,[(1,.val (.box (some 202) (.pair (.box none .str) (.box none .str)))),(4,.ptr tyD),(6,.ptr tyD)])])]⟩
theorem ψ1p.ok:φ4 Tryz.prog 147 ψ1p.ctr:=fS (A:=ψ1p.ann) (eC ψD.ok (eC ψ1K.ok (eC ψu.ok φ5.nil))) Tryz.func147 (by kernel_rfl) (by kernel_rfl) (fun x=>by kernel_rfl)
def ψt.sig:Sig:=⟨[.val tyd,.val .str,.val .str],[.val tyD,.val tyI]⟩
def ψt.ctr:Ctr:=⟨ψt.sig,fun x=>ψt.f x.1 x.2.1 x.2.2⟩
def ψt.env:Env:=[(147,[ψ1p.ctr])]
def ψt.ann:Ann:=⟨[],[],[]⟩
theorem ψt.ok:φ4 Tryz.prog 190 ψt.ctr:=fS (A:=ψt.ann) (eC ψ1p.ok φ5.nil) Tryz.func190 (by kernel_rfl) (by kernel_rfl) (fun x=>by kernel_rfl)
def ψ28.sig:Sig:=⟨[.ptr (.pair tyD tyI),.val .str,.val .str],[]⟩
def ψ28.ctr:Ctr:=⟨ψ28.sig,fun x=>ψ28.f x.1 x.2.1 x.2.2⟩
def ψ28.env:Env:=[(108,[ψ2B.ctr]),(190,[ψt.ctr])]
def ψ28.ann:Ann:=⟨[],[],[]⟩
theorem ψ28.ok:φ4 Tryz.prog 159 ψ28.ctr:=fS (A:=ψ28.ann) (eC ψ2B.ok (eC ψt.ok φ5.nil)) Tryz.func159 (by kernel_rfl) (by kernel_rfl) (fun x=>by kernel_rfl)
def ψ27.sig:Sig:=⟨[.ptr (.pair tyD tyI),.val (.pair tyI (.sl false tyI))],[]⟩
def ψ27.ctr:Ctr:=⟨ψ27.sig,fun x=>ψ27.f x.1 x.2⟩
def ψ27.env:Env:=[(157,[ψ20.ctr]),(158,[ψ10.ctr]),(159,[ψ28.ctr])]
def ψ27.ann:Ann:=⟨[],[],[]⟩
theorem ψ27.ok:φ4 Tryz.prog 115 ψ27.ctr:=fS (A:=ψ27.ann) (eC ψ20.ok (eC ψ10.ok (eC ψ28.ok φ5.nil))) Tryz.func115 (by kernel_rfl) (by kernel_rfl) (fun x=>by kernel_rfl)
def ψ21.sig:Sig:=⟨[.ptr (.pair tyD tyI)],[.val tyS]⟩
def ψ21.ctr:Ctr:=⟨ψ21.sig,fun x=>ψ21.f x⟩
def ψ21.env:Env:=[(82,[ψy.ctr]),(113,[ψ25.ctr]),(114,[ψ1z.ctr]),(115,[ψ27.ctr])]
def ψ21.ann:Ann:=⟨[],[],[]⟩
theorem ψ21.ok:φ4 Tryz.prog 79 ψ21.ctr:=fS (A:=ψ21.ann) (eC ψy.ok (eC ψ25.ok (eC ψ1z.ok (eC ψ27.ok φ5.nil)))) Tryz.func79 (by kernel_rfl) (by kernel_rfl) (fun x=>by kernel_rfl)
def ψd.sig:Sig:=⟨[.val tyd],[.val tyS,.val tyD,.val tyI]⟩
def ψd.ctr:Ctr:=⟨ψd.sig,fun x=>ψd.f x⟩
def ψd.env:Env:=[(47,[ψD.ctr]),(53,[ψ1K.ctr]),(77,[ψP.ctr]),(78,[ψ22.ctr]),(79,[ψ21.ctr])]
def ψd.ann:Ann:=⟨[],[],[(8,[(.normal,[(2,.ptr tyS),(3,.ptr tyD),(5,.ptr (.pair tyD tyI)),(6,.ptr tyS)])])]⟩
theorem ψd.ok:φ4 Tryz.prog 52 ψd.ctr:=fS (A:=ψd.ann) (eC ψD.ok (eC ψ1K.ok (eC ψP.ok (eC ψ22.ok (eC ψ21.ok φ5.nil))))) Tryz.func52 (by kernel_rfl) (by kernel_rfl) (fun x=>by kernel_rfl)
def ψI.sig:Sig:=⟨[.val tyd],[.val (.pair .bool (.pair tyS (.pair tyD (.sl true (.pair .bool (.pair (.sl false (.pair .str tyI)) (.sl false tyP))))))),.val tyI]⟩
def ψI.ctr:Ctr:=⟨ψI.sig,fun x=>ψI.f x⟩
def ψI.env:Env:=[(52,[ψd.ctr])]
def ψI.ann:Ann:=⟨[],[],[]⟩
theorem ψI.ok:φ4 Tryz.prog 26 ψI.ctr:=fS (A:=ψI.ann) (eC ψd.ok φ5.nil) Tryz.func26 (by kernel_rfl) (by kernel_rfl) (fun x=>by kernel_rfl)
def ψ1I.sig:Sig:=⟨[.val tyd,.val tyI],[.val tyD]⟩
def ψ1I.ctr:Ctr:=⟨ψ1I.sig,fun x=>ψ1I.f x.1 x.2⟩
def ψ1I.env:Env:=[(25,[ψ1X.ctr]),(47,[ψD.ctr]),(53,[ψ1K.ctr])]
def ψ1I.ann:Ann:=⟨[],[],[]⟩
theorem ψ1I.ok:φ4 Tryz.prog 27 ψ1I.ctr:=fS (A:=ψ1I.ann) (eC ψ1X.ok (eC ψD.ok (eC ψ1K.ok φ5.nil))) Tryz.func27 (by kernel_rfl) (by kernel_rfl) (fun x=>by kernel_rfl)
def ψC.sig:Sig:=⟨[.val tyI],[.val tyD]⟩
def ψC.ctr:Ctr:=⟨ψC.sig,fun x=>ψC.f x⟩
def ψC.env:Env:=[(25,[ψ1X.ctr])]
def ψC.ann:Ann:=⟨[],[],[]⟩
theorem ψC.ok:φ4 Tryz.prog 28 ψC.ctr:=fS (A:=ψC.ann) (eC ψ1X.ok φ5.nil) Tryz.func28 (by kernel_rfl) (by kernel_rfl) (fun x=>by kernel_rfl)
def ψ1M.sig:Sig:=⟨[.val (.pair tyI (.sl false tyI))],[.val (.pair tyI (.sl true tyI))]⟩
def ψ1M.ctr:Ctr:=⟨ψ1M.sig,fun x=>ψ1M.f x⟩
def ψ1M.env:Env:=[]
def ψ1M.ann:Ann:=⟨[],[],[]⟩
theorem ψ1M.ok:φ4 Tryz.prog 84 ψ1M.ctr:=fS (A:=ψ1M.ann) φ5.nil Tryz.func84 (by kernel_rfl) (by kernel_rfl) (fun x=>by kernel_rfl)
def ψ1O.sig:Sig:=⟨[.val tys],[.val tyS]⟩
def ψ1O.ctr:Ctr:=⟨ψ1O.sig,fun x=>ψ1O.f x⟩
def ψ1O.env:Env:=[(84,[ψ1M.ctr]),(85,[ψ1J.ctr])]
def ψ1O.ann:Ann:=⟨[],[],[]⟩
theorem ψ1O.ok:φ4 Tryz.prog 58 ψ1O.ctr:=fS (A:=ψ1O.ann) (eC ψ1M.ok (eC ψ1J.ok φ5.nil)) Tryz.func58 (by kernel_rfl) (by kernel_rfl) (fun x=>by kernel_rfl)
def ψ1N.sig:Sig:=⟨[.val (.sl false tyP)],[.val (.sl true tyP)]⟩
def ψ1N.ctr:Ctr:=⟨ψ1N.sig,fun x=>ψ1N.f x⟩
def ψ1N.env:Env:=[]
def ψ1N.ann:Ann:=⟨[],[],[]⟩
theorem ψ1N.ok:φ4 Tryz.prog 120 ψ1N.ctr:=fS (A:=ψ1N.ann) φ5.nil Tryz.func120 (by kernel_rfl) (by kernel_rfl) (fun x=>by kernel_rfl)
def ψ1P.sig:Sig:=⟨[.val (.pair .bool (.pair (.sl false (.pair .str tyI)) (.sl false tyP)))],[.val (.pair .bool (.pair (.sl true (.pair .str tyI)) (.sl true tyP)))]⟩
def ψ1P.ctr:Ctr:=⟨ψ1P.sig,fun x=>ψ1P.f x⟩
def ψ1P.env:Env:=[(120,[ψ1N.ctr])]
def ψ1P.ann:Ann:=⟨[],[],[]⟩
theorem ψ1P.ok:φ4 Tryz.prog 86 ψ1P.ctr:=fS (A:=ψ1P.ann) (eC ψ1N.ok φ5.nil) Tryz.func86 (by kernel_rfl) (by kernel_rfl) (fun x=>by kernel_rfl)
def ψ1Q.sig:Sig:=⟨[.val (.sl false (.pair .bool (.pair (.sl false (.pair .str tyI)) (.sl false tyP))))],[.val (.sl true (.pair .bool (.pair (.sl false (.pair .str tyI)) (.sl false tyP))))]⟩
def ψ1Q.ctr:Ctr:=⟨ψ1Q.sig,fun x=>ψ1Q.f x⟩
def ψ1Q.env:Env:=[(86,[ψ1P.ctr])]
def ψ1Q.ann:Ann:=⟨[(0,([(3,.val (.sl true (.pair .bool (.pair (.sl false (.pair .str tyI)) (.sl false tyP))))),(6,.val (.sl false (.pair .bool (.pair (.sl false (.pair .str tyI)) (.sl false tyP))))),(7,.val tyI),(8,.val tyI)],[(.exit 0,[(3,.val (.sl true (.pair .bool (.pair (.sl false (.pair .str tyI)) (.sl false tyP)))))])]))],[],[]⟩
theorem ψ1Q.ok:φ4 Tryz.prog 59 ψ1Q.ctr:=fS (A:=ψ1Q.ann) (eC ψ1P.ok φ5.nil) Tryz.func59 (by kernel_rfl) (by kernel_rfl) (fun x=>by kernel_rfl)
def ψ1L.sig:Sig:=⟨[.val (.pair .bool (.pair tys (.pair tyd (.sl false (.pair .bool (.pair (.sl false (.pair .str tyI)) (.sl false tyP)))))))],[.val (.pair .bool (.pair tyS (.pair tyD (.sl true (.pair .bool (.pair (.sl false (.pair .str tyI)) (.sl false tyP)))))))]⟩
def ψ1L.ctr:Ctr:=⟨ψ1L.sig,fun x=>ψ1L.f x⟩
def ψ1L.env:Env:=[(53,[ψ1K.ctr]),(58,[ψ1O.ctr]),(59,[ψ1Q.ctr])]
def ψ1L.ann:Ann:=⟨[],[],[]⟩
theorem ψ1L.ok:φ4 Tryz.prog 36 ψ1L.ctr:=fS (A:=ψ1L.ann) (eC ψ1K.ok (eC ψ1O.ok (eC ψ1Q.ok φ5.nil))) Tryz.func36 (by kernel_rfl) (by kernel_rfl) (fun x=>by kernel_rfl)
def ψ9.sig:Sig:=⟨[.val (.sl false tyE)],[.val (.sl true .str)]⟩
def ψ9.ctr:Ctr:=⟨ψ9.sig,fun x=>ψ9.f x⟩
def ψ9.env:Env:=[]
def ψ9.ann:Ann:=⟨[(0,([(3,.val (.sl true .str)),(6,.val (.sl false tyE)),(7,.val tyI),(8,.val tyI)],[(.exit 0,[(3,.val (.sl true .str))])]))],[],[]⟩
theorem ψ9.ok:φ4 Tryz.prog 55 ψ9.ctr:=fS (A:=ψ9.ann) φ5.nil Tryz.func55 (by kernel_rfl) (by kernel_rfl) (fun x=>by kernel_rfl)
def ψ8.sig:Sig:=⟨[.val (.sl false tyE),.val .str],[.val tyE,.val .bool]⟩
def ψ8.ctr:Ctr:=⟨ψ8.sig,fun x=>ψ8.f x.1 x.2⟩
def ψ8.env:Env:=[]
def ψ8.ann:Ann:=⟨[(0,([(1,.val .str),(4,.ptr tyE),(8,.val (.sl false tyE)),(9,.val tyI),(10,.val tyI)],[(.exit 0,[(4,.ptr tyE)]),(.ret,[(4,.ptr tyE),(5,.val .bool)])]))],[],[]⟩
theorem ψ8.ok:φ4 Tryz.prog 81 ψ8.ctr:=fS (A:=ψ8.ann) φ5.nil Tryz.func81 (by kernel_rfl) (by kernel_rfl) (fun x=>by kernel_rfl)
def ψo.sig:Sig:=⟨[.val .str,.val tyI,.val tyI],[.val tyR,.val .bool]⟩
def ψo.ctr:Ctr:=⟨ψo.sig,fun x=>ψo.f x.1 x.2.1 x.2.2⟩
def ψo.env:Env:=[(25,[ψ1X.ctr]),(118,[ψ1F.ctr]),(119,[ψm.ctr])]
def ψo.ann:Ann:=⟨[],[],[]⟩
theorem ψo.ok:φ4 Tryz.prog 83 ψo.ctr:=fS (A:=ψo.ann) (eC ψ1X.ok (eC ψ1F.ok (eC ψm.ok φ5.nil))) Tryz.func83 (by kernel_rfl) (by kernel_rfl) (fun x=>by kernel_rfl)
def ψS.sig:Sig:=⟨[.val tys,.val tyd,.val .str],[.val tyF,.val tyI]⟩
def ψS.ctr:Ctr:=⟨ψS.sig,fun x=>ψS.f x.1 x.2.1 x.2.2⟩
def ψS.env:Env:=[(77,[ψP.ctr]),(81,[ψ8.ctr]),(82,[ψy.ctr]),(83,[ψo.ctr])]
def ψS.ann:Ann:=⟨[],[],[]⟩
theorem ψS.ok:φ4 Tryz.prog 56 ψS.ctr:=fS (A:=ψS.ann) (eC ψP.ok (eC ψ8.ok (eC ψy.ok (eC ψo.ok φ5.nil)))) Tryz.func56 (by kernel_rfl) (by kernel_rfl) (fun x=>by kernel_rfl)
def ψG.sig:Sig:=⟨[.val tys,.val tyd],[.val (.sl true tyF),.val tyI]⟩
def ψG.ctr:Ctr:=⟨ψG.sig,fun x=>ψG.f x.1 x.2⟩
def ψG.env:Env:=[(55,[ψ9.ctr]),(56,[ψS.ctr])]
def ψG.ann:Ann:=⟨[(0,([(2,.ptr tys),(3,.ptr tyd),(6,.val (.sl true tyF)),(13,.val (.sl true .str)),(14,.val tyI),(15,.val tyI)],[(.exit 0,[(6,.val (.sl true tyF))]),(.ret,[(4,.val (.sl true tyF)),(5,.val tyI)])]))],[],[]⟩
theorem ψG.ok:φ4 Tryz.prog 30 ψG.ctr:=fS (A:=ψG.ann) (eC ψ9.ok (eC ψS.ok φ5.nil)) Tryz.func30 (by kernel_rfl) (by kernel_rfl) (fun x=>by kernel_rfl)
def ψ12.sig:Sig:=⟨[.val tys,.val tyd],[.val .bool]⟩
def ψ12.ctr:Ctr:=⟨ψ12.sig,fun x=>ψ12.f x.1 x.2⟩
def ψ12.env:Env:=[(25,[ψ1X.ctr]),(47,[ψD.ctr]),(77,[ψP.ctr]),(82,[ψy.ctr]),(83,[ψo.ctr]),(121,[ψZ.ctr]),(122,[ψA.ctr]),(123,[ψx.ctr])]
def ψ12.ann:Ann:=⟨[(0,([(2,.ptr tys),(3,.ptr tyd),(40,.val (.sl false tyI)),(41,.val tyI),(42,.val tyI)],[(.exit 0,[(2,.ptr tys),(3,.ptr tyd)]),(.ret,[(4,.val .bool)])])),(2,([(2,.ptr tys),(3,.ptr tyd),(84,.val (.sl false tyE)),(85,.val tyI),(86,.val tyI)],[(.exit 2,[]),(.ret,[(4,.val .bool)])]))],[],[(8,[(.normal,[(2,.ptr tys),(3,.ptr tyd),(40,.val (.sl false tyI)),(41,.val tyI),(42,.val tyI)]),(.ret,[(4,.val .bool)])]),(16,[(.normal,[(2,.ptr tys),(3,.ptr tyd),(84,.val (.sl false tyE)),(85,.val tyI),(86,.val tyI)]),(.ret,[(4,.val .bool)])])]⟩
theorem ψ12.ok:φ4 Tryz.prog 87 ψ12.ctr:=fS (A:=ψ12.ann) (eC ψ1X.ok (eC ψD.ok (eC ψP.ok (eC ψy.ok (eC ψo.ok (eC ψZ.ok (eC ψA.ok (eC ψx.ok φ5.nil)))))))) Tryz.func87 (by kernel_rfl) (by kernel_rfl) (fun x=>by kernel_rfl)
def ψ2D.sig:Sig:=⟨[.ptr (.pair tyD tyI),.val tyI,.val (.sl false tyR)],[.val (.sl true tyE)]⟩
def ψ2D.ctr:Ctr:=⟨ψ2D.sig,fun x=>ψ2D.f x.1 x.2.1 x.2.2⟩
def ψ2D.env:Env:=[(82,[ψy.ctr]),(110,[ψ2A.ctr]),(162,[ψR.ctr]),(167,[ψ1x.ctr]),(168,[ψ11.ctr]),(169,[ψ26.ctr])]
def ψ2D.ann:Ann:=⟨[(0,([(0,.ptr (.pair tyD tyI)),(1,.val tyI),(7,.val (.sl true tyE)),(8,.val tyI),(16,.val (.sl false tyR)),(17,.val tyI),(18,.val tyI)],[(.exit 0,[(0,.ptr (.pair tyD tyI)),(1,.val tyI),(7,.val (.sl true tyE))])]))],[],[(9,[(.normal,[(0,.ptr (.pair tyD tyI)),(1,.val tyI),(7,.val (.sl true tyE)),(8,.val tyI),(11,.val .str),(16,.val (.sl false tyR)),(17,.val tyI),(18,.val tyI)])])]⟩
theorem ψ2D.ok:φ4 Tryz.prog 124 ψ2D.ctr:=fS (A:=ψ2D.ann) (eC ψy.ok (eC ψ2A.ok (eC ψR.ok (eC ψ1x.ok (eC ψ11.ok (eC ψ26.ok φ5.nil)))))) Tryz.func124 (by kernel_rfl) (by kernel_rfl) (fun x=>by kernel_rfl)
def ψ1Y.sig:Sig:=⟨[.val (.sl false tyF),.val tyI],[.val (.sl true tyR)]⟩
def ψ1Y.ctr:Ctr:=⟨ψ1Y.sig,fun x=>ψ1Y.f x.1 x.2⟩
def ψ1Y.env:Env:=[(170,[ψ18.ctr])]
def ψ1Y.ann:Ann:=⟨[(0,([(0,.val (.sl false tyF)),(1,.val tyI),(5,.val (.sl true tyR)),(8,.val (.sl false tyF)),(9,.val tyI),(10,.val tyI)],[(.exit 0,[(0,.val (.sl false tyF)),(1,.val tyI),(5,.val (.sl true tyR))])]))],[],[]⟩
theorem ψ1Y.ok:φ4 Tryz.prog 125 ψ1Y.ctr:=fS (A:=ψ1Y.ann) (eC ψ18.ok φ5.nil) Tryz.func125 (by kernel_rfl) (by kernel_rfl) (fun x=>by kernel_rfl)
def ψ2C.sig:Sig:=⟨[.ptr (.pair tyD tyI),.val tyI],[]⟩
def ψ2C.ctr:Ctr:=⟨ψ2C.sig,fun x=>ψ2C.f x.1 x.2⟩
def ψ2C.env:Env:=[(77,[ψP.ctr]),(82,[ψy.ctr]),(128,[ψV.ctr]),(129,[ψ23.ctr]),(157,[ψ20.ctr]),(171,[ψW.ctr]),(172,[ψz.ctr])]
def ψ2C.ann:Ann:=⟨[],[],[]⟩
theorem ψ2C.ok:φ4 Tryz.prog 126 ψ2C.ctr:=fS (A:=ψ2C.ann) (eC ψP.ok (eC ψy.ok (eC ψV.ok (eC ψ23.ok (eC ψ20.ok (eC ψW.ok (eC ψz.ok φ5.nil))))))) Tryz.func126 (by kernel_rfl) (by kernel_rfl) (fun x=>by kernel_rfl)
def ψ1y.sig:Sig:=⟨[.ptr (.pair tyD tyI),.val (.sl false .str)],[]⟩
def ψ1y.ctr:Ctr:=⟨ψ1y.sig,fun x=>ψ1y.f x.1 x.2⟩
def ψ1y.env:Env:=[(129,[ψ23.ctr])]
def ψ1y.ann:Ann:=⟨[(0,([(0,.ptw (.pair tyD tyI)),(4,.ptr (.pair tyD tyI)),(18,.val (.sl false .str)),(19,.val tyI),(20,.val tyI)],[(.exit 0,[(0,.ptw (.pair tyD tyI)),(4,.ptr (.pair tyD tyI))])]))],[],[]⟩
theorem ψ1y.ok:φ4 Tryz.prog 127 ψ1y.ctr:=fS (A:=ψ1y.ann) (eC ψ23.ok φ5.nil) Tryz.func127 (by kernel_rfl) (by kernel_rfl) (fun x=>by kernel_rfl)
def ψ16.sig:Sig:=⟨[.ptr tyS,.ptr (.pair tyD tyI),.val (.sl false tyF)],[]⟩
def ψ16.ctr:Ctr:=⟨ψ16.sig,fun x=>ψ16.f x.1 x.2.1 x.2.2⟩
def ψ16.env:Env:=[(82,[ψy.ctr]),(115,[ψ27.ctr]),(124,[ψ2D.ctr]),(125,[ψ1Y.ctr]),(126,[ψ2C.ctr]),(127,[ψ1y.ctr]),(128,[ψV.ctr]),(129,[ψ23.ctr])]
def ψ16.ann:Ann:=⟨[(0,([(0,.ptr tyS),(1,.ptr (.pair tyD tyI)),(85,.val (.sl true tyI)),(86,.val tyI),(87,.val tyI)],[(.exit 0,[(0,.ptr tyS),(1,.ptr (.pair tyD tyI))])]))],[],[(5,[(.normal,[(0,.ptr tyS),(1,.ptr (.pair tyD tyI)),(6,.val tyI),(7,.val (.sl true tyE)),(8,.ptr (.pair tyI (.sl true tyI)))])])]⟩
theorem ψ16.ok:φ4 Tryz.prog 88 ψ16.ctr:=fS (A:=ψ16.ann) (eC ψy.ok (eC ψ27.ok (eC ψ2D.ok (eC ψ1Y.ok (eC ψ2C.ok (eC ψ1y.ok (eC ψV.ok (eC ψ23.ok φ5.nil)))))))) Tryz.func88 (by kernel_rfl) (by kernel_rfl) (fun x=>by kernel_rfl)
def ψa.sig:Sig:=⟨[.val tys,.val tyd],[.val tyS,.val tyD,.val tyI]⟩
def ψa.ctr:Ctr:=⟨ψa.sig,fun x=>ψa.f x.1 x.2⟩
def ψa.env:Env:=[(30,[ψG.ctr]),(53,[ψ1K.ctr]),(58,[ψ1O.ctr]),(87,[ψ12.ctr]),(88,[ψ16.ctr])]
def ψa.ann:Ann:=⟨[],[],[]⟩
theorem ψa.ok:φ4 Tryz.prog 60 ψa.ctr:=fS (A:=ψa.ann) (eC ψG.ok (eC ψ1K.ok (eC ψ1O.ok (eC ψ12.ok (eC ψ16.ok φ5.nil))))) Tryz.func60 (by kernel_rfl) (by kernel_rfl) (fun x=>by kernel_rfl)
def ψ1b.sig:Sig:=⟨[.val (.sl false tyP)],[.val (.sl true tyP)]⟩
def ψ1b.ctr:Ctr:=⟨ψ1b.sig,fun x=>ψ1b.f x⟩
def ψ1b.env:Env:=[]
def ψ1b.ann:Ann:=⟨[(2,([(3,.val (.sl true tyP)),(5,.ptr tyP),(6,.val tyI),(9,.val (.sl false tyP)),(10,.val tyI),(11,.val tyI),(15,.dup 3),(16,.val tyI),(17,.val tyI)],[(.exit 2,[(3,.val (.sl true tyP)),(5,.ptr tyP),(6,.val tyI),(9,.val (.sl false tyP)),(10,.val tyI),(11,.val tyI)])])),(0,([(3,.val (.sl true tyP)),(9,.val (.sl false tyP)),(10,.val tyI),(11,.val tyI)],[(.exit 0,[(3,.val (.sl true tyP))])]))],[],[(9,[(.normal,[(3,.val (.sl true tyP)),(5,.ptr tyP),(6,.val tyI),(9,.val (.sl false tyP)),(10,.val tyI),(11,.val tyI),(15,.dup 3),(16,.val tyI),(17,.val tyI)])]),(12,[(.normal,[(3,.val (.sl true tyP)),(9,.val (.sl false tyP)),(10,.val tyI),(11,.val tyI)])])]⟩
theorem ψ1b.ok:φ4 Tryz.prog 116 ψ1b.ctr:=fS (A:=ψ1b.ann) φ5.nil Tryz.func116 (by kernel_rfl) (by kernel_rfl) (fun x=>by kernel_rfl)
def ψc.sig:Sig:=⟨[.val (.pair .bool (.pair (.sl false (.pair .str tyI)) (.sl false tyP)))],[.val (.sl true tyP)]⟩
def ψc.ctr:Ctr:=⟨ψc.sig,fun x=>ψc.f x⟩
def ψc.env:Env:=[(116,[ψ1b.ctr])]
def ψc.ann:Ann:=⟨[],[],[]⟩
theorem ψc.ok:φ4 Tryz.prog 80 ψc.ctr:=fS (A:=ψc.ann) (eC ψ1b.ok φ5.nil) Tryz.func80 (by kernel_rfl) (by kernel_rfl) (fun x=>by kernel_rfl)
def ψ1u.sig:Sig:=⟨[.val (.sl false (.pair .bool (.pair (.sl false (.pair .str tyI)) (.sl false tyP)))),.val (.pair tyI (.pair tyI tyF))],[.val .bool]⟩
def ψ1u.ctr:Ctr:=⟨ψ1u.sig,fun x=>ψ1u.f x.1 x.2⟩
def ψ1u.env:Env:=[(25,[ψ1X.ctr])]
def ψ1u.ann:Ann:=⟨[],[],[]⟩
theorem ψ1u.ok:φ4 Tryz.prog 89 ψ1u.ctr:=fS (A:=ψ1u.ann) (eC ψ1X.ok φ5.nil) Tryz.func89 (by kernel_rfl) (by kernel_rfl) (fun x=>by kernel_rfl)
def ψf.sig:Sig:=⟨[.val (.pair .bool (.pair (.sl false (.pair .str tyI)) (.sl false tyP))),.val .str],[.val tyP,.val .bool]⟩
def ψf.ctr:Ctr:=⟨ψf.sig,fun x=>ψf.f x.1 x.2⟩
def ψf.env:Env:=[]
def ψf.ann:Ann:=⟨[(0,([(1,.val .str),(2,.ptr (.pair .bool (.pair (.sl false (.pair .str tyI)) (.sl false tyP)))),(4,.ptr tyP),(6,.val tyI)],[(.exit 0,[(4,.ptr tyP)]),(.ret,[(4,.ptr tyP),(5,.val .bool)])]))],[],[]⟩
theorem ψf.ok:φ4 Tryz.prog 174 ψf.ctr:=fS (A:=ψf.ann) φ5.nil Tryz.func174 (by kernel_rfl) (by kernel_rfl) (fun x=>by kernel_rfl)
def ψ1d.sig:Sig:=⟨[.val (.pair .bool (.pair (.sl false (.pair .str tyI)) (.sl false tyP))),.val .str],[.val (.pair tyI (.pair .str (.sl true .str))),.val .bool]⟩
def ψ1d.ctr:Ctr:=⟨ψ1d.sig,fun x=>ψ1d.f x.1 x.2⟩
def ψ1d.env:Env:=[(174,[ψf.ctr])]
def ψ1d.ann:Ann:=⟨[],[],[]⟩
theorem ψ1d.ok:φ4 Tryz.prog 131 ψ1d.ctr:=fS (A:=ψ1d.ann) (eC ψf.ok φ5.nil) Tryz.func131 (by kernel_rfl) (by kernel_rfl) (fun x=>by kernel_rfl)
def ψ1D.sig:Sig:=⟨[.val (.pair .bool (.pair (.sl false (.pair .str tyI)) (.sl false tyP))),.val .str,.val tyI],[.val (.pair .bool (.pair (.sl true (.pair .str tyI)) (.sl true tyP))),.val tyI]⟩
def ψ1D.ctr:Ctr:=⟨ψ1D.sig,fun x=>ψ1D.f x.1 x.2.1 x.2.2⟩
def ψ1D.env:Env:=[(86,[ψ1P.ctr]),(130,[ψY.ctr])]
def ψ1D.ann:Ann:=⟨[(0,([(1,.val .str),(2,.val tyI),(3,.ptr (.pair .bool (.pair (.sl false (.pair .str tyI)) (.sl false tyP)))),(6,.ptr (.pair .bool (.pair (.sl true (.pair .str tyI)) (.sl true tyP)))),(8,.ptr (.pair .bool (.pair (.sl true (.pair .str tyI)) (.sl true tyP)))),(9,.val .bool),(24,.val (.sl false (.pair .str tyI))),(25,.val tyI),(26,.val tyI)],[(.exit 0,[(1,.val .str),(2,.val tyI),(3,.ptr (.pair .bool (.pair (.sl false (.pair .str tyI)) (.sl false tyP)))),(6,.ptr (.pair .bool (.pair (.sl true (.pair .str tyI)) (.sl true tyP)))),(8,.ptr (.pair .bool (.pair (.sl true (.pair .str tyI)) (.sl true tyP)))),(9,.val .bool)]),(.ret,[(6,.ptr (.pair .bool (.pair (.sl true (.pair .str tyI)) (.sl true tyP)))),(7,.val tyI)])]))],[(1,[(.normal,[(1,.val .str),(2,.val tyI),(3,.ptr (.pair .bool (.pair (.sl false (.pair .str tyI)) (.sl false tyP)))),(6,.ptr (.pair .bool (.pair (.sl true (.pair .str tyI)) (.sl true tyP)))),(8,.ptr (.pair .bool (.pair (.sl true (.pair .str tyI)) (.sl true tyP)))),(9,.val .bool),(24,.val (.sl false (.pair .str tyI))),(25,.val tyI),(26,.val tyI)]),(.ret,[(6,.ptr (.pair .bool (.pair (.sl true (.pair .str tyI)) (.sl true tyP)))),(7,.val tyI)])])],[]⟩
theorem ψ1D.ok:φ4 Tryz.prog 175 ψ1D.ctr:=fS (A:=ψ1D.ann) (eC ψ1P.ok (eC ψY.ok φ5.nil)) Tryz.func175 (by kernel_rfl) (by kernel_rfl) (fun x=>by kernel_rfl)
def ψ1h.sig:Sig:=⟨[.val (.pair .bool (.pair (.sl false (.pair .str tyI)) (.sl false tyP))),.val .str,.val tyF,.val tyI],[.val (.pair .bool (.pair (.sl true (.pair .str tyI)) (.sl true tyP))),.val (.pair tyI (.pair .str (.sl true .str)))]⟩
def ψ1h.ctr:Ctr:=⟨ψ1h.sig,fun x=>ψ1h.f x.1 x.2.1 x.2.2.1 x.2.2.2⟩
def ψ1h.env:Env:=[(175,[ψ1D.ctr])]
def ψ1h.ann:Ann:=⟨[],[],[]⟩
theorem ψ1h.ok:φ4 Tryz.prog 132 ψ1h.ctr:=fS (A:=ψ1h.ann) (eC ψ1D.ok φ5.nil) Tryz.func132 (by kernel_rfl) (by kernel_rfl) (fun x=>by kernel_rfl)
def ψK.sig:Sig:=⟨[.ptr (.pair (.pair .bool (.pair tyS (.pair tyD (.sl true (.pair .bool (.pair (.sl false (.pair .str tyI)) (.sl false tyP))))))) (.pair (.sl true (.pair tyI (.pair .str (.sl true .str)))) (.pair (.sl true (.pair tyI (.sl true tyP))) (.sl true tyP)))),.val (.pair tyI (.pair tyI tyF))],[.val (.pair tyI (.pair .str (.sl true .str)))]⟩
def ψK.ctr:Ctr:=⟨ψK.sig,fun x=>ψK.f x.1 x.2⟩
def ψK.env:Env:=[(56,[ψS.ctr]),(130,[ψY.ctr]),(131,[ψ1d.ctr]),(132,[ψ1h.ctr])]
def ψK.ann:Ann:=⟨[],[],[]⟩
theorem ψK.ok:φ4 Tryz.prog 90 ψK.ctr:=fS (A:=ψK.ann) (eC ψS.ok (eC ψY.ok (eC ψ1d.ok (eC ψ1h.ok φ5.nil)))) Tryz.func90 (by kernel_rfl) (by kernel_rfl) (fun x=>by kernel_rfl)
def ψ1g.sig:Sig:=⟨[.val tyP],[.val .bool]⟩
def ψ1g.ctr:Ctr:=⟨ψ1g.sig,fun x=>ψ1g.f x⟩
def ψ1g.env:Env:=[(130,[ψY.ctr])]
def ψ1g.ann:Ann:=⟨[],[],[]⟩
theorem ψ1g.ok:φ4 Tryz.prog 134 ψ1g.ctr:=fS (A:=ψ1g.ann) (eC ψY.ok φ5.nil) Tryz.func134 (by kernel_rfl) (by kernel_rfl) (fun x=>by kernel_rfl)
def ψ1E.sig:Sig:=⟨[.val (.pair .bool (.pair (.sl false (.pair .str tyI)) (.sl false tyP))),.val tyP],[.val (.pair .bool (.pair (.sl true (.pair .str tyI)) (.sl true tyP))),.val .bool]⟩
def ψ1E.ctr:Ctr:=⟨ψ1E.sig,fun x=>ψ1E.f x.1 x.2⟩
def ψ1E.env:Env:=[(80,[ψc.ctr]),(86,[ψ1P.ctr]),(134,[ψ1g.ctr])]
def ψ1E.ann:Ann:=⟨[],[],[]⟩
theorem ψ1E.ok:φ4 Tryz.prog 133 ψ1E.ctr:=fS (A:=ψ1E.ann) (eC ψc.ok (eC ψ1P.ok (eC ψ1g.ok φ5.nil))) Tryz.func133 (by kernel_rfl) (by kernel_rfl) (fun x=>by kernel_rfl)
def ψ2E.sig:Sig:=⟨[.val (.pair .bool (.pair (.sl false (.pair .str tyI)) (.sl false tyP))),.val (.pair tyI (.pair tyI tyF))],[.val (.pair .bool (.pair (.sl true (.pair .str tyI)) (.sl true tyP))),.val (.pair tyI (.pair .str (.sl true .str)))]⟩
def ψ2E.ctr:Ctr:=⟨ψ2E.sig,fun x=>ψ2E.f x.1 x.2⟩
def ψ2E.env:Env:=[(133,[ψ1E.ctr]),(134,[ψ1g.ctr])]
def ψ2E.ann:Ann:=⟨[],[],[]⟩
theorem ψ2E.ok:φ4 Tryz.prog 91 ψ2E.ctr:=fS (A:=ψ2E.ann) (eC ψ1E.ok (eC ψ1g.ok φ5.nil)) Tryz.func91 (by kernel_rfl) (by kernel_rfl) (fun x=>by kernel_rfl)
def ψ1G.sig:Sig:=⟨[.val (.pair .bool (.pair (.sl false (.pair .str tyI)) (.sl false tyP))),.val (.sl false tyE)],[.val .bool]⟩
def ψ1G.ctr:Ctr:=⟨ψ1G.sig,fun x=>ψ1G.f x.1 x.2⟩
def ψ1G.env:Env:=[(81,[ψ8.ctr])]
def ψ1G.ann:Ann:=⟨[(0,([(1,.val (.sl false tyE)),(10,.val (.sl false (.pair .str tyI))),(11,.val tyI),(12,.val tyI)],[(.exit 0,[]),(.ret,[(4,.val .bool)])]))],[],[]⟩
theorem ψ1G.ok:φ4 Tryz.prog 92 ψ1G.ctr:=fS (A:=ψ1G.ann) (eC ψ8.ok φ5.nil) Tryz.func92 (by kernel_rfl) (by kernel_rfl) (fun x=>by kernel_rfl)
def ψh.sig:Sig:=⟨[.val (.sl false tyP)],[.val .bool]⟩
def ψh.ctr:Ctr:=⟨ψh.sig,fun x=>ψh.f x⟩
def ψh.env:Env:=[(134,[ψ1g.ctr])]
def ψh.ann:Ann:=⟨[(0,([(0,.val (.sl false tyP)),(5,.val (.sl false tyP)),(6,.val tyI),(7,.val tyI)],[(.exit 0,[(0,.val (.sl false tyP))]),(.ret,[(2,.val .bool)])]))],[],[]⟩
theorem ψh.ok:φ4 Tryz.prog 135 ψh.ctr:=fS (A:=ψh.ann) (eC ψ1g.ok φ5.nil) Tryz.func135 (by kernel_rfl) (by kernel_rfl) (fun x=>by kernel_rfl)
def ψ1R.sig:Sig:=⟨[.val (.sl false tyE),.val (.sl false tyP),.val (.sl false tyE)],[.val (.sl false tyE)]⟩
def ψ1R.ctr:Ctr:=⟨ψ1R.sig,fun x=>ψ1R.f x.1 x.2.1 x.2.2⟩
def ψ1R.env:Env:=[(183,[ψ7.ctr]),(184,[ψB.ctr])]
def ψ1R.ann:Ann:=⟨[(0,([(0,.val (.sl false tyE)),(2,.val (.sl false tyE)),(9,.val (.sl false tyP)),(10,.val tyI),(11,.val tyI)],[(.exit 0,[(0,.val (.sl false tyE))])]))],[],[(4,[(.normal,[(0,.val (.sl true tyE)),(2,.val (.sl false tyE)),(9,.val (.sl false tyP)),(10,.val tyI),(11,.val tyI)])])]⟩
theorem ψ1R.ok:φ4 Tryz.prog 176 ψ1R.ctr:=fS (A:=ψ1R.ann) (eC ψ7.ok (eC ψB.ok φ5.nil)) Tryz.func176 (by kernel_rfl) (by kernel_rfl) (fun x=>by kernel_rfl)
def ψ1Z.sig:Sig:=⟨[.val (.sl false tyE),.val (.sl false tyP)],[.val tyI]⟩
def ψ1Z.ctr:Ctr:=⟨ψ1Z.sig,fun x=>ψ1Z.f x.1 x.2⟩
def ψ1Z.env:Env:=[(176,[ψ1R.ctr])]
def ψ1Z.ann:Ann:=⟨[(0,([(0,.val (.sl false tyE)),(1,.val (.sl false tyP)),(5,.val (.sl true tyE)),(8,.val (.sl false tyP)),(9,.val tyI),(10,.val tyI)],[(.exit 0,[(0,.val (.sl false tyE)),(1,.val (.sl false tyP)),(5,.val (.sl true tyE))])]))],[],[]⟩
theorem ψ1Z.ok:φ4 Tryz.prog 136 ψ1Z.ctr:=fS (A:=ψ1Z.ann) (eC ψ1R.ok φ5.nil) Tryz.func136 (by kernel_rfl) (by kernel_rfl) (fun x=>by kernel_rfl)
def ψ1S.sig:Sig:=⟨[.val (.sl true tyE),.val (.sl false tyP),.val (.sl false tyE)],[.val (.sl true tyE)]⟩
def ψ1S.ctr:Ctr:=⟨ψ1S.sig,fun x=>ψ1S.f x.1 x.2.1 x.2.2⟩
def ψ1S.env:Env:=[(183,[ψ7.ctr]),(184,[ψB.ctr])]
def ψ1S.ann:Ann:=⟨[(0,([(0,.val (.sl true tyE)),(2,.val (.sl false tyE)),(9,.val (.sl false tyP)),(10,.val tyI),(11,.val tyI)],[(.exit 0,[(0,.val (.sl true tyE))])]))],[],[(4,[(.normal,[(0,.val (.sl true tyE)),(2,.val (.sl false tyE)),(9,.val (.sl false tyP)),(10,.val tyI),(11,.val tyI)])])]⟩
theorem ψ1S.ok:φ4 Tryz.prog 176 ψ1S.ctr:=fS (A:=ψ1S.ann) (eC ψ7.ok (eC ψB.ok φ5.nil)) Tryz.func176 (by kernel_rfl) (by kernel_rfl) (fun x=>by kernel_rfl)
def ψ1i.sig:Sig:=⟨[.val (.sl false tyP),.val tyI],[.val (.sl true tyR)]⟩
def ψ1i.ctr:Ctr:=⟨ψ1i.sig,fun x=>ψ1i.f x.1 x.2⟩
def ψ1i.env:Env:=[(170,[ψ18.ctr])]
def ψ1i.ann:Ann:=⟨[(0,([(0,.val (.sl false tyP)),(1,.val tyI),(5,.val (.sl true tyR)),(8,.val (.sl false tyP)),(9,.val tyI),(10,.val tyI)],[(.exit 0,[(0,.val (.sl false tyP)),(1,.val tyI),(5,.val (.sl true tyR))])]))],[],[(5,[(.normal,[(0,.val (.sl false tyP)),(1,.val tyI),(5,.val (.sl true tyR)),(8,.val (.sl false tyP)),(9,.val tyI),(10,.val tyI)])])]⟩
theorem ψ1i.ok:φ4 Tryz.prog 177 ψ1i.ctr:=fS (A:=ψ1i.ann) (eC ψ18.ok φ5.nil) Tryz.func177 (by kernel_rfl) (by kernel_rfl) (fun x=>by kernel_rfl)
def ψ13.sig:Sig:=⟨[.ptr tyS],[.val .str]⟩
def ψ13.ctr:Ctr:=⟨ψ13.sig,fun x=>ψ13.f x⟩
def ψ13.env:Env:=[(82,[ψy.ctr])]
def ψ13.ann:Ann:=⟨[],[],[]⟩
theorem ψ13.ok:φ4 Tryz.prog 179 ψ13.ctr:=fS (A:=ψ13.ann) (eC ψy.ok φ5.nil) Tryz.func179 (by kernel_rfl) (by kernel_rfl) (fun x=>by kernel_rfl)
def ψ17.sig:Sig:=⟨[.ptr tyS,.ptr (.pair tyD tyI)],[]⟩
def ψ17.ctr:Ctr:=⟨ψ17.sig,fun x=>ψ17.f x.1 x.2⟩
def ψ17.env:Env:=[(82,[ψy.ctr]),(84,[ψ1M.ctr]),(110,[ψ2A.ctr]),(115,[ψ27.ctr]),(127,[ψ1y.ctr]),(167,[ψ1x.ctr]),(179,[ψ13.ctr])]
def ψ17.ann:Ann:=⟨[],[],[]⟩
theorem ψ17.ok:φ4 Tryz.prog 199 ψ17.ctr:=fS (A:=ψ17.ann) (eC ψy.ok (eC ψ1M.ok (eC ψ2A.ok (eC ψ27.ok (eC ψ1y.ok (eC ψ1x.ok (eC ψ13.ok φ5.nil))))))) Tryz.func199 (by kernel_rfl) (by kernel_rfl) (fun x=>by kernel_rfl)
def ψ14.sig:Sig:=⟨[.ptr tyS,.ptr (.pair tyD tyI),.val tyR],[.val tyE]⟩
def ψ14.ctr:Ctr:=⟨ψ14.sig,fun x=>ψ14.f x.1 x.2.1 x.2.2⟩
def ψ14.env:Env:=[(162,[ψR.ctr]),(168,[ψ11.ctr]),(169,[ψ26.ctr]),(179,[ψ13.ctr]),(199,[ψ17.ctr])]
def ψ14.ann:Ann:=⟨[],[],[(2,[(.normal,[(0,.ptr tyS),(1,.ptr (.pair tyD tyI)),(5,.ptr tyR),(6,.ptr tyE),(7,.val .str)])])]⟩
theorem ψ14.ok:φ4 Tryz.prog 178 ψ14.ctr:=fS (A:=ψ14.ann) (eC ψR.ok (eC ψ11.ok (eC ψ26.ok (eC ψ13.ok (eC ψ17.ok φ5.nil))))) Tryz.func178 (by kernel_rfl) (by kernel_rfl) (fun x=>by kernel_rfl)
def ψ15.sig:Sig:=⟨[.ptr tyS,.ptr (.pair tyD tyI),.val (.sl false tyP)],[]⟩
def ψ15.ctr:Ctr:=⟨ψ15.sig,fun x=>ψ15.f x.1 x.2.1 x.2.2⟩
def ψ15.env:Env:=[(110,[ψ2A.ctr]),(176,[ψ1S.ctr]),(177,[ψ1i.ctr]),(178,[ψ14.ctr]),(179,[ψ13.ctr])]
def ψ15.ann:Ann:=⟨[(0,([(0,.ptr tyS),(1,.ptr (.pair tyD tyI)),(2,.val (.sl false tyP)),(7,.val (.sl true tyE)),(24,.val (.sl true tyR)),(25,.val tyI),(26,.val tyI)],[(.exit 0,[(0,.ptr tyS),(1,.ptr (.pair tyD tyI)),(2,.val (.sl false tyP)),(7,.val (.sl true tyE))]),(.ret,[(0,.ptr tyS),(1,.ptr (.pair tyD tyI))])]))],[],[]⟩
theorem ψ15.ok:φ4 Tryz.prog 137 ψ15.ctr:=fS (A:=ψ15.ann) (eC ψ2A.ok (eC ψ1S.ok (eC ψ1i.ok (eC ψ14.ok (eC ψ13.ok φ5.nil))))) Tryz.func137 (by kernel_rfl) (by kernel_rfl) (fun x=>by kernel_rfl)
def ψ2.sig:Sig:=⟨[.val tys,.val tyd,.val (.sl false tyP)],[.val tyS,.val tyD,.val tyI]⟩
def ψ2.ctr:Ctr:=⟨ψ2.sig,fun x=>ψ2.f x.1 x.2.1 x.2.2⟩
def ψ2.env:Env:=[(53,[ψ1K.ctr]),(58,[ψ1O.ctr]),(87,[ψ12.ctr]),(135,[ψh.ctr]),(136,[ψ1Z.ctr]),(137,[ψ15.ctr])]
def ψ2.ann:Ann:=⟨[],[],[]⟩
theorem ψ2.ok:φ4 Tryz.prog 93 ψ2.ctr:=fS (A:=ψ2.ann) (eC ψ1K.ok (eC ψ1O.ok (eC ψ12.ok (eC ψh.ok (eC ψ1Z.ok (eC ψ15.ok φ5.nil)))))) Tryz.func93 (by kernel_rfl) (by kernel_rfl) (fun x=>by kernel_rfl)
def ψM.sig:Sig:=⟨[.ptr (.pair (.pair .bool (.pair tyS (.pair tyD (.sl true (.pair .bool (.pair (.sl false (.pair .str tyI)) (.sl false tyP))))))) (.pair (.sl true (.pair tyI (.pair .str (.sl true .str)))) (.pair (.sl true (.pair tyI (.sl true tyP))) (.sl true tyP)))),.val (.pair tyI (.pair tyI tyF))],[.val (.pair tyI (.pair .str (.sl true .str)))]⟩
def ψM.ctr:Ctr:=⟨ψM.sig,fun x=>ψM.f x.1 x.2⟩
def ψM.env:Env:=[(80,[ψc.ctr]),(89,[ψ1u.ctr]),(90,[ψK.ctr]),(91,[ψ2E.ctr]),(92,[ψ1G.ctr]),(93,[ψ2.ctr])]
def ψM.ann:Ann:=⟨[],[],[]⟩
theorem ψM.ok:φ4 Tryz.prog 61 ψM.ctr:=fS (A:=ψM.ann) (eC ψc.ok (eC ψ1u.ok (eC ψK.ok (eC ψ2E.ok (eC ψ1G.ok (eC ψ2.ok φ5.nil)))))) Tryz.func61 (by kernel_rfl) (by kernel_rfl) (fun x=>by kernel_rfl)
def ψO.sig:Sig:=⟨[.ptr (.pair (.pair .bool (.pair tyS (.pair tyD (.sl true (.pair .bool (.pair (.sl false (.pair .str tyI)) (.sl false tyP))))))) (.pair (.sl true (.pair tyI (.pair .str (.sl true .str)))) (.pair (.sl true (.pair tyI (.sl true tyP))) (.sl true tyP)))),.val (.pair tyI (.pair tyI tyF))],[.val (.pair tyI (.pair .str (.sl true .str)))]⟩
def ψO.ctr:Ctr:=⟨ψO.sig,fun x=>ψO.f x.1 x.2⟩
def ψO.env:Env:=[(25,[ψ1X.ctr]),(26,[ψI.ctr]),(47,[ψD.ctr]),(48,[ψ1v.ctr]),(55,[ψ9.ctr]),(60,[ψa.ctr]),(61,[ψM.ctr])]
def ψO.ann:Ann:=⟨[],[],[]⟩
theorem ψO.ok:φ4 Tryz.prog 37 ψO.ctr:=fS (A:=ψO.ann) (eC ψ1X.ok (eC ψI.ok (eC ψD.ok (eC ψ1v.ok (eC ψ9.ok (eC ψa.ok (eC ψM.ok φ5.nil))))))) Tryz.func37 (by kernel_rfl) (by kernel_rfl) (fun x=>by kernel_rfl)
def ψ1c.sig:Sig:=⟨[.val (.pair .bool (.pair tys (.pair tyd (.sl false (.pair .bool (.pair (.sl false (.pair .str tyI)) (.sl false tyP))))))),.val (.pair tyI (.pair tyI tyF))],[.val (.sl true tyP)]⟩
def ψ1c.ctr:Ctr:=⟨ψ1c.sig,fun x=>ψ1c.f x.1 x.2⟩
def ψ1c.env:Env:=[(25,[ψ1X.ctr]),(80,[ψc.ctr])]
def ψ1c.ann:Ann:=⟨[],[],[]⟩
theorem ψ1c.ok:φ4 Tryz.prog 54 ψ1c.ctr:=fS (A:=ψ1c.ann) (eC ψ1X.ok (eC ψc.ok φ5.nil)) Tryz.func54 (by kernel_rfl) (by kernel_rfl) (fun x=>by kernel_rfl)
def ψv.sig:Sig:=⟨[.val (.pair .bool (.pair tys (.pair tyd (.sl false (.pair .bool (.pair (.sl false (.pair .str tyI)) (.sl false tyP))))))),.val (.sl false (.pair tyI (.pair tyI tyF)))],[.val (.pair (.pair .bool (.pair tyS (.pair tyD (.sl true (.pair .bool (.pair (.sl false (.pair .str tyI)) (.sl false tyP))))))) (.pair (.sl true (.pair tyI (.pair .str (.sl true .str)))) (.pair (.sl true (.pair tyI (.sl true tyP))) (.sl true tyP))))]⟩
def ψv.ctr:Ctr:=⟨ψv.sig,fun x=>ψv.f x.1 x.2⟩
def ψv.env:Env:=[(36,[ψ1L.ctr]),(37,[ψO.ctr]),(54,[ψ1c.ctr])]
def ψv.ann:Ann:=⟨[(0,([(4,.ptr (.pair (.pair .bool (.pair tyS (.pair tyD (.sl true (.pair .bool (.pair (.sl false (.pair .str tyI)) (.sl false tyP))))))) (.pair (.sl true (.pair tyI (.pair .str (.sl true .str)))) (.pair (.sl true (.pair tyI (.sl true tyP))) (.sl true tyP))))),(5,.ptr (.pair (.pair .bool (.pair tyS (.pair tyD (.sl true (.pair .bool (.pair (.sl false (.pair .str tyI)) (.sl false tyP))))))) (.pair (.sl true (.pair tyI (.pair .str (.sl true .str)))) (.pair (.sl true (.pair tyI (.sl true tyP))) (.sl true tyP))))),(14,.val (.sl false (.pair tyI (.pair tyI tyF)))),(15,.val tyI),(16,.val tyI)],[(.exit 0,[(4,.ptr (.pair (.pair .bool (.pair tyS (.pair tyD (.sl true (.pair .bool (.pair (.sl false (.pair .str tyI)) (.sl false tyP))))))) (.pair (.sl true (.pair tyI (.pair .str (.sl true .str)))) (.pair (.sl true (.pair tyI (.sl true tyP))) (.sl true tyP))))),(5,.ptr (.pair (.pair .bool (.pair tyS (.pair tyD (.sl true (.pair .bool (.pair (.sl false (.pair .str tyI)) (.sl false tyP))))))) (.pair (.sl true (.pair tyI (.pair .str (.sl true .str)))) (.pair (.sl true (.pair tyI (.sl true tyP))) (.sl true tyP)))))])]))],[],[(11,[(.normal,[(4,.ptr (.pair (.pair .bool (.pair tyS (.pair tyD (.sl true (.pair .bool (.pair (.sl false (.pair .str tyI)) (.sl false tyP))))))) (.pair (.sl true (.pair tyI (.pair .str (.sl true .str)))) (.pair (.sl true (.pair tyI (.sl true tyP))) (.sl true tyP))))),(5,.ptr (.pair (.pair .bool (.pair tyS (.pair tyD (.sl true (.pair .bool (.pair (.sl false (.pair .str tyI)) (.sl false tyP))))))) (.pair (.sl true (.pair tyI (.pair .str (.sl true .str)))) (.pair (.sl true (.pair tyI (.sl true tyP))) (.sl true tyP))))),(14,.val (.sl false (.pair tyI (.pair tyI tyF)))),(15,.val tyI),(16,.val tyI)])])]⟩
theorem ψv.ok:φ4 Tryz.prog 29 ψv.ctr:=fS (A:=ψv.ann) (eC ψ1L.ok (eC ψO.ok (eC ψ1c.ok φ5.nil))) Tryz.func29 (by kernel_rfl) (by kernel_rfl) (fun x=>by kernel_rfl)
def ψg.sig:Sig:=⟨[.val (.pair tyI (.pair tyI (.sl false (.pair tyI (.pair tyI tyF)))))],[.val (.pair (.pair .bool (.pair tyS (.pair tyD (.sl true (.pair .bool (.pair (.sl false (.pair .str tyI)) (.sl false tyP))))))) (.pair (.sl true (.pair tyI (.pair .str (.sl true .str)))) (.pair (.sl true (.pair tyI (.sl true tyP))) (.sl true tyP))))]⟩
def ψg.ctr:Ctr:=⟨ψg.sig,fun x=>ψg.f x⟩
def ψg.env:Env:=[(25,[ψ1X.ctr]),(26,[ψI.ctr]),(27,[ψ1I.ctr]),(28,[ψC.ctr]),(29,[ψv.ctr])]
def ψg.ann:Ann:=⟨[],[],[]⟩
theorem ψg.ok:φ4 Tryz.prog 11 ψg.ctr:=fS (A:=ψg.ann) (eC ψ1X.ok (eC ψI.ok (eC ψ1I.ok (eC ψC.ok (eC ψv.ok φ5.nil))))) Tryz.func11 (by kernel_rfl) (by kernel_rfl) (fun x=>by kernel_rfl)
def ψ2H.sig:Sig:=⟨[.val (.sl false (.pair tyI (.pair tyI tyF)))],[.val (.pair tyI (.pair tyI (.sl false (.pair tyI (.pair tyI tyF)))))]⟩
def ψ2H.ctr:Ctr:=⟨ψ2H.sig,fun x=>ψ2H.f x⟩
def ψ2H.env:Env:=[]
def ψ2H.ann:Ann:=⟨[],[],[]⟩
theorem ψ2H.ok:φ4 Tryz.prog 12 ψ2H.ctr:=fS (A:=ψ2H.ann) φ5.nil Tryz.func12 (by kernel_rfl) (by kernel_rfl) (fun x=>by kernel_rfl)
def ψH.sig:Sig:=⟨[.val (.pair .bool (.pair tys (.pair tyd (.sl false (.pair .bool (.pair (.sl false (.pair .str tyI)) (.sl false tyP)))))))],[.val (.sl true tyF),.val tyI]⟩
def ψH.ctr:Ctr:=⟨ψH.sig,fun x=>ψH.f x⟩
def ψH.env:Env:=[(30,[ψG.ctr])]
def ψH.ann:Ann:=⟨[],[],[]⟩
theorem ψH.ok:φ4 Tryz.prog 13 ψH.ctr:=fS (A:=ψH.ann) (eC ψG.ok φ5.nil) Tryz.func13 (by kernel_rfl) (by kernel_rfl) (fun x=>by kernel_rfl)
def ψ3P.sig:Sig:=⟨[.val (.pair tyI (.pair .str (.sl false .str))),.val (.pair tyI (.pair .str (.sl false .str)))],[.val .bool]⟩
def ψ3P.ctr:Ctr:=⟨ψ3P.sig,fun x=>ψ3P.f x.1 x.2⟩
def ψ3P.env:Env:=[]
def ψ3P.ann:Ann:=⟨[(0,([(2,.ptr (.pair tyI (.pair .str (.sl false .str)))),(3,.ptr (.pair tyI (.pair .str (.sl false .str)))),(5,.val tyI)],[(.exit 0,[]),(.ret,[(4,.val .bool)])]))],[],[]⟩
theorem ψ3P.ok:φ4 Tryz.prog 31 ψ3P.ctr:=fS (A:=ψ3P.ann) φ5.nil Tryz.func31 (by kernel_rfl) (by kernel_rfl) (fun x=>by kernel_rfl)
def ψ2s.sig:Sig:=⟨[.val (.sl false (.pair tyI (.pair .str (.sl false .str)))),.val (.sl false (.pair tyI (.pair .str (.sl false .str))))],[.val .bool]⟩
def ψ2s.ctr:Ctr:=⟨ψ2s.sig,fun x=>ψ2s.f x.1 x.2⟩
def ψ2s.env:Env:=[(31,[ψ3P.ctr])]
def ψ2s.ann:Ann:=⟨[(0,([(0,.val (.sl false (.pair tyI (.pair .str (.sl false .str))))),(1,.val (.sl false (.pair tyI (.pair .str (.sl false .str))))),(5,.val tyI)],[(.exit 0,[]),(.ret,[(4,.val .bool)])]))],[],[]⟩
theorem ψ2s.ok:φ4 Tryz.prog 14 ψ2s.ctr:=fS (A:=ψ2s.ann) (eC ψ3P.ok φ5.nil) Tryz.func14 (by kernel_rfl) (by kernel_rfl) (fun x=>by kernel_rfl)
def ψ2t.sig:Sig:=⟨[.val (.sl false tyF),.val (.sl false tyF)],[.val .bool]⟩
def ψ2t.ctr:Ctr:=⟨ψ2t.sig,fun x=>ψ2t.f x.1 x.2⟩
def ψ2t.env:Env:=[]
def ψ2t.ann:Ann:=⟨[(0,([(0,.val (.sl false tyF)),(1,.val (.sl false tyF)),(5,.val tyI)],[(.exit 0,[]),(.ret,[(4,.val .bool)])]))],[],[]⟩
theorem ψ2t.ok:φ4 Tryz.prog 15 ψ2t.ctr:=fS (A:=ψ2t.ann) φ5.nil Tryz.func15 (by kernel_rfl) (by kernel_rfl) (fun x=>by kernel_rfl)
def ψ3c.sig:Sig:=⟨[.val tyd],[.val tyI]⟩
def ψ3c.ctr:Ctr:=⟨ψ3c.sig,fun x=>ψ3c.f x⟩
def ψ3c.env:Env:=[]
def ψ3c.ann:Ann:=⟨[(0,([(1,.ptr tyd),(3,.val tyI),(4,.val tyI)],[(.exit 0,[(3,.val tyI)])]))],[],[]⟩
theorem ψ3c.ok:φ4 Tryz.prog 45 ψ3c.ctr:=fS (A:=ψ3c.ann) φ5.nil Tryz.func45 (by kernel_rfl) (by kernel_rfl) (fun x=>by kernel_rfl)
def ψ2f.sig:Sig:=⟨[.val .str],[.val .bool]⟩
def ψ2f.ctr:Ctr:=⟨ψ2f.sig,fun x=>ψ2f.f x⟩
def ψ2f.env:Env:=[(40,[ψ3S.ctr])]
def ψ2f.ann:Ann:=⟨[(0,([(0,.val .str),(3,.val tyI)],[(.exit 0,[(0,.val .str)]),(.ret,[(2,.val .bool)])]))],[],[(4,[(.normal,[(0,.val .str),(3,.val tyI)]),(.ret,[(2,.val .bool)])])]⟩
theorem ψ2f.ok:φ4 Tryz.prog 46 ψ2f.ctr:=fS (A:=ψ2f.ann) (eC ψ3S.ok φ5.nil) Tryz.func46 (by kernel_rfl) (by kernel_rfl) (fun x=>by kernel_rfl)
def ψ2P.sig:Sig:=⟨[.val tyd],[.val .bool]⟩
def ψ2P.ctr:Ctr:=⟨ψ2P.sig,fun x=>ψ2P.f x⟩
def ψ2P.env:Env:=[(40,[ψ3S.ctr]),(45,[ψ3c.ctr]),(46,[ψ2f.ctr])]
def ψ2P.ann:Ann:=⟨[(0,([(1,.ptr tyd),(3,.val tyI)],[(.exit 0,[]),(.ret,[(2,.val .bool)])]))],[],[(6,[(.normal,[(1,.ptr tyd),(3,.val tyI)]),(.ret,[(2,.val .bool)])])]⟩
theorem ψ2P.ok:φ4 Tryz.prog 19 ψ2P.ctr:=fS (A:=ψ2P.ann) (eC ψ3S.ok (eC ψ3c.ok (eC ψ2f.ok φ5.nil))) Tryz.func19 (by kernel_rfl) (by kernel_rfl) (fun x=>by kernel_rfl)
def ψ2a.sig:Sig:=⟨[.val (.pair tyI (.sl false tyI))],[.val .bool]⟩
def ψ2a.ctr:Ctr:=⟨ψ2a.sig,fun x=>ψ2a.f x⟩
def ψ2a.env:Env:=[(40,[ψ3S.ctr])]
def ψ2a.ann:Ann:=⟨[(0,([(1,.ptr (.pair tyI (.sl false tyI))),(3,.val tyI)],[(.exit 0,[]),(.ret,[(2,.val .bool)])]))],[],[(6,[(.normal,[(1,.ptr (.pair tyI (.sl false tyI))),(3,.val tyI)]),(.ret,[(2,.val .bool)])])]⟩
theorem ψ2a.ok:φ4 Tryz.prog 38 ψ2a.ctr:=fS (A:=ψ2a.ann) (eC ψ3S.ok φ5.nil) Tryz.func38 (by kernel_rfl) (by kernel_rfl) (fun x=>by kernel_rfl)
def ψ2Z.sig:Sig:=⟨[.val .str],[.val .bool]⟩
def ψ2Z.ctr:Ctr:=⟨ψ2Z.sig,fun x=>ψ2Z.f x⟩
def ψ2Z.env:Env:=[(40,[ψ3S.ctr])]
def ψ2Z.ann:Ann:=⟨[],[],[]⟩
theorem ψ2Z.ok:φ4 Tryz.prog 62 ψ2Z.ctr:=fS (A:=ψ2Z.ann) (eC ψ3S.ok φ5.nil) Tryz.func62 (by kernel_rfl) (by kernel_rfl) (fun x=>by kernel_rfl)
def ψ2O.sig:Sig:=⟨[.val (.sl false tyE)],[.val .bool]⟩
def ψ2O.ctr:Ctr:=⟨ψ2O.sig,fun x=>ψ2O.f x⟩
def ψ2O.env:Env:=[(40,[ψ3S.ctr]),(62,[ψ2Z.ctr])]
def ψ2O.ann:Ann:=⟨[(0,([(0,.val (.sl false tyE)),(3,.val tyI)],[(.exit 0,[]),(.ret,[(2,.val .bool)])]))],[],[(7,[(.normal,[(0,.val (.sl false tyE)),(3,.val tyI)]),(.ret,[(2,.val .bool)])])]⟩
theorem ψ2O.ok:φ4 Tryz.prog 39 ψ2O.ctr:=fS (A:=ψ2O.ann) (eC ψ3S.ok (eC ψ2Z.ok φ5.nil)) Tryz.func39 (by kernel_rfl) (by kernel_rfl) (fun x=>by kernel_rfl)
def ψ3a.sig:Sig:=⟨[.val tyd,.val .str],[.val tyI]⟩
def ψ3a.ctr:Ctr:=⟨ψ3a.sig,fun x=>ψ3a.f x.1 x.2⟩
def ψ3a.env:Env:=[]
def ψ3a.ann:Ann:=⟨[(0,([(1,.val .str),(2,.ptr tyd),(5,.val tyI)],[(.exit 0,[]),(.ret,[(4,.val tyI)])]))],[],[]⟩
theorem ψ3a.ok:φ4 Tryz.prog 63 ψ3a.ctr:=fS (A:=ψ3a.ann) φ5.nil Tryz.func63 (by kernel_rfl) (by kernel_rfl) (fun x=>by kernel_rfl)
def ψ2S.sig:Sig:=⟨[.val tyd,.val .str],[.val .str,.val .bool]⟩
def ψ2S.ctr:Ctr:=⟨ψ2S.sig,fun x=>ψ2S.f x.1 x.2⟩
def ψ2S.env:Env:=[(19,[ψ2P.ctr]),(63,[ψ3a.ctr])]
def ψ2S.ann:Ann:=⟨[],[],[]⟩
theorem ψ2S.ok:φ4 Tryz.prog 41 ψ2S.ctr:=fS (A:=ψ2S.ann) (eC ψ2P.ok (eC ψ3a.ok φ5.nil)) Tryz.func41 (by kernel_rfl) (by kernel_rfl) (fun x=>by kernel_rfl)
def ψ2L.sig:Sig:=⟨[.val tyI],[.val .str]⟩
def ψ2L.ctr:Ctr:=⟨ψ2L.sig,fun x=>ψ2L.f x⟩
def ψ2L.env:Env:=[]
def ψ2L.ann:Ann:=⟨[(0,([(0,.val tyI),(3,.val .str),(4,.val .bool)],[(.exit 0,[(3,.val .str),(4,.val .bool)])]))],[],[(7,[(.normal,[(0,.val tyI),(3,.val .str),(4,.val .bool),(5,.val tyI)])])]⟩
theorem ψ2L.ok:φ4 Tryz.prog 21 ψ2L.ctr:=fS (A:=ψ2L.ann) φ5.nil Tryz.func21 (by kernel_rfl) (by kernel_rfl) (fun x=>by kernel_rfl)
def ψ2v.sig:Sig:=⟨[.val tyI],[.val .str]⟩
def ψ2v.ctr:Ctr:=⟨ψ2v.sig,fun x=>ψ2v.f x⟩
def ψ2v.env:Env:=[(21,[ψ2L.ctr]),(40,[ψ3S.ctr])]
def ψ2v.ann:Ann:=⟨[],[],[]⟩
theorem ψ2v.ok:φ4 Tryz.prog 42 ψ2v.ctr:=fS (A:=ψ2v.ann) (eC ψ2L.ok (eC ψ3S.ok φ5.nil)) Tryz.func42 (by kernel_rfl) (by kernel_rfl) (fun x=>by kernel_rfl)
def ψ36.sig:Sig:=⟨[.val tyI],[.val .str]⟩
def ψ36.ctr:Ctr:=⟨ψ36.sig,fun x=>ψ36.f x⟩
def ψ36.env:Env:=[(40,[ψ3S.ctr])]
def ψ36.ann:Ann:=⟨[(0,([(0,.val tyI),(3,.val (.sl true (.int .u8)))],[(.exit 0,[(0,.val tyI),(3,.val (.sl true (.int .u8)))])]))],[],[]⟩
theorem ψ36.ok:φ4 Tryz.prog 138 ψ36.ctr:=fS (A:=ψ36.ann) (eC ψ3S.ok φ5.nil) Tryz.func138 (by kernel_rfl) (by kernel_rfl) (fun x=>by kernel_rfl)
def ψ2n.sig:Sig:=⟨[.val .str],[.val tyI,.val tyI]⟩
def ψ2n.ctr:Ctr:=⟨ψ2n.sig,fun x=>ψ2n.f x⟩
def ψ2n.env:Env:=[(138,[ψ36.ctr])]
def ψ2n.ann:Ann:=⟨[(2,([(0,.val .str),(4,.val tyI),(5,.val tyI),(6,.val tyI)],[(.exit 2,[(0,.val .str),(4,.val tyI),(5,.val tyI)])])),(0,([(0,.val .str),(4,.val tyI)],[(.exit 0,[]),(.ret,[(2,.val tyI),(3,.val tyI)])]))],[],[]⟩
theorem ψ2n.ok:φ4 Tryz.prog 94 ψ2n.ctr:=fS (A:=ψ2n.ann) (eC ψ36.ok φ5.nil) Tryz.func94 (by kernel_rfl) (by kernel_rfl) (fun x=>by kernel_rfl)
def ψ2T.sig:Sig:=⟨[.val tyI,.val tyI],[.val .str]⟩
def ψ2T.ctr:Ctr:=⟨ψ2T.sig,fun x=>ψ2T.f x.1 x.2⟩
def ψ2T.env:Env:=[(40,[ψ3S.ctr])]
def ψ2T.ann:Ann:=⟨[(0,([(0,.val tyI),(1,.val tyI),(5,.val .str),(6,.val tyI)],[(.exit 0,[(0,.val tyI),(5,.val .str)])]))],[],[]⟩
theorem ψ2T.ok:φ4 Tryz.prog 139 ψ2T.ctr:=fS (A:=ψ2T.ann) (eC ψ3S.ok φ5.nil) Tryz.func139 (by kernel_rfl) (by kernel_rfl) (fun x=>by kernel_rfl)
def ψ2J.sig:Sig:=⟨[.val .str],[.val tyI]⟩
def ψ2J.ctr:Ctr:=⟨ψ2J.sig,fun x=>ψ2J.f x⟩
def ψ2J.env:Env:=[]
def ψ2J.ann:Ann:=⟨[(2,([(0,.val .str),(3,.val tyI),(4,.val tyI),(5,.val tyI)],[(.exit 2,[(0,.val .str),(3,.val tyI),(4,.val tyI)])])),(0,([(0,.val .str),(3,.val tyI),(4,.val tyI)],[(.exit 0,[(3,.val tyI)])]))],[],[(11,[(.normal,[(0,.val .str),(3,.val tyI),(4,.val tyI),(5,.val tyI)])])]⟩
theorem ψ2J.ok:φ4 Tryz.prog 140 ψ2J.ctr:=fS (A:=ψ2J.ann) φ5.nil Tryz.func140 (by kernel_rfl) (by kernel_rfl) (fun x=>by kernel_rfl)
def ψ2V.sig:Sig:=⟨[.val .str],[.val .str]⟩
def ψ2V.ctr:Ctr:=⟨ψ2V.sig,fun x=>ψ2V.f x⟩
def ψ2V.env:Env:=[(138,[ψ36.ctr]),(139,[ψ2T.ctr]),(140,[ψ2J.ctr])]
def ψ2V.ann:Ann:=⟨[],[],[]⟩
theorem ψ2V.ok:φ4 Tryz.prog 95 ψ2V.ctr:=fS (A:=ψ2V.ann) (eC ψ36.ok (eC ψ2T.ok (eC ψ2J.ok φ5.nil))) Tryz.func95 (by kernel_rfl) (by kernel_rfl) (fun x=>by kernel_rfl)
def ψ34.sig:Sig:=⟨[.val .str],[.val .str,.val tyI]⟩
def ψ34.ctr:Ctr:=⟨ψ34.sig,fun x=>ψ34.f x⟩
def ψ34.env:Env:=[(94,[ψ2n.ctr]),(95,[ψ2V.ctr])]
def ψ34.ann:Ann:=⟨[],[],[]⟩
theorem ψ34.ok:φ4 Tryz.prog 64 ψ34.ctr:=fS (A:=ψ34.ann) (eC ψ2n.ok (eC ψ2V.ok φ5.nil)) Tryz.func64 (by kernel_rfl) (by kernel_rfl) (fun x=>by kernel_rfl)
def ψ3f.sig:Sig:=⟨[.val .str],[.val .str,.val .str,.val .bool]⟩
def ψ3f.ctr:Ctr:=⟨ψ3f.sig,fun x=>ψ3f.f x⟩
def ψ3f.env:Env:=[(94,[ψ2n.ctr])]
def ψ3f.ann:Ann:=⟨[],[],[]⟩
theorem ψ3f.ok:φ4 Tryz.prog 96 ψ3f.ctr:=fS (A:=ψ3f.ann) (eC ψ2n.ok φ5.nil) Tryz.func96 (by kernel_rfl) (by kernel_rfl) (fun x=>by kernel_rfl)
def ψ2k.sig:Sig:=⟨[.val .str,.val tyI],[.val tyI,.val .bool]⟩
def ψ2k.ctr:Ctr:=⟨ψ2k.sig,fun x=>ψ2k.f x.1 x.2⟩
def ψ2k.env:Env:=[(40,[ψ3S.ctr])]
def ψ2k.ann:Ann:=⟨[(0,([(0,.val .str),(1,.val tyI),(6,.val tyI),(7,.val tyI)],[(.exit 0,[(6,.val tyI)])]))],[],[]⟩
theorem ψ2k.ok:φ4 Tryz.prog 97 ψ2k.ctr:=fS (A:=ψ2k.ann) (eC ψ3S.ok φ5.nil) Tryz.func97 (by kernel_rfl) (by kernel_rfl) (fun x=>by kernel_rfl)
def ψ2p.sig:Sig:=⟨[.val tyR],[.val .bool]⟩
def ψ2p.ctr:Ctr:=⟨ψ2p.sig,fun x=>ψ2p.f x⟩
def ψ2p.env:Env:=[(40,[ψ3S.ctr]),(62,[ψ2Z.ctr])]
def ψ2p.ann:Ann:=⟨[],[],[(1,[(.normal,[(1,.ptr tyR)]),(.ret,[(2,.val .bool)])]),(4,[(.normal,[(1,.ptr tyR),(18,.val tyI),(19,.val .bool)])])]⟩
theorem ψ2p.ok:φ4 Tryz.prog 141 ψ2p.ctr:=fS (A:=ψ2p.ann) (eC ψ3S.ok (eC ψ2Z.ok φ5.nil)) Tryz.func141 (by kernel_rfl) (by kernel_rfl) (fun x=>by kernel_rfl)
def ψ2y.sig:Sig:=⟨[.val tyR],[.val .str]⟩
def ψ2y.ctr:Ctr:=⟨ψ2y.sig,fun x=>ψ2y.f x⟩
def ψ2y.env:Env:=[(138,[ψ36.ctr]),(139,[ψ2T.ctr]),(141,[ψ2p.ctr])]
def ψ2y.ann:Ann:=⟨[],[],[(5,[(.normal,[(1,.ptr tyR),(3,.val .str),(15,.val tyI),(16,.val .bool)])])]⟩
theorem ψ2y.ok:φ4 Tryz.prog 98 ψ2y.ctr:=fS (A:=ψ2y.ann) (eC ψ36.ok (eC ψ2T.ok (eC ψ2p.ok φ5.nil))) Tryz.func98 (by kernel_rfl) (by kernel_rfl) (fun x=>by kernel_rfl)
def ψ2m.sig:Sig:=⟨[.val .str],[.val tyR,.val .bool]⟩
def ψ2m.ctr:Ctr:=⟨ψ2m.sig,fun x=>ψ2m.f x⟩
def ψ2m.env:Env:=[(94,[ψ2n.ctr]),(96,[ψ3f.ctr]),(97,[ψ2k.ctr]),(98,[ψ2y.ctr])]
def ψ2m.ann:Ann:=⟨[],[(0,[(.normal,[(0,.val .str),(2,.ptr tyR),(8,.ptr tyR)])])],[(12,[(.normal,[(0,.val .str),(2,.ptr tyR),(8,.ptr tyR),(9,.val .str),(50,.val tyI),(67,.val .bool)])]),(18,[(.normal,[(0,.val .str),(2,.ptr tyR),(8,.ptr tyR)])])]⟩
theorem ψ2m.ok:φ4 Tryz.prog 65 ψ2m.ctr:=fS (A:=ψ2m.ann) (eC ψ2n.ok (eC ψ3f.ok (eC ψ2k.ok (eC ψ2y.ok φ5.nil)))) Tryz.func65 (by kernel_rfl) (by kernel_rfl) (fun x=>by kernel_rfl)
def ψ2u.sig:Sig:=⟨[.val .str],[.val (.sl true (.pair tyI (.pair tyI tyR))),.val tyI]⟩
def ψ2u.ctr:Ctr:=⟨ψ2u.sig,fun x=>ψ2u.f x⟩
def ψ2u.env:Env:=[(64,[ψ34.ctr]),(65,[ψ2m.ctr])]
def ψ2u.ann:Ann:=⟨[(0,([(0,.val .str),(4,.val (.sl true (.pair tyI (.pair tyI tyR)))),(5,.val tyI)],[(.exit 0,[(4,.val (.sl true (.pair tyI (.pair tyI tyR)))),(5,.val tyI)]),(.ret,[(2,.val (.sl true (.pair tyI (.pair tyI tyR)))),(3,.val tyI)])]))],[],[]⟩
theorem ψ2u.ok:φ4 Tryz.prog 43 ψ2u.ctr:=fS (A:=ψ2u.ann) (eC ψ34.ok (eC ψ2m.ok φ5.nil)) Tryz.func43 (by kernel_rfl) (by kernel_rfl) (fun x=>by kernel_rfl)
def ψ2o.sig:Sig:=⟨[.val .str,.val tyI,.val tyI],[.val tyR,.val .bool]⟩
def ψ2o.ctr:Ctr:=⟨ψ2o.sig,fun x=>ψ2o.f x.1 x.2.1 x.2.2⟩
def ψ2o.env:Env:=[(40,[ψ3S.ctr]),(64,[ψ34.ctr]),(65,[ψ2m.ctr])]
def ψ2o.ann:Ann:=⟨[],[],[]⟩
theorem ψ2o.ok:φ4 Tryz.prog 44 ψ2o.ctr:=fS (A:=ψ2o.ann) (eC ψ3S.ok (eC ψ34.ok (eC ψ2m.ok φ5.nil))) Tryz.func44 (by kernel_rfl) (by kernel_rfl) (fun x=>by kernel_rfl)
def ψ2z.sig:Sig:=⟨[.val tys,.val tyd],[.val .bool]⟩
def ψ2z.ctr:Ctr:=⟨ψ2z.sig,fun x=>ψ2z.f x.1 x.2⟩
def ψ2z.env:Env:=[(19,[ψ2P.ctr]),(38,[ψ2a.ctr]),(39,[ψ2O.ctr]),(40,[ψ3S.ctr]),(41,[ψ2S.ctr]),(42,[ψ2v.ctr]),(43,[ψ2u.ctr]),(44,[ψ2o.ctr])]
def ψ2z.ann:Ann:=⟨[(0,([(2,.ptr tys),(3,.ptr tyd),(5,.val tyI)],[(.exit 0,[(2,.ptr tys),(3,.ptr tyd)]),(.ret,[(4,.val .bool)])])),(2,([(2,.ptr tys),(3,.ptr tyd),(10,.val tyI)],[(.exit 2,[]),(.ret,[(4,.val .bool)])]))],[],[(8,[(.normal,[(2,.ptr tys),(3,.ptr tyd),(5,.val tyI)]),(.ret,[(4,.val .bool)])]),(16,[(.normal,[(2,.ptr tys),(3,.ptr tyd),(10,.val tyI)]),(.ret,[(4,.val .bool)])])]⟩
theorem ψ2z.ok:φ4 Tryz.prog 18 ψ2z.ctr:=fS (A:=ψ2z.ann) (eC ψ2P.ok (eC ψ2a.ok (eC ψ2O.ok (eC ψ3S.ok (eC ψ2S.ok (eC ψ2v.ok (eC ψ2u.ok (eC ψ2o.ok φ5.nil)))))))) Tryz.func18 (by kernel_rfl) (by kernel_rfl) (fun x=>by kernel_rfl)
def ψ2c.sig:Sig:=⟨[],[.val (.pair .bool (.pair (.sl true tyF) (.pair tyI (.sl true (.pair .bool (.pair (.sl false (.pair .str tyI)) (.sl false tyP)))))))]⟩
def ψ2c.ctr:Ctr:=⟨ψ2c.sig,fun _=>ψ2c.f⟩
def ψ2c.env:Env:=[]
def ψ2c.ann:Ann:=⟨[],[],[]⟩
theorem ψ2c.ok:φ4 Tryz.prog 49 ψ2c.ctr:=fS (A:=ψ2c.ann) φ5.nil Tryz.func49 (by kernel_rfl) (by kernel_rfl) (fun x=>by kernel_rfl)
def ψ3I.sig:Sig:=⟨[.val (.pair .bool (.pair (.sl false (.pair .str tyI)) (.sl false tyP)))],[.val (.pair .bool (.pair (.sl true (.pair .str tyI)) (.sl true tyP)))]⟩
def ψ3I.ctr:Ctr:=⟨ψ3I.sig,fun x=>ψ3I.f x⟩
def ψ3I.env:Env:=[]
def ψ3I.ann:Ann:=⟨[],[],[]⟩
theorem ψ3I.ok:φ4 Tryz.prog 67 ψ3I.ctr:=fS (A:=ψ3I.ann) φ5.nil Tryz.func67 (by kernel_rfl) (by kernel_rfl) (fun x=>by kernel_rfl)
def ψ2N.sig:Sig:=⟨[.val (.sl false tyE)],[.val (.sl true .str)]⟩
def ψ2N.ctr:Ctr:=⟨ψ2N.sig,fun x=>ψ2N.f x⟩
def ψ2N.env:Env:=[]
def ψ2N.ann:Ann:=⟨[(0,([(0,.val (.sl false tyE)),(3,.val (.sl true .str)),(4,.val tyI)],[(.exit 0,[(3,.val (.sl true .str))])]))],[],[]⟩
theorem ψ2N.ok:φ4 Tryz.prog 68 ψ2N.ctr:=fS (A:=ψ2N.ann) φ5.nil Tryz.func68 (by kernel_rfl) (by kernel_rfl) (fun x=>by kernel_rfl)
def ψ3M.sig:Sig:=⟨[.val (.sl false tyF)],[.val (.sl true tyE)]⟩
def ψ3M.ctr:Ctr:=⟨ψ3M.sig,fun x=>ψ3M.f x⟩
def ψ3M.env:Env:=[]
def ψ3M.ann:Ann:=⟨[(0,([(0,.val (.sl false tyF)),(3,.val (.sl true tyE)),(4,.val tyI)],[(.exit 0,[(3,.val (.sl true tyE))])]))],[],[]⟩
theorem ψ3M.ok:φ4 Tryz.prog 69 ψ3M.ctr:=fS (A:=ψ3M.ann) φ5.nil Tryz.func69 (by kernel_rfl) (by kernel_rfl) (fun x=>by kernel_rfl)
def ψ2M.sig:Sig:=⟨[.val (.sl false tyE),.val .str],[.val tyE,.val .bool]⟩
def ψ2M.ctr:Ctr:=⟨ψ2M.sig,fun x=>ψ2M.f x.1 x.2⟩
def ψ2M.env:Env:=[]
def ψ2M.ann:Ann:=⟨[(0,([(0,.val (.sl false tyE)),(1,.val .str),(4,.ptr tyE),(6,.val tyI)],[(.exit 0,[(4,.ptr tyE)]),(.ret,[(4,.ptr tyE),(5,.val .bool)])]))],[],[]⟩
theorem ψ2M.ok:φ4 Tryz.prog 142 ψ2M.ctr:=fS (A:=ψ2M.ann) φ5.nil Tryz.func142 (by kernel_rfl) (by kernel_rfl) (fun x=>by kernel_rfl)
def ψ35.sig:Sig:=⟨[.val (.pair .bool (.pair (.sl false (.pair .str tyI)) (.sl false tyP))),.val (.sl false tyE)],[.val .bool]⟩
def ψ35.ctr:Ctr:=⟨ψ35.sig,fun x=>ψ35.f x.1 x.2⟩
def ψ35.env:Env:=[(142,[ψ2M.ctr])]
def ψ35.ann:Ann:=⟨[(0,([(1,.val (.sl false tyE)),(2,.ptr (.pair .bool (.pair (.sl false (.pair .str tyI)) (.sl false tyP)))),(5,.val tyI)],[(.exit 0,[]),(.ret,[(4,.val .bool)])]))],[],[]⟩
theorem ψ35.ok:φ4 Tryz.prog 99 ψ35.ctr:=fS (A:=ψ35.ann) (eC ψ2M.ok φ5.nil) Tryz.func99 (by kernel_rfl) (by kernel_rfl) (fun x=>by kernel_rfl)
def ψ2h.sig:Sig:=⟨[.val (.pair .bool (.pair (.sl false (.pair .str tyI)) (.sl false tyP))),.val .str],[.val tyP,.val .bool]⟩
def ψ2h.ctr:Ctr:=⟨ψ2h.sig,fun x=>ψ2h.f x.1 x.2⟩
def ψ2h.env:Env:=[]
def ψ2h.ann:Ann:=⟨[(0,([(1,.val .str),(2,.ptr (.pair .bool (.pair (.sl false (.pair .str tyI)) (.sl false tyP)))),(4,.ptr tyP),(6,.val tyI)],[(.exit 0,[(4,.ptr tyP)]),(.ret,[(4,.ptr tyP),(5,.val .bool)])]))],[],[]⟩
theorem ψ2h.ok:φ4 Tryz.prog 102 ψ2h.ctr:=fS (A:=ψ2h.ann) φ5.nil Tryz.func102 (by kernel_rfl) (by kernel_rfl) (fun x=>by kernel_rfl)
def ψ2g.sig:Sig:=⟨[.val (.pair .bool (.pair (.sl false (.pair .str tyI)) (.sl false tyP)))],[.val (.sl true tyP)]⟩
def ψ2g.ctr:Ctr:=⟨ψ2g.sig,fun x=>ψ2g.f x⟩
def ψ2g.env:Env:=[(102,[ψ2h.ctr])]
def ψ2g.ann:Ann:=⟨[(2,([(1,.ptr (.pair .bool (.pair (.sl false (.pair .str tyI)) (.sl false tyP)))),(3,.val (.sl true tyP)),(4,.val tyI),(5,.val .bool),(6,.val tyI)],[(.exit 2,[(1,.ptr (.pair .bool (.pair (.sl false (.pair .str tyI)) (.sl false tyP)))),(3,.val (.sl true tyP)),(4,.val tyI),(5,.val .bool)])])),(0,([(1,.ptr (.pair .bool (.pair (.sl false (.pair .str tyI)) (.sl false tyP)))),(3,.val (.sl true tyP)),(4,.val tyI)],[(.exit 0,[(3,.val (.sl true tyP))])]))],[(3,[(.normal,[(1,.ptr (.pair .bool (.pair (.sl false (.pair .str tyI)) (.sl false tyP)))),(3,.val (.sl true tyP)),(4,.val tyI),(5,.val .bool),(6,.val tyI)])])],[(10,[(.normal,[(1,.ptr (.pair .bool (.pair (.sl false (.pair .str tyI)) (.sl false tyP)))),(3,.val (.sl true tyP)),(4,.val tyI)])])]⟩
theorem ψ2g.ok:φ4 Tryz.prog 100 ψ2g.ctr:=fS (A:=ψ2g.ann) (eC ψ2h.ok φ5.nil) Tryz.func100 (by kernel_rfl) (by kernel_rfl) (fun x=>by kernel_rfl)
def ψ3C.sig:Sig:=⟨[.val (.sl false tyF),.val tyF,.val .bool],[.val (.sl true tyF)]⟩
def ψ3C.ctr:Ctr:=⟨ψ3C.sig,fun x=>ψ3C.f x.1 x.2.1 x.2.2⟩
def ψ3C.env:Env:=[]
def ψ3C.ann:Ann:=⟨[(0,([(0,.val (.sl false tyF)),(4,.ptr tyF),(7,.val (.sl true tyF)),(8,.val .bool),(9,.val tyI)],[(.exit 0,[(4,.ptr tyF),(7,.val (.sl true tyF)),(8,.val .bool)])]))],[(1,[(.normal,[(0,.val (.sl false tyF)),(4,.ptr tyF),(7,.val (.sl true tyF)),(8,.val .bool),(9,.val tyI)])])],[(7,[(.normal,[(0,.val (.sl false tyF)),(4,.ptr tyF),(7,.val (.sl true tyF)),(8,.val .bool),(9,.val tyI)])])]⟩
theorem ψ3C.ok:φ4 Tryz.prog 143 ψ3C.ctr:=fS (A:=ψ3C.ann) φ5.nil Tryz.func143 (by kernel_rfl) (by kernel_rfl) (fun x=>by kernel_rfl)
def ψ2U.sig:Sig:=⟨[.val (.sl false tyF),.val (.sl false tyP),.val tyI],[.val (.sl true tyF)]⟩
def ψ2U.ctr:Ctr:=⟨ψ2U.sig,fun x=>ψ2U.f x.1 x.2.1 x.2.2⟩
def ψ2U.env:Env:=[(143,[ψ3C.ctr])]
def ψ2U.ann:Ann:=⟨[(0,([(1,.val (.sl false tyP)),(2,.val tyI),(7,.val (.sl true tyF)),(8,.val tyI)],[(.exit 0,[(7,.val (.sl true tyF))])]))],[],[]⟩
theorem ψ2U.ok:φ4 Tryz.prog 101 ψ2U.ctr:=fS (A:=ψ2U.ann) (eC ψ3C.ok φ5.nil) Tryz.func101 (by kernel_rfl) (by kernel_rfl) (fun x=>by kernel_rfl)
def ψ3L.sig:Sig:=⟨[.val (.pair .bool (.pair (.sl false tyF) (.pair tyI (.sl false (.pair .bool (.pair (.sl false (.pair .str tyI)) (.sl false tyP))))))),.val (.pair .bool (.pair (.sl false (.pair .str tyI)) (.sl false tyP)))],[.val (.pair .bool (.pair (.sl false tyF) (.pair tyI (.sl false (.pair .bool (.pair (.sl false (.pair .str tyI)) (.sl false tyP))))))),.val (.pair tyI (.pair .str (.sl true .str)))]⟩
def ψ3L.ctr:Ctr:=⟨ψ3L.sig,fun x=>ψ3L.f x.1 x.2⟩
def ψ3L.env:Env:=[(69,[ψ3M.ctr]),(99,[ψ35.ctr]),(100,[ψ2g.ctr]),(101,[ψ2U.ctr])]
def ψ3L.ann:Ann:=⟨[],[],[]⟩
theorem ψ3L.ok:φ4 Tryz.prog 70 ψ3L.ctr:=fS (A:=ψ3L.ann) (eC ψ3M.ok (eC ψ35.ok (eC ψ2g.ok (eC ψ2U.ok φ5.nil)))) Tryz.func70 (by kernel_rfl) (by kernel_rfl) (fun x=>by kernel_rfl)
def ψ3N.sig:Sig:=⟨[.val (.sl false tyF),.val .str],[.val tyF,.val tyI]⟩
def ψ3N.ctr:Ctr:=⟨ψ3N.sig,fun x=>ψ3N.f x.1 x.2⟩
def ψ3N.env:Env:=[]
def ψ3N.ann:Ann:=⟨[(0,([(0,.val (.sl false tyF)),(1,.val .str),(4,.ptr tyF),(6,.val tyI)],[(.exit 0,[(4,.ptr tyF)]),(.ret,[(4,.ptr tyF),(5,.val tyI)])]))],[],[]⟩
theorem ψ3N.ok:φ4 Tryz.prog 103 ψ3N.ctr:=fS (A:=ψ3N.ann) φ5.nil Tryz.func103 (by kernel_rfl) (by kernel_rfl) (fun x=>by kernel_rfl)
def ψ32.sig:Sig:=⟨[.val (.pair .bool (.pair (.sl false (.pair .str tyI)) (.sl false tyP))),.val .str,.val tyI],[.val (.pair .bool (.pair (.sl true (.pair .str tyI)) (.sl true tyP))),.val tyI]⟩
def ψ32.ctr:Ctr:=⟨ψ32.sig,fun x=>ψ32.f x.1 x.2.1 x.2.2⟩
def ψ32.env:Env:=[(62,[ψ2Z.ctr]),(67,[ψ3I.ctr])]
def ψ32.ann:Ann:=⟨[(0,([(1,.val .str),(2,.val tyI),(3,.ptr (.pair .bool (.pair (.sl false (.pair .str tyI)) (.sl false tyP)))),(6,.ptr (.pair .bool (.pair (.sl true (.pair .str tyI)) (.sl true tyP)))),(8,.ptr (.pair .bool (.pair (.sl true (.pair .str tyI)) (.sl true tyP)))),(9,.val tyI)],[(.exit 0,[(1,.val .str),(2,.val tyI),(3,.ptr (.pair .bool (.pair (.sl false (.pair .str tyI)) (.sl false tyP)))),(6,.ptr (.pair .bool (.pair (.sl true (.pair .str tyI)) (.sl true tyP)))),(8,.ptr (.pair .bool (.pair (.sl true (.pair .str tyI)) (.sl true tyP))))]),(.ret,[(6,.ptr (.pair .bool (.pair (.sl true (.pair .str tyI)) (.sl true tyP)))),(7,.val tyI)])]))],[],[]⟩
theorem ψ32.ok:φ4 Tryz.prog 104 ψ32.ctr:=fS (A:=ψ32.ann) (eC ψ2Z.ok (eC ψ3I.ok φ5.nil)) Tryz.func104 (by kernel_rfl) (by kernel_rfl) (fun x=>by kernel_rfl)
def ψ3O.sig:Sig:=⟨[.val (.pair .bool (.pair (.sl false tyF) (.pair tyI (.sl true (.pair .bool (.pair (.sl false (.pair .str tyI)) (.sl false tyP))))))),.val (.pair tyI (.pair tyI tyF)),.val (.pair .bool (.pair (.sl false (.pair .str tyI)) (.sl false tyP)))],[.val (.pair .bool (.pair (.sl false tyF) (.pair tyI (.sl true (.pair .bool (.pair (.sl false (.pair .str tyI)) (.sl false tyP))))))),.val (.pair tyI (.pair .str (.sl true .str)))]⟩
def ψ3O.ctr:Ctr:=⟨ψ3O.sig,fun x=>ψ3O.f x.1 x.2.1 x.2.2⟩
def ψ3O.env:Env:=[(62,[ψ2Z.ctr]),(102,[ψ2h.ctr]),(103,[ψ3N.ctr]),(104,[ψ32.ctr])]
def ψ3O.ann:Ann:=⟨[],[],[(4,[(.normal,[(3,.ptr (.pair .bool (.pair (.sl false tyF) (.pair tyI (.sl true (.pair .bool (.pair (.sl false (.pair .str tyI)) (.sl false tyP)))))))),(4,.ptr (.pair tyI (.pair tyI tyF))),(5,.ptr (.pair .bool (.pair (.sl false (.pair .str tyI)) (.sl false tyP)))),(6,.ptr (.pair .bool (.pair (.sl true tyF) (.pair tyI (.sl true (.pair .bool (.pair (.sl false (.pair .str tyI)) (.sl false tyP)))))))),(7,.ptr (.pair tyI (.pair .str (.sl true .str)))),(8,.ptr tyP),(9,.val .bool)]),(.ret,[(6,.ptr (.pair .bool (.pair (.sl false tyF) (.pair tyI (.sl true (.pair .bool (.pair (.sl false (.pair .str tyI)) (.sl false tyP)))))))),(7,.ptr (.pair tyI (.pair .str (.sl true .str))))])])]⟩
theorem ψ3O.ok:φ4 Tryz.prog 71 ψ3O.ctr:=fS (A:=ψ3O.ann) (eC ψ2Z.ok (eC ψ2h.ok (eC ψ3N.ok (eC ψ32.ok φ5.nil)))) Tryz.func71 (by kernel_rfl) (by kernel_rfl) (fun x=>by kernel_rfl)
def ψ2j.sig:Sig:=⟨[.val (.sl false tyP)],[.val .bool]⟩
def ψ2j.ctr:Ctr:=⟨ψ2j.sig,fun x=>ψ2j.f x⟩
def ψ2j.env:Env:=[(62,[ψ2Z.ctr])]
def ψ2j.ann:Ann:=⟨[(0,([(0,.val (.sl false tyP)),(3,.val tyI)],[(.exit 0,[]),(.ret,[(2,.val .bool)])]))],[],[(6,[(.normal,[(0,.val (.sl false tyP)),(3,.val tyI)]),(.ret,[(2,.val .bool)])])]⟩
theorem ψ2j.ok:φ4 Tryz.prog 73 ψ2j.ctr:=fS (A:=ψ2j.ann) (eC ψ2Z.ok φ5.nil) Tryz.func73 (by kernel_rfl) (by kernel_rfl) (fun x=>by kernel_rfl)
def ψ33.sig:Sig:=⟨[.val (.pair .bool (.pair (.sl false (.pair .str tyI)) (.sl false tyP))),.val tyP],[.val (.pair .bool (.pair (.sl true (.pair .str tyI)) (.sl true tyP))),.val .bool]⟩
def ψ33.ctr:Ctr:=⟨ψ33.sig,fun x=>ψ33.f x.1 x.2⟩
def ψ33.env:Env:=[(67,[ψ3I.ctr]),(73,[ψ2j.ctr]),(100,[ψ2g.ctr])]
def ψ33.ann:Ann:=⟨[],[],[]⟩
theorem ψ33.ok:φ4 Tryz.prog 72 ψ33.ctr:=fS (A:=ψ33.ann) (eC ψ3I.ok (eC ψ2j.ok (eC ψ2g.ok φ5.nil))) Tryz.func72 (by kernel_rfl) (by kernel_rfl) (fun x=>by kernel_rfl)
def ψ2e.sig:Sig:=⟨[.val (.pair .bool (.pair (.sl false tyF) (.pair tyI (.sl false (.pair .bool (.pair (.sl false (.pair .str tyI)) (.sl false tyP))))))),.val (.pair tyI (.pair tyI tyF))],[.val (.pair .bool (.pair (.sl false tyF) (.pair tyI (.sl false (.pair .bool (.pair (.sl false (.pair .str tyI)) (.sl false tyP))))))),.val (.pair tyI (.pair .str (.sl true .str)))]⟩
def ψ2e.ctr:Ctr:=⟨ψ2e.sig,fun x=>ψ2e.f x.1 x.2⟩
def ψ2e.env:Env:=[(40,[ψ3S.ctr]),(67,[ψ3I.ctr]),(68,[ψ2N.ctr]),(69,[ψ3M.ctr]),(70,[ψ3L.ctr]),(71,[ψ3O.ctr]),(72,[ψ33.ctr]),(73,[ψ2j.ctr])]
def ψ2e.ann:Ann:=⟨[(0,([(2,.ptr (.pair .bool (.pair (.sl false tyF) (.pair tyI (.sl false (.pair .bool (.pair (.sl false (.pair .str tyI)) (.sl false tyP)))))))),(3,.ptr (.pair tyI (.pair tyI tyF))),(4,.ptr (.pair .bool (.pair (.sl true tyF) (.pair tyI (.sl true (.pair .bool (.pair (.sl false (.pair .str tyI)) (.sl false tyP)))))))),(5,.ptr (.pair tyI (.pair .str (.sl true .str)))),(6,.ptr (.pair .bool (.pair (.sl true tyF) (.pair tyI (.sl true (.pair .bool (.pair (.sl false (.pair .str tyI)) (.sl false tyP)))))))),(7,.val tyI)],[(.exit 0,[(2,.ptr (.pair .bool (.pair (.sl false tyF) (.pair tyI (.sl false (.pair .bool (.pair (.sl false (.pair .str tyI)) (.sl false tyP)))))))),(3,.ptr (.pair tyI (.pair tyI tyF))),(4,.ptr (.pair .bool (.pair (.sl true tyF) (.pair tyI (.sl true (.pair .bool (.pair (.sl false (.pair .str tyI)) (.sl false tyP)))))))),(5,.ptr (.pair tyI (.pair .str (.sl true .str)))),(6,.ptr (.pair .bool (.pair (.sl true tyF) (.pair tyI (.sl true (.pair .bool (.pair (.sl false (.pair .str tyI)) (.sl false tyP))))))))])]))],[],[(28,[(.normal,[(3,.ptr (.pair tyI (.pair tyI tyF))),(4,.ptr (.pair .bool (.pair (.sl true tyF) (.pair tyI (.sl true (.pair .bool (.pair (.sl false (.pair .str tyI)) (.sl false tyP)))))))),(5,.ptr (.pair tyI (.pair .str (.sl true .str)))),(6,.ptr (.pair .bool (.pair (.sl true tyF) (.pair tyI (.sl true (.pair .bool (.pair (.sl false (.pair .str tyI)) (.sl false tyP))))))))]),(.ret,[(4,.ptr (.pair .bool (.pair (.sl true tyF) (.pair tyI (.sl true (.pair .bool (.pair (.sl false (.pair .str tyI)) (.sl false tyP)))))))),(5,.ptr (.pair tyI (.pair .str (.sl true .str))))])])]⟩
theorem ψ2e.ok:φ4 Tryz.prog 50 ψ2e.ctr:=fS (A:=ψ2e.ann) (eC ψ3S.ok (eC ψ3I.ok (eC ψ2N.ok (eC ψ3M.ok (eC ψ3L.ok (eC ψ3O.ok (eC ψ33.ok (eC ψ2j.ok φ5.nil)))))))) Tryz.func50 (by kernel_rfl) (by kernel_rfl) (fun x=>by kernel_rfl)
def ψ2d.sig:Sig:=⟨[.val (.sl false (.pair tyI (.pair tyI tyF)))],[.val (.pair .bool (.pair (.sl false tyF) (.pair tyI (.sl false (.pair .bool (.pair (.sl false (.pair .str tyI)) (.sl false tyP))))))),.val (.sl true (.pair tyI (.pair .str (.sl true .str))))]⟩
def ψ2d.ctr:Ctr:=⟨ψ2d.sig,fun x=>ψ2d.f x⟩
def ψ2d.env:Env:=[(49,[ψ2c.ctr]),(50,[ψ2e.ctr])]
def ψ2d.ann:Ann:=⟨[(0,([(0,.val (.sl false (.pair tyI (.pair tyI tyF)))),(2,.ptr (.pair .bool (.pair (.sl true tyF) (.pair tyI (.sl true (.pair .bool (.pair (.sl false (.pair .str tyI)) (.sl false tyP)))))))),(4,.ptr (.pair .bool (.pair (.sl false tyF) (.pair tyI (.sl false (.pair .bool (.pair (.sl false (.pair .str tyI)) (.sl false tyP)))))))),(5,.val (.sl true (.pair tyI (.pair .str (.sl true .str))))),(6,.val tyI)],[(.exit 0,[(2,.ptr (.pair .bool (.pair (.sl true tyF) (.pair tyI (.sl true (.pair .bool (.pair (.sl false (.pair .str tyI)) (.sl false tyP)))))))),(4,.ptr (.pair .bool (.pair (.sl false tyF) (.pair tyI (.sl false (.pair .bool (.pair (.sl false (.pair .str tyI)) (.sl false tyP)))))))),(5,.val (.sl true (.pair tyI (.pair .str (.sl true .str)))))])]))],[],[]⟩
theorem ψ2d.ok:φ4 Tryz.prog 22 ψ2d.ctr:=fS (A:=ψ2d.ann) (eC ψ2c.ok (eC ψ2e.ok φ5.nil)) Tryz.func22 (by kernel_rfl) (by kernel_rfl) (fun x=>by kernel_rfl)
def ψ2F.sig:Sig:=⟨[.val (.sl false (.int .u8))],[.val .bool]⟩
def ψ2F.ctr:Ctr:=⟨ψ2F.sig,fun x=>ψ2F.f x⟩
def ψ2F.env:Env:=[(8,[ψ2G.ctr]),(9,[ψ2Q.ctr]),(11,[ψg.ctr]),(12,[ψ2H.ctr]),(13,[ψH.ctr]),(14,[ψ2s.ctr]),(15,[ψ2t.ctr]),(18,[ψ2z.ctr]),(22,[ψ2d.ctr])]
def ψ2F.ann:Ann:=⟨[],[],[(4,[(.normal,[(3,.val (.sl false (.pair tyI (.pair tyI tyF))))])])]⟩
theorem ψ2F.ok:φ4 Tryz.prog 7 ψ2F.ctr:=fS (A:=ψ2F.ann) (eC ψ2G.ok (eC ψ2Q.ok (eC ψg.ok (eC ψ2H.ok (eC ψH.ok (eC ψ2s.ok (eC ψ2t.ok (eC ψ2z.ok (eC ψ2d.ok φ5.nil))))))))) Tryz.func7 (by kernel_rfl) (by kernel_rfl) (fun x=>by kernel_rfl)
end
end Go.Proofs.YtleflckegnlgcaaGreatDoor
