import Derived.Test.YtofoicidlhjhiaaGreatDoorShelf
import Derived.Lib.AppendIntMem
import Derived.Test.YtofoicidlhjhiaaGreatDoorRf5
import Derived.Test.YtofoicidlhjhiaaGreatDoorLShutFns
import Derived.Test.YtofoicidlhjhiaaGreatDoorProg
open Option renaming bind_some→bS
open List renaming length_append→lA,append_assoc→aA,mem_cons_of_mem→mC,mem_append→mA,mem_append_right→mR,mem_append_left→mL,mem_cons→mc,drop_eq_getElem_cons→dG,length_take→lT,length_drop→lD,mem_map→mM,length_map→lM,length_cons→lC,length_nil→lN,getElem_mem→gM,map_append→mp,mem_singleton→mZ,mem_cons_self→κ1,take_succ_eq_append_getElem→κ3,length_singleton→κ5,append_nil→κ6,map_cons→κ8,nil_append→κA,drop_zero→κB,take_append_drop→κD,cons_append→κG,foldl_cons→κH,replicate→κI,flatMap_append→κK,nodup_append→κM,all_eq_true→κN,drop_left→κO,take_length→κQ,nodup_cons→κS,range'→κU,pairwise_cons→κZ,not_mem_nil→κc,flatten_cons→κd,foldl_append→κe
open Bool renaming and_eq_true→bA,eq_false_or_eq_true→bE,not_true→nZ,not_false→nF,true_and→tA,not_not→nn,false_eq_true→κ0,true_eq_false→κ7,false_and→κF,or_eq_false_iff→κJ,not_eq_true'→κL,and_true→κP,false_or→κR,or_eq_true→κY
open Int renaming toNat_natCast→tN,ofNat_lt→oL,le_refl→κT
open Nat renaming lt_or_ge→κ2,zero_le→κ4,le_refl→κ9,eq_of_beq_eq_true→κC,lt_of_lt_of_le→κE,zero_add→κV,pow_succ→κW,pow_le_pow_right→κX,mod_eq_of_lt→κb
open Array renaming length_toList→κa
set_option linter.unusedVariables false
set_option linter.unusedSimpArgs false
namespace Go.Proofs.YtofoicidlhjhiaaGreatDoor
noncomputable section
open Go Go.Rf Go.Rf.G Go.Proofs Go.Lib
set_option maxRecDepth 100000
abbrev tyR:Ty:=.pair (.int .i64) (.pair (.int .i64) (.pair .str (.pair .str (.pair (.int .i64) (.int .i64)))))
abbrev tyE:Ty:=.pair .str (.pair (.int .i64) (.pair (.int .i64) (.pair (.int .i64) (.int .i64))))
abbrev tyF:Ty:=.pair .str (.pair .str (.int .i64))
abbrev tyP:Ty:=.pair .str (.pair .bool .str)
abbrev tyD:Ty:=.pair (.sl true tyF) (.pair (.int .i64) (.pair (.int .i64) .bool))
abbrev tyS:Ty:=.pair (.pair (.int .i64) (.sl true (.int .i64))) (.pair (.sl true tyE) (.pair (.int .i64) (.pair (.int .i64) (.int .i64))))
abbrev tyd:Ty:=.pair (.sl false tyF) (.pair (.int .i64) (.pair (.int .i64) .bool))
abbrev tys:Ty:=.pair (.pair (.int .i64) (.sl false (.int .i64))) (.pair (.sl false tyE) (.pair (.int .i64) (.pair (.int .i64) (.int .i64))))
abbrev tyI:Ty:=.int .i64
def φ9P (f:Func):Code:=f.body.getD .skip
def tab:Tab:=[(3,⟨tyI,false,[],none,8,false⟩),
 (4,⟨.bool,false,[],none,1,false⟩),
 (5,⟨(.int .u8),false,[],none,1,false⟩),
 (9,⟨.str,false,[],none,16,false⟩),
 (22,⟨(.sl true (.int .u8)),false,[],some 5,24,false⟩),
 (24,⟨(.sl true tyI),false,[],some 3,24,false⟩),
 (26,⟨(.pair tyI (.sl true tyI)),true,[(0,1,false),(1,1,false)],none,32,false⟩),
 (27,⟨(.sl true tyE),false,[],some 81,24,false⟩),
 (29,⟨tyS,true,[(0,2,true),(2,1,false),(3,1,false),(4,1,false),(5,1,false)],none,80,false⟩),
 (30,⟨(.sl true tyF),false,[],some 64,24,false⟩),
 (32,⟨tyD,true,[(0,1,false),(1,1,false),(2,1,false),(3,1,false)],none,48,false⟩),
 (33,⟨(.sl true (.pair .bool (.pair (.sl true (.pair .str tyI)) (.sl true tyP)))),false,[],some 52,24,false⟩),
 (35,⟨(.pair .bool (.pair tyS (.pair tyD (.sl true (.pair .bool (.pair (.sl true (.pair .str tyI)) (.sl true tyP))))))),true,[(0,1,false),(1,6,true),(7,4,true),(11,1,false)],none,160,false⟩),
 (37,⟨(.pair tyI (.pair tyI tyF)),true,[(0,1,false),(1,1,false),(2,1,false),(3,1,false),(4,1,false)],none,56,true⟩),
 (40,⟨(.sl true tyF),false,[],some 66,24,false⟩),
 (43,⟨(.sl true .str),false,[],some 9,24,false⟩),
 (45,⟨(.pair tyI (.pair .str (.sl true .str))),true,[(0,1,false),(1,1,false),(2,1,false)],none,48,false⟩),
 (49,⟨(.sl true (.pair .str tyI)),false,[],some 173,24,false⟩),
 (50,⟨(.sl true tyP),false,[],some 96,24,false⟩),
 (52,⟨(.pair .bool (.pair (.sl true (.pair .str tyI)) (.sl true tyP))),true,[(0,1,false),(1,1,false),(2,1,false)],none,56,false⟩),
 (64,⟨tyF,true,[(0,1,false),(1,1,false),(2,1,false)],none,40,true⟩),
 (66,⟨tyF,true,[(0,1,false),(1,1,false),(2,1,false)],none,40,true⟩),
 (68,⟨(.pair (.sl true (.int .u8)) (.pair tyI tyI)),true,[(0,1,false),(1,1,false),(2,1,false)],none,40,false⟩),
 (72,⟨(.sl true (.pair tyI (.pair tyI tyF))),false,[],some 37,24,false⟩),
 (81,⟨tyE,true,[(0,1,false),(1,1,false),(2,1,false),(3,1,false),(4,1,false)],none,48,true⟩),
 (93,⟨(.sl true .bool),false,[],some 4,24,false⟩),
 (96,⟨tyP,true,[(0,1,false),(1,1,false),(2,1,false)],none,40,true⟩),
 (107,⟨tyR,true,[(0,1,false),(1,1,false),(2,1,false),(3,1,false),(4,1,false),(5,1,false)],none,64,true⟩),
 (116,⟨(.pair tyD tyI),true,[(0,4,true),(4,1,false)],none,56,false⟩),
 (128,⟨(.sl true (.pair tyI (.pair tyI tyR))),false,[],some 181,24,false⟩),
 (136,⟨(.pair (.sl true tyE) (.pair tyI tyI)),true,[(0,1,false),(1,1,false),(2,1,false)],none,40,false⟩),
 (137,⟨(.sl true (.pair tyI (.pair tyI (.pair tyI tyR)))),false,[],some 191,24,false⟩),
 (139,⟨(.pair tyI (.pair tyI (.sl true tyE))),true,[(0,1,false),(1,1,false),(2,1,false)],none,40,false⟩),
 (162,⟨(.sl true tyR),false,[],some 107,24,false⟩),
 (173,⟨(.pair .str tyI),true,[(0,1,false),(1,1,false)],none,24,true⟩),
 (181,⟨(.pair tyI (.pair tyI tyR)),true,[(0,1,false),(1,1,false),(2,6,true)],none,80,true⟩),
 (191,⟨(.pair tyI (.pair tyI (.pair tyI tyR))),true,[(0,1,false),(1,1,false),(2,1,false),(3,6,true)],none,88,true⟩),
 (206,⟨(.sl true (.sl true (.pair tyI (.pair tyI (.pair tyI tyR))))),false,[],some 137,24,false⟩),
 (220,⟨(.pair .str .bool),true,[(0,1,false),(1,1,false)],none,24,true⟩),
 (249,⟨(.int .u32),false,[],none,4,false⟩),
 (253,⟨.box none .bool,false,[],none,16,false⟩)]
theorem tabOk:φ1X Tryz.prog tab:=Rf.tabOk (by kernel_rfl)
theorem φKN:Tryz.prog.follows .mixedOrders=true:=by kernel_rfl
instance laid:Laid:=φKZ (φKq Tryz.prog "internal/strconv.uint64pow10" .u64 Lib.pow10Tab) (φJn 1 2)
theorem eC {g:Nat} {c:Ctr} {E:Env} (h:φ3 Tryz.prog g c) (k:φ4 Tryz.prog E):φ4 Tryz.prog ((g,[c])::E):=φ4.cons (φJB h φIb) k
theorem fS {A:Ann} {E:Env} {g:Nat} {fn:Func} {ctr:Ctr} (hE:φ4 Tryz.prog E) (hf:Tryz.prog.funcs[g]?=some fn) (hn:(fn.name == "runtime.NumGoroutine")=false) (hb:fn.body=some (φ9P fn)) (hev:∀x,evF tab E A ctr.g fn.ntmps fn.results.toList (φ9P fn) x=ctr.fn x):φ3 Tryz.prog g ctr:=φKs (A:=A) tabOk hE φKN (fn:=fn) (body:=φ9P fn) hf hn hb hev
def ψ29.sig:Sig:=⟨[.val (.sl false (.int .u8))],[.val .bool]⟩
def ψ29.ctr:Ctr:=⟨ψ29.sig,fun x=>ψ29.f x⟩
def ψ29.env:Env:=[]
def ψ29.ann:Ann:=⟨[],[],[]⟩
theorem ψ29.ok:φ3 Tryz.prog 4 ψ29.ctr:=fS (A:=ψ29.ann) φ4.nil Tryz.func4 (by kernel_rfl) (by kernel_rfl) (fun x=>by kernel_rfl)
def ψ3f.sig:Sig:=⟨[.val (.sl false (.int .u8))],[.ptr (.pair (.sl false (.int .u8)) (.pair tyI tyI))]⟩
def ψ3f.ctr:Ctr:=⟨ψ3f.sig,fun x=>ψ3f.f x⟩
def ψ3f.env:Env:=[]
def ψ3f.ann:Ann:=⟨[(0,([(0,.val (.sl false (.int .u8))),(3,.val tyI),(4,.val tyI)],[(.exit 0,[(0,.val (.sl false (.int .u8))),(3,.val tyI)])]))],[],[]⟩
theorem ψ3f.ok:φ3 Tryz.prog 11 ψ3f.ctr:=fS (A:=ψ3f.ann) φ4.nil Tryz.func11 (by kernel_rfl) (by kernel_rfl) (fun x=>by kernel_rfl)
def ψ3d.sig:Sig:=⟨[.ptr (.pair (.sl false (.int .u8)) (.pair tyI tyI))],[.val tyI]⟩
def ψ3d.ctr:Ctr:=⟨ψ3d.sig,fun x=>ψ3d.f x⟩
def ψ3d.env:Env:=[]
def ψ3d.ann:Ann:=⟨[],[],[]⟩
theorem ψ3d.ok:φ3 Tryz.prog 27 ψ3d.ctr:=fS (A:=ψ3d.ann) φ4.nil Tryz.func27 (by kernel_rfl) (by kernel_rfl) (fun x=>by kernel_rfl)
def ψ3c.sig:Sig:=⟨[.ptr (.pair (.sl false (.int .u8)) (.pair tyI tyI)),.val tyI],[.val tyI]⟩
def ψ3c.ctr:Ctr:=⟨ψ3c.sig,fun x=>ψ3c.f x.1 x.2⟩
def ψ3c.env:Env:=[(27,[ψ3d.ctr])]
def ψ3c.ann:Ann:=⟨[],[],[]⟩
theorem ψ3c.ok:φ3 Tryz.prog 14 ψ3c.ctr:=fS (A:=ψ3c.ann) (eC ψ3d.ok φ4.nil) Tryz.func14 (by kernel_rfl) (by kernel_rfl) (fun x=>by kernel_rfl)
def ψ3i.sig:Sig:=⟨[.ptr (.pair (.sl false (.int .u8)) (.pair tyI tyI)),.val (.sl false tyI)],[.val tyI]⟩
def ψ3i.ctr:Ctr:=⟨ψ3i.sig,fun x=>ψ3i.f x.1 x.2⟩
def ψ3i.env:Env:=[(14,[ψ3c.ctr])]
def ψ3i.ann:Ann:=⟨[],[],[]⟩
theorem ψ3i.ok:φ3 Tryz.prog 15 ψ3i.ctr:=fS (A:=ψ3i.ann) (eC ψ3c.ok φ4.nil) Tryz.func15 (by kernel_rfl) (by kernel_rfl) (fun x=>by kernel_rfl)
def ψ3e.sig:Sig:=⟨[.val tyI,.val tyI,.val tyI],[.val .bool]⟩
def ψ3e.ctr:Ctr:=⟨ψ3e.sig,fun x=>ψ3e.f x.1 x.2.1 x.2.2⟩
def ψ3e.env:Env:=[]
def ψ3e.ann:Ann:=⟨[],[],[]⟩
theorem ψ3e.ok:φ3 Tryz.prog 41 ψ3e.ctr:=fS (A:=ψ3e.ann) φ4.nil Tryz.func41 (by kernel_rfl) (by kernel_rfl) (fun x=>by kernel_rfl)
def ψ3o.sig:Sig:=⟨[.val tyd],[.val tyI]⟩
def ψ3o.ctr:Ctr:=⟨ψ3o.sig,fun x=>ψ3o.f x⟩
def ψ3o.env:Env:=[]
def ψ3o.ann:Ann:=⟨[(0,([(1,.ptr tyd),(3,.val tyI),(4,.val tyI)],[(.exit 0,[(3,.val tyI)])]))],[],[]⟩
theorem ψ3o.ok:φ3 Tryz.prog 88 ψ3o.ctr:=fS (A:=ψ3o.ann) φ4.nil Tryz.func88 (by kernel_rfl) (by kernel_rfl) (fun x=>by kernel_rfl)
def ψ2c.sig:Sig:=⟨[.val .str],[.val .bool]⟩
def ψ2c.ctr:Ctr:=⟨ψ2c.sig,fun x=>ψ2c.f x⟩
def ψ2c.env:Env:=[(41,[ψ3e.ctr])]
def ψ2c.ann:Ann:=⟨[(0,([(0,.val .str),(3,.val tyI)],[(.exit 0,[(0,.val .str)]),(.ret,[(2,.val .bool)])]))],[],[(4,[(.normal,[(0,.val .str),(3,.val tyI)]),(.ret,[(2,.val .bool)])])]⟩
theorem ψ2c.ok:φ3 Tryz.prog 89 ψ2c.ctr:=fS (A:=ψ2c.ann) (eC ψ3e.ok φ4.nil) Tryz.func89 (by kernel_rfl) (by kernel_rfl) (fun x=>by kernel_rfl)
def ψ2L.sig:Sig:=⟨[.val tyd],[.val .bool]⟩
def ψ2L.ctr:Ctr:=⟨ψ2L.sig,fun x=>ψ2L.f x⟩
def ψ2L.env:Env:=[(41,[ψ3e.ctr]),(88,[ψ3o.ctr]),(89,[ψ2c.ctr])]
def ψ2L.ann:Ann:=⟨[(0,([(1,.ptr tyd),(3,.val tyI)],[(.exit 0,[]),(.ret,[(2,.val .bool)])]))],[],[(6,[(.normal,[(1,.ptr tyd),(3,.val tyI)]),(.ret,[(2,.val .bool)])])]⟩
theorem ψ2L.ok:φ3 Tryz.prog 44 ψ2L.ctr:=fS (A:=ψ2L.ann) (eC ψ3e.ok (eC ψ3o.ok (eC ψ2c.ok φ4.nil))) Tryz.func44 (by kernel_rfl) (by kernel_rfl) (fun x=>by kernel_rfl)
def ψ3m.sig:Sig:=⟨[.val tyd,.val .str],[.val tyI]⟩
def ψ3m.ctr:Ctr:=⟨ψ3m.sig,fun x=>ψ3m.f x.1 x.2⟩
def ψ3m.env:Env:=[]
def ψ3m.ann:Ann:=⟨[(0,([(1,.val .str),(2,.ptr tyd),(5,.val tyI)],[(.exit 0,[]),(.ret,[(4,.val tyI)])]))],[],[]⟩
theorem ψ3m.ok:φ3 Tryz.prog 98 ψ3m.ctr:=fS (A:=ψ3m.ann) φ4.nil Tryz.func98 (by kernel_rfl) (by kernel_rfl) (fun x=>by kernel_rfl)
def ψ2R.sig:Sig:=⟨[.val tyd,.val .str],[.val .str,.val .bool]⟩
def ψ2R.ctr:Ctr:=⟨ψ2R.sig,fun x=>ψ2R.f x.1 x.2⟩
def ψ2R.env:Env:=[(44,[ψ2L.ctr]),(98,[ψ3m.ctr])]
def ψ2R.ann:Ann:=⟨[],[],[]⟩
theorem ψ2R.ok:φ3 Tryz.prog 53 ψ2R.ctr:=fS (A:=ψ2R.ann) (eC ψ2L.ok (eC ψ3m.ok φ4.nil)) Tryz.func53 (by kernel_rfl) (by kernel_rfl) (fun x=>by kernel_rfl)
def ψ2E.sig:Sig:=⟨[.val tyI],[.val .str]⟩
def ψ2E.ctr:Ctr:=⟨ψ2E.sig,fun x=>ψ2E.f x⟩
def ψ2E.env:Env:=[]
def ψ2E.ann:Ann:=⟨[(0,([(0,.val tyI),(3,.val .str),(4,.val .bool)],[(.exit 0,[(3,.val .str),(4,.val .bool)])]))],[],[(7,[(.normal,[(0,.val tyI),(3,.val .str),(4,.val .bool),(5,.val tyI)])])]⟩
theorem ψ2E.ok:φ3 Tryz.prog 99 ψ2E.ctr:=fS (A:=ψ2E.ann) φ4.nil Tryz.func99 (by kernel_rfl) (by kernel_rfl) (fun x=>by kernel_rfl)
def ψ2y.sig:Sig:=⟨[.val tyI],[.val .str]⟩
def ψ2y.ctr:Ctr:=⟨ψ2y.sig,fun x=>ψ2y.f x⟩
def ψ2y.env:Env:=[(41,[ψ3e.ctr]),(99,[ψ2E.ctr])]
def ψ2y.ann:Ann:=⟨[],[],[]⟩
theorem ψ2y.ok:φ3 Tryz.prog 54 ψ2y.ctr:=fS (A:=ψ2y.ann) (eC ψ3e.ok (eC ψ2E.ok φ4.nil)) Tryz.func54 (by kernel_rfl) (by kernel_rfl) (fun x=>by kernel_rfl)
def ψ3l.sig:Sig:=⟨[.val tyd],[.val tyD]⟩
def ψ3l.ctr:Ctr:=⟨ψ3l.sig,fun x=>ψ3l.f x⟩
def ψ3l.env:Env:=[]
def ψ3l.ann:Ann:=⟨[],[],[]⟩
theorem ψ3l.ok:φ3 Tryz.prog 73 ψ3l.ctr:=fS (A:=ψ3l.ann) φ4.nil Tryz.func73 (by kernel_rfl) (by kernel_rfl) (fun x=>by kernel_rfl)
def ψ3E.sig:Sig:=⟨[.val tyI],[.val tyI]⟩
def ψ3E.ctr:Ctr:=⟨ψ3E.sig,fun x=>ψ3E.f x⟩
def ψ3E.env:Env:=[]
def ψ3E.ann:Ann:=⟨[],[],[]⟩
theorem ψ3E.ok:φ3 Tryz.prog 78 ψ3E.ctr:=fS (A:=ψ3E.ann) φ4.nil Tryz.func78 (by kernel_rfl) (by kernel_rfl) (fun x=>by kernel_rfl)
def ψ2W.sig:Sig:=⟨[.val tyI],[.val .str]⟩
def ψ2W.ctr:Ctr:=⟨ψ2W.sig,fun x=>ψ2W.f x⟩
def ψ2W.env:Env:=[(41,[ψ3e.ctr]),(99,[ψ2E.ctr])]
def ψ2W.ann:Ann:=⟨[],[],[]⟩
theorem ψ2W.ok:φ3 Tryz.prog 80 ψ2W.ctr:=fS (A:=ψ2W.ann) (eC ψ3e.ok (eC ψ2E.ok φ4.nil)) Tryz.func80 (by kernel_rfl) (by kernel_rfl) (fun x=>by kernel_rfl)
def ψ2j.sig:Sig:=⟨[.val .str],[.val tyI,.val .bool]⟩
def ψ2j.ctr:Ctr:=⟨ψ2j.sig,fun x=>ψ2j.f x⟩
def ψ2j.env:Env:=[(99,[ψ2E.ctr])]
def ψ2j.ann:Ann:=⟨[(0,([(0,.val .str),(4,.val tyI),(5,.val tyI),(6,.val tyI)],[(.exit 0,[(0,.val .str),(4,.val tyI),(5,.val tyI)])]))],[],[(6,[(.normal,[(0,.val .str),(4,.val tyI),(5,.val tyI),(6,.val tyI)])]),(9,[(.normal,[(0,.val .str),(4,.val tyI),(5,.val tyI)])])]⟩
theorem ψ2j.ok:φ3 Tryz.prog 233 ψ2j.ctr:=fS (A:=ψ2j.ann) (eC ψ2E.ok φ4.nil) Tryz.func233 (by kernel_rfl) (by kernel_rfl) (fun x=>by kernel_rfl)
def ψ2Y.sig:Sig:=⟨[.val .str],[.val tyI,.val .bool]⟩
def ψ2Y.ctr:Ctr:=⟨ψ2Y.sig,fun x=>ψ2Y.f x⟩
def ψ2Y.env:Env:=[(54,[ψ2y.ctr]),(80,[ψ2W.ctr]),(233,[ψ2j.ctr])]
def ψ2Y.ann:Ann:=⟨[(0,([(0,.val .str),(4,.val tyI)],[(.exit 0,[]),(.ret,[(2,.val tyI),(3,.val .bool)])]))],[],[(6,[(.normal,[(0,.val .str),(4,.val tyI)]),(.ret,[(2,.val tyI),(3,.val .bool)])]),(4,[(.normal,[(0,.val .str),(4,.val tyI)]),(.ret,[(2,.val tyI),(3,.val .bool)])])]⟩
theorem ψ2Y.ok:φ3 Tryz.prog 199 ψ2Y.ctr:=fS (A:=ψ2Y.ann) (eC ψ2y.ok (eC ψ2W.ok (eC ψ2j.ok φ4.nil))) Tryz.func199 (by kernel_rfl) (by kernel_rfl) (fun x=>by kernel_rfl)
def ψ2f.sig:Sig:=⟨[.val tyd,.val (.pair tyI (.sl false tyI))],[.val (.sl true .str)]⟩
def ψ2f.ctr:Ctr:=⟨ψ2f.sig,fun x=>ψ2f.f x.1 x.2⟩
def ψ2f.env:Env:=[(44,[ψ2L.ctr]),(199,[ψ2Y.ctr])]
def ψ2f.ann:Ann:=⟨[(2,([(2,.ptr tyd),(3,.ptr (.pair tyI (.sl false tyI))),(5,.val (.sl true .str)),(6,.val tyI),(7,.val tyI),(8,.val .bool),(9,.val .bool),(10,.val tyI)],[(.exit 2,[(2,.ptr tyd),(3,.ptr (.pair tyI (.sl false tyI))),(5,.val (.sl true .str)),(6,.val tyI),(8,.val .bool),(9,.val .bool)])])),(0,([(2,.ptr tyd),(3,.ptr (.pair tyI (.sl false tyI))),(5,.val (.sl true .str)),(6,.val tyI)],[(.exit 0,[(5,.val (.sl true .str))])]))],[(3,[(.normal,[(2,.ptr tyd),(3,.ptr (.pair tyI (.sl false tyI))),(5,.val (.sl true .str)),(6,.val tyI),(7,.val tyI),(8,.val .bool),(9,.val .bool),(10,.val tyI)])])],[(13,[(.normal,[(2,.ptr tyd),(3,.ptr (.pair tyI (.sl false tyI))),(5,.val (.sl true .str)),(6,.val tyI)])])]⟩
theorem ψ2f.ok:φ3 Tryz.prog 142 ψ2f.ctr:=fS (A:=ψ2f.ann) (eC ψ2L.ok (eC ψ2Y.ok φ4.nil)) Tryz.func142 (by kernel_rfl) (by kernel_rfl) (fun x=>by kernel_rfl)
def ψ3k.sig:Sig:=⟨[.val tyd],[.val tyD,.val tyI]⟩
def ψ3k.ctr:Ctr:=⟨ψ3k.sig,fun x=>ψ3k.f x⟩
def ψ3k.env:Env:=[(44,[ψ2L.ctr]),(73,[ψ3l.ctr])]
def ψ3k.ann:Ann:=⟨[],[],[]⟩
theorem ψ3k.ok:φ3 Tryz.prog 132 ψ3k.ctr:=fS (A:=ψ3k.ann) (eC ψ2L.ok (eC ψ3l.ok φ4.nil)) Tryz.func132 (by kernel_rfl) (by kernel_rfl) (fun x=>by kernel_rfl)
def ψ3p.sig:Sig:=⟨[.val (.sl false tyF),.val tyI],[.val (.sl true tyF)]⟩
def ψ3p.ctr:Ctr:=⟨ψ3p.sig,fun x=>ψ3p.f x.1 x.2⟩
def ψ3p.env:Env:=[]
def ψ3p.ann:Ann:=⟨[],[],[]⟩
theorem ψ3p.ok:φ3 Tryz.prog 200 ψ3p.ctr:=fS (A:=ψ3p.ann) φ4.nil Tryz.func200 (by kernel_rfl) (by kernel_rfl) (fun x=>by kernel_rfl)
def ψ2s.sig:Sig:=⟨[.val tyd,.val .str],[.val tyD,.val tyI]⟩
def ψ2s.ctr:Ctr:=⟨ψ2s.sig,fun x=>ψ2s.f x.1 x.2⟩
def ψ2s.env:Env:=[(98,[ψ3m.ctr]),(132,[ψ3k.ctr]),(200,[ψ3p.ctr])]
def ψ2s.ann:Ann:=⟨[],[],[]⟩
theorem ψ2s.ok:φ3 Tryz.prog 143 ψ2s.ctr:=fS (A:=ψ2s.ann) (eC ψ3m.ok (eC ψ3k.ok (eC ψ3p.ok φ4.nil))) Tryz.func143 (by kernel_rfl) (by kernel_rfl) (fun x=>by kernel_rfl)
def ψ3J.sig:Sig:=⟨[.val tyd,.val (.pair tyI (.sl false tyI))],[.val tyd,.val tyI]⟩
def ψ3J.ctr:Ctr:=⟨ψ3J.sig,fun x=>ψ3J.f x.1 x.2⟩
def ψ3J.env:Env:=[(78,[ψ3E.ctr]),(142,[ψ2f.ctr]),(143,[ψ2s.ctr])]
def ψ3J.ann:Ann:=⟨[(0,([(2,.ptr tyd),(4,.ptr tyD),(6,.val (.sl true .str)),(7,.val tyI)],[(.exit 0,[(2,.ptr tyd),(4,.ptr tyD)]),(.ret,[(4,.ptr tyD),(5,.val tyI)])]))],[],[]⟩
theorem ψ3J.ok:φ3 Tryz.prog 85 ψ3J.ctr:=fS (A:=ψ3J.ann) (eC ψ3E.ok (eC ψ2f.ok (eC ψ2s.ok φ4.nil))) Tryz.func85 (by kernel_rfl) (by kernel_rfl) (fun x=>by kernel_rfl)
def ψ3n.sig:Sig:=⟨[.val (.sl false tyF),.val tyF],[.val (.sl true tyF)]⟩
def ψ3n.ctr:Ctr:=⟨ψ3n.sig,fun x=>ψ3n.f x.1 x.2⟩
def ψ3n.env:Env:=[]
def ψ3n.ann:Ann:=⟨[(0,([(0,.val (.sl false tyF)),(3,.ptr tyF),(5,.val (.sl true tyF)),(6,.val .bool),(7,.val tyI)],[(.exit 0,[(3,.ptr tyF),(5,.val (.sl true tyF)),(6,.val .bool)])]))],[],[(6,[(.normal,[(0,.val (.sl false tyF)),(3,.ptr tyF),(5,.val (.sl true tyF)),(6,.val .bool),(7,.val tyI)])])]⟩
theorem ψ3n.ok:φ3 Tryz.prog 189 ψ3n.ctr:=fS (A:=ψ3n.ann) φ4.nil Tryz.func189 (by kernel_rfl) (by kernel_rfl) (fun x=>by kernel_rfl)
def ψ2D.sig:Sig:=⟨[.val tyd,.val .str],[.val tyD,.val tyI]⟩
def ψ2D.ctr:Ctr:=⟨ψ2D.sig,fun x=>ψ2D.f x.1 x.2⟩
def ψ2D.env:Env:=[(89,[ψ2c.ctr]),(98,[ψ3m.ctr]),(132,[ψ3k.ctr]),(189,[ψ3n.ctr])]
def ψ2D.ann:Ann:=⟨[],[],[]⟩
theorem ψ2D.ok:φ3 Tryz.prog 128 ψ2D.ctr:=fS (A:=ψ2D.ann) (eC ψ2c.ok (eC ψ3m.ok (eC ψ3k.ok (eC ψ3n.ok φ4.nil)))) Tryz.func128 (by kernel_rfl) (by kernel_rfl) (fun x=>by kernel_rfl)
def ψ2a.sig:Sig:=⟨[.val (.pair tyI (.sl false tyI))],[.val .bool]⟩
def ψ2a.ctr:Ctr:=⟨ψ2a.sig,fun x=>ψ2a.f x⟩
def ψ2a.env:Env:=[(41,[ψ3e.ctr])]
def ψ2a.ann:Ann:=⟨[(0,([(1,.ptr (.pair tyI (.sl false tyI))),(3,.val tyI)],[(.exit 0,[]),(.ret,[(2,.val .bool)])]))],[],[(6,[(.normal,[(1,.ptr (.pair tyI (.sl false tyI))),(3,.val tyI)]),(.ret,[(2,.val .bool)])])]⟩
theorem ψ2a.ok:φ3 Tryz.prog 144 ψ2a.ctr:=fS (A:=ψ2a.ann) (eC ψ3e.ok φ4.nil) Tryz.func144 (by kernel_rfl) (by kernel_rfl) (fun x=>by kernel_rfl)
def ψ3B.sig:Sig:=⟨[.val tyI],[.val .str]⟩
def ψ3B.ctr:Ctr:=⟨ψ3B.sig,fun x=>ψ3B.f x⟩
def ψ3B.env:Env:=[(41,[ψ3e.ctr])]
def ψ3B.ann:Ann:=⟨[(0,([(0,.val tyI),(3,.val (.sl true (.int .u8)))],[(.exit 0,[(0,.val tyI),(3,.val (.sl true (.int .u8)))])]))],[],[]⟩
theorem ψ3B.ok:φ3 Tryz.prog 191 ψ3B.ctr:=fS (A:=ψ3B.ann) (eC ψ3e.ok φ4.nil) Tryz.func191 (by kernel_rfl) (by kernel_rfl) (fun x=>by kernel_rfl)
def ψ2S.sig:Sig:=⟨[.val tyI,.val tyI],[.val .str]⟩
def ψ2S.ctr:Ctr:=⟨ψ2S.sig,fun x=>ψ2S.f x.1 x.2⟩
def ψ2S.env:Env:=[(41,[ψ3e.ctr])]
def ψ2S.ann:Ann:=⟨[(0,([(0,.val tyI),(1,.val tyI),(5,.val .str),(6,.val tyI)],[(.exit 0,[(0,.val tyI),(5,.val .str)])]))],[],[]⟩
theorem ψ2S.ok:φ3 Tryz.prog 193 ψ2S.ctr:=fS (A:=ψ2S.ann) (eC ψ3e.ok φ4.nil) Tryz.func193 (by kernel_rfl) (by kernel_rfl) (fun x=>by kernel_rfl)
def ψ2C.sig:Sig:=⟨[.val .str],[.val tyI]⟩
def ψ2C.ctr:Ctr:=⟨ψ2C.sig,fun x=>ψ2C.f x⟩
def ψ2C.env:Env:=[]
def ψ2C.ann:Ann:=⟨[(2,([(0,.val .str),(3,.val tyI),(4,.val tyI),(5,.val tyI)],[(.exit 2,[(0,.val .str),(3,.val tyI),(4,.val tyI)])])),(0,([(0,.val .str),(3,.val tyI),(4,.val tyI)],[(.exit 0,[(3,.val tyI)])]))],[],[(11,[(.normal,[(0,.val .str),(3,.val tyI),(4,.val tyI),(5,.val tyI)])])]⟩
theorem ψ2C.ok:φ3 Tryz.prog 194 ψ2C.ctr:=fS (A:=ψ2C.ann) φ4.nil Tryz.func194 (by kernel_rfl) (by kernel_rfl) (fun x=>by kernel_rfl)
def ψ2T.sig:Sig:=⟨[.val .str],[.val .str]⟩
def ψ2T.ctr:Ctr:=⟨ψ2T.sig,fun x=>ψ2T.f x⟩
def ψ2T.env:Env:=[(191,[ψ3B.ctr]),(193,[ψ2S.ctr]),(194,[ψ2C.ctr])]
def ψ2T.ann:Ann:=⟨[],[],[]⟩
theorem ψ2T.ok:φ3 Tryz.prog 153 ψ2T.ctr:=fS (A:=ψ2T.ann) (eC ψ3B.ok (eC ψ2S.ok (eC ψ2C.ok φ4.nil))) Tryz.func153 (by kernel_rfl) (by kernel_rfl) (fun x=>by kernel_rfl)
def ψ30.sig:Sig:=⟨[.val (.pair tyI (.sl false tyI))],[.val .str]⟩
def ψ30.ctr:Ctr:=⟨ψ30.sig,fun x=>ψ30.f x⟩
def ψ30.env:Env:=[(144,[ψ2a.ctr]),(153,[ψ2T.ctr]),(191,[ψ3B.ctr])]
def ψ30.ann:Ann:=⟨[(0,([(1,.ptr (.pair tyI (.sl false tyI))),(3,.val .str),(4,.val tyI)],[(.exit 0,[(3,.val .str)])]))],[],[]⟩
theorem ψ30.ok:φ3 Tryz.prog 131 ψ30.ctr:=fS (A:=ψ30.ann) (eC ψ2a.ok (eC ψ2T.ok (eC ψ3B.ok φ4.nil))) Tryz.func131 (by kernel_rfl) (by kernel_rfl) (fun x=>by kernel_rfl)
def ψ34.sig:Sig:=⟨[.val tyd,.val .str],[.val tyD,.val tyI]⟩
def ψ34.ctr:Ctr:=⟨ψ34.sig,fun x=>ψ34.f x.1 x.2⟩
def ψ34.env:Env:=[(98,[ψ3m.ctr]),(132,[ψ3k.ctr])]
def ψ34.ann:Ann:=⟨[],[],[]⟩
theorem ψ34.ok:φ3 Tryz.prog 79 ψ34.ctr:=fS (A:=ψ34.ann) (eC ψ3m.ok (eC ψ3k.ok φ4.nil)) Tryz.func79 (by kernel_rfl) (by kernel_rfl) (fun x=>by kernel_rfl)
def ψ3H.sig:Sig:=⟨[.val tyd,.val .str],[.val tyD,.val tyI]⟩
def ψ3H.ctr:Ctr:=⟨ψ3H.sig,fun x=>ψ3H.f x.1 x.2⟩
def ψ3H.env:Env:=[(98,[ψ3m.ctr]),(128,[ψ2D.ctr]),(143,[ψ2s.ctr])]
def ψ3H.ann:Ann:=⟨[],[],[(1,[(.normal,[(1,.val .str),(2,.ptr tyd),(4,.ptr tyD)]),(.ret,[(4,.ptr tyD),(5,.val tyI)])])]⟩
theorem ψ3H.ok:φ3 Tryz.prog 148 ψ3H.ctr:=fS (A:=ψ3H.ann) (eC ψ3m.ok (eC ψ2D.ok (eC ψ2s.ok φ4.nil))) Tryz.func148 (by kernel_rfl) (by kernel_rfl) (fun x=>by kernel_rfl)
def ψ2A.sig:Sig:=⟨[.val tyd,.val .str,.val .str],[.val tyD,.val tyI]⟩
def ψ2A.ctr:Ctr:=⟨ψ2A.sig,fun x=>ψ2A.f x.1 x.2.1 x.2.2⟩
def ψ2A.env:Env:=[(88,[ψ3o.ctr]),(98,[ψ3m.ctr]),(132,[ψ3k.ctr])]
def ψ2A.ann:Ann:=⟨[],[],[]⟩
theorem ψ2A.ok:φ3 Tryz.prog 202 ψ2A.ctr:=fS (A:=ψ2A.ann) (eC ψ3o.ok (eC ψ3m.ok (eC ψ3k.ok φ4.nil))) Tryz.func202 (by kernel_rfl) (by kernel_rfl) (fun x=>by kernel_rfl)
def ψ3F.sig:Sig:=⟨[.val tyd,.val .str,.val .str],[.val tyD,.val tyI]⟩
def ψ3F.ctr:Ctr:=⟨ψ3F.sig,fun x=>ψ3F.f x.1 x.2.1 x.2.2⟩
def ψ3F.env:Env:=[(79,[ψ34.ctr]),(148,[ψ3H.ctr]),(202,[ψ2A.ctr])]
def ψ3F.ann:Ann:=⟨[],[],[(2,[(.normal,[(1,.val .str),(6,.ptr tyD),(8,.ptr tyD),(9,.val tyI)])])]⟩
theorem ψ3F.ok:φ3 Tryz.prog 149 ψ3F.ctr:=fS (A:=ψ3F.ann) (eC ψ34.ok (eC ψ3H.ok (eC ψ2A.ok φ4.nil))) Tryz.func149 (by kernel_rfl) (by kernel_rfl) (fun x=>by kernel_rfl)
def ψ2t.sig:Sig:=⟨[.val tyd,.val .str,.val .str],[.val tyD,.val tyI]⟩
def ψ2t.ctr:Ctr:=⟨ψ2t.sig,fun x=>ψ2t.f x.1 x.2.1 x.2.2⟩
def ψ2t.env:Env:=[(89,[ψ2c.ctr]),(98,[ψ3m.ctr]),(132,[ψ3k.ctr]),(189,[ψ3n.ctr]),(200,[ψ3p.ctr])]
def ψ2t.ann:Ann:=⟨[],[],[(15,[(.normal,[(6,.ptr tyD),(8,.ptr tyD),(11,.ptr tyF)])])]⟩
theorem ψ2t.ok:φ3 Tryz.prog 190 ψ2t.ctr:=fS (A:=ψ2t.ann) (eC ψ2c.ok (eC ψ3m.ok (eC ψ3k.ok (eC ψ3n.ok (eC ψ3p.ok φ4.nil))))) Tryz.func190 (by kernel_rfl) (by kernel_rfl) (fun x=>by kernel_rfl)
def ψ2h.sig:Sig:=⟨[.val tyd,.val (.pair tyI (.sl false tyI))],[.val tyD,.val tyI]⟩
def ψ2h.ctr:Ctr:=⟨ψ2h.sig,fun x=>ψ2h.f x.1 x.2⟩
def ψ2h.env:Env:=[(44,[ψ2L.ctr]),(73,[ψ3l.ctr]),(78,[ψ3E.ctr]),(131,[ψ30.ctr]),(144,[ψ2a.ctr]),(149,[ψ3F.ctr]),(190,[ψ2t.ctr])]
def ψ2h.ann:Ann:=⟨[],[],[(4,[(.normal,[(4,.ptr tyD),(6,.ptr tyD),(7,.val tyI)])])]⟩
theorem ψ2h.ok:φ3 Tryz.prog 129 ψ2h.ctr:=fS (A:=ψ2h.ann) (eC ψ2L.ok (eC ψ3l.ok (eC ψ3E.ok (eC ψ30.ok (eC ψ2a.ok (eC ψ3F.ok (eC ψ2t.ok φ4.nil))))))) Tryz.func129 (by kernel_rfl) (by kernel_rfl) (fun x=>by kernel_rfl)
def ψ3G.sig:Sig:=⟨[.val tyd],[.val tyS,.val tyd,.val tyI]⟩
def ψ3G.ctr:Ctr:=⟨ψ3G.sig,fun x=>ψ3G.f x⟩
def ψ3G.env:Env:=[(54,[ψ2y.ctr]),(78,[ψ3E.ctr]),(85,[ψ3J.ctr]),(128,[ψ2D.ctr]),(129,[ψ2h.ctr])]
def ψ3G.ann:Ann:=⟨[],[],[]⟩
theorem ψ3G.ok:φ3 Tryz.prog 74 ψ3G.ctr:=fS (A:=ψ3G.ann) (eC ψ2y.ok (eC ψ3E.ok (eC ψ3J.ok (eC ψ2D.ok (eC ψ2h.ok φ4.nil))))) Tryz.func74 (by kernel_rfl) (by kernel_rfl) (fun x=>by kernel_rfl)
def ψ2o.sig:Sig:=⟨[.val .str],[.val tyI,.val tyI]⟩
def ψ2o.ctr:Ctr:=⟨ψ2o.sig,fun x=>ψ2o.f x⟩
def ψ2o.env:Env:=[(191,[ψ3B.ctr])]
def ψ2o.ann:Ann:=⟨[(2,([(0,.val .str),(4,.val tyI),(5,.val tyI),(6,.val tyI)],[(.exit 2,[(0,.val .str),(4,.val tyI),(5,.val tyI)])])),(0,([(0,.val .str),(4,.val tyI)],[(.exit 0,[]),(.ret,[(2,.val tyI),(3,.val tyI)])]))],[],[]⟩
theorem ψ2o.ok:φ3 Tryz.prog 130 ψ2o.ctr:=fS (A:=ψ2o.ann) (eC ψ3B.ok φ4.nil) Tryz.func130 (by kernel_rfl) (by kernel_rfl) (fun x=>by kernel_rfl)
def ψ38.sig:Sig:=⟨[.val .str],[.val .str,.val tyI]⟩
def ψ38.ctr:Ctr:=⟨ψ38.sig,fun x=>ψ38.f x⟩
def ψ38.env:Env:=[(130,[ψ2o.ctr]),(153,[ψ2T.ctr])]
def ψ38.ann:Ann:=⟨[],[],[]⟩
theorem ψ38.ok:φ3 Tryz.prog 100 ψ38.ctr:=fS (A:=ψ38.ann) (eC ψ2o.ok (eC ψ2T.ok φ4.nil)) Tryz.func100 (by kernel_rfl) (by kernel_rfl) (fun x=>by kernel_rfl)
def ψ2m.sig:Sig:=⟨[.val .str],[.val (.pair tyI (.sl false tyI)),.val .bool]⟩
def ψ2m.ctr:Ctr:=⟨ψ2m.sig,fun x=>ψ2m.f x⟩
def ψ2m.env:Env:=[(100,[ψ38.ctr]),(130,[ψ2o.ctr]),(131,[ψ30.ctr])]
def ψ2m.ann:Ann:=⟨[(0,([(0,.val .str),(2,.ptr (.pair tyI (.sl true tyI))),(4,.val .str),(8,.val tyI),(10,.ptr (.pair tyI (.sl true tyI))),(11,.val tyI),(12,.val tyI)],[(.exit 0,[(0,.val .str),(2,.ptr (.pair tyI (.sl true tyI))),(10,.ptr (.pair tyI (.sl true tyI)))])]))],[],[]⟩
theorem ψ2m.ok:φ3 Tryz.prog 75 ψ2m.ctr:=fS (A:=ψ2m.ann) (eC ψ38.ok (eC ψ2o.ok (eC ψ30.ok φ4.nil))) Tryz.func75 (by kernel_rfl) (by kernel_rfl) (fun x=>by kernel_rfl)
def ψ3r.sig:Sig:=⟨[.val .str],[.val .str,.val .str,.val .bool]⟩
def ψ3r.ctr:Ctr:=⟨ψ3r.sig,fun x=>ψ3r.f x⟩
def ψ3r.env:Env:=[(130,[ψ2o.ctr])]
def ψ3r.ann:Ann:=⟨[],[],[]⟩
theorem ψ3r.ok:φ3 Tryz.prog 134 ψ3r.ctr:=fS (A:=ψ3r.ann) (eC ψ2o.ok φ4.nil) Tryz.func134 (by kernel_rfl) (by kernel_rfl) (fun x=>by kernel_rfl)
def ψ2k.sig:Sig:=⟨[.val .str,.val tyI],[.val tyI,.val .bool]⟩
def ψ2k.ctr:Ctr:=⟨ψ2k.sig,fun x=>ψ2k.f x.1 x.2⟩
def ψ2k.env:Env:=[(41,[ψ3e.ctr])]
def ψ2k.ann:Ann:=⟨[(0,([(0,.val .str),(1,.val tyI),(6,.val tyI),(7,.val tyI)],[(.exit 0,[(6,.val tyI)])]))],[],[]⟩
theorem ψ2k.ok:φ3 Tryz.prog 154 ψ2k.ctr:=fS (A:=ψ2k.ann) (eC ψ3e.ok φ4.nil) Tryz.func154 (by kernel_rfl) (by kernel_rfl) (fun x=>by kernel_rfl)
def ψ2Z.sig:Sig:=⟨[.val .str],[.val .bool]⟩
def ψ2Z.ctr:Ctr:=⟨ψ2Z.sig,fun x=>ψ2Z.f x⟩
def ψ2Z.env:Env:=[(41,[ψ3e.ctr])]
def ψ2Z.ann:Ann:=⟨[],[],[]⟩
theorem ψ2Z.ok:φ3 Tryz.prog 92 ψ2Z.ctr:=fS (A:=ψ2Z.ann) (eC ψ3e.ok φ4.nil) Tryz.func92 (by kernel_rfl) (by kernel_rfl) (fun x=>by kernel_rfl)
def ψ2q.sig:Sig:=⟨[.val tyR],[.val .bool]⟩
def ψ2q.ctr:Ctr:=⟨ψ2q.sig,fun x=>ψ2q.f x⟩
def ψ2q.env:Env:=[(41,[ψ3e.ctr]),(92,[ψ2Z.ctr])]
def ψ2q.ann:Ann:=⟨[],[],[(1,[(.normal,[(1,.ptr tyR)]),(.ret,[(2,.val .bool)])]),(4,[(.normal,[(1,.ptr tyR),(18,.val tyI),(19,.val .bool)])])]⟩
theorem ψ2q.ok:φ3 Tryz.prog 206 ψ2q.ctr:=fS (A:=ψ2q.ann) (eC ψ3e.ok (eC ψ2Z.ok φ4.nil)) Tryz.func206 (by kernel_rfl) (by kernel_rfl) (fun x=>by kernel_rfl)
def ψ31.sig:Sig:=⟨[.val tyR],[.val .str]⟩
def ψ31.ctr:Ctr:=⟨ψ31.sig,fun x=>ψ31.f x⟩
def ψ31.env:Env:=[(191,[ψ3B.ctr]),(193,[ψ2S.ctr]),(206,[ψ2q.ctr])]
def ψ31.ann:Ann:=⟨[],[],[(5,[(.normal,[(1,.ptr tyR),(3,.val .str),(15,.val tyI),(16,.val .bool)])])]⟩
theorem ψ31.ok:φ3 Tryz.prog 155 ψ31.ctr:=fS (A:=ψ31.ann) (eC ψ3B.ok (eC ψ2S.ok (eC ψ2q.ok φ4.nil))) Tryz.func155 (by kernel_rfl) (by kernel_rfl) (fun x=>by kernel_rfl)
def ψ2n.sig:Sig:=⟨[.val .str],[.val tyR,.val .bool]⟩
def ψ2n.ctr:Ctr:=⟨ψ2n.sig,fun x=>ψ2n.f x⟩
def ψ2n.env:Env:=[(130,[ψ2o.ctr]),(134,[ψ3r.ctr]),(154,[ψ2k.ctr]),(155,[ψ31.ctr])]
def ψ2n.ann:Ann:=⟨[],[(0,[(.normal,[(0,.val .str),(2,.ptr tyR),(8,.ptr tyR)])])],[(12,[(.normal,[(0,.val .str),(2,.ptr tyR),(8,.ptr tyR),(9,.val .str),(50,.val tyI),(67,.val .bool)])]),(18,[(.normal,[(0,.val .str),(2,.ptr tyR),(8,.ptr tyR)])])]⟩
theorem ψ2n.ok:φ3 Tryz.prog 101 ψ2n.ctr:=fS (A:=ψ2n.ann) (eC ψ2o.ok (eC ψ3r.ok (eC ψ2k.ok (eC ψ31.ok φ4.nil)))) Tryz.func101 (by kernel_rfl) (by kernel_rfl) (fun x=>by kernel_rfl)
def ψ2x.sig:Sig:=⟨[.val .str],[.val (.sl true (.pair tyI (.pair tyI tyR))),.val tyI]⟩
def ψ2x.ctr:Ctr:=⟨ψ2x.sig,fun x=>ψ2x.f x⟩
def ψ2x.env:Env:=[(100,[ψ38.ctr]),(101,[ψ2n.ctr])]
def ψ2x.ann:Ann:=⟨[(0,([(0,.val .str),(4,.val (.sl true (.pair tyI (.pair tyI tyR)))),(5,.val tyI)],[(.exit 0,[(4,.val (.sl true (.pair tyI (.pair tyI tyR)))),(5,.val tyI)]),(.ret,[(2,.val (.sl true (.pair tyI (.pair tyI tyR)))),(3,.val tyI)])]))],[],[]⟩
theorem ψ2x.ok:φ3 Tryz.prog 76 ψ2x.ctr:=fS (A:=ψ2x.ann) (eC ψ38.ok (eC ψ2n.ok φ4.nil)) Tryz.func76 (by kernel_rfl) (by kernel_rfl) (fun x=>by kernel_rfl)
def ψ35.sig:Sig:=⟨[.val tyd,.val .str,.val tyI],[.val tyD,.val tyI]⟩
def ψ35.ctr:Ctr:=⟨ψ35.sig,fun x=>ψ35.f x.1 x.2.1 x.2.2⟩
def ψ35.env:Env:=[(41,[ψ3e.ctr]),(98,[ψ3m.ctr]),(132,[ψ3k.ctr])]
def ψ35.ann:Ann:=⟨[],[],[]⟩
theorem ψ35.ok:φ3 Tryz.prog 77 ψ35.ctr:=fS (A:=ψ35.ann) (eC ψ3e.ok (eC ψ3m.ok (eC ψ3k.ok φ4.nil))) Tryz.func77 (by kernel_rfl) (by kernel_rfl) (fun x=>by kernel_rfl)
def ψ3D.sig:Sig:=⟨[.val .str,.val tyI,.val tyI],[.val (.sl true tyI),.val tyI]⟩
def ψ3D.ctr:Ctr:=⟨ψ3D.sig,fun x=>ψ3D.f x.1 x.2.1 x.2.2⟩
def ψ3D.env:Env:=[(130,[ψ2o.ctr])]
def ψ3D.ann:Ann:=⟨[(0,([(0,.val .str),(1,.val tyI),(2,.val tyI),(8,.val (.sl true tyI)),(9,.val tyI)],[(.exit 0,[(1,.val tyI),(8,.val (.sl true tyI))]),(.ret,[(6,.val (.sl true tyI)),(7,.val tyI)])]))],[],[]⟩
theorem ψ3D.ok:φ3 Tryz.prog 133 ψ3D.ctr:=fS (A:=ψ3D.ann) (eC ψ2o.ok φ4.nil) Tryz.func133 (by kernel_rfl) (by kernel_rfl) (fun x=>by kernel_rfl)
def ψ2I.sig:Sig:=⟨[.val (.sl false tyE)],[.val .bool]⟩
def ψ2I.ctr:Ctr:=⟨ψ2I.sig,fun x=>ψ2I.f x⟩
def ψ2I.env:Env:=[(41,[ψ3e.ctr]),(92,[ψ2Z.ctr])]
def ψ2I.ann:Ann:=⟨[(0,([(0,.val (.sl false tyE)),(3,.val tyI)],[(.exit 0,[]),(.ret,[(2,.val .bool)])]))],[],[(7,[(.normal,[(0,.val (.sl false tyE)),(3,.val tyI)]),(.ret,[(2,.val .bool)])])]⟩
theorem ψ2I.ok:φ3 Tryz.prog 145 ψ2I.ctr:=fS (A:=ψ2I.ann) (eC ψ3e.ok (eC ψ2Z.ok φ4.nil)) Tryz.func145 (by kernel_rfl) (by kernel_rfl) (fun x=>by kernel_rfl)
def ψ3C.sig:Sig:=⟨[.val (.pair tyI (.pair tyI (.sl false tyE)))],[.val .bool]⟩
def ψ3C.ctr:Ctr:=⟨ψ3C.sig,fun x=>ψ3C.f x⟩
def ψ3C.env:Env:=[(41,[ψ3e.ctr]),(145,[ψ2I.ctr])]
def ψ3C.ann:Ann:=⟨[(0,([(1,.ptr (.pair tyI (.pair tyI (.sl false tyE)))),(3,.val tyI)],[(.exit 0,[]),(.ret,[(2,.val .bool)])]))],[],[]⟩
theorem ψ3C.ok:φ3 Tryz.prog 192 ψ3C.ctr:=fS (A:=ψ3C.ann) (eC ψ3e.ok (eC ψ2I.ok φ4.nil)) Tryz.func192 (by kernel_rfl) (by kernel_rfl) (fun x=>by kernel_rfl)
def ψ2z.sig:Sig:=⟨[.val (.pair tyI (.pair tyI (.sl false tyE)))],[.val .str]⟩
def ψ2z.ctr:Ctr:=⟨ψ2z.sig,fun x=>ψ2z.f x⟩
def ψ2z.env:Env:=[(191,[ψ3B.ctr]),(192,[ψ3C.ctr]),(193,[ψ2S.ctr]),(194,[ψ2C.ctr])]
def ψ2z.ann:Ann:=⟨[(0,([(1,.ptr (.pair tyI (.pair tyI (.sl false tyE)))),(3,.val .str),(4,.val tyI)],[(.exit 0,[(3,.val .str)])]))],[],[]⟩
theorem ψ2z.ok:φ3 Tryz.prog 135 ψ2z.ctr:=fS (A:=ψ2z.ann) (eC ψ3B.ok (eC ψ3C.ok (eC ψ2S.ok (eC ψ2C.ok φ4.nil)))) Tryz.func135 (by kernel_rfl) (by kernel_rfl) (fun x=>by kernel_rfl)
def ψ2l.sig:Sig:=⟨[.val .str],[.val (.pair tyI (.pair tyI (.sl true tyE))),.val .bool]⟩
def ψ2l.ctr:Ctr:=⟨ψ2l.sig,fun x=>ψ2l.f x⟩
def ψ2l.env:Env:=[(133,[ψ3D.ctr]),(134,[ψ3r.ctr]),(135,[ψ2z.ctr])]
def ψ2l.ann:Ann:=⟨[(0,([(0,.val .str),(2,.ptr (.pair tyI (.pair tyI (.sl true tyE)))),(4,.val (.sl true tyI)),(5,.val tyI),(6,.ptr (.pair tyI (.pair tyI (.sl true tyE)))),(7,.val tyI)],[(.exit 0,[(0,.val .str),(2,.ptr (.pair tyI (.pair tyI (.sl true tyE)))),(6,.ptr (.pair tyI (.pair tyI (.sl true tyE))))]),(.ret,[(2,.ptr (.pair tyI (.pair tyI (.sl true tyE)))),(3,.val .bool)])]))],[],[]⟩
theorem ψ2l.ok:φ3 Tryz.prog 81 ψ2l.ctr:=fS (A:=ψ2l.ann) (eC ψ3D.ok (eC ψ3r.ok (eC ψ2z.ok φ4.nil))) Tryz.func81 (by kernel_rfl) (by kernel_rfl) (fun x=>by kernel_rfl)
def ψ33.sig:Sig:=⟨[.val (.sl false tyR)],[.val tyI]⟩
def ψ33.ctr:Ctr:=⟨ψ33.sig,fun x=>ψ33.f x⟩
def ψ33.env:Env:=[(155,[ψ31.ctr]),(194,[ψ2C.ctr])]
def ψ33.ann:Ann:=⟨[(0,([(0,.val (.sl false tyR)),(3,.val .str),(4,.val tyI)],[(.exit 0,[(3,.val .str)])]))],[],[]⟩
theorem ψ33.ok:φ3 Tryz.prog 195 ψ33.ctr:=fS (A:=ψ33.ann) (eC ψ31.ok (eC ψ2C.ok φ4.nil)) Tryz.func195 (by kernel_rfl) (by kernel_rfl) (fun x=>by kernel_rfl)
def ψ2X.sig:Sig:=⟨[.val tyI,.val .str],[.val (.pair tyI (.pair tyI (.sl true tyE))),.val .bool]⟩
def ψ2X.ctr:Ctr:=⟨ψ2X.sig,fun x=>ψ2X.f x.1 x.2⟩
def ψ2X.env:Env:=[(54,[ψ2y.ctr]),(76,[ψ2x.ctr]),(195,[ψ33.ctr])]
def ψ2X.ann:Ann:=⟨[(0,([(0,.val tyI),(4,.ptr (.pair tyI (.pair tyI (.sl true tyE)))),(6,.val (.sl true (.pair tyI (.pair tyI tyR)))),(8,.ptr (.pair tyI (.pair tyI (.sl true tyE)))),(9,.val (.sl true tyR)),(10,.val tyI)],[(.exit 0,[(4,.ptr (.pair tyI (.pair tyI (.sl true tyE)))),(6,.val (.sl true (.pair tyI (.pair tyI tyR)))),(8,.ptr (.pair tyI (.pair tyI (.sl true tyE)))),(9,.val (.sl true tyR))]),(.ret,[(4,.ptr (.pair tyI (.pair tyI (.sl true tyE)))),(5,.val .bool)])]))],[],[(10,[(.normal,[(0,.val tyI),(4,.ptr (.pair tyI (.pair tyI (.sl true tyE)))),(6,.val (.sl true (.pair tyI (.pair tyI tyR)))),(8,.ptr (.pair tyI (.pair tyI (.sl true tyE)))),(9,.val (.sl true tyR)),(10,.val tyI),(11,.ptr tyR)]),(.ret,[(4,.ptr (.pair tyI (.pair tyI (.sl true tyE)))),(5,.val .bool)])])]⟩
theorem ψ2X.ok:φ3 Tryz.prog 136 ψ2X.ctr:=fS (A:=ψ2X.ann) (eC ψ2y.ok (eC ψ2x.ok (eC ψ33.ok φ4.nil))) Tryz.func136 (by kernel_rfl) (by kernel_rfl) (fun x=>by kernel_rfl)
def ψ2u.sig:Sig:=⟨[.val (.sl false tyE),.val (.sl false tyE)],[.val .bool]⟩
def ψ2u.ctr:Ctr:=⟨ψ2u.sig,fun x=>ψ2u.f x.1 x.2⟩
def ψ2u.env:Env:=[]
def ψ2u.ann:Ann:=⟨[(0,([(0,.val (.sl false tyE)),(1,.val (.sl false tyE)),(5,.val tyI)],[(.exit 0,[]),(.ret,[(4,.val .bool)])]))],[],[]⟩
theorem ψ2u.ok:φ3 Tryz.prog 137 ψ2u.ctr:=fS (A:=ψ2u.ann) φ4.nil Tryz.func137 (by kernel_rfl) (by kernel_rfl) (fun x=>by kernel_rfl)
def ψ2V.sig:Sig:=⟨[.val tyI,.val .str,.val (.pair tyI (.pair tyI (.sl false tyE)))],[.val .bool]⟩
def ψ2V.ctr:Ctr:=⟨ψ2V.sig,fun x=>ψ2V.f x.1 x.2.1 x.2.2⟩
def ψ2V.env:Env:=[(136,[ψ2X.ctr]),(137,[ψ2u.ctr])]
def ψ2V.ann:Ann:=⟨[],[],[]⟩
theorem ψ2V.ok:φ3 Tryz.prog 82 ψ2V.ctr:=fS (A:=ψ2V.ann) (eC ψ2X.ok (eC ψ2u.ok φ4.nil)) Tryz.func82 (by kernel_rfl) (by kernel_rfl) (fun x=>by kernel_rfl)
def ψ3I.sig:Sig:=⟨[.val tyI,.val .str],[.val (.sl true (.pair tyI (.pair tyI (.pair tyI tyR))))]⟩
def ψ3I.ctr:Ctr:=⟨ψ3I.sig,fun x=>ψ3I.f x.1 x.2⟩
def ψ3I.env:Env:=[(76,[ψ2x.ctr])]
def ψ3I.ann:Ann:=⟨[(0,([(0,.val tyI),(5,.val (.sl true (.pair tyI (.pair tyI (.pair tyI tyR))))),(6,.val (.sl true (.pair tyI (.pair tyI tyR)))),(8,.val tyI)],[(.exit 0,[(5,.val (.sl true (.pair tyI (.pair tyI (.pair tyI tyR)))))])]))],[],[]⟩
theorem ψ3I.ok:φ3 Tryz.prog 83 ψ3I.ctr:=fS (A:=ψ3I.ann) (eC ψ2x.ok φ4.nil) Tryz.func83 (by kernel_rfl) (by kernel_rfl) (fun x=>by kernel_rfl)
def ψ3u.sig:Sig:=⟨[.val (.sl false (.pair tyI (.pair tyI (.pair tyI tyR)))),.val tyI,.val tyI],[.val (.sl true (.pair tyI (.pair tyI (.pair tyI tyR))))]⟩
def ψ3u.ctr:Ctr:=⟨ψ3u.sig,fun x=>ψ3u.f x.1 x.2.1 x.2.2⟩
def ψ3u.env:Env:=[]
def ψ3u.ann:Ann:=⟨[(0,([(0,.val (.sl false (.pair tyI (.pair tyI (.pair tyI tyR))))),(1,.val tyI),(2,.val tyI),(7,.val (.sl true (.pair tyI (.pair tyI (.pair tyI tyR))))),(8,.val tyI)],[(.exit 0,[(7,.val (.sl true (.pair tyI (.pair tyI (.pair tyI tyR)))))])]))],[],[(6,[(.normal,[(0,.val (.sl false (.pair tyI (.pair tyI (.pair tyI tyR))))),(1,.val tyI),(2,.val tyI),(7,.val (.sl true (.pair tyI (.pair tyI (.pair tyI tyR))))),(8,.val tyI),(9,.ptr tyR)])]),(8,[(.normal,[(0,.val (.sl false (.pair tyI (.pair tyI (.pair tyI tyR))))),(1,.val tyI),(2,.val tyI),(7,.val (.sl true (.pair tyI (.pair tyI (.pair tyI tyR))))),(8,.val tyI)])])]⟩
theorem ψ3u.ok:φ3 Tryz.prog 138 ψ3u.ctr:=fS (A:=ψ3u.ann) φ4.nil Tryz.func138 (by kernel_rfl) (by kernel_rfl) (fun x=>by kernel_rfl)
def ψ3w.sig:Sig:=⟨[.val (.sl false (.pair tyI (.pair tyI (.pair tyI tyR))))],[.val (.sl true tyR)]⟩
def ψ3w.ctr:Ctr:=⟨ψ3w.sig,fun x=>ψ3w.f x⟩
def ψ3w.env:Env:=[]
def ψ3w.ann:Ann:=⟨[(0,([(0,.val (.sl false (.pair tyI (.pair tyI (.pair tyI tyR))))),(3,.val (.sl true tyR)),(4,.val tyI)],[(.exit 0,[(3,.val (.sl true tyR))])]))],[],[]⟩
theorem ψ3w.ok:φ3 Tryz.prog 196 ψ3w.ctr:=fS (A:=ψ3w.ann) φ4.nil Tryz.func196 (by kernel_rfl) (by kernel_rfl) (fun x=>by kernel_rfl)
def ψ3s.sig:Sig:=⟨[.val tyR,.val (.sl false (.pair tyI (.pair tyI (.pair tyI tyR))))],[.val .bool]⟩
def ψ3s.ctr:Ctr:=⟨ψ3s.sig,fun x=>ψ3s.f x.1 x.2⟩
def ψ3s.env:Env:=[(195,[ψ33.ctr]),(196,[ψ3w.ctr])]
def ψ3s.ann:Ann:=⟨[],[],[]⟩
theorem ψ3s.ok:φ3 Tryz.prog 139 ψ3s.ctr:=fS (A:=ψ3s.ann) (eC ψ33.ok (eC ψ3w.ok φ4.nil)) Tryz.func139 (by kernel_rfl) (by kernel_rfl) (fun x=>by kernel_rfl)
def ψ3t.sig:Sig:=⟨[.val (.sl false (.pair tyI (.pair tyI (.pair tyI tyR)))),.val tyI],[.val (.sl true (.pair tyI (.pair tyI (.pair tyI tyR))))]⟩
def ψ3t.ctr:Ctr:=⟨ψ3t.sig,fun x=>ψ3t.f x.1 x.2⟩
def ψ3t.env:Env:=[]
def ψ3t.ann:Ann:=⟨[(0,([(0,.val (.sl false (.pair tyI (.pair tyI (.pair tyI tyR))))),(1,.val tyI),(5,.val (.sl true (.pair tyI (.pair tyI (.pair tyI tyR))))),(6,.val tyI)],[(.exit 0,[(5,.val (.sl true (.pair tyI (.pair tyI (.pair tyI tyR)))))])]))],[],[(5,[(.normal,[(0,.val (.sl false (.pair tyI (.pair tyI (.pair tyI tyR))))),(1,.val tyI),(5,.val (.sl true (.pair tyI (.pair tyI (.pair tyI tyR))))),(6,.val tyI)])]),(7,[(.normal,[(0,.val (.sl false (.pair tyI (.pair tyI (.pair tyI tyR))))),(1,.val tyI),(5,.val (.sl true (.pair tyI (.pair tyI (.pair tyI tyR))))),(6,.val tyI)])])]⟩
theorem ψ3t.ok:φ3 Tryz.prog 140 ψ3t.ctr:=fS (A:=ψ3t.ann) φ4.nil Tryz.func140 (by kernel_rfl) (by kernel_rfl) (fun x=>by kernel_rfl)
def ψ2F.sig:Sig:=⟨[.val (.sl false tyE),.val .str],[.val (.sl true tyE)]⟩
def ψ2F.ctr:Ctr:=⟨ψ2F.sig,fun x=>ψ2F.f x.1 x.2⟩
def ψ2F.env:Env:=[]
def ψ2F.ann:Ann:=⟨[(0,([(0,.val (.sl false tyE)),(1,.val .str),(5,.val (.sl true tyE)),(6,.val tyI)],[(.exit 0,[(5,.val (.sl true tyE))])]))],[],[(5,[(.normal,[(0,.val (.sl false tyE)),(1,.val .str),(5,.val (.sl true tyE)),(6,.val tyI)])])]⟩
theorem ψ2F.ok:φ3 Tryz.prog 197 ψ2F.ctr:=fS (A:=ψ2F.ann) φ4.nil Tryz.func197 (by kernel_rfl) (by kernel_rfl) (fun x=>by kernel_rfl)
def ψ2J.sig:Sig:=⟨[.val (.sl false tyE),.val tyE],[.val (.sl true tyE)]⟩
def ψ2J.ctr:Ctr:=⟨ψ2J.sig,fun x=>ψ2J.f x.1 x.2⟩
def ψ2J.env:Env:=[]
def ψ2J.ann:Ann:=⟨[(0,([(0,.val (.sl false tyE)),(3,.ptr tyE),(5,.val (.sl true tyE)),(6,.val .bool),(7,.val tyI)],[(.exit 0,[(3,.ptr tyE),(5,.val (.sl true tyE)),(6,.val .bool)])]))],[(1,[(.normal,[(0,.val (.sl false tyE)),(3,.ptr tyE),(5,.val (.sl true tyE)),(6,.val .bool),(7,.val tyI)])])],[(7,[(.normal,[(0,.val (.sl false tyE)),(3,.ptr tyE),(5,.val (.sl true tyE)),(6,.val .bool),(7,.val tyI)])])]⟩
theorem ψ2J.ok:φ3 Tryz.prog 198 ψ2J.ctr:=fS (A:=ψ2J.ann) φ4.nil Tryz.func198 (by kernel_rfl) (by kernel_rfl) (fun x=>by kernel_rfl)
def ψ3v.sig:Sig:=⟨[.val (.sl false tyE),.val (.pair tyI (.pair tyI (.pair tyI tyR)))],[.val (.sl true tyE)]⟩
def ψ3v.ctr:Ctr:=⟨ψ3v.sig,fun x=>ψ3v.f x.1 x.2⟩
def ψ3v.env:Env:=[(197,[ψ2F.ctr]),(198,[ψ2J.ctr])]
def ψ3v.ann:Ann:=⟨[],[],[]⟩
theorem ψ3v.ok:φ3 Tryz.prog 141 ψ3v.ctr:=fS (A:=ψ3v.ann) (eC ψ2F.ok (eC ψ2J.ok φ4.nil)) Tryz.func141 (by kernel_rfl) (by kernel_rfl) (fun x=>by kernel_rfl)
def ψ2r.sig:Sig:=⟨[.val (.pair (.sl false tyE) (.pair tyI tyI)),.val (.sl false (.pair tyI (.pair tyI (.pair tyI tyR))))],[.val (.pair (.sl true tyE) (.pair tyI tyI))]⟩
def ψ2r.ctr:Ctr:=⟨ψ2r.sig,fun x=>ψ2r.f x.1 x.2⟩
def ψ2r.env:Env:=[(138,[ψ3u.ctr]),(139,[ψ3s.ctr]),(140,[ψ3t.ctr]),(141,[ψ3v.ctr])]
def ψ2r.ann:Ann:=⟨[(3,([(1,.val (.sl false (.pair tyI (.pair tyI (.pair tyI tyR))))),(4,.ptr (.pair (.sl true tyE) (.pair tyI tyI))),(5,.ptr (.pair (.sl true tyE) (.pair tyI tyI))),(6,.val tyI),(8,.val (.sl true (.pair tyI (.pair tyI (.pair tyI tyR))))),(9,.val tyI)],[(.exit 3,[(1,.val (.sl false (.pair tyI (.pair tyI (.pair tyI tyR))))),(4,.ptr (.pair (.sl true tyE) (.pair tyI tyI))),(5,.ptr (.pair (.sl true tyE) (.pair tyI tyI))),(6,.val tyI)])])),(0,([(1,.val (.sl false (.pair tyI (.pair tyI (.pair tyI tyR))))),(4,.ptr (.pair (.sl true tyE) (.pair tyI tyI))),(5,.ptr (.pair (.sl true tyE) (.pair tyI tyI))),(6,.val tyI)],[(.exit 0,[(1,.val (.sl false (.pair tyI (.pair tyI (.pair tyI tyR))))),(4,.ptr (.pair (.sl true tyE) (.pair tyI tyI))),(5,.ptr (.pair (.sl true tyE) (.pair tyI tyI)))])]))],[(1,[(.normal,[(1,.val (.sl false (.pair tyI (.pair tyI (.pair tyI tyR))))),(4,.ptr (.pair (.sl true tyE) (.pair tyI tyI))),(5,.ptr (.pair (.sl true tyE) (.pair tyI tyI))),(6,.val tyI)])])],[(9,[(.normal,[(1,.val (.sl false (.pair tyI (.pair tyI (.pair tyI tyR))))),(4,.ptr (.pair (.sl true tyE) (.pair tyI tyI))),(5,.ptr (.pair (.sl true tyE) (.pair tyI tyI))),(6,.val tyI),(8,.val (.sl true (.pair tyI (.pair tyI (.pair tyI tyR)))))]),(.exit 1,[(1,.val (.sl false (.pair tyI (.pair tyI (.pair tyI tyR))))),(4,.ptr (.pair (.sl true tyE) (.pair tyI tyI))),(5,.ptr (.pair (.sl true tyE) (.pair tyI tyI))),(6,.val tyI)])]),(20,[(.normal,[(1,.val (.sl false (.pair tyI (.pair tyI (.pair tyI tyR))))),(4,.ptr (.pair (.sl true tyE) (.pair tyI tyI))),(5,.ptr (.pair (.sl true tyE) (.pair tyI tyI))),(6,.val tyI)])])]⟩
theorem ψ2r.ok:φ3 Tryz.prog 84 ψ2r.ctr:=fS (A:=ψ2r.ann) (eC ψ3u.ok (eC ψ3s.ok (eC ψ3t.ok (eC ψ3v.ok φ4.nil)))) Tryz.func84 (by kernel_rfl) (by kernel_rfl) (fun x=>by kernel_rfl)
def ψ2e.sig:Sig:=⟨[.val tyd],[.val (.pair (.pair tyI (.sl false tyI)) (.pair (.sl true tyE) (.pair tyI (.pair tyI tyI)))),.val tyd,.val tyI]⟩
def ψ2e.ctr:Ctr:=⟨ψ2e.sig,fun x=>ψ2e.f x⟩
def ψ2e.env:Env:=[(44,[ψ2L.ctr]),(53,[ψ2R.ctr]),(54,[ψ2y.ctr]),(73,[ψ3l.ctr]),(74,[ψ3G.ctr]),(75,[ψ2m.ctr]),(76,[ψ2x.ctr]),(77,[ψ35.ctr]),(78,[ψ3E.ctr]),(79,[ψ34.ctr]),(80,[ψ2W.ctr]),(81,[ψ2l.ctr]),(82,[ψ2V.ctr]),(83,[ψ3I.ctr]),(84,[ψ2r.ctr]),(85,[ψ3J.ctr])]
def ψ2e.ann:Ann:=⟨[(0,([(1,.ptr tyd),(2,.ptr tyS),(3,.ptr tyD),(5,.ptr tyS),(8,.ptr (.pair tyI (.sl false tyI))),(9,.val tyI),(10,.val tyI)],[(.exit 0,[(1,.ptr tyd),(2,.ptr tyS),(3,.ptr tyD),(5,.ptr tyS),(8,.ptr (.pair tyI (.sl false tyI))),(9,.val tyI)]),(.ret,[(2,.ptr tyS),(3,.ptr tyD),(4,.val tyI)])])),(2,([(2,.ptr tyS),(3,.ptr tyD),(5,.ptr tyS),(8,.ptr (.pair tyI (.sl false tyI))),(19,.ptr tyD),(23,.ptr (.pair (.pair tyI (.sl false tyI)) (.pair (.sl true tyE) (.pair tyI (.pair tyI tyI))))),(24,.ptr (.pair (.sl true tyE) (.pair tyI tyI))),(25,.val (.sl true (.pair tyI (.pair tyI (.pair tyI tyR))))),(26,.val tyI)],[(.exit 2,[(2,.ptr tyS),(3,.ptr tyD),(5,.ptr tyS),(8,.ptr (.pair tyI (.sl false tyI))),(19,.ptr tyD),(23,.ptr (.pair (.pair tyI (.sl false tyI)) (.pair (.sl true tyE) (.pair tyI (.pair tyI tyI))))),(24,.ptr (.pair (.sl true tyE) (.pair tyI tyI))),(25,.val (.sl true (.pair tyI (.pair tyI (.pair tyI tyR)))))])]))],[(3,[(.normal,[(2,.ptr tyS),(3,.ptr tyD),(5,.ptr tyS),(8,.ptr (.pair tyI (.sl false tyI))),(19,.ptr tyD),(23,.ptr (.pair (.pair tyI (.sl false tyI)) (.pair (.sl true tyE) (.pair tyI (.pair tyI tyI))))),(24,.ptr (.pair (.sl true tyE) (.pair tyI tyI))),(25,.val (.sl true (.pair tyI (.pair tyI (.pair tyI tyR))))),(26,.val tyI)])])],[(18,[(.normal,[(1,.ptr tyd),(2,.ptr tyS),(3,.ptr tyD),(5,.ptr tyS),(8,.ptr (.pair tyI (.sl false tyI))),(9,.val tyI),(10,.val tyI)]),(.ret,[(2,.ptr tyS),(3,.ptr tyD),(4,.val tyI)])]),(23,[(.normal,[(2,.ptr tyS),(3,.ptr tyD),(5,.ptr tyS),(8,.ptr (.pair tyI (.sl false tyI))),(9,.val tyI),(18,.val tyI),(19,.ptr tyD)]),(.ret,[(2,.ptr tyS),(3,.ptr tyD),(4,.val tyI)])]),(40,[(.normal,[(2,.ptr tyS),(3,.ptr tyD),(5,.ptr tyS),(8,.ptr (.pair tyI (.sl false tyI))),(19,.ptr tyD),(23,.ptr (.pair (.pair tyI (.sl false tyI)) (.pair (.sl true tyE) (.pair tyI (.pair tyI tyI))))),(24,.ptr (.pair (.sl true tyE) (.pair tyI tyI))),(25,.val (.sl true (.pair tyI (.pair tyI (.pair tyI tyR))))),(26,.val tyI),(27,.val .str)]),(.exit 3,[(2,.ptr tyS),(3,.ptr tyD),(5,.ptr tyS),(8,.ptr (.pair tyI (.sl false tyI))),(19,.ptr tyD),(23,.ptr (.pair (.pair tyI (.sl false tyI)) (.pair (.sl true tyE) (.pair tyI (.pair tyI tyI))))),(24,.ptr (.pair (.sl true tyE) (.pair tyI tyI))),(25,.val (.sl true (.pair tyI (.pair tyI (.pair tyI tyR))))),(26,.val tyI)])])]⟩
theorem ψ2e.ok:φ3 Tryz.prog 40 ψ2e.ctr:=fS (A:=ψ2e.ann) (eC ψ2L.ok (eC ψ2R.ok (eC ψ2y.ok (eC ψ3l.ok (eC ψ3G.ok (eC ψ2m.ok (eC ψ2x.ok (eC ψ35.ok (eC ψ3E.ok (eC ψ34.ok (eC ψ2W.ok (eC ψ2l.ok (eC ψ2V.ok (eC ψ3I.ok (eC ψ2r.ok (eC ψ3J.ok φ4.nil)))))))))))))))) Tryz.func40 (by kernel_rfl) (by kernel_rfl) (fun x=>by kernel_rfl)
def ψ2P.sig:Sig:=⟨[.val tyd],[.val (.pair .bool (.pair (.pair (.pair tyI (.sl false tyI)) (.pair (.sl true tyE) (.pair tyI (.pair tyI tyI)))) (.pair tyd (.sl true (.pair .bool (.pair (.sl true (.pair .str tyI)) (.sl true tyP))))))),.val tyI]⟩
def ψ2P.ctr:Ctr:=⟨ψ2P.sig,fun x=>ψ2P.f x⟩
def ψ2P.env:Env:=[(40,[ψ2e.ctr])]
def ψ2P.ann:Ann:=⟨[],[],[]⟩
theorem ψ2P.ok:φ3 Tryz.prog 20 ψ2P.ctr:=fS (A:=ψ2P.ann) (eC ψ2e.ok φ4.nil) Tryz.func20 (by kernel_rfl) (by kernel_rfl) (fun x=>by kernel_rfl)
def ψ2K.sig:Sig:=⟨[.val tyI],[.val tyD]⟩
def ψ2K.ctr:Ctr:=⟨ψ2K.sig,fun x=>ψ2K.f x⟩
def ψ2K.env:Env:=[(41,[ψ3e.ctr])]
def ψ2K.ann:Ann:=⟨[],[],[]⟩
theorem ψ2K.ok:φ3 Tryz.prog 21 ψ2K.ctr:=fS (A:=ψ2K.ann) (eC ψ3e.ok φ4.nil) Tryz.func21 (by kernel_rfl) (by kernel_rfl) (fun x=>by kernel_rfl)
def ψ3h.sig:Sig:=⟨[.ptr (.pair (.sl false (.int .u8)) (.pair tyI tyI)),.val (.sl false .str)],[.val .str]⟩
def ψ3h.ctr:Ctr:=⟨ψ3h.sig,fun x=>ψ3h.f x.1 x.2⟩
def ψ3h.env:Env:=[(14,[ψ3c.ctr])]
def ψ3h.ann:Ann:=⟨[],[],[]⟩
theorem ψ3h.ok:φ3 Tryz.prog 26 ψ3h.ctr:=fS (A:=ψ3h.ann) (eC ψ3c.ok φ4.nil) Tryz.func26 (by kernel_rfl) (by kernel_rfl) (fun x=>by kernel_rfl)
def ψ3q.sig:Sig:=⟨[.ptr (.pair (.sl false (.int .u8)) (.pair tyI tyI))],[.val .str]⟩
def ψ3q.ctr:Ctr:=⟨ψ3q.sig,fun x=>ψ3q.f x⟩
def ψ3q.env:Env:=[(26,[ψ3h.ctr])]
def ψ3q.ann:Ann:=⟨[],[],[]⟩
theorem ψ3q.ok:φ3 Tryz.prog 24 ψ3q.ctr:=fS (A:=ψ3q.ann) (eC ψ3h.ok φ4.nil) Tryz.func24 (by kernel_rfl) (by kernel_rfl) (fun x=>by kernel_rfl)
def ψ3j.sig:Sig:=⟨[.ptr (.pair (.sl false (.int .u8)) (.pair tyI tyI)),.val tyI],[.val .str]⟩
def ψ3j.ctr:Ctr:=⟨ψ3j.sig,fun x=>ψ3j.f x.1 x.2⟩
def ψ3j.env:Env:=[(14,[ψ3c.ctr]),(27,[ψ3d.ctr])]
def ψ3j.ann:Ann:=⟨[(0,([(0,.ptr (.pair (.sl false (.int .u8)) (.pair tyI tyI))),(5,.val (.sl true (.int .u8))),(6,.val tyI),(7,.val tyI)],[(.exit 0,[(0,.ptr (.pair (.sl false (.int .u8)) (.pair tyI tyI))),(5,.val (.sl true (.int .u8)))])]))],[],[(7,[(.normal,[(0,.ptr (.pair (.sl false (.int .u8)) (.pair tyI tyI))),(5,.val (.sl true (.int .u8))),(6,.val tyI),(7,.val tyI),(8,.val tyI)])]),(9,[(.normal,[(0,.ptr (.pair (.sl false (.int .u8)) (.pair tyI tyI))),(5,.val (.sl true (.int .u8))),(6,.val tyI),(7,.val tyI),(8,.val tyI)])])]⟩
theorem ψ3j.ok:φ3 Tryz.prog 25 ψ3j.ctr:=fS (A:=ψ3j.ann) (eC ψ3c.ok (eC ψ3d.ok φ4.nil)) Tryz.func25 (by kernel_rfl) (by kernel_rfl) (fun x=>by kernel_rfl)
def ψ3a.sig:Sig:=⟨[.ptr (.pair (.sl false (.int .u8)) (.pair tyI tyI))],[.val (.pair tyI (.pair tyI tyF))]⟩
def ψ3a.ctr:Ctr:=⟨ψ3a.sig,fun x=>ψ3a.f x⟩
def ψ3a.env:Env:=[(14,[ψ3c.ctr]),(15,[ψ3i.ctr]),(24,[ψ3q.ctr]),(25,[ψ3j.ctr]),(26,[ψ3h.ctr])]
def ψ3a.ann:Ann:=⟨[],[(0,[(.normal,[(0,.ptr (.pair (.sl false (.int .u8)) (.pair tyI tyI))),(2,.ptr (.pair tyI (.pair tyI tyF))),(3,.ptr (.pair tyI (.pair tyI tyF)))])])],[(3,[(.normal,[(0,.ptr (.pair (.sl false (.int .u8)) (.pair tyI tyI))),(2,.ptr (.pair tyI (.pair tyI tyF))),(3,.ptr (.pair tyI (.pair tyI tyF))),(11,.val tyI),(12,.val .bool)])]),(6,[(.normal,[(0,.ptr (.pair (.sl false (.int .u8)) (.pair tyI tyI))),(2,.ptr (.pair tyI (.pair tyI tyF))),(3,.ptr (.pair tyI (.pair tyI tyF)))])]),(12,[(.normal,[(0,.ptr (.pair (.sl false (.int .u8)) (.pair tyI tyI))),(2,.ptr (.pair tyI (.pair tyI tyF))),(3,.ptr (.pair tyI (.pair tyI tyF))),(27,.val tyI),(31,.val .bool)])])]⟩
theorem ψ3a.ok:φ3 Tryz.prog 13 ψ3a.ctr:=fS (A:=ψ3a.ann) (eC ψ3c.ok (eC ψ3i.ok (eC ψ3q.ok (eC ψ3j.ok (eC ψ3h.ok φ4.nil))))) Tryz.func13 (by kernel_rfl) (by kernel_rfl) (fun x=>by kernel_rfl)
def ψ3g.sig:Sig:=⟨[.ptr (.pair (.sl false (.int .u8)) (.pair tyI tyI)),.val tyI],[.val .bool]⟩
def ψ3g.ctr:Ctr:=⟨ψ3g.sig,fun x=>ψ3g.f x.1 x.2⟩
def ψ3g.env:Env:=[(14,[ψ3c.ctr])]
def ψ3g.ann:Ann:=⟨[],[],[]⟩
theorem ψ3g.ok:φ3 Tryz.prog 42 ψ3g.ctr:=fS (A:=ψ3g.ann) (eC ψ3c.ok φ4.nil) Tryz.func42 (by kernel_rfl) (by kernel_rfl) (fun x=>by kernel_rfl)
def ψ3b.sig:Sig:=⟨[.ptr (.pair (.sl false (.int .u8)) (.pair tyI tyI)),.val tyI],[.val (.sl true (.pair tyI (.pair tyI tyF)))]⟩
def ψ3b.ctr:Ctr:=⟨ψ3b.sig,fun x=>ψ3b.f x.1 x.2⟩
def ψ3b.env:Env:=[(13,[ψ3a.ctr]),(14,[ψ3c.ctr]),(41,[ψ3e.ctr]),(42,[ψ3g.ctr])]
def ψ3b.ann:Ann:=⟨[(0,([(0,.ptr (.pair (.sl false (.int .u8)) (.pair tyI tyI))),(5,.val (.sl true (.pair tyI (.pair tyI tyF)))),(6,.val (.sl true .bool)),(7,.val tyI)],[(.exit 0,[(0,.ptr (.pair (.sl false (.int .u8)) (.pair tyI tyI))),(5,.val (.sl true (.pair tyI (.pair tyI tyF))))])]))],[],[(8,[(.normal,[(0,.ptr (.pair (.sl false (.int .u8)) (.pair tyI tyI))),(5,.val (.sl true (.pair tyI (.pair tyI tyF)))),(6,.val (.sl true .bool)),(7,.val tyI),(8,.ptr (.pair tyI (.pair tyI tyF)))])]),(10,[(.normal,[(0,.ptr (.pair (.sl false (.int .u8)) (.pair tyI tyI))),(5,.val (.sl true (.pair tyI (.pair tyI tyF)))),(6,.val (.sl true .bool)),(7,.val tyI),(8,.ptr (.pair tyI (.pair tyI tyF)))])]),(7,[(.normal,[(0,.ptr (.pair (.sl false (.int .u8)) (.pair tyI tyI))),(5,.val (.sl true (.pair tyI (.pair tyI tyF)))),(6,.val (.sl true .bool)),(7,.val tyI),(8,.ptr (.pair tyI (.pair tyI tyF)))])]),(13,[(.normal,[(0,.ptr (.pair (.sl false (.int .u8)) (.pair tyI tyI))),(5,.val (.sl true (.pair tyI (.pair tyI tyF)))),(6,.val (.sl true .bool)),(7,.val tyI),(8,.ptr (.pair tyI (.pair tyI tyF)))])])]⟩
theorem ψ3b.ok:φ3 Tryz.prog 22 ψ3b.ctr:=fS (A:=ψ3b.ann) (eC ψ3a.ok (eC ψ3c.ok (eC ψ3e.ok (eC ψ3g.ok φ4.nil)))) Tryz.func22 (by kernel_rfl) (by kernel_rfl) (fun x=>by kernel_rfl)
def ψ3O.sig:Sig:=⟨[.val tys],[.val tyS]⟩
def ψ3O.ctr:Ctr:=⟨ψ3O.sig,fun x=>ψ3O.f x⟩
def ψ3O.env:Env:=[]
def ψ3O.ann:Ann:=⟨[],[],[]⟩
theorem ψ3O.ok:φ3 Tryz.prog 86 ψ3O.ctr:=fS (A:=ψ3O.ann) φ4.nil Tryz.func86 (by kernel_rfl) (by kernel_rfl) (fun x=>by kernel_rfl)
def ψ3V.sig:Sig:=⟨[.val (.pair .bool (.pair (.sl false (.pair .str tyI)) (.sl false tyP)))],[.val (.pair .bool (.pair (.sl true (.pair .str tyI)) (.sl true tyP)))]⟩
def ψ3V.ctr:Ctr:=⟨ψ3V.sig,fun x=>ψ3V.f x⟩
def ψ3V.env:Env:=[]
def ψ3V.ann:Ann:=⟨[],[],[]⟩
theorem ψ3V.ok:φ3 Tryz.prog 87 ψ3V.ctr:=fS (A:=ψ3V.ann) φ4.nil Tryz.func87 (by kernel_rfl) (by kernel_rfl) (fun x=>by kernel_rfl)
def ψ3X.sig:Sig:=⟨[.val (.pair .bool (.pair tys (.pair tyd (.sl false (.pair .bool (.pair (.sl false (.pair .str tyI)) (.sl false tyP)))))))],[.val (.pair .bool (.pair tyS (.pair tyD (.sl true (.pair .bool (.pair (.sl true (.pair .str tyI)) (.sl true tyP)))))))]⟩
def ψ3X.ctr:Ctr:=⟨ψ3X.sig,fun x=>ψ3X.f x⟩
def ψ3X.env:Env:=[(73,[ψ3l.ctr]),(86,[ψ3O.ctr]),(87,[ψ3V.ctr])]
def ψ3X.ann:Ann:=⟨[(0,([(1,.ptr (.pair .bool (.pair tyS (.pair tyD (.sl false (.pair .bool (.pair (.sl false (.pair .str tyI)) (.sl false tyP)))))))),(2,.ptr (.pair .bool (.pair tyS (.pair tyD (.sl true (.pair .bool (.pair (.sl true (.pair .str tyI)) (.sl true tyP)))))))),(3,.val (.sl true (.pair .bool (.pair (.sl true (.pair .str tyI)) (.sl true tyP))))),(4,.val tyI)],[(.exit 0,[(1,.ptr (.pair .bool (.pair tyS (.pair tyD (.sl false (.pair .bool (.pair (.sl false (.pair .str tyI)) (.sl false tyP)))))))),(2,.ptr (.pair .bool (.pair tyS (.pair tyD (.sl true (.pair .bool (.pair (.sl true (.pair .str tyI)) (.sl true tyP)))))))),(3,.val (.sl true (.pair .bool (.pair (.sl true (.pair .str tyI)) (.sl true tyP)))))])]))],[],[]⟩
theorem ψ3X.ok:φ3 Tryz.prog 43 ψ3X.ctr:=fS (A:=ψ3X.ann) (eC ψ3l.ok (eC ψ3O.ok (eC ψ3V.ok φ4.nil))) Tryz.func43 (by kernel_rfl) (by kernel_rfl) (fun x=>by kernel_rfl)
def ψ39.sig:Sig:=⟨[.val tyd],[.val tyI]⟩
def ψ39.ctr:Ctr:=⟨ψ39.sig,fun x=>ψ39.f x⟩
def ψ39.env:Env:=[(44,[ψ2L.ctr]),(88,[ψ3o.ctr])]
def ψ39.ann:Ann:=⟨[],[],[]⟩
theorem ψ39.ok:φ3 Tryz.prog 45 ψ39.ctr:=fS (A:=ψ39.ann) (eC ψ2L.ok (eC ψ3o.ok φ4.nil)) Tryz.func45 (by kernel_rfl) (by kernel_rfl) (fun x=>by kernel_rfl)
def ψ2G.sig:Sig:=⟨[.val (.sl false tyE),.val .str],[.val tyE,.val .bool]⟩
def ψ2G.ctr:Ctr:=⟨ψ2G.sig,fun x=>ψ2G.f x.1 x.2⟩
def ψ2G.env:Env:=[]
def ψ2G.ann:Ann:=⟨[(0,([(0,.val (.sl false tyE)),(1,.val .str),(4,.ptr tyE),(6,.val tyI)],[(.exit 0,[(4,.ptr tyE)]),(.ret,[(4,.ptr tyE),(5,.val .bool)])]))],[],[]⟩
theorem ψ2G.ok:φ3 Tryz.prog 52 ψ2G.ctr:=fS (A:=ψ2G.ann) φ4.nil Tryz.func52 (by kernel_rfl) (by kernel_rfl) (fun x=>by kernel_rfl)
def ψ2p.sig:Sig:=⟨[.val .str,.val tyI,.val tyI],[.val tyR,.val .bool]⟩
def ψ2p.ctr:Ctr:=⟨ψ2p.sig,fun x=>ψ2p.f x.1 x.2.1 x.2.2⟩
def ψ2p.env:Env:=[(41,[ψ3e.ctr]),(100,[ψ38.ctr]),(101,[ψ2n.ctr])]
def ψ2p.ann:Ann:=⟨[],[],[]⟩
theorem ψ2p.ok:φ3 Tryz.prog 55 ψ2p.ctr:=fS (A:=ψ2p.ann) (eC ψ3e.ok (eC ψ38.ok (eC ψ2n.ok φ4.nil))) Tryz.func55 (by kernel_rfl) (by kernel_rfl) (fun x=>by kernel_rfl)
def ψ2U.sig:Sig:=⟨[.val tys,.val tyd,.val .str],[.val tyF,.val tyI]⟩
def ψ2U.ctr:Ctr:=⟨ψ2U.sig,fun x=>ψ2U.f x.1 x.2.1 x.2.2⟩
def ψ2U.env:Env:=[(52,[ψ2G.ctr]),(53,[ψ2R.ctr]),(54,[ψ2y.ctr]),(55,[ψ2p.ctr])]
def ψ2U.ann:Ann:=⟨[],[],[]⟩
theorem ψ2U.ok:φ3 Tryz.prog 28 ψ2U.ctr:=fS (A:=ψ2U.ann) (eC ψ2G.ok (eC ψ2R.ok (eC ψ2y.ok (eC ψ2p.ok φ4.nil)))) Tryz.func28 (by kernel_rfl) (by kernel_rfl) (fun x=>by kernel_rfl)
def ψ2N.sig:Sig:=⟨[.val tys,.val tyd],[.val (.sl true tyF),.val tyI]⟩
def ψ2N.ctr:Ctr:=⟨ψ2N.sig,fun x=>ψ2N.f x.1 x.2⟩
def ψ2N.env:Env:=[(28,[ψ2U.ctr])]
def ψ2N.ann:Ann:=⟨[(0,([(2,.ptr tys),(3,.ptr tyd),(6,.val (.sl true tyF)),(7,.val tyI)],[(.exit 0,[(6,.val (.sl true tyF))]),(.ret,[(4,.val (.sl true tyF)),(5,.val tyI)])]))],[],[]⟩
theorem ψ2N.ok:φ3 Tryz.prog 16 ψ2N.ctr:=fS (A:=ψ2N.ann) (eC ψ2U.ok φ4.nil) Tryz.func16 (by kernel_rfl) (by kernel_rfl) (fun x=>by kernel_rfl)
def ψ32.sig:Sig:=⟨[.val tys,.val tyd],[.val .bool]⟩
def ψ32.ctr:Ctr:=⟨ψ32.sig,fun x=>ψ32.f x.1 x.2⟩
def ψ32.env:Env:=[(41,[ψ3e.ctr]),(44,[ψ2L.ctr]),(53,[ψ2R.ctr]),(54,[ψ2y.ctr]),(55,[ψ2p.ctr]),(76,[ψ2x.ctr]),(144,[ψ2a.ctr]),(145,[ψ2I.ctr])]
def ψ32.ann:Ann:=⟨[(0,([(2,.ptr tys),(3,.ptr tyd),(5,.val tyI)],[(.exit 0,[(2,.ptr tys),(3,.ptr tyd)]),(.ret,[(4,.val .bool)])])),(2,([(2,.ptr tys),(3,.ptr tyd),(10,.val tyI)],[(.exit 2,[]),(.ret,[(4,.val .bool)])]))],[],[(8,[(.normal,[(2,.ptr tys),(3,.ptr tyd),(5,.val tyI)]),(.ret,[(4,.val .bool)])]),(16,[(.normal,[(2,.ptr tys),(3,.ptr tyd),(10,.val tyI)]),(.ret,[(4,.val .bool)])])]⟩
theorem ψ32.ok:φ3 Tryz.prog 90 ψ32.ctr:=fS (A:=ψ32.ann) (eC ψ3e.ok (eC ψ2L.ok (eC ψ2R.ok (eC ψ2y.ok (eC ψ2p.ok (eC ψ2x.ok (eC ψ2a.ok (eC ψ2I.ok φ4.nil)))))))) Tryz.func90 (by kernel_rfl) (by kernel_rfl) (fun x=>by kernel_rfl)
def ψ3S.sig:Sig:=⟨[.val tyF],[.val tyR]⟩
def ψ3S.ctr:Ctr:=⟨ψ3S.sig,fun x=>ψ3S.f x⟩
def ψ3S.env:Env:=[]
def ψ3S.ann:Ann:=⟨[],[],[]⟩
theorem ψ3S.ok:φ3 Tryz.prog 201 ψ3S.ctr:=fS (A:=ψ3S.ann) φ4.nil Tryz.func201 (by kernel_rfl) (by kernel_rfl) (fun x=>by kernel_rfl)
def ψ3x.sig:Sig:=⟨[.val (.sl false tyR),.val tyI,.val tyI],[.val tyR]⟩
def ψ3x.ctr:Ctr:=⟨ψ3x.sig,fun x=>ψ3x.f x.1 x.2.1 x.2.2⟩
def ψ3x.env:Env:=[(195,[ψ33.ctr])]
def ψ3x.ann:Ann:=⟨[],[],[]⟩
theorem ψ3x.ok:φ3 Tryz.prog 203 ψ3x.ctr:=fS (A:=ψ3x.ann) (eC ψ33.ok φ4.nil) Tryz.func203 (by kernel_rfl) (by kernel_rfl) (fun x=>by kernel_rfl)
def ψ3U.sig:Sig:=⟨[.val tyd,.val tyI,.val (.sl false tyF),.val tyI],[.val tyD,.val (.sl true tyE),.val tyI]⟩
def ψ3U.ctr:Ctr:=⟨ψ3U.sig,fun x=>ψ3U.f x.1 x.2.1 x.2.2.1 x.2.2.2⟩
def ψ3U.env:Env:=[(54,[ψ2y.ctr]),(78,[ψ3E.ctr]),(79,[ψ34.ctr]),(148,[ψ3H.ctr]),(153,[ψ2T.ctr]),(155,[ψ31.ctr]),(201,[ψ3S.ctr]),(202,[ψ2A.ctr]),(203,[ψ3x.ctr])]
def ψ3U.ann:Ann:=⟨[(0,([(1,.val tyI),(2,.val (.sl false tyF)),(3,.val tyI),(8,.ptr tyD),(11,.val (.sl true tyE)),(12,.ptr tyD),(13,.val tyI),(14,.val (.sl true tyR)),(15,.val tyI),(16,.val tyI)],[(.exit 0,[(1,.val tyI),(3,.val tyI),(8,.ptr tyD),(11,.val (.sl true tyE)),(12,.ptr tyD),(13,.val tyI),(14,.val (.sl true tyR))])]))],[],[(14,[(.normal,[(1,.val tyI),(8,.ptr tyD),(11,.val (.sl true tyE)),(12,.ptr tyD),(13,.val tyI)])]),(16,[(.normal,[(8,.ptr tyD),(11,.val (.sl true tyE)),(12,.ptr tyD),(13,.val tyI)])])]⟩
theorem ψ3U.ok:φ3 Tryz.prog 146 ψ3U.ctr:=fS (A:=ψ3U.ann) (eC ψ2y.ok (eC ψ3E.ok (eC ψ34.ok (eC ψ3H.ok (eC ψ2T.ok (eC ψ31.ok (eC ψ3S.ok (eC ψ2A.ok (eC ψ3x.ok φ4.nil))))))))) Tryz.func146 (by kernel_rfl) (by kernel_rfl) (fun x=>by kernel_rfl)
def ψ3Q.sig:Sig:=⟨[.val tyd,.val (.sl false .str)],[.val tyd,.val tyI]⟩
def ψ3Q.ctr:Ctr:=⟨ψ3Q.sig,fun x=>ψ3Q.f x.1 x.2⟩
def ψ3Q.env:Env:=[(98,[ψ3m.ctr]),(143,[ψ2s.ctr])]
def ψ3Q.ann:Ann:=⟨[(0,([(1,.val (.sl false .str)),(2,.ptr tyd),(4,.ptr tyD),(6,.val tyI)],[(.exit 0,[(2,.ptr tyd),(4,.ptr tyD)]),(.ret,[(4,.ptr tyD),(5,.val tyI)])]))],[(1,[(.normal,[(1,.val (.sl false .str)),(2,.ptr tyd),(4,.ptr tyD),(6,.val tyI)]),(.ret,[(4,.ptr tyD),(5,.val tyI)])])],[]⟩
theorem ψ3Q.ok:φ3 Tryz.prog 150 ψ3Q.ctr:=fS (A:=ψ3Q.ann) (eC ψ3m.ok (eC ψ2s.ok φ4.nil)) Tryz.func150 (by kernel_rfl) (by kernel_rfl) (fun x=>by kernel_rfl)
def ψ3R.sig:Sig:=⟨[.val tys,.val tyd,.val tyI,.val tyI],[.val tys,.val tyd,.val tyI]⟩
def ψ3R.ctr:Ctr:=⟨ψ3R.sig,fun x=>ψ3R.f x.1 x.2.1 x.2.2.1 x.2.2.2⟩
def ψ3R.env:Env:=[(54,[ψ2y.ctr]),(78,[ψ3E.ctr]),(80,[ψ2W.ctr]),(150,[ψ3Q.ctr])]
def ψ3R.ann:Ann:=⟨[],[],[]⟩
theorem ψ3R.ok:φ3 Tryz.prog 147 ψ3R.ctr:=fS (A:=ψ3R.ann) (eC ψ2y.ok (eC ψ3E.ok (eC ψ2W.ok (eC ψ3Q.ok φ4.nil)))) Tryz.func147 (by kernel_rfl) (by kernel_rfl) (fun x=>by kernel_rfl)
def ψ3T.sig:Sig:=⟨[.val tys,.val tyd,.val (.sl false tyF)],[.val tys,.val tyd,.val tyI]⟩
def ψ3T.ctr:Ctr:=⟨ψ3T.sig,fun x=>ψ3T.f x.1 x.2.1 x.2.2⟩
def ψ3T.env:Env:=[(53,[ψ2R.ctr]),(54,[ψ2y.ctr]),(78,[ψ3E.ctr]),(80,[ψ2W.ctr]),(129,[ψ2h.ctr]),(135,[ψ2z.ctr]),(136,[ψ2X.ctr]),(146,[ψ3U.ctr]),(147,[ψ3R.ctr]),(148,[ψ3H.ctr]),(149,[ψ3F.ctr]),(150,[ψ3Q.ctr])]
def ψ3T.ann:Ann:=⟨[(0,([(3,.ptr tyS),(6,.ptr tyS),(7,.ptr tyD),(10,.ptr tyd),(18,.val (.sl true tyI)),(20,.val tyI)],[(.exit 0,[(3,.ptr tyS),(6,.ptr tyS),(7,.ptr tyD),(10,.ptr tyd)]),(.ret,[(6,.ptr tyS),(7,.ptr tyd),(8,.val tyI)])]))],[],[(12,[(.normal,[(3,.ptr tys),(6,.ptr tyS),(7,.ptr tyD),(9,.val tyI),(10,.ptr tyd),(11,.val (.sl true tyE)),(13,.val tyI)])])]⟩
theorem ψ3T.ok:φ3 Tryz.prog 91 ψ3T.ctr:=fS (A:=ψ3T.ann) (eC ψ2R.ok (eC ψ2y.ok (eC ψ3E.ok (eC ψ2W.ok (eC ψ2h.ok (eC ψ2z.ok (eC ψ2X.ok (eC ψ3U.ok (eC ψ3R.ok (eC ψ3H.ok (eC ψ3F.ok (eC ψ3Q.ok φ4.nil)))))))))))) Tryz.func91 (by kernel_rfl) (by kernel_rfl) (fun x=>by kernel_rfl)
def ψ2b.sig:Sig:=⟨[.val tys,.val tyd],[.val tys,.val tyd,.val tyI]⟩
def ψ2b.ctr:Ctr:=⟨ψ2b.sig,fun x=>ψ2b.f x.1 x.2⟩
def ψ2b.env:Env:=[(16,[ψ2N.ctr]),(73,[ψ3l.ctr]),(86,[ψ3O.ctr]),(90,[ψ32.ctr]),(91,[ψ3T.ctr])]
def ψ2b.ann:Ann:=⟨[],[],[]⟩
theorem ψ2b.ok:φ3 Tryz.prog 46 ψ2b.ctr:=fS (A:=ψ2b.ann) (eC ψ2N.ok (eC ψ3l.ok (eC ψ3O.ok (eC ψ32.ok (eC ψ3T.ok φ4.nil))))) Tryz.func46 (by kernel_rfl) (by kernel_rfl) (fun x=>by kernel_rfl)
def ψ2H.sig:Sig:=⟨[.val (.sl false tyE)],[.val (.sl true .str)]⟩
def ψ2H.ctr:Ctr:=⟨ψ2H.sig,fun x=>ψ2H.f x⟩
def ψ2H.env:Env:=[]
def ψ2H.ann:Ann:=⟨[(0,([(0,.val (.sl false tyE)),(3,.val (.sl true .str)),(4,.val tyI)],[(.exit 0,[(3,.val (.sl true .str))])]))],[],[]⟩
theorem ψ2H.ok:φ3 Tryz.prog 47 ψ2H.ctr:=fS (A:=ψ2H.ann) φ4.nil Tryz.func47 (by kernel_rfl) (by kernel_rfl) (fun x=>by kernel_rfl)
def ψ2g.sig:Sig:=⟨[.val (.pair .bool (.pair (.sl false (.pair .str tyI)) (.sl false tyP))),.val .str],[.val tyP,.val .bool]⟩
def ψ2g.ctr:Ctr:=⟨ψ2g.sig,fun x=>ψ2g.f x.1 x.2⟩
def ψ2g.env:Env:=[]
def ψ2g.ann:Ann:=⟨[(0,([(1,.val .str),(2,.ptr (.pair .bool (.pair (.sl false (.pair .str tyI)) (.sl false tyP)))),(4,.ptr tyP),(6,.val tyI)],[(.exit 0,[(4,.ptr tyP)]),(.ret,[(4,.ptr tyP),(5,.val .bool)])]))],[],[]⟩
theorem ψ2g.ok:φ3 Tryz.prog 93 ψ2g.ctr:=fS (A:=ψ2g.ann) φ4.nil Tryz.func93 (by kernel_rfl) (by kernel_rfl) (fun x=>by kernel_rfl)
def ψ36.sig:Sig:=⟨[.val (.pair .bool (.pair (.sl false (.pair .str tyI)) (.sl false tyP))),.val .str,.val tyI],[.val (.pair .bool (.pair (.sl true (.pair .str tyI)) (.sl true tyP))),.val tyI]⟩
def ψ36.ctr:Ctr:=⟨ψ36.sig,fun x=>ψ36.f x.1 x.2.1 x.2.2⟩
def ψ36.env:Env:=[(87,[ψ3V.ctr]),(92,[ψ2Z.ctr])]
def ψ36.ann:Ann:=⟨[(0,([(1,.val .str),(2,.val tyI),(3,.ptr (.pair .bool (.pair (.sl false (.pair .str tyI)) (.sl false tyP)))),(6,.ptr (.pair .bool (.pair (.sl true (.pair .str tyI)) (.sl true tyP)))),(8,.ptr (.pair .bool (.pair (.sl true (.pair .str tyI)) (.sl true tyP)))),(9,.val tyI)],[(.exit 0,[(1,.val .str),(2,.val tyI),(3,.ptr (.pair .bool (.pair (.sl false (.pair .str tyI)) (.sl false tyP)))),(6,.ptr (.pair .bool (.pair (.sl true (.pair .str tyI)) (.sl true tyP)))),(8,.ptr (.pair .bool (.pair (.sl true (.pair .str tyI)) (.sl true tyP))))]),(.ret,[(6,.ptr (.pair .bool (.pair (.sl true (.pair .str tyI)) (.sl true tyP)))),(7,.val tyI)])]))],[],[]⟩
theorem ψ36.ok:φ3 Tryz.prog 94 ψ36.ctr:=fS (A:=ψ36.ann) (eC ψ3V.ok (eC ψ2Z.ok φ4.nil)) Tryz.func94 (by kernel_rfl) (by kernel_rfl) (fun x=>by kernel_rfl)
def ψ3Z.sig:Sig:=⟨[.val (.pair .bool (.pair tys (.pair tyd (.sl true (.pair .bool (.pair (.sl true (.pair .str tyI)) (.sl true tyP))))))),.val (.pair tyI (.pair tyI tyF))],[.val (.pair .bool (.pair tys (.pair tyd (.sl true (.pair .bool (.pair (.sl true (.pair .str tyI)) (.sl true tyP))))))),.val (.pair tyI (.pair .str (.sl true .str)))]⟩
def ψ3Z.ctr:Ctr:=⟨ψ3Z.sig,fun x=>ψ3Z.f x.1 x.2⟩
def ψ3Z.env:Env:=[(28,[ψ2U.ctr]),(92,[ψ2Z.ctr]),(93,[ψ2g.ctr]),(94,[ψ36.ctr])]
def ψ3Z.ann:Ann:=⟨[],[],[]⟩
theorem ψ3Z.ok:φ3 Tryz.prog 48 ψ3Z.ctr:=fS (A:=ψ3Z.ann) (eC ψ2U.ok (eC ψ2Z.ok (eC ψ2g.ok (eC ψ36.ok φ4.nil)))) Tryz.func48 (by kernel_rfl) (by kernel_rfl) (fun x=>by kernel_rfl)
def ψ3A.sig:Sig:=⟨[.val (.pair .bool (.pair (.sl false (.pair .str tyI)) (.sl false tyP))),.val (.sl false tyE)],[.val .bool]⟩
def ψ3A.ctr:Ctr:=⟨ψ3A.sig,fun x=>ψ3A.f x.1 x.2⟩
def ψ3A.env:Env:=[(52,[ψ2G.ctr])]
def ψ3A.ann:Ann:=⟨[(0,([(1,.val (.sl false tyE)),(2,.ptr (.pair .bool (.pair (.sl false (.pair .str tyI)) (.sl false tyP)))),(5,.val tyI)],[(.exit 0,[]),(.ret,[(4,.val .bool)])]))],[],[]⟩
theorem ψ3A.ok:φ3 Tryz.prog 95 ψ3A.ctr:=fS (A:=ψ3A.ann) (eC ψ2G.ok φ4.nil) Tryz.func95 (by kernel_rfl) (by kernel_rfl) (fun x=>by kernel_rfl)
def ψ2i.sig:Sig:=⟨[.val (.sl false tyP)],[.val .bool]⟩
def ψ2i.ctr:Ctr:=⟨ψ2i.sig,fun x=>ψ2i.f x⟩
def ψ2i.env:Env:=[(92,[ψ2Z.ctr])]
def ψ2i.ann:Ann:=⟨[(0,([(0,.val (.sl false tyP)),(3,.val tyI)],[(.exit 0,[]),(.ret,[(2,.val .bool)])]))],[],[(6,[(.normal,[(0,.val (.sl false tyP)),(3,.val tyI)]),(.ret,[(2,.val .bool)])])]⟩
theorem ψ2i.ok:φ3 Tryz.prog 50 ψ2i.ctr:=fS (A:=ψ2i.ann) (eC ψ2Z.ok φ4.nil) Tryz.func50 (by kernel_rfl) (by kernel_rfl) (fun x=>by kernel_rfl)
def ψ3M.sig:Sig:=⟨[.val (.sl false tyE),.val (.sl false tyP)],[.val tyI]⟩
def ψ3M.ctr:Ctr:=⟨ψ3M.sig,fun x=>ψ3M.f x.1 x.2⟩
def ψ3M.env:Env:=[(197,[ψ2F.ctr]),(198,[ψ2J.ctr])]
def ψ3M.ann:Ann:=⟨[(0,([(0,.val (.sl false tyE)),(1,.val (.sl false tyP)),(5,.val tyI)],[(.exit 0,[(0,.val (.sl false tyE))])]))],[],[(4,[(.normal,[(0,.val (.sl true tyE)),(1,.val (.sl false tyP)),(5,.val tyI)])])]⟩
theorem ψ3M.ok:φ3 Tryz.prog 151 ψ3M.ctr:=fS (A:=ψ3M.ann) (eC ψ2F.ok (eC ψ2J.ok φ4.nil)) Tryz.func151 (by kernel_rfl) (by kernel_rfl) (fun x=>by kernel_rfl)
def ψ3K.sig:Sig:=⟨[.val tys],[.val .str]⟩
def ψ3K.ctr:Ctr:=⟨ψ3K.sig,fun x=>ψ3K.f x⟩
def ψ3K.env:Env:=[(54,[ψ2y.ctr])]
def ψ3K.ann:Ann:=⟨[],[],[]⟩
theorem ψ3K.ok:φ3 Tryz.prog 205 ψ3K.ctr:=fS (A:=ψ3K.ann) (eC ψ2y.ok φ4.nil) Tryz.func205 (by kernel_rfl) (by kernel_rfl) (fun x=>by kernel_rfl)
def ψ3P.sig:Sig:=⟨[.val tys,.val tyd],[.val tys,.val tyd,.val tyI]⟩
def ψ3P.ctr:Ctr:=⟨ψ3P.sig,fun x=>ψ3P.f x.1 x.2⟩
def ψ3P.env:Env:=[(54,[ψ2y.ctr]),(78,[ψ3E.ctr]),(79,[ψ34.ctr]),(129,[ψ2h.ctr]),(148,[ψ3H.ctr]),(150,[ψ3Q.ctr]),(205,[ψ3K.ctr])]
def ψ3P.ann:Ann:=⟨[],[],[]⟩
theorem ψ3P.ok:φ3 Tryz.prog 234 ψ3P.ctr:=fS (A:=ψ3P.ann) (eC ψ2y.ok (eC ψ3E.ok (eC ψ34.ok (eC ψ2h.ok (eC ψ3H.ok (eC ψ3Q.ok (eC ψ3K.ok φ4.nil))))))) Tryz.func234 (by kernel_rfl) (by kernel_rfl) (fun x=>by kernel_rfl)
def ψ3L.sig:Sig:=⟨[.val tys,.val tyd,.val tyR],[.val tys,.val tyd,.val (.pair tyI (.pair tyI (.pair tyI tyR))),.val tyI]⟩
def ψ3L.ctr:Ctr:=⟨ψ3L.sig,fun x=>ψ3L.f x.1 x.2.1 x.2.2⟩
def ψ3L.env:Env:=[(78,[ψ3E.ctr]),(153,[ψ2T.ctr]),(155,[ψ31.ctr]),(202,[ψ2A.ctr]),(205,[ψ3K.ctr]),(234,[ψ3P.ctr])]
def ψ3L.ann:Ann:=⟨[],[],[(2,[(.normal,[(3,.ptr tys),(4,.ptr tyd),(5,.ptr tyR),(6,.ptr tyS),(7,.ptr tyD),(8,.ptr (.pair tyI (.pair tyI (.pair tyI tyR)))),(10,.val .str)]),(.ret,[(6,.ptr tys),(7,.ptr tyd),(8,.ptr (.pair tyI (.pair tyI (.pair tyI tyR)))),(9,.val tyI)])])]⟩
theorem ψ3L.ok:φ3 Tryz.prog 204 ψ3L.ctr:=fS (A:=ψ3L.ann) (eC ψ3E.ok (eC ψ2T.ok (eC ψ31.ok (eC ψ2A.ok (eC ψ3K.ok (eC ψ3P.ok φ4.nil)))))) Tryz.func204 (by kernel_rfl) (by kernel_rfl) (fun x=>by kernel_rfl)
def ψ3N.sig:Sig:=⟨[.val tys,.val tyd,.val (.sl false tyP)],[.val tys,.val tyd,.val tyI]⟩
def ψ3N.ctr:Ctr:=⟨ψ3N.sig,fun x=>ψ3N.f x.1 x.2.1 x.2.2⟩
def ψ3N.env:Env:=[(78,[ψ3E.ctr]),(79,[ψ34.ctr]),(141,[ψ3v.ctr]),(203,[ψ3x.ctr]),(204,[ψ3L.ctr]),(205,[ψ3K.ctr])]
def ψ3N.ann:Ann:=⟨[(0,([(2,.val (.sl false tyP)),(3,.ptr tys),(4,.ptr tyd),(6,.ptr tyS),(7,.ptr tyD),(9,.val tyI),(10,.val (.sl true tyR)),(11,.val (.sl true tyE)),(12,.val tyI)],[(.exit 0,[(3,.ptr tys),(4,.ptr tyd),(6,.ptr tyS),(7,.ptr tyD),(9,.val tyI),(10,.val (.sl true tyR)),(11,.val (.sl true tyE))]),(.ret,[(6,.ptr tys),(7,.ptr tyd),(8,.val tyI)])]))],[],[(9,[(.normal,[(2,.val (.sl false tyP)),(3,.ptr tys),(4,.ptr tyd),(6,.ptr tyS),(7,.ptr tyD),(9,.val tyI),(10,.val (.sl true tyR)),(11,.val (.sl true tyE)),(12,.val tyI),(13,.ptr tyR)])])]⟩
theorem ψ3N.ok:φ3 Tryz.prog 152 ψ3N.ctr:=fS (A:=ψ3N.ann) (eC ψ3E.ok (eC ψ34.ok (eC ψ3v.ok (eC ψ3x.ok (eC ψ3L.ok (eC ψ3K.ok φ4.nil)))))) Tryz.func152 (by kernel_rfl) (by kernel_rfl) (fun x=>by kernel_rfl)
def ψ2B.sig:Sig:=⟨[.val tys,.val tyd,.val (.sl false tyP)],[.val tys,.val tyd,.val tyI]⟩
def ψ2B.ctr:Ctr:=⟨ψ2B.sig,fun x=>ψ2B.f x.1 x.2.1 x.2.2⟩
def ψ2B.env:Env:=[(50,[ψ2i.ctr]),(73,[ψ3l.ctr]),(86,[ψ3O.ctr]),(90,[ψ32.ctr]),(151,[ψ3M.ctr]),(152,[ψ3N.ctr])]
def ψ2B.ann:Ann:=⟨[],[],[]⟩
theorem ψ2B.ok:φ3 Tryz.prog 96 ψ2B.ctr:=fS (A:=ψ2B.ann) (eC ψ2i.ok (eC ψ3l.ok (eC ψ3O.ok (eC ψ32.ok (eC ψ3M.ok (eC ψ3N.ok φ4.nil)))))) Tryz.func96 (by kernel_rfl) (by kernel_rfl) (fun x=>by kernel_rfl)
def ψ2d.sig:Sig:=⟨[.val (.pair .bool (.pair (.sl false (.pair .str tyI)) (.sl false tyP)))],[.val (.sl true tyP)]⟩
def ψ2d.ctr:Ctr:=⟨ψ2d.sig,fun x=>ψ2d.f x⟩
def ψ2d.env:Env:=[(93,[ψ2g.ctr])]
def ψ2d.ann:Ann:=⟨[(2,([(1,.ptr (.pair .bool (.pair (.sl false (.pair .str tyI)) (.sl false tyP)))),(3,.val (.sl true tyP)),(4,.val tyI),(5,.val .bool),(6,.val tyI)],[(.exit 2,[(1,.ptr (.pair .bool (.pair (.sl false (.pair .str tyI)) (.sl false tyP)))),(3,.val (.sl true tyP)),(4,.val tyI),(5,.val .bool)])])),(0,([(1,.ptr (.pair .bool (.pair (.sl false (.pair .str tyI)) (.sl false tyP)))),(3,.val (.sl true tyP)),(4,.val tyI)],[(.exit 0,[(3,.val (.sl true tyP))])]))],[(3,[(.normal,[(1,.ptr (.pair .bool (.pair (.sl false (.pair .str tyI)) (.sl false tyP)))),(3,.val (.sl true tyP)),(4,.val tyI),(5,.val .bool),(6,.val tyI)])])],[(10,[(.normal,[(1,.ptr (.pair .bool (.pair (.sl false (.pair .str tyI)) (.sl false tyP)))),(3,.val (.sl true tyP)),(4,.val tyI)])])]⟩
theorem ψ2d.ok:φ3 Tryz.prog 97 ψ2d.ctr:=fS (A:=ψ2d.ann) (eC ψ2g.ok φ4.nil) Tryz.func97 (by kernel_rfl) (by kernel_rfl) (fun x=>by kernel_rfl)
def ψ3W.sig:Sig:=⟨[.val (.pair .bool (.pair tys (.pair tyd (.sl true (.pair .bool (.pair (.sl true (.pair .str tyI)) (.sl true tyP))))))),.val (.pair tyI (.pair tyI tyF))],[.val (.pair .bool (.pair tys (.pair tyd (.sl true (.pair .bool (.pair (.sl true (.pair .str tyI)) (.sl true tyP))))))),.val (.pair tyI (.pair .str (.sl true .str)))]⟩
def ψ3W.ctr:Ctr:=⟨ψ3W.sig,fun x=>ψ3W.f x.1 x.2⟩
def ψ3W.env:Env:=[(95,[ψ3A.ctr]),(96,[ψ2B.ctr]),(97,[ψ2d.ctr])]
def ψ3W.ann:Ann:=⟨[],[],[]⟩
theorem ψ3W.ok:φ3 Tryz.prog 49 ψ3W.ctr:=fS (A:=ψ3W.ann) (eC ψ3A.ok (eC ψ2B.ok (eC ψ2d.ok φ4.nil))) Tryz.func49 (by kernel_rfl) (by kernel_rfl) (fun x=>by kernel_rfl)
def ψ37.sig:Sig:=⟨[.val (.pair .bool (.pair (.sl false (.pair .str tyI)) (.sl false tyP))),.val tyP],[.val (.pair .bool (.pair (.sl true (.pair .str tyI)) (.sl true tyP))),.val .bool]⟩
def ψ37.ctr:Ctr:=⟨ψ37.sig,fun x=>ψ37.f x.1 x.2⟩
def ψ37.env:Env:=[(50,[ψ2i.ctr]),(87,[ψ3V.ctr]),(97,[ψ2d.ctr])]
def ψ37.ann:Ann:=⟨[],[],[]⟩
theorem ψ37.ok:φ3 Tryz.prog 51 ψ37.ctr:=fS (A:=ψ37.ann) (eC ψ2i.ok (eC ψ3V.ok (eC ψ2d.ok φ4.nil))) Tryz.func51 (by kernel_rfl) (by kernel_rfl) (fun x=>by kernel_rfl)
def ψ2Q.sig:Sig:=⟨[.val (.pair .bool (.pair tys (.pair tyd (.sl false (.pair .bool (.pair (.sl false (.pair .str tyI)) (.sl false tyP))))))),.val (.pair tyI (.pair tyI tyF))],[.val (.pair .bool (.pair tys (.pair tyd (.sl true (.pair .bool (.pair (.sl true (.pair .str tyI)) (.sl true tyP))))))),.val (.pair tyI (.pair .str (.sl true .str)))]⟩
def ψ2Q.ctr:Ctr:=⟨ψ2Q.sig,fun x=>ψ2Q.f x.1 x.2⟩
def ψ2Q.env:Env:=[(20,[ψ2P.ctr]),(41,[ψ3e.ctr]),(43,[ψ3X.ctr]),(44,[ψ2L.ctr]),(45,[ψ39.ctr]),(46,[ψ2b.ctr]),(47,[ψ2H.ctr]),(48,[ψ3Z.ctr]),(49,[ψ3W.ctr]),(50,[ψ2i.ctr]),(51,[ψ37.ctr])]
def ψ2Q.ann:Ann:=⟨[],[],[(27,[(.normal,[(3,.ptr (.pair tyI (.pair tyI tyF))),(4,.ptr (.pair .bool (.pair tyS (.pair tyD (.sl true (.pair .bool (.pair (.sl true (.pair .str tyI)) (.sl true tyP)))))))),(5,.ptr (.pair tyI (.pair .str (.sl true .str)))),(6,.ptr (.pair .bool (.pair tyS (.pair tyD (.sl true (.pair .bool (.pair (.sl true (.pair .str tyI)) (.sl true tyP))))))))]),(.ret,[(4,.ptr (.pair .bool (.pair tyS (.pair tyD (.sl true (.pair .bool (.pair (.sl true (.pair .str tyI)) (.sl true tyP)))))))),(5,.ptr (.pair tyI (.pair .str (.sl true .str))))])]),(39,[(.normal,[(4,.ptr (.pair .bool (.pair tyS (.pair tyD (.sl true (.pair .bool (.pair (.sl true (.pair .str tyI)) (.sl true tyP)))))))),(5,.ptr (.pair tyI (.pair .str (.sl true .str)))),(6,.ptr (.pair .bool (.pair tyS (.pair tyD (.sl true (.pair .bool (.pair (.sl true (.pair .str tyI)) (.sl true tyP))))))))]),(.ret,[(4,.ptr (.pair .bool (.pair tys (.pair tyd (.sl true (.pair .bool (.pair (.sl true (.pair .str tyI)) (.sl true tyP)))))))),(5,.ptr (.pair tyI (.pair .str (.sl true .str))))])]),(37,[(.normal,[(4,.ptr (.pair .bool (.pair tyS (.pair tyD (.sl true (.pair .bool (.pair (.sl true (.pair .str tyI)) (.sl true tyP)))))))),(5,.ptr (.pair tyI (.pair .str (.sl true .str)))),(6,.ptr (.pair .bool (.pair tyS (.pair tyD (.sl true (.pair .bool (.pair (.sl true (.pair .str tyI)) (.sl true tyP))))))))]),(.ret,[(4,.ptr (.pair .bool (.pair tys (.pair tyd (.sl true (.pair .bool (.pair (.sl true (.pair .str tyI)) (.sl true tyP)))))))),(5,.ptr (.pair tyI (.pair .str (.sl true .str))))])])]⟩
theorem ψ2Q.ok:φ3 Tryz.prog 23 ψ2Q.ctr:=fS (A:=ψ2Q.ann) (eC ψ2P.ok (eC ψ3e.ok (eC ψ3X.ok (eC ψ2L.ok (eC ψ39.ok (eC ψ2b.ok (eC ψ2H.ok (eC ψ3Z.ok (eC ψ3W.ok (eC ψ2i.ok (eC ψ37.ok φ4.nil))))))))))) Tryz.func23 (by kernel_rfl) (by kernel_rfl) (fun x=>by kernel_rfl)
def ψ3Y.sig:Sig:=⟨[.ptr (.pair (.sl false (.int .u8)) (.pair tyI tyI))],[.val (.pair .bool (.pair tys (.pair tyd (.sl true (.pair .bool (.pair (.sl true (.pair .str tyI)) (.sl true tyP)))))))]⟩
def ψ3Y.ctr:Ctr:=⟨ψ3Y.sig,fun x=>ψ3Y.f x⟩
def ψ3Y.env:Env:=[(15,[ψ3i.ctr]),(20,[ψ2P.ctr]),(21,[ψ2K.ctr]),(22,[ψ3b.ctr]),(23,[ψ2Q.ctr])]
def ψ3Y.ann:Ann:=⟨[(0,([(0,.ptr (.pair (.sl false (.int .u8)) (.pair tyI tyI))),(2,.ptr (.pair .bool (.pair tyS (.pair tyD (.sl true (.pair .bool (.pair (.sl true (.pair .str tyI)) (.sl true tyP)))))))),(3,.ptr (.pair .bool (.pair tys (.pair tyd (.sl true (.pair .bool (.pair (.sl true (.pair .str tyI)) (.sl true tyP)))))))),(5,.val (.sl true (.pair tyI (.pair tyI tyF)))),(6,.val tyI)],[(.exit 0,[(0,.ptr (.pair (.sl false (.int .u8)) (.pair tyI tyI))),(2,.ptr (.pair .bool (.pair tyS (.pair tyD (.sl true (.pair .bool (.pair (.sl true (.pair .str tyI)) (.sl true tyP)))))))),(3,.ptr (.pair .bool (.pair tys (.pair tyd (.sl true (.pair .bool (.pair (.sl true (.pair .str tyI)) (.sl true tyP))))))))])]))],[],[]⟩
theorem ψ3Y.ok:φ3 Tryz.prog 12 ψ3Y.ctr:=fS (A:=ψ3Y.ann) (eC ψ3i.ok (eC ψ2P.ok (eC ψ2K.ok (eC ψ3b.ok (eC ψ2Q.ok φ4.nil))))) Tryz.func12 (by kernel_rfl) (by kernel_rfl) (fun x=>by kernel_rfl)
def ψ2M.sig:Sig:=⟨[.val (.sl false (.int .u8))],[.val (.pair .bool (.pair tys (.pair tyd (.sl false (.pair .bool (.pair (.sl false (.pair .str tyI)) (.sl false tyP))))))),.val (.pair tyI (.pair tyI tyF))]⟩
def ψ2M.ctr:Ctr:=⟨ψ2M.sig,fun x=>ψ2M.f x⟩
def ψ2M.env:Env:=[(11,[ψ3f.ctr]),(12,[ψ3Y.ctr]),(13,[ψ3a.ctr]),(14,[ψ3c.ctr]),(15,[ψ3i.ctr])]
def ψ2M.ann:Ann:=⟨[],[],[]⟩
theorem ψ2M.ok:φ3 Tryz.prog 5 ψ2M.ctr:=fS (A:=ψ2M.ann) (eC ψ3f.ok (eC ψ3Y.ok (eC ψ3a.ok (eC ψ3c.ok (eC ψ3i.ok φ4.nil))))) Tryz.func5 (by kernel_rfl) (by kernel_rfl) (fun x=>by kernel_rfl)
def ψ2O.sig:Sig:=⟨[.val (.pair .bool (.pair tys (.pair tyd (.sl false (.pair .bool (.pair (.sl false (.pair .str tyI)) (.sl false tyP)))))))],[.val (.sl true tyF),.val tyI]⟩
def ψ2O.ctr:Ctr:=⟨ψ2O.sig,fun x=>ψ2O.f x⟩
def ψ2O.env:Env:=[(16,[ψ2N.ctr])]
def ψ2O.ann:Ann:=⟨[],[],[]⟩
theorem ψ2O.ok:φ3 Tryz.prog 6 ψ2O.ctr:=fS (A:=ψ2O.ann) (eC ψ2N.ok φ4.nil) Tryz.func6 (by kernel_rfl) (by kernel_rfl) (fun x=>by kernel_rfl)
def ψ1G.sig:Sig:=⟨[.val (.pair tyI (.sl false tyI))],[.val (.pair tyI (.sl true tyI))]⟩
def ψ1G.ctr:Ctr:=⟨ψ1G.sig,fun x=>ψ1G.f x⟩
def ψ1G.env:Env:=[]
def ψ1G.ann:Ann:=⟨[],[],[]⟩
theorem ψ1G.ok:φ3 Tryz.prog 56 ψ1G.ctr:=fS (A:=ψ1G.ann) φ4.nil Tryz.func56 (by kernel_rfl) (by kernel_rfl) (fun x=>by kernel_rfl)
def ψ1D.sig:Sig:=⟨[.val (.sl false tyE)],[.val (.sl true tyE)]⟩
def ψ1D.ctr:Ctr:=⟨ψ1D.sig,fun x=>ψ1D.f x⟩
def ψ1D.env:Env:=[]
def ψ1D.ann:Ann:=⟨[],[],[]⟩
theorem ψ1D.ok:φ3 Tryz.prog 57 ψ1D.ctr:=fS (A:=ψ1D.ann) φ4.nil Tryz.func57 (by kernel_rfl) (by kernel_rfl) (fun x=>by kernel_rfl)
def ψ1I.sig:Sig:=⟨[.val tys],[.val tyS]⟩
def ψ1I.ctr:Ctr:=⟨ψ1I.sig,fun x=>ψ1I.f x⟩
def ψ1I.env:Env:=[(56,[ψ1G.ctr]),(57,[ψ1D.ctr])]
def ψ1I.ann:Ann:=⟨[],[],[]⟩
theorem ψ1I.ok:φ3 Tryz.prog 29 ψ1I.ctr:=fS (A:=ψ1I.ann) (eC ψ1G.ok (eC ψ1D.ok φ4.nil)) Tryz.func29 (by kernel_rfl) (by kernel_rfl) (fun x=>by kernel_rfl)
def ψ1E.sig:Sig:=⟨[.val tyd],[.val tyD]⟩
def ψ1E.ctr:Ctr:=⟨ψ1E.sig,fun x=>ψ1E.f x⟩
def ψ1E.env:Env:=[]
def ψ1E.ann:Ann:=⟨[],[],[]⟩
theorem ψ1E.ok:φ3 Tryz.prog 30 ψ1E.ctr:=fS (A:=ψ1E.ann) φ4.nil Tryz.func30 (by kernel_rfl) (by kernel_rfl) (fun x=>by kernel_rfl)
def ψ1H.sig:Sig:=⟨[.val (.sl false tyP)],[.val (.sl true tyP)]⟩
def ψ1H.ctr:Ctr:=⟨ψ1H.sig,fun x=>ψ1H.f x⟩
def ψ1H.env:Env:=[]
def ψ1H.ann:Ann:=⟨[],[],[]⟩
theorem ψ1H.ok:φ3 Tryz.prog 102 ψ1H.ctr:=fS (A:=ψ1H.ann) φ4.nil Tryz.func102 (by kernel_rfl) (by kernel_rfl) (fun x=>by kernel_rfl)
def ψ1J.sig:Sig:=⟨[.val (.pair .bool (.pair (.sl false (.pair .str tyI)) (.sl false tyP)))],[.val (.pair .bool (.pair (.sl true (.pair .str tyI)) (.sl true tyP)))]⟩
def ψ1J.ctr:Ctr:=⟨ψ1J.sig,fun x=>ψ1J.f x⟩
def ψ1J.env:Env:=[(102,[ψ1H.ctr])]
def ψ1J.ann:Ann:=⟨[],[],[]⟩
theorem ψ1J.ok:φ3 Tryz.prog 58 ψ1J.ctr:=fS (A:=ψ1J.ann) (eC ψ1H.ok φ4.nil) Tryz.func58 (by kernel_rfl) (by kernel_rfl) (fun x=>by kernel_rfl)
def ψ1K.sig:Sig:=⟨[.val (.sl false (.pair .bool (.pair (.sl false (.pair .str tyI)) (.sl false tyP))))],[.val (.sl true (.pair .bool (.pair (.sl true (.pair .str tyI)) (.sl true tyP))))]⟩
def ψ1K.ctr:Ctr:=⟨ψ1K.sig,fun x=>ψ1K.f x⟩
def ψ1K.env:Env:=[(58,[ψ1J.ctr])]
def ψ1K.ann:Ann:=⟨[(0,([(3,.val (.sl true (.pair .bool (.pair (.sl true (.pair .str tyI)) (.sl true tyP))))),(6,.val (.sl false (.pair .bool (.pair (.sl false (.pair .str tyI)) (.sl false tyP))))),(7,.val tyI),(8,.val tyI)],[(.exit 0,[(3,.val (.sl true (.pair .bool (.pair (.sl true (.pair .str tyI)) (.sl true tyP)))))])]))],[],[]⟩
theorem ψ1K.ok:φ3 Tryz.prog 31 ψ1K.ctr:=fS (A:=ψ1K.ann) (eC ψ1J.ok φ4.nil) Tryz.func31 (by kernel_rfl) (by kernel_rfl) (fun x=>by kernel_rfl)
def ψ1F.sig:Sig:=⟨[.val (.pair .bool (.pair tys (.pair tyd (.sl false (.pair .bool (.pair (.sl false (.pair .str tyI)) (.sl false tyP)))))))],[.val (.pair .bool (.pair tyS (.pair tyD (.sl true (.pair .bool (.pair (.sl true (.pair .str tyI)) (.sl true tyP)))))))]⟩
def ψ1F.ctr:Ctr:=⟨ψ1F.sig,fun x=>ψ1F.f x⟩
def ψ1F.env:Env:=[(29,[ψ1I.ctr]),(30,[ψ1E.ctr]),(31,[ψ1K.ctr])]
def ψ1F.ann:Ann:=⟨[],[],[]⟩
theorem ψ1F.ok:φ3 Tryz.prog 17 ψ1F.ctr:=fS (A:=ψ1F.ann) (eC ψ1I.ok (eC ψ1E.ok (eC ψ1K.ok φ4.nil))) Tryz.func17 (by kernel_rfl) (by kernel_rfl) (fun x=>by kernel_rfl)
def ψ1R.sig:Sig:=⟨[.val tyI,.val tyI,.val tyI],[.val .bool]⟩
def ψ1R.ctr:Ctr:=⟨ψ1R.sig,fun x=>ψ1R.f x.1 x.2.1 x.2.2⟩
def ψ1R.env:Env:=[]
def ψ1R.ann:Ann:=⟨[],[],[]⟩
theorem ψ1R.ok:φ3 Tryz.prog 35 ψ1R.ctr:=fS (A:=ψ1R.ann) φ4.nil Tryz.func35 (by kernel_rfl) (by kernel_rfl) (fun x=>by kernel_rfl)
def ψY.sig:Sig:=⟨[.val .str],[.val .bool]⟩
def ψY.ctr:Ctr:=⟨ψY.sig,fun x=>ψY.f x⟩
def ψY.env:Env:=[(35,[ψ1R.ctr])]
def ψY.ann:Ann:=⟨[(0,([(0,.val .str),(3,.val tyI)],[(.exit 0,[(0,.val .str)]),(.ret,[(2,.val .bool)])]))],[],[(4,[(.normal,[(0,.val .str),(3,.val tyI)]),(.ret,[(2,.val .bool)])])]⟩
theorem ψY.ok:φ3 Tryz.prog 60 ψY.ctr:=fS (A:=ψY.ann) (eC ψ1R.ok φ4.nil) Tryz.func60 (by kernel_rfl) (by kernel_rfl) (fun x=>by kernel_rfl)
def ψC.sig:Sig:=⟨[.val tyd],[.val .bool]⟩
def ψC.ctr:Ctr:=⟨ψC.sig,fun x=>ψC.f x⟩
def ψC.env:Env:=[(35,[ψ1R.ctr]),(60,[ψY.ctr])]
def ψC.ann:Ann:=⟨[(0,([(1,.ptr tyd),(3,.val tyI),(23,.val (.sl false tyF)),(24,.val tyI),(25,.val tyI)],[(.exit 0,[(1,.ptr tyd),(3,.val tyI)]),(.ret,[(2,.val .bool)])]))],[],[(7,[(.normal,[(1,.ptr tyd),(3,.val tyI),(5,.ptr tyF),(23,.val (.sl false tyF)),(24,.val tyI),(25,.val tyI)]),(.ret,[(2,.val .bool)])])]⟩
theorem ψC.ok:φ3 Tryz.prog 34 ψC.ctr:=fS (A:=ψC.ann) (eC ψ1R.ok (eC ψY.ok φ4.nil)) Tryz.func34 (by kernel_rfl) (by kernel_rfl) (fun x=>by kernel_rfl)
def ψ1N.sig:Sig:=⟨[.val tyd,.val .str],[.val tyI]⟩
def ψ1N.ctr:Ctr:=⟨ψ1N.sig,fun x=>ψ1N.f x.1 x.2⟩
def ψ1N.env:Env:=[]
def ψ1N.ann:Ann:=⟨[(0,([(1,.val .str),(8,.val (.sl false tyF)),(9,.val tyI),(10,.val tyI)],[(.exit 0,[]),(.ret,[(4,.val tyI)])]))],[],[]⟩
theorem ψ1N.ok:φ3 Tryz.prog 124 ψ1N.ctr:=fS (A:=ψ1N.ann) φ4.nil Tryz.func124 (by kernel_rfl) (by kernel_rfl) (fun x=>by kernel_rfl)
def ψM.sig:Sig:=⟨[.val tyd,.val .str],[.val .str,.val .bool]⟩
def ψM.ctr:Ctr:=⟨ψM.sig,fun x=>ψM.f x.1 x.2⟩
def ψM.env:Env:=[(34,[ψC.ctr]),(124,[ψ1N.ctr])]
def ψM.ann:Ann:=⟨[],[],[]⟩
theorem ψM.ok:φ3 Tryz.prog 70 ψM.ctr:=fS (A:=ψM.ann) (eC ψC.ok (eC ψ1N.ok φ4.nil)) Tryz.func70 (by kernel_rfl) (by kernel_rfl) (fun x=>by kernel_rfl)
def strconv_Itoa.ctr:Ctr:=φFU
theorem strconv_Itoa.ok:φ3 Tryz.prog 232 strconv_Itoa.ctr:=φHR Tryz.func232 (by kernel_rfl) (by kernel_rfl) fun n h0 h1 w hL=>(Tryz.strconv_Itoa n h0 h1 w hL.1).mono fun e w' ⟨he,k,os,hw⟩=>⟨he,hw ▸ below_grow _ w (κ9 _) k os⟩
def ψ6.sig:Sig:=⟨[.val tyI],[.val .str]⟩
def ψ6.ctr:Ctr:=⟨ψ6.sig,fun x=>ψ6.f x⟩
def ψ6.env:Env:=[(232,[strconv_Itoa.ctr])]
def ψ6.ann:Ann:=⟨[],[],[]⟩
theorem ψ6.ok:φ3 Tryz.prog 182 ψ6.ctr:=fS (A:=ψ6.ann) (eC strconv_Itoa.ok φ4.nil) Tryz.func182 (by kernel_rfl) (by kernel_rfl) (fun x=>by kernel_rfl)
def ψ1U.sig:Sig:=⟨[.val .str,.val tyI],[.val .str]⟩
def ψ1U.ctr:Ctr:=⟨ψ1U.sig,fun x=>ψ1U.f x.1 x.2⟩
def ψ1U.env:Env:=[(35,[ψ1R.ctr]),(182,[ψ6.ctr])]
def ψ1U.ann:Ann:=⟨[],[],[]⟩
theorem ψ1U.ok:φ3 Tryz.prog 125 ψ1U.ctr:=fS (A:=ψ1U.ann) (eC ψ1R.ok (eC ψ6.ok φ4.nil)) Tryz.func125 (by kernel_rfl) (by kernel_rfl) (fun x=>by kernel_rfl)
def ψt.sig:Sig:=⟨[.val tyI],[.val .str]⟩
def ψt.ctr:Ctr:=⟨ψt.sig,fun x=>ψt.f x⟩
def ψt.env:Env:=[(125,[ψ1U.ctr])]
def ψt.ann:Ann:=⟨[],[],[]⟩
theorem ψt.ok:φ3 Tryz.prog 71 ψt.ctr:=fS (A:=ψt.ann) (eC ψ1U.ok φ4.nil) Tryz.func71 (by kernel_rfl) (by kernel_rfl) (fun x=>by kernel_rfl)
def ψW.sig:Sig:=⟨[.val (.pair tyI (.sl false tyI))],[.val .bool]⟩
def ψW.ctr:Ctr:=⟨ψW.sig,fun x=>ψW.f x⟩
def ψW.env:Env:=[(35,[ψ1R.ctr])]
def ψW.ann:Ann:=⟨[(0,([(1,.ptr (.pair tyI (.sl false tyI))),(6,.val (.sl false tyI)),(7,.val tyI),(8,.val tyI)],[(.exit 0,[(1,.ptr (.pair tyI (.sl false tyI)))]),(.ret,[(2,.val .bool)])]))],[],[(4,[(.normal,[(1,.ptr (.pair tyI (.sl false tyI))),(6,.val (.sl false tyI)),(7,.val tyI),(8,.val tyI)]),(.ret,[(2,.val .bool)])])]⟩
theorem ψW.ok:φ3 Tryz.prog 105 ψW.ctr:=fS (A:=ψW.ann) (eC ψ1R.ok φ4.nil) Tryz.func105 (by kernel_rfl) (by kernel_rfl) (fun x=>by kernel_rfl)
def ψ1C.sig:Sig:=⟨[.val tyI],[.val .str]⟩
def ψ1C.ctr:Ctr:=⟨ψ1C.sig,fun x=>ψ1C.f x⟩
def ψ1C.env:Env:=[(35,[ψ1R.ctr])]
def ψ1C.ann:Ann:=⟨[(0,([(0,.val tyI),(3,.val (.sl true (.int .u8)))],[(.exit 0,[(0,.val tyI),(3,.val (.sl true (.int .u8)))])]))],[],[]⟩
theorem ψ1C.ok:φ3 Tryz.prog 223 ψ1C.ctr:=fS (A:=ψ1C.ann) (eC ψ1R.ok φ4.nil) Tryz.func223 (by kernel_rfl) (by kernel_rfl) (fun x=>by kernel_rfl)
def ψ1l.sig:Sig:=⟨[.val .str],[.val .str]⟩
def ψ1l.ctr:Ctr:=⟨ψ1l.sig,fun x=>ψ1l.f x⟩
def ψ1l.env:Env:=[(223,[ψ1C.ctr])]
def ψ1l.ann:Ann:=⟨[],[],[]⟩
theorem ψ1l.ok:φ3 Tryz.prog 219 ψ1l.ctr:=fS (A:=ψ1l.ann) (eC ψ1C.ok φ4.nil) Tryz.func219 (by kernel_rfl) (by kernel_rfl) (fun x=>by kernel_rfl)
def ψN.sig:Sig:=⟨[.val tyI,.val tyI],[.val .str]⟩
def ψN.ctr:Ctr:=⟨ψN.sig,fun x=>ψN.f x.1 x.2⟩
def ψN.env:Env:=[(35,[ψ1R.ctr])]
def ψN.ann:Ann:=⟨[(0,([(0,.val tyI),(5,.val (.sl true (.int .u8))),(6,.val tyI)],[(.exit 0,[(5,.val (.sl true (.int .u8)))])]))],[],[]⟩
theorem ψN.ok:φ3 Tryz.prog 220 ψN.ctr:=fS (A:=ψN.ann) (eC ψ1R.ok φ4.nil) Tryz.func220 (by kernel_rfl) (by kernel_rfl) (fun x=>by kernel_rfl)
def ψ3.sig:Sig:=⟨[.val .str],[.val tyI]⟩
def ψ3.ctr:Ctr:=⟨ψ3.sig,fun x=>ψ3.f x⟩
def ψ3.env:Env:=[]
def ψ3.ann:Ann:=⟨[(2,([(0,.val .str),(3,.val (.int .u32)),(4,.val tyI),(18,.val tyI)],[(.exit 2,[(0,.val .str),(3,.val (.int .u32)),(4,.val tyI)])])),(0,([(0,.val .str),(3,.val (.int .u32)),(4,.val tyI)],[(.exit 0,[(3,.val (.int .u32))])]))],[],[(10,[(.normal,[(0,.val .str),(3,.val (.int .u32)),(4,.val tyI),(18,.val tyI)])])]⟩
theorem ψ3.ok:φ3 Tryz.prog 221 ψ3.ctr:=fS (A:=ψ3.ann) φ4.nil Tryz.func221 (by kernel_rfl) (by kernel_rfl) (fun x=>by kernel_rfl)
def ψO.sig:Sig:=⟨[.val .str],[.val .str]⟩
def ψO.ctr:Ctr:=⟨ψO.sig,fun x=>ψO.f x⟩
def ψO.env:Env:=[(219,[ψ1l.ctr]),(220,[ψN.ctr]),(221,[ψ3.ctr])]
def ψO.ann:Ann:=⟨[],[],[]⟩
theorem ψO.ok:φ3 Tryz.prog 166 ψO.ctr:=fS (A:=ψO.ann) (eC ψ1l.ok (eC ψN.ok (eC ψ3.ok φ4.nil))) Tryz.func166 (by kernel_rfl) (by kernel_rfl) (fun x=>by kernel_rfl)
def ψj.sig:Sig:=⟨[.val .str],[.val tyI,.val tyI]⟩
def ψj.ctr:Ctr:=⟨ψj.sig,fun x=>ψj.f x⟩
def ψj.env:Env:=[]
def ψj.ann:Ann:=⟨[(0,([(0,.val .str),(4,.val tyI),(5,.val tyI)],[(.exit 0,[]),(.ret,[(2,.val tyI),(3,.val tyI)])]))],[],[(8,[(.normal,[(4,.val tyI),(5,.val tyI)]),(.ret,[(2,.val tyI),(3,.val tyI)])])]⟩
theorem ψj.ok:φ3 Tryz.prog 183 ψj.ctr:=fS (A:=ψj.ann) φ4.nil Tryz.func183 (by kernel_rfl) (by kernel_rfl) (fun x=>by kernel_rfl)
def ψ1A.sig:Sig:=⟨[.val .str],[.val .str,.val tyI]⟩
def ψ1A.ctr:Ctr:=⟨ψ1A.sig,fun x=>ψ1A.f x⟩
def ψ1A.env:Env:=[(166,[ψO.ctr]),(183,[ψj.ctr])]
def ψ1A.ann:Ann:=⟨[],[],[]⟩
theorem ψ1A.ok:φ3 Tryz.prog 126 ψ1A.ctr:=fS (A:=ψ1A.ann) (eC ψO.ok (eC ψj.ok φ4.nil)) Tryz.func126 (by kernel_rfl) (by kernel_rfl) (fun x=>by kernel_rfl)
def ψ1d.sig:Sig:=⟨[.ptr (.pair .str .bool)],[.val tyI]⟩
def ψ1d.ctr:Ctr:=⟨ψ1d.sig,fun x=>ψ1d.f x⟩
def ψ1d.env:Env:=[(183,[ψj.ctr])]
def ψ1d.ann:Ann:=⟨[],[],[]⟩
theorem ψ1d.ok:φ3 Tryz.prog 184 ψ1d.ctr:=fS (A:=ψ1d.ann) (eC ψj.ok φ4.nil) Tryz.func184 (by kernel_rfl) (by kernel_rfl) (fun x=>by kernel_rfl)
def ψh.sig:Sig:=⟨[.val .str],[.val (.pair tyI (.sl true tyI)),.val .bool]⟩
def ψh.ctr:Ctr:=⟨ψh.sig,fun x=>ψh.f x⟩
def ψh.env:Env:=[(105,[ψW.ctr]),(126,[ψ1A.ctr]),(184,[ψ1d.ctr])]
def ψh.ann:Ann:=⟨[(0,([(0,.val .str),(2,.ptr (.pair tyI (.sl true tyI))),(5,.val tyI),(6,.ptr (.pair .str .bool)),(7,.ptr (.pair tyI (.sl true tyI))),(8,.val tyI),(9,.val tyI)],[(.exit 0,[(0,.val .str),(2,.ptr (.pair tyI (.sl true tyI))),(5,.val tyI),(6,.ptr (.pair .str .bool)),(7,.ptr (.pair tyI (.sl true tyI)))])]))],[],[]⟩
theorem ψh.ok:φ3 Tryz.prog 156 ψh.ctr:=fS (A:=ψh.ann) (eC ψW.ok (eC ψ1A.ok (eC ψ1d.ok φ4.nil))) Tryz.func156 (by kernel_rfl) (by kernel_rfl) (fun x=>by kernel_rfl)
def ψ1c.sig:Sig:=⟨[.ptr (.pair .str .bool),.val tyI],[.val .str]⟩
def ψ1c.ctr:Ctr:=⟨ψ1c.sig,fun x=>ψ1c.f x.1 x.2⟩
def ψ1c.env:Env:=[]
def ψ1c.ann:Ann:=⟨[],[],[]⟩
theorem ψ1c.ok:φ3 Tryz.prog 187 ψ1c.ctr:=fS (A:=ψ1c.ann) φ4.nil Tryz.func187 (by kernel_rfl) (by kernel_rfl) (fun x=>by kernel_rfl)
def ψ1e.sig:Sig:=⟨[.ptr (.pair .str .bool)],[.val .str]⟩
def ψ1e.ctr:Ctr:=⟨ψ1e.sig,fun x=>ψ1e.f x⟩
def ψ1e.env:Env:=[(184,[ψ1d.ctr]),(187,[ψ1c.ctr])]
def ψ1e.ann:Ann:=⟨[],[],[]⟩
theorem ψ1e.ok:φ3 Tryz.prog 185 ψ1e.ctr:=fS (A:=ψ1e.ann) (eC ψ1d.ok (eC ψ1c.ok φ4.nil)) Tryz.func185 (by kernel_rfl) (by kernel_rfl) (fun x=>by kernel_rfl)
def ψf.sig:Sig:=⟨[.val .str,.val tyI],[.val tyI,.val .bool]⟩
def ψf.ctr:Ctr:=⟨ψf.sig,fun x=>ψf.f x.1 x.2⟩
def ψf.env:Env:=[(35,[ψ1R.ctr])]
def ψf.ann:Ann:=⟨[(0,([(0,.val .str),(6,.val tyI),(17,.val tyI),(18,.val tyI)],[(.exit 0,[(6,.val tyI)])]))],[],[]⟩
theorem ψf.ok:φ3 Tryz.prog 186 ψf.ctr:=fS (A:=ψf.ann) (eC ψ1R.ok φ4.nil) Tryz.func186 (by kernel_rfl) (by kernel_rfl) (fun x=>by kernel_rfl)
def ψV.sig:Sig:=⟨[.val .str],[.val .bool]⟩
def ψV.ctr:Ctr:=⟨ψV.sig,fun x=>ψV.f x⟩
def ψV.env:Env:=[(35,[ψ1R.ctr])]
def ψV.ann:Ann:=⟨[],[],[]⟩
theorem ψV.ok:φ3 Tryz.prog 115 ψV.ctr:=fS (A:=ψV.ann) (eC ψ1R.ok φ4.nil) Tryz.func115 (by kernel_rfl) (by kernel_rfl) (fun x=>by kernel_rfl)
def ψl.sig:Sig:=⟨[.val tyR],[.val .bool]⟩
def ψl.ctr:Ctr:=⟨ψl.sig,fun x=>ψl.f x⟩
def ψl.env:Env:=[(35,[ψ1R.ctr]),(115,[ψV.ctr])]
def ψl.ann:Ann:=⟨[],[],[(4,[(.normal,[(1,.ptr tyR),(3,.ptr tyR),(4,.val .bool),(5,.val tyI),(12,.val tyI),(13,.val .bool)])])]⟩
theorem ψl.ok:φ3 Tryz.prog 188 ψl.ctr:=fS (A:=ψl.ann) (eC ψ1R.ok (eC ψV.ok φ4.nil)) Tryz.func188 (by kernel_rfl) (by kernel_rfl) (fun x=>by kernel_rfl)
def ψi.sig:Sig:=⟨[.val .str],[.val tyR,.val .bool]⟩
def ψi.ctr:Ctr:=⟨ψi.sig,fun x=>ψi.f x⟩
def ψi.env:Env:=[(184,[ψ1d.ctr]),(185,[ψ1e.ctr]),(186,[ψf.ctr]),(187,[ψ1c.ctr]),(188,[ψl.ctr])]
def ψi.ann:Ann:=⟨[],[(0,[(.normal,[(2,.ptr tyR),(4,.ptr (.pair .str .bool)),(5,.ptr tyR)])])],[(8,[(.normal,[(2,.ptr tyR),(4,.ptr (.pair .str .bool)),(5,.ptr tyR),(16,.val tyI),(27,.val .bool)])]),(12,[(.normal,[(2,.ptr tyR),(4,.ptr (.pair .str .bool)),(5,.ptr tyR)])])]⟩
theorem ψi.ok:φ3 Tryz.prog 127 ψi.ctr:=fS (A:=ψi.ann) (eC ψ1d.ok (eC ψ1e.ok (eC ψf.ok (eC ψ1c.ok (eC ψl.ok φ4.nil))))) Tryz.func127 (by kernel_rfl) (by kernel_rfl) (fun x=>by kernel_rfl)
def ψs.sig:Sig:=⟨[.val .str],[.val (.sl false (.pair tyI (.pair tyI tyR))),.val tyI]⟩
def ψs.ctr:Ctr:=⟨ψs.sig,fun x=>ψs.f x⟩
def ψs.env:Env:=[(126,[ψ1A.ctr]),(127,[ψi.ctr])]
def ψs.ann:Ann:=⟨[(0,([(0,.val .str),(4,.val (.sl true (.pair tyI (.pair tyI tyR)))),(5,.val tyI)],[(.ret,[(2,.val (.sl true (.pair tyI (.pair tyI tyR)))),(3,.val tyI)])]))],[],[]⟩
theorem ψs.ok:φ3 Tryz.prog 107 ψs.ctr:=fS (A:=ψs.ann) (eC ψ1A.ok (eC ψi.ok φ4.nil)) Tryz.func107 (by kernel_rfl) (by kernel_rfl) (fun x=>by kernel_rfl)
def ψ1Y.sig:Sig:=⟨[.val tyI,.val (.sl false (.pair tyI (.pair tyI tyR)))],[.val (.sl true (.pair tyI (.pair tyI (.pair tyI tyR))))]⟩
def ψ1Y.ctr:Ctr:=⟨ψ1Y.sig,fun x=>ψ1Y.f x.1 x.2⟩
def ψ1Y.env:Env:=[]
def ψ1Y.ann:Ann:=⟨[(0,([(0,.val tyI),(5,.val (.sl true (.pair tyI (.pair tyI (.pair tyI tyR))))),(8,.val (.sl false (.pair tyI (.pair tyI tyR)))),(9,.val tyI),(10,.val tyI)],[(.exit 0,[(5,.val (.sl true (.pair tyI (.pair tyI (.pair tyI tyR)))))])]))],[],[]⟩
theorem ψ1Y.ok:φ3 Tryz.prog 207 ψ1Y.ctr:=fS (A:=ψ1Y.ann) φ4.nil Tryz.func207 (by kernel_rfl) (by kernel_rfl) (fun x=>by kernel_rfl)
def ψ22.sig:Sig:=⟨[.ptr (.pair tyD tyI),.val (.pair tyI (.sl false tyI))],[.val (.sl true (.sl true (.pair tyI (.pair tyI (.pair tyI tyR))))),.val tyI,.val .bool]⟩
def ψ22.ctr:Ctr:=⟨ψ22.sig,fun x=>ψ22.f x.1 x.2⟩
def ψ22.env:Env:=[(70,[ψM.ctr]),(71,[ψt.ctr]),(107,[ψs.ctr]),(207,[ψ1Y.ctr])]
def ψ22.ann:Ann:=⟨[(0,([(0,.ptr (.pair tyD tyI)),(3,.ptr (.pair tyI (.sl false tyI))),(7,.val (.sl true (.sl true (.pair tyI (.pair tyI (.pair tyI tyR)))))),(8,.val tyI),(16,.val (.sl false tyI)),(17,.val tyI),(18,.val tyI)],[(.exit 0,[(0,.ptr (.pair tyD tyI)),(7,.val (.sl true (.sl true (.pair tyI (.pair tyI (.pair tyI tyR)))))),(8,.val tyI)]),(.ret,[(0,.ptr (.pair tyD tyI)),(4,.val (.sl true (.sl true (.pair tyI (.pair tyI (.pair tyI tyR)))))),(5,.val tyI),(6,.val .bool)])]))],[],[(8,[(.normal,[(0,.ptr (.pair tyD tyI)),(3,.ptr (.pair tyI (.sl false tyI))),(7,.val (.sl true (.sl true (.pair tyI (.pair tyI (.pair tyI tyR)))))),(10,.val tyI),(13,.val (.sl false (.pair tyI (.pair tyI tyR)))),(14,.val tyI),(16,.val (.sl false tyI)),(17,.val tyI),(18,.val tyI)]),(.ret,[(0,.ptr (.pair tyD tyI)),(4,.val (.sl true (.sl true (.pair tyI (.pair tyI (.pair tyI tyR)))))),(5,.val tyI),(6,.val .bool)])])]⟩
theorem ψ22.ok:φ3 Tryz.prog 157 ψ22.ctr:=fS (A:=ψ22.ann) (eC ψM.ok (eC ψt.ok (eC ψs.ok (eC ψ1Y.ok φ4.nil)))) Tryz.func157 (by kernel_rfl) (by kernel_rfl) (fun x=>by kernel_rfl)
def ψ1m.sig:Sig:=⟨[.val tyI],[.val tyI]⟩
def ψ1m.ctr:Ctr:=⟨ψ1m.sig,fun x=>ψ1m.f x⟩
def ψ1m.env:Env:=[]
def ψ1m.ann:Ann:=⟨[],[],[]⟩
theorem ψ1m.ok:φ3 Tryz.prog 208 ψ1m.ctr:=fS (A:=ψ1m.ann) φ4.nil Tryz.func208 (by kernel_rfl) (by kernel_rfl) (fun x=>by kernel_rfl)
def ψ24.sig:Sig:=⟨[.ptr (.pair tyD tyI),.val tyD,.val tyI],[]⟩
def ψ24.ctr:Ctr:=⟨ψ24.sig,fun x=>ψ24.f x.1 x.2.1 x.2.2⟩
def ψ24.env:Env:=[(208,[ψ1m.ctr])]
def ψ24.ann:Ann:=⟨[],[],[]⟩
theorem ψ24.ok:φ3 Tryz.prog 158 ψ24.ctr:=fS (A:=ψ24.ann) (eC ψ1m.ok φ4.nil) Tryz.func158 (by kernel_rfl) (by kernel_rfl) (fun x=>by kernel_rfl)
def ψ17.sig:Sig:=⟨[.ptr tyD,.val (.box none .str),.val (.box none tyI)],[.val tyI]⟩
def ψ17.ctr:Ctr:=⟨ψ17.sig,fun x=>ψ17.f x.1 x.2.1 x.2.2⟩
def ψ17.env:Env:=[(35,[ψ1R.ctr]),(124,[ψ1N.ctr])]
def ψ17.ann:Ann:=⟨[],[],[]⟩
theorem ψ17.ok:φ3 Tryz.prog 210 ψ17.ctr:=fS (A:=ψ17.ann) (eC ψ1R.ok (eC ψ1N.ok φ4.nil)) Tryz.func210 (by kernel_rfl) (by kernel_rfl) (fun x=>by kernel_rfl)
def ψ1k.sig:Sig:=⟨[.val tyd,.val (.box (some 210) (.pair (.box none .str) (.box none tyI)))],[.val tyD,.val tyI]⟩
def ψ1k.ctr:Ctr:=⟨ψ1k.sig,fun x=>ψ1k.f x.1 x.2⟩
def ψ1k.env:Env:=[(30,[ψ1E.ctr]),(34,[ψC.ctr]),(210,[ψ17.ctr])]
def ψ1k.ann:Ann:=⟨[],[],[(7,[(.normal,[(1,.val (.box (some 210) (.pair (.box none .str) (.box none tyI)))),(4,.ptr tyD),(6,.ptr tyD)])])]⟩
theorem ψ1k.ok:φ3 Tryz.prog 209 ψ1k.ctr:=fS (A:=ψ1k.ann) (eC ψ1E.ok (eC ψC.ok (eC ψ17.ok φ4.nil))) Tryz.func209 (by kernel_rfl) (by kernel_rfl) (fun x=>by kernel_rfl)
def ψ16.sig:Sig:=⟨[.val tyd,.val .str,.val tyI],[.val tyD,.val tyI]⟩
def ψ16.ctr:Ctr:=⟨ψ16.sig,fun x=>ψ16.f x.1 x.2.1 x.2.2⟩
def ψ16.env:Env:=[(209,[ψ1k.ctr])]
def ψ16.ann:Ann:=⟨[],[],[]⟩
theorem ψ16.ok:φ3 Tryz.prog 159 ψ16.ctr:=fS (A:=ψ16.ann) (eC ψ1k.ok φ4.nil) Tryz.func159 (by kernel_rfl) (by kernel_rfl) (fun x=>by kernel_rfl)
def ψ15.sig:Sig:=⟨[.ptr tyD,.val (.box none .str)],[.val tyI]⟩
def ψ15.ctr:Ctr:=⟨ψ15.sig,fun x=>ψ15.f x.1 x.2⟩
def ψ15.env:Env:=[(124,[ψ1N.ctr])]
def ψ15.ann:Ann:=⟨[],[],[]⟩
theorem ψ15.ok:φ3 Tryz.prog 235 ψ15.ctr:=fS (A:=ψ15.ann) (eC ψ1N.ok φ4.nil) Tryz.func235 (by kernel_rfl) (by kernel_rfl) (fun x=>by kernel_rfl)
def ψ1j.sig:Sig:=⟨[.val tyd,.val (.box (some 235) (.box none .str))],[.val tyD,.val tyI]⟩
def ψ1j.ctr:Ctr:=⟨ψ1j.sig,fun x=>ψ1j.f x.1 x.2⟩
def ψ1j.env:Env:=[(30,[ψ1E.ctr]),(34,[ψC.ctr]),(235,[ψ15.ctr])]
def ψ1j.ann:Ann:=⟨[],[],[(7,[(.normal,[(1,.val (.box (some 235) (.box none .str))),(4,.ptr tyD),(6,.ptr tyD)])])]⟩
theorem ψ1j.ok:φ3 Tryz.prog 209 ψ1j.ctr:=fS (A:=ψ1j.ann) (eC ψ1E.ok (eC ψC.ok (eC ψ15.ok φ4.nil))) Tryz.func209 (by kernel_rfl) (by kernel_rfl) (fun x=>by kernel_rfl)
def ψ14.sig:Sig:=⟨[.val tyd,.val .str],[.val tyD,.val tyI]⟩
def ψ14.ctr:Ctr:=⟨ψ14.sig,fun x=>ψ14.f x.1 x.2⟩
def ψ14.env:Env:=[(209,[ψ1j.ctr])]
def ψ14.ann:Ann:=⟨[],[],[]⟩
theorem ψ14.ok:φ3 Tryz.prog 211 ψ14.ctr:=fS (A:=ψ14.ann) (eC ψ1j.ok φ4.nil) Tryz.func211 (by kernel_rfl) (by kernel_rfl) (fun x=>by kernel_rfl)
def ψ23.sig:Sig:=⟨[.ptr (.pair tyD tyI),.val .str],[]⟩
def ψ23.ctr:Ctr:=⟨ψ23.sig,fun x=>ψ23.f x.1 x.2⟩
def ψ23.env:Env:=[(158,[ψ24.ctr]),(211,[ψ14.ctr])]
def ψ23.ann:Ann:=⟨[],[],[]⟩
theorem ψ23.ok:φ3 Tryz.prog 160 ψ23.ctr:=fS (A:=ψ23.ann) (eC ψ24.ok (eC ψ14.ok φ4.nil)) Tryz.func160 (by kernel_rfl) (by kernel_rfl) (fun x=>by kernel_rfl)
def ψS.sig:Sig:=⟨[.val tyI],[.val .str]⟩
def ψS.ctr:Ctr:=⟨ψS.sig,fun x=>ψS.f x⟩
def ψS.env:Env:=[(125,[ψ1U.ctr])]
def ψS.ann:Ann:=⟨[],[],[]⟩
theorem ψS.ok:φ3 Tryz.prog 113 ψS.ctr:=fS (A:=ψS.ann) (eC ψ1U.ok φ4.nil) Tryz.func113 (by kernel_rfl) (by kernel_rfl) (fun x=>by kernel_rfl)
def ψ1p.sig:Sig:=⟨[.val (.sl false tyI)],[.val .str]⟩
def ψ1p.ctr:Ctr:=⟨ψ1p.sig,fun x=>ψ1p.f x⟩
def ψ1p.env:Env:=[(223,[ψ1C.ctr])]
def ψ1p.ann:Ann:=⟨[(0,([(3,.val .str),(6,.val (.sl false tyI)),(7,.val tyI),(8,.val tyI)],[(.exit 0,[(3,.val .str)])]))],[],[]⟩
theorem ψ1p.ok:φ3 Tryz.prog 222 ψ1p.ctr:=fS (A:=ψ1p.ann) (eC ψ1C.ok φ4.nil) Tryz.func222 (by kernel_rfl) (by kernel_rfl) (fun x=>by kernel_rfl)
def ψA.sig:Sig:=⟨[.val (.sl false tyE)],[.val .bool]⟩
def ψA.ctr:Ctr:=⟨ψA.sig,fun x=>ψA.f x⟩
def ψA.env:Env:=[(35,[ψ1R.ctr]),(115,[ψV.ctr])]
def ψA.ann:Ann:=⟨[(0,([(0,.val (.sl false tyE)),(5,.val (.sl false tyE)),(6,.val tyI),(7,.val tyI)],[(.exit 0,[(0,.val (.sl false tyE))]),(.ret,[(2,.val .bool)])]))],[],[(4,[(.normal,[(0,.val (.sl false tyE)),(5,.val (.sl false tyE)),(6,.val tyI),(7,.val tyI)]),(.ret,[(2,.val .bool)])])]⟩
theorem ψA.ok:φ3 Tryz.prog 106 ψA.ctr:=fS (A:=ψA.ann) (eC ψ1R.ok (eC ψV.ok φ4.nil)) Tryz.func106 (by kernel_rfl) (by kernel_rfl) (fun x=>by kernel_rfl)
def ψ1Q.sig:Sig:=⟨[.val (.pair tyI (.pair tyI (.sl false tyE)))],[.val .bool]⟩
def ψ1Q.ctr:Ctr:=⟨ψ1Q.sig,fun x=>ψ1Q.f x⟩
def ψ1Q.env:Env:=[(35,[ψ1R.ctr]),(106,[ψA.ctr])]
def ψ1Q.ann:Ann:=⟨[(0,([(1,.ptr (.pair tyI (.pair tyI (.sl false tyE)))),(6,.val (.sl false tyE)),(7,.val tyI),(8,.val tyI)],[(.exit 0,[(1,.ptr (.pair tyI (.pair tyI (.sl false tyE))))]),(.ret,[(2,.val .bool)])]))],[],[]⟩
theorem ψ1Q.ok:φ3 Tryz.prog 225 ψ1Q.ctr:=fS (A:=ψ1Q.ann) (eC ψ1R.ok (eC ψA.ok φ4.nil)) Tryz.func225 (by kernel_rfl) (by kernel_rfl) (fun x=>by kernel_rfl)
def ψu.sig:Sig:=⟨[.val (.pair tyI (.pair tyI (.sl false tyE)))],[.val .str]⟩
def ψu.ctr:Ctr:=⟨ψu.sig,fun x=>ψu.f x⟩
def ψu.env:Env:=[(219,[ψ1l.ctr]),(220,[ψN.ctr]),(221,[ψ3.ctr]),(222,[ψ1p.ctr]),(225,[ψ1Q.ctr])]
def ψu.ann:Ann:=⟨[(0,([(3,.val .str),(19,.val (.sl false tyE)),(20,.val tyI),(21,.val tyI)],[(.exit 0,[(3,.val .str)])]))],[],[]⟩
theorem ψu.ok:φ3 Tryz.prog 172 ψu.ctr:=fS (A:=ψu.ann) (eC ψ1l.ok (eC ψN.ok (eC ψ3.ok (eC ψ1p.ok (eC ψ1Q.ok φ4.nil))))) Tryz.func172 (by kernel_rfl) (by kernel_rfl) (fun x=>by kernel_rfl)
def ψg.sig:Sig:=⟨[.val .str],[.val (.pair tyI (.pair tyI (.sl true tyE))),.val .bool]⟩
def ψg.ctr:Ctr:=⟨ψg.sig,fun x=>ψg.f x⟩
def ψg.env:Env:=[(172,[ψu.ctr]),(184,[ψ1d.ctr]),(185,[ψ1e.ctr]),(187,[ψ1c.ctr]),(225,[ψ1Q.ctr])]
def ψg.ann:Ann:=⟨[(0,([(0,.val .str),(2,.ptr (.pair tyI (.pair tyI (.sl true tyE)))),(4,.ptr (.pair .str .bool)),(5,.ptr (.pair tyI (.pair tyI (.sl true tyE)))),(6,.val tyI),(7,.val tyI)],[(.exit 0,[(0,.val .str),(2,.ptr (.pair tyI (.pair tyI (.sl true tyE)))),(4,.ptr (.pair .str .bool)),(5,.ptr (.pair tyI (.pair tyI (.sl true tyE))))])]))],[],[]⟩
theorem ψg.ok:φ3 Tryz.prog 212 ψg.ctr:=fS (A:=ψg.ann) (eC ψu.ok (eC ψ1d.ok (eC ψ1e.ok (eC ψ1c.ok (eC ψ1Q.ok φ4.nil))))) Tryz.func212 (by kernel_rfl) (by kernel_rfl) (fun x=>by kernel_rfl)
def ψw.sig:Sig:=⟨[.val tyR],[.val .str]⟩
def ψw.ctr:Ctr:=⟨ψw.sig,fun x=>ψw.f x⟩
def ψw.env:Env:=[(188,[ψl.ctr]),(219,[ψ1l.ctr]),(220,[ψN.ctr]),(222,[ψ1p.ctr]),(223,[ψ1C.ctr])]
def ψw.ann:Ann:=⟨[],[],[(5,[(.normal,[(1,.ptr tyR),(3,.val .str),(14,.val tyI),(15,.val .bool)])])]⟩
theorem ψw.ok:φ3 Tryz.prog 167 ψw.ctr:=fS (A:=ψw.ann) (eC ψl.ok (eC ψ1l.ok (eC ψN.ok (eC ψ1p.ok (eC ψ1C.ok φ4.nil))))) Tryz.func167 (by kernel_rfl) (by kernel_rfl) (fun x=>by kernel_rfl)
def ψ13.sig:Sig:=⟨[.val (.sl false tyR)],[.val tyI]⟩
def ψ13.ctr:Ctr:=⟨ψ13.sig,fun x=>ψ13.f x⟩
def ψ13.env:Env:=[(167,[ψw.ctr]),(221,[ψ3.ctr])]
def ψ13.ann:Ann:=⟨[(0,([(3,.val .str),(6,.val (.sl false tyR)),(7,.val tyI),(8,.val tyI)],[(.exit 0,[(3,.val .str)])]))],[],[]⟩
theorem ψ13.ok:φ3 Tryz.prog 169 ψ13.ctr:=fS (A:=ψ13.ann) (eC ψw.ok (eC ψ3.ok φ4.nil)) Tryz.func169 (by kernel_rfl) (by kernel_rfl) (fun x=>by kernel_rfl)
def ψ1O.sig:Sig:=⟨[.val tyR,.val (.sl false (.pair tyI (.pair tyI (.pair tyI tyR))))],[.val .bool]⟩
def ψ1O.ctr:Ctr:=⟨ψ1O.sig,fun x=>ψ1O.f x.1 x.2⟩
def ψ1O.env:Env:=[(169,[ψ13.ctr])]
def ψ1O.ann:Ann:=⟨[(0,([(2,.ptr tyR),(5,.val (.sl true tyR)),(8,.val (.sl false (.pair tyI (.pair tyI (.pair tyI tyR))))),(9,.val tyI),(10,.val tyI)],[(.exit 0,[(2,.ptr tyR),(5,.val (.sl true tyR))])]))],[],[]⟩
theorem ψ1O.ok:φ3 Tryz.prog 215 ψ1O.ctr:=fS (A:=ψ1O.ann) (eC ψ13.ok φ4.nil) Tryz.func215 (by kernel_rfl) (by kernel_rfl) (fun x=>by kernel_rfl)
def ψT.sig:Sig:=⟨[.val tyI,.val .str],[.val (.pair tyI (.pair tyI (.sl true tyE))),.val .bool]⟩
def ψT.ctr:Ctr:=⟨ψT.sig,fun x=>ψT.f x.1 x.2⟩
def ψT.env:Env:=[(35,[ψ1R.ctr]),(107,[ψs.ctr]),(207,[ψ1Y.ctr]),(215,[ψ1O.ctr])]
def ψT.ann:Ann:=⟨[(0,([(0,.val tyI),(4,.ptr (.pair tyI (.pair tyI (.sl true tyE)))),(6,.val (.sl false (.pair tyI (.pair tyI tyR)))),(9,.ptr (.pair tyI (.pair tyI (.sl true tyE)))),(67,.val (.sl false (.pair tyI (.pair tyI tyR)))),(68,.val tyI),(69,.val tyI)],[(.exit 0,[(4,.ptr (.pair tyI (.pair tyI (.sl true tyE)))),(9,.ptr (.pair tyI (.pair tyI (.sl true tyE))))]),(.ret,[(4,.ptr (.pair tyI (.pair tyI (.sl true tyE)))),(5,.val .bool)])]))],[],[(9,[(.normal,[(0,.val tyI),(4,.ptr (.pair tyI (.pair tyI (.sl true tyE)))),(6,.val (.sl false (.pair tyI (.pair tyI tyR)))),(9,.ptr (.pair tyI (.pair tyI (.sl true tyE)))),(11,.ptr (.pair tyI (.pair tyI tyR))),(67,.val (.sl false (.pair tyI (.pair tyI tyR)))),(68,.val tyI),(69,.val tyI)]),(.ret,[(4,.ptr (.pair tyI (.pair tyI (.sl true tyE)))),(5,.val .bool)])])]⟩
theorem ψT.ok:φ3 Tryz.prog 170 ψT.ctr:=fS (A:=ψT.ann) (eC ψ1R.ok (eC ψs.ok (eC ψ1Y.ok (eC ψ1O.ok φ4.nil)))) Tryz.func170 (by kernel_rfl) (by kernel_rfl) (fun x=>by kernel_rfl)
def ψr.sig:Sig:=⟨[.val (.sl false tyE),.val (.sl false tyE)],[.val .bool]⟩
def ψr.ctr:Ctr:=⟨ψr.sig,fun x=>ψr.f x.1 x.2⟩
def ψr.env:Env:=[]
def ψr.ann:Ann:=⟨[(0,([(0,.val (.sl false tyE)),(1,.val (.sl false tyE)),(12,.val tyI),(13,.val tyI)],[(.exit 0,[]),(.ret,[(4,.val .bool)])]))],[],[]⟩
theorem ψr.ok:φ3 Tryz.prog 236 ψr.ctr:=fS (A:=ψr.ann) φ4.nil Tryz.func236 (by kernel_rfl) (by kernel_rfl) (fun x=>by kernel_rfl)
def ψR.sig:Sig:=⟨[.val tyI,.val .str,.val (.pair tyI (.pair tyI (.sl false tyE)))],[.val .bool]⟩
def ψR.ctr:Ctr:=⟨ψR.sig,fun x=>ψR.f x.1 x.2.1 x.2.2⟩
def ψR.env:Env:=[(170,[ψT.ctr]),(236,[ψr.ctr])]
def ψR.ann:Ann:=⟨[],[],[]⟩
theorem ψR.ok:φ3 Tryz.prog 213 ψR.ctr:=fS (A:=ψR.ann) (eC ψT.ok (eC ψr.ok φ4.nil)) Tryz.func213 (by kernel_rfl) (by kernel_rfl) (fun x=>by kernel_rfl)
def ψ1x.sig:Sig:=⟨[.ptr (.pair tyD tyI),.val tyI],[.val (.pair (.sl true tyE) (.pair tyI tyI)),.val .bool]⟩
def ψ1x.ctr:Ctr:=⟨ψ1x.sig,fun x=>ψ1x.f x.1 x.2⟩
def ψ1x.env:Env:=[(70,[ψM.ctr]),(71,[ψt.ctr]),(113,[ψS.ctr]),(212,[ψg.ctr]),(213,[ψR.ctr])]
def ψ1x.ann:Ann:=⟨[],[],[]⟩
theorem ψ1x.ok:φ3 Tryz.prog 161 ψ1x.ctr:=fS (A:=ψ1x.ann) (eC ψM.ok (eC ψt.ok (eC ψS.ok (eC ψg.ok (eC ψR.ok φ4.nil))))) Tryz.func161 (by kernel_rfl) (by kernel_rfl) (fun x=>by kernel_rfl)
def ψ1X.sig:Sig:=⟨[.val (.sl false (.pair tyI (.pair tyI (.pair tyI tyR)))),.val tyR],[.val (.sl true (.pair tyI (.pair tyI (.pair tyI tyR))))]⟩
def ψ1X.ctr:Ctr:=⟨ψ1X.sig,fun x=>ψ1X.f x.1 x.2⟩
def ψ1X.env:Env:=[]
def ψ1X.ann:Ann:=⟨[(0,([(3,.ptr tyR),(5,.val (.sl true (.pair tyI (.pair tyI (.pair tyI tyR))))),(9,.val (.sl false (.pair tyI (.pair tyI (.pair tyI tyR))))),(10,.val tyI),(11,.val tyI)],[(.exit 0,[(5,.val (.sl true (.pair tyI (.pair tyI (.pair tyI tyR)))))])]))],[],[(9,[(.normal,[(3,.ptr tyR),(5,.val (.sl true (.pair tyI (.pair tyI (.pair tyI tyR))))),(7,.ptr (.pair tyI (.pair tyI (.pair tyI tyR)))),(9,.val (.sl false (.pair tyI (.pair tyI (.pair tyI tyR))))),(10,.val tyI),(11,.val tyI),(34,.val .bool)])]),(7,[(.normal,[(3,.ptr tyR),(5,.val (.sl true (.pair tyI (.pair tyI (.pair tyI tyR))))),(9,.val (.sl false (.pair tyI (.pair tyI (.pair tyI tyR))))),(10,.val tyI),(11,.val tyI)])]),(6,[(.normal,[(3,.ptr tyR),(5,.val (.sl true (.pair tyI (.pair tyI (.pair tyI tyR))))),(9,.val (.sl false (.pair tyI (.pair tyI (.pair tyI tyR))))),(10,.val tyI),(11,.val tyI)])])]⟩
theorem ψ1X.ok:φ3 Tryz.prog 214 ψ1X.ctr:=fS (A:=ψ1X.ann) φ4.nil Tryz.func214 (by kernel_rfl) (by kernel_rfl) (fun x=>by kernel_rfl)
def ψ7.sig:Sig:=⟨[.val (.sl false tyE),.val .str],[.val (.sl true tyE)]⟩
def ψ7.ctr:Ctr:=⟨ψ7.sig,fun x=>ψ7.f x.1 x.2⟩
def ψ7.env:Env:=[]
def ψ7.ann:Ann:=⟨[(0,([(1,.val .str),(5,.val (.sl true tyE)),(8,.val (.sl false tyE)),(9,.val tyI),(10,.val tyI)],[(.exit 0,[(5,.val (.sl true tyE))])]))],[],[(5,[(.normal,[(1,.val .str),(5,.val (.sl true tyE)),(8,.val (.sl false tyE)),(9,.val tyI),(10,.val tyI)])])]⟩
theorem ψ7.ok:φ3 Tryz.prog 229 ψ7.ctr:=fS (A:=ψ7.ann) φ4.nil Tryz.func229 (by kernel_rfl) (by kernel_rfl) (fun x=>by kernel_rfl)
def ψB.sig:Sig:=⟨[.val (.sl false tyE),.val tyE],[.val (.sl true tyE)]⟩
def ψB.ctr:Ctr:=⟨ψB.sig,fun x=>ψB.f x.1 x.2⟩
def ψB.env:Env:=[(57,[ψ1D.ctr]),(229,[ψ7.ctr])]
def ψB.ann:Ann:=⟨[(0,([(3,.ptr tyE),(5,.val (.sl true tyE)),(6,.val tyI)],[(.exit 0,[(3,.ptr tyE),(5,.val (.sl true tyE)),(6,.val tyI)])]))],[],[]⟩
theorem ψB.ok:φ3 Tryz.prog 230 ψB.ctr:=fS (A:=ψB.ann) (eC ψ1D.ok (eC ψ7.ok φ4.nil)) Tryz.func230 (by kernel_rfl) (by kernel_rfl) (fun x=>by kernel_rfl)
def ψQ.sig:Sig:=⟨[.ptr (.pair (.sl true tyE) (.pair tyI tyI)),.val (.sl false (.pair tyI (.pair tyI (.pair tyI tyR))))],[]⟩
def ψQ.ctr:Ctr:=⟨ψQ.sig,fun x=>ψQ.f x.1 x.2⟩
def ψQ.env:Env:=[(229,[ψ7.ctr]),(230,[ψB.ctr])]
def ψQ.ann:Ann:=⟨[(0,([(0,.ptr (.pair (.sl true tyE) (.pair tyI tyI))),(6,.val (.sl false (.pair tyI (.pair tyI (.pair tyI tyR))))),(7,.val tyI),(8,.val tyI)],[(.exit 0,[(0,.ptr (.pair (.sl true tyE) (.pair tyI tyI)))])]))],[],[(3,[(.normal,[(0,.ptr (.pair (.sl true tyE) (.pair tyI tyI))),(6,.val (.sl false (.pair tyI (.pair tyI (.pair tyI tyR))))),(7,.val tyI),(8,.val tyI)])])]⟩
theorem ψQ.ok:φ3 Tryz.prog 216 ψQ.ctr:=fS (A:=ψQ.ann) (eC ψ7.ok (eC ψB.ok φ4.nil)) Tryz.func216 (by kernel_rfl) (by kernel_rfl) (fun x=>by kernel_rfl)
def ψm.sig:Sig:=⟨[.val (.pair (.sl false tyE) (.pair tyI tyI)),.val (.sl false (.pair tyI (.pair tyI (.pair tyI tyR))))],[.val (.pair (.sl true tyE) (.pair tyI tyI))]⟩
def ψm.ctr:Ctr:=⟨ψm.sig,fun x=>ψm.f x.1 x.2⟩
def ψm.env:Env:=[(57,[ψ1D.ctr]),(214,[ψ1X.ctr]),(215,[ψ1O.ctr]),(216,[ψQ.ctr])]
def ψm.ann:Ann:=⟨[(0,([(1,.val (.sl false (.pair tyI (.pair tyI (.pair tyI tyR))))),(4,.ptr (.pair (.sl true tyE) (.pair tyI tyI))),(5,.ptr (.pair (.sl true tyE) (.pair tyI tyI))),(17,.val (.sl false (.pair tyI (.pair tyI (.pair tyI tyR))))),(18,.val tyI),(19,.val tyI)],[(.exit 0,[(1,.val (.sl false (.pair tyI (.pair tyI (.pair tyI tyR))))),(4,.ptr (.pair (.sl true tyE) (.pair tyI tyI))),(5,.ptr (.pair (.sl true tyE) (.pair tyI tyI)))]),(.ret,[(4,.ptr (.pair (.sl true tyE) (.pair tyI tyI)))])]))],[(1,[(.normal,[(1,.val (.sl false (.pair tyI (.pair tyI (.pair tyI tyR))))),(4,.ptr (.pair (.sl true tyE) (.pair tyI tyI))),(5,.ptr (.pair (.sl true tyE) (.pair tyI tyI))),(17,.val (.sl false (.pair tyI (.pair tyI (.pair tyI tyR))))),(18,.val tyI),(19,.val tyI)]),(.ret,[(4,.ptr (.pair (.sl true tyE) (.pair tyI tyI)))])])],[(8,[(.normal,[(1,.val (.sl false (.pair tyI (.pair tyI (.pair tyI tyR))))),(4,.ptr (.pair (.sl true tyE) (.pair tyI tyI))),(5,.ptr (.pair (.sl true tyE) (.pair tyI tyI))),(6,.val tyI),(7,.ptr (.pair tyI (.pair tyI (.pair tyI tyR)))),(17,.val (.sl false (.pair tyI (.pair tyI (.pair tyI tyR))))),(18,.val tyI),(19,.val tyI)]),(.exit 1,[(1,.val (.sl false (.pair tyI (.pair tyI (.pair tyI tyR))))),(4,.ptr (.pair (.sl true tyE) (.pair tyI tyI))),(5,.ptr (.pair (.sl true tyE) (.pair tyI tyI))),(17,.val (.sl false (.pair tyI (.pair tyI (.pair tyI tyR))))),(18,.val tyI),(19,.val tyI)])]),(12,[(.normal,[(1,.val (.sl false (.pair tyI (.pair tyI (.pair tyI tyR))))),(4,.ptr (.pair (.sl true tyE) (.pair tyI tyI))),(5,.ptr (.pair (.sl true tyE) (.pair tyI tyI))),(17,.val (.sl false (.pair tyI (.pair tyI (.pair tyI tyR))))),(18,.val tyI),(19,.val tyI)])]),(10,[(.normal,[(1,.val (.sl false (.pair tyI (.pair tyI (.pair tyI tyR))))),(4,.ptr (.pair (.sl true tyE) (.pair tyI tyI))),(5,.ptr (.pair (.sl true tyE) (.pair tyI tyI))),(17,.val (.sl false (.pair tyI (.pair tyI (.pair tyI tyR))))),(18,.val tyI),(19,.val tyI)])])]⟩
theorem ψm.ok:φ3 Tryz.prog 162 ψm.ctr:=fS (A:=ψm.ann) (eC ψ1D.ok (eC ψ1X.ok (eC ψ1O.ok (eC ψQ.ok φ4.nil)))) Tryz.func162 (by kernel_rfl) (by kernel_rfl) (fun x=>by kernel_rfl)
def ψD.sig:Sig:=⟨[.ptr tyD,.val .str],[]⟩
def ψD.ctr:Ctr:=⟨ψD.sig,fun x=>ψD.f x.1 x.2⟩
def ψD.env:Env:=[(124,[ψ1N.ctr])]
def ψD.ann:Ann:=⟨[],[],[]⟩
theorem ψD.ok:φ3 Tryz.prog 228 ψD.ctr:=fS (A:=ψD.ann) (eC ψ1N.ok φ4.nil) Tryz.func228 (by kernel_rfl) (by kernel_rfl) (fun x=>by kernel_rfl)
def ψo.sig:Sig:=⟨[.ptr tyD,.val (.box none .str)],[.val tyI]⟩
def ψo.ctr:Ctr:=⟨ψo.sig,fun x=>ψo.f x.1 x.2⟩
def ψo.env:Env:=[(124,[ψ1N.ctr]),(228,[ψD.ctr])]
def ψo.ann:Ann:=⟨[],[],[]⟩
theorem ψo.ok:φ3 Tryz.prog 227 ψo.ctr:=fS (A:=ψo.ann) (eC ψ1N.ok (eC ψD.ok φ4.nil)) Tryz.func227 (by kernel_rfl) (by kernel_rfl) (fun x=>by kernel_rfl)
def ψ1h.sig:Sig:=⟨[.val tyd,.val (.box (some 227) (.box none .str))],[.val tyD,.val tyI]⟩
def ψ1h.ctr:Ctr:=⟨ψ1h.sig,fun x=>ψ1h.f x.1 x.2⟩
def ψ1h.env:Env:=[(30,[ψ1E.ctr]),(34,[ψC.ctr]),(227,[ψo.ctr])]
def ψ1h.ann:Ann:=⟨[],[],[(7,[(.normal,[(1,.val (.box (some 227) (.box none .str))),(4,.ptr tyD),(6,.ptr tyD)])])]⟩
theorem ψ1h.ok:φ3 Tryz.prog 209 ψ1h.ctr:=fS (A:=ψ1h.ann) (eC ψ1E.ok (eC ψC.ok (eC ψo.ok φ4.nil))) Tryz.func209 (by kernel_rfl) (by kernel_rfl) (fun x=>by kernel_rfl)
def ψn.sig:Sig:=⟨[.val tyd,.val .str],[.val tyD,.val tyI]⟩
def ψn.ctr:Ctr:=⟨ψn.sig,fun x=>ψn.f x.1 x.2⟩
def ψn.env:Env:=[(209,[ψ1h.ctr])]
def ψn.ann:Ann:=⟨[],[],[]⟩
theorem ψn.ok:φ3 Tryz.prog 175 ψn.ctr:=fS (A:=ψn.ann) (eC ψ1h.ok φ4.nil) Tryz.func175 (by kernel_rfl) (by kernel_rfl) (fun x=>by kernel_rfl)
def ψ1w.sig:Sig:=⟨[.ptr (.pair tyD tyI),.val .str],[]⟩
def ψ1w.ctr:Ctr:=⟨ψ1w.sig,fun x=>ψ1w.f x.1 x.2⟩
def ψ1w.env:Env:=[(124,[ψ1N.ctr]),(158,[ψ24.ctr]),(175,[ψn.ctr])]
def ψ1w.ann:Ann:=⟨[],[],[]⟩
theorem ψ1w.ok:φ3 Tryz.prog 114 ψ1w.ctr:=fS (A:=ψ1w.ann) (eC ψ1N.ok (eC ψ24.ok (eC ψn.ok φ4.nil))) Tryz.func114 (by kernel_rfl) (by kernel_rfl) (fun x=>by kernel_rfl)
def ψ40.sig:Sig:=⟨[.val .str,.val .str],[.val .bool]⟩
def ψ40.ctr:Ctr:=⟨ψ40.sig,fun x=>ψ40.f x.1 x.2⟩
def ψ40.env:Env:=[]
def ψ40.ann:Ann:=⟨[],[],[]⟩
theorem ψ40.ok:φ3 Tryz.prog 253 ψ40.ctr:=fS (A:=ψ40.ann) φ4.nil Tryz.func253 (by kernel_rfl) (by kernel_rfl) (fun x=>by kernel_rfl)
def ψ3z.sig:Sig:=⟨[.val .str,.val .str],[.val .str,.val .bool]⟩
def ψ3z.ctr:Ctr:=⟨ψ3z.sig,fun x=>ψ3z.f x.1 x.2⟩
def ψ3z.env:Env:=[(253,[ψ40.ctr])]
def ψ3z.ann:Ann:=⟨[],[],[]⟩
theorem ψ3z.ok:φ3 Tryz.prog 247 ψ3z.ctr:=fS (A:=ψ3z.ann) (eC ψ40.ok φ4.nil) Tryz.func247 (by kernel_rfl) (by kernel_rfl) (fun x=>by kernel_rfl)
def ψ3y.sig:Sig:=⟨[.val .str,.val .str],[.val .str,.val .bool]⟩
def ψ3y.ctr:Ctr:=⟨ψ3y.sig,fun x=>ψ3y.f x.1 x.2⟩
def ψ3y.env:Env:=[(247,[ψ3z.ctr])]
def ψ3y.ann:Ann:=⟨[],[],[]⟩
theorem ψ3y.ok:φ3 Tryz.prog 244 ψ3y.ctr:=fS (A:=ψ3y.ann) (eC ψ3z.ok φ4.nil) Tryz.func244 (by kernel_rfl) (by kernel_rfl) (fun x=>by kernel_rfl)
def strconv_Atoi.ctr:Ctr:=φ50
theorem strconv_Atoi.ok:φ3 Tryz.prog 248 strconv_Atoi.ctr:=φIK Tryz.func248 (by kernel_rfl) (by kernel_rfl) (fun s h v hv w _=>Tryz.strconv_Atoi_ok s h v hv w)
 (fun s h hv w hL=>by obtain ⟨ev,h1,h2⟩:=hL.2.1;exact (Tryz.strconv_Atoi_syntax s h hv ev w h1 h2).mono fun e w' ⟨N,he,_,_,hB⟩=>⟨N,he,hB⟩)
 (fun s h hv w hL=>by obtain ⟨ev,h1,h2⟩:=hL.2.2;exact (Tryz.strconv_Atoi_range s h hv ev w h1 h2).mono fun e w' ⟨N,he,_,_,hB⟩=>⟨N,he,hB⟩)
def ψe.sig:Sig:=⟨[.val .str],[.val tyI,.val .bool]⟩
def ψe.ctr:Ctr:=⟨ψe.sig,fun x=>ψe.f x⟩
def ψe.env:Env:=[(35,[ψ1R.ctr]),(182,[ψ6.ctr]),(248,[strconv_Atoi.ctr])]
def ψe.ann:Ann:=⟨[],[],[]⟩
theorem ψe.ok:φ3 Tryz.prog 245 ψe.ctr:=fS (A:=ψe.ann) (eC ψ1R.ok (eC ψ6.ok (eC strconv_Atoi.ok φ4.nil))) Tryz.func245 (by kernel_rfl) (by kernel_rfl) (fun x=>by kernel_rfl)
def ψU.sig:Sig:=⟨[.val .str],[.val tyI,.val .bool]⟩
def ψU.ctr:Ctr:=⟨ψU.sig,fun x=>ψU.f x⟩
def ψU.env:Env:=[(35,[ψ1R.ctr]),(244,[ψ3y.ctr]),(245,[ψe.ctr])]
def ψU.ann:Ann:=⟨[],[],[(2,[(.normal,[(4,.val .str),(5,.val .bool)])])]⟩
theorem ψU.ok:φ3 Tryz.prog 237 ψU.ctr:=fS (A:=ψU.ann) (eC ψ1R.ok (eC ψ3y.ok (eC ψe.ok φ4.nil))) Tryz.func237 (by kernel_rfl) (by kernel_rfl) (fun x=>by kernel_rfl)
def ψ1P.sig:Sig:=⟨[.val (.sl false tyI),.val tyI],[.val .bool]⟩
def ψ1P.ctr:Ctr:=⟨ψ1P.sig,fun x=>ψ1P.f x.1 x.2⟩
def ψ1P.env:Env:=[]
def ψ1P.ann:Ann:=⟨[(0,([(1,.val tyI),(7,.val (.sl false tyI)),(8,.val tyI),(9,.val tyI)],[(.exit 0,[]),(.ret,[(4,.val .bool)])]))],[],[]⟩
theorem ψ1P.ok:φ3 Tryz.prog 238 ψ1P.ctr:=fS (A:=ψ1P.ann) φ4.nil Tryz.func238 (by kernel_rfl) (by kernel_rfl) (fun x=>by kernel_rfl)
def ψb.sig:Sig:=⟨[.val tyd,.val (.pair tyI (.sl false tyI))],[.val (.sl true .str)]⟩
def ψb.ctr:Ctr:=⟨ψb.sig,fun x=>ψb.f x.1 x.2⟩
def ψb.env:Env:=[(34,[ψC.ctr]),(237,[ψU.ctr]),(238,[ψ1P.ctr])]
def ψb.ann:Ann:=⟨[(0,([(3,.ptr (.pair tyI (.sl false tyI))),(5,.val (.sl true .str)),(14,.val (.sl false tyF)),(15,.val tyI),(16,.val tyI)],[(.exit 0,[(5,.val (.sl true .str))])]))],[],[(8,[(.normal,[(3,.ptr (.pair tyI (.sl false tyI))),(5,.val (.sl true .str)),(14,.val (.sl false tyF)),(15,.val tyI),(16,.val tyI)])])]⟩
theorem ψb.ok:φ3 Tryz.prog 217 ψb.ctr:=fS (A:=ψb.ann) (eC ψC.ok (eC ψU.ok (eC ψ1P.ok φ4.nil))) Tryz.func217 (by kernel_rfl) (by kernel_rfl) (fun x=>by kernel_rfl)
def ψ1y.sig:Sig:=⟨[.ptr (.pair tyD tyI),.val (.pair tyI (.sl false tyI))],[]⟩
def ψ1y.ctr:Ctr:=⟨ψ1y.sig,fun x=>ψ1y.f x.1 x.2⟩
def ψ1y.env:Env:=[(114,[ψ1w.ctr]),(217,[ψb.ctr])]
def ψ1y.ann:Ann:=⟨[(0,([(0,.ptr (.pair tyD tyI)),(11,.val (.sl true .str)),(12,.val tyI),(13,.val tyI)],[(.exit 0,[(0,.ptr (.pair tyD tyI))])]))],[],[]⟩
theorem ψ1y.ok:φ3 Tryz.prog 163 ψ1y.ctr:=fS (A:=ψ1y.ann) (eC ψ1w.ok (eC ψb.ok φ4.nil)) Tryz.func163 (by kernel_rfl) (by kernel_rfl) (fun x=>by kernel_rfl)
def ψ1v.sig:Sig:=⟨[.ptr (.pair tyD tyI),.val .str],[.val tyS]⟩
def ψ1v.ctr:Ctr:=⟨ψ1v.sig,fun x=>ψ1v.f x.1 x.2⟩
def ψ1v.env:Env:=[(70,[ψM.ctr]),(71,[ψt.ctr]),(156,[ψh.ctr]),(157,[ψ22.ctr]),(158,[ψ24.ctr]),(159,[ψ16.ctr]),(160,[ψ23.ctr]),(161,[ψ1x.ctr]),(162,[ψm.ctr]),(163,[ψ1y.ctr])]
def ψ1v.ann:Ann:=⟨[(0,([(0,.ptr (.pair tyD tyI)),(4,.ptr tyS),(5,.ptw (.pair tyI (.sl true tyI))),(13,.ptr tyS),(14,.ptr (.pair (.sl true tyE) (.pair tyI tyI))),(16,.val (.sl true (.pair tyI (.pair tyI (.pair tyI tyR))))),(103,.val (.sl false (.sl false (.pair tyI (.pair tyI (.pair tyI tyR)))))),(104,.val tyI),(105,.val tyI),(5,.lnk 1 13 1)],[(.exit 0,[(0,.ptr (.pair tyD tyI)),(4,.ptr tyS),(5,.ptw (.pair tyI (.sl true tyI))),(13,.ptr tyS),(14,.ptr (.pair (.sl true tyE) (.pair tyI tyI))),(16,.val (.sl true (.pair tyI (.pair tyI (.pair tyI tyR))))),(5,.lnk 1 13 1)])]))],[],[(8,[(.normal,[(0,.ptr (.pair tyD tyI)),(4,.ptr tyS),(5,.ptr (.pair tyI (.sl true tyI))),(7,.val (.sl true (.sl true (.pair tyI (.pair tyI (.pair tyI tyR)))))),(8,.val tyI),(10,.val .str)])]),(15,[(.normal,[(0,.ptr (.pair tyD tyI)),(4,.ptr tyS),(5,.ptw (.pair tyI (.sl true tyI))),(7,.val (.sl false (.sl false (.pair tyI (.pair tyI (.pair tyI tyR)))))),(13,.ptr tyS),(14,.ptr (.pair (.sl true tyE) (.pair tyI tyI))),(5,.lnk 1 13 1)])])]⟩
theorem ψ1v.ok:φ3 Tryz.prog 103 ψ1v.ctr:=fS (A:=ψ1v.ann) (eC ψM.ok (eC ψt.ok (eC ψh.ok (eC ψ22.ok (eC ψ24.ok (eC ψ16.ok (eC ψ23.ok (eC ψ1x.ok (eC ψm.ok (eC ψ1y.ok φ4.nil)))))))))) Tryz.func103 (by kernel_rfl) (by kernel_rfl) (fun x=>by kernel_rfl)
def ψE.sig:Sig:=⟨[.ptr tyD,.val tyF],[]⟩
def ψE.ctr:Ctr:=⟨ψE.sig,fun x=>ψE.f x.1 x.2⟩
def ψE.env:Env:=[]
def ψE.ann:Ann:=⟨[(0,([(0,.ptr tyD),(3,.ptr tyF),(4,.val tyI)],[(.exit 0,[(0,.ptr tyD),(3,.ptr tyF),(4,.val tyI)])]))],[],[]⟩
theorem ψE.ok:φ3 Tryz.prog 240 ψE.ctr:=fS (A:=ψE.ann) φ4.nil Tryz.func240 (by kernel_rfl) (by kernel_rfl) (fun x=>by kernel_rfl)
def ψ5.sig:Sig:=⟨[.ptr tyD,.val (.box none .str)],[.val tyI]⟩
def ψ5.ctr:Ctr:=⟨ψ5.sig,fun x=>ψ5.f x.1 x.2⟩
def ψ5.env:Env:=[(60,[ψY.ctr]),(124,[ψ1N.ctr]),(240,[ψE.ctr])]
def ψ5.ann:Ann:=⟨[],[],[]⟩
theorem ψ5.ok:φ3 Tryz.prog 239 ψ5.ctr:=fS (A:=ψ5.ann) (eC ψY.ok (eC ψ1N.ok (eC ψE.ok φ4.nil))) Tryz.func239 (by kernel_rfl) (by kernel_rfl) (fun x=>by kernel_rfl)
def ψ1g.sig:Sig:=⟨[.val tyd,.val (.box (some 239) (.box none .str))],[.val tyD,.val tyI]⟩
def ψ1g.ctr:Ctr:=⟨ψ1g.sig,fun x=>ψ1g.f x.1 x.2⟩
def ψ1g.env:Env:=[(30,[ψ1E.ctr]),(34,[ψC.ctr]),(239,[ψ5.ctr])]
def ψ1g.ann:Ann:=⟨[],[],[(7,[(.normal,[(1,.val (.box (some 239) (.box none .str))),(4,.ptr tyD),(6,.ptr tyD)])])]⟩
theorem ψ1g.ok:φ3 Tryz.prog 209 ψ1g.ctr:=fS (A:=ψ1g.ann) (eC ψ1E.ok (eC ψC.ok (eC ψ5.ok φ4.nil))) Tryz.func209 (by kernel_rfl) (by kernel_rfl) (fun x=>by kernel_rfl)
def ψ4.sig:Sig:=⟨[.val tyd,.val .str],[.val tyD,.val tyI]⟩
def ψ4.ctr:Ctr:=⟨ψ4.sig,fun x=>ψ4.f x.1 x.2⟩
def ψ4.env:Env:=[(209,[ψ1g.ctr])]
def ψ4.ann:Ann:=⟨[],[],[]⟩
theorem ψ4.ok:φ3 Tryz.prog 218 ψ4.ctr:=fS (A:=ψ4.ann) (eC ψ1g.ok φ4.nil) Tryz.func218 (by kernel_rfl) (by kernel_rfl) (fun x=>by kernel_rfl)
def ψ1s.sig:Sig:=⟨[.ptr (.pair tyD tyI),.val .str],[]⟩
def ψ1s.ctr:Ctr:=⟨ψ1s.sig,fun x=>ψ1s.f x.1 x.2⟩
def ψ1s.env:Env:=[(158,[ψ24.ctr]),(218,[ψ4.ctr])]
def ψ1s.ann:Ann:=⟨[],[],[]⟩
theorem ψ1s.ok:φ3 Tryz.prog 164 ψ1s.ctr:=fS (A:=ψ1s.ann) (eC ψ24.ok (eC ψ4.ok φ4.nil)) Tryz.func164 (by kernel_rfl) (by kernel_rfl) (fun x=>by kernel_rfl)
def ψ1q.sig:Sig:=⟨[.ptr (.pair tyD tyI),.val .str],[]⟩
def ψ1q.ctr:Ctr:=⟨ψ1q.sig,fun x=>ψ1q.f x.1 x.2⟩
def ψ1q.env:Env:=[(114,[ψ1w.ctr]),(164,[ψ1s.ctr])]
def ψ1q.ann:Ann:=⟨[],[],[]⟩
theorem ψ1q.ok:φ3 Tryz.prog 165 ψ1q.ctr:=fS (A:=ψ1q.ann) (eC ψ1w.ok (eC ψ1s.ok φ4.nil)) Tryz.func165 (by kernel_rfl) (by kernel_rfl) (fun x=>by kernel_rfl)
def ψ1o.sig:Sig:=⟨[.val tyd],[.val tyI]⟩
def ψ1o.ctr:Ctr:=⟨ψ1o.sig,fun x=>ψ1o.f x⟩
def ψ1o.env:Env:=[]
def ψ1o.ann:Ann:=⟨[(0,([(3,.val tyI),(7,.val (.sl false tyF)),(8,.val tyI),(9,.val tyI)],[(.exit 0,[(3,.val tyI)])]))],[],[]⟩
theorem ψ1o.ok:φ3 Tryz.prog 33 ψ1o.ctr:=fS (A:=ψ1o.ann) φ4.nil Tryz.func33 (by kernel_rfl) (by kernel_rfl) (fun x=>by kernel_rfl)
def ψ1.sig:Sig:=⟨[.ptr tyD,.val (.box none .str),.val (.box none .str)],[.val tyI]⟩
def ψ1.ctr:Ctr:=⟨ψ1.sig,fun x=>ψ1.f x.1 x.2.1 x.2.2⟩
def ψ1.env:Env:=[(33,[ψ1o.ctr]),(124,[ψ1N.ctr])]
def ψ1.ann:Ann:=⟨[],[],[]⟩
theorem ψ1.ok:φ3 Tryz.prog 241 ψ1.ctr:=fS (A:=ψ1.ann) (eC ψ1o.ok (eC ψ1N.ok φ4.nil)) Tryz.func241 (by kernel_rfl) (by kernel_rfl) (fun x=>by kernel_rfl)
def ψ1f.sig:Sig:=⟨[.val tyd,.val (.box (some 241) (.pair (.box none .str) (.box none .str)))],[.val tyD,.val tyI]⟩
def ψ1f.ctr:Ctr:=⟨ψ1f.sig,fun x=>ψ1f.f x.1 x.2⟩
def ψ1f.env:Env:=[(30,[ψ1E.ctr]),(34,[ψC.ctr]),(241,[ψ1.ctr])]
def ψ1f.ann:Ann:=⟨[],[],[(7,[(.normal,[(1,.val (.box (some 241) (.pair (.box none .str) (.box none .str)))),(4,.ptr tyD),(6,.ptr tyD)])])]⟩
theorem ψ1f.ok:φ3 Tryz.prog 209 ψ1f.ctr:=fS (A:=ψ1f.ann) (eC ψ1E.ok (eC ψC.ok (eC ψ1.ok φ4.nil))) Tryz.func209 (by kernel_rfl) (by kernel_rfl) (fun x=>by kernel_rfl)
def ψ0.sig:Sig:=⟨[.val tyd,.val .str,.val .str],[.val tyD,.val tyI]⟩
def ψ0.ctr:Ctr:=⟨ψ0.sig,fun x=>ψ0.f x.1 x.2.1 x.2.2⟩
def ψ0.env:Env:=[(209,[ψ1f.ctr])]
def ψ0.ann:Ann:=⟨[],[],[]⟩
theorem ψ0.ok:φ3 Tryz.prog 224 ψ0.ctr:=fS (A:=ψ0.ann) (eC ψ1f.ok φ4.nil) Tryz.func224 (by kernel_rfl) (by kernel_rfl) (fun x=>by kernel_rfl)
def ψ1z.sig:Sig:=⟨[.ptr (.pair tyD tyI),.val .str,.val .str],[]⟩
def ψ1z.ctr:Ctr:=⟨ψ1z.sig,fun x=>ψ1z.f x.1 x.2.1 x.2.2⟩
def ψ1z.env:Env:=[(158,[ψ24.ctr]),(224,[ψ0.ctr])]
def ψ1z.ann:Ann:=⟨[],[],[]⟩
theorem ψ1z.ok:φ3 Tryz.prog 168 ψ1z.ctr:=fS (A:=ψ1z.ann) (eC ψ24.ok (eC ψ0.ok φ4.nil)) Tryz.func168 (by kernel_rfl) (by kernel_rfl) (fun x=>by kernel_rfl)
def ψ1t.sig:Sig:=⟨[.ptr (.pair tyD tyI),.val .str,.val .str],[]⟩
def ψ1t.ctr:Ctr:=⟨ψ1t.sig,fun x=>ψ1t.f x.1 x.2.1 x.2.2⟩
def ψ1t.env:Env:=[(160,[ψ23.ctr]),(165,[ψ1q.ctr]),(168,[ψ1z.ctr])]
def ψ1t.ann:Ann:=⟨[],[],[]⟩
theorem ψ1t.ok:φ3 Tryz.prog 171 ψ1t.ctr:=fS (A:=ψ1t.ann) (eC ψ23.ok (eC ψ1q.ok (eC ψ1z.ok φ4.nil))) Tryz.func171 (by kernel_rfl) (by kernel_rfl) (fun x=>by kernel_rfl)
def ψv.sig:Sig:=⟨[.val (.pair tyI (.sl false tyI))],[.val .str]⟩
def ψv.ctr:Ctr:=⟨ψv.sig,fun x=>ψv.f x⟩
def ψv.env:Env:=[(105,[ψW.ctr]),(166,[ψO.ctr]),(222,[ψ1p.ctr])]
def ψv.ann:Ann:=⟨[],[],[]⟩
theorem ψv.ok:φ3 Tryz.prog 173 ψv.ctr:=fS (A:=ψv.ann) (eC ψW.ok (eC ψO.ok (eC ψ1p.ok φ4.nil))) Tryz.func173 (by kernel_rfl) (by kernel_rfl) (fun x=>by kernel_rfl)
def ψq.sig:Sig:=⟨[.ptr tyD,.val (.box none .str),.val (.box none .str)],[.val tyI]⟩
def ψq.ctr:Ctr:=⟨ψq.sig,fun x=>ψq.f x.1 x.2.1 x.2.2⟩
def ψq.env:Env:=[(60,[ψY.ctr]),(124,[ψ1N.ctr]),(228,[ψD.ctr]),(240,[ψE.ctr])]
def ψq.ann:Ann:=⟨[],[],[]⟩
theorem ψq.ok:φ3 Tryz.prog 242 ψq.ctr:=fS (A:=ψq.ann) (eC ψY.ok (eC ψ1N.ok (eC ψD.ok (eC ψE.ok φ4.nil)))) Tryz.func242 (by kernel_rfl) (by kernel_rfl) (fun x=>by kernel_rfl)
def ψ1i.sig:Sig:=⟨[.val tyd,.val (.box (some 242) (.pair (.box none .str) (.box none .str)))],[.val tyD,.val tyI]⟩
def ψ1i.ctr:Ctr:=⟨ψ1i.sig,fun x=>ψ1i.f x.1 x.2⟩
def ψ1i.env:Env:=[(30,[ψ1E.ctr]),(34,[ψC.ctr]),(242,[ψq.ctr])]
def ψ1i.ann:Ann:=⟨[],[],[(7,[(.normal,[(1,.val (.box (some 242) (.pair (.box none .str) (.box none .str)))),(4,.ptr tyD),(6,.ptr tyD)])])]⟩
theorem ψ1i.ok:φ3 Tryz.prog 209 ψ1i.ctr:=fS (A:=ψ1i.ann) (eC ψ1E.ok (eC ψC.ok (eC ψq.ok φ4.nil))) Tryz.func209 (by kernel_rfl) (by kernel_rfl) (fun x=>by kernel_rfl)
def ψp.sig:Sig:=⟨[.val tyd,.val .str,.val .str],[.val tyD,.val tyI]⟩
def ψp.ctr:Ctr:=⟨ψp.sig,fun x=>ψp.f x.1 x.2.1 x.2.2⟩
def ψp.env:Env:=[(209,[ψ1i.ctr])]
def ψp.ann:Ann:=⟨[],[],[]⟩
theorem ψp.ok:φ3 Tryz.prog 226 ψp.ctr:=fS (A:=ψp.ann) (eC ψ1i.ok φ4.nil) Tryz.func226 (by kernel_rfl) (by kernel_rfl) (fun x=>by kernel_rfl)
def ψ21.sig:Sig:=⟨[.ptr (.pair tyD tyI),.val .str,.val .str],[]⟩
def ψ21.ctr:Ctr:=⟨ψ21.sig,fun x=>ψ21.f x.1 x.2.1 x.2.2⟩
def ψ21.env:Env:=[(158,[ψ24.ctr]),(226,[ψp.ctr])]
def ψ21.ann:Ann:=⟨[],[],[]⟩
theorem ψ21.ok:φ3 Tryz.prog 174 ψ21.ctr:=fS (A:=ψ21.ann) (eC ψ24.ok (eC ψp.ok φ4.nil)) Tryz.func174 (by kernel_rfl) (by kernel_rfl) (fun x=>by kernel_rfl)
def ψ20.sig:Sig:=⟨[.ptr (.pair tyD tyI),.val (.pair tyI (.sl false tyI))],[]⟩
def ψ20.ctr:Ctr:=⟨ψ20.sig,fun x=>ψ20.f x.1 x.2⟩
def ψ20.env:Env:=[(171,[ψ1t.ctr]),(173,[ψv.ctr]),(174,[ψ21.ctr])]
def ψ20.ann:Ann:=⟨[],[],[]⟩
theorem ψ20.ok:φ3 Tryz.prog 111 ψ20.ctr:=fS (A:=ψ20.ann) (eC ψ1t.ok (eC ψv.ok (eC ψ21.ok φ4.nil))) Tryz.func111 (by kernel_rfl) (by kernel_rfl) (fun x=>by kernel_rfl)
def ψ1u.sig:Sig:=⟨[.ptr (.pair tyD tyI)],[.val tyS]⟩
def ψ1u.ctr:Ctr:=⟨ψ1u.sig,fun x=>ψ1u.f x⟩
def ψ1u.env:Env:=[(71,[ψt.ctr]),(111,[ψ20.ctr]),(163,[ψ1y.ctr]),(164,[ψ1s.ctr])]
def ψ1u.ann:Ann:=⟨[],[],[]⟩
theorem ψ1u.ok:φ3 Tryz.prog 104 ψ1u.ctr:=fS (A:=ψ1u.ann) (eC ψt.ok (eC ψ20.ok (eC ψ1y.ok (eC ψ1s.ok φ4.nil)))) Tryz.func104 (by kernel_rfl) (by kernel_rfl) (fun x=>by kernel_rfl)
def ψa.sig:Sig:=⟨[.val tyd],[.val tyS,.val tyD,.val tyI]⟩
def ψa.ctr:Ctr:=⟨ψa.sig,fun x=>ψa.f x⟩
def ψa.env:Env:=[(30,[ψ1E.ctr]),(34,[ψC.ctr]),(70,[ψM.ctr]),(103,[ψ1v.ctr]),(104,[ψ1u.ctr])]
def ψa.ann:Ann:=⟨[],[],[(8,[(.normal,[(2,.ptr tyS),(3,.ptr tyD),(5,.ptr (.pair tyD tyI)),(6,.ptr tyS)])])]⟩
theorem ψa.ok:φ3 Tryz.prog 59 ψa.ctr:=fS (A:=ψa.ann) (eC ψ1E.ok (eC ψC.ok (eC ψM.ok (eC ψ1v.ok (eC ψ1u.ok φ4.nil))))) Tryz.func59 (by kernel_rfl) (by kernel_rfl) (fun x=>by kernel_rfl)
def ψH.sig:Sig:=⟨[.val tyd],[.val (.pair .bool (.pair tyS (.pair tyD (.sl true (.pair .bool (.pair (.sl true (.pair .str tyI)) (.sl true tyP))))))),.val tyI]⟩
def ψH.ctr:Ctr:=⟨ψH.sig,fun x=>ψH.f x⟩
def ψH.env:Env:=[(59,[ψa.ctr])]
def ψH.ann:Ann:=⟨[],[],[]⟩
theorem ψH.ok:φ3 Tryz.prog 32 ψH.ctr:=fS (A:=ψH.ann) (eC ψa.ok φ4.nil) Tryz.func32 (by kernel_rfl) (by kernel_rfl) (fun x=>by kernel_rfl)
def ψ9.sig:Sig:=⟨[.val (.sl false tyE)],[.val (.sl true .str)]⟩
def ψ9.ctr:Ctr:=⟨ψ9.sig,fun x=>ψ9.f x⟩
def ψ9.env:Env:=[]
def ψ9.ann:Ann:=⟨[(0,([(3,.val (.sl true .str)),(6,.val (.sl false tyE)),(7,.val tyI),(8,.val tyI)],[(.exit 0,[(3,.val (.sl true .str))])]))],[],[]⟩
theorem ψ9.ok:φ3 Tryz.prog 37 ψ9.ctr:=fS (A:=ψ9.ann) φ4.nil Tryz.func37 (by kernel_rfl) (by kernel_rfl) (fun x=>by kernel_rfl)
def ψ8.sig:Sig:=⟨[.val (.sl false tyE),.val .str],[.val tyE,.val .bool]⟩
def ψ8.ctr:Ctr:=⟨ψ8.sig,fun x=>ψ8.f x.1 x.2⟩
def ψ8.env:Env:=[]
def ψ8.ann:Ann:=⟨[(0,([(1,.val .str),(4,.ptr tyE),(8,.val (.sl false tyE)),(9,.val tyI),(10,.val tyI)],[(.exit 0,[(4,.ptr tyE)]),(.ret,[(4,.ptr tyE),(5,.val .bool)])]))],[],[]⟩
theorem ψ8.ok:φ3 Tryz.prog 69 ψ8.ctr:=fS (A:=ψ8.ann) φ4.nil Tryz.func69 (by kernel_rfl) (by kernel_rfl) (fun x=>by kernel_rfl)
def ψk.sig:Sig:=⟨[.val .str,.val tyI,.val tyI],[.val tyR,.val .bool]⟩
def ψk.ctr:Ctr:=⟨ψk.sig,fun x=>ψk.f x.1 x.2.1 x.2.2⟩
def ψk.env:Env:=[(35,[ψ1R.ctr]),(126,[ψ1A.ctr]),(127,[ψi.ctr])]
def ψk.ann:Ann:=⟨[],[],[]⟩
theorem ψk.ok:φ3 Tryz.prog 72 ψk.ctr:=fS (A:=ψk.ann) (eC ψ1R.ok (eC ψ1A.ok (eC ψi.ok φ4.nil))) Tryz.func72 (by kernel_rfl) (by kernel_rfl) (fun x=>by kernel_rfl)
def ψP.sig:Sig:=⟨[.val tys,.val tyd,.val .str],[.val tyF,.val tyI]⟩
def ψP.ctr:Ctr:=⟨ψP.sig,fun x=>ψP.f x.1 x.2.1 x.2.2⟩
def ψP.env:Env:=[(69,[ψ8.ctr]),(70,[ψM.ctr]),(71,[ψt.ctr]),(72,[ψk.ctr])]
def ψP.ann:Ann:=⟨[],[],[]⟩
theorem ψP.ok:φ3 Tryz.prog 39 ψP.ctr:=fS (A:=ψP.ann) (eC ψ8.ok (eC ψM.ok (eC ψt.ok (eC ψk.ok φ4.nil)))) Tryz.func39 (by kernel_rfl) (by kernel_rfl) (fun x=>by kernel_rfl)
def ψF.sig:Sig:=⟨[.val tys,.val tyd],[.val (.sl true tyF),.val tyI]⟩
def ψF.ctr:Ctr:=⟨ψF.sig,fun x=>ψF.f x.1 x.2⟩
def ψF.env:Env:=[(37,[ψ9.ctr]),(39,[ψP.ctr])]
def ψF.ann:Ann:=⟨[(0,([(2,.ptr tys),(3,.ptr tyd),(6,.val (.sl true tyF)),(13,.val (.sl true .str)),(14,.val tyI),(15,.val tyI)],[(.exit 0,[(6,.val (.sl true tyF))]),(.ret,[(4,.val (.sl true tyF)),(5,.val tyI)])]))],[],[]⟩
theorem ψF.ok:φ3 Tryz.prog 19 ψF.ctr:=fS (A:=ψF.ann) (eC ψ9.ok (eC ψP.ok φ4.nil)) Tryz.func19 (by kernel_rfl) (by kernel_rfl) (fun x=>by kernel_rfl)
def ψx.sig:Sig:=⟨[.val tys,.val tyd],[.val .bool]⟩
def ψx.ctr:Ctr:=⟨ψx.sig,fun x=>ψx.f x.1 x.2⟩
def ψx.env:Env:=[(34,[ψC.ctr]),(35,[ψ1R.ctr]),(70,[ψM.ctr]),(71,[ψt.ctr]),(72,[ψk.ctr]),(105,[ψW.ctr]),(106,[ψA.ctr]),(107,[ψs.ctr])]
def ψx.ann:Ann:=⟨[(0,([(2,.ptr tys),(3,.ptr tyd),(40,.val (.sl false tyI)),(41,.val tyI),(42,.val tyI)],[(.exit 0,[(2,.ptr tys),(3,.ptr tyd)]),(.ret,[(4,.val .bool)])])),(2,([(2,.ptr tys),(3,.ptr tyd),(84,.val (.sl false tyE)),(85,.val tyI),(86,.val tyI)],[(.exit 2,[]),(.ret,[(4,.val .bool)])]))],[],[(8,[(.normal,[(2,.ptr tys),(3,.ptr tyd),(40,.val (.sl false tyI)),(41,.val tyI),(42,.val tyI)]),(.ret,[(4,.val .bool)])]),(16,[(.normal,[(2,.ptr tys),(3,.ptr tyd),(84,.val (.sl false tyE)),(85,.val tyI),(86,.val tyI)]),(.ret,[(4,.val .bool)])])]⟩
theorem ψx.ok:φ3 Tryz.prog 61 ψx.ctr:=fS (A:=ψx.ann) (eC ψC.ok (eC ψ1R.ok (eC ψM.ok (eC ψt.ok (eC ψk.ok (eC ψW.ok (eC ψA.ok (eC ψs.ok φ4.nil)))))))) Tryz.func61 (by kernel_rfl) (by kernel_rfl) (fun x=>by kernel_rfl)
def ψ26.sig:Sig:=⟨[.ptr (.pair tyD tyI),.val tyI,.val (.sl false tyR)],[.val (.sl true tyE)]⟩
def ψ26.ctr:Ctr:=⟨ψ26.sig,fun x=>ψ26.f x.1 x.2.1 x.2.2⟩
def ψ26.env:Env:=[(71,[ψt.ctr]),(160,[ψ23.ctr]),(165,[ψ1q.ctr]),(166,[ψO.ctr]),(167,[ψw.ctr]),(168,[ψ1z.ctr])]
def ψ26.ann:Ann:=⟨[(0,([(0,.ptr (.pair tyD tyI)),(1,.val tyI),(7,.val (.sl true tyE)),(8,.val tyI),(16,.val (.sl false tyR)),(17,.val tyI),(18,.val tyI)],[(.exit 0,[(0,.ptr (.pair tyD tyI)),(1,.val tyI),(7,.val (.sl true tyE))])]))],[],[(9,[(.normal,[(0,.ptr (.pair tyD tyI)),(1,.val tyI),(7,.val (.sl true tyE)),(8,.val tyI),(11,.val .str),(16,.val (.sl false tyR)),(17,.val tyI),(18,.val tyI)])])]⟩
theorem ψ26.ok:φ3 Tryz.prog 108 ψ26.ctr:=fS (A:=ψ26.ann) (eC ψt.ok (eC ψ23.ok (eC ψ1q.ok (eC ψO.ok (eC ψw.ok (eC ψ1z.ok φ4.nil)))))) Tryz.func108 (by kernel_rfl) (by kernel_rfl) (fun x=>by kernel_rfl)
def ψ1S.sig:Sig:=⟨[.val (.sl false tyF),.val tyI],[.val (.sl true tyR)]⟩
def ψ1S.ctr:Ctr:=⟨ψ1S.sig,fun x=>ψ1S.f x.1 x.2⟩
def ψ1S.env:Env:=[(169,[ψ13.ctr])]
def ψ1S.ann:Ann:=⟨[(0,([(0,.val (.sl false tyF)),(1,.val tyI),(5,.val (.sl true tyR)),(8,.val (.sl false tyF)),(9,.val tyI),(10,.val tyI)],[(.exit 0,[(0,.val (.sl false tyF)),(1,.val tyI),(5,.val (.sl true tyR))])]))],[],[]⟩
theorem ψ1S.ok:φ3 Tryz.prog 109 ψ1S.ctr:=fS (A:=ψ1S.ann) (eC ψ13.ok φ4.nil) Tryz.func109 (by kernel_rfl) (by kernel_rfl) (fun x=>by kernel_rfl)
def ψ25.sig:Sig:=⟨[.ptr (.pair tyD tyI),.val tyI],[]⟩
def ψ25.ctr:Ctr:=⟨ψ25.sig,fun x=>ψ25.f x.1 x.2⟩
def ψ25.env:Env:=[(70,[ψM.ctr]),(71,[ψt.ctr]),(113,[ψS.ctr]),(114,[ψ1w.ctr]),(170,[ψT.ctr]),(171,[ψ1t.ctr]),(172,[ψu.ctr])]
def ψ25.ann:Ann:=⟨[],[],[]⟩
theorem ψ25.ok:φ3 Tryz.prog 110 ψ25.ctr:=fS (A:=ψ25.ann) (eC ψM.ok (eC ψt.ok (eC ψS.ok (eC ψ1w.ok (eC ψT.ok (eC ψ1t.ok (eC ψu.ok φ4.nil))))))) Tryz.func110 (by kernel_rfl) (by kernel_rfl) (fun x=>by kernel_rfl)
def ψ1r.sig:Sig:=⟨[.ptr (.pair tyD tyI),.val (.sl false .str)],[]⟩
def ψ1r.ctr:Ctr:=⟨ψ1r.sig,fun x=>ψ1r.f x.1 x.2⟩
def ψ1r.env:Env:=[(114,[ψ1w.ctr])]
def ψ1r.ann:Ann:=⟨[(0,([(0,.ptw (.pair tyD tyI)),(4,.ptr (.pair tyD tyI)),(18,.val (.sl false .str)),(19,.val tyI),(20,.val tyI)],[(.exit 0,[(0,.ptw (.pair tyD tyI)),(4,.ptr (.pair tyD tyI))])]))],[],[]⟩
theorem ψ1r.ok:φ3 Tryz.prog 112 ψ1r.ctr:=fS (A:=ψ1r.ann) (eC ψ1w.ok φ4.nil) Tryz.func112 (by kernel_rfl) (by kernel_rfl) (fun x=>by kernel_rfl)
def ψ11.sig:Sig:=⟨[.ptr tyS,.ptr (.pair tyD tyI),.val (.sl false tyF)],[]⟩
def ψ11.ctr:Ctr:=⟨ψ11.sig,fun x=>ψ11.f x.1 x.2.1 x.2.2⟩
def ψ11.env:Env:=[(71,[ψt.ctr]),(108,[ψ26.ctr]),(109,[ψ1S.ctr]),(110,[ψ25.ctr]),(111,[ψ20.ctr]),(112,[ψ1r.ctr]),(113,[ψS.ctr]),(114,[ψ1w.ctr])]
def ψ11.ann:Ann:=⟨[(0,([(0,.ptr tyS),(1,.ptr (.pair tyD tyI)),(85,.val (.sl true tyI)),(86,.val tyI),(87,.val tyI)],[(.exit 0,[(0,.ptr tyS),(1,.ptr (.pair tyD tyI))])]))],[],[(5,[(.normal,[(0,.ptr tyS),(1,.ptr (.pair tyD tyI)),(6,.val tyI),(7,.val (.sl true tyE)),(8,.ptr (.pair tyI (.sl true tyI)))])])]⟩
theorem ψ11.ok:φ3 Tryz.prog 62 ψ11.ctr:=fS (A:=ψ11.ann) (eC ψt.ok (eC ψ26.ok (eC ψ1S.ok (eC ψ25.ok (eC ψ20.ok (eC ψ1r.ok (eC ψS.ok (eC ψ1w.ok φ4.nil)))))))) Tryz.func62 (by kernel_rfl) (by kernel_rfl) (fun x=>by kernel_rfl)
def ψX.sig:Sig:=⟨[.val tys,.val tyd],[.val tyS,.val tyD,.val tyI]⟩
def ψX.ctr:Ctr:=⟨ψX.sig,fun x=>ψX.f x.1 x.2⟩
def ψX.env:Env:=[(19,[ψF.ctr]),(29,[ψ1I.ctr]),(30,[ψ1E.ctr]),(61,[ψx.ctr]),(62,[ψ11.ctr])]
def ψX.ann:Ann:=⟨[],[],[]⟩
theorem ψX.ok:φ3 Tryz.prog 36 ψX.ctr:=fS (A:=ψX.ann) (eC ψF.ok (eC ψ1I.ok (eC ψ1E.ok (eC ψx.ok (eC ψ11.ok φ4.nil))))) Tryz.func36 (by kernel_rfl) (by kernel_rfl) (fun x=>by kernel_rfl)
def ψ1n.sig:Sig:=⟨[.val (.sl false (.pair .bool (.pair (.sl false (.pair .str tyI)) (.sl false tyP)))),.val (.pair tyI (.pair tyI tyF))],[.val .bool]⟩
def ψ1n.ctr:Ctr:=⟨ψ1n.sig,fun x=>ψ1n.f x.1 x.2⟩
def ψ1n.env:Env:=[(35,[ψ1R.ctr])]
def ψ1n.ann:Ann:=⟨[],[],[]⟩
theorem ψ1n.ok:φ3 Tryz.prog 63 ψ1n.ctr:=fS (A:=ψ1n.ann) (eC ψ1R.ok φ4.nil) Tryz.func63 (by kernel_rfl) (by kernel_rfl) (fun x=>by kernel_rfl)
def ψc.sig:Sig:=⟨[.val (.pair .bool (.pair (.sl false (.pair .str tyI)) (.sl false tyP))),.val .str],[.val tyP,.val .bool]⟩
def ψc.ctr:Ctr:=⟨ψc.sig,fun x=>ψc.f x.1 x.2⟩
def ψc.env:Env:=[]
def ψc.ann:Ann:=⟨[(0,([(1,.val .str),(2,.ptr (.pair .bool (.pair (.sl false (.pair .str tyI)) (.sl false tyP)))),(4,.ptr tyP),(6,.val tyI)],[(.exit 0,[(4,.ptr tyP)]),(.ret,[(4,.ptr tyP),(5,.val .bool)])]))],[],[]⟩
theorem ψc.ok:φ3 Tryz.prog 176 ψc.ctr:=fS (A:=ψc.ann) φ4.nil Tryz.func176 (by kernel_rfl) (by kernel_rfl) (fun x=>by kernel_rfl)
def ψ1W.sig:Sig:=⟨[.val (.pair .bool (.pair (.sl false (.pair .str tyI)) (.sl false tyP))),.val .str],[.val (.pair tyI (.pair .str (.sl true .str))),.val .bool]⟩
def ψ1W.ctr:Ctr:=⟨ψ1W.sig,fun x=>ψ1W.f x.1 x.2⟩
def ψ1W.env:Env:=[(176,[ψc.ctr])]
def ψ1W.ann:Ann:=⟨[],[],[]⟩
theorem ψ1W.ok:φ3 Tryz.prog 116 ψ1W.ctr:=fS (A:=ψ1W.ann) (eC ψc.ok φ4.nil) Tryz.func116 (by kernel_rfl) (by kernel_rfl) (fun x=>by kernel_rfl)
def ψ18.sig:Sig:=⟨[.val (.pair .bool (.pair (.sl false (.pair .str tyI)) (.sl false tyP))),.val .str,.val tyI],[.val (.pair .bool (.pair (.sl true (.pair .str tyI)) (.sl true tyP))),.val tyI]⟩
def ψ18.ctr:Ctr:=⟨ψ18.sig,fun x=>ψ18.f x.1 x.2.1 x.2.2⟩
def ψ18.env:Env:=[(58,[ψ1J.ctr]),(115,[ψV.ctr])]
def ψ18.ann:Ann:=⟨[(0,([(1,.val .str),(2,.val tyI),(3,.ptr (.pair .bool (.pair (.sl false (.pair .str tyI)) (.sl false tyP)))),(6,.ptr (.pair .bool (.pair (.sl true (.pair .str tyI)) (.sl true tyP)))),(8,.ptr (.pair .bool (.pair (.sl true (.pair .str tyI)) (.sl true tyP)))),(9,.val .bool),(24,.val (.sl false (.pair .str tyI))),(25,.val tyI),(26,.val tyI)],[(.exit 0,[(1,.val .str),(2,.val tyI),(3,.ptr (.pair .bool (.pair (.sl false (.pair .str tyI)) (.sl false tyP)))),(6,.ptr (.pair .bool (.pair (.sl true (.pair .str tyI)) (.sl true tyP)))),(8,.ptr (.pair .bool (.pair (.sl true (.pair .str tyI)) (.sl true tyP)))),(9,.val .bool)]),(.ret,[(6,.ptr (.pair .bool (.pair (.sl true (.pair .str tyI)) (.sl true tyP)))),(7,.val tyI)])]))],[(1,[(.normal,[(1,.val .str),(2,.val tyI),(3,.ptr (.pair .bool (.pair (.sl false (.pair .str tyI)) (.sl false tyP)))),(6,.ptr (.pair .bool (.pair (.sl true (.pair .str tyI)) (.sl true tyP)))),(8,.ptr (.pair .bool (.pair (.sl true (.pair .str tyI)) (.sl true tyP)))),(9,.val .bool),(24,.val (.sl false (.pair .str tyI))),(25,.val tyI),(26,.val tyI)]),(.ret,[(6,.ptr (.pair .bool (.pair (.sl true (.pair .str tyI)) (.sl true tyP)))),(7,.val tyI)])])],[]⟩
theorem ψ18.ok:φ3 Tryz.prog 177 ψ18.ctr:=fS (A:=ψ18.ann) (eC ψ1J.ok (eC ψV.ok φ4.nil)) Tryz.func177 (by kernel_rfl) (by kernel_rfl) (fun x=>by kernel_rfl)
def ψ1a.sig:Sig:=⟨[.val (.pair .bool (.pair (.sl false (.pair .str tyI)) (.sl false tyP))),.val .str,.val tyF,.val tyI],[.val (.pair .bool (.pair (.sl true (.pair .str tyI)) (.sl true tyP))),.val (.pair tyI (.pair .str (.sl true .str)))]⟩
def ψ1a.ctr:Ctr:=⟨ψ1a.sig,fun x=>ψ1a.f x.1 x.2.1 x.2.2.1 x.2.2.2⟩
def ψ1a.env:Env:=[(177,[ψ18.ctr])]
def ψ1a.ann:Ann:=⟨[],[],[]⟩
theorem ψ1a.ok:φ3 Tryz.prog 117 ψ1a.ctr:=fS (A:=ψ1a.ann) (eC ψ18.ok φ4.nil) Tryz.func117 (by kernel_rfl) (by kernel_rfl) (fun x=>by kernel_rfl)
def ψJ.sig:Sig:=⟨[.ptr (.pair .bool (.pair tyS (.pair tyD (.sl true (.pair .bool (.pair (.sl true (.pair .str tyI)) (.sl true tyP))))))),.val (.pair tyI (.pair tyI tyF))],[.val (.pair tyI (.pair .str (.sl true .str)))]⟩
def ψJ.ctr:Ctr:=⟨ψJ.sig,fun x=>ψJ.f x.1 x.2⟩
def ψJ.env:Env:=[(39,[ψP.ctr]),(115,[ψV.ctr]),(116,[ψ1W.ctr]),(117,[ψ1a.ctr])]
def ψJ.ann:Ann:=⟨[],[],[]⟩
theorem ψJ.ok:φ3 Tryz.prog 64 ψJ.ctr:=fS (A:=ψJ.ann) (eC ψP.ok (eC ψV.ok (eC ψ1W.ok (eC ψ1a.ok φ4.nil)))) Tryz.func64 (by kernel_rfl) (by kernel_rfl) (fun x=>by kernel_rfl)
def ψ1V.sig:Sig:=⟨[.val (.sl false tyP)],[.val (.sl true tyP)]⟩
def ψ1V.ctr:Ctr:=⟨ψ1V.sig,fun x=>ψ1V.f x⟩
def ψ1V.env:Env:=[]
def ψ1V.ann:Ann:=⟨[(2,([(3,.val (.sl true tyP)),(5,.ptr tyP),(6,.val tyI),(9,.val (.sl false tyP)),(10,.val tyI),(11,.val tyI),(15,.dup 3),(16,.val tyI),(17,.val tyI)],[(.exit 2,[(3,.val (.sl true tyP)),(5,.ptr tyP),(6,.val tyI),(9,.val (.sl false tyP)),(10,.val tyI),(11,.val tyI)])])),(0,([(3,.val (.sl true tyP)),(9,.val (.sl false tyP)),(10,.val tyI),(11,.val tyI)],[(.exit 0,[(3,.val (.sl true tyP))])]))],[],[(9,[(.normal,[(3,.val (.sl true tyP)),(5,.ptr tyP),(6,.val tyI),(9,.val (.sl false tyP)),(10,.val tyI),(11,.val tyI),(15,.dup 3),(16,.val tyI),(17,.val tyI)])]),(12,[(.normal,[(3,.val (.sl true tyP)),(9,.val (.sl false tyP)),(10,.val tyI),(11,.val tyI)])])]⟩
theorem ψ1V.ok:φ3 Tryz.prog 123 ψ1V.ctr:=fS (A:=ψ1V.ann) φ4.nil Tryz.func123 (by kernel_rfl) (by kernel_rfl) (fun x=>by kernel_rfl)
def ψZ.sig:Sig:=⟨[.val (.pair .bool (.pair (.sl false (.pair .str tyI)) (.sl false tyP)))],[.val (.sl true tyP)]⟩
def ψZ.ctr:Ctr:=⟨ψZ.sig,fun x=>ψZ.f x⟩
def ψZ.env:Env:=[(123,[ψ1V.ctr])]
def ψZ.ann:Ann:=⟨[],[],[]⟩
theorem ψZ.ok:φ3 Tryz.prog 68 ψZ.ctr:=fS (A:=ψZ.ann) (eC ψ1V.ok φ4.nil) Tryz.func68 (by kernel_rfl) (by kernel_rfl) (fun x=>by kernel_rfl)
def ψ1Z.sig:Sig:=⟨[.val tyP],[.val .bool]⟩
def ψ1Z.ctr:Ctr:=⟨ψ1Z.sig,fun x=>ψ1Z.f x⟩
def ψ1Z.env:Env:=[(115,[ψV.ctr])]
def ψ1Z.ann:Ann:=⟨[],[],[]⟩
theorem ψ1Z.ok:φ3 Tryz.prog 119 ψ1Z.ctr:=fS (A:=ψ1Z.ann) (eC ψV.ok φ4.nil) Tryz.func119 (by kernel_rfl) (by kernel_rfl) (fun x=>by kernel_rfl)
def ψ19.sig:Sig:=⟨[.val (.pair .bool (.pair (.sl false (.pair .str tyI)) (.sl false tyP))),.val tyP],[.val (.pair .bool (.pair (.sl true (.pair .str tyI)) (.sl true tyP))),.val .bool]⟩
def ψ19.ctr:Ctr:=⟨ψ19.sig,fun x=>ψ19.f x.1 x.2⟩
def ψ19.env:Env:=[(58,[ψ1J.ctr]),(68,[ψZ.ctr]),(119,[ψ1Z.ctr])]
def ψ19.ann:Ann:=⟨[],[],[]⟩
theorem ψ19.ok:φ3 Tryz.prog 118 ψ19.ctr:=fS (A:=ψ19.ann) (eC ψ1J.ok (eC ψZ.ok (eC ψ1Z.ok φ4.nil))) Tryz.func118 (by kernel_rfl) (by kernel_rfl) (fun x=>by kernel_rfl)
def ψ27.sig:Sig:=⟨[.val (.pair .bool (.pair (.sl false (.pair .str tyI)) (.sl false tyP))),.val (.pair tyI (.pair tyI tyF))],[.val (.pair .bool (.pair (.sl true (.pair .str tyI)) (.sl true tyP))),.val (.pair tyI (.pair .str (.sl true .str)))]⟩
def ψ27.ctr:Ctr:=⟨ψ27.sig,fun x=>ψ27.f x.1 x.2⟩
def ψ27.env:Env:=[(118,[ψ19.ctr]),(119,[ψ1Z.ctr])]
def ψ27.ann:Ann:=⟨[],[],[]⟩
theorem ψ27.ok:φ3 Tryz.prog 65 ψ27.ctr:=fS (A:=ψ27.ann) (eC ψ19.ok (eC ψ1Z.ok φ4.nil)) Tryz.func65 (by kernel_rfl) (by kernel_rfl) (fun x=>by kernel_rfl)
def ψ1B.sig:Sig:=⟨[.val (.pair .bool (.pair (.sl false (.pair .str tyI)) (.sl false tyP))),.val (.sl false tyE)],[.val .bool]⟩
def ψ1B.ctr:Ctr:=⟨ψ1B.sig,fun x=>ψ1B.f x.1 x.2⟩
def ψ1B.env:Env:=[(69,[ψ8.ctr])]
def ψ1B.ann:Ann:=⟨[(0,([(1,.val (.sl false tyE)),(10,.val (.sl false (.pair .str tyI))),(11,.val tyI),(12,.val tyI)],[(.exit 0,[]),(.ret,[(4,.val .bool)])]))],[],[]⟩
theorem ψ1B.ok:φ3 Tryz.prog 66 ψ1B.ctr:=fS (A:=ψ1B.ann) (eC ψ8.ok φ4.nil) Tryz.func66 (by kernel_rfl) (by kernel_rfl) (fun x=>by kernel_rfl)
def ψd.sig:Sig:=⟨[.val (.sl false tyP)],[.val .bool]⟩
def ψd.ctr:Ctr:=⟨ψd.sig,fun x=>ψd.f x⟩
def ψd.env:Env:=[(119,[ψ1Z.ctr])]
def ψd.ann:Ann:=⟨[(0,([(0,.val (.sl false tyP)),(5,.val (.sl false tyP)),(6,.val tyI),(7,.val tyI)],[(.exit 0,[(0,.val (.sl false tyP))]),(.ret,[(2,.val .bool)])]))],[],[]⟩
theorem ψd.ok:φ3 Tryz.prog 120 ψd.ctr:=fS (A:=ψd.ann) (eC ψ1Z.ok φ4.nil) Tryz.func120 (by kernel_rfl) (by kernel_rfl) (fun x=>by kernel_rfl)
def ψ1L.sig:Sig:=⟨[.val (.sl false tyE),.val (.sl false tyP),.val (.sl false tyE)],[.val (.sl false tyE)]⟩
def ψ1L.ctr:Ctr:=⟨ψ1L.sig,fun x=>ψ1L.f x.1 x.2.1 x.2.2⟩
def ψ1L.env:Env:=[(229,[ψ7.ctr]),(230,[ψB.ctr])]
def ψ1L.ann:Ann:=⟨[(0,([(0,.val (.sl false tyE)),(2,.val (.sl false tyE)),(9,.val (.sl false tyP)),(10,.val tyI),(11,.val tyI)],[(.exit 0,[(0,.val (.sl false tyE))])]))],[],[(4,[(.normal,[(0,.val (.sl true tyE)),(2,.val (.sl false tyE)),(9,.val (.sl false tyP)),(10,.val tyI),(11,.val tyI)])])]⟩
theorem ψ1L.ok:φ3 Tryz.prog 178 ψ1L.ctr:=fS (A:=ψ1L.ann) (eC ψ7.ok (eC ψB.ok φ4.nil)) Tryz.func178 (by kernel_rfl) (by kernel_rfl) (fun x=>by kernel_rfl)
def ψ1T.sig:Sig:=⟨[.val (.sl false tyE),.val (.sl false tyP)],[.val tyI]⟩
def ψ1T.ctr:Ctr:=⟨ψ1T.sig,fun x=>ψ1T.f x.1 x.2⟩
def ψ1T.env:Env:=[(178,[ψ1L.ctr])]
def ψ1T.ann:Ann:=⟨[(0,([(0,.val (.sl false tyE)),(1,.val (.sl false tyP)),(5,.val (.sl true tyE)),(8,.val (.sl false tyP)),(9,.val tyI),(10,.val tyI)],[(.exit 0,[(0,.val (.sl false tyE)),(1,.val (.sl false tyP)),(5,.val (.sl true tyE))])]))],[],[]⟩
theorem ψ1T.ok:φ3 Tryz.prog 121 ψ1T.ctr:=fS (A:=ψ1T.ann) (eC ψ1L.ok φ4.nil) Tryz.func121 (by kernel_rfl) (by kernel_rfl) (fun x=>by kernel_rfl)
def ψ1M.sig:Sig:=⟨[.val (.sl true tyE),.val (.sl false tyP),.val (.sl false tyE)],[.val (.sl true tyE)]⟩
def ψ1M.ctr:Ctr:=⟨ψ1M.sig,fun x=>ψ1M.f x.1 x.2.1 x.2.2⟩
def ψ1M.env:Env:=[(229,[ψ7.ctr]),(230,[ψB.ctr])]
def ψ1M.ann:Ann:=⟨[(0,([(0,.val (.sl true tyE)),(2,.val (.sl false tyE)),(9,.val (.sl false tyP)),(10,.val tyI),(11,.val tyI)],[(.exit 0,[(0,.val (.sl true tyE))])]))],[],[(4,[(.normal,[(0,.val (.sl true tyE)),(2,.val (.sl false tyE)),(9,.val (.sl false tyP)),(10,.val tyI),(11,.val tyI)])])]⟩
theorem ψ1M.ok:φ3 Tryz.prog 178 ψ1M.ctr:=fS (A:=ψ1M.ann) (eC ψ7.ok (eC ψB.ok φ4.nil)) Tryz.func178 (by kernel_rfl) (by kernel_rfl) (fun x=>by kernel_rfl)
def ψ1b.sig:Sig:=⟨[.val (.sl false tyP),.val tyI],[.val (.sl true tyR)]⟩
def ψ1b.ctr:Ctr:=⟨ψ1b.sig,fun x=>ψ1b.f x.1 x.2⟩
def ψ1b.env:Env:=[(169,[ψ13.ctr])]
def ψ1b.ann:Ann:=⟨[(0,([(0,.val (.sl false tyP)),(1,.val tyI),(5,.val (.sl true tyR)),(8,.val (.sl false tyP)),(9,.val tyI),(10,.val tyI)],[(.exit 0,[(0,.val (.sl false tyP)),(1,.val tyI),(5,.val (.sl true tyR))])]))],[],[(5,[(.normal,[(0,.val (.sl false tyP)),(1,.val tyI),(5,.val (.sl true tyR)),(8,.val (.sl false tyP)),(9,.val tyI),(10,.val tyI)])])]⟩
theorem ψ1b.ok:φ3 Tryz.prog 179 ψ1b.ctr:=fS (A:=ψ1b.ann) (eC ψ13.ok φ4.nil) Tryz.func179 (by kernel_rfl) (by kernel_rfl) (fun x=>by kernel_rfl)
def ψy.sig:Sig:=⟨[.ptr tyS],[.val .str]⟩
def ψy.ctr:Ctr:=⟨ψy.sig,fun x=>ψy.f x⟩
def ψy.env:Env:=[(71,[ψt.ctr])]
def ψy.ann:Ann:=⟨[],[],[]⟩
theorem ψy.ok:φ3 Tryz.prog 181 ψy.ctr:=fS (A:=ψy.ann) (eC ψt.ok φ4.nil) Tryz.func181 (by kernel_rfl) (by kernel_rfl) (fun x=>by kernel_rfl)
def ψ12.sig:Sig:=⟨[.ptr tyS,.ptr (.pair tyD tyI)],[]⟩
def ψ12.ctr:Ctr:=⟨ψ12.sig,fun x=>ψ12.f x.1 x.2⟩
def ψ12.env:Env:=[(56,[ψ1G.ctr]),(71,[ψt.ctr]),(111,[ψ20.ctr]),(112,[ψ1r.ctr]),(160,[ψ23.ctr]),(165,[ψ1q.ctr]),(181,[ψy.ctr])]
def ψ12.ann:Ann:=⟨[],[],[]⟩
theorem ψ12.ok:φ3 Tryz.prog 231 ψ12.ctr:=fS (A:=ψ12.ann) (eC ψ1G.ok (eC ψt.ok (eC ψ20.ok (eC ψ1r.ok (eC ψ23.ok (eC ψ1q.ok (eC ψy.ok φ4.nil))))))) Tryz.func231 (by kernel_rfl) (by kernel_rfl) (fun x=>by kernel_rfl)
def ψz.sig:Sig:=⟨[.ptr tyS,.ptr (.pair tyD tyI),.val tyR],[.val tyE]⟩
def ψz.ctr:Ctr:=⟨ψz.sig,fun x=>ψz.f x.1 x.2.1 x.2.2⟩
def ψz.env:Env:=[(166,[ψO.ctr]),(167,[ψw.ctr]),(168,[ψ1z.ctr]),(181,[ψy.ctr]),(231,[ψ12.ctr])]
def ψz.ann:Ann:=⟨[],[],[(2,[(.normal,[(0,.ptr tyS),(1,.ptr (.pair tyD tyI)),(5,.ptr tyR),(6,.ptr tyE),(7,.val .str)])])]⟩
theorem ψz.ok:φ3 Tryz.prog 180 ψz.ctr:=fS (A:=ψz.ann) (eC ψO.ok (eC ψw.ok (eC ψ1z.ok (eC ψy.ok (eC ψ12.ok φ4.nil))))) Tryz.func180 (by kernel_rfl) (by kernel_rfl) (fun x=>by kernel_rfl)
def ψ10.sig:Sig:=⟨[.ptr tyS,.ptr (.pair tyD tyI),.val (.sl false tyP)],[]⟩
def ψ10.ctr:Ctr:=⟨ψ10.sig,fun x=>ψ10.f x.1 x.2.1 x.2.2⟩
def ψ10.env:Env:=[(160,[ψ23.ctr]),(178,[ψ1M.ctr]),(179,[ψ1b.ctr]),(180,[ψz.ctr]),(181,[ψy.ctr])]
def ψ10.ann:Ann:=⟨[(0,([(0,.ptr tyS),(1,.ptr (.pair tyD tyI)),(2,.val (.sl false tyP)),(7,.val (.sl true tyE)),(24,.val (.sl true tyR)),(25,.val tyI),(26,.val tyI)],[(.exit 0,[(0,.ptr tyS),(1,.ptr (.pair tyD tyI)),(2,.val (.sl false tyP)),(7,.val (.sl true tyE))]),(.ret,[(0,.ptr tyS),(1,.ptr (.pair tyD tyI))])]))],[],[]⟩
theorem ψ10.ok:φ3 Tryz.prog 122 ψ10.ctr:=fS (A:=ψ10.ann) (eC ψ23.ok (eC ψ1M.ok (eC ψ1b.ok (eC ψz.ok (eC ψy.ok φ4.nil))))) Tryz.func122 (by kernel_rfl) (by kernel_rfl) (fun x=>by kernel_rfl)
def ψ2.sig:Sig:=⟨[.val tys,.val tyd,.val (.sl false tyP)],[.val tyS,.val tyD,.val tyI]⟩
def ψ2.ctr:Ctr:=⟨ψ2.sig,fun x=>ψ2.f x.1 x.2.1 x.2.2⟩
def ψ2.env:Env:=[(29,[ψ1I.ctr]),(30,[ψ1E.ctr]),(61,[ψx.ctr]),(120,[ψd.ctr]),(121,[ψ1T.ctr]),(122,[ψ10.ctr])]
def ψ2.ann:Ann:=⟨[],[],[]⟩
theorem ψ2.ok:φ3 Tryz.prog 67 ψ2.ctr:=fS (A:=ψ2.ann) (eC ψ1I.ok (eC ψ1E.ok (eC ψx.ok (eC ψd.ok (eC ψ1T.ok (eC ψ10.ok φ4.nil)))))) Tryz.func67 (by kernel_rfl) (by kernel_rfl) (fun x=>by kernel_rfl)
def ψK.sig:Sig:=⟨[.ptr (.pair .bool (.pair tyS (.pair tyD (.sl true (.pair .bool (.pair (.sl true (.pair .str tyI)) (.sl true tyP))))))),.val (.pair tyI (.pair tyI tyF))],[.val (.pair tyI (.pair .str (.sl true .str)))]⟩
def ψK.ctr:Ctr:=⟨ψK.sig,fun x=>ψK.f x.1 x.2⟩
def ψK.env:Env:=[(63,[ψ1n.ctr]),(64,[ψJ.ctr]),(65,[ψ27.ctr]),(66,[ψ1B.ctr]),(67,[ψ2.ctr]),(68,[ψZ.ctr])]
def ψK.ann:Ann:=⟨[],[],[]⟩
theorem ψK.ok:φ3 Tryz.prog 38 ψK.ctr:=fS (A:=ψK.ann) (eC ψ1n.ok (eC ψJ.ok (eC ψ27.ok (eC ψ1B.ok (eC ψ2.ok (eC ψZ.ok φ4.nil)))))) Tryz.func38 (by kernel_rfl) (by kernel_rfl) (fun x=>by kernel_rfl)
def ψL.sig:Sig:=⟨[.ptr (.pair .bool (.pair tyS (.pair tyD (.sl true (.pair .bool (.pair (.sl true (.pair .str tyI)) (.sl true tyP))))))),.val (.pair tyI (.pair tyI tyF))],[.val (.pair tyI (.pair .str (.sl true .str)))]⟩
def ψL.ctr:Ctr:=⟨ψL.sig,fun x=>ψL.f x.1 x.2⟩
def ψL.env:Env:=[(32,[ψH.ctr]),(33,[ψ1o.ctr]),(34,[ψC.ctr]),(35,[ψ1R.ctr]),(36,[ψX.ctr]),(37,[ψ9.ctr]),(38,[ψK.ctr])]
def ψL.ann:Ann:=⟨[],[],[]⟩
theorem ψL.ok:φ3 Tryz.prog 18 ψL.ctr:=fS (A:=ψL.ann) (eC ψH.ok (eC ψ1o.ok (eC ψC.ok (eC ψ1R.ok (eC ψX.ok (eC ψ9.ok (eC ψK.ok φ4.nil))))))) Tryz.func18 (by kernel_rfl) (by kernel_rfl) (fun x=>by kernel_rfl)
def ψI.sig:Sig:=⟨[.val (.pair .bool (.pair tys (.pair tyd (.sl false (.pair .bool (.pair (.sl false (.pair .str tyI)) (.sl false tyP))))))),.val (.pair tyI (.pair tyI tyF))],[.val (.pair .bool (.pair tyS (.pair tyD (.sl true (.pair .bool (.pair (.sl true (.pair .str tyI)) (.sl true tyP))))))),.val (.pair tyI (.pair .str (.sl true .str)))]⟩
def ψI.ctr:Ctr:=⟨ψI.sig,fun x=>ψI.f x.1 x.2⟩
def ψI.env:Env:=[(17,[ψ1F.ctr]),(18,[ψL.ctr])]
def ψI.ann:Ann:=⟨[],[],[]⟩
theorem ψI.ok:φ3 Tryz.prog 7 ψI.ctr:=fS (A:=ψI.ann) (eC ψ1F.ok (eC ψL.ok φ4.nil)) Tryz.func7 (by kernel_rfl) (by kernel_rfl) (fun x=>by kernel_rfl)
def ψG.sig:Sig:=⟨[.val (.pair .bool (.pair tys (.pair tyd (.sl false (.pair .bool (.pair (.sl false (.pair .str tyI)) (.sl false tyP)))))))],[.val (.sl true tyF),.val tyI]⟩
def ψG.ctr:Ctr:=⟨ψG.sig,fun x=>ψG.f x⟩
def ψG.env:Env:=[(19,[ψF.ctr])]
def ψG.ann:Ann:=⟨[],[],[]⟩
theorem ψG.ok:φ3 Tryz.prog 8 ψG.ctr:=fS (A:=ψG.ann) (eC ψF.ok φ4.nil) Tryz.func8 (by kernel_rfl) (by kernel_rfl) (fun x=>by kernel_rfl)
def ψ2v.sig:Sig:=⟨[.val tyd,.val tyd],[.val .bool]⟩
def ψ2v.ctr:Ctr:=⟨ψ2v.sig,fun x=>ψ2v.f x.1 x.2⟩
def ψ2v.env:Env:=[]
def ψ2v.ann:Ann:=⟨[(0,([(2,.ptr tyd),(3,.ptr tyd),(5,.val tyI)],[(.exit 0,[]),(.ret,[(4,.val .bool)])]))],[],[]⟩
theorem ψ2v.ok:φ3 Tryz.prog 9 ψ2v.ctr:=fS (A:=ψ2v.ann) φ4.nil Tryz.func9 (by kernel_rfl) (by kernel_rfl) (fun x=>by kernel_rfl)
def ψ2w.sig:Sig:=⟨[.val (.sl false tyF),.val (.sl false tyF)],[.val .bool]⟩
def ψ2w.ctr:Ctr:=⟨ψ2w.sig,fun x=>ψ2w.f x.1 x.2⟩
def ψ2w.env:Env:=[]
def ψ2w.ann:Ann:=⟨[(0,([(0,.val (.sl false tyF)),(1,.val (.sl false tyF)),(5,.val tyI)],[(.exit 0,[]),(.ret,[(4,.val .bool)])]))],[],[]⟩
theorem ψ2w.ok:φ3 Tryz.prog 10 ψ2w.ctr:=fS (A:=ψ2w.ann) φ4.nil Tryz.func10 (by kernel_rfl) (by kernel_rfl) (fun x=>by kernel_rfl)
def ψ28.sig:Sig:=⟨[.val (.sl false (.int .u8))],[.val .bool]⟩
def ψ28.ctr:Ctr:=⟨ψ28.sig,fun x=>ψ28.f x⟩
def ψ28.env:Env:=[(4,[ψ29.ctr]),(5,[ψ2M.ctr]),(6,[ψ2O.ctr]),(7,[ψI.ctr]),(8,[ψG.ctr]),(9,[ψ2v.ctr]),(10,[ψ2w.ctr])]
def ψ28.ann:Ann:=⟨[(0,([(5,.val (.sl true tyF)),(6,.val tyI),(7,.ptr (.pair .bool (.pair tyS (.pair tyD (.sl true (.pair .bool (.pair (.sl true (.pair .str tyI)) (.sl true tyP)))))))),(8,.ptr (.pair tyI (.pair .str (.sl true .str)))),(11,.ptr (.pair .bool (.pair tyS (.pair tyD (.sl true (.pair .bool (.pair (.sl true (.pair .str tyI)) (.sl true tyP)))))))),(12,.ptr (.pair tyI (.pair .str (.sl true .str)))),(13,.val (.sl true tyF)),(14,.val tyI),(15,.val tyI)],[(.exit 0,[(5,.val (.sl true tyF)),(6,.val tyI),(7,.ptr (.pair .bool (.pair tyS (.pair tyD (.sl true (.pair .bool (.pair (.sl true (.pair .str tyI)) (.sl true tyP)))))))),(8,.ptr (.pair tyI (.pair .str (.sl true .str)))),(11,.ptr (.pair .bool (.pair tyS (.pair tyD (.sl true (.pair .bool (.pair (.sl true (.pair .str tyI)) (.sl true tyP)))))))),(12,.ptr (.pair tyI (.pair .str (.sl true .str)))),(13,.val (.sl true tyF)),(14,.val tyI)]),(.ret,[(2,.val .bool)])]))],[],[(11,[(.normal,[(5,.val (.sl true tyF)),(6,.val tyI),(7,.ptr (.pair .bool (.pair tyS (.pair tyD (.sl true (.pair .bool (.pair (.sl true (.pair .str tyI)) (.sl true tyP)))))))),(8,.ptr (.pair tyI (.pair .str (.sl true .str)))),(11,.ptr (.pair .bool (.pair tyS (.pair tyD (.sl true (.pair .bool (.pair (.sl true (.pair .str tyI)) (.sl true tyP)))))))),(12,.ptr (.pair tyI (.pair .str (.sl true .str)))),(13,.val (.sl true tyF)),(14,.val tyI)]),(.ret,[(2,.val .bool)])])]⟩
theorem ψ28.ok:φ3 Tryz.prog 3 ψ28.ctr:=fS (A:=ψ28.ann) (eC ψ29.ok (eC ψ2M.ok (eC ψ2O.ok (eC ψI.ok (eC ψG.ok (eC ψ2v.ok (eC ψ2w.ok φ4.nil))))))) Tryz.func3 (by kernel_rfl) (by kernel_rfl) (fun x=>by kernel_rfl)
end
end Go.Proofs.YtofoicidlhjhiaaGreatDoor
