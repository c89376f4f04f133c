import Derived.Test.YtleflckegnlgcaaGreatDoorShelf
import Derived.Lib.AppendIntMem
import Derived.Test.YtleflckegnlgcaaGreatDoorRf5
import Derived.Test.YtleflckegnlgcaaGreatDoorLNoRoomFns
import Derived.Test.YtleflckegnlgcaaGreatDoorProg
open Option renaming bind_some→bS
open List renaming length_append→lA,append_assoc→aA,mem_cons_of_mem→mC,mem_append→mA,mem_append_right→mR,mem_append_left→mL,mem_cons→mc,drop_eq_getElem_cons→dG,length_take→lT,length_drop→lD,mem_map→mM,length_map→lM,length_cons→lC,length_nil→lN,getElem_mem→gM,map_append→mp,mem_singleton→mZ,mem_cons_self→κ0,append_nil→κ4,map_cons→κ5,take_succ_eq_append_getElem→κ6,nil_append→κ7,length_singleton→κ9,drop_zero→κC,take_append_drop→κE,cons_append→κF,flatMap_append→κI,replicate→κJ,nodup_append→κK,foldl_cons→κN,drop_left→κO,range'→κQ,nodup_cons→κS,all_eq_true→κU,foldl_append→κW,pairwise_cons→κX,take_length→κb
open Bool renaming and_eq_true→bA,eq_false_or_eq_true→bE,not_true→nZ,not_false→nF,true_and→tA,not_not→nn,false_eq_true→κ2,true_eq_false→κ8,false_and→κD,or_eq_false_iff→κH,and_true→κL,not_eq_true'→κM,false_or→κR,or_eq_true→κV
open Int renaming toNat_natCast→tN,ofNat_lt→oL,le_refl→κP
open Nat renaming lt_or_ge→κ1,zero_le→κ3,eq_of_beq_eq_true→κA,le_refl→κB,lt_of_lt_of_le→κG,zero_add→κT,pow_succ→κY,mod_eq_of_lt→κa
open Array renaming length_toList→κZ
set_option linter.unusedVariables false
set_option linter.unusedSimpArgs false
namespace Go.Proofs.YtleflckegnlgcaaGreatDoor
noncomputable section
open Go Go.Rf Go.Rf.G Go.Proofs Go.Lib
set_option maxRecDepth 100000
abbrev tyR:Ty:=.pair (.int .i64) (.pair (.int .i64) (.pair .str (.pair .str (.pair (.int .i64) (.int .i64)))))
abbrev tyE:Ty:=.pair .str (.pair (.int .i64) (.pair (.int .i64) (.pair (.int .i64) (.int .i64))))
abbrev tyF:Ty:=.pair .str (.pair .str (.int .i64))
abbrev tyP:Ty:=.pair .str (.pair .bool .str)
abbrev tyD:Ty:=.pair (.sl true tyF) (.pair (.int .i64) (.pair (.int .i64) .bool))
abbrev tyS:Ty:=.pair (.pair (.int .i64) (.sl true (.int .i64))) (.pair (.sl true tyE) (.pair (.int .i64) (.pair (.int .i64) (.int .i64))))
abbrev tyd:Ty:=.pair (.sl false tyF) (.pair (.int .i64) (.pair (.int .i64) .bool))
abbrev tys:Ty:=.pair (.pair (.int .i64) (.sl false (.int .i64))) (.pair (.sl false tyE) (.pair (.int .i64) (.pair (.int .i64) (.int .i64))))
abbrev tyI:Ty:=.int .i64
def φ7o (f:Func):Code:=f.body.getD .skip
def tab:Tab:=[(3,⟨tyI,false,[],none,8,false⟩),
 (4,⟨.bool,false,[],none,1,false⟩),
 (5,⟨(.int .u8),false,[],none,1,false⟩),
 (9,⟨.str,false,[],none,16,false⟩),
 (22,⟨(.sl true (.int .u8)),false,[],some 5,24,false⟩),
 (24,⟨(.sl true (.pair tyI (.pair tyI tyF))),false,[],some 28,24,false⟩),
 (28,⟨(.pair tyI (.pair tyI tyF)),true,[(0,1,false),(1,1,false),(2,1,false),(3,1,false),(4,1,false)],none,56,true⟩),
 (29,⟨(.sl true tyI),false,[],some 3,24,false⟩),
 (31,⟨(.pair tyI (.sl true tyI)),true,[(0,1,false),(1,1,false)],none,32,false⟩),
 (32,⟨(.sl true tyE),false,[],some 96,24,false⟩),
 (34,⟨tyS,true,[(0,2,true),(2,1,false),(3,1,false),(4,1,false),(5,1,false)],none,80,false⟩),
 (35,⟨(.sl true tyF),false,[],some 103,24,false⟩),
 (37,⟨tyD,true,[(0,1,false),(1,1,false),(2,1,false),(3,1,false)],none,48,false⟩),
 (38,⟨(.sl true (.pair .bool (.pair (.sl true (.pair .str tyI)) (.sl true tyP)))),false,[],some 133,24,false⟩),
 (40,⟨(.pair .bool (.pair tyS (.pair tyD (.sl true (.pair .bool (.pair (.sl true (.pair .str tyI)) (.sl true tyP))))))),true,[(0,1,false),(1,6,true),(7,4,true),(11,1,false)],none,160,false⟩),
 (41,⟨(.sl true (.pair tyI (.pair .str (.sl true .str)))),false,[],some 58,24,false⟩),
 (42,⟨(.sl true (.pair tyI (.sl true tyP))),false,[],some 116,24,false⟩),
 (43,⟨(.sl true tyP),false,[],some 139,24,false⟩),
 (45,⟨(.pair (.pair .bool (.pair tyS (.pair tyD (.sl true (.pair .bool (.pair (.sl true (.pair .str tyI)) (.sl true tyP))))))) (.pair (.sl true (.pair tyI (.pair .str (.sl true .str)))) (.pair (.sl true (.pair tyI (.sl true tyP))) (.sl true tyP)))),true,[(0,12,true),(12,1,false),(13,1,false),(14,1,false)],none,232,false⟩),
 (48,⟨(.pair tyI (.pair tyI (.sl true (.pair tyI (.pair tyI tyF))))),true,[(0,1,false),(1,1,false),(2,1,false)],none,40,false⟩),
 (50,⟨(.sl true tyF),false,[],some 81,24,false⟩),
 (56,⟨(.sl true .str),false,[],some 9,24,false⟩),
 (58,⟨(.pair tyI (.pair .str (.sl true .str))),true,[(0,1,false),(1,1,false),(2,1,false)],none,48,false⟩),
 (81,⟨tyF,true,[(0,1,false),(1,1,false),(2,1,false)],none,40,true⟩),
 (92,⟨(.sl true (.pair tyI (.pair tyI tyR))),false,[],some 130,24,false⟩),
 (96,⟨tyE,true,[(0,1,false),(1,1,false),(2,1,false),(3,1,false),(4,1,false)],none,48,true⟩),
 (98,⟨tyR,true,[(0,1,false),(1,1,false),(2,1,false),(3,1,false),(4,1,false),(5,1,false)],none,64,true⟩),
 (103,⟨tyF,true,[(0,1,false),(1,1,false),(2,1,false)],none,40,true⟩),
 (108,⟨(.pair (.sl true (.int .u8)) (.pair tyI tyI)),true,[(0,1,false),(1,1,false),(2,1,false)],none,40,false⟩),
 (109,⟨(.sl true .bool),false,[],some 4,24,false⟩),
 (116,⟨(.pair tyI (.sl true tyP)),true,[(0,1,false),(1,1,false)],none,32,false⟩),
 (130,⟨(.pair tyI (.pair tyI tyR)),true,[(0,1,false),(1,1,false),(2,6,true)],none,80,true⟩),
 (131,⟨(.sl true (.pair .str tyI)),false,[],some 207,24,false⟩),
 (133,⟨(.pair .bool (.pair (.sl true (.pair .str tyI)) (.sl true tyP))),true,[(0,1,false),(1,1,false),(2,1,false)],none,56,false⟩),
 (139,⟨tyP,true,[(0,1,false),(1,1,false),(2,1,false)],none,40,true⟩),
 (148,⟨(.pair tyD tyI),true,[(0,4,true),(4,1,false)],none,56,false⟩),
 (180,⟨(.sl true (.sl true (.pair tyI (.pair tyI (.pair tyI tyR))))),false,[],some 191,24,false⟩),
 (188,⟨(.pair (.sl true tyE) (.pair tyI tyI)),true,[(0,1,false),(1,1,false),(2,1,false)],none,40,false⟩),
 (191,⟨(.sl true (.pair tyI (.pair tyI (.pair tyI tyR)))),false,[],some 231,24,false⟩),
 (198,⟨(.sl true tyR),false,[],some 98,24,false⟩),
 (207,⟨(.pair .str tyI),true,[(0,1,false),(1,1,false)],none,24,true⟩),
 (216,⟨(.pair .str .bool),true,[(0,1,false),(1,1,false)],none,24,true⟩),
 (226,⟨(.pair tyI (.pair tyI (.sl true tyE))),true,[(0,1,false),(1,1,false),(2,1,false)],none,40,false⟩),
 (231,⟨(.pair tyI (.pair tyI (.pair tyI tyR))),true,[(0,1,false),(1,1,false),(2,1,false),(3,6,true)],none,88,true⟩),
 (257,⟨(.int .u32),false,[],none,4,false⟩),
 (259,⟨.box none .bool,false,[],none,16,false⟩)]
theorem tabOk:φ1W Tryz.prog tab:=Rf.tabOk (by kernel_rfl)
theorem φMV:Tryz.prog.follows .mixedOrders=true:=by kernel_rfl
instance laid:Laid:=φIW (φI4 Tryz.prog "internal/strconv.uint64pow10" .u64 Lib.pow10Tab) (φHX 1 2)
theorem eC {g:Nat} {c:Ctr} {E:Env} (h:φ4 Tryz.prog g c) (k:φ5 Tryz.prog E):φ5 Tryz.prog ((g,[c])::E):=φ5.cons (φIw h φJU) k
theorem fS {A:Ann} {E:Env} {g:Nat} {fn:Func} {ctr:Ctr} (hE:φ5 Tryz.prog E) (hf:Tryz.prog.funcs[g]?=some fn) (hn:(fn.name == "runtime.NumGoroutine")=false) (hb:fn.body=some (φ7o fn)) (hev:∀x,evF tab E A ctr.g fn.ntmps fn.results.toList (φ7o fn) x=ctr.fn x):φ4 Tryz.prog g ctr:=φJz (A:=A) tabOk hE φMV (fn:=fn) (body:=φ7o fn) hf hn hb hev
def ψ2J.sig:Sig:=⟨[.val (.sl false (.int .u8))],[.val .bool]⟩
def ψ2J.ctr:Ctr:=⟨ψ2J.sig,fun x=>ψ2J.f x⟩
def ψ2J.env:Env:=[]
def ψ2J.ann:Ann:=⟨[],[],[]⟩
theorem ψ2J.ok:φ4 Tryz.prog 8 ψ2J.ctr:=fS (A:=ψ2J.ann) φ5.nil Tryz.func8 (by kernel_rfl) (by kernel_rfl) (fun x=>by kernel_rfl)
def ψ2I.sig:Sig:=⟨[.val (.sl false (.int .u8)),.val tyI],[.val tyI]⟩
def ψ2I.ctr:Ctr:=⟨ψ2I.sig,fun x=>ψ2I.f x.1 x.2⟩
def ψ2I.env:Env:=[]
def ψ2I.ann:Ann:=⟨[],[],[]⟩
theorem ψ2I.ok:φ4 Tryz.prog 10 ψ2I.ctr:=fS (A:=ψ2I.ann) φ5.nil Tryz.func10 (by kernel_rfl) (by kernel_rfl) (fun x=>by kernel_rfl)
def ψ1Z.sig:Sig:=⟨[.val tyI,.val tyI,.val tyI],[.val .bool]⟩
def ψ1Z.ctr:Ctr:=⟨ψ1Z.sig,fun x=>ψ1Z.f x.1 x.2.1 x.2.2⟩
def ψ1Z.env:Env:=[]
def ψ1Z.ann:Ann:=⟨[],[],[]⟩
theorem ψ1Z.ok:φ4 Tryz.prog 25 ψ1Z.ctr:=fS (A:=ψ1Z.ann) φ5.nil Tryz.func25 (by kernel_rfl) (by kernel_rfl) (fun x=>by kernel_rfl)
def ψc.sig:Sig:=⟨[.val .str],[.val .bool]⟩
def ψc.ctr:Ctr:=⟨ψc.sig,fun x=>ψc.f x⟩
def ψc.env:Env:=[(25,[ψ1Z.ctr])]
def ψc.ann:Ann:=⟨[(0,([(0,.val .str),(3,.val tyI)],[(.exit 0,[(0,.val .str)]),(.ret,[(2,.val .bool)])]))],[],[(4,[(.normal,[(0,.val .str),(3,.val tyI)]),(.ret,[(2,.val .bool)])])]⟩
theorem ψc.ok:φ4 Tryz.prog 66 ψc.ctr:=fS (A:=ψc.ann) (eC ψ1Z.ok φ5.nil) Tryz.func66 (by kernel_rfl) (by kernel_rfl) (fun x=>by kernel_rfl)
def ψD.sig:Sig:=⟨[.val tyd],[.val .bool]⟩
def ψD.ctr:Ctr:=⟨ψD.sig,fun x=>ψD.f x⟩
def ψD.env:Env:=[(25,[ψ1Z.ctr]),(66,[ψc.ctr])]
def ψD.ann:Ann:=⟨[(0,([(1,.ptr tyd),(3,.val tyI),(23,.val (.sl false tyF)),(24,.val tyI),(25,.val tyI)],[(.exit 0,[(1,.ptr tyd),(3,.val tyI)]),(.ret,[(2,.val .bool)])]))],[],[(7,[(.normal,[(1,.ptr tyd),(3,.val tyI),(5,.ptr tyF),(23,.val (.sl false tyF)),(24,.val tyI),(25,.val tyI)]),(.ret,[(2,.val .bool)])])]⟩
theorem ψD.ok:φ4 Tryz.prog 47 ψD.ctr:=fS (A:=ψD.ann) (eC ψ1Z.ok (eC ψc.ok φ5.nil)) Tryz.func47 (by kernel_rfl) (by kernel_rfl) (fun x=>by kernel_rfl)
def ψ1M.sig:Sig:=⟨[.val tyd],[.val tyD]⟩
def ψ1M.ctr:Ctr:=⟨ψ1M.sig,fun x=>ψ1M.f x⟩
def ψ1M.env:Env:=[]
def ψ1M.ann:Ann:=⟨[],[],[]⟩
theorem ψ1M.ok:φ4 Tryz.prog 53 ψ1M.ctr:=fS (A:=ψ1M.ann) φ5.nil Tryz.func53 (by kernel_rfl) (by kernel_rfl) (fun x=>by kernel_rfl)
def ψ1V.sig:Sig:=⟨[.val tyd,.val .str],[.val tyI]⟩
def ψ1V.ctr:Ctr:=⟨ψ1V.sig,fun x=>ψ1V.f x.1 x.2⟩
def ψ1V.env:Env:=[]
def ψ1V.ann:Ann:=⟨[(0,([(1,.val .str),(8,.val (.sl false tyF)),(9,.val tyI),(10,.val tyI)],[(.exit 0,[]),(.ret,[(4,.val tyI)])]))],[],[]⟩
theorem ψ1V.ok:φ4 Tryz.prog 105 ψ1V.ctr:=fS (A:=ψ1V.ann) φ5.nil Tryz.func105 (by kernel_rfl) (by kernel_rfl) (fun x=>by kernel_rfl)
def ψQ.sig:Sig:=⟨[.val tyd,.val .str],[.val .str,.val .bool]⟩
def ψQ.ctr:Ctr:=⟨ψQ.sig,fun x=>ψQ.f x.1 x.2⟩
def ψQ.env:Env:=[(47,[ψD.ctr]),(105,[ψ1V.ctr])]
def ψQ.ann:Ann:=⟨[],[],[]⟩
theorem ψQ.ok:φ4 Tryz.prog 77 ψQ.ctr:=fS (A:=ψQ.ann) (eC ψD.ok (eC ψ1V.ok φ5.nil)) Tryz.func77 (by kernel_rfl) (by kernel_rfl) (fun x=>by kernel_rfl)
def strconv_Itoa.ctr:Ctr:=φCG
theorem strconv_Itoa.ok:φ4 Tryz.prog 191 strconv_Itoa.ctr:=φL2 Tryz.func191 (by kernel_rfl) (by kernel_rfl) fun n h0 h1 w hL=>(Tryz.strconv_Itoa n h0 h1 w hL.1).mono fun e w' ⟨he,k,os,hw⟩=>⟨he,hw ▸ below_grow _ w (κB _) k os⟩
def ψ6.sig:Sig:=⟨[.val tyI],[.val .str]⟩
def ψ6.ctr:Ctr:=⟨ψ6.sig,fun x=>ψ6.f x⟩
def ψ6.env:Env:=[(191,[strconv_Itoa.ctr])]
def ψ6.ann:Ann:=⟨[],[],[]⟩
theorem ψ6.ok:φ4 Tryz.prog 160 ψ6.ctr:=fS (A:=ψ6.ann) (eC strconv_Itoa.ok φ5.nil) Tryz.func160 (by kernel_rfl) (by kernel_rfl) (fun x=>by kernel_rfl)
def ψ1c.sig:Sig:=⟨[.val .str,.val tyI],[.val .str]⟩
def ψ1c.ctr:Ctr:=⟨ψ1c.sig,fun x=>ψ1c.f x.1 x.2⟩
def ψ1c.env:Env:=[(25,[ψ1Z.ctr]),(160,[ψ6.ctr])]
def ψ1c.ann:Ann:=⟨[],[],[]⟩
theorem ψ1c.ok:φ4 Tryz.prog 117 ψ1c.ctr:=fS (A:=ψ1c.ann) (eC ψ1Z.ok (eC ψ6.ok φ5.nil)) Tryz.func117 (by kernel_rfl) (by kernel_rfl) (fun x=>by kernel_rfl)
def ψz.sig:Sig:=⟨[.val tyI],[.val .str]⟩
def ψz.ctr:Ctr:=⟨ψz.sig,fun x=>ψz.f x⟩
def ψz.env:Env:=[(117,[ψ1c.ctr])]
def ψz.ann:Ann:=⟨[],[],[]⟩
theorem ψz.ok:φ4 Tryz.prog 82 ψz.ctr:=fS (A:=ψz.ann) (eC ψ1c.ok φ5.nil) Tryz.func82 (by kernel_rfl) (by kernel_rfl) (fun x=>by kernel_rfl)
def ψo.sig:Sig:=⟨[.val .str],[.val tyI,.val tyI]⟩
def ψo.ctr:Ctr:=⟨ψo.sig,fun x=>ψo.f x⟩
def ψo.env:Env:=[]
def ψo.ann:Ann:=⟨[(0,([(0,.val .str),(4,.val tyI),(5,.val tyI)],[(.exit 0,[]),(.ret,[(2,.val tyI),(3,.val tyI)])]))],[],[(8,[(.normal,[(4,.val tyI),(5,.val tyI)]),(.ret,[(2,.val tyI),(3,.val tyI)])])]⟩
theorem ψo.ok:φ4 Tryz.prog 161 ψo.ctr:=fS (A:=ψo.ann) φ5.nil Tryz.func161 (by kernel_rfl) (by kernel_rfl) (fun x=>by kernel_rfl)
def ψ1J.sig:Sig:=⟨[.val tyI],[.val .str]⟩
def ψ1J.ctr:Ctr:=⟨ψ1J.sig,fun x=>ψ1J.f x⟩
def ψ1J.env:Env:=[(25,[ψ1Z.ctr])]
def ψ1J.ann:Ann:=⟨[(0,([(0,.val tyI),(3,.val (.sl true (.int .u8)))],[(.exit 0,[(0,.val tyI),(3,.val (.sl true (.int .u8)))])]))],[],[]⟩
theorem ψ1J.ok:φ4 Tryz.prog 195 ψ1J.ctr:=fS (A:=ψ1J.ann) (eC ψ1Z.ok φ5.nil) Tryz.func195 (by kernel_rfl) (by kernel_rfl) (fun x=>by kernel_rfl)
def ψ1u.sig:Sig:=⟨[.val .str],[.val .str]⟩
def ψ1u.ctr:Ctr:=⟨ψ1u.sig,fun x=>ψ1u.f x⟩
def ψ1u.env:Env:=[(195,[ψ1J.ctr])]
def ψ1u.ann:Ann:=⟨[],[],[]⟩
theorem ψ1u.ok:φ4 Tryz.prog 192 ψ1u.ctr:=fS (A:=ψ1u.ann) (eC ψ1J.ok φ5.nil) Tryz.func192 (by kernel_rfl) (by kernel_rfl) (fun x=>by kernel_rfl)
def ψR.sig:Sig:=⟨[.val tyI,.val tyI],[.val .str]⟩
def ψR.ctr:Ctr:=⟨ψR.sig,fun x=>ψR.f x.1 x.2⟩
def ψR.env:Env:=[(25,[ψ1Z.ctr])]
def ψR.ann:Ann:=⟨[(0,([(0,.val tyI),(5,.val (.sl true (.int .u8))),(6,.val tyI)],[(.exit 0,[(5,.val (.sl true (.int .u8)))])]))],[],[]⟩
theorem ψR.ok:φ4 Tryz.prog 193 ψR.ctr:=fS (A:=ψR.ann) (eC ψ1Z.ok φ5.nil) Tryz.func193 (by kernel_rfl) (by kernel_rfl) (fun x=>by kernel_rfl)
def ψ3.sig:Sig:=⟨[.val .str],[.val tyI]⟩
def ψ3.ctr:Ctr:=⟨ψ3.sig,fun x=>ψ3.f x⟩
def ψ3.env:Env:=[]
def ψ3.ann:Ann:=⟨[(2,([(0,.val .str),(3,.val (.int .u32)),(4,.val tyI),(18,.val tyI)],[(.exit 2,[(0,.val .str),(3,.val (.int .u32)),(4,.val tyI)])])),(0,([(0,.val .str),(3,.val (.int .u32)),(4,.val tyI)],[(.exit 0,[(3,.val (.int .u32))])]))],[],[(10,[(.normal,[(0,.val .str),(3,.val (.int .u32)),(4,.val tyI),(18,.val tyI)])])]⟩
theorem ψ3.ok:φ4 Tryz.prog 194 ψ3.ctr:=fS (A:=ψ3.ann) φ5.nil Tryz.func194 (by kernel_rfl) (by kernel_rfl) (fun x=>by kernel_rfl)
def ψS.sig:Sig:=⟨[.val .str],[.val .str]⟩
def ψS.ctr:Ctr:=⟨ψS.sig,fun x=>ψS.f x⟩
def ψS.env:Env:=[(192,[ψ1u.ctr]),(193,[ψR.ctr]),(194,[ψ3.ctr])]
def ψS.ann:Ann:=⟨[],[],[]⟩
theorem ψS.ok:φ4 Tryz.prog 162 ψS.ctr:=fS (A:=ψS.ann) (eC ψ1u.ok (eC ψR.ok (eC ψ3.ok φ5.nil))) Tryz.func162 (by kernel_rfl) (by kernel_rfl) (fun x=>by kernel_rfl)
def ψ1G.sig:Sig:=⟨[.val .str],[.val .str,.val tyI]⟩
def ψ1G.ctr:Ctr:=⟨ψ1G.sig,fun x=>ψ1G.f x⟩
def ψ1G.env:Env:=[(161,[ψo.ctr]),(162,[ψS.ctr])]
def ψ1G.ann:Ann:=⟨[],[],[]⟩
theorem ψ1G.ok:φ4 Tryz.prog 118 ψ1G.ctr:=fS (A:=ψ1G.ann) (eC ψo.ok (eC ψS.ok φ5.nil)) Tryz.func118 (by kernel_rfl) (by kernel_rfl) (fun x=>by kernel_rfl)
def ψa.sig:Sig:=⟨[.val (.pair tyI (.sl false tyI))],[.val .bool]⟩
def ψa.ctr:Ctr:=⟨ψa.sig,fun x=>ψa.f x⟩
def ψa.env:Env:=[(25,[ψ1Z.ctr])]
def ψa.ann:Ann:=⟨[(0,([(1,.ptr (.pair tyI (.sl false tyI))),(6,.val (.sl false tyI)),(7,.val tyI),(8,.val tyI)],[(.exit 0,[(1,.ptr (.pair tyI (.sl false tyI)))]),(.ret,[(2,.val .bool)])]))],[],[(4,[(.normal,[(1,.ptr (.pair tyI (.sl false tyI))),(6,.val (.sl false tyI)),(7,.val tyI),(8,.val tyI)]),(.ret,[(2,.val .bool)])])]⟩
theorem ψa.ok:φ4 Tryz.prog 121 ψa.ctr:=fS (A:=ψa.ann) (eC ψ1Z.ok φ5.nil) Tryz.func121 (by kernel_rfl) (by kernel_rfl) (fun x=>by kernel_rfl)
def ψ1m.sig:Sig:=⟨[.ptr (.pair .str .bool)],[.val tyI]⟩
def ψ1m.ctr:Ctr:=⟨ψ1m.sig,fun x=>ψ1m.f x⟩
def ψ1m.env:Env:=[(161,[ψo.ctr])]
def ψ1m.ann:Ann:=⟨[],[],[]⟩
theorem ψ1m.ok:φ4 Tryz.prog 144 ψ1m.ctr:=fS (A:=ψ1m.ann) (eC ψo.ok φ5.nil) Tryz.func144 (by kernel_rfl) (by kernel_rfl) (fun x=>by kernel_rfl)
def ψm.sig:Sig:=⟨[.val .str],[.val (.pair tyI (.sl true tyI)),.val .bool]⟩
def ψm.ctr:Ctr:=⟨ψm.sig,fun x=>ψm.f x⟩
def ψm.env:Env:=[(118,[ψ1G.ctr]),(121,[ψa.ctr]),(144,[ψ1m.ctr])]
def ψm.ann:Ann:=⟨[(0,([(0,.val .str),(2,.ptr (.pair tyI (.sl true tyI))),(5,.val tyI),(6,.ptr (.pair .str .bool)),(7,.ptr (.pair tyI (.sl true tyI))),(8,.val tyI),(9,.val tyI)],[(.exit 0,[(0,.val .str),(2,.ptr (.pair tyI (.sl true tyI))),(5,.val tyI),(6,.ptr (.pair .str .bool)),(7,.ptr (.pair tyI (.sl true tyI)))])]))],[],[]⟩
theorem ψm.ok:φ4 Tryz.prog 106 ψm.ctr:=fS (A:=ψm.ann) (eC ψ1G.ok (eC ψa.ok (eC ψ1m.ok φ5.nil))) Tryz.func106 (by kernel_rfl) (by kernel_rfl) (fun x=>by kernel_rfl)
def ψ1l.sig:Sig:=⟨[.ptr (.pair .str .bool),.val tyI],[.val .str]⟩
def ψ1l.ctr:Ctr:=⟨ψ1l.sig,fun x=>ψ1l.f x.1 x.2⟩
def ψ1l.env:Env:=[]
def ψ1l.ann:Ann:=⟨[],[],[]⟩
theorem ψ1l.ok:φ4 Tryz.prog 165 ψ1l.ctr:=fS (A:=ψ1l.ann) φ5.nil Tryz.func165 (by kernel_rfl) (by kernel_rfl) (fun x=>by kernel_rfl)
def ψ1n.sig:Sig:=⟨[.ptr (.pair .str .bool)],[.val .str]⟩
def ψ1n.ctr:Ctr:=⟨ψ1n.sig,fun x=>ψ1n.f x⟩
def ψ1n.env:Env:=[(144,[ψ1m.ctr]),(165,[ψ1l.ctr])]
def ψ1n.ann:Ann:=⟨[],[],[]⟩
theorem ψ1n.ok:φ4 Tryz.prog 163 ψ1n.ctr:=fS (A:=ψ1n.ann) (eC ψ1m.ok (eC ψ1l.ok φ5.nil)) Tryz.func163 (by kernel_rfl) (by kernel_rfl) (fun x=>by kernel_rfl)
def ψk.sig:Sig:=⟨[.val .str,.val tyI],[.val tyI,.val .bool]⟩
def ψk.ctr:Ctr:=⟨ψk.sig,fun x=>ψk.f x.1 x.2⟩
def ψk.env:Env:=[(25,[ψ1Z.ctr])]
def ψk.ann:Ann:=⟨[(0,([(0,.val .str),(6,.val tyI),(17,.val tyI),(18,.val tyI)],[(.exit 0,[(6,.val tyI)])]))],[],[]⟩
theorem ψk.ok:φ4 Tryz.prog 164 ψk.ctr:=fS (A:=ψk.ann) (eC ψ1Z.ok φ5.nil) Tryz.func164 (by kernel_rfl) (by kernel_rfl) (fun x=>by kernel_rfl)
def ψZ.sig:Sig:=⟨[.val .str],[.val .bool]⟩
def ψZ.ctr:Ctr:=⟨ψZ.sig,fun x=>ψZ.f x⟩
def ψZ.env:Env:=[(25,[ψ1Z.ctr])]
def ψZ.ann:Ann:=⟨[],[],[]⟩
theorem ψZ.ok:φ4 Tryz.prog 130 ψZ.ctr:=fS (A:=ψZ.ann) (eC ψ1Z.ok φ5.nil) Tryz.func130 (by kernel_rfl) (by kernel_rfl) (fun x=>by kernel_rfl)
def ψq.sig:Sig:=⟨[.val tyR],[.val .bool]⟩
def ψq.ctr:Ctr:=⟨ψq.sig,fun x=>ψq.f x⟩
def ψq.env:Env:=[(25,[ψ1Z.ctr]),(130,[ψZ.ctr])]
def ψq.ann:Ann:=⟨[],[],[(4,[(.normal,[(1,.ptr tyR),(3,.ptr tyR),(4,.val .bool),(5,.val tyI),(12,.val tyI),(13,.val .bool)])])]⟩
theorem ψq.ok:φ4 Tryz.prog 166 ψq.ctr:=fS (A:=ψq.ann) (eC ψ1Z.ok (eC ψZ.ok φ5.nil)) Tryz.func166 (by kernel_rfl) (by kernel_rfl) (fun x=>by kernel_rfl)
def ψn.sig:Sig:=⟨[.val .str],[.val tyR,.val .bool]⟩
def ψn.ctr:Ctr:=⟨ψn.sig,fun x=>ψn.f x⟩
def ψn.env:Env:=[(144,[ψ1m.ctr]),(163,[ψ1n.ctr]),(164,[ψk.ctr]),(165,[ψ1l.ctr]),(166,[ψq.ctr])]
def ψn.ann:Ann:=⟨[],[(0,[(.normal,[(2,.ptr tyR),(4,.ptr (.pair .str .bool)),(5,.ptr tyR)])])],[(8,[(.normal,[(2,.ptr tyR),(4,.ptr (.pair .str .bool)),(5,.ptr tyR),(16,.val tyI),(27,.val .bool)])]),(12,[(.normal,[(2,.ptr tyR),(4,.ptr (.pair .str .bool)),(5,.ptr tyR)])])]⟩
theorem ψn.ok:φ4 Tryz.prog 119 ψn.ctr:=fS (A:=ψn.ann) (eC ψ1m.ok (eC ψ1n.ok (eC ψk.ok (eC ψ1l.ok (eC ψq.ok φ5.nil))))) Tryz.func119 (by kernel_rfl) (by kernel_rfl) (fun x=>by kernel_rfl)
def ψy.sig:Sig:=⟨[.val .str],[.val (.sl false (.pair tyI (.pair tyI tyR))),.val tyI]⟩
def ψy.ctr:Ctr:=⟨ψy.sig,fun x=>ψy.f x⟩
def ψy.env:Env:=[(118,[ψ1G.ctr]),(119,[ψn.ctr])]
def ψy.ann:Ann:=⟨[(0,([(0,.val .str),(4,.val (.sl true (.pair tyI (.pair tyI tyR)))),(5,.val tyI)],[(.ret,[(2,.val (.sl true (.pair tyI (.pair tyI tyR)))),(3,.val tyI)])]))],[],[]⟩
theorem ψy.ok:φ4 Tryz.prog 123 ψy.ctr:=fS (A:=ψy.ann) (eC ψ1G.ok (eC ψn.ok φ5.nil)) Tryz.func123 (by kernel_rfl) (by kernel_rfl) (fun x=>by kernel_rfl)
def ψ1h.sig:Sig:=⟨[.val tyI,.val (.sl false (.pair tyI (.pair tyI tyR)))],[.val (.sl true (.pair tyI (.pair tyI (.pair tyI tyR))))]⟩
def ψ1h.ctr:Ctr:=⟨ψ1h.sig,fun x=>ψ1h.f x.1 x.2⟩
def ψ1h.env:Env:=[]
def ψ1h.ann:Ann:=⟨[(0,([(0,.val tyI),(5,.val (.sl true (.pair tyI (.pair tyI (.pair tyI tyR))))),(8,.val (.sl false (.pair tyI (.pair tyI tyR)))),(9,.val tyI),(10,.val tyI)],[(.exit 0,[(5,.val (.sl true (.pair tyI (.pair tyI (.pair tyI tyR)))))])]))],[],[]⟩
theorem ψ1h.ok:φ4 Tryz.prog 145 ψ1h.ctr:=fS (A:=ψ1h.ann) φ5.nil Tryz.func145 (by kernel_rfl) (by kernel_rfl) (fun x=>by kernel_rfl)
def ψ2B.sig:Sig:=⟨[.ptr (.pair tyD tyI),.val (.pair tyI (.sl false tyI))],[.val (.sl true (.sl true (.pair tyI (.pair tyI (.pair tyI tyR))))),.val tyI,.val .bool]⟩
def ψ2B.ctr:Ctr:=⟨ψ2B.sig,fun x=>ψ2B.f x.1 x.2⟩
def ψ2B.env:Env:=[(77,[ψQ.ctr]),(82,[ψz.ctr]),(123,[ψy.ctr]),(145,[ψ1h.ctr])]
def ψ2B.ann:Ann:=⟨[(0,([(0,.ptr (.pair tyD tyI)),(3,.ptr (.pair tyI (.sl false tyI))),(7,.val (.sl true (.sl true (.pair tyI (.pair tyI (.pair tyI tyR)))))),(8,.val tyI),(16,.val (.sl false tyI)),(17,.val tyI),(18,.val tyI)],[(.exit 0,[(0,.ptr (.pair tyD tyI)),(7,.val (.sl true (.sl true (.pair tyI (.pair tyI (.pair tyI tyR)))))),(8,.val tyI)]),(.ret,[(0,.ptr (.pair tyD tyI)),(4,.val (.sl true (.sl true (.pair tyI (.pair tyI (.pair tyI tyR)))))),(5,.val tyI),(6,.val .bool)])]))],[],[(8,[(.normal,[(0,.ptr (.pair tyD tyI)),(3,.ptr (.pair tyI (.sl false tyI))),(7,.val (.sl true (.sl true (.pair tyI (.pair tyI (.pair tyI tyR)))))),(10,.val tyI),(13,.val (.sl false (.pair tyI (.pair tyI tyR)))),(14,.val tyI),(16,.val (.sl false tyI)),(17,.val tyI),(18,.val tyI)]),(.ret,[(0,.ptr (.pair tyD tyI)),(4,.val (.sl true (.sl true (.pair tyI (.pair tyI (.pair tyI tyR)))))),(5,.val tyI),(6,.val .bool)])])]⟩
theorem ψ2B.ok:φ4 Tryz.prog 107 ψ2B.ctr:=fS (A:=ψ2B.ann) (eC ψQ.ok (eC ψz.ok (eC ψy.ok (eC ψ1h.ok φ5.nil)))) Tryz.func107 (by kernel_rfl) (by kernel_rfl) (fun x=>by kernel_rfl)
def ψ1v.sig:Sig:=⟨[.val tyI],[.val tyI]⟩
def ψ1v.ctr:Ctr:=⟨ψ1v.sig,fun x=>ψ1v.f x⟩
def ψ1v.env:Env:=[]
def ψ1v.ann:Ann:=⟨[],[],[]⟩
theorem ψ1v.ok:φ4 Tryz.prog 146 ψ1v.ctr:=fS (A:=ψ1v.ann) φ5.nil Tryz.func146 (by kernel_rfl) (by kernel_rfl) (fun x=>by kernel_rfl)
def ψ2D.sig:Sig:=⟨[.ptr (.pair tyD tyI),.val tyD,.val tyI],[]⟩
def ψ2D.ctr:Ctr:=⟨ψ2D.sig,fun x=>ψ2D.f x.1 x.2.1 x.2.2⟩
def ψ2D.env:Env:=[(146,[ψ1v.ctr])]
def ψ2D.ann:Ann:=⟨[],[],[]⟩
theorem ψ2D.ok:φ4 Tryz.prog 108 ψ2D.ctr:=fS (A:=ψ2D.ann) (eC ψ1v.ok φ5.nil) Tryz.func108 (by kernel_rfl) (by kernel_rfl) (fun x=>by kernel_rfl)
def ψ1D.sig:Sig:=⟨[.ptr tyD,.val (.box none .str),.val (.box none tyI)],[.val tyI]⟩
def ψ1D.ctr:Ctr:=⟨ψ1D.sig,fun x=>ψ1D.f x.1 x.2.1 x.2.2⟩
def ψ1D.env:Env:=[(25,[ψ1Z.ctr]),(105,[ψ1V.ctr])]
def ψ1D.ann:Ann:=⟨[],[],[]⟩
theorem ψ1D.ok:φ4 Tryz.prog 148 ψ1D.ctr:=fS (A:=ψ1D.ann) (eC ψ1Z.ok (eC ψ1V.ok φ5.nil)) Tryz.func148 (by kernel_rfl) (by kernel_rfl) (fun x=>by kernel_rfl)
def ψ1t.sig:Sig:=⟨[.val tyd,.val (.box (some 148) (.pair (.box none .str) (.box none tyI)))],[.val tyD,.val tyI]⟩
def ψ1t.ctr:Ctr:=⟨ψ1t.sig,fun x=>ψ1t.f x.1 x.2⟩
def ψ1t.env:Env:=[(47,[ψD.ctr]),(53,[ψ1M.ctr]),(148,[ψ1D.ctr])]
def ψ1t.ann:Ann:=⟨[],[],[(7,[(.normal,[(1,.val (.box (some 148) (.pair (.box none .str) (.box none tyI)))),(4,.ptr tyD),(6,.ptr tyD)])])]⟩
theorem ψ1t.ok:φ4 Tryz.prog 147 ψ1t.ctr:=fS (A:=ψ1t.ann) (eC ψD.ok (eC ψ1M.ok (eC ψ1D.ok φ5.nil))) Tryz.func147 (by kernel_rfl) (by kernel_rfl) (fun x=>by kernel_rfl)
def ψ1C.sig:Sig:=⟨[.val tyd,.val .str,.val tyI],[.val tyD,.val tyI]⟩
def ψ1C.ctr:Ctr:=⟨ψ1C.sig,fun x=>ψ1C.f x.1 x.2.1 x.2.2⟩
def ψ1C.env:Env:=[(147,[ψ1t.ctr])]
def ψ1C.ann:Ann:=⟨[],[],[]⟩
theorem ψ1C.ok:φ4 Tryz.prog 109 ψ1C.ctr:=fS (A:=ψ1C.ann) (eC ψ1t.ok φ5.nil) Tryz.func109 (by kernel_rfl) (by kernel_rfl) (fun x=>by kernel_rfl)
def ψ1B.sig:Sig:=⟨[.ptr tyD,.val (.box none .str)],[.val tyI]⟩
def ψ1B.ctr:Ctr:=⟨ψ1B.sig,fun x=>ψ1B.f x.1 x.2⟩
def ψ1B.env:Env:=[(105,[ψ1V.ctr])]
def ψ1B.ann:Ann:=⟨[],[],[]⟩
theorem ψ1B.ok:φ4 Tryz.prog 180 ψ1B.ctr:=fS (A:=ψ1B.ann) (eC ψ1V.ok φ5.nil) Tryz.func180 (by kernel_rfl) (by kernel_rfl) (fun x=>by kernel_rfl)
def ψ1s.sig:Sig:=⟨[.val tyd,.val (.box (some 180) (.box none .str))],[.val tyD,.val tyI]⟩
def ψ1s.ctr:Ctr:=⟨ψ1s.sig,fun x=>ψ1s.f x.1 x.2⟩
def ψ1s.env:Env:=[(47,[ψD.ctr]),(53,[ψ1M.ctr]),(180,[ψ1B.ctr])]
def ψ1s.ann:Ann:=⟨[],[],[(7,[(.normal,[(1,.val (.box (some 180) (.box none .str))),(4,.ptr tyD),(6,.ptr tyD)])])]⟩
theorem ψ1s.ok:φ4 Tryz.prog 147 ψ1s.ctr:=fS (A:=ψ1s.ann) (eC ψD.ok (eC ψ1M.ok (eC ψ1B.ok φ5.nil))) Tryz.func147 (by kernel_rfl) (by kernel_rfl) (fun x=>by kernel_rfl)
def ψ1A.sig:Sig:=⟨[.val tyd,.val .str],[.val tyD,.val tyI]⟩
def ψ1A.ctr:Ctr:=⟨ψ1A.sig,fun x=>ψ1A.f x.1 x.2⟩
def ψ1A.env:Env:=[(147,[ψ1s.ctr])]
def ψ1A.ann:Ann:=⟨[],[],[]⟩
theorem ψ1A.ok:φ4 Tryz.prog 149 ψ1A.ctr:=fS (A:=ψ1A.ann) (eC ψ1s.ok φ5.nil) Tryz.func149 (by kernel_rfl) (by kernel_rfl) (fun x=>by kernel_rfl)
def ψ2C.sig:Sig:=⟨[.ptr (.pair tyD tyI),.val .str],[]⟩
def ψ2C.ctr:Ctr:=⟨ψ2C.sig,fun x=>ψ2C.f x.1 x.2⟩
def ψ2C.env:Env:=[(108,[ψ2D.ctr]),(149,[ψ1A.ctr])]
def ψ2C.ann:Ann:=⟨[],[],[]⟩
theorem ψ2C.ok:φ4 Tryz.prog 110 ψ2C.ctr:=fS (A:=ψ2C.ann) (eC ψ2D.ok (eC ψ1A.ok φ5.nil)) Tryz.func110 (by kernel_rfl) (by kernel_rfl) (fun x=>by kernel_rfl)
def ψW.sig:Sig:=⟨[.val tyI],[.val .str]⟩
def ψW.ctr:Ctr:=⟨ψW.sig,fun x=>ψW.f x⟩
def ψW.env:Env:=[(117,[ψ1c.ctr])]
def ψW.ann:Ann:=⟨[],[],[]⟩
theorem ψW.ok:φ4 Tryz.prog 128 ψW.ctr:=fS (A:=ψW.ann) (eC ψ1c.ok φ5.nil) Tryz.func128 (by kernel_rfl) (by kernel_rfl) (fun x=>by kernel_rfl)
def ψA.sig:Sig:=⟨[.val (.sl false tyE)],[.val .bool]⟩
def ψA.ctr:Ctr:=⟨ψA.sig,fun x=>ψA.f x⟩
def ψA.env:Env:=[(25,[ψ1Z.ctr]),(130,[ψZ.ctr])]
def ψA.ann:Ann:=⟨[(0,([(0,.val (.sl false tyE)),(5,.val (.sl false tyE)),(6,.val tyI),(7,.val tyI)],[(.exit 0,[(0,.val (.sl false tyE))]),(.ret,[(2,.val .bool)])]))],[],[(4,[(.normal,[(0,.val (.sl false tyE)),(5,.val (.sl false tyE)),(6,.val tyI),(7,.val tyI)]),(.ret,[(2,.val .bool)])])]⟩
theorem ψA.ok:φ4 Tryz.prog 122 ψA.ctr:=fS (A:=ψA.ann) (eC ψ1Z.ok (eC ψZ.ok φ5.nil)) Tryz.func122 (by kernel_rfl) (by kernel_rfl) (fun x=>by kernel_rfl)
def ψ1Y.sig:Sig:=⟨[.val (.pair tyI (.pair tyI (.sl false tyE)))],[.val .bool]⟩
def ψ1Y.ctr:Ctr:=⟨ψ1Y.sig,fun x=>ψ1Y.f x⟩
def ψ1Y.env:Env:=[(25,[ψ1Z.ctr]),(122,[ψA.ctr])]
def ψ1Y.ann:Ann:=⟨[(0,([(1,.ptr (.pair tyI (.pair tyI (.sl false tyE)))),(6,.val (.sl false tyE)),(7,.val tyI),(8,.val tyI)],[(.exit 0,[(1,.ptr (.pair tyI (.pair tyI (.sl false tyE))))]),(.ret,[(2,.val .bool)])]))],[],[]⟩
theorem ψ1Y.ok:φ4 Tryz.prog 181 ψ1Y.ctr:=fS (A:=ψ1Y.ann) (eC ψ1Z.ok (eC ψA.ok φ5.nil)) Tryz.func181 (by kernel_rfl) (by kernel_rfl) (fun x=>by kernel_rfl)
def ψ1y.sig:Sig:=⟨[.val (.sl false tyI)],[.val .str]⟩
def ψ1y.ctr:Ctr:=⟨ψ1y.sig,fun x=>ψ1y.f x⟩
def ψ1y.env:Env:=[(195,[ψ1J.ctr])]
def ψ1y.ann:Ann:=⟨[(0,([(3,.val .str),(6,.val (.sl false tyI)),(7,.val tyI),(8,.val tyI)],[(.exit 0,[(3,.val .str)])]))],[],[]⟩
theorem ψ1y.ok:φ4 Tryz.prog 189 ψ1y.ctr:=fS (A:=ψ1y.ann) (eC ψ1J.ok φ5.nil) Tryz.func189 (by kernel_rfl) (by kernel_rfl) (fun x=>by kernel_rfl)
def ψ10.sig:Sig:=⟨[.val (.pair tyI (.pair tyI (.sl false tyE)))],[.val .str]⟩
def ψ10.ctr:Ctr:=⟨ψ10.sig,fun x=>ψ10.f x⟩
def ψ10.env:Env:=[(181,[ψ1Y.ctr]),(189,[ψ1y.ctr]),(192,[ψ1u.ctr]),(193,[ψR.ctr]),(194,[ψ3.ctr])]
def ψ10.ann:Ann:=⟨[(0,([(3,.val .str),(19,.val (.sl false tyE)),(20,.val tyI),(21,.val tyI)],[(.exit 0,[(3,.val .str)])]))],[],[]⟩
theorem ψ10.ok:φ4 Tryz.prog 172 ψ10.ctr:=fS (A:=ψ10.ann) (eC ψ1Y.ok (eC ψ1y.ok (eC ψ1u.ok (eC ψR.ok (eC ψ3.ok φ5.nil))))) Tryz.func172 (by kernel_rfl) (by kernel_rfl) (fun x=>by kernel_rfl)
def ψl.sig:Sig:=⟨[.val .str],[.val (.pair tyI (.pair tyI (.sl true tyE))),.val .bool]⟩
def ψl.ctr:Ctr:=⟨ψl.sig,fun x=>ψl.f x⟩
def ψl.env:Env:=[(144,[ψ1m.ctr]),(163,[ψ1n.ctr]),(165,[ψ1l.ctr]),(172,[ψ10.ctr]),(181,[ψ1Y.ctr])]
def ψl.ann:Ann:=⟨[(0,([(0,.val .str),(2,.ptr (.pair tyI (.pair tyI (.sl true tyE)))),(4,.ptr (.pair .str .bool)),(5,.ptr (.pair tyI (.pair tyI (.sl true tyE)))),(6,.val tyI),(7,.val tyI)],[(.exit 0,[(0,.val .str),(2,.ptr (.pair tyI (.pair tyI (.sl true tyE)))),(4,.ptr (.pair .str .bool)),(5,.ptr (.pair tyI (.pair tyI (.sl true tyE))))])]))],[],[]⟩
theorem ψl.ok:φ4 Tryz.prog 150 ψl.ctr:=fS (A:=ψl.ann) (eC ψ1m.ok (eC ψ1n.ok (eC ψ1l.ok (eC ψ10.ok (eC ψ1Y.ok φ5.nil))))) Tryz.func150 (by kernel_rfl) (by kernel_rfl) (fun x=>by kernel_rfl)
def ψ12.sig:Sig:=⟨[.val tyR],[.val .str]⟩
def ψ12.ctr:Ctr:=⟨ψ12.sig,fun x=>ψ12.f x⟩
def ψ12.env:Env:=[(166,[ψq.ctr]),(189,[ψ1y.ctr]),(192,[ψ1u.ctr]),(193,[ψR.ctr]),(195,[ψ1J.ctr])]
def ψ12.ann:Ann:=⟨[],[],[(5,[(.normal,[(1,.ptr tyR),(3,.val .str),(14,.val tyI),(15,.val .bool)])])]⟩
theorem ψ12.ok:φ4 Tryz.prog 168 ψ12.ctr:=fS (A:=ψ12.ann) (eC ψq.ok (eC ψ1y.ok (eC ψ1u.ok (eC ψR.ok (eC ψ1J.ok φ5.nil))))) Tryz.func168 (by kernel_rfl) (by kernel_rfl) (fun x=>by kernel_rfl)
def ψ19.sig:Sig:=⟨[.val (.sl false tyR)],[.val tyI]⟩
def ψ19.ctr:Ctr:=⟨ψ19.sig,fun x=>ψ19.f x⟩
def ψ19.env:Env:=[(168,[ψ12.ctr]),(194,[ψ3.ctr])]
def ψ19.ann:Ann:=⟨[(0,([(3,.val .str),(6,.val (.sl false tyR)),(7,.val tyI),(8,.val tyI)],[(.exit 0,[(3,.val .str)])]))],[],[]⟩
theorem ψ19.ok:φ4 Tryz.prog 170 ψ19.ctr:=fS (A:=ψ19.ann) (eC ψ12.ok (eC ψ3.ok φ5.nil)) Tryz.func170 (by kernel_rfl) (by kernel_rfl) (fun x=>by kernel_rfl)
def ψ1W.sig:Sig:=⟨[.val tyR,.val (.sl false (.pair tyI (.pair tyI (.pair tyI tyR))))],[.val .bool]⟩
def ψ1W.ctr:Ctr:=⟨ψ1W.sig,fun x=>ψ1W.f x.1 x.2⟩
def ψ1W.env:Env:=[(170,[ψ19.ctr])]
def ψ1W.ann:Ann:=⟨[(0,([(2,.ptr tyR),(5,.val (.sl true tyR)),(8,.val (.sl false (.pair tyI (.pair tyI (.pair tyI tyR))))),(9,.val tyI),(10,.val tyI)],[(.exit 0,[(2,.ptr tyR),(5,.val (.sl true tyR))])]))],[],[]⟩
theorem ψ1W.ok:φ4 Tryz.prog 153 ψ1W.ctr:=fS (A:=ψ1W.ann) (eC ψ19.ok φ5.nil) Tryz.func153 (by kernel_rfl) (by kernel_rfl) (fun x=>by kernel_rfl)
def ψX.sig:Sig:=⟨[.val tyI,.val .str],[.val (.pair tyI (.pair tyI (.sl true tyE))),.val .bool]⟩
def ψX.ctr:Ctr:=⟨ψX.sig,fun x=>ψX.f x.1 x.2⟩
def ψX.env:Env:=[(25,[ψ1Z.ctr]),(123,[ψy.ctr]),(145,[ψ1h.ctr]),(153,[ψ1W.ctr])]
def ψX.ann:Ann:=⟨[(0,([(0,.val tyI),(4,.ptr (.pair tyI (.pair tyI (.sl true tyE)))),(6,.val (.sl false (.pair tyI (.pair tyI tyR)))),(9,.ptr (.pair tyI (.pair tyI (.sl true tyE)))),(67,.val (.sl false (.pair tyI (.pair tyI tyR)))),(68,.val tyI),(69,.val tyI)],[(.exit 0,[(4,.ptr (.pair tyI (.pair tyI (.sl true tyE)))),(9,.ptr (.pair tyI (.pair tyI (.sl true tyE))))]),(.ret,[(4,.ptr (.pair tyI (.pair tyI (.sl true tyE)))),(5,.val .bool)])]))],[],[(9,[(.normal,[(0,.val tyI),(4,.ptr (.pair tyI (.pair tyI (.sl true tyE)))),(6,.val (.sl false (.pair tyI (.pair tyI tyR)))),(9,.ptr (.pair tyI (.pair tyI (.sl true tyE)))),(11,.ptr (.pair tyI (.pair tyI tyR))),(67,.val (.sl false (.pair tyI (.pair tyI tyR)))),(68,.val tyI),(69,.val tyI)]),(.ret,[(4,.ptr (.pair tyI (.pair tyI (.sl true tyE)))),(5,.val .bool)])])]⟩
theorem ψX.ok:φ4 Tryz.prog 171 ψX.ctr:=fS (A:=ψX.ann) (eC ψ1Z.ok (eC ψy.ok (eC ψ1h.ok (eC ψ1W.ok φ5.nil)))) Tryz.func171 (by kernel_rfl) (by kernel_rfl) (fun x=>by kernel_rfl)
def ψx.sig:Sig:=⟨[.val (.sl false tyE),.val (.sl false tyE)],[.val .bool]⟩
def ψx.ctr:Ctr:=⟨ψx.sig,fun x=>ψx.f x.1 x.2⟩
def ψx.env:Env:=[]
def ψx.ann:Ann:=⟨[(0,([(0,.val (.sl false tyE)),(1,.val (.sl false tyE)),(12,.val tyI),(13,.val tyI)],[(.exit 0,[]),(.ret,[(4,.val .bool)])]))],[],[]⟩
theorem ψx.ok:φ4 Tryz.prog 182 ψx.ctr:=fS (A:=ψx.ann) φ5.nil Tryz.func182 (by kernel_rfl) (by kernel_rfl) (fun x=>by kernel_rfl)
def ψV.sig:Sig:=⟨[.val tyI,.val .str,.val (.pair tyI (.pair tyI (.sl false tyE)))],[.val .bool]⟩
def ψV.ctr:Ctr:=⟨ψV.sig,fun x=>ψV.f x.1 x.2.1 x.2.2⟩
def ψV.env:Env:=[(171,[ψX.ctr]),(182,[ψx.ctr])]
def ψV.ann:Ann:=⟨[],[],[]⟩
theorem ψV.ok:φ4 Tryz.prog 151 ψV.ctr:=fS (A:=ψV.ann) (eC ψX.ok (eC ψx.ok φ5.nil)) Tryz.func151 (by kernel_rfl) (by kernel_rfl) (fun x=>by kernel_rfl)
def ψ26.sig:Sig:=⟨[.ptr (.pair tyD tyI),.val tyI],[.val (.pair (.sl true tyE) (.pair tyI tyI)),.val .bool]⟩
def ψ26.ctr:Ctr:=⟨ψ26.sig,fun x=>ψ26.f x.1 x.2⟩
def ψ26.env:Env:=[(77,[ψQ.ctr]),(82,[ψz.ctr]),(128,[ψW.ctr]),(150,[ψl.ctr]),(151,[ψV.ctr])]
def ψ26.ann:Ann:=⟨[],[],[]⟩
theorem ψ26.ok:φ4 Tryz.prog 111 ψ26.ctr:=fS (A:=ψ26.ann) (eC ψQ.ok (eC ψz.ok (eC ψW.ok (eC ψl.ok (eC ψV.ok φ5.nil))))) Tryz.func111 (by kernel_rfl) (by kernel_rfl) (fun x=>by kernel_rfl)
def ψ1L.sig:Sig:=⟨[.val (.sl false tyE)],[.val (.sl true tyE)]⟩
def ψ1L.ctr:Ctr:=⟨ψ1L.sig,fun x=>ψ1L.f x⟩
def ψ1L.env:Env:=[]
def ψ1L.ann:Ann:=⟨[],[],[]⟩
theorem ψ1L.ok:φ4 Tryz.prog 85 ψ1L.ctr:=fS (A:=ψ1L.ann) φ5.nil Tryz.func85 (by kernel_rfl) (by kernel_rfl) (fun x=>by kernel_rfl)
def ψ1g.sig:Sig:=⟨[.val (.sl false (.pair tyI (.pair tyI (.pair tyI tyR)))),.val tyR],[.val (.sl true (.pair tyI (.pair tyI (.pair tyI tyR))))]⟩
def ψ1g.ctr:Ctr:=⟨ψ1g.sig,fun x=>ψ1g.f x.1 x.2⟩
def ψ1g.env:Env:=[]
def ψ1g.ann:Ann:=⟨[(0,([(3,.ptr tyR),(5,.val (.sl true (.pair tyI (.pair tyI (.pair tyI tyR))))),(9,.val (.sl false (.pair tyI (.pair tyI (.pair tyI tyR))))),(10,.val tyI),(11,.val tyI)],[(.exit 0,[(5,.val (.sl true (.pair tyI (.pair tyI (.pair tyI tyR)))))])]))],[],[(9,[(.normal,[(3,.ptr tyR),(5,.val (.sl true (.pair tyI (.pair tyI (.pair tyI tyR))))),(7,.ptr (.pair tyI (.pair tyI (.pair tyI tyR)))),(9,.val (.sl false (.pair tyI (.pair tyI (.pair tyI tyR))))),(10,.val tyI),(11,.val tyI),(34,.val .bool)])]),(7,[(.normal,[(3,.ptr tyR),(5,.val (.sl true (.pair tyI (.pair tyI (.pair tyI tyR))))),(9,.val (.sl false (.pair tyI (.pair tyI (.pair tyI tyR))))),(10,.val tyI),(11,.val tyI)])]),(6,[(.normal,[(3,.ptr tyR),(5,.val (.sl true (.pair tyI (.pair tyI (.pair tyI tyR))))),(9,.val (.sl false (.pair tyI (.pair tyI (.pair tyI tyR))))),(10,.val tyI),(11,.val tyI)])])]⟩
theorem ψ1g.ok:φ4 Tryz.prog 152 ψ1g.ctr:=fS (A:=ψ1g.ann) φ5.nil Tryz.func152 (by kernel_rfl) (by kernel_rfl) (fun x=>by kernel_rfl)
def ψ7.sig:Sig:=⟨[.val (.sl false tyE),.val .str],[.val (.sl true tyE)]⟩
def ψ7.ctr:Ctr:=⟨ψ7.sig,fun x=>ψ7.f x.1 x.2⟩
def ψ7.env:Env:=[]
def ψ7.ann:Ann:=⟨[(0,([(1,.val .str),(5,.val (.sl true tyE)),(8,.val (.sl false tyE)),(9,.val tyI),(10,.val tyI)],[(.exit 0,[(5,.val (.sl true tyE))])]))],[],[(5,[(.normal,[(1,.val .str),(5,.val (.sl true tyE)),(8,.val (.sl false tyE)),(9,.val tyI),(10,.val tyI)])])]⟩
theorem ψ7.ok:φ4 Tryz.prog 183 ψ7.ctr:=fS (A:=ψ7.ann) φ5.nil Tryz.func183 (by kernel_rfl) (by kernel_rfl) (fun x=>by kernel_rfl)
def ψB.sig:Sig:=⟨[.val (.sl false tyE),.val tyE],[.val (.sl true tyE)]⟩
def ψB.ctr:Ctr:=⟨ψB.sig,fun x=>ψB.f x.1 x.2⟩
def ψB.env:Env:=[(85,[ψ1L.ctr]),(183,[ψ7.ctr])]
def ψB.ann:Ann:=⟨[(0,([(3,.ptr tyE),(5,.val (.sl true tyE)),(6,.val tyI)],[(.exit 0,[(3,.ptr tyE),(5,.val (.sl true tyE)),(6,.val tyI)])]))],[],[]⟩
theorem ψB.ok:φ4 Tryz.prog 184 ψB.ctr:=fS (A:=ψB.ann) (eC ψ1L.ok (eC ψ7.ok φ5.nil)) Tryz.func184 (by kernel_rfl) (by kernel_rfl) (fun x=>by kernel_rfl)
def ψU.sig:Sig:=⟨[.ptr (.pair (.sl true tyE) (.pair tyI tyI)),.val (.sl false (.pair tyI (.pair tyI (.pair tyI tyR))))],[]⟩
def ψU.ctr:Ctr:=⟨ψU.sig,fun x=>ψU.f x.1 x.2⟩
def ψU.env:Env:=[(183,[ψ7.ctr]),(184,[ψB.ctr])]
def ψU.ann:Ann:=⟨[(0,([(0,.ptr (.pair (.sl true tyE) (.pair tyI tyI))),(6,.val (.sl false (.pair tyI (.pair tyI (.pair tyI tyR))))),(7,.val tyI),(8,.val tyI)],[(.exit 0,[(0,.ptr (.pair (.sl true tyE) (.pair tyI tyI)))])]))],[],[(3,[(.normal,[(0,.ptr (.pair (.sl true tyE) (.pair tyI tyI))),(6,.val (.sl false (.pair tyI (.pair tyI (.pair tyI tyR))))),(7,.val tyI),(8,.val tyI)])])]⟩
theorem ψU.ok:φ4 Tryz.prog 154 ψU.ctr:=fS (A:=ψU.ann) (eC ψ7.ok (eC ψB.ok φ5.nil)) Tryz.func154 (by kernel_rfl) (by kernel_rfl) (fun x=>by kernel_rfl)
def ψr.sig:Sig:=⟨[.val (.pair (.sl false tyE) (.pair tyI tyI)),.val (.sl false (.pair tyI (.pair tyI (.pair tyI tyR))))],[.val (.pair (.sl true tyE) (.pair tyI tyI))]⟩
def ψr.ctr:Ctr:=⟨ψr.sig,fun x=>ψr.f x.1 x.2⟩
def ψr.env:Env:=[(85,[ψ1L.ctr]),(152,[ψ1g.ctr]),(153,[ψ1W.ctr]),(154,[ψU.ctr])]
def ψr.ann:Ann:=⟨[(0,([(1,.val (.sl false (.pair tyI (.pair tyI (.pair tyI tyR))))),(4,.ptr (.pair (.sl true tyE) (.pair tyI tyI))),(5,.ptr (.pair (.sl true tyE) (.pair tyI tyI))),(17,.val (.sl false (.pair tyI (.pair tyI (.pair tyI tyR))))),(18,.val tyI),(19,.val tyI)],[(.exit 0,[(1,.val (.sl false (.pair tyI (.pair tyI (.pair tyI tyR))))),(4,.ptr (.pair (.sl true tyE) (.pair tyI tyI))),(5,.ptr (.pair (.sl true tyE) (.pair tyI tyI)))]),(.ret,[(4,.ptr (.pair (.sl true tyE) (.pair tyI tyI)))])]))],[(1,[(.normal,[(1,.val (.sl false (.pair tyI (.pair tyI (.pair tyI tyR))))),(4,.ptr (.pair (.sl true tyE) (.pair tyI tyI))),(5,.ptr (.pair (.sl true tyE) (.pair tyI tyI))),(17,.val (.sl false (.pair tyI (.pair tyI (.pair tyI tyR))))),(18,.val tyI),(19,.val tyI)]),(.ret,[(4,.ptr (.pair (.sl true tyE) (.pair tyI tyI)))])])],[(8,[(.normal,[(1,.val (.sl false (.pair tyI (.pair tyI (.pair tyI tyR))))),(4,.ptr (.pair (.sl true tyE) (.pair tyI tyI))),(5,.ptr (.pair (.sl true tyE) (.pair tyI tyI))),(6,.val tyI),(7,.ptr (.pair tyI (.pair tyI (.pair tyI tyR)))),(17,.val (.sl false (.pair tyI (.pair tyI (.pair tyI tyR))))),(18,.val tyI),(19,.val tyI)]),(.exit 1,[(1,.val (.sl false (.pair tyI (.pair tyI (.pair tyI tyR))))),(4,.ptr (.pair (.sl true tyE) (.pair tyI tyI))),(5,.ptr (.pair (.sl true tyE) (.pair tyI tyI))),(17,.val (.sl false (.pair tyI (.pair tyI (.pair tyI tyR))))),(18,.val tyI),(19,.val tyI)])]),(12,[(.normal,[(1,.val (.sl false (.pair tyI (.pair tyI (.pair tyI tyR))))),(4,.ptr (.pair (.sl true tyE) (.pair tyI tyI))),(5,.ptr (.pair (.sl true tyE) (.pair tyI tyI))),(17,.val (.sl false (.pair tyI (.pair tyI (.pair tyI tyR))))),(18,.val tyI),(19,.val tyI)])]),(10,[(.normal,[(1,.val (.sl false (.pair tyI (.pair tyI (.pair tyI tyR))))),(4,.ptr (.pair (.sl true tyE) (.pair tyI tyI))),(5,.ptr (.pair (.sl true tyE) (.pair tyI tyI))),(17,.val (.sl false (.pair tyI (.pair tyI (.pair tyI tyR))))),(18,.val tyI),(19,.val tyI)])])]⟩
theorem ψr.ok:φ4 Tryz.prog 112 ψr.ctr:=fS (A:=ψr.ann) (eC ψ1L.ok (eC ψ1g.ok (eC ψ1W.ok (eC ψU.ok φ5.nil)))) Tryz.func112 (by kernel_rfl) (by kernel_rfl) (fun x=>by kernel_rfl)
def ψE.sig:Sig:=⟨[.ptr tyD,.val .str],[]⟩
def ψE.ctr:Ctr:=⟨ψE.sig,fun x=>ψE.f x.1 x.2⟩
def ψE.env:Env:=[(105,[ψ1V.ctr])]
def ψE.ann:Ann:=⟨[],[],[]⟩
theorem ψE.ok:φ4 Tryz.prog 198 ψE.ctr:=fS (A:=ψE.ann) (eC ψ1V.ok φ5.nil) Tryz.func198 (by kernel_rfl) (by kernel_rfl) (fun x=>by kernel_rfl)
def ψt.sig:Sig:=⟨[.ptr tyD,.val (.box none .str)],[.val tyI]⟩
def ψt.ctr:Ctr:=⟨ψt.sig,fun x=>ψt.f x.1 x.2⟩
def ψt.env:Env:=[(105,[ψ1V.ctr]),(198,[ψE.ctr])]
def ψt.ann:Ann:=⟨[],[],[]⟩
theorem ψt.ok:φ4 Tryz.prog 197 ψt.ctr:=fS (A:=ψt.ann) (eC ψ1V.ok (eC ψE.ok φ5.nil)) Tryz.func197 (by kernel_rfl) (by kernel_rfl) (fun x=>by kernel_rfl)
def ψ1q.sig:Sig:=⟨[.val tyd,.val (.box (some 197) (.box none .str))],[.val tyD,.val tyI]⟩
def ψ1q.ctr:Ctr:=⟨ψ1q.sig,fun x=>ψ1q.f x.1 x.2⟩
def ψ1q.env:Env:=[(47,[ψD.ctr]),(53,[ψ1M.ctr]),(197,[ψt.ctr])]
def ψ1q.ann:Ann:=⟨[],[],[(7,[(.normal,[(1,.val (.box (some 197) (.box none .str))),(4,.ptr tyD),(6,.ptr tyD)])])]⟩
theorem ψ1q.ok:φ4 Tryz.prog 147 ψ1q.ctr:=fS (A:=ψ1q.ann) (eC ψD.ok (eC ψ1M.ok (eC ψt.ok φ5.nil))) Tryz.func147 (by kernel_rfl) (by kernel_rfl) (fun x=>by kernel_rfl)
def ψs.sig:Sig:=⟨[.val tyd,.val .str],[.val tyD,.val tyI]⟩
def ψs.ctr:Ctr:=⟨ψs.sig,fun x=>ψs.f x.1 x.2⟩
def ψs.env:Env:=[(147,[ψ1q.ctr])]
def ψs.ann:Ann:=⟨[],[],[]⟩
theorem ψs.ok:φ4 Tryz.prog 173 ψs.ctr:=fS (A:=ψs.ann) (eC ψ1q.ok φ5.nil) Tryz.func173 (by kernel_rfl) (by kernel_rfl) (fun x=>by kernel_rfl)
def ψ25.sig:Sig:=⟨[.ptr (.pair tyD tyI),.val .str],[]⟩
def ψ25.ctr:Ctr:=⟨ψ25.sig,fun x=>ψ25.f x.1 x.2⟩
def ψ25.env:Env:=[(105,[ψ1V.ctr]),(108,[ψ2D.ctr]),(173,[ψs.ctr])]
def ψ25.ann:Ann:=⟨[],[],[]⟩
theorem ψ25.ok:φ4 Tryz.prog 129 ψ25.ctr:=fS (A:=ψ25.ann) (eC ψ1V.ok (eC ψ2D.ok (eC ψs.ok φ5.nil))) Tryz.func129 (by kernel_rfl) (by kernel_rfl) (fun x=>by kernel_rfl)
def ψ3T.sig:Sig:=⟨[.val .str,.val .str],[.val .bool]⟩
def ψ3T.ctr:Ctr:=⟨ψ3T.sig,fun x=>ψ3T.f x.1 x.2⟩
def ψ3T.env:Env:=[]
def ψ3T.ann:Ann:=⟨[],[],[]⟩
theorem ψ3T.ok:φ4 Tryz.prog 208 ψ3T.ctr:=fS (A:=ψ3T.ann) φ5.nil Tryz.func208 (by kernel_rfl) (by kernel_rfl) (fun x=>by kernel_rfl)
def ψ3S.sig:Sig:=⟨[.val .str,.val .str],[.val .str,.val .bool]⟩
def ψ3S.ctr:Ctr:=⟨ψ3S.sig,fun x=>ψ3S.f x.1 x.2⟩
def ψ3S.env:Env:=[(208,[ψ3T.ctr])]
def ψ3S.ann:Ann:=⟨[],[],[]⟩
theorem ψ3S.ok:φ4 Tryz.prog 205 ψ3S.ctr:=fS (A:=ψ3S.ann) (eC ψ3T.ok φ5.nil) Tryz.func205 (by kernel_rfl) (by kernel_rfl) (fun x=>by kernel_rfl)
def ψ3R.sig:Sig:=⟨[.val .str,.val .str],[.val .str,.val .bool]⟩
def ψ3R.ctr:Ctr:=⟨ψ3R.sig,fun x=>ψ3R.f x.1 x.2⟩
def ψ3R.env:Env:=[(205,[ψ3S.ctr])]
def ψ3R.ann:Ann:=⟨[],[],[]⟩
theorem ψ3R.ok:φ4 Tryz.prog 200 ψ3R.ctr:=fS (A:=ψ3R.ann) (eC ψ3S.ok φ5.nil) Tryz.func200 (by kernel_rfl) (by kernel_rfl) (fun x=>by kernel_rfl)
def strconv_Atoi.ctr:Ctr:=φ56
theorem strconv_Atoi.ok:φ4 Tryz.prog 206 strconv_Atoi.ctr:=φIV Tryz.func206 (by kernel_rfl) (by kernel_rfl) (fun s h v hv w _=>Tryz.strconv_Atoi_ok s h v hv w)
 (fun s h hv w hL=>by obtain ⟨ev,h1,h2⟩:=hL.2.1;exact (Tryz.strconv_Atoi_syntax s h hv ev w h1 h2).mono fun e w' ⟨N,he,_,_,hB⟩=>⟨N,he,hB⟩)
 (fun s h hv w hL=>by obtain ⟨ev,h1,h2⟩:=hL.2.2;exact (Tryz.strconv_Atoi_range s h hv ev w h1 h2).mono fun e w' ⟨N,he,_,_,hB⟩=>⟨N,he,hB⟩)
def ψj.sig:Sig:=⟨[.val .str],[.val tyI,.val .bool]⟩
def ψj.ctr:Ctr:=⟨ψj.sig,fun x=>ψj.f x⟩
def ψj.env:Env:=[(25,[ψ1Z.ctr]),(160,[ψ6.ctr]),(206,[strconv_Atoi.ctr])]
def ψj.ann:Ann:=⟨[],[],[]⟩
theorem ψj.ok:φ4 Tryz.prog 201 ψj.ctr:=fS (A:=ψj.ann) (eC ψ1Z.ok (eC ψ6.ok (eC strconv_Atoi.ok φ5.nil))) Tryz.func201 (by kernel_rfl) (by kernel_rfl) (fun x=>by kernel_rfl)
def ψY.sig:Sig:=⟨[.val .str],[.val tyI,.val .bool]⟩
def ψY.ctr:Ctr:=⟨ψY.sig,fun x=>ψY.f x⟩
def ψY.env:Env:=[(25,[ψ1Z.ctr]),(200,[ψ3R.ctr]),(201,[ψj.ctr])]
def ψY.ann:Ann:=⟨[],[],[(2,[(.normal,[(4,.val .str),(5,.val .bool)])])]⟩
theorem ψY.ok:φ4 Tryz.prog 185 ψY.ctr:=fS (A:=ψY.ann) (eC ψ1Z.ok (eC ψ3R.ok (eC ψj.ok φ5.nil))) Tryz.func185 (by kernel_rfl) (by kernel_rfl) (fun x=>by kernel_rfl)
def ψ1X.sig:Sig:=⟨[.val (.sl false tyI),.val tyI],[.val .bool]⟩
def ψ1X.ctr:Ctr:=⟨ψ1X.sig,fun x=>ψ1X.f x.1 x.2⟩
def ψ1X.env:Env:=[]
def ψ1X.ann:Ann:=⟨[(0,([(1,.val tyI),(7,.val (.sl false tyI)),(8,.val tyI),(9,.val tyI)],[(.exit 0,[]),(.ret,[(4,.val .bool)])]))],[],[]⟩
theorem ψ1X.ok:φ4 Tryz.prog 186 ψ1X.ctr:=fS (A:=ψ1X.ann) φ5.nil Tryz.func186 (by kernel_rfl) (by kernel_rfl) (fun x=>by kernel_rfl)
def ψf.sig:Sig:=⟨[.val tyd,.val (.pair tyI (.sl false tyI))],[.val (.sl true .str)]⟩
def ψf.ctr:Ctr:=⟨ψf.sig,fun x=>ψf.f x.1 x.2⟩
def ψf.env:Env:=[(47,[ψD.ctr]),(185,[ψY.ctr]),(186,[ψ1X.ctr])]
def ψf.ann:Ann:=⟨[(0,([(3,.ptr (.pair tyI (.sl false tyI))),(5,.val (.sl true .str)),(14,.val (.sl false tyF)),(15,.val tyI),(16,.val tyI)],[(.exit 0,[(5,.val (.sl true .str))])]))],[],[(8,[(.normal,[(3,.ptr (.pair tyI (.sl false tyI))),(5,.val (.sl true .str)),(14,.val (.sl false tyF)),(15,.val tyI),(16,.val tyI)])])]⟩
theorem ψf.ok:φ4 Tryz.prog 155 ψf.ctr:=fS (A:=ψf.ann) (eC ψD.ok (eC ψY.ok (eC ψ1X.ok φ5.nil))) Tryz.func155 (by kernel_rfl) (by kernel_rfl) (fun x=>by kernel_rfl)
def ψ27.sig:Sig:=⟨[.ptr (.pair tyD tyI),.val (.pair tyI (.sl false tyI))],[]⟩
def ψ27.ctr:Ctr:=⟨ψ27.sig,fun x=>ψ27.f x.1 x.2⟩
def ψ27.env:Env:=[(129,[ψ25.ctr]),(155,[ψf.ctr])]
def ψ27.ann:Ann:=⟨[(0,([(0,.ptr (.pair tyD tyI)),(11,.val (.sl true .str)),(12,.val tyI),(13,.val tyI)],[(.exit 0,[(0,.ptr (.pair tyD tyI))])]))],[],[]⟩
theorem ψ27.ok:φ4 Tryz.prog 113 ψ27.ctr:=fS (A:=ψ27.ann) (eC ψ25.ok (eC ψf.ok φ5.nil)) Tryz.func113 (by kernel_rfl) (by kernel_rfl) (fun x=>by kernel_rfl)
def ψ24.sig:Sig:=⟨[.ptr (.pair tyD tyI),.val .str],[.val tyS]⟩
def ψ24.ctr:Ctr:=⟨ψ24.sig,fun x=>ψ24.f x.1 x.2⟩
def ψ24.env:Env:=[(77,[ψQ.ctr]),(82,[ψz.ctr]),(106,[ψm.ctr]),(107,[ψ2B.ctr]),(108,[ψ2D.ctr]),(109,[ψ1C.ctr]),(110,[ψ2C.ctr]),(111,[ψ26.ctr]),(112,[ψr.ctr]),(113,[ψ27.ctr])]
def ψ24.ann:Ann:=⟨[(0,([(0,.ptr (.pair tyD tyI)),(4,.ptr tyS),(5,.ptw (.pair tyI (.sl true tyI))),(13,.ptr tyS),(14,.ptr (.pair (.sl true tyE) (.pair tyI tyI))),(16,.val (.sl true (.pair tyI (.pair tyI (.pair tyI tyR))))),(103,.val (.sl false (.sl false (.pair tyI (.pair tyI (.pair tyI tyR)))))),(104,.val tyI),(105,.val tyI),(5,.lnk 1 13 1)],[(.exit 0,[(0,.ptr (.pair tyD tyI)),(4,.ptr tyS),(5,.ptw (.pair tyI (.sl true tyI))),(13,.ptr tyS),(14,.ptr (.pair (.sl true tyE) (.pair tyI tyI))),(16,.val (.sl true (.pair tyI (.pair tyI (.pair tyI tyR))))),(5,.lnk 1 13 1)])]))],[],[(8,[(.normal,[(0,.ptr (.pair tyD tyI)),(4,.ptr tyS),(5,.ptr (.pair tyI (.sl true tyI))),(7,.val (.sl true (.sl true (.pair tyI (.pair tyI (.pair tyI tyR)))))),(8,.val tyI),(10,.val .str)])]),(15,[(.normal,[(0,.ptr (.pair tyD tyI)),(4,.ptr tyS),(5,.ptw (.pair tyI (.sl true tyI))),(7,.val (.sl false (.sl false (.pair tyI (.pair tyI (.pair tyI tyR)))))),(13,.ptr tyS),(14,.ptr (.pair (.sl true tyE) (.pair tyI tyI))),(5,.lnk 1 13 1)])])]⟩
theorem ψ24.ok:φ4 Tryz.prog 78 ψ24.ctr:=fS (A:=ψ24.ann) (eC ψQ.ok (eC ψz.ok (eC ψm.ok (eC ψ2B.ok (eC ψ2D.ok (eC ψ1C.ok (eC ψ2C.ok (eC ψ26.ok (eC ψr.ok (eC ψ27.ok φ5.nil)))))))))) Tryz.func78 (by kernel_rfl) (by kernel_rfl) (fun x=>by kernel_rfl)
def ψF.sig:Sig:=⟨[.ptr tyD,.val tyF],[]⟩
def ψF.ctr:Ctr:=⟨ψF.sig,fun x=>ψF.f x.1 x.2⟩
def ψF.env:Env:=[]
def ψF.ann:Ann:=⟨[(0,([(0,.ptr tyD),(3,.ptr tyF),(4,.val tyI)],[(.exit 0,[(0,.ptr tyD),(3,.ptr tyF),(4,.val tyI)])]))],[],[]⟩
theorem ψF.ok:φ4 Tryz.prog 188 ψF.ctr:=fS (A:=ψF.ann) φ5.nil Tryz.func188 (by kernel_rfl) (by kernel_rfl) (fun x=>by kernel_rfl)
def ψ5.sig:Sig:=⟨[.ptr tyD,.val (.box none .str)],[.val tyI]⟩
def ψ5.ctr:Ctr:=⟨ψ5.sig,fun x=>ψ5.f x.1 x.2⟩
def ψ5.env:Env:=[(66,[ψc.ctr]),(105,[ψ1V.ctr]),(188,[ψF.ctr])]
def ψ5.ann:Ann:=⟨[],[],[]⟩
theorem ψ5.ok:φ4 Tryz.prog 187 ψ5.ctr:=fS (A:=ψ5.ann) (eC ψc.ok (eC ψ1V.ok (eC ψF.ok φ5.nil))) Tryz.func187 (by kernel_rfl) (by kernel_rfl) (fun x=>by kernel_rfl)
def ψ1p.sig:Sig:=⟨[.val tyd,.val (.box (some 187) (.box none .str))],[.val tyD,.val tyI]⟩
def ψ1p.ctr:Ctr:=⟨ψ1p.sig,fun x=>ψ1p.f x.1 x.2⟩
def ψ1p.env:Env:=[(47,[ψD.ctr]),(53,[ψ1M.ctr]),(187,[ψ5.ctr])]
def ψ1p.ann:Ann:=⟨[],[],[(7,[(.normal,[(1,.val (.box (some 187) (.box none .str))),(4,.ptr tyD),(6,.ptr tyD)])])]⟩
theorem ψ1p.ok:φ4 Tryz.prog 147 ψ1p.ctr:=fS (A:=ψ1p.ann) (eC ψD.ok (eC ψ1M.ok (eC ψ5.ok φ5.nil))) Tryz.func147 (by kernel_rfl) (by kernel_rfl) (fun x=>by kernel_rfl)
def ψ4.sig:Sig:=⟨[.val tyd,.val .str],[.val tyD,.val tyI]⟩
def ψ4.ctr:Ctr:=⟨ψ4.sig,fun x=>ψ4.f x.1 x.2⟩
def ψ4.env:Env:=[(147,[ψ1p.ctr])]
def ψ4.ann:Ann:=⟨[],[],[]⟩
theorem ψ4.ok:φ4 Tryz.prog 156 ψ4.ctr:=fS (A:=ψ4.ann) (eC ψ1p.ok φ5.nil) Tryz.func156 (by kernel_rfl) (by kernel_rfl) (fun x=>by kernel_rfl)
def ψ21.sig:Sig:=⟨[.ptr (.pair tyD tyI),.val .str],[]⟩
def ψ21.ctr:Ctr:=⟨ψ21.sig,fun x=>ψ21.f x.1 x.2⟩
def ψ21.env:Env:=[(108,[ψ2D.ctr]),(156,[ψ4.ctr])]
def ψ21.ann:Ann:=⟨[],[],[]⟩
theorem ψ21.ok:φ4 Tryz.prog 114 ψ21.ctr:=fS (A:=ψ21.ann) (eC ψ2D.ok (eC ψ4.ok φ5.nil)) Tryz.func114 (by kernel_rfl) (by kernel_rfl) (fun x=>by kernel_rfl)
def ψ1z.sig:Sig:=⟨[.ptr (.pair tyD tyI),.val .str],[]⟩
def ψ1z.ctr:Ctr:=⟨ψ1z.sig,fun x=>ψ1z.f x.1 x.2⟩
def ψ1z.env:Env:=[(114,[ψ21.ctr]),(129,[ψ25.ctr])]
def ψ1z.ann:Ann:=⟨[],[],[]⟩
theorem ψ1z.ok:φ4 Tryz.prog 167 ψ1z.ctr:=fS (A:=ψ1z.ann) (eC ψ21.ok (eC ψ25.ok φ5.nil)) Tryz.func167 (by kernel_rfl) (by kernel_rfl) (fun x=>by kernel_rfl)
def ψ1x.sig:Sig:=⟨[.val tyd],[.val tyI]⟩
def ψ1x.ctr:Ctr:=⟨ψ1x.sig,fun x=>ψ1x.f x⟩
def ψ1x.env:Env:=[]
def ψ1x.ann:Ann:=⟨[(0,([(3,.val tyI),(7,.val (.sl false tyF)),(8,.val tyI),(9,.val tyI)],[(.exit 0,[(3,.val tyI)])]))],[],[]⟩
theorem ψ1x.ok:φ4 Tryz.prog 48 ψ1x.ctr:=fS (A:=ψ1x.ann) φ5.nil Tryz.func48 (by kernel_rfl) (by kernel_rfl) (fun x=>by kernel_rfl)
def ψ1.sig:Sig:=⟨[.ptr tyD,.val (.box none .str),.val (.box none .str)],[.val tyI]⟩
def ψ1.ctr:Ctr:=⟨ψ1.sig,fun x=>ψ1.f x.1 x.2.1 x.2.2⟩
def ψ1.env:Env:=[(48,[ψ1x.ctr]),(105,[ψ1V.ctr])]
def ψ1.ann:Ann:=⟨[],[],[]⟩
theorem ψ1.ok:φ4 Tryz.prog 204 ψ1.ctr:=fS (A:=ψ1.ann) (eC ψ1x.ok (eC ψ1V.ok φ5.nil)) Tryz.func204 (by kernel_rfl) (by kernel_rfl) (fun x=>by kernel_rfl)
def ψ1o.sig:Sig:=⟨[.val tyd,.val (.box (some 204) (.pair (.box none .str) (.box none .str)))],[.val tyD,.val tyI]⟩
def ψ1o.ctr:Ctr:=⟨ψ1o.sig,fun x=>ψ1o.f x.1 x.2⟩
def ψ1o.env:Env:=[(47,[ψD.ctr]),(53,[ψ1M.ctr]),(204,[ψ1.ctr])]
def ψ1o.ann:Ann:=⟨[],[],[(7,[(.normal,[(1,.val (.box (some 204) (.pair (.box none .str) (.box none .str)))),(4,.ptr tyD),(6,.ptr tyD)])])]⟩
theorem ψ1o.ok:φ4 Tryz.prog 147 ψ1o.ctr:=fS (A:=ψ1o.ann) (eC ψD.ok (eC ψ1M.ok (eC ψ1.ok φ5.nil))) Tryz.func147 (by kernel_rfl) (by kernel_rfl) (fun x=>by kernel_rfl)
def ψ0.sig:Sig:=⟨[.val tyd,.val .str,.val .str],[.val tyD,.val tyI]⟩
def ψ0.ctr:Ctr:=⟨ψ0.sig,fun x=>ψ0.f x.1 x.2.1 x.2.2⟩
def ψ0.env:Env:=[(147,[ψ1o.ctr])]
def ψ0.ann:Ann:=⟨[],[],[]⟩
theorem ψ0.ok:φ4 Tryz.prog 196 ψ0.ctr:=fS (A:=ψ0.ann) (eC ψ1o.ok φ5.nil) Tryz.func196 (by kernel_rfl) (by kernel_rfl) (fun x=>by kernel_rfl)
def ψ28.sig:Sig:=⟨[.ptr (.pair tyD tyI),.val .str,.val .str],[]⟩
def ψ28.ctr:Ctr:=⟨ψ28.sig,fun x=>ψ28.f x.1 x.2.1 x.2.2⟩
def ψ28.env:Env:=[(108,[ψ2D.ctr]),(196,[ψ0.ctr])]
def ψ28.ann:Ann:=⟨[],[],[]⟩
theorem ψ28.ok:φ4 Tryz.prog 169 ψ28.ctr:=fS (A:=ψ28.ann) (eC ψ2D.ok (eC ψ0.ok φ5.nil)) Tryz.func169 (by kernel_rfl) (by kernel_rfl) (fun x=>by kernel_rfl)
def ψ22.sig:Sig:=⟨[.ptr (.pair tyD tyI),.val .str,.val .str],[]⟩
def ψ22.ctr:Ctr:=⟨ψ22.sig,fun x=>ψ22.f x.1 x.2.1 x.2.2⟩
def ψ22.env:Env:=[(110,[ψ2C.ctr]),(167,[ψ1z.ctr]),(169,[ψ28.ctr])]
def ψ22.ann:Ann:=⟨[],[],[]⟩
theorem ψ22.ok:φ4 Tryz.prog 157 ψ22.ctr:=fS (A:=ψ22.ann) (eC ψ2C.ok (eC ψ1z.ok (eC ψ28.ok φ5.nil))) Tryz.func157 (by kernel_rfl) (by kernel_rfl) (fun x=>by kernel_rfl)
def ψ11.sig:Sig:=⟨[.val (.pair tyI (.sl false tyI))],[.val .str]⟩
def ψ11.ctr:Ctr:=⟨ψ11.sig,fun x=>ψ11.f x⟩
def ψ11.env:Env:=[(121,[ψa.ctr]),(162,[ψS.ctr]),(189,[ψ1y.ctr])]
def ψ11.ann:Ann:=⟨[],[],[]⟩
theorem ψ11.ok:φ4 Tryz.prog 158 ψ11.ctr:=fS (A:=ψ11.ann) (eC ψa.ok (eC ψS.ok (eC ψ1y.ok φ5.nil))) Tryz.func158 (by kernel_rfl) (by kernel_rfl) (fun x=>by kernel_rfl)
def ψv.sig:Sig:=⟨[.ptr tyD,.val (.box none .str),.val (.box none .str)],[.val tyI]⟩
def ψv.ctr:Ctr:=⟨ψv.sig,fun x=>ψv.f x.1 x.2.1 x.2.2⟩
def ψv.env:Env:=[(66,[ψc.ctr]),(105,[ψ1V.ctr]),(188,[ψF.ctr]),(198,[ψE.ctr])]
def ψv.ann:Ann:=⟨[],[],[]⟩
theorem ψv.ok:φ4 Tryz.prog 202 ψv.ctr:=fS (A:=ψv.ann) (eC ψc.ok (eC ψ1V.ok (eC ψF.ok (eC ψE.ok φ5.nil)))) Tryz.func202 (by kernel_rfl) (by kernel_rfl) (fun x=>by kernel_rfl)
def ψ1r.sig:Sig:=⟨[.val tyd,.val (.box (some 202) (.pair (.box none .str) (.box none .str)))],[.val tyD,.val tyI]⟩
def ψ1r.ctr:Ctr:=⟨ψ1r.sig,fun x=>ψ1r.f x.1 x.2⟩
def ψ1r.env:Env:=[(47,[ψD.ctr]),(53,[ψ1M.ctr]),(202,[ψv.ctr])]
def ψ1r.ann:Ann:=⟨[],[],[(7,[(.normal,[(1,.val (.box (some 202) (.pair (.box none .str) (.box none .str)))),(4,.ptr tyD),(6,.ptr tyD)])])]⟩
theorem ψ1r.ok:φ4 Tryz.prog 147 ψ1r.ctr:=fS (A:=ψ1r.ann) (eC ψD.ok (eC ψ1M.ok (eC ψv.ok φ5.nil))) Tryz.func147 (by kernel_rfl) (by kernel_rfl) (fun x=>by kernel_rfl)
def ψu.sig:Sig:=⟨[.val tyd,.val .str,.val .str],[.val tyD,.val tyI]⟩
def ψu.ctr:Ctr:=⟨ψu.sig,fun x=>ψu.f x.1 x.2.1 x.2.2⟩
def ψu.env:Env:=[(147,[ψ1r.ctr])]
def ψu.ann:Ann:=⟨[],[],[]⟩
theorem ψu.ok:φ4 Tryz.prog 190 ψu.ctr:=fS (A:=ψu.ann) (eC ψ1r.ok φ5.nil) Tryz.func190 (by kernel_rfl) (by kernel_rfl) (fun x=>by kernel_rfl)
def ψ2A.sig:Sig:=⟨[.ptr (.pair tyD tyI),.val .str,.val .str],[]⟩
def ψ2A.ctr:Ctr:=⟨ψ2A.sig,fun x=>ψ2A.f x.1 x.2.1 x.2.2⟩
def ψ2A.env:Env:=[(108,[ψ2D.ctr]),(190,[ψu.ctr])]
def ψ2A.ann:Ann:=⟨[],[],[]⟩
theorem ψ2A.ok:φ4 Tryz.prog 159 ψ2A.ctr:=fS (A:=ψ2A.ann) (eC ψ2D.ok (eC ψu.ok φ5.nil)) Tryz.func159 (by kernel_rfl) (by kernel_rfl) (fun x=>by kernel_rfl)
def ψ29.sig:Sig:=⟨[.ptr (.pair tyD tyI),.val (.pair tyI (.sl false tyI))],[]⟩
def ψ29.ctr:Ctr:=⟨ψ29.sig,fun x=>ψ29.f x.1 x.2⟩
def ψ29.env:Env:=[(157,[ψ22.ctr]),(158,[ψ11.ctr]),(159,[ψ2A.ctr])]
def ψ29.ann:Ann:=⟨[],[],[]⟩
theorem ψ29.ok:φ4 Tryz.prog 115 ψ29.ctr:=fS (A:=ψ29.ann) (eC ψ22.ok (eC ψ11.ok (eC ψ2A.ok φ5.nil))) Tryz.func115 (by kernel_rfl) (by kernel_rfl) (fun x=>by kernel_rfl)
def ψ23.sig:Sig:=⟨[.ptr (.pair tyD tyI)],[.val tyS]⟩
def ψ23.ctr:Ctr:=⟨ψ23.sig,fun x=>ψ23.f x⟩
def ψ23.env:Env:=[(82,[ψz.ctr]),(113,[ψ27.ctr]),(114,[ψ21.ctr]),(115,[ψ29.ctr])]
def ψ23.ann:Ann:=⟨[],[],[]⟩
theorem ψ23.ok:φ4 Tryz.prog 79 ψ23.ctr:=fS (A:=ψ23.ann) (eC ψz.ok (eC ψ27.ok (eC ψ21.ok (eC ψ29.ok φ5.nil)))) Tryz.func79 (by kernel_rfl) (by kernel_rfl) (fun x=>by kernel_rfl)
def ψe.sig:Sig:=⟨[.val tyd],[.val tyS,.val tyD,.val tyI]⟩
def ψe.ctr:Ctr:=⟨ψe.sig,fun x=>ψe.f x⟩
def ψe.env:Env:=[(47,[ψD.ctr]),(53,[ψ1M.ctr]),(77,[ψQ.ctr]),(78,[ψ24.ctr]),(79,[ψ23.ctr])]
def ψe.ann:Ann:=⟨[],[],[(8,[(.normal,[(2,.ptr tyS),(3,.ptr tyD),(5,.ptr (.pair tyD tyI)),(6,.ptr tyS)])])]⟩
theorem ψe.ok:φ4 Tryz.prog 52 ψe.ctr:=fS (A:=ψe.ann) (eC ψD.ok (eC ψ1M.ok (eC ψQ.ok (eC ψ24.ok (eC ψ23.ok φ5.nil))))) Tryz.func52 (by kernel_rfl) (by kernel_rfl) (fun x=>by kernel_rfl)
def ψI.sig:Sig:=⟨[.val tyd],[.val (.pair .bool (.pair tyS (.pair tyD (.sl true (.pair .bool (.pair (.sl true (.pair .str tyI)) (.sl true tyP))))))),.val tyI]⟩
def ψI.ctr:Ctr:=⟨ψI.sig,fun x=>ψI.f x⟩
def ψI.env:Env:=[(52,[ψe.ctr])]
def ψI.ann:Ann:=⟨[],[],[]⟩
theorem ψI.ok:φ4 Tryz.prog 26 ψI.ctr:=fS (A:=ψI.ann) (eC ψe.ok φ5.nil) Tryz.func26 (by kernel_rfl) (by kernel_rfl) (fun x=>by kernel_rfl)
def ψ1K.sig:Sig:=⟨[.val tyd,.val tyI],[.val tyD]⟩
def ψ1K.ctr:Ctr:=⟨ψ1K.sig,fun x=>ψ1K.f x.1 x.2⟩
def ψ1K.env:Env:=[(25,[ψ1Z.ctr]),(47,[ψD.ctr]),(53,[ψ1M.ctr])]
def ψ1K.ann:Ann:=⟨[],[],[]⟩
theorem ψ1K.ok:φ4 Tryz.prog 27 ψ1K.ctr:=fS (A:=ψ1K.ann) (eC ψ1Z.ok (eC ψD.ok (eC ψ1M.ok φ5.nil))) Tryz.func27 (by kernel_rfl) (by kernel_rfl) (fun x=>by kernel_rfl)
def ψC.sig:Sig:=⟨[.val tyI],[.val tyD]⟩
def ψC.ctr:Ctr:=⟨ψC.sig,fun x=>ψC.f x⟩
def ψC.env:Env:=[(25,[ψ1Z.ctr])]
def ψC.ann:Ann:=⟨[],[],[]⟩
theorem ψC.ok:φ4 Tryz.prog 28 ψC.ctr:=fS (A:=ψC.ann) (eC ψ1Z.ok φ5.nil) Tryz.func28 (by kernel_rfl) (by kernel_rfl) (fun x=>by kernel_rfl)
def ψ1O.sig:Sig:=⟨[.val (.pair tyI (.sl false tyI))],[.val (.pair tyI (.sl true tyI))]⟩
def ψ1O.ctr:Ctr:=⟨ψ1O.sig,fun x=>ψ1O.f x⟩
def ψ1O.env:Env:=[]
def ψ1O.ann:Ann:=⟨[],[],[]⟩
theorem ψ1O.ok:φ4 Tryz.prog 84 ψ1O.ctr:=fS (A:=ψ1O.ann) φ5.nil Tryz.func84 (by kernel_rfl) (by kernel_rfl) (fun x=>by kernel_rfl)
def ψ1Q.sig:Sig:=⟨[.val tys],[.val tyS]⟩
def ψ1Q.ctr:Ctr:=⟨ψ1Q.sig,fun x=>ψ1Q.f x⟩
def ψ1Q.env:Env:=[(84,[ψ1O.ctr]),(85,[ψ1L.ctr])]
def ψ1Q.ann:Ann:=⟨[],[],[]⟩
theorem ψ1Q.ok:φ4 Tryz.prog 58 ψ1Q.ctr:=fS (A:=ψ1Q.ann) (eC ψ1O.ok (eC ψ1L.ok φ5.nil)) Tryz.func58 (by kernel_rfl) (by kernel_rfl) (fun x=>by kernel_rfl)
def ψ1P.sig:Sig:=⟨[.val (.sl false tyP)],[.val (.sl true tyP)]⟩
def ψ1P.ctr:Ctr:=⟨ψ1P.sig,fun x=>ψ1P.f x⟩
def ψ1P.env:Env:=[]
def ψ1P.ann:Ann:=⟨[],[],[]⟩
theorem ψ1P.ok:φ4 Tryz.prog 120 ψ1P.ctr:=fS (A:=ψ1P.ann) φ5.nil Tryz.func120 (by kernel_rfl) (by kernel_rfl) (fun x=>by kernel_rfl)
def ψ1R.sig:Sig:=⟨[.val (.pair .bool (.pair (.sl false (.pair .str tyI)) (.sl false tyP)))],[.val (.pair .bool (.pair (.sl true (.pair .str tyI)) (.sl true tyP)))]⟩
def ψ1R.ctr:Ctr:=⟨ψ1R.sig,fun x=>ψ1R.f x⟩
def ψ1R.env:Env:=[(120,[ψ1P.ctr])]
def ψ1R.ann:Ann:=⟨[],[],[]⟩
theorem ψ1R.ok:φ4 Tryz.prog 86 ψ1R.ctr:=fS (A:=ψ1R.ann) (eC ψ1P.ok φ5.nil) Tryz.func86 (by kernel_rfl) (by kernel_rfl) (fun x=>by kernel_rfl)
def ψ1S.sig:Sig:=⟨[.val (.sl false (.pair .bool (.pair (.sl false (.pair .str tyI)) (.sl false tyP))))],[.val (.sl true (.pair .bool (.pair (.sl true (.pair .str tyI)) (.sl true tyP))))]⟩
def ψ1S.ctr:Ctr:=⟨ψ1S.sig,fun x=>ψ1S.f x⟩
def ψ1S.env:Env:=[(86,[ψ1R.ctr])]
def ψ1S.ann:Ann:=⟨[(0,([(3,.val (.sl true (.pair .bool (.pair (.sl true (.pair .str tyI)) (.sl true tyP))))),(6,.val (.sl false (.pair .bool (.pair (.sl false (.pair .str tyI)) (.sl false tyP))))),(7,.val tyI),(8,.val tyI)],[(.exit 0,[(3,.val (.sl true (.pair .bool (.pair (.sl true (.pair .str tyI)) (.sl true tyP)))))])]))],[],[]⟩
theorem ψ1S.ok:φ4 Tryz.prog 59 ψ1S.ctr:=fS (A:=ψ1S.ann) (eC ψ1R.ok φ5.nil) Tryz.func59 (by kernel_rfl) (by kernel_rfl) (fun x=>by kernel_rfl)
def ψ1N.sig:Sig:=⟨[.val (.pair .bool (.pair tys (.pair tyd (.sl false (.pair .bool (.pair (.sl false (.pair .str tyI)) (.sl false tyP)))))))],[.val (.pair .bool (.pair tyS (.pair tyD (.sl true (.pair .bool (.pair (.sl true (.pair .str tyI)) (.sl true tyP)))))))]⟩
def ψ1N.ctr:Ctr:=⟨ψ1N.sig,fun x=>ψ1N.f x⟩
def ψ1N.env:Env:=[(53,[ψ1M.ctr]),(58,[ψ1Q.ctr]),(59,[ψ1S.ctr])]
def ψ1N.ann:Ann:=⟨[],[],[]⟩
theorem ψ1N.ok:φ4 Tryz.prog 36 ψ1N.ctr:=fS (A:=ψ1N.ann) (eC ψ1M.ok (eC ψ1Q.ok (eC ψ1S.ok φ5.nil))) Tryz.func36 (by kernel_rfl) (by kernel_rfl) (fun x=>by kernel_rfl)
def ψ9.sig:Sig:=⟨[.val (.sl false tyE)],[.val (.sl true .str)]⟩
def ψ9.ctr:Ctr:=⟨ψ9.sig,fun x=>ψ9.f x⟩
def ψ9.env:Env:=[]
def ψ9.ann:Ann:=⟨[(0,([(3,.val (.sl true .str)),(6,.val (.sl false tyE)),(7,.val tyI),(8,.val tyI)],[(.exit 0,[(3,.val (.sl true .str))])]))],[],[]⟩
theorem ψ9.ok:φ4 Tryz.prog 55 ψ9.ctr:=fS (A:=ψ9.ann) φ5.nil Tryz.func55 (by kernel_rfl) (by kernel_rfl) (fun x=>by kernel_rfl)
def ψ8.sig:Sig:=⟨[.val (.sl false tyE),.val .str],[.val tyE,.val .bool]⟩
def ψ8.ctr:Ctr:=⟨ψ8.sig,fun x=>ψ8.f x.1 x.2⟩
def ψ8.env:Env:=[]
def ψ8.ann:Ann:=⟨[(0,([(1,.val .str),(4,.ptr tyE),(8,.val (.sl false tyE)),(9,.val tyI),(10,.val tyI)],[(.exit 0,[(4,.ptr tyE)]),(.ret,[(4,.ptr tyE),(5,.val .bool)])]))],[],[]⟩
theorem ψ8.ok:φ4 Tryz.prog 81 ψ8.ctr:=fS (A:=ψ8.ann) φ5.nil Tryz.func81 (by kernel_rfl) (by kernel_rfl) (fun x=>by kernel_rfl)
def ψp.sig:Sig:=⟨[.val .str,.val tyI,.val tyI],[.val tyR,.val .bool]⟩
def ψp.ctr:Ctr:=⟨ψp.sig,fun x=>ψp.f x.1 x.2.1 x.2.2⟩
def ψp.env:Env:=[(25,[ψ1Z.ctr]),(118,[ψ1G.ctr]),(119,[ψn.ctr])]
def ψp.ann:Ann:=⟨[],[],[]⟩
theorem ψp.ok:φ4 Tryz.prog 83 ψp.ctr:=fS (A:=ψp.ann) (eC ψ1Z.ok (eC ψ1G.ok (eC ψn.ok φ5.nil))) Tryz.func83 (by kernel_rfl) (by kernel_rfl) (fun x=>by kernel_rfl)
def ψT.sig:Sig:=⟨[.val tys,.val tyd,.val .str],[.val tyF,.val tyI]⟩
def ψT.ctr:Ctr:=⟨ψT.sig,fun x=>ψT.f x.1 x.2.1 x.2.2⟩
def ψT.env:Env:=[(77,[ψQ.ctr]),(81,[ψ8.ctr]),(82,[ψz.ctr]),(83,[ψp.ctr])]
def ψT.ann:Ann:=⟨[],[],[]⟩
theorem ψT.ok:φ4 Tryz.prog 56 ψT.ctr:=fS (A:=ψT.ann) (eC ψQ.ok (eC ψ8.ok (eC ψz.ok (eC ψp.ok φ5.nil)))) Tryz.func56 (by kernel_rfl) (by kernel_rfl) (fun x=>by kernel_rfl)
def ψG.sig:Sig:=⟨[.val tys,.val tyd],[.val (.sl true tyF),.val tyI]⟩
def ψG.ctr:Ctr:=⟨ψG.sig,fun x=>ψG.f x.1 x.2⟩
def ψG.env:Env:=[(55,[ψ9.ctr]),(56,[ψT.ctr])]
def ψG.ann:Ann:=⟨[(0,([(2,.ptr tys),(3,.ptr tyd),(6,.val (.sl true tyF)),(13,.val (.sl true .str)),(14,.val tyI),(15,.val tyI)],[(.exit 0,[(6,.val (.sl true tyF))]),(.ret,[(4,.val (.sl true tyF)),(5,.val tyI)])]))],[],[]⟩
theorem ψG.ok:φ4 Tryz.prog 30 ψG.ctr:=fS (A:=ψG.ann) (eC ψ9.ok (eC ψT.ok φ5.nil)) Tryz.func30 (by kernel_rfl) (by kernel_rfl) (fun x=>by kernel_rfl)
def ψ13.sig:Sig:=⟨[.val tys,.val tyd],[.val .bool]⟩
def ψ13.ctr:Ctr:=⟨ψ13.sig,fun x=>ψ13.f x.1 x.2⟩
def ψ13.env:Env:=[(25,[ψ1Z.ctr]),(47,[ψD.ctr]),(77,[ψQ.ctr]),(82,[ψz.ctr]),(83,[ψp.ctr]),(121,[ψa.ctr]),(122,[ψA.ctr]),(123,[ψy.ctr])]
def ψ13.ann:Ann:=⟨[(0,([(2,.ptr tys),(3,.ptr tyd),(40,.val (.sl false tyI)),(41,.val tyI),(42,.val tyI)],[(.exit 0,[(2,.ptr tys),(3,.ptr tyd)]),(.ret,[(4,.val .bool)])])),(2,([(2,.ptr tys),(3,.ptr tyd),(84,.val (.sl false tyE)),(85,.val tyI),(86,.val tyI)],[(.exit 2,[]),(.ret,[(4,.val .bool)])]))],[],[(8,[(.normal,[(2,.ptr tys),(3,.ptr tyd),(40,.val (.sl false tyI)),(41,.val tyI),(42,.val tyI)]),(.ret,[(4,.val .bool)])]),(16,[(.normal,[(2,.ptr tys),(3,.ptr tyd),(84,.val (.sl false tyE)),(85,.val tyI),(86,.val tyI)]),(.ret,[(4,.val .bool)])])]⟩
theorem ψ13.ok:φ4 Tryz.prog 87 ψ13.ctr:=fS (A:=ψ13.ann) (eC ψ1Z.ok (eC ψD.ok (eC ψQ.ok (eC ψz.ok (eC ψp.ok (eC ψa.ok (eC ψA.ok (eC ψy.ok φ5.nil)))))))) Tryz.func87 (by kernel_rfl) (by kernel_rfl) (fun x=>by kernel_rfl)
def ψ2F.sig:Sig:=⟨[.ptr (.pair tyD tyI),.val tyI,.val (.sl false tyR)],[.val (.sl true tyE)]⟩
def ψ2F.ctr:Ctr:=⟨ψ2F.sig,fun x=>ψ2F.f x.1 x.2.1 x.2.2⟩
def ψ2F.env:Env:=[(82,[ψz.ctr]),(110,[ψ2C.ctr]),(162,[ψS.ctr]),(167,[ψ1z.ctr]),(168,[ψ12.ctr]),(169,[ψ28.ctr])]
def ψ2F.ann:Ann:=⟨[(0,([(0,.ptr (.pair tyD tyI)),(1,.val tyI),(7,.val (.sl true tyE)),(8,.val tyI),(16,.val (.sl false tyR)),(17,.val tyI),(18,.val tyI)],[(.exit 0,[(0,.ptr (.pair tyD tyI)),(1,.val tyI),(7,.val (.sl true tyE))])]))],[],[(9,[(.normal,[(0,.ptr (.pair tyD tyI)),(1,.val tyI),(7,.val (.sl true tyE)),(8,.val tyI),(11,.val .str),(16,.val (.sl false tyR)),(17,.val tyI),(18,.val tyI)])])]⟩
theorem ψ2F.ok:φ4 Tryz.prog 124 ψ2F.ctr:=fS (A:=ψ2F.ann) (eC ψz.ok (eC ψ2C.ok (eC ψS.ok (eC ψ1z.ok (eC ψ12.ok (eC ψ28.ok φ5.nil)))))) Tryz.func124 (by kernel_rfl) (by kernel_rfl) (fun x=>by kernel_rfl)
def ψ1a.sig:Sig:=⟨[.val (.sl false tyF),.val tyI],[.val (.sl true tyR)]⟩
def ψ1a.ctr:Ctr:=⟨ψ1a.sig,fun x=>ψ1a.f x.1 x.2⟩
def ψ1a.env:Env:=[(170,[ψ19.ctr])]
def ψ1a.ann:Ann:=⟨[(0,([(0,.val (.sl false tyF)),(1,.val tyI),(5,.val (.sl true tyR)),(8,.val (.sl false tyF)),(9,.val tyI),(10,.val tyI)],[(.exit 0,[(0,.val (.sl false tyF)),(1,.val tyI),(5,.val (.sl true tyR))])]))],[],[]⟩
theorem ψ1a.ok:φ4 Tryz.prog 125 ψ1a.ctr:=fS (A:=ψ1a.ann) (eC ψ19.ok φ5.nil) Tryz.func125 (by kernel_rfl) (by kernel_rfl) (fun x=>by kernel_rfl)
def ψ2E.sig:Sig:=⟨[.ptr (.pair tyD tyI),.val tyI],[]⟩
def ψ2E.ctr:Ctr:=⟨ψ2E.sig,fun x=>ψ2E.f x.1 x.2⟩
def ψ2E.env:Env:=[(77,[ψQ.ctr]),(82,[ψz.ctr]),(128,[ψW.ctr]),(129,[ψ25.ctr]),(157,[ψ22.ctr]),(171,[ψX.ctr]),(172,[ψ10.ctr])]
def ψ2E.ann:Ann:=⟨[],[],[]⟩
theorem ψ2E.ok:φ4 Tryz.prog 126 ψ2E.ctr:=fS (A:=ψ2E.ann) (eC ψQ.ok (eC ψz.ok (eC ψW.ok (eC ψ25.ok (eC ψ22.ok (eC ψX.ok (eC ψ10.ok φ5.nil))))))) Tryz.func126 (by kernel_rfl) (by kernel_rfl) (fun x=>by kernel_rfl)
def ψ20.sig:Sig:=⟨[.ptr (.pair tyD tyI),.val (.sl false .str)],[]⟩
def ψ20.ctr:Ctr:=⟨ψ20.sig,fun x=>ψ20.f x.1 x.2⟩
def ψ20.env:Env:=[(129,[ψ25.ctr])]
def ψ20.ann:Ann:=⟨[(0,([(0,.ptw (.pair tyD tyI)),(4,.ptr (.pair tyD tyI)),(18,.val (.sl false .str)),(19,.val tyI),(20,.val tyI)],[(.exit 0,[(0,.ptw (.pair tyD tyI)),(4,.ptr (.pair tyD tyI))])]))],[],[]⟩
theorem ψ20.ok:φ4 Tryz.prog 127 ψ20.ctr:=fS (A:=ψ20.ann) (eC ψ25.ok φ5.nil) Tryz.func127 (by kernel_rfl) (by kernel_rfl) (fun x=>by kernel_rfl)
def ψ17.sig:Sig:=⟨[.ptr tyS,.ptr (.pair tyD tyI),.val (.sl false tyF)],[]⟩
def ψ17.ctr:Ctr:=⟨ψ17.sig,fun x=>ψ17.f x.1 x.2.1 x.2.2⟩
def ψ17.env:Env:=[(82,[ψz.ctr]),(115,[ψ29.ctr]),(124,[ψ2F.ctr]),(125,[ψ1a.ctr]),(126,[ψ2E.ctr]),(127,[ψ20.ctr]),(128,[ψW.ctr]),(129,[ψ25.ctr])]
def ψ17.ann:Ann:=⟨[(0,([(0,.ptr tyS),(1,.ptr (.pair tyD tyI)),(85,.val (.sl true tyI)),(86,.val tyI),(87,.val tyI)],[(.exit 0,[(0,.ptr tyS),(1,.ptr (.pair tyD tyI))])]))],[],[(5,[(.normal,[(0,.ptr tyS),(1,.ptr (.pair tyD tyI)),(6,.val tyI),(7,.val (.sl true tyE)),(8,.ptr (.pair tyI (.sl true tyI)))])])]⟩
theorem ψ17.ok:φ4 Tryz.prog 88 ψ17.ctr:=fS (A:=ψ17.ann) (eC ψz.ok (eC ψ29.ok (eC ψ2F.ok (eC ψ1a.ok (eC ψ2E.ok (eC ψ20.ok (eC ψW.ok (eC ψ25.ok φ5.nil)))))))) Tryz.func88 (by kernel_rfl) (by kernel_rfl) (fun x=>by kernel_rfl)
def ψb.sig:Sig:=⟨[.val tys,.val tyd],[.val tyS,.val tyD,.val tyI]⟩
def ψb.ctr:Ctr:=⟨ψb.sig,fun x=>ψb.f x.1 x.2⟩
def ψb.env:Env:=[(30,[ψG.ctr]),(53,[ψ1M.ctr]),(58,[ψ1Q.ctr]),(87,[ψ13.ctr]),(88,[ψ17.ctr])]
def ψb.ann:Ann:=⟨[],[],[]⟩
theorem ψb.ok:φ4 Tryz.prog 60 ψb.ctr:=fS (A:=ψb.ann) (eC ψG.ok (eC ψ1M.ok (eC ψ1Q.ok (eC ψ13.ok (eC ψ17.ok φ5.nil))))) Tryz.func60 (by kernel_rfl) (by kernel_rfl) (fun x=>by kernel_rfl)
def ψ1d.sig:Sig:=⟨[.val (.sl false tyP)],[.val (.sl true tyP)]⟩
def ψ1d.ctr:Ctr:=⟨ψ1d.sig,fun x=>ψ1d.f x⟩
def ψ1d.env:Env:=[]
def ψ1d.ann:Ann:=⟨[(2,([(3,.val (.sl true tyP)),(5,.ptr tyP),(6,.val tyI),(9,.val (.sl false tyP)),(10,.val tyI),(11,.val tyI),(15,.dup 3),(16,.val tyI),(17,.val tyI)],[(.exit 2,[(3,.val (.sl true tyP)),(5,.ptr tyP),(6,.val tyI),(9,.val (.sl false tyP)),(10,.val tyI),(11,.val tyI)])])),(0,([(3,.val (.sl true tyP)),(9,.val (.sl false tyP)),(10,.val tyI),(11,.val tyI)],[(.exit 0,[(3,.val (.sl true tyP))])]))],[],[(9,[(.normal,[(3,.val (.sl true tyP)),(5,.ptr tyP),(6,.val tyI),(9,.val (.sl false tyP)),(10,.val tyI),(11,.val tyI),(15,.dup 3),(16,.val tyI),(17,.val tyI)])]),(12,[(.normal,[(3,.val (.sl true tyP)),(9,.val (.sl false tyP)),(10,.val tyI),(11,.val tyI)])])]⟩
theorem ψ1d.ok:φ4 Tryz.prog 116 ψ1d.ctr:=fS (A:=ψ1d.ann) φ5.nil Tryz.func116 (by kernel_rfl) (by kernel_rfl) (fun x=>by kernel_rfl)
def ψd.sig:Sig:=⟨[.val (.pair .bool (.pair (.sl false (.pair .str tyI)) (.sl false tyP)))],[.val (.sl true tyP)]⟩
def ψd.ctr:Ctr:=⟨ψd.sig,fun x=>ψd.f x⟩
def ψd.env:Env:=[(116,[ψ1d.ctr])]
def ψd.ann:Ann:=⟨[],[],[]⟩
theorem ψd.ok:φ4 Tryz.prog 80 ψd.ctr:=fS (A:=ψd.ann) (eC ψ1d.ok φ5.nil) Tryz.func80 (by kernel_rfl) (by kernel_rfl) (fun x=>by kernel_rfl)
def ψ1w.sig:Sig:=⟨[.val (.sl false (.pair .bool (.pair (.sl false (.pair .str tyI)) (.sl false tyP)))),.val (.pair tyI (.pair tyI tyF))],[.val .bool]⟩
def ψ1w.ctr:Ctr:=⟨ψ1w.sig,fun x=>ψ1w.f x.1 x.2⟩
def ψ1w.env:Env:=[(25,[ψ1Z.ctr])]
def ψ1w.ann:Ann:=⟨[],[],[]⟩
theorem ψ1w.ok:φ4 Tryz.prog 89 ψ1w.ctr:=fS (A:=ψ1w.ann) (eC ψ1Z.ok φ5.nil) Tryz.func89 (by kernel_rfl) (by kernel_rfl) (fun x=>by kernel_rfl)
def ψg.sig:Sig:=⟨[.val (.pair .bool (.pair (.sl false (.pair .str tyI)) (.sl false tyP))),.val .str],[.val tyP,.val .bool]⟩
def ψg.ctr:Ctr:=⟨ψg.sig,fun x=>ψg.f x.1 x.2⟩
def ψg.env:Env:=[]
def ψg.ann:Ann:=⟨[(0,([(1,.val .str),(2,.ptr (.pair .bool (.pair (.sl false (.pair .str tyI)) (.sl false tyP)))),(4,.ptr tyP),(6,.val tyI)],[(.exit 0,[(4,.ptr tyP)]),(.ret,[(4,.ptr tyP),(5,.val .bool)])]))],[],[]⟩
theorem ψg.ok:φ4 Tryz.prog 174 ψg.ctr:=fS (A:=ψg.ann) φ5.nil Tryz.func174 (by kernel_rfl) (by kernel_rfl) (fun x=>by kernel_rfl)
def ψ1f.sig:Sig:=⟨[.val (.pair .bool (.pair (.sl false (.pair .str tyI)) (.sl false tyP))),.val .str],[.val (.pair tyI (.pair .str (.sl true .str))),.val .bool]⟩
def ψ1f.ctr:Ctr:=⟨ψ1f.sig,fun x=>ψ1f.f x.1 x.2⟩
def ψ1f.env:Env:=[(174,[ψg.ctr])]
def ψ1f.ann:Ann:=⟨[],[],[]⟩
theorem ψ1f.ok:φ4 Tryz.prog 131 ψ1f.ctr:=fS (A:=ψ1f.ann) (eC ψg.ok φ5.nil) Tryz.func131 (by kernel_rfl) (by kernel_rfl) (fun x=>by kernel_rfl)
def ψ1E.sig:Sig:=⟨[.val (.pair .bool (.pair (.sl false (.pair .str tyI)) (.sl false tyP))),.val .str,.val tyI],[.val (.pair .bool (.pair (.sl true (.pair .str tyI)) (.sl true tyP))),.val tyI]⟩
def ψ1E.ctr:Ctr:=⟨ψ1E.sig,fun x=>ψ1E.f x.1 x.2.1 x.2.2⟩
def ψ1E.env:Env:=[(86,[ψ1R.ctr]),(130,[ψZ.ctr])]
def ψ1E.ann:Ann:=⟨[(0,([(1,.val .str),(2,.val tyI),(3,.ptr (.pair .bool (.pair (.sl false (.pair .str tyI)) (.sl false tyP)))),(6,.ptr (.pair .bool (.pair (.sl true (.pair .str tyI)) (.sl true tyP)))),(8,.ptr (.pair .bool (.pair (.sl true (.pair .str tyI)) (.sl true tyP)))),(9,.val .bool),(24,.val (.sl false (.pair .str tyI))),(25,.val tyI),(26,.val tyI)],[(.exit 0,[(1,.val .str),(2,.val tyI),(3,.ptr (.pair .bool (.pair (.sl false (.pair .str tyI)) (.sl false tyP)))),(6,.ptr (.pair .bool (.pair (.sl true (.pair .str tyI)) (.sl true tyP)))),(8,.ptr (.pair .bool (.pair (.sl true (.pair .str tyI)) (.sl true tyP)))),(9,.val .bool)]),(.ret,[(6,.ptr (.pair .bool (.pair (.sl true (.pair .str tyI)) (.sl true tyP)))),(7,.val tyI)])]))],[(1,[(.normal,[(1,.val .str),(2,.val tyI),(3,.ptr (.pair .bool (.pair (.sl false (.pair .str tyI)) (.sl false tyP)))),(6,.ptr (.pair .bool (.pair (.sl true (.pair .str tyI)) (.sl true tyP)))),(8,.ptr (.pair .bool (.pair (.sl true (.pair .str tyI)) (.sl true tyP)))),(9,.val .bool),(24,.val (.sl false (.pair .str tyI))),(25,.val tyI),(26,.val tyI)]),(.ret,[(6,.ptr (.pair .bool (.pair (.sl true (.pair .str tyI)) (.sl true tyP)))),(7,.val tyI)])])],[]⟩
theorem ψ1E.ok:φ4 Tryz.prog 175 ψ1E.ctr:=fS (A:=ψ1E.ann) (eC ψ1R.ok (eC ψZ.ok φ5.nil)) Tryz.func175 (by kernel_rfl) (by kernel_rfl) (fun x=>by kernel_rfl)
def ψ1j.sig:Sig:=⟨[.val (.pair .bool (.pair (.sl false (.pair .str tyI)) (.sl false tyP))),.val .str,.val tyF,.val tyI],[.val (.pair .bool (.pair (.sl true (.pair .str tyI)) (.sl true tyP))),.val (.pair tyI (.pair .str (.sl true .str)))]⟩
def ψ1j.ctr:Ctr:=⟨ψ1j.sig,fun x=>ψ1j.f x.1 x.2.1 x.2.2.1 x.2.2.2⟩
def ψ1j.env:Env:=[(175,[ψ1E.ctr])]
def ψ1j.ann:Ann:=⟨[],[],[]⟩
theorem ψ1j.ok:φ4 Tryz.prog 132 ψ1j.ctr:=fS (A:=ψ1j.ann) (eC ψ1E.ok φ5.nil) Tryz.func132 (by kernel_rfl) (by kernel_rfl) (fun x=>by kernel_rfl)
def ψL.sig:Sig:=⟨[.ptr (.pair (.pair .bool (.pair tyS (.pair tyD (.sl true (.pair .bool (.pair (.sl true (.pair .str tyI)) (.sl true tyP))))))) (.pair (.sl true (.pair tyI (.pair .str (.sl true .str)))) (.pair (.sl true (.pair tyI (.sl true tyP))) (.sl true tyP)))),.val (.pair tyI (.pair tyI tyF))],[.val (.pair tyI (.pair .str (.sl true .str)))]⟩
def ψL.ctr:Ctr:=⟨ψL.sig,fun x=>ψL.f x.1 x.2⟩
def ψL.env:Env:=[(56,[ψT.ctr]),(130,[ψZ.ctr]),(131,[ψ1f.ctr]),(132,[ψ1j.ctr])]
def ψL.ann:Ann:=⟨[],[],[]⟩
theorem ψL.ok:φ4 Tryz.prog 90 ψL.ctr:=fS (A:=ψL.ann) (eC ψT.ok (eC ψZ.ok (eC ψ1f.ok (eC ψ1j.ok φ5.nil)))) Tryz.func90 (by kernel_rfl) (by kernel_rfl) (fun x=>by kernel_rfl)
def ψ1i.sig:Sig:=⟨[.val tyP],[.val .bool]⟩
def ψ1i.ctr:Ctr:=⟨ψ1i.sig,fun x=>ψ1i.f x⟩
def ψ1i.env:Env:=[(130,[ψZ.ctr])]
def ψ1i.ann:Ann:=⟨[],[],[]⟩
theorem ψ1i.ok:φ4 Tryz.prog 134 ψ1i.ctr:=fS (A:=ψ1i.ann) (eC ψZ.ok φ5.nil) Tryz.func134 (by kernel_rfl) (by kernel_rfl) (fun x=>by kernel_rfl)
def ψ1F.sig:Sig:=⟨[.val (.pair .bool (.pair (.sl false (.pair .str tyI)) (.sl false tyP))),.val tyP],[.val (.pair .bool (.pair (.sl true (.pair .str tyI)) (.sl true tyP))),.val .bool]⟩
def ψ1F.ctr:Ctr:=⟨ψ1F.sig,fun x=>ψ1F.f x.1 x.2⟩
def ψ1F.env:Env:=[(80,[ψd.ctr]),(86,[ψ1R.ctr]),(134,[ψ1i.ctr])]
def ψ1F.ann:Ann:=⟨[],[],[]⟩
theorem ψ1F.ok:φ4 Tryz.prog 133 ψ1F.ctr:=fS (A:=ψ1F.ann) (eC ψd.ok (eC ψ1R.ok (eC ψ1i.ok φ5.nil))) Tryz.func133 (by kernel_rfl) (by kernel_rfl) (fun x=>by kernel_rfl)
def ψ2G.sig:Sig:=⟨[.val (.pair .bool (.pair (.sl false (.pair .str tyI)) (.sl false tyP))),.val (.pair tyI (.pair tyI tyF))],[.val (.pair .bool (.pair (.sl true (.pair .str tyI)) (.sl true tyP))),.val (.pair tyI (.pair .str (.sl true .str)))]⟩
def ψ2G.ctr:Ctr:=⟨ψ2G.sig,fun x=>ψ2G.f x.1 x.2⟩
def ψ2G.env:Env:=[(133,[ψ1F.ctr]),(134,[ψ1i.ctr])]
def ψ2G.ann:Ann:=⟨[],[],[]⟩
theorem ψ2G.ok:φ4 Tryz.prog 91 ψ2G.ctr:=fS (A:=ψ2G.ann) (eC ψ1F.ok (eC ψ1i.ok φ5.nil)) Tryz.func91 (by kernel_rfl) (by kernel_rfl) (fun x=>by kernel_rfl)
def ψ1I.sig:Sig:=⟨[.val (.pair .bool (.pair (.sl false (.pair .str tyI)) (.sl false tyP))),.val (.sl false tyE)],[.val .bool]⟩
def ψ1I.ctr:Ctr:=⟨ψ1I.sig,fun x=>ψ1I.f x.1 x.2⟩
def ψ1I.env:Env:=[(81,[ψ8.ctr])]
def ψ1I.ann:Ann:=⟨[(0,([(1,.val (.sl false tyE)),(10,.val (.sl false (.pair .str tyI))),(11,.val tyI),(12,.val tyI)],[(.exit 0,[]),(.ret,[(4,.val .bool)])]))],[],[]⟩
theorem ψ1I.ok:φ4 Tryz.prog 92 ψ1I.ctr:=fS (A:=ψ1I.ann) (eC ψ8.ok φ5.nil) Tryz.func92 (by kernel_rfl) (by kernel_rfl) (fun x=>by kernel_rfl)
def ψi.sig:Sig:=⟨[.val (.sl false tyP)],[.val .bool]⟩
def ψi.ctr:Ctr:=⟨ψi.sig,fun x=>ψi.f x⟩
def ψi.env:Env:=[(134,[ψ1i.ctr])]
def ψi.ann:Ann:=⟨[(0,([(0,.val (.sl false tyP)),(5,.val (.sl false tyP)),(6,.val tyI),(7,.val tyI)],[(.exit 0,[(0,.val (.sl false tyP))]),(.ret,[(2,.val .bool)])]))],[],[]⟩
theorem ψi.ok:φ4 Tryz.prog 135 ψi.ctr:=fS (A:=ψi.ann) (eC ψ1i.ok φ5.nil) Tryz.func135 (by kernel_rfl) (by kernel_rfl) (fun x=>by kernel_rfl)
def ψ1T.sig:Sig:=⟨[.val (.sl false tyE),.val (.sl false tyP),.val (.sl false tyE)],[.val (.sl false tyE)]⟩
def ψ1T.ctr:Ctr:=⟨ψ1T.sig,fun x=>ψ1T.f x.1 x.2.1 x.2.2⟩
def ψ1T.env:Env:=[(183,[ψ7.ctr]),(184,[ψB.ctr])]
def ψ1T.ann:Ann:=⟨[(0,([(0,.val (.sl false tyE)),(2,.val (.sl false tyE)),(9,.val (.sl false tyP)),(10,.val tyI),(11,.val tyI)],[(.exit 0,[(0,.val (.sl false tyE))])]))],[],[(4,[(.normal,[(0,.val (.sl true tyE)),(2,.val (.sl false tyE)),(9,.val (.sl false tyP)),(10,.val tyI),(11,.val tyI)])])]⟩
theorem ψ1T.ok:φ4 Tryz.prog 176 ψ1T.ctr:=fS (A:=ψ1T.ann) (eC ψ7.ok (eC ψB.ok φ5.nil)) Tryz.func176 (by kernel_rfl) (by kernel_rfl) (fun x=>by kernel_rfl)
def ψ1b.sig:Sig:=⟨[.val (.sl false tyE),.val (.sl false tyP)],[.val tyI]⟩
def ψ1b.ctr:Ctr:=⟨ψ1b.sig,fun x=>ψ1b.f x.1 x.2⟩
def ψ1b.env:Env:=[(176,[ψ1T.ctr])]
def ψ1b.ann:Ann:=⟨[(0,([(0,.val (.sl false tyE)),(1,.val (.sl false tyP)),(5,.val (.sl true tyE)),(8,.val (.sl false tyP)),(9,.val tyI),(10,.val tyI)],[(.exit 0,[(0,.val (.sl false tyE)),(1,.val (.sl false tyP)),(5,.val (.sl true tyE))])]))],[],[]⟩
theorem ψ1b.ok:φ4 Tryz.prog 136 ψ1b.ctr:=fS (A:=ψ1b.ann) (eC ψ1T.ok φ5.nil) Tryz.func136 (by kernel_rfl) (by kernel_rfl) (fun x=>by kernel_rfl)
def ψ1U.sig:Sig:=⟨[.val (.sl true tyE),.val (.sl false tyP),.val (.sl false tyE)],[.val (.sl true tyE)]⟩
def ψ1U.ctr:Ctr:=⟨ψ1U.sig,fun x=>ψ1U.f x.1 x.2.1 x.2.2⟩
def ψ1U.env:Env:=[(183,[ψ7.ctr]),(184,[ψB.ctr])]
def ψ1U.ann:Ann:=⟨[(0,([(0,.val (.sl true tyE)),(2,.val (.sl false tyE)),(9,.val (.sl false tyP)),(10,.val tyI),(11,.val tyI)],[(.exit 0,[(0,.val (.sl true tyE))])]))],[],[(4,[(.normal,[(0,.val (.sl true tyE)),(2,.val (.sl false tyE)),(9,.val (.sl false tyP)),(10,.val tyI),(11,.val tyI)])])]⟩
theorem ψ1U.ok:φ4 Tryz.prog 176 ψ1U.ctr:=fS (A:=ψ1U.ann) (eC ψ7.ok (eC ψB.ok φ5.nil)) Tryz.func176 (by kernel_rfl) (by kernel_rfl) (fun x=>by kernel_rfl)
def ψ1k.sig:Sig:=⟨[.val (.sl false tyP),.val tyI],[.val (.sl true tyR)]⟩
def ψ1k.ctr:Ctr:=⟨ψ1k.sig,fun x=>ψ1k.f x.1 x.2⟩
def ψ1k.env:Env:=[(170,[ψ19.ctr])]
def ψ1k.ann:Ann:=⟨[(0,([(0,.val (.sl false tyP)),(1,.val tyI),(5,.val (.sl true tyR)),(8,.val (.sl false tyP)),(9,.val tyI),(10,.val tyI)],[(.exit 0,[(0,.val (.sl false tyP)),(1,.val tyI),(5,.val (.sl true tyR))])]))],[],[(5,[(.normal,[(0,.val (.sl false tyP)),(1,.val tyI),(5,.val (.sl true tyR)),(8,.val (.sl false tyP)),(9,.val tyI),(10,.val tyI)])])]⟩
theorem ψ1k.ok:φ4 Tryz.prog 177 ψ1k.ctr:=fS (A:=ψ1k.ann) (eC ψ19.ok φ5.nil) Tryz.func177 (by kernel_rfl) (by kernel_rfl) (fun x=>by kernel_rfl)
def ψ14.sig:Sig:=⟨[.ptr tyS],[.val .str]⟩
def ψ14.ctr:Ctr:=⟨ψ14.sig,fun x=>ψ14.f x⟩
def ψ14.env:Env:=[(82,[ψz.ctr])]
def ψ14.ann:Ann:=⟨[],[],[]⟩
theorem ψ14.ok:φ4 Tryz.prog 179 ψ14.ctr:=fS (A:=ψ14.ann) (eC ψz.ok φ5.nil) Tryz.func179 (by kernel_rfl) (by kernel_rfl) (fun x=>by kernel_rfl)
def ψ18.sig:Sig:=⟨[.ptr tyS,.ptr (.pair tyD tyI)],[]⟩
def ψ18.ctr:Ctr:=⟨ψ18.sig,fun x=>ψ18.f x.1 x.2⟩
def ψ18.env:Env:=[(82,[ψz.ctr]),(84,[ψ1O.ctr]),(110,[ψ2C.ctr]),(115,[ψ29.ctr]),(127,[ψ20.ctr]),(167,[ψ1z.ctr]),(179,[ψ14.ctr])]
def ψ18.ann:Ann:=⟨[],[],[]⟩
theorem ψ18.ok:φ4 Tryz.prog 199 ψ18.ctr:=fS (A:=ψ18.ann) (eC ψz.ok (eC ψ1O.ok (eC ψ2C.ok (eC ψ29.ok (eC ψ20.ok (eC ψ1z.ok (eC ψ14.ok φ5.nil))))))) Tryz.func199 (by kernel_rfl) (by kernel_rfl) (fun x=>by kernel_rfl)
def ψ15.sig:Sig:=⟨[.ptr tyS,.ptr (.pair tyD tyI),.val tyR],[.val tyE]⟩
def ψ15.ctr:Ctr:=⟨ψ15.sig,fun x=>ψ15.f x.1 x.2.1 x.2.2⟩
def ψ15.env:Env:=[(162,[ψS.ctr]),(168,[ψ12.ctr]),(169,[ψ28.ctr]),(179,[ψ14.ctr]),(199,[ψ18.ctr])]
def ψ15.ann:Ann:=⟨[],[],[(2,[(.normal,[(0,.ptr tyS),(1,.ptr (.pair tyD tyI)),(5,.ptr tyR),(6,.ptr tyE),(7,.val .str)])])]⟩
theorem ψ15.ok:φ4 Tryz.prog 178 ψ15.ctr:=fS (A:=ψ15.ann) (eC ψS.ok (eC ψ12.ok (eC ψ28.ok (eC ψ14.ok (eC ψ18.ok φ5.nil))))) Tryz.func178 (by kernel_rfl) (by kernel_rfl) (fun x=>by kernel_rfl)
def ψ16.sig:Sig:=⟨[.ptr tyS,.ptr (.pair tyD tyI),.val (.sl false tyP)],[]⟩
def ψ16.ctr:Ctr:=⟨ψ16.sig,fun x=>ψ16.f x.1 x.2.1 x.2.2⟩
def ψ16.env:Env:=[(110,[ψ2C.ctr]),(176,[ψ1U.ctr]),(177,[ψ1k.ctr]),(178,[ψ15.ctr]),(179,[ψ14.ctr])]
def ψ16.ann:Ann:=⟨[(0,([(0,.ptr tyS),(1,.ptr (.pair tyD tyI)),(2,.val (.sl false tyP)),(7,.val (.sl true tyE)),(24,.val (.sl true tyR)),(25,.val tyI),(26,.val tyI)],[(.exit 0,[(0,.ptr tyS),(1,.ptr (.pair tyD tyI)),(2,.val (.sl false tyP)),(7,.val (.sl true tyE))]),(.ret,[(0,.ptr tyS),(1,.ptr (.pair tyD tyI))])]))],[],[]⟩
theorem ψ16.ok:φ4 Tryz.prog 137 ψ16.ctr:=fS (A:=ψ16.ann) (eC ψ2C.ok (eC ψ1U.ok (eC ψ1k.ok (eC ψ15.ok (eC ψ14.ok φ5.nil))))) Tryz.func137 (by kernel_rfl) (by kernel_rfl) (fun x=>by kernel_rfl)
def ψ2.sig:Sig:=⟨[.val tys,.val tyd,.val (.sl false tyP)],[.val tyS,.val tyD,.val tyI]⟩
def ψ2.ctr:Ctr:=⟨ψ2.sig,fun x=>ψ2.f x.1 x.2.1 x.2.2⟩
def ψ2.env:Env:=[(53,[ψ1M.ctr]),(58,[ψ1Q.ctr]),(87,[ψ13.ctr]),(135,[ψi.ctr]),(136,[ψ1b.ctr]),(137,[ψ16.ctr])]
def ψ2.ann:Ann:=⟨[],[],[]⟩
theorem ψ2.ok:φ4 Tryz.prog 93 ψ2.ctr:=fS (A:=ψ2.ann) (eC ψ1M.ok (eC ψ1Q.ok (eC ψ13.ok (eC ψi.ok (eC ψ1b.ok (eC ψ16.ok φ5.nil)))))) Tryz.func93 (by kernel_rfl) (by kernel_rfl) (fun x=>by kernel_rfl)
def ψN.sig:Sig:=⟨[.ptr (.pair (.pair .bool (.pair tyS (.pair tyD (.sl true (.pair .bool (.pair (.sl true (.pair .str tyI)) (.sl true tyP))))))) (.pair (.sl true (.pair tyI (.pair .str (.sl true .str)))) (.pair (.sl true (.pair tyI (.sl true tyP))) (.sl true tyP)))),.val (.pair tyI (.pair tyI tyF))],[.val (.pair tyI (.pair .str (.sl true .str)))]⟩
def ψN.ctr:Ctr:=⟨ψN.sig,fun x=>ψN.f x.1 x.2⟩
def ψN.env:Env:=[(80,[ψd.ctr]),(89,[ψ1w.ctr]),(90,[ψL.ctr]),(91,[ψ2G.ctr]),(92,[ψ1I.ctr]),(93,[ψ2.ctr])]
def ψN.ann:Ann:=⟨[],[],[]⟩
theorem ψN.ok:φ4 Tryz.prog 61 ψN.ctr:=fS (A:=ψN.ann) (eC ψd.ok (eC ψ1w.ok (eC ψL.ok (eC ψ2G.ok (eC ψ1I.ok (eC ψ2.ok φ5.nil)))))) Tryz.func61 (by kernel_rfl) (by kernel_rfl) (fun x=>by kernel_rfl)
def ψP.sig:Sig:=⟨[.ptr (.pair (.pair .bool (.pair tyS (.pair tyD (.sl true (.pair .bool (.pair (.sl true (.pair .str tyI)) (.sl true tyP))))))) (.pair (.sl true (.pair tyI (.pair .str (.sl true .str)))) (.pair (.sl true (.pair tyI (.sl true tyP))) (.sl true tyP)))),.val (.pair tyI (.pair tyI tyF))],[.val (.pair tyI (.pair .str (.sl true .str)))]⟩
def ψP.ctr:Ctr:=⟨ψP.sig,fun x=>ψP.f x.1 x.2⟩
def ψP.env:Env:=[(25,[ψ1Z.ctr]),(26,[ψI.ctr]),(47,[ψD.ctr]),(48,[ψ1x.ctr]),(55,[ψ9.ctr]),(60,[ψb.ctr]),(61,[ψN.ctr])]
def ψP.ann:Ann:=⟨[],[],[]⟩
theorem ψP.ok:φ4 Tryz.prog 37 ψP.ctr:=fS (A:=ψP.ann) (eC ψ1Z.ok (eC ψI.ok (eC ψD.ok (eC ψ1x.ok (eC ψ9.ok (eC ψb.ok (eC ψN.ok φ5.nil))))))) Tryz.func37 (by kernel_rfl) (by kernel_rfl) (fun x=>by kernel_rfl)
def ψ1e.sig:Sig:=⟨[.val (.pair .bool (.pair tys (.pair tyd (.sl false (.pair .bool (.pair (.sl false (.pair .str tyI)) (.sl false tyP))))))),.val (.pair tyI (.pair tyI tyF))],[.val (.sl true tyP)]⟩
def ψ1e.ctr:Ctr:=⟨ψ1e.sig,fun x=>ψ1e.f x.1 x.2⟩
def ψ1e.env:Env:=[(25,[ψ1Z.ctr]),(80,[ψd.ctr])]
def ψ1e.ann:Ann:=⟨[],[],[]⟩
theorem ψ1e.ok:φ4 Tryz.prog 54 ψ1e.ctr:=fS (A:=ψ1e.ann) (eC ψ1Z.ok (eC ψd.ok φ5.nil)) Tryz.func54 (by kernel_rfl) (by kernel_rfl) (fun x=>by kernel_rfl)
def ψw.sig:Sig:=⟨[.val (.pair .bool (.pair tys (.pair tyd (.sl false (.pair .bool (.pair (.sl false (.pair .str tyI)) (.sl false tyP))))))),.val (.sl false (.pair tyI (.pair tyI tyF)))],[.val (.pair (.pair .bool (.pair tyS (.pair tyD (.sl true (.pair .bool (.pair (.sl true (.pair .str tyI)) (.sl true tyP))))))) (.pair (.sl true (.pair tyI (.pair .str (.sl true .str)))) (.pair (.sl true (.pair tyI (.sl true tyP))) (.sl true tyP))))]⟩
def ψw.ctr:Ctr:=⟨ψw.sig,fun x=>ψw.f x.1 x.2⟩
def ψw.env:Env:=[(36,[ψ1N.ctr]),(37,[ψP.ctr]),(54,[ψ1e.ctr])]
def ψw.ann:Ann:=⟨[(0,([(4,.ptr (.pair (.pair .bool (.pair tyS (.pair tyD (.sl true (.pair .bool (.pair (.sl true (.pair .str tyI)) (.sl true tyP))))))) (.pair (.sl true (.pair tyI (.pair .str (.sl true .str)))) (.pair (.sl true (.pair tyI (.sl true tyP))) (.sl true tyP))))),(5,.ptr (.pair (.pair .bool (.pair tyS (.pair tyD (.sl true (.pair .bool (.pair (.sl true (.pair .str tyI)) (.sl true tyP))))))) (.pair (.sl true (.pair tyI (.pair .str (.sl true .str)))) (.pair (.sl true (.pair tyI (.sl true tyP))) (.sl true tyP))))),(14,.val (.sl false (.pair tyI (.pair tyI tyF)))),(15,.val tyI),(16,.val tyI)],[(.exit 0,[(4,.ptr (.pair (.pair .bool (.pair tyS (.pair tyD (.sl true (.pair .bool (.pair (.sl true (.pair .str tyI)) (.sl true tyP))))))) (.pair (.sl true (.pair tyI (.pair .str (.sl true .str)))) (.pair (.sl true (.pair tyI (.sl true tyP))) (.sl true tyP))))),(5,.ptr (.pair (.pair .bool (.pair tyS (.pair tyD (.sl true (.pair .bool (.pair (.sl true (.pair .str tyI)) (.sl true tyP))))))) (.pair (.sl true (.pair tyI (.pair .str (.sl true .str)))) (.pair (.sl true (.pair tyI (.sl true tyP))) (.sl true tyP)))))])]))],[],[(11,[(.normal,[(4,.ptr (.pair (.pair .bool (.pair tyS (.pair tyD (.sl true (.pair .bool (.pair (.sl true (.pair .str tyI)) (.sl true tyP))))))) (.pair (.sl true (.pair tyI (.pair .str (.sl true .str)))) (.pair (.sl true (.pair tyI (.sl true tyP))) (.sl true tyP))))),(5,.ptr (.pair (.pair .bool (.pair tyS (.pair tyD (.sl true (.pair .bool (.pair (.sl true (.pair .str tyI)) (.sl true tyP))))))) (.pair (.sl true (.pair tyI (.pair .str (.sl true .str)))) (.pair (.sl true (.pair tyI (.sl true tyP))) (.sl true tyP))))),(14,.val (.sl false (.pair tyI (.pair tyI tyF)))),(15,.val tyI),(16,.val tyI)])])]⟩
theorem ψw.ok:φ4 Tryz.prog 29 ψw.ctr:=fS (A:=ψw.ann) (eC ψ1N.ok (eC ψP.ok (eC ψ1e.ok φ5.nil))) Tryz.func29 (by kernel_rfl) (by kernel_rfl) (fun x=>by kernel_rfl)
def ψh.sig:Sig:=⟨[.val (.pair tyI (.pair tyI (.sl false (.pair tyI (.pair tyI tyF)))))],[.val (.pair (.pair .bool (.pair tyS (.pair tyD (.sl true (.pair .bool (.pair (.sl true (.pair .str tyI)) (.sl true tyP))))))) (.pair (.sl true (.pair tyI (.pair .str (.sl true .str)))) (.pair (.sl true (.pair tyI (.sl true tyP))) (.sl true tyP))))]⟩
def ψh.ctr:Ctr:=⟨ψh.sig,fun x=>ψh.f x⟩
def ψh.env:Env:=[(25,[ψ1Z.ctr]),(26,[ψI.ctr]),(27,[ψ1K.ctr]),(28,[ψC.ctr]),(29,[ψw.ctr])]
def ψh.ann:Ann:=⟨[],[],[]⟩
theorem ψh.ok:φ4 Tryz.prog 11 ψh.ctr:=fS (A:=ψh.ann) (eC ψ1Z.ok (eC ψI.ok (eC ψ1K.ok (eC ψC.ok (eC ψw.ok φ5.nil))))) Tryz.func11 (by kernel_rfl) (by kernel_rfl) (fun x=>by kernel_rfl)
def ψH.sig:Sig:=⟨[.val (.pair .bool (.pair tys (.pair tyd (.sl false (.pair .bool (.pair (.sl false (.pair .str tyI)) (.sl false tyP)))))))],[.val (.sl true tyF),.val tyI]⟩
def ψH.ctr:Ctr:=⟨ψH.sig,fun x=>ψH.f x⟩
def ψH.env:Env:=[(30,[ψG.ctr])]
def ψH.ann:Ann:=⟨[],[],[]⟩
theorem ψH.ok:φ4 Tryz.prog 13 ψH.ctr:=fS (A:=ψH.ann) (eC ψG.ok φ5.nil) Tryz.func13 (by kernel_rfl) (by kernel_rfl) (fun x=>by kernel_rfl)
def ψ2m.sig:Sig:=⟨[.val (.sl false tyF),.val (.sl false tyF)],[.val .bool]⟩
def ψ2m.ctr:Ctr:=⟨ψ2m.sig,fun x=>ψ2m.f x.1 x.2⟩
def ψ2m.env:Env:=[]
def ψ2m.ann:Ann:=⟨[(0,([(0,.val (.sl false tyF)),(1,.val (.sl false tyF)),(5,.val tyI)],[(.exit 0,[]),(.ret,[(4,.val .bool)])]))],[],[]⟩
theorem ψ2m.ok:φ4 Tryz.prog 15 ψ2m.ctr:=fS (A:=ψ2m.ann) φ5.nil Tryz.func15 (by kernel_rfl) (by kernel_rfl) (fun x=>by kernel_rfl)
def ψ3D.sig:Sig:=⟨[.val (.sl false (.int .u8))],[.ptr (.pair (.sl false (.int .u8)) (.pair tyI tyI))]⟩
def ψ3D.ctr:Ctr:=⟨ψ3D.sig,fun x=>ψ3D.f x⟩
def ψ3D.env:Env:=[]
def ψ3D.ann:Ann:=⟨[(0,([(0,.val (.sl false (.int .u8))),(3,.val tyI),(4,.val tyI)],[(.exit 0,[(0,.val (.sl false (.int .u8))),(3,.val tyI)])]))],[],[]⟩
theorem ψ3D.ok:φ4 Tryz.prog 23 ψ3D.ctr:=fS (A:=ψ3D.ann) φ5.nil Tryz.func23 (by kernel_rfl) (by kernel_rfl) (fun x=>by kernel_rfl)
def ψ3B.sig:Sig:=⟨[.ptr (.pair (.sl false (.int .u8)) (.pair tyI tyI))],[.val tyI]⟩
def ψ3B.ctr:Ctr:=⟨ψ3B.sig,fun x=>ψ3B.f x⟩
def ψ3B.env:Env:=[]
def ψ3B.ann:Ann:=⟨[],[],[]⟩
theorem ψ3B.ok:φ4 Tryz.prog 57 ψ3B.ctr:=fS (A:=ψ3B.ann) φ5.nil Tryz.func57 (by kernel_rfl) (by kernel_rfl) (fun x=>by kernel_rfl)
def ψ3A.sig:Sig:=⟨[.ptr (.pair (.sl false (.int .u8)) (.pair tyI tyI)),.val tyI],[.val tyI]⟩
def ψ3A.ctr:Ctr:=⟨ψ3A.sig,fun x=>ψ3A.f x.1 x.2⟩
def ψ3A.env:Env:=[(57,[ψ3B.ctr])]
def ψ3A.ann:Ann:=⟨[],[],[]⟩
theorem ψ3A.ok:φ4 Tryz.prog 33 ψ3A.ctr:=fS (A:=ψ3A.ann) (eC ψ3B.ok φ5.nil) Tryz.func33 (by kernel_rfl) (by kernel_rfl) (fun x=>by kernel_rfl)
def ψ3E.sig:Sig:=⟨[.ptr (.pair (.sl false (.int .u8)) (.pair tyI tyI)),.val tyI],[.val .bool]⟩
def ψ3E.ctr:Ctr:=⟨ψ3E.sig,fun x=>ψ3E.f x.1 x.2⟩
def ψ3E.env:Env:=[(33,[ψ3A.ctr])]
def ψ3E.ann:Ann:=⟨[],[],[]⟩
theorem ψ3E.ok:φ4 Tryz.prog 35 ψ3E.ctr:=fS (A:=ψ3E.ann) (eC ψ3A.ok φ5.nil) Tryz.func35 (by kernel_rfl) (by kernel_rfl) (fun x=>by kernel_rfl)
def ψ3C.sig:Sig:=⟨[.val tyI,.val tyI,.val tyI],[.val .bool]⟩
def ψ3C.ctr:Ctr:=⟨ψ3C.sig,fun x=>ψ3C.f x.1 x.2.1 x.2.2⟩
def ψ3C.env:Env:=[]
def ψ3C.ann:Ann:=⟨[],[],[]⟩
theorem ψ3C.ok:φ4 Tryz.prog 40 ψ3C.ctr:=fS (A:=ψ3C.ann) φ5.nil Tryz.func40 (by kernel_rfl) (by kernel_rfl) (fun x=>by kernel_rfl)
def ψ3G.sig:Sig:=⟨[.ptr (.pair (.sl false (.int .u8)) (.pair tyI tyI)),.val (.sl false tyI)],[.val tyI]⟩
def ψ3G.ctr:Ctr:=⟨ψ3G.sig,fun x=>ψ3G.f x.1 x.2⟩
def ψ3G.env:Env:=[(33,[ψ3A.ctr])]
def ψ3G.ann:Ann:=⟨[],[],[]⟩
theorem ψ3G.ok:φ4 Tryz.prog 34 ψ3G.ctr:=fS (A:=ψ3G.ann) (eC ψ3A.ok φ5.nil) Tryz.func34 (by kernel_rfl) (by kernel_rfl) (fun x=>by kernel_rfl)
def ψ3F.sig:Sig:=⟨[.ptr (.pair (.sl false (.int .u8)) (.pair tyI tyI)),.val (.sl false .str)],[.val .str]⟩
def ψ3F.ctr:Ctr:=⟨ψ3F.sig,fun x=>ψ3F.f x.1 x.2⟩
def ψ3F.env:Env:=[(33,[ψ3A.ctr])]
def ψ3F.ann:Ann:=⟨[],[],[]⟩
theorem ψ3F.ok:φ4 Tryz.prog 76 ψ3F.ctr:=fS (A:=ψ3F.ann) (eC ψ3A.ok φ5.nil) Tryz.func76 (by kernel_rfl) (by kernel_rfl) (fun x=>by kernel_rfl)
def ψ3O.sig:Sig:=⟨[.ptr (.pair (.sl false (.int .u8)) (.pair tyI tyI))],[.val .str]⟩
def ψ3O.ctr:Ctr:=⟨ψ3O.sig,fun x=>ψ3O.f x⟩
def ψ3O.env:Env:=[(76,[ψ3F.ctr])]
def ψ3O.ann:Ann:=⟨[],[],[]⟩
theorem ψ3O.ok:φ4 Tryz.prog 74 ψ3O.ctr:=fS (A:=ψ3O.ann) (eC ψ3F.ok φ5.nil) Tryz.func74 (by kernel_rfl) (by kernel_rfl) (fun x=>by kernel_rfl)
def ψ3H.sig:Sig:=⟨[.ptr (.pair (.sl false (.int .u8)) (.pair tyI tyI)),.val tyI],[.val .str]⟩
def ψ3H.ctr:Ctr:=⟨ψ3H.sig,fun x=>ψ3H.f x.1 x.2⟩
def ψ3H.env:Env:=[(33,[ψ3A.ctr]),(57,[ψ3B.ctr])]
def ψ3H.ann:Ann:=⟨[(0,([(0,.ptr (.pair (.sl false (.int .u8)) (.pair tyI tyI))),(5,.val (.sl true (.int .u8))),(6,.val tyI),(7,.val tyI)],[(.exit 0,[(0,.ptr (.pair (.sl false (.int .u8)) (.pair tyI tyI))),(5,.val (.sl true (.int .u8)))])]))],[],[(7,[(.normal,[(0,.ptr (.pair (.sl false (.int .u8)) (.pair tyI tyI))),(5,.val (.sl true (.int .u8))),(6,.val tyI),(7,.val tyI),(8,.val tyI)])]),(9,[(.normal,[(0,.ptr (.pair (.sl false (.int .u8)) (.pair tyI tyI))),(5,.val (.sl true (.int .u8))),(6,.val tyI),(7,.val tyI),(8,.val tyI)])])]⟩
theorem ψ3H.ok:φ4 Tryz.prog 75 ψ3H.ctr:=fS (A:=ψ3H.ann) (eC ψ3A.ok (eC ψ3B.ok φ5.nil)) Tryz.func75 (by kernel_rfl) (by kernel_rfl) (fun x=>by kernel_rfl)
def ψ37.sig:Sig:=⟨[.ptr (.pair (.sl false (.int .u8)) (.pair tyI tyI))],[.val (.pair tyI (.pair tyI tyF))]⟩
def ψ37.ctr:Ctr:=⟨ψ37.sig,fun x=>ψ37.f x⟩
def ψ37.env:Env:=[(33,[ψ3A.ctr]),(34,[ψ3G.ctr]),(74,[ψ3O.ctr]),(75,[ψ3H.ctr]),(76,[ψ3F.ctr])]
def ψ37.ann:Ann:=⟨[],[(0,[(.normal,[(0,.ptr (.pair (.sl false (.int .u8)) (.pair tyI tyI))),(2,.ptr (.pair tyI (.pair tyI tyF))),(3,.ptr (.pair tyI (.pair tyI tyF)))])])],[(3,[(.normal,[(0,.ptr (.pair (.sl false (.int .u8)) (.pair tyI tyI))),(2,.ptr (.pair tyI (.pair tyI tyF))),(3,.ptr (.pair tyI (.pair tyI tyF))),(11,.val tyI),(12,.val .bool)])]),(6,[(.normal,[(0,.ptr (.pair (.sl false (.int .u8)) (.pair tyI tyI))),(2,.ptr (.pair tyI (.pair tyI tyF))),(3,.ptr (.pair tyI (.pair tyI tyF)))])]),(12,[(.normal,[(0,.ptr (.pair (.sl false (.int .u8)) (.pair tyI tyI))),(2,.ptr (.pair tyI (.pair tyI tyF))),(3,.ptr (.pair tyI (.pair tyI tyF))),(27,.val tyI),(31,.val .bool)])])]⟩
theorem ψ37.ok:φ4 Tryz.prog 51 ψ37.ctr:=fS (A:=ψ37.ann) (eC ψ3A.ok (eC ψ3G.ok (eC ψ3O.ok (eC ψ3H.ok (eC ψ3F.ok φ5.nil))))) Tryz.func51 (by kernel_rfl) (by kernel_rfl) (fun x=>by kernel_rfl)
def ψ38.sig:Sig:=⟨[.ptr (.pair (.sl false (.int .u8)) (.pair tyI tyI)),.val tyI],[.val (.sl true (.pair tyI (.pair tyI tyF)))]⟩
def ψ38.ctr:Ctr:=⟨ψ38.sig,fun x=>ψ38.f x.1 x.2⟩
def ψ38.env:Env:=[(33,[ψ3A.ctr]),(35,[ψ3E.ctr]),(40,[ψ3C.ctr]),(51,[ψ37.ctr])]
def ψ38.ann:Ann:=⟨[(0,([(0,.ptr (.pair (.sl false (.int .u8)) (.pair tyI tyI))),(5,.val (.sl true (.pair tyI (.pair tyI tyF)))),(6,.val (.sl true .bool)),(7,.val tyI)],[(.exit 0,[(0,.ptr (.pair (.sl false (.int .u8)) (.pair tyI tyI))),(5,.val (.sl true (.pair tyI (.pair tyI tyF))))])]))],[],[(8,[(.normal,[(0,.ptr (.pair (.sl false (.int .u8)) (.pair tyI tyI))),(5,.val (.sl true (.pair tyI (.pair tyI tyF)))),(6,.val (.sl true .bool)),(7,.val tyI),(8,.ptr (.pair tyI (.pair tyI tyF)))])]),(10,[(.normal,[(0,.ptr (.pair (.sl false (.int .u8)) (.pair tyI tyI))),(5,.val (.sl true (.pair tyI (.pair tyI tyF)))),(6,.val (.sl true .bool)),(7,.val tyI),(8,.ptr (.pair tyI (.pair tyI tyF)))])]),(7,[(.normal,[(0,.ptr (.pair (.sl false (.int .u8)) (.pair tyI tyI))),(5,.val (.sl true (.pair tyI (.pair tyI tyF)))),(6,.val (.sl true .bool)),(7,.val tyI),(8,.ptr (.pair tyI (.pair tyI tyF)))])]),(13,[(.normal,[(0,.ptr (.pair (.sl false (.int .u8)) (.pair tyI tyI))),(5,.val (.sl true (.pair tyI (.pair tyI tyF)))),(6,.val (.sl true .bool)),(7,.val tyI),(8,.ptr (.pair tyI (.pair tyI tyF)))])])]⟩
theorem ψ38.ok:φ4 Tryz.prog 24 ψ38.ctr:=fS (A:=ψ38.ann) (eC ψ3A.ok (eC ψ3E.ok (eC ψ3C.ok (eC ψ37.ok φ5.nil)))) Tryz.func24 (by kernel_rfl) (by kernel_rfl) (fun x=>by kernel_rfl)
def ψ39.sig:Sig:=⟨[.ptr (.pair (.sl false (.int .u8)) (.pair tyI tyI)),.val tyI],[.val (.pair tyI (.pair tyI (.sl true (.pair tyI (.pair tyI tyF)))))]⟩
def ψ39.ctr:Ctr:=⟨ψ39.sig,fun x=>ψ39.f x.1 x.2⟩
def ψ39.env:Env:=[(24,[ψ38.ctr]),(33,[ψ3A.ctr])]
def ψ39.ann:Ann:=⟨[],[],[]⟩
theorem ψ39.ok:φ4 Tryz.prog 32 ψ39.ctr:=fS (A:=ψ39.ann) (eC ψ38.ok (eC ψ3A.ok φ5.nil)) Tryz.func32 (by kernel_rfl) (by kernel_rfl) (fun x=>by kernel_rfl)
def ψ2R.sig:Sig:=⟨[.val (.sl false (.int .u8))],[.val (.pair tyI (.pair tyI (.sl true (.pair tyI (.pair tyI tyF)))))]⟩
def ψ2R.ctr:Ctr:=⟨ψ2R.sig,fun x=>ψ2R.f x⟩
def ψ2R.env:Env:=[(23,[ψ3D.ctr]),(32,[ψ39.ctr]),(33,[ψ3A.ctr]),(34,[ψ3G.ctr]),(35,[ψ3E.ctr])]
def ψ2R.ann:Ann:=⟨[],[(0,[(.normal,[(2,.ptr (.pair tyI (.pair tyI (.sl true (.pair tyI (.pair tyI tyF)))))),(3,.ptr (.pair (.sl false (.int .u8)) (.pair tyI tyI))),(4,.ptr (.pair tyI (.pair tyI (.sl true (.pair tyI (.pair tyI tyF))))))])])],[(4,[(.normal,[(2,.ptr (.pair tyI (.pair tyI (.sl true (.pair tyI (.pair tyI tyF)))))),(3,.ptr (.pair (.sl false (.int .u8)) (.pair tyI tyI))),(4,.ptr (.pair tyI (.pair tyI (.sl true (.pair tyI (.pair tyI tyF)))))),(10,.val tyI),(11,.val .bool)])]),(7,[(.normal,[(2,.ptr (.pair tyI (.pair tyI (.sl true (.pair tyI (.pair tyI tyF)))))),(3,.ptr (.pair (.sl false (.int .u8)) (.pair tyI tyI))),(4,.ptr (.pair tyI (.pair tyI (.sl true (.pair tyI (.pair tyI tyF))))))])])]⟩
theorem ψ2R.ok:φ4 Tryz.prog 16 ψ2R.ctr:=fS (A:=ψ2R.ann) (eC ψ3D.ok (eC ψ39.ok (eC ψ3A.ok (eC ψ3G.ok (eC ψ3E.ok φ5.nil))))) Tryz.func16 (by kernel_rfl) (by kernel_rfl) (fun x=>by kernel_rfl)
def ψK.sig:Sig:=⟨[.ptr (.pair .bool (.pair tyS (.pair tyD (.sl true (.pair .bool (.pair (.sl true (.pair .str tyI)) (.sl true tyP))))))),.val (.pair tyI (.pair tyI tyF))],[.val (.pair tyI (.pair .str (.sl true .str)))]⟩
def ψK.ctr:Ctr:=⟨ψK.sig,fun x=>ψK.f x.1 x.2⟩
def ψK.env:Env:=[(56,[ψT.ctr]),(130,[ψZ.ctr]),(131,[ψ1f.ctr]),(132,[ψ1j.ctr])]
def ψK.ann:Ann:=⟨[],[],[]⟩
theorem ψK.ok:φ4 Tryz.prog 90 ψK.ctr:=fS (A:=ψK.ann) (eC ψT.ok (eC ψZ.ok (eC ψ1f.ok (eC ψ1j.ok φ5.nil)))) Tryz.func90 (by kernel_rfl) (by kernel_rfl) (fun x=>by kernel_rfl)
def ψM.sig:Sig:=⟨[.ptr (.pair .bool (.pair tyS (.pair tyD (.sl true (.pair .bool (.pair (.sl true (.pair .str tyI)) (.sl true tyP))))))),.val (.pair tyI (.pair tyI tyF))],[.val (.pair tyI (.pair .str (.sl true .str)))]⟩
def ψM.ctr:Ctr:=⟨ψM.sig,fun x=>ψM.f x.1 x.2⟩
def ψM.env:Env:=[(80,[ψd.ctr]),(89,[ψ1w.ctr]),(90,[ψK.ctr]),(91,[ψ2G.ctr]),(92,[ψ1I.ctr]),(93,[ψ2.ctr])]
def ψM.ann:Ann:=⟨[],[],[]⟩
theorem ψM.ok:φ4 Tryz.prog 61 ψM.ctr:=fS (A:=ψM.ann) (eC ψd.ok (eC ψ1w.ok (eC ψK.ok (eC ψ2G.ok (eC ψ1I.ok (eC ψ2.ok φ5.nil)))))) Tryz.func61 (by kernel_rfl) (by kernel_rfl) (fun x=>by kernel_rfl)
def ψO.sig:Sig:=⟨[.ptr (.pair .bool (.pair tyS (.pair tyD (.sl true (.pair .bool (.pair (.sl true (.pair .str tyI)) (.sl true tyP))))))),.val (.pair tyI (.pair tyI tyF))],[.val (.pair tyI (.pair .str (.sl true .str)))]⟩
def ψO.ctr:Ctr:=⟨ψO.sig,fun x=>ψO.f x.1 x.2⟩
def ψO.env:Env:=[(25,[ψ1Z.ctr]),(26,[ψI.ctr]),(47,[ψD.ctr]),(48,[ψ1x.ctr]),(55,[ψ9.ctr]),(60,[ψb.ctr]),(61,[ψM.ctr])]
def ψO.ann:Ann:=⟨[],[],[]⟩
theorem ψO.ok:φ4 Tryz.prog 37 ψO.ctr:=fS (A:=ψO.ann) (eC ψ1Z.ok (eC ψI.ok (eC ψD.ok (eC ψ1x.ok (eC ψ9.ok (eC ψb.ok (eC ψM.ok φ5.nil))))))) Tryz.func37 (by kernel_rfl) (by kernel_rfl) (fun x=>by kernel_rfl)
def ψJ.sig:Sig:=⟨[.val (.pair .bool (.pair tys (.pair tyd (.sl false (.pair .bool (.pair (.sl false (.pair .str tyI)) (.sl false tyP))))))),.val (.pair tyI (.pair tyI tyF))],[.val (.pair .bool (.pair tyS (.pair tyD (.sl true (.pair .bool (.pair (.sl true (.pair .str tyI)) (.sl true tyP))))))),.val (.pair tyI (.pair .str (.sl true .str)))]⟩
def ψJ.ctr:Ctr:=⟨ψJ.sig,fun x=>ψJ.f x.1 x.2⟩
def ψJ.env:Env:=[(36,[ψ1N.ctr]),(37,[ψO.ctr])]
def ψJ.ann:Ann:=⟨[],[],[]⟩
theorem ψJ.ok:φ4 Tryz.prog 17 ψJ.ctr:=fS (A:=ψJ.ann) (eC ψ1N.ok (eC ψO.ok φ5.nil)) Tryz.func17 (by kernel_rfl) (by kernel_rfl) (fun x=>by kernel_rfl)
def ψ3M.sig:Sig:=⟨[.val tyd],[.val tyI]⟩
def ψ3M.ctr:Ctr:=⟨ψ3M.sig,fun x=>ψ3M.f x⟩
def ψ3M.env:Env:=[]
def ψ3M.ann:Ann:=⟨[(0,([(1,.ptr tyd),(3,.val tyI),(4,.val tyI)],[(.exit 0,[(3,.val tyI)])]))],[],[]⟩
theorem ψ3M.ok:φ4 Tryz.prog 45 ψ3M.ctr:=fS (A:=ψ3M.ann) φ5.nil Tryz.func45 (by kernel_rfl) (by kernel_rfl) (fun x=>by kernel_rfl)
def ψ2c.sig:Sig:=⟨[.val .str],[.val .bool]⟩
def ψ2c.ctr:Ctr:=⟨ψ2c.sig,fun x=>ψ2c.f x⟩
def ψ2c.env:Env:=[(40,[ψ3C.ctr])]
def ψ2c.ann:Ann:=⟨[(0,([(0,.val .str),(3,.val tyI)],[(.exit 0,[(0,.val .str)]),(.ret,[(2,.val .bool)])]))],[],[(4,[(.normal,[(0,.val .str),(3,.val tyI)]),(.ret,[(2,.val .bool)])])]⟩
theorem ψ2c.ok:φ4 Tryz.prog 46 ψ2c.ctr:=fS (A:=ψ2c.ann) (eC ψ3C.ok φ5.nil) Tryz.func46 (by kernel_rfl) (by kernel_rfl) (fun x=>by kernel_rfl)
def ψ2Q.sig:Sig:=⟨[.val tyd],[.val .bool]⟩
def ψ2Q.ctr:Ctr:=⟨ψ2Q.sig,fun x=>ψ2Q.f x⟩
def ψ2Q.env:Env:=[(40,[ψ3C.ctr]),(45,[ψ3M.ctr]),(46,[ψ2c.ctr])]
def ψ2Q.ann:Ann:=⟨[(0,([(1,.ptr tyd),(3,.val tyI)],[(.exit 0,[]),(.ret,[(2,.val .bool)])]))],[],[(6,[(.normal,[(1,.ptr tyd),(3,.val tyI)]),(.ret,[(2,.val .bool)])])]⟩
theorem ψ2Q.ok:φ4 Tryz.prog 19 ψ2Q.ctr:=fS (A:=ψ2Q.ann) (eC ψ3C.ok (eC ψ3M.ok (eC ψ2c.ok φ5.nil))) Tryz.func19 (by kernel_rfl) (by kernel_rfl) (fun x=>by kernel_rfl)
def ψ2a.sig:Sig:=⟨[.val (.pair tyI (.sl false tyI))],[.val .bool]⟩
def ψ2a.ctr:Ctr:=⟨ψ2a.sig,fun x=>ψ2a.f x⟩
def ψ2a.env:Env:=[(40,[ψ3C.ctr])]
def ψ2a.ann:Ann:=⟨[(0,([(1,.ptr (.pair tyI (.sl false tyI))),(3,.val tyI)],[(.exit 0,[]),(.ret,[(2,.val .bool)])]))],[],[(6,[(.normal,[(1,.ptr (.pair tyI (.sl false tyI))),(3,.val tyI)]),(.ret,[(2,.val .bool)])])]⟩
theorem ψ2a.ok:φ4 Tryz.prog 38 ψ2a.ctr:=fS (A:=ψ2a.ann) (eC ψ3C.ok φ5.nil) Tryz.func38 (by kernel_rfl) (by kernel_rfl) (fun x=>by kernel_rfl)
def ψ2Z.sig:Sig:=⟨[.val .str],[.val .bool]⟩
def ψ2Z.ctr:Ctr:=⟨ψ2Z.sig,fun x=>ψ2Z.f x⟩
def ψ2Z.env:Env:=[(40,[ψ3C.ctr])]
def ψ2Z.ann:Ann:=⟨[],[],[]⟩
theorem ψ2Z.ok:φ4 Tryz.prog 62 ψ2Z.ctr:=fS (A:=ψ2Z.ann) (eC ψ3C.ok φ5.nil) Tryz.func62 (by kernel_rfl) (by kernel_rfl) (fun x=>by kernel_rfl)
def ψ2P.sig:Sig:=⟨[.val (.sl false tyE)],[.val .bool]⟩
def ψ2P.ctr:Ctr:=⟨ψ2P.sig,fun x=>ψ2P.f x⟩
def ψ2P.env:Env:=[(40,[ψ3C.ctr]),(62,[ψ2Z.ctr])]
def ψ2P.ann:Ann:=⟨[(0,([(0,.val (.sl false tyE)),(3,.val tyI)],[(.exit 0,[]),(.ret,[(2,.val .bool)])]))],[],[(7,[(.normal,[(0,.val (.sl false tyE)),(3,.val tyI)]),(.ret,[(2,.val .bool)])])]⟩
theorem ψ2P.ok:φ4 Tryz.prog 39 ψ2P.ctr:=fS (A:=ψ2P.ann) (eC ψ3C.ok (eC ψ2Z.ok φ5.nil)) Tryz.func39 (by kernel_rfl) (by kernel_rfl) (fun x=>by kernel_rfl)
def ψ3K.sig:Sig:=⟨[.val tyd,.val .str],[.val tyI]⟩
def ψ3K.ctr:Ctr:=⟨ψ3K.sig,fun x=>ψ3K.f x.1 x.2⟩
def ψ3K.env:Env:=[]
def ψ3K.ann:Ann:=⟨[(0,([(1,.val .str),(2,.ptr tyd),(5,.val tyI)],[(.exit 0,[]),(.ret,[(4,.val tyI)])]))],[],[]⟩
theorem ψ3K.ok:φ4 Tryz.prog 63 ψ3K.ctr:=fS (A:=ψ3K.ann) φ5.nil Tryz.func63 (by kernel_rfl) (by kernel_rfl) (fun x=>by kernel_rfl)
def ψ2T.sig:Sig:=⟨[.val tyd,.val .str],[.val .str,.val .bool]⟩
def ψ2T.ctr:Ctr:=⟨ψ2T.sig,fun x=>ψ2T.f x.1 x.2⟩
def ψ2T.env:Env:=[(19,[ψ2Q.ctr]),(63,[ψ3K.ctr])]
def ψ2T.ann:Ann:=⟨[],[],[]⟩
theorem ψ2T.ok:φ4 Tryz.prog 41 ψ2T.ctr:=fS (A:=ψ2T.ann) (eC ψ2Q.ok (eC ψ3K.ok φ5.nil)) Tryz.func41 (by kernel_rfl) (by kernel_rfl) (fun x=>by kernel_rfl)
def ψ2N.sig:Sig:=⟨[.val tyI],[.val .str]⟩
def ψ2N.ctr:Ctr:=⟨ψ2N.sig,fun x=>ψ2N.f x⟩
def ψ2N.env:Env:=[]
def ψ2N.ann:Ann:=⟨[(0,([(0,.val tyI),(3,.val .str),(4,.val .bool)],[(.exit 0,[(3,.val .str),(4,.val .bool)])]))],[],[(7,[(.normal,[(0,.val tyI),(3,.val .str),(4,.val .bool),(5,.val tyI)])])]⟩
theorem ψ2N.ok:φ4 Tryz.prog 21 ψ2N.ctr:=fS (A:=ψ2N.ann) φ5.nil Tryz.func21 (by kernel_rfl) (by kernel_rfl) (fun x=>by kernel_rfl)
def ψ2o.sig:Sig:=⟨[.val tyI],[.val .str]⟩
def ψ2o.ctr:Ctr:=⟨ψ2o.sig,fun x=>ψ2o.f x⟩
def ψ2o.env:Env:=[(21,[ψ2N.ctr]),(40,[ψ3C.ctr])]
def ψ2o.ann:Ann:=⟨[],[],[]⟩
theorem ψ2o.ok:φ4 Tryz.prog 42 ψ2o.ctr:=fS (A:=ψ2o.ann) (eC ψ2N.ok (eC ψ3C.ok φ5.nil)) Tryz.func42 (by kernel_rfl) (by kernel_rfl) (fun x=>by kernel_rfl)
def ψ2w.sig:Sig:=⟨[.val tyI],[.val .str]⟩
def ψ2w.ctr:Ctr:=⟨ψ2w.sig,fun x=>ψ2w.f x⟩
def ψ2w.env:Env:=[(40,[ψ3C.ctr])]
def ψ2w.ann:Ann:=⟨[(0,([(0,.val tyI),(3,.val (.sl true (.int .u8)))],[(.exit 0,[(0,.val tyI),(3,.val (.sl true (.int .u8)))])]))],[],[]⟩
theorem ψ2w.ok:φ4 Tryz.prog 138 ψ2w.ctr:=fS (A:=ψ2w.ann) (eC ψ3C.ok φ5.nil) Tryz.func138 (by kernel_rfl) (by kernel_rfl) (fun x=>by kernel_rfl)
def ψ2h.sig:Sig:=⟨[.val .str],[.val tyI,.val tyI]⟩
def ψ2h.ctr:Ctr:=⟨ψ2h.sig,fun x=>ψ2h.f x⟩
def ψ2h.env:Env:=[(138,[ψ2w.ctr])]
def ψ2h.ann:Ann:=⟨[(2,([(0,.val .str),(4,.val tyI),(5,.val tyI),(6,.val tyI)],[(.exit 2,[(0,.val .str),(4,.val tyI),(5,.val tyI)])])),(0,([(0,.val .str),(4,.val tyI)],[(.exit 0,[]),(.ret,[(2,.val tyI),(3,.val tyI)])]))],[],[]⟩
theorem ψ2h.ok:φ4 Tryz.prog 94 ψ2h.ctr:=fS (A:=ψ2h.ann) (eC ψ2w.ok φ5.nil) Tryz.func94 (by kernel_rfl) (by kernel_rfl) (fun x=>by kernel_rfl)
def ψ2U.sig:Sig:=⟨[.val tyI,.val tyI],[.val .str]⟩
def ψ2U.ctr:Ctr:=⟨ψ2U.sig,fun x=>ψ2U.f x.1 x.2⟩
def ψ2U.env:Env:=[(40,[ψ3C.ctr])]
def ψ2U.ann:Ann:=⟨[(0,([(0,.val tyI),(1,.val tyI),(5,.val .str),(6,.val tyI)],[(.exit 0,[(0,.val tyI),(5,.val .str)])]))],[],[]⟩
theorem ψ2U.ok:φ4 Tryz.prog 139 ψ2U.ctr:=fS (A:=ψ2U.ann) (eC ψ3C.ok φ5.nil) Tryz.func139 (by kernel_rfl) (by kernel_rfl) (fun x=>by kernel_rfl)
def ψ2L.sig:Sig:=⟨[.val .str],[.val tyI]⟩
def ψ2L.ctr:Ctr:=⟨ψ2L.sig,fun x=>ψ2L.f x⟩
def ψ2L.env:Env:=[]
def ψ2L.ann:Ann:=⟨[(2,([(0,.val .str),(3,.val tyI),(4,.val tyI),(5,.val tyI)],[(.exit 2,[(0,.val .str),(3,.val tyI),(4,.val tyI)])])),(0,([(0,.val .str),(3,.val tyI),(4,.val tyI)],[(.exit 0,[(3,.val tyI)])]))],[],[(11,[(.normal,[(0,.val .str),(3,.val tyI),(4,.val tyI),(5,.val tyI)])])]⟩
theorem ψ2L.ok:φ4 Tryz.prog 140 ψ2L.ctr:=fS (A:=ψ2L.ann) φ5.nil Tryz.func140 (by kernel_rfl) (by kernel_rfl) (fun x=>by kernel_rfl)
def ψ2V.sig:Sig:=⟨[.val .str],[.val .str]⟩
def ψ2V.ctr:Ctr:=⟨ψ2V.sig,fun x=>ψ2V.f x⟩
def ψ2V.env:Env:=[(138,[ψ2w.ctr]),(139,[ψ2U.ctr]),(140,[ψ2L.ctr])]
def ψ2V.ann:Ann:=⟨[],[],[]⟩
theorem ψ2V.ok:φ4 Tryz.prog 95 ψ2V.ctr:=fS (A:=ψ2V.ann) (eC ψ2w.ok (eC ψ2U.ok (eC ψ2L.ok φ5.nil))) Tryz.func95 (by kernel_rfl) (by kernel_rfl) (fun x=>by kernel_rfl)
def ψ2v.sig:Sig:=⟨[.val .str],[.val .str,.val tyI]⟩
def ψ2v.ctr:Ctr:=⟨ψ2v.sig,fun x=>ψ2v.f x⟩
def ψ2v.env:Env:=[(94,[ψ2h.ctr]),(95,[ψ2V.ctr])]
def ψ2v.ann:Ann:=⟨[],[],[]⟩
theorem ψ2v.ok:φ4 Tryz.prog 64 ψ2v.ctr:=fS (A:=ψ2v.ann) (eC ψ2h.ok (eC ψ2V.ok φ5.nil)) Tryz.func64 (by kernel_rfl) (by kernel_rfl) (fun x=>by kernel_rfl)
def ψ3P.sig:Sig:=⟨[.val .str],[.val .str,.val .str,.val .bool]⟩
def ψ3P.ctr:Ctr:=⟨ψ3P.sig,fun x=>ψ3P.f x⟩
def ψ3P.env:Env:=[(94,[ψ2h.ctr])]
def ψ3P.ann:Ann:=⟨[],[],[]⟩
theorem ψ3P.ok:φ4 Tryz.prog 96 ψ3P.ctr:=fS (A:=ψ3P.ann) (eC ψ2h.ok φ5.nil) Tryz.func96 (by kernel_rfl) (by kernel_rfl) (fun x=>by kernel_rfl)
def ψ2e.sig:Sig:=⟨[.val .str,.val tyI],[.val tyI,.val .bool]⟩
def ψ2e.ctr:Ctr:=⟨ψ2e.sig,fun x=>ψ2e.f x.1 x.2⟩
def ψ2e.env:Env:=[(40,[ψ3C.ctr])]
def ψ2e.ann:Ann:=⟨[(0,([(0,.val .str),(1,.val tyI),(6,.val tyI),(7,.val tyI)],[(.exit 0,[(6,.val tyI)])]))],[],[]⟩
theorem ψ2e.ok:φ4 Tryz.prog 97 ψ2e.ctr:=fS (A:=ψ2e.ann) (eC ψ3C.ok φ5.nil) Tryz.func97 (by kernel_rfl) (by kernel_rfl) (fun x=>by kernel_rfl)
def ψ2j.sig:Sig:=⟨[.val tyR],[.val .bool]⟩
def ψ2j.ctr:Ctr:=⟨ψ2j.sig,fun x=>ψ2j.f x⟩
def ψ2j.env:Env:=[(40,[ψ3C.ctr]),(62,[ψ2Z.ctr])]
def ψ2j.ann:Ann:=⟨[],[],[(1,[(.normal,[(1,.ptr tyR)]),(.ret,[(2,.val .bool)])]),(4,[(.normal,[(1,.ptr tyR),(18,.val tyI),(19,.val .bool)])])]⟩
theorem ψ2j.ok:φ4 Tryz.prog 141 ψ2j.ctr:=fS (A:=ψ2j.ann) (eC ψ3C.ok (eC ψ2Z.ok φ5.nil)) Tryz.func141 (by kernel_rfl) (by kernel_rfl) (fun x=>by kernel_rfl)
def ψ2r.sig:Sig:=⟨[.val tyR],[.val .str]⟩
def ψ2r.ctr:Ctr:=⟨ψ2r.sig,fun x=>ψ2r.f x⟩
def ψ2r.env:Env:=[(138,[ψ2w.ctr]),(139,[ψ2U.ctr]),(141,[ψ2j.ctr])]
def ψ2r.ann:Ann:=⟨[],[],[(5,[(.normal,[(1,.ptr tyR),(3,.val .str),(15,.val tyI),(16,.val .bool)])])]⟩
theorem ψ2r.ok:φ4 Tryz.prog 98 ψ2r.ctr:=fS (A:=ψ2r.ann) (eC ψ2w.ok (eC ψ2U.ok (eC ψ2j.ok φ5.nil))) Tryz.func98 (by kernel_rfl) (by kernel_rfl) (fun x=>by kernel_rfl)
def ψ2g.sig:Sig:=⟨[.val .str],[.val tyR,.val .bool]⟩
def ψ2g.ctr:Ctr:=⟨ψ2g.sig,fun x=>ψ2g.f x⟩
def ψ2g.env:Env:=[(94,[ψ2h.ctr]),(96,[ψ3P.ctr]),(97,[ψ2e.ctr]),(98,[ψ2r.ctr])]
def ψ2g.ann:Ann:=⟨[],[(0,[(.normal,[(0,.val .str),(2,.ptr tyR),(8,.ptr tyR)])])],[(12,[(.normal,[(0,.val .str),(2,.ptr tyR),(8,.ptr tyR),(9,.val .str),(50,.val tyI),(67,.val .bool)])]),(18,[(.normal,[(0,.val .str),(2,.ptr tyR),(8,.ptr tyR)])])]⟩
theorem ψ2g.ok:φ4 Tryz.prog 65 ψ2g.ctr:=fS (A:=ψ2g.ann) (eC ψ2h.ok (eC ψ3P.ok (eC ψ2e.ok (eC ψ2r.ok φ5.nil)))) Tryz.func65 (by kernel_rfl) (by kernel_rfl) (fun x=>by kernel_rfl)
def ψ2n.sig:Sig:=⟨[.val .str],[.val (.sl true (.pair tyI (.pair tyI tyR))),.val tyI]⟩
def ψ2n.ctr:Ctr:=⟨ψ2n.sig,fun x=>ψ2n.f x⟩
def ψ2n.env:Env:=[(64,[ψ2v.ctr]),(65,[ψ2g.ctr])]
def ψ2n.ann:Ann:=⟨[(0,([(0,.val .str),(4,.val (.sl true (.pair tyI (.pair tyI tyR)))),(5,.val tyI)],[(.exit 0,[(4,.val (.sl true (.pair tyI (.pair tyI tyR)))),(5,.val tyI)]),(.ret,[(2,.val (.sl true (.pair tyI (.pair tyI tyR)))),(3,.val tyI)])]))],[],[]⟩
theorem ψ2n.ok:φ4 Tryz.prog 43 ψ2n.ctr:=fS (A:=ψ2n.ann) (eC ψ2v.ok (eC ψ2g.ok φ5.nil)) Tryz.func43 (by kernel_rfl) (by kernel_rfl) (fun x=>by kernel_rfl)
def ψ2i.sig:Sig:=⟨[.val .str,.val tyI,.val tyI],[.val tyR,.val .bool]⟩
def ψ2i.ctr:Ctr:=⟨ψ2i.sig,fun x=>ψ2i.f x.1 x.2.1 x.2.2⟩
def ψ2i.env:Env:=[(40,[ψ3C.ctr]),(64,[ψ2v.ctr]),(65,[ψ2g.ctr])]
def ψ2i.ann:Ann:=⟨[],[],[]⟩
theorem ψ2i.ok:φ4 Tryz.prog 44 ψ2i.ctr:=fS (A:=ψ2i.ann) (eC ψ3C.ok (eC ψ2v.ok (eC ψ2g.ok φ5.nil))) Tryz.func44 (by kernel_rfl) (by kernel_rfl) (fun x=>by kernel_rfl)
def ψ2s.sig:Sig:=⟨[.val tys,.val tyd],[.val .bool]⟩
def ψ2s.ctr:Ctr:=⟨ψ2s.sig,fun x=>ψ2s.f x.1 x.2⟩
def ψ2s.env:Env:=[(19,[ψ2Q.ctr]),(38,[ψ2a.ctr]),(39,[ψ2P.ctr]),(40,[ψ3C.ctr]),(41,[ψ2T.ctr]),(42,[ψ2o.ctr]),(43,[ψ2n.ctr]),(44,[ψ2i.ctr])]
def ψ2s.ann:Ann:=⟨[(0,([(2,.ptr tys),(3,.ptr tyd),(5,.val tyI)],[(.exit 0,[(2,.ptr tys),(3,.ptr tyd)]),(.ret,[(4,.val .bool)])])),(2,([(2,.ptr tys),(3,.ptr tyd),(10,.val tyI)],[(.exit 2,[]),(.ret,[(4,.val .bool)])]))],[],[(8,[(.normal,[(2,.ptr tys),(3,.ptr tyd),(5,.val tyI)]),(.ret,[(4,.val .bool)])]),(16,[(.normal,[(2,.ptr tys),(3,.ptr tyd),(10,.val tyI)]),(.ret,[(4,.val .bool)])])]⟩
theorem ψ2s.ok:φ4 Tryz.prog 18 ψ2s.ctr:=fS (A:=ψ2s.ann) (eC ψ2Q.ok (eC ψ2a.ok (eC ψ2P.ok (eC ψ3C.ok (eC ψ2T.ok (eC ψ2o.ok (eC ψ2n.ok (eC ψ2i.ok φ5.nil)))))))) Tryz.func18 (by kernel_rfl) (by kernel_rfl) (fun x=>by kernel_rfl)
def ψ1H.sig:Sig:=⟨[.val tyd],[.val tyI]⟩
def ψ1H.ctr:Ctr:=⟨ψ1H.sig,fun x=>ψ1H.f x⟩
def ψ1H.env:Env:=[(47,[ψD.ctr]),(48,[ψ1x.ctr])]
def ψ1H.ann:Ann:=⟨[],[],[]⟩
theorem ψ1H.ok:φ4 Tryz.prog 20 ψ1H.ctr:=fS (A:=ψ1H.ann) (eC ψD.ok (eC ψ1x.ok φ5.nil)) Tryz.func20 (by kernel_rfl) (by kernel_rfl) (fun x=>by kernel_rfl)
def ψ2H.sig:Sig:=⟨[.val (.sl false (.int .u8))],[.val .bool]⟩
def ψ2H.ctr:Ctr:=⟨ψ2H.sig,fun x=>ψ2H.f x⟩
def ψ2H.env:Env:=[(8,[ψ2J.ctr]),(10,[ψ2I.ctr]),(11,[ψh.ctr]),(13,[ψH.ctr]),(15,[ψ2m.ctr]),(16,[ψ2R.ctr]),(17,[ψJ.ctr]),(18,[ψ2s.ctr]),(19,[ψ2Q.ctr]),(20,[ψ1H.ctr])]
def ψ2H.ann:Ann:=⟨[(0,([(3,.ptr (.pair tyI (.pair tyI (.sl true (.pair tyI (.pair tyI tyF)))))),(5,.ptr (.pair .bool (.pair tyS (.pair tyD (.sl true (.pair .bool (.pair (.sl true (.pair .str tyI)) (.sl true tyP)))))))),(6,.val tyI)],[(.exit 0,[]),(.ret,[(2,.val .bool)])]))],[],[(5,[(.normal,[(3,.ptr (.pair tyI (.pair tyI (.sl true (.pair tyI (.pair tyI tyF))))))])]),(7,[(.normal,[(3,.ptr (.pair tyI (.pair tyI (.sl true (.pair tyI (.pair tyI tyF))))))])]),(19,[(.normal,[(3,.ptr (.pair tyI (.pair tyI (.sl true (.pair tyI (.pair tyI tyF)))))),(5,.ptr (.pair .bool (.pair tyS (.pair tyD (.sl true (.pair .bool (.pair (.sl true (.pair .str tyI)) (.sl true tyP)))))))),(6,.val tyI),(9,.ptr (.pair .bool (.pair tyS (.pair tyD (.sl true (.pair .bool (.pair (.sl true (.pair .str tyI)) (.sl true tyP)))))))),(10,.ptr (.pair tyI (.pair .str (.sl true .str))))]),(.ret,[(2,.val .bool)])])]⟩
theorem ψ2H.ok:φ4 Tryz.prog 4 ψ2H.ctr:=fS (A:=ψ2H.ann) (eC ψ2J.ok (eC ψ2I.ok (eC ψh.ok (eC ψH.ok (eC ψ2m.ok (eC ψ2R.ok (eC ψJ.ok (eC ψ2s.ok (eC ψ2Q.ok (eC ψ1H.ok φ5.nil)))))))))) Tryz.func4 (by kernel_rfl) (by kernel_rfl) (fun x=>by kernel_rfl)
end
end Go.Proofs.YtleflckegnlgcaaGreatDoor
