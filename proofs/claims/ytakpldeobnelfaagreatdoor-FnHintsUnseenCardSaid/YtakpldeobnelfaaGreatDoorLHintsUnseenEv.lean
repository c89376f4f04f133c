import Derived.Test.YtakpldeobnelfaaGreatDoorShelf
import Derived.Lib.AppendIntMem
import Derived.Test.YtakpldeobnelfaaGreatDoorRf5
import Derived.Test.YtakpldeobnelfaaGreatDoorLHintsUnseenFns
import Derived.Test.YtakpldeobnelfaaGreatDoorProg
namespace Go.Proofs.YtakpldeobnelfaaGreatDoor
noncomputable section
open Go Go.Rf Go.Rf.G Go.Proofs Go.Lib
set_option maxRecDepth 100000
abbrev tyR:Ty:=.pair (.int .i64) (.pair (.int .i64) (.pair .str (.pair .str (.pair (.int .i64) (.int .i64)))))
abbrev tyE:Ty:=.pair .str (.pair (.int .i64) (.pair (.int .i64) (.pair (.int .i64) (.int .i64))))
abbrev tyF:Ty:=.pair .str (.pair .str (.int .i64))
abbrev tyP:Ty:=.pair .str (.pair .bool .str)
abbrev tyD:Ty:=.pair (.sl true tyF) (.pair (.int .i64) (.pair (.int .i64) .bool))
abbrev tyS:Ty:=.pair (.pair (.int .i64) (.sl true (.int .i64))) (.pair (.sl true tyE) (.pair (.int .i64) (.pair (.int .i64) (.int .i64))))
abbrev tyd:Ty:=.pair (.sl false tyF) (.pair (.int .i64) (.pair (.int .i64) .bool))
abbrev tys:Ty:=.pair (.pair (.int .i64) (.sl false (.int .i64))) (.pair (.sl false tyE) (.pair (.int .i64) (.pair (.int .i64) (.int .i64))))
abbrev tyI:Ty:=.int .i64
def bodyOf (f:Func):Code:=f.body.getD .skip
def tab:Tab:=[(3,⟨tyI,false,[],none,8,false⟩),
 (4,⟨.bool,false,[],none,1,false⟩),
 (5,⟨(.int .u8),false,[],none,1,false⟩),
 (9,⟨.str,false,[],none,16,false⟩),
 (22,⟨(.sl true (.int .u8)),false,[],some 5,24,false⟩),
 (24,⟨(.sl true tyF),false,[],some 78,24,false⟩),
 (26,⟨tyD,true,[(0,1,false),(1,1,false),(2,1,false),(3,1,false)],none,48,false⟩),
 (28,⟨(.sl true tyI),false,[],some 3,24,false⟩),
 (30,⟨(.pair tyI (.sl true tyI)),true,[(0,1,false),(1,1,false)],none,32,false⟩),
 (31,⟨(.sl true tyE),false,[],some 122,24,false⟩),
 (33,⟨tyS,true,[(0,2,true),(2,1,false),(3,1,false),(4,1,false),(5,1,false)],none,80,false⟩),
 (53,⟨(.pair tyD tyI),true,[(0,4,true),(4,1,false)],none,56,false⟩),
 (58,⟨(.sl true (.pair tyI (.pair tyI tyR))),false,[],some 115,24,false⟩),
 (66,⟨(.pair (.sl true tyE) (.pair tyI tyI)),true,[(0,1,false),(1,1,false),(2,1,false)],none,40,false⟩),
 (67,⟨(.sl true (.pair tyI (.pair tyI (.pair tyI tyR)))),false,[],some 126,24,false⟩),
 (69,⟨(.pair tyI (.pair tyI (.sl true tyE))),true,[(0,1,false),(1,1,false),(2,1,false)],none,40,false⟩),
 (78,⟨tyF,true,[(0,1,false),(1,1,false),(2,1,false)],none,40,true⟩),
 (84,⟨(.sl true tyF),false,[],some 136,24,false⟩),
 (91,⟨(.pair (.sl true (.int .u8)) (.pair tyI tyI)),true,[(0,1,false),(1,1,false),(2,1,false)],none,40,false⟩),
 (96,⟨(.sl true .str),false,[],some 9,24,false⟩),
 (97,⟨(.sl true (.sl true (.pair tyI (.pair tyI (.pair tyI tyR))))),false,[],some 67,24,false⟩),
 (111,⟨tyR,true,[(0,1,false),(1,1,false),(2,1,false),(3,1,false),(4,1,false),(5,1,false)],none,64,true⟩),
 (115,⟨(.pair tyI (.pair tyI tyR)),true,[(0,1,false),(1,1,false),(2,6,true)],none,80,true⟩),
 (122,⟨tyE,true,[(0,1,false),(1,1,false),(2,1,false),(3,1,false),(4,1,false)],none,48,true⟩),
 (126,⟨(.pair tyI (.pair tyI (.pair tyI tyR))),true,[(0,1,false),(1,1,false),(2,1,false),(3,6,true)],none,88,true⟩),
 (136,⟨tyF,true,[(0,1,false),(1,1,false),(2,1,false)],none,40,true⟩),
 (144,⟨(.sl true tyR),false,[],some 111,24,false⟩),
 (150,⟨(.sl true tyP),false,[],some 190,24,false⟩),
 (160,⟨(.pair .str .bool),true,[(0,1,false),(1,1,false)],none,24,true⟩),
 (190,⟨tyP,true,[(0,1,false),(1,1,false),(2,1,false)],none,40,true⟩),
 (207,⟨(.int .u32),false,[],none,4,false⟩),
 (210,⟨.box none .bool,false,[],none,16,false⟩)]
theorem tabOk:TabOk Tryz.prog tab:=Rf.tabOk (by kernel_rfl)
theorem mixed:Tryz.prog.follows .mixedOrders=true:=by kernel_rfl
instance laid:Laid:=andLaid (tabLaid Tryz.prog "internal/strconv.uint64pow10" .u64 Lib.pow10Tab) (sentLaid 1 2)
theorem eC {g:Nat} {c:Ctr} {E:Env} (h:CtrOk Tryz.prog g c) (k:EnvOk Tryz.prog E):EnvOk Tryz.prog ((g,[c])::E):=EnvOk.cons (ctrs_cons h ctrs_nil) k
theorem fS {A:Ann} {E:Env} {g:Nat} {fn:Func} {ctr:Ctr} (hE:EnvOk Tryz.prog E) (hf:Tryz.prog.funcs[g]?=some fn) (hn:(fn.name == "runtime.NumGoroutine")=false) (hb:fn.body=some (bodyOf fn)) (hev:∀x,evF tab E A ctr.g fn.ntmps fn.results.toList (bodyOf fn) x=ctr.fn x):CtrOk Tryz.prog g ctr:=fn_sound (A:=A) tabOk hE mixed (fn:=fn) (body:=bodyOf fn) hf hn hb hev
def ψ1f.sig:Sig:=⟨[.val (.sl false (.int .u8))],[.val .bool]⟩
def ψ1f.ctr:Ctr:=⟨ψ1f.sig,fun x=>ψ1f.f x⟩
def ψ1f.env:Env:=[]
def ψ1f.ann:Ann:=⟨[],[],[]⟩
theorem ψ1f.ok:CtrOk Tryz.prog 5 ψ1f.ctr:=fS (A:=ψ1f.ann) EnvOk.nil Tryz.func5 (by kernel_rfl) (by kernel_rfl) (fun x=>by kernel_rfl)
def ψ2x.sig:Sig:=⟨[.val (.sl false (.int .u8))],[.ptr (.pair (.sl false (.int .u8)) (.pair tyI tyI))]⟩
def ψ2x.ctr:Ctr:=⟨ψ2x.sig,fun x=>ψ2x.f x⟩
def ψ2x.env:Env:=[]
def ψ2x.ann:Ann:=⟨[(0,([(0,.val (.sl false (.int .u8))),(3,.val tyI),(4,.val tyI)],[(.exit 0,[(0,.val (.sl false (.int .u8))),(3,.val tyI)])]))],[],[]⟩
theorem ψ2x.ok:CtrOk Tryz.prog 17 ψ2x.ctr:=fS (A:=ψ2x.ann) EnvOk.nil Tryz.func17 (by kernel_rfl) (by kernel_rfl) (fun x=>by kernel_rfl)
def ψ39.sig:Sig:=⟨[.val tyd],[.val tyI]⟩
def ψ39.ctr:Ctr:=⟨ψ39.sig,fun x=>ψ39.f x⟩
def ψ39.env:Env:=[]
def ψ39.ann:Ann:=⟨[(0,([(1,.ptr tyd),(3,.val tyI),(4,.val tyI)],[(.exit 0,[(3,.val tyI)])]))],[],[]⟩
theorem ψ39.ok:CtrOk Tryz.prog 42 ψ39.ctr:=fS (A:=ψ39.ann) EnvOk.nil Tryz.func42 (by kernel_rfl) (by kernel_rfl) (fun x=>by kernel_rfl)
def ψ1k.sig:Sig:=⟨[.val tyI],[.val .str]⟩
def ψ1k.ctr:Ctr:=⟨ψ1k.sig,fun x=>ψ1k.f x⟩
def ψ1k.env:Env:=[]
def ψ1k.ann:Ann:=⟨[(0,([(0,.val tyI),(3,.val .str),(4,.val .bool)],[(.exit 0,[(3,.val .str),(4,.val .bool)])]))],[],[(7,[(.normal,[(0,.val tyI),(3,.val .str),(4,.val .bool),(5,.val tyI)])])]⟩
theorem ψ1k.ok:CtrOk Tryz.prog 49 ψ1k.ctr:=fS (A:=ψ1k.ann) EnvOk.nil Tryz.func49 (by kernel_rfl) (by kernel_rfl) (fun x=>by kernel_rfl)
def ψ2v.sig:Sig:=⟨[.ptr (.pair (.sl false (.int .u8)) (.pair tyI tyI))],[.val tyI]⟩
def ψ2v.ctr:Ctr:=⟨ψ2v.sig,fun x=>ψ2v.f x⟩
def ψ2v.env:Env:=[]
def ψ2v.ann:Ann:=⟨[],[],[]⟩
theorem ψ2v.ok:CtrOk Tryz.prog 106 ψ2v.ctr:=fS (A:=ψ2v.ann) EnvOk.nil Tryz.func106 (by kernel_rfl) (by kernel_rfl) (fun x=>by kernel_rfl)
def ψ2u.sig:Sig:=⟨[.ptr (.pair (.sl false (.int .u8)) (.pair tyI tyI)),.val tyI],[.val tyI]⟩
def ψ2u.ctr:Ctr:=⟨ψ2u.sig,fun x=>ψ2u.f x.1 x.2⟩
def ψ2u.env:Env:=[(106,[ψ2v.ctr])]
def ψ2u.ann:Ann:=⟨[],[],[]⟩
theorem ψ2u.ok:CtrOk Tryz.prog 51 ψ2u.ctr:=fS (A:=ψ2u.ann) (eC ψ2v.ok EnvOk.nil) Tryz.func51 (by kernel_rfl) (by kernel_rfl) (fun x=>by kernel_rfl)
def ψ30.sig:Sig:=⟨[.ptr (.pair (.sl false (.int .u8)) (.pair tyI tyI)),.val (.sl false tyI)],[.val tyI]⟩
def ψ30.ctr:Ctr:=⟨ψ30.sig,fun x=>ψ30.f x.1 x.2⟩
def ψ30.env:Env:=[(51,[ψ2u.ctr])]
def ψ30.ann:Ann:=⟨[],[],[]⟩
theorem ψ30.ok:CtrOk Tryz.prog 53 ψ30.ctr:=fS (A:=ψ30.ann) (eC ψ2u.ok EnvOk.nil) Tryz.func53 (by kernel_rfl) (by kernel_rfl) (fun x=>by kernel_rfl)
def ψ36.sig:Sig:=⟨[.val tyd,.val .str],[.val tyI]⟩
def ψ36.ctr:Ctr:=⟨ψ36.sig,fun x=>ψ36.f x.1 x.2⟩
def ψ36.env:Env:=[]
def ψ36.ann:Ann:=⟨[(0,([(1,.val .str),(2,.ptr tyd),(5,.val tyI)],[(.exit 0,[]),(.ret,[(4,.val tyI)])]))],[],[]⟩
theorem ψ36.ok:CtrOk Tryz.prog 48 ψ36.ctr:=fS (A:=ψ36.ann) EnvOk.nil Tryz.func48 (by kernel_rfl) (by kernel_rfl) (fun x=>by kernel_rfl)
def ψ2w.sig:Sig:=⟨[.val tyI,.val tyI,.val tyI],[.val .bool]⟩
def ψ2w.ctr:Ctr:=⟨ψ2w.sig,fun x=>ψ2w.f x.1 x.2.1 x.2.2⟩
def ψ2w.env:Env:=[]
def ψ2w.ann:Ann:=⟨[],[],[]⟩
theorem ψ2w.ok:CtrOk Tryz.prog 41 ψ2w.ctr:=fS (A:=ψ2w.ann) EnvOk.nil Tryz.func41 (by kernel_rfl) (by kernel_rfl) (fun x=>by kernel_rfl)
def ψ24.sig:Sig:=⟨[.val .str],[.val .bool]⟩
def ψ24.ctr:Ctr:=⟨ψ24.sig,fun x=>ψ24.f x⟩
def ψ24.env:Env:=[(41,[ψ2w.ctr])]
def ψ24.ann:Ann:=⟨[(0,([(0,.val .str),(3,.val tyI)],[(.exit 0,[(0,.val .str)]),(.ret,[(2,.val .bool)])]))],[],[(4,[(.normal,[(0,.val .str),(3,.val tyI)]),(.ret,[(2,.val .bool)])])]⟩
theorem ψ24.ok:CtrOk Tryz.prog 43 ψ24.ctr:=fS (A:=ψ24.ann) (eC ψ2w.ok EnvOk.nil) Tryz.func43 (by kernel_rfl) (by kernel_rfl) (fun x=>by kernel_rfl)
def ψ1q.sig:Sig:=⟨[.val tyd],[.val .bool]⟩
def ψ1q.ctr:Ctr:=⟨ψ1q.sig,fun x=>ψ1q.f x⟩
def ψ1q.env:Env:=[(41,[ψ2w.ctr]),(42,[ψ39.ctr]),(43,[ψ24.ctr])]
def ψ1q.ann:Ann:=⟨[(0,([(1,.ptr tyd),(3,.val tyI)],[(.exit 0,[]),(.ret,[(2,.val .bool)])]))],[],[(6,[(.normal,[(1,.ptr tyd),(3,.val tyI)]),(.ret,[(2,.val .bool)])])]⟩
theorem ψ1q.ok:CtrOk Tryz.prog 12 ψ1q.ctr:=fS (A:=ψ1q.ann) (eC ψ2w.ok (eC ψ39.ok (eC ψ24.ok EnvOk.nil))) Tryz.func12 (by kernel_rfl) (by kernel_rfl) (fun x=>by kernel_rfl)
def ψ34.sig:Sig:=⟨[.val tyd],[.val tyD]⟩
def ψ34.ctr:Ctr:=⟨ψ34.sig,fun x=>ψ34.f x⟩
def ψ34.env:Env:=[]
def ψ34.ann:Ann:=⟨[],[],[]⟩
theorem ψ34.ok:CtrOk Tryz.prog 26 ψ34.ctr:=fS (A:=ψ34.ann) EnvOk.nil Tryz.func26 (by kernel_rfl) (by kernel_rfl) (fun x=>by kernel_rfl)
def ψ33.sig:Sig:=⟨[.val tyd],[.val tyD,.val tyI]⟩
def ψ33.ctr:Ctr:=⟨ψ33.sig,fun x=>ψ33.f x⟩
def ψ33.env:Env:=[(12,[ψ1q.ctr]),(26,[ψ34.ctr])]
def ψ33.ann:Ann:=⟨[],[],[]⟩
theorem ψ33.ok:CtrOk Tryz.prog 76 ψ33.ctr:=fS (A:=ψ33.ann) (eC ψ1q.ok (eC ψ34.ok EnvOk.nil)) Tryz.func76 (by kernel_rfl) (by kernel_rfl) (fun x=>by kernel_rfl)
def ψ2U.sig:Sig:=⟨[.val tyd,.val .str],[.val tyD,.val tyI]⟩
def ψ2U.ctr:Ctr:=⟨ψ2U.sig,fun x=>ψ2U.f x.1 x.2⟩
def ψ2U.env:Env:=[(48,[ψ36.ctr]),(76,[ψ33.ctr])]
def ψ2U.ann:Ann:=⟨[],[],[]⟩
theorem ψ2U.ok:CtrOk Tryz.prog 33 ψ2U.ctr:=fS (A:=ψ2U.ann) (eC ψ36.ok (eC ψ33.ok EnvOk.nil)) Tryz.func33 (by kernel_rfl) (by kernel_rfl) (fun x=>by kernel_rfl)
def ψ37.sig:Sig:=⟨[.val (.sl false tyF),.val tyF],[.val (.sl true tyF)]⟩
def ψ37.ctr:Ctr:=⟨ψ37.sig,fun x=>ψ37.f x.1 x.2⟩
def ψ37.env:Env:=[]
def ψ37.ann:Ann:=⟨[(0,([(0,.val (.sl false tyF)),(3,.ptr tyF),(5,.val (.sl true tyF)),(6,.val .bool),(7,.val tyI)],[(.exit 0,[(3,.ptr tyF),(5,.val (.sl true tyF)),(6,.val .bool)])]))],[],[(6,[(.normal,[(0,.val (.sl false tyF)),(3,.ptr tyF),(5,.val (.sl true tyF)),(6,.val .bool),(7,.val tyI)])])]⟩
theorem ψ37.ok:CtrOk Tryz.prog 131 ψ37.ctr:=fS (A:=ψ37.ann) EnvOk.nil Tryz.func131 (by kernel_rfl) (by kernel_rfl) (fun x=>by kernel_rfl)
def ψ1j.sig:Sig:=⟨[.val tyd,.val .str],[.val tyD,.val tyI]⟩
def ψ1j.ctr:Ctr:=⟨ψ1j.sig,fun x=>ψ1j.f x.1 x.2⟩
def ψ1j.env:Env:=[(43,[ψ24.ctr]),(48,[ψ36.ctr]),(76,[ψ33.ctr]),(131,[ψ37.ctr])]
def ψ1j.ann:Ann:=⟨[],[],[]⟩
theorem ψ1j.ok:CtrOk Tryz.prog 70 ψ1j.ctr:=fS (A:=ψ1j.ann) (eC ψ24.ok (eC ψ36.ok (eC ψ33.ok (eC ψ37.ok EnvOk.nil)))) Tryz.func70 (by kernel_rfl) (by kernel_rfl) (fun x=>by kernel_rfl)
def ψ1p.sig:Sig:=⟨[.val tyI],[.val tyD]⟩
def ψ1p.ctr:Ctr:=⟨ψ1p.sig,fun x=>ψ1p.f x⟩
def ψ1p.env:Env:=[(41,[ψ2w.ctr])]
def ψ1p.ann:Ann:=⟨[],[],[]⟩
theorem ψ1p.ok:CtrOk Tryz.prog 102 ψ1p.ctr:=fS (A:=ψ1p.ann) (eC ψ2w.ok EnvOk.nil) Tryz.func102 (by kernel_rfl) (by kernel_rfl) (fun x=>by kernel_rfl)
def ψ2z.sig:Sig:=⟨[.ptr (.pair (.sl false (.int .u8)) (.pair tyI tyI)),.val (.sl false .str)],[.val .str]⟩
def ψ2z.ctr:Ctr:=⟨ψ2z.sig,fun x=>ψ2z.f x.1 x.2⟩
def ψ2z.env:Env:=[(51,[ψ2u.ctr])]
def ψ2z.ann:Ann:=⟨[],[],[]⟩
theorem ψ2z.ok:CtrOk Tryz.prog 55 ψ2z.ctr:=fS (A:=ψ2z.ann) (eC ψ2u.ok EnvOk.nil) Tryz.func55 (by kernel_rfl) (by kernel_rfl) (fun x=>by kernel_rfl)
def ψ38.sig:Sig:=⟨[.ptr (.pair (.sl false (.int .u8)) (.pair tyI tyI))],[.val .str]⟩
def ψ38.ctr:Ctr:=⟨ψ38.sig,fun x=>ψ38.f x⟩
def ψ38.env:Env:=[(55,[ψ2z.ctr])]
def ψ38.ann:Ann:=⟨[],[],[]⟩
theorem ψ38.ok:CtrOk Tryz.prog 109 ψ38.ctr:=fS (A:=ψ38.ann) (eC ψ2z.ok EnvOk.nil) Tryz.func109 (by kernel_rfl) (by kernel_rfl) (fun x=>by kernel_rfl)
def ψ1g.sig:Sig:=⟨[.val tyd,.val .str,.val .str],[.val tyD,.val tyI]⟩
def ψ1g.ctr:Ctr:=⟨ψ1g.sig,fun x=>ψ1g.f x.1 x.2.1 x.2.2⟩
def ψ1g.env:Env:=[(42,[ψ39.ctr]),(48,[ψ36.ctr]),(76,[ψ33.ctr])]
def ψ1g.ann:Ann:=⟨[],[],[]⟩
theorem ψ1g.ok:CtrOk Tryz.prog 110 ψ1g.ctr:=fS (A:=ψ1g.ann) (eC ψ39.ok (eC ψ36.ok (eC ψ33.ok EnvOk.nil))) Tryz.func110 (by kernel_rfl) (by kernel_rfl) (fun x=>by kernel_rfl)
def ψ31.sig:Sig:=⟨[.ptr (.pair (.sl false (.int .u8)) (.pair tyI tyI)),.val tyI],[.val .str]⟩
def ψ31.ctr:Ctr:=⟨ψ31.sig,fun x=>ψ31.f x.1 x.2⟩
def ψ31.env:Env:=[(51,[ψ2u.ctr]),(106,[ψ2v.ctr])]
def ψ31.ann:Ann:=⟨[(0,([(0,.ptr (.pair (.sl false (.int .u8)) (.pair tyI tyI))),(5,.val (.sl true (.int .u8))),(6,.val tyI),(7,.val tyI)],[(.exit 0,[(0,.ptr (.pair (.sl false (.int .u8)) (.pair tyI tyI))),(5,.val (.sl true (.int .u8)))])]))],[],[(7,[(.normal,[(0,.ptr (.pair (.sl false (.int .u8)) (.pair tyI tyI))),(5,.val (.sl true (.int .u8))),(6,.val tyI),(7,.val tyI),(8,.val tyI)])]),(9,[(.normal,[(0,.ptr (.pair (.sl false (.int .u8)) (.pair tyI tyI))),(5,.val (.sl true (.int .u8))),(6,.val tyI),(7,.val tyI),(8,.val tyI)])])]⟩
theorem ψ31.ok:CtrOk Tryz.prog 111 ψ31.ctr:=fS (A:=ψ31.ann) (eC ψ2u.ok (eC ψ2v.ok EnvOk.nil)) Tryz.func111 (by kernel_rfl) (by kernel_rfl) (fun x=>by kernel_rfl)
def ψ3A.sig:Sig:=⟨[.val (.sl false tyF),.val tyI],[.val (.sl true tyF)]⟩
def ψ3A.ctr:Ctr:=⟨ψ3A.sig,fun x=>ψ3A.f x.1 x.2⟩
def ψ3A.env:Env:=[]
def ψ3A.ann:Ann:=⟨[],[],[]⟩
theorem ψ3A.ok:CtrOk Tryz.prog 145 ψ3A.ctr:=fS (A:=ψ3A.ann) EnvOk.nil Tryz.func145 (by kernel_rfl) (by kernel_rfl) (fun x=>by kernel_rfl)
def ψ2J.sig:Sig:=⟨[.val tyd,.val .str,.val .str],[.val tyD,.val tyI]⟩
def ψ2J.ctr:Ctr:=⟨ψ2J.sig,fun x=>ψ2J.f x.1 x.2.1 x.2.2⟩
def ψ2J.env:Env:=[(43,[ψ24.ctr]),(48,[ψ36.ctr]),(76,[ψ33.ctr]),(131,[ψ37.ctr]),(145,[ψ3A.ctr])]
def ψ2J.ann:Ann:=⟨[],[],[(15,[(.normal,[(6,.ptr tyD),(8,.ptr tyD),(11,.ptr tyF)])])]⟩
theorem ψ2J.ok:CtrOk Tryz.prog 112 ψ2J.ctr:=fS (A:=ψ2J.ann) (eC ψ24.ok (eC ψ36.ok (eC ψ33.ok (eC ψ37.ok (eC ψ3A.ok EnvOk.nil))))) Tryz.func112 (by kernel_rfl) (by kernel_rfl) (fun x=>by kernel_rfl)
def ψ35.sig:Sig:=⟨[.ptr (.pair (.sl false (.int .u8)) (.pair tyI tyI))],[.val tyD]⟩
def ψ35.ctr:Ctr:=⟨ψ35.sig,fun x=>ψ35.f x⟩
def ψ35.env:Env:=[(33,[ψ2U.ctr]),(51,[ψ2u.ctr]),(70,[ψ1j.ctr]),(102,[ψ1p.ctr]),(109,[ψ38.ctr]),(110,[ψ1g.ctr]),(111,[ψ31.ctr]),(112,[ψ2J.ctr])]
def ψ35.ann:Ann:=⟨[(0,([(0,.ptr (.pair (.sl false (.int .u8)) (.pair tyI tyI))),(2,.ptr tyD),(3,.ptr tyD),(4,.val tyI)],[(.exit 0,[(0,.ptr (.pair (.sl false (.int .u8)) (.pair tyI tyI))),(2,.ptr tyD),(3,.ptr tyD)])]))],[(2,[(.normal,[(0,.ptr (.pair (.sl false (.int .u8)) (.pair tyI tyI))),(2,.ptr tyD),(3,.ptr tyD),(4,.val tyI),(6,.ptr tyD)])])],[(9,[(.normal,[(0,.ptr (.pair (.sl false (.int .u8)) (.pair tyI tyI))),(2,.ptr tyD),(3,.ptr tyD),(4,.val tyI),(5,.val .str),(6,.ptw tyD),(18,.val tyI),(27,.val .bool)])]),(12,[(.normal,[(0,.ptr (.pair (.sl false (.int .u8)) (.pair tyI tyI))),(2,.ptr tyD),(3,.ptr tyD),(4,.val tyI),(5,.val .str),(6,.ptw tyD),(18,.val tyI),(36,.val .bool)])]),(15,[(.normal,[(0,.ptr (.pair (.sl false (.int .u8)) (.pair tyI tyI))),(2,.ptr tyD),(3,.ptr tyD),(4,.val tyI),(6,.ptr tyD)])])]⟩
theorem ψ35.ok:CtrOk Tryz.prog 54 ψ35.ctr:=fS (A:=ψ35.ann) (eC ψ2U.ok (eC ψ2u.ok (eC ψ1j.ok (eC ψ1p.ok (eC ψ38.ok (eC ψ1g.ok (eC ψ31.ok (eC ψ2J.ok EnvOk.nil)))))))) Tryz.func54 (by kernel_rfl) (by kernel_rfl) (fun x=>by kernel_rfl)
def ψ32.sig:Sig:=⟨[.ptr (.pair (.sl false (.int .u8)) (.pair tyI tyI))],[.val tyD]⟩
def ψ32.ctr:Ctr:=⟨ψ32.sig,fun x=>ψ32.f x⟩
def ψ32.env:Env:=[(42,[ψ39.ctr]),(49,[ψ1k.ctr]),(51,[ψ2u.ctr]),(53,[ψ30.ctr]),(54,[ψ35.ctr]),(55,[ψ2z.ctr])]
def ψ32.ann:Ann:=⟨[(1,([(0,.ptr (.pair (.sl false (.int .u8)) (.pair tyI tyI))),(2,.ptr tyD),(3,.ptr tyD),(4,.val tyI)],[(.exit 1,[(0,.ptr (.pair (.sl false (.int .u8)) (.pair tyI tyI))),(2,.ptr tyD),(3,.ptr tyD)])]))],[],[]⟩
theorem ψ32.ok:CtrOk Tryz.prog 20 ψ32.ctr:=fS (A:=ψ32.ann) (eC ψ39.ok (eC ψ1k.ok (eC ψ2u.ok (eC ψ30.ok (eC ψ35.ok (eC ψ2z.ok EnvOk.nil)))))) Tryz.func20 (by kernel_rfl) (by kernel_rfl) (fun x=>by kernel_rfl)
def ψ1t.sig:Sig:=⟨[.val tyd,.val .str],[.val .str,.val .bool]⟩
def ψ1t.ctr:Ctr:=⟨ψ1t.sig,fun x=>ψ1t.f x.1 x.2⟩
def ψ1t.env:Env:=[(12,[ψ1q.ctr]),(48,[ψ36.ctr])]
def ψ1t.ann:Ann:=⟨[],[],[]⟩
theorem ψ1t.ok:CtrOk Tryz.prog 15 ψ1t.ctr:=fS (A:=ψ1t.ann) (eC ψ1q.ok (eC ψ36.ok EnvOk.nil)) Tryz.func15 (by kernel_rfl) (by kernel_rfl) (fun x=>by kernel_rfl)
def ψ1y.sig:Sig:=⟨[.val tyI],[.val .str]⟩
def ψ1y.ctr:Ctr:=⟨ψ1y.sig,fun x=>ψ1y.f x⟩
def ψ1y.env:Env:=[(41,[ψ2w.ctr]),(49,[ψ1k.ctr])]
def ψ1y.ann:Ann:=⟨[],[],[]⟩
theorem ψ1y.ok:CtrOk Tryz.prog 16 ψ1y.ctr:=fS (A:=ψ1y.ann) (eC ψ2w.ok (eC ψ1k.ok EnvOk.nil)) Tryz.func16 (by kernel_rfl) (by kernel_rfl) (fun x=>by kernel_rfl)
def ψ2O.sig:Sig:=⟨[.val tyI],[.val .str]⟩
def ψ2O.ctr:Ctr:=⟨ψ2O.sig,fun x=>ψ2O.f x⟩
def ψ2O.env:Env:=[(41,[ψ2w.ctr]),(49,[ψ1k.ctr])]
def ψ2O.ann:Ann:=⟨[],[],[]⟩
theorem ψ2O.ok:CtrOk Tryz.prog 29 ψ2O.ctr:=fS (A:=ψ2O.ann) (eC ψ2w.ok (eC ψ1k.ok EnvOk.nil)) Tryz.func29 (by kernel_rfl) (by kernel_rfl) (fun x=>by kernel_rfl)
def ψ2a.sig:Sig:=⟨[.val tyI],[.val tyI]⟩
def ψ2a.ctr:Ctr:=⟨ψ2a.sig,fun x=>ψ2a.f x⟩
def ψ2a.env:Env:=[]
def ψ2a.ann:Ann:=⟨[],[],[]⟩
theorem ψ2a.ok:CtrOk Tryz.prog 32 ψ2a.ctr:=fS (A:=ψ2a.ann) EnvOk.nil Tryz.func32 (by kernel_rfl) (by kernel_rfl) (fun x=>by kernel_rfl)
def ψ29.sig:Sig:=⟨[.val .str],[.val tyI,.val .bool]⟩
def ψ29.ctr:Ctr:=⟨ψ29.sig,fun x=>ψ29.f x⟩
def ψ29.env:Env:=[(49,[ψ1k.ctr])]
def ψ29.ann:Ann:=⟨[(0,([(0,.val .str),(4,.val tyI),(5,.val tyI),(6,.val tyI)],[(.exit 0,[(0,.val .str),(4,.val tyI),(5,.val tyI)])]))],[],[(6,[(.normal,[(0,.val .str),(4,.val tyI),(5,.val tyI),(6,.val tyI)])]),(9,[(.normal,[(0,.val .str),(4,.val tyI),(5,.val tyI)])])]⟩
theorem ψ29.ok:CtrOk Tryz.prog 183 ψ29.ctr:=fS (A:=ψ29.ann) (eC ψ1k.ok EnvOk.nil) Tryz.func183 (by kernel_rfl) (by kernel_rfl) (fun x=>by kernel_rfl)
def ψ20.sig:Sig:=⟨[.val .str],[.val tyI,.val .bool]⟩
def ψ20.ctr:Ctr:=⟨ψ20.sig,fun x=>ψ20.f x⟩
def ψ20.env:Env:=[(16,[ψ1y.ctr]),(29,[ψ2O.ctr]),(183,[ψ29.ctr])]
def ψ20.ann:Ann:=⟨[(0,([(0,.val .str),(4,.val tyI)],[(.exit 0,[]),(.ret,[(2,.val tyI),(3,.val .bool)])]))],[],[(6,[(.normal,[(0,.val .str),(4,.val tyI)]),(.ret,[(2,.val tyI),(3,.val .bool)])]),(4,[(.normal,[(0,.val .str),(4,.val tyI)]),(.ret,[(2,.val tyI),(3,.val .bool)])])]⟩
theorem ψ20.ok:CtrOk Tryz.prog 144 ψ20.ctr:=fS (A:=ψ20.ann) (eC ψ1y.ok (eC ψ2O.ok (eC ψ29.ok EnvOk.nil))) Tryz.func144 (by kernel_rfl) (by kernel_rfl) (fun x=>by kernel_rfl)
def ψ26.sig:Sig:=⟨[.val tyd,.val (.pair tyI (.sl false tyI))],[.val (.sl true .str)]⟩
def ψ26.ctr:Ctr:=⟨ψ26.sig,fun x=>ψ26.f x.1 x.2⟩
def ψ26.env:Env:=[(12,[ψ1q.ctr]),(144,[ψ20.ctr])]
def ψ26.ann:Ann:=⟨[(2,([(2,.ptr tyd),(3,.ptr (.pair tyI (.sl false tyI))),(5,.val (.sl true .str)),(6,.val tyI),(7,.val tyI),(8,.val .bool),(9,.val .bool),(10,.val tyI)],[(.exit 2,[(2,.ptr tyd),(3,.ptr (.pair tyI (.sl false tyI))),(5,.val (.sl true .str)),(6,.val tyI),(8,.val .bool),(9,.val .bool)])])),(0,([(2,.ptr tyd),(3,.ptr (.pair tyI (.sl false tyI))),(5,.val (.sl true .str)),(6,.val tyI)],[(.exit 0,[(5,.val (.sl true .str))])]))],[(3,[(.normal,[(2,.ptr tyd),(3,.ptr (.pair tyI (.sl false tyI))),(5,.val (.sl true .str)),(6,.val tyI),(7,.val tyI),(8,.val .bool),(9,.val .bool),(10,.val tyI)])])],[(13,[(.normal,[(2,.ptr tyd),(3,.ptr (.pair tyI (.sl false tyI))),(5,.val (.sl true .str)),(6,.val tyI)])])]⟩
theorem ψ26.ok:CtrOk Tryz.prog 85 ψ26.ctr:=fS (A:=ψ26.ann) (eC ψ1q.ok (eC ψ20.ok EnvOk.nil)) Tryz.func85 (by kernel_rfl) (by kernel_rfl) (fun x=>by kernel_rfl)
def ψ2I.sig:Sig:=⟨[.val tyd,.val .str],[.val tyD,.val tyI]⟩
def ψ2I.ctr:Ctr:=⟨ψ2I.sig,fun x=>ψ2I.f x.1 x.2⟩
def ψ2I.env:Env:=[(48,[ψ36.ctr]),(76,[ψ33.ctr]),(145,[ψ3A.ctr])]
def ψ2I.ann:Ann:=⟨[],[],[]⟩
theorem ψ2I.ok:CtrOk Tryz.prog 86 ψ2I.ctr:=fS (A:=ψ2I.ann) (eC ψ36.ok (eC ψ33.ok (eC ψ3A.ok EnvOk.nil))) Tryz.func86 (by kernel_rfl) (by kernel_rfl) (fun x=>by kernel_rfl)
def ψ2f.sig:Sig:=⟨[.val tyd,.val (.pair tyI (.sl false tyI))],[.val tyd,.val tyI]⟩
def ψ2f.ctr:Ctr:=⟨ψ2f.sig,fun x=>ψ2f.f x.1 x.2⟩
def ψ2f.env:Env:=[(32,[ψ2a.ctr]),(85,[ψ26.ctr]),(86,[ψ2I.ctr])]
def ψ2f.ann:Ann:=⟨[(0,([(2,.ptr tyd),(4,.ptr tyD),(6,.val (.sl true .str)),(7,.val tyI)],[(.exit 0,[(2,.ptr tyd),(4,.ptr tyD)]),(.ret,[(4,.ptr tyD),(5,.val tyI)])]))],[],[]⟩
theorem ψ2f.ok:CtrOk Tryz.prog 38 ψ2f.ctr:=fS (A:=ψ2f.ann) (eC ψ2a.ok (eC ψ26.ok (eC ψ2I.ok EnvOk.nil))) Tryz.func38 (by kernel_rfl) (by kernel_rfl) (fun x=>by kernel_rfl)
def ψ22.sig:Sig:=⟨[.val (.pair tyI (.sl false tyI))],[.val .bool]⟩
def ψ22.ctr:Ctr:=⟨ψ22.sig,fun x=>ψ22.f x⟩
def ψ22.env:Env:=[(41,[ψ2w.ctr])]
def ψ22.ann:Ann:=⟨[(0,([(1,.ptr (.pair tyI (.sl false tyI))),(3,.val tyI)],[(.exit 0,[]),(.ret,[(2,.val .bool)])]))],[],[(6,[(.normal,[(1,.ptr (.pair tyI (.sl false tyI))),(3,.val tyI)]),(.ret,[(2,.val .bool)])])]⟩
theorem ψ22.ok:CtrOk Tryz.prog 132 ψ22.ctr:=fS (A:=ψ22.ann) (eC ψ2w.ok EnvOk.nil) Tryz.func132 (by kernel_rfl) (by kernel_rfl) (fun x=>by kernel_rfl)
def ψ2X.sig:Sig:=⟨[.val tyI],[.val .str]⟩
def ψ2X.ctr:Ctr:=⟨ψ2X.sig,fun x=>ψ2X.f x⟩
def ψ2X.env:Env:=[(41,[ψ2w.ctr])]
def ψ2X.ann:Ann:=⟨[(0,([(0,.val tyI),(3,.val (.sl true (.int .u8)))],[(.exit 0,[(0,.val tyI),(3,.val (.sl true (.int .u8)))])]))],[],[]⟩
theorem ψ2X.ok:CtrOk Tryz.prog 135 ψ2X.ctr:=fS (A:=ψ2X.ann) (eC ψ2w.ok EnvOk.nil) Tryz.func135 (by kernel_rfl) (by kernel_rfl) (fun x=>by kernel_rfl)
def ψ1u.sig:Sig:=⟨[.val tyI,.val tyI],[.val .str]⟩
def ψ1u.ctr:Ctr:=⟨ψ1u.sig,fun x=>ψ1u.f x.1 x.2⟩
def ψ1u.env:Env:=[(41,[ψ2w.ctr])]
def ψ1u.ann:Ann:=⟨[(0,([(0,.val tyI),(1,.val tyI),(5,.val .str),(6,.val tyI)],[(.exit 0,[(0,.val tyI),(5,.val .str)])]))],[],[]⟩
theorem ψ1u.ok:CtrOk Tryz.prog 139 ψ1u.ctr:=fS (A:=ψ1u.ann) (eC ψ2w.ok EnvOk.nil) Tryz.func139 (by kernel_rfl) (by kernel_rfl) (fun x=>by kernel_rfl)
def ψ1i.sig:Sig:=⟨[.val .str],[.val tyI]⟩
def ψ1i.ctr:Ctr:=⟨ψ1i.sig,fun x=>ψ1i.f x⟩
def ψ1i.env:Env:=[]
def ψ1i.ann:Ann:=⟨[(2,([(0,.val .str),(3,.val tyI),(4,.val tyI),(5,.val tyI)],[(.exit 2,[(0,.val .str),(3,.val tyI),(4,.val tyI)])])),(0,([(0,.val .str),(3,.val tyI),(4,.val tyI)],[(.exit 0,[(3,.val tyI)])]))],[],[(11,[(.normal,[(0,.val .str),(3,.val tyI),(4,.val tyI),(5,.val tyI)])])]⟩
theorem ψ1i.ok:CtrOk Tryz.prog 140 ψ1i.ctr:=fS (A:=ψ1i.ann) EnvOk.nil Tryz.func140 (by kernel_rfl) (by kernel_rfl) (fun x=>by kernel_rfl)
def ψ1v.sig:Sig:=⟨[.val .str],[.val .str]⟩
def ψ1v.ctr:Ctr:=⟨ψ1v.sig,fun x=>ψ1v.f x⟩
def ψ1v.env:Env:=[(135,[ψ2X.ctr]),(139,[ψ1u.ctr]),(140,[ψ1i.ctr])]
def ψ1v.ann:Ann:=⟨[],[],[]⟩
theorem ψ1v.ok:CtrOk Tryz.prog 134 ψ1v.ctr:=fS (A:=ψ1v.ann) (eC ψ2X.ok (eC ψ1u.ok (eC ψ1i.ok EnvOk.nil))) Tryz.func134 (by kernel_rfl) (by kernel_rfl) (fun x=>by kernel_rfl)
def ψ2Q.sig:Sig:=⟨[.val (.pair tyI (.sl false tyI))],[.val .str]⟩
def ψ2Q.ctr:Ctr:=⟨ψ2Q.sig,fun x=>ψ2Q.f x⟩
def ψ2Q.env:Env:=[(132,[ψ22.ctr]),(134,[ψ1v.ctr]),(135,[ψ2X.ctr])]
def ψ2Q.ann:Ann:=⟨[(0,([(1,.ptr (.pair tyI (.sl false tyI))),(3,.val .str),(4,.val tyI)],[(.exit 0,[(3,.val .str)])]))],[],[]⟩
theorem ψ2Q.ok:CtrOk Tryz.prog 74 ψ2Q.ctr:=fS (A:=ψ2Q.ann) (eC ψ22.ok (eC ψ1v.ok (eC ψ2X.ok EnvOk.nil))) Tryz.func74 (by kernel_rfl) (by kernel_rfl) (fun x=>by kernel_rfl)
def ψ2d.sig:Sig:=⟨[.val tyd,.val .str],[.val tyD,.val tyI]⟩
def ψ2d.ctr:Ctr:=⟨ψ2d.sig,fun x=>ψ2d.f x.1 x.2⟩
def ψ2d.env:Env:=[(48,[ψ36.ctr]),(70,[ψ1j.ctr]),(86,[ψ2I.ctr])]
def ψ2d.ann:Ann:=⟨[],[],[(1,[(.normal,[(1,.val .str),(2,.ptr tyd),(4,.ptr tyD)]),(.ret,[(4,.ptr tyD),(5,.val tyI)])])]⟩
theorem ψ2d.ok:CtrOk Tryz.prog 180 ψ2d.ctr:=fS (A:=ψ2d.ann) (eC ψ36.ok (eC ψ1j.ok (eC ψ2I.ok EnvOk.nil))) Tryz.func180 (by kernel_rfl) (by kernel_rfl) (fun x=>by kernel_rfl)
def ψ2b.sig:Sig:=⟨[.val tyd,.val .str,.val .str],[.val tyD,.val tyI]⟩
def ψ2b.ctr:Ctr:=⟨ψ2b.sig,fun x=>ψ2b.f x.1 x.2.1 x.2.2⟩
def ψ2b.env:Env:=[(33,[ψ2U.ctr]),(110,[ψ1g.ctr]),(180,[ψ2d.ctr])]
def ψ2b.ann:Ann:=⟨[],[],[(2,[(.normal,[(1,.val .str),(6,.ptr tyD),(8,.ptr tyD),(9,.val tyI)])])]⟩
theorem ψ2b.ok:CtrOk Tryz.prog 133 ψ2b.ctr:=fS (A:=ψ2b.ann) (eC ψ2U.ok (eC ψ1g.ok (eC ψ2d.ok EnvOk.nil))) Tryz.func133 (by kernel_rfl) (by kernel_rfl) (fun x=>by kernel_rfl)
def ψ27.sig:Sig:=⟨[.val tyd,.val (.pair tyI (.sl false tyI))],[.val tyD,.val tyI]⟩
def ψ27.ctr:Ctr:=⟨ψ27.sig,fun x=>ψ27.f x.1 x.2⟩
def ψ27.env:Env:=[(12,[ψ1q.ctr]),(26,[ψ34.ctr]),(32,[ψ2a.ctr]),(74,[ψ2Q.ctr]),(112,[ψ2J.ctr]),(132,[ψ22.ctr]),(133,[ψ2b.ctr])]
def ψ27.ann:Ann:=⟨[],[],[(4,[(.normal,[(4,.ptr tyD),(6,.ptr tyD),(7,.val tyI)])])]⟩
theorem ψ27.ok:CtrOk Tryz.prog 71 ψ27.ctr:=fS (A:=ψ27.ann) (eC ψ1q.ok (eC ψ34.ok (eC ψ2a.ok (eC ψ2Q.ok (eC ψ2J.ok (eC ψ22.ok (eC ψ2b.ok EnvOk.nil))))))) Tryz.func71 (by kernel_rfl) (by kernel_rfl) (fun x=>by kernel_rfl)
def ψ2c.sig:Sig:=⟨[.val tyd],[.val tyS,.val tyd,.val tyI]⟩
def ψ2c.ctr:Ctr:=⟨ψ2c.sig,fun x=>ψ2c.f x⟩
def ψ2c.env:Env:=[(29,[ψ2O.ctr]),(32,[ψ2a.ctr]),(38,[ψ2f.ctr]),(70,[ψ1j.ctr]),(71,[ψ27.ctr])]
def ψ2c.ann:Ann:=⟨[],[],[]⟩
theorem ψ2c.ok:CtrOk Tryz.prog 27 ψ2c.ctr:=fS (A:=ψ2c.ann) (eC ψ2O.ok (eC ψ2a.ok (eC ψ2f.ok (eC ψ1j.ok (eC ψ27.ok EnvOk.nil))))) Tryz.func27 (by kernel_rfl) (by kernel_rfl) (fun x=>by kernel_rfl)
def ψ2E.sig:Sig:=⟨[.val .str],[.val tyI,.val tyI]⟩
def ψ2E.ctr:Ctr:=⟨ψ2E.sig,fun x=>ψ2E.f x⟩
def ψ2E.env:Env:=[(135,[ψ2X.ctr])]
def ψ2E.ann:Ann:=⟨[(2,([(0,.val .str),(4,.val tyI),(5,.val tyI),(6,.val tyI)],[(.exit 2,[(0,.val .str),(4,.val tyI),(5,.val tyI)])])),(0,([(0,.val .str),(4,.val tyI)],[(.exit 0,[]),(.ret,[(2,.val tyI),(3,.val tyI)])]))],[],[]⟩
theorem ψ2E.ok:CtrOk Tryz.prog 73 ψ2E.ctr:=fS (A:=ψ2E.ann) (eC ψ2X.ok EnvOk.nil) Tryz.func73 (by kernel_rfl) (by kernel_rfl) (fun x=>by kernel_rfl)
def ψ2W.sig:Sig:=⟨[.val .str],[.val .str,.val tyI]⟩
def ψ2W.ctr:Ctr:=⟨ψ2W.sig,fun x=>ψ2W.f x⟩
def ψ2W.env:Env:=[(73,[ψ2E.ctr]),(134,[ψ1v.ctr])]
def ψ2W.ann:Ann:=⟨[],[],[]⟩
theorem ψ2W.ok:CtrOk Tryz.prog 72 ψ2W.ctr:=fS (A:=ψ2W.ann) (eC ψ2E.ok (eC ψ1v.ok EnvOk.nil)) Tryz.func72 (by kernel_rfl) (by kernel_rfl) (fun x=>by kernel_rfl)
def ψ2C.sig:Sig:=⟨[.val .str],[.val (.pair tyI (.sl false tyI)),.val .bool]⟩
def ψ2C.ctr:Ctr:=⟨ψ2C.sig,fun x=>ψ2C.f x⟩
def ψ2C.env:Env:=[(72,[ψ2W.ctr]),(73,[ψ2E.ctr]),(74,[ψ2Q.ctr])]
def ψ2C.ann:Ann:=⟨[(0,([(0,.val .str),(2,.ptr (.pair tyI (.sl true tyI))),(4,.val .str),(8,.val tyI),(10,.ptr (.pair tyI (.sl true tyI))),(11,.val tyI),(12,.val tyI)],[(.exit 0,[(0,.val .str),(2,.ptr (.pair tyI (.sl true tyI))),(10,.ptr (.pair tyI (.sl true tyI)))])]))],[],[]⟩
theorem ψ2C.ok:CtrOk Tryz.prog 28 ψ2C.ctr:=fS (A:=ψ2C.ann) (eC ψ2W.ok (eC ψ2E.ok (eC ψ2Q.ok EnvOk.nil))) Tryz.func28 (by kernel_rfl) (by kernel_rfl) (fun x=>by kernel_rfl)
def ψ3C.sig:Sig:=⟨[.val .str],[.val .str,.val .str,.val .bool]⟩
def ψ3C.ctr:Ctr:=⟨ψ3C.sig,fun x=>ψ3C.f x⟩
def ψ3C.env:Env:=[(73,[ψ2E.ctr])]
def ψ3C.ann:Ann:=⟨[],[],[]⟩
theorem ψ3C.ok:CtrOk Tryz.prog 78 ψ3C.ctr:=fS (A:=ψ3C.ann) (eC ψ2E.ok EnvOk.nil) Tryz.func78 (by kernel_rfl) (by kernel_rfl) (fun x=>by kernel_rfl)
def ψ2A.sig:Sig:=⟨[.val .str,.val tyI],[.val tyI,.val .bool]⟩
def ψ2A.ctr:Ctr:=⟨ψ2A.sig,fun x=>ψ2A.f x.1 x.2⟩
def ψ2A.env:Env:=[(41,[ψ2w.ctr])]
def ψ2A.ann:Ann:=⟨[(0,([(0,.val .str),(1,.val tyI),(6,.val tyI),(7,.val tyI)],[(.exit 0,[(6,.val tyI)])]))],[],[]⟩
theorem ψ2A.ok:CtrOk Tryz.prog 136 ψ2A.ctr:=fS (A:=ψ2A.ann) (eC ψ2w.ok EnvOk.nil) Tryz.func136 (by kernel_rfl) (by kernel_rfl) (fun x=>by kernel_rfl)
def ψ21.sig:Sig:=⟨[.val .str],[.val .bool]⟩
def ψ21.ctr:Ctr:=⟨ψ21.sig,fun x=>ψ21.f x⟩
def ψ21.env:Env:=[(41,[ψ2w.ctr])]
def ψ21.ann:Ann:=⟨[],[],[]⟩
theorem ψ21.ok:CtrOk Tryz.prog 198 ψ21.ctr:=fS (A:=ψ21.ann) (eC ψ2w.ok EnvOk.nil) Tryz.func198 (by kernel_rfl) (by kernel_rfl) (fun x=>by kernel_rfl)
def ψ2G.sig:Sig:=⟨[.val tyR],[.val .bool]⟩
def ψ2G.ctr:Ctr:=⟨ψ2G.sig,fun x=>ψ2G.f x⟩
def ψ2G.env:Env:=[(41,[ψ2w.ctr]),(198,[ψ21.ctr])]
def ψ2G.ann:Ann:=⟨[],[],[(1,[(.normal,[(1,.ptr tyR)]),(.ret,[(2,.val .bool)])]),(4,[(.normal,[(1,.ptr tyR),(18,.val tyI),(19,.val .bool)])])]⟩
theorem ψ2G.ok:CtrOk Tryz.prog 181 ψ2G.ctr:=fS (A:=ψ2G.ann) (eC ψ2w.ok (eC ψ21.ok EnvOk.nil)) Tryz.func181 (by kernel_rfl) (by kernel_rfl) (fun x=>by kernel_rfl)
def ψ2R.sig:Sig:=⟨[.val tyR],[.val .str]⟩
def ψ2R.ctr:Ctr:=⟨ψ2R.sig,fun x=>ψ2R.f x⟩
def ψ2R.env:Env:=[(135,[ψ2X.ctr]),(139,[ψ1u.ctr]),(181,[ψ2G.ctr])]
def ψ2R.ann:Ann:=⟨[],[],[(5,[(.normal,[(1,.ptr tyR),(3,.val .str),(15,.val tyI),(16,.val .bool)])])]⟩
theorem ψ2R.ok:CtrOk Tryz.prog 137 ψ2R.ctr:=fS (A:=ψ2R.ann) (eC ψ2X.ok (eC ψ1u.ok (eC ψ2G.ok EnvOk.nil))) Tryz.func137 (by kernel_rfl) (by kernel_rfl) (fun x=>by kernel_rfl)
def ψ2D.sig:Sig:=⟨[.val .str],[.val tyR,.val .bool]⟩
def ψ2D.ctr:Ctr:=⟨ψ2D.sig,fun x=>ψ2D.f x⟩
def ψ2D.env:Env:=[(73,[ψ2E.ctr]),(78,[ψ3C.ctr]),(136,[ψ2A.ctr]),(137,[ψ2R.ctr])]
def ψ2D.ann:Ann:=⟨[],[(0,[(.normal,[(0,.val .str),(2,.ptr tyR),(8,.ptr tyR)])])],[(12,[(.normal,[(0,.val .str),(2,.ptr tyR),(8,.ptr tyR),(9,.val .str),(50,.val tyI),(67,.val .bool)])]),(18,[(.normal,[(0,.val .str),(2,.ptr tyR),(8,.ptr tyR)])])]⟩
theorem ψ2D.ok:CtrOk Tryz.prog 75 ψ2D.ctr:=fS (A:=ψ2D.ann) (eC ψ2E.ok (eC ψ3C.ok (eC ψ2A.ok (eC ψ2R.ok EnvOk.nil)))) Tryz.func75 (by kernel_rfl) (by kernel_rfl) (fun x=>by kernel_rfl)
def ψ2N.sig:Sig:=⟨[.val .str],[.val (.sl true (.pair tyI (.pair tyI tyR))),.val tyI]⟩
def ψ2N.ctr:Ctr:=⟨ψ2N.sig,fun x=>ψ2N.f x⟩
def ψ2N.env:Env:=[(72,[ψ2W.ctr]),(75,[ψ2D.ctr])]
def ψ2N.ann:Ann:=⟨[(0,([(0,.val .str),(4,.val (.sl true (.pair tyI (.pair tyI tyR)))),(5,.val tyI)],[(.exit 0,[(4,.val (.sl true (.pair tyI (.pair tyI tyR)))),(5,.val tyI)]),(.ret,[(2,.val (.sl true (.pair tyI (.pair tyI tyR)))),(3,.val tyI)])]))],[],[]⟩
theorem ψ2N.ok:CtrOk Tryz.prog 30 ψ2N.ctr:=fS (A:=ψ2N.ann) (eC ψ2W.ok (eC ψ2D.ok EnvOk.nil)) Tryz.func30 (by kernel_rfl) (by kernel_rfl) (fun x=>by kernel_rfl)
def ψ2V.sig:Sig:=⟨[.val tyd,.val .str,.val tyI],[.val tyD,.val tyI]⟩
def ψ2V.ctr:Ctr:=⟨ψ2V.sig,fun x=>ψ2V.f x.1 x.2.1 x.2.2⟩
def ψ2V.env:Env:=[(41,[ψ2w.ctr]),(48,[ψ36.ctr]),(76,[ψ33.ctr])]
def ψ2V.ann:Ann:=⟨[],[],[]⟩
theorem ψ2V.ok:CtrOk Tryz.prog 31 ψ2V.ctr:=fS (A:=ψ2V.ann) (eC ψ2w.ok (eC ψ36.ok (eC ψ33.ok EnvOk.nil))) Tryz.func31 (by kernel_rfl) (by kernel_rfl) (fun x=>by kernel_rfl)
def ψ2Z.sig:Sig:=⟨[.val .str,.val tyI,.val tyI],[.val (.sl true tyI),.val tyI]⟩
def ψ2Z.ctr:Ctr:=⟨ψ2Z.sig,fun x=>ψ2Z.f x.1 x.2.1 x.2.2⟩
def ψ2Z.env:Env:=[(73,[ψ2E.ctr])]
def ψ2Z.ann:Ann:=⟨[(0,([(0,.val .str),(1,.val tyI),(2,.val tyI),(8,.val (.sl true tyI)),(9,.val tyI)],[(.exit 0,[(1,.val tyI),(8,.val (.sl true tyI))]),(.ret,[(6,.val (.sl true tyI)),(7,.val tyI)])]))],[],[]⟩
theorem ψ2Z.ok:CtrOk Tryz.prog 77 ψ2Z.ctr:=fS (A:=ψ2Z.ann) (eC ψ2E.ok EnvOk.nil) Tryz.func77 (by kernel_rfl) (by kernel_rfl) (fun x=>by kernel_rfl)
def ψ1n.sig:Sig:=⟨[.val (.sl false tyE)],[.val .bool]⟩
def ψ1n.ctr:Ctr:=⟨ψ1n.sig,fun x=>ψ1n.f x⟩
def ψ1n.env:Env:=[(41,[ψ2w.ctr]),(198,[ψ21.ctr])]
def ψ1n.ann:Ann:=⟨[(0,([(0,.val (.sl false tyE)),(3,.val tyI)],[(.exit 0,[]),(.ret,[(2,.val .bool)])]))],[],[(7,[(.normal,[(0,.val (.sl false tyE)),(3,.val tyI)]),(.ret,[(2,.val .bool)])])]⟩
theorem ψ1n.ok:CtrOk Tryz.prog 182 ψ1n.ctr:=fS (A:=ψ1n.ann) (eC ψ2w.ok (eC ψ21.ok EnvOk.nil)) Tryz.func182 (by kernel_rfl) (by kernel_rfl) (fun x=>by kernel_rfl)
def ψ2Y.sig:Sig:=⟨[.val (.pair tyI (.pair tyI (.sl false tyE)))],[.val .bool]⟩
def ψ2Y.ctr:Ctr:=⟨ψ2Y.sig,fun x=>ψ2Y.f x⟩
def ψ2Y.env:Env:=[(41,[ψ2w.ctr]),(182,[ψ1n.ctr])]
def ψ2Y.ann:Ann:=⟨[(0,([(1,.ptr (.pair tyI (.pair tyI (.sl false tyE)))),(3,.val tyI)],[(.exit 0,[]),(.ret,[(2,.val .bool)])]))],[],[]⟩
theorem ψ2Y.ok:CtrOk Tryz.prog 138 ψ2Y.ctr:=fS (A:=ψ2Y.ann) (eC ψ2w.ok (eC ψ1n.ok EnvOk.nil)) Tryz.func138 (by kernel_rfl) (by kernel_rfl) (fun x=>by kernel_rfl)
def ψ2P.sig:Sig:=⟨[.val (.pair tyI (.pair tyI (.sl false tyE)))],[.val .str]⟩
def ψ2P.ctr:Ctr:=⟨ψ2P.sig,fun x=>ψ2P.f x⟩
def ψ2P.env:Env:=[(135,[ψ2X.ctr]),(138,[ψ2Y.ctr]),(139,[ψ1u.ctr]),(140,[ψ1i.ctr])]
def ψ2P.ann:Ann:=⟨[(0,([(1,.ptr (.pair tyI (.pair tyI (.sl false tyE)))),(3,.val .str),(4,.val tyI)],[(.exit 0,[(3,.val .str)])]))],[],[]⟩
theorem ψ2P.ok:CtrOk Tryz.prog 79 ψ2P.ctr:=fS (A:=ψ2P.ann) (eC ψ2X.ok (eC ψ2Y.ok (eC ψ1u.ok (eC ψ1i.ok EnvOk.nil)))) Tryz.func79 (by kernel_rfl) (by kernel_rfl) (fun x=>by kernel_rfl)
def ψ2B.sig:Sig:=⟨[.val .str],[.val (.pair tyI (.pair tyI (.sl true tyE))),.val .bool]⟩
def ψ2B.ctr:Ctr:=⟨ψ2B.sig,fun x=>ψ2B.f x⟩
def ψ2B.env:Env:=[(77,[ψ2Z.ctr]),(78,[ψ3C.ctr]),(79,[ψ2P.ctr])]
def ψ2B.ann:Ann:=⟨[(0,([(0,.val .str),(2,.ptr (.pair tyI (.pair tyI (.sl true tyE)))),(4,.val (.sl true tyI)),(5,.val tyI),(6,.ptr (.pair tyI (.pair tyI (.sl true tyE)))),(7,.val tyI)],[(.exit 0,[(0,.val .str),(2,.ptr (.pair tyI (.pair tyI (.sl true tyE)))),(6,.ptr (.pair tyI (.pair tyI (.sl true tyE))))]),(.ret,[(2,.ptr (.pair tyI (.pair tyI (.sl true tyE)))),(3,.val .bool)])]))],[],[]⟩
theorem ψ2B.ok:CtrOk Tryz.prog 34 ψ2B.ctr:=fS (A:=ψ2B.ann) (eC ψ2Z.ok (eC ψ3C.ok (eC ψ2P.ok EnvOk.nil))) Tryz.func34 (by kernel_rfl) (by kernel_rfl) (fun x=>by kernel_rfl)
def ψ2K.sig:Sig:=⟨[.val (.sl false tyE),.val (.sl false tyE)],[.val .bool]⟩
def ψ2K.ctr:Ctr:=⟨ψ2K.sig,fun x=>ψ2K.f x.1 x.2⟩
def ψ2K.env:Env:=[]
def ψ2K.ann:Ann:=⟨[(0,([(0,.val (.sl false tyE)),(1,.val (.sl false tyE)),(5,.val tyI)],[(.exit 0,[]),(.ret,[(4,.val .bool)])]))],[],[]⟩
theorem ψ2K.ok:CtrOk Tryz.prog 39 ψ2K.ctr:=fS (A:=ψ2K.ann) EnvOk.nil Tryz.func39 (by kernel_rfl) (by kernel_rfl) (fun x=>by kernel_rfl)
def ψ2T.sig:Sig:=⟨[.val (.sl false tyR)],[.val tyI]⟩
def ψ2T.ctr:Ctr:=⟨ψ2T.sig,fun x=>ψ2T.f x⟩
def ψ2T.env:Env:=[(137,[ψ2R.ctr]),(140,[ψ1i.ctr])]
def ψ2T.ann:Ann:=⟨[(0,([(0,.val (.sl false tyR)),(3,.val .str),(4,.val tyI)],[(.exit 0,[(3,.val .str)])]))],[],[]⟩
theorem ψ2T.ok:CtrOk Tryz.prog 141 ψ2T.ctr:=fS (A:=ψ2T.ann) (eC ψ2R.ok (eC ψ1i.ok EnvOk.nil)) Tryz.func141 (by kernel_rfl) (by kernel_rfl) (fun x=>by kernel_rfl)
def ψ1z.sig:Sig:=⟨[.val tyI,.val .str],[.val (.pair tyI (.pair tyI (.sl true tyE))),.val .bool]⟩
def ψ1z.ctr:Ctr:=⟨ψ1z.sig,fun x=>ψ1z.f x.1 x.2⟩
def ψ1z.env:Env:=[(29,[ψ2O.ctr]),(30,[ψ2N.ctr]),(141,[ψ2T.ctr])]
def ψ1z.ann:Ann:=⟨[(0,([(0,.val tyI),(4,.ptr (.pair tyI (.pair tyI (.sl true tyE)))),(6,.val (.sl true (.pair tyI (.pair tyI tyR)))),(8,.ptr (.pair tyI (.pair tyI (.sl true tyE)))),(9,.val (.sl true tyR)),(10,.val tyI)],[(.exit 0,[(4,.ptr (.pair tyI (.pair tyI (.sl true tyE)))),(6,.val (.sl true (.pair tyI (.pair tyI tyR)))),(8,.ptr (.pair tyI (.pair tyI (.sl true tyE)))),(9,.val (.sl true tyR))]),(.ret,[(4,.ptr (.pair tyI (.pair tyI (.sl true tyE)))),(5,.val .bool)])]))],[],[(10,[(.normal,[(0,.val tyI),(4,.ptr (.pair tyI (.pair tyI (.sl true tyE)))),(6,.val (.sl true (.pair tyI (.pair tyI tyR)))),(8,.ptr (.pair tyI (.pair tyI (.sl true tyE)))),(9,.val (.sl true tyR)),(10,.val tyI),(11,.ptr tyR)]),(.ret,[(4,.ptr (.pair tyI (.pair tyI (.sl true tyE)))),(5,.val .bool)])])]⟩
theorem ψ1z.ok:CtrOk Tryz.prog 80 ψ1z.ctr:=fS (A:=ψ1z.ann) (eC ψ2O.ok (eC ψ2N.ok (eC ψ2T.ok EnvOk.nil))) Tryz.func80 (by kernel_rfl) (by kernel_rfl) (fun x=>by kernel_rfl)
def ψ1x.sig:Sig:=⟨[.val tyI,.val .str,.val (.pair tyI (.pair tyI (.sl false tyE)))],[.val .bool]⟩
def ψ1x.ctr:Ctr:=⟨ψ1x.sig,fun x=>ψ1x.f x.1 x.2.1 x.2.2⟩
def ψ1x.env:Env:=[(39,[ψ2K.ctr]),(80,[ψ1z.ctr])]
def ψ1x.ann:Ann:=⟨[],[],[]⟩
theorem ψ1x.ok:CtrOk Tryz.prog 35 ψ1x.ctr:=fS (A:=ψ1x.ann) (eC ψ2K.ok (eC ψ1z.ok EnvOk.nil)) Tryz.func35 (by kernel_rfl) (by kernel_rfl) (fun x=>by kernel_rfl)
def ψ2e.sig:Sig:=⟨[.val tyI,.val .str],[.val (.sl true (.pair tyI (.pair tyI (.pair tyI tyR))))]⟩
def ψ2e.ctr:Ctr:=⟨ψ2e.sig,fun x=>ψ2e.f x.1 x.2⟩
def ψ2e.env:Env:=[(30,[ψ2N.ctr])]
def ψ2e.ann:Ann:=⟨[(0,([(0,.val tyI),(5,.val (.sl true (.pair tyI (.pair tyI (.pair tyI tyR))))),(6,.val (.sl true (.pair tyI (.pair tyI tyR)))),(8,.val tyI)],[(.exit 0,[(5,.val (.sl true (.pair tyI (.pair tyI (.pair tyI tyR)))))])]))],[],[]⟩
theorem ψ2e.ok:CtrOk Tryz.prog 36 ψ2e.ctr:=fS (A:=ψ2e.ann) (eC ψ2N.ok EnvOk.nil) Tryz.func36 (by kernel_rfl) (by kernel_rfl) (fun x=>by kernel_rfl)
def ψ3H.sig:Sig:=⟨[.val (.sl false (.pair tyI (.pair tyI (.pair tyI tyR)))),.val tyI,.val tyI],[.val (.sl true (.pair tyI (.pair tyI (.pair tyI tyR))))]⟩
def ψ3H.ctr:Ctr:=⟨ψ3H.sig,fun x=>ψ3H.f x.1 x.2.1 x.2.2⟩
def ψ3H.env:Env:=[]
def ψ3H.ann:Ann:=⟨[(0,([(0,.val (.sl false (.pair tyI (.pair tyI (.pair tyI tyR))))),(1,.val tyI),(2,.val tyI),(7,.val (.sl true (.pair tyI (.pair tyI (.pair tyI tyR))))),(8,.val tyI)],[(.exit 0,[(7,.val (.sl true (.pair tyI (.pair tyI (.pair tyI tyR)))))])]))],[],[(6,[(.normal,[(0,.val (.sl false (.pair tyI (.pair tyI (.pair tyI tyR))))),(1,.val tyI),(2,.val tyI),(7,.val (.sl true (.pair tyI (.pair tyI (.pair tyI tyR))))),(8,.val tyI),(9,.ptr tyR)])]),(8,[(.normal,[(0,.val (.sl false (.pair tyI (.pair tyI (.pair tyI tyR))))),(1,.val tyI),(2,.val tyI),(7,.val (.sl true (.pair tyI (.pair tyI (.pair tyI tyR))))),(8,.val tyI)])])]⟩
theorem ψ3H.ok:CtrOk Tryz.prog 81 ψ3H.ctr:=fS (A:=ψ3H.ann) EnvOk.nil Tryz.func81 (by kernel_rfl) (by kernel_rfl) (fun x=>by kernel_rfl)
def ψ3J.sig:Sig:=⟨[.val (.sl false (.pair tyI (.pair tyI (.pair tyI tyR))))],[.val (.sl true tyR)]⟩
def ψ3J.ctr:Ctr:=⟨ψ3J.sig,fun x=>ψ3J.f x⟩
def ψ3J.env:Env:=[]
def ψ3J.ann:Ann:=⟨[(0,([(0,.val (.sl false (.pair tyI (.pair tyI (.pair tyI tyR))))),(3,.val (.sl true tyR)),(4,.val tyI)],[(.exit 0,[(3,.val (.sl true tyR))])]))],[],[]⟩
theorem ψ3J.ok:CtrOk Tryz.prog 142 ψ3J.ctr:=fS (A:=ψ3J.ann) EnvOk.nil Tryz.func142 (by kernel_rfl) (by kernel_rfl) (fun x=>by kernel_rfl)
def ψ3F.sig:Sig:=⟨[.val tyR,.val (.sl false (.pair tyI (.pair tyI (.pair tyI tyR))))],[.val .bool]⟩
def ψ3F.ctr:Ctr:=⟨ψ3F.sig,fun x=>ψ3F.f x.1 x.2⟩
def ψ3F.env:Env:=[(141,[ψ2T.ctr]),(142,[ψ3J.ctr])]
def ψ3F.ann:Ann:=⟨[],[],[]⟩
theorem ψ3F.ok:CtrOk Tryz.prog 82 ψ3F.ctr:=fS (A:=ψ3F.ann) (eC ψ2T.ok (eC ψ3J.ok EnvOk.nil)) Tryz.func82 (by kernel_rfl) (by kernel_rfl) (fun x=>by kernel_rfl)
def ψ3G.sig:Sig:=⟨[.val (.sl false (.pair tyI (.pair tyI (.pair tyI tyR)))),.val tyI],[.val (.sl true (.pair tyI (.pair tyI (.pair tyI tyR))))]⟩
def ψ3G.ctr:Ctr:=⟨ψ3G.sig,fun x=>ψ3G.f x.1 x.2⟩
def ψ3G.env:Env:=[]
def ψ3G.ann:Ann:=⟨[(0,([(0,.val (.sl false (.pair tyI (.pair tyI (.pair tyI tyR))))),(1,.val tyI),(5,.val (.sl true (.pair tyI (.pair tyI (.pair tyI tyR))))),(6,.val tyI)],[(.exit 0,[(5,.val (.sl true (.pair tyI (.pair tyI (.pair tyI tyR)))))])]))],[],[(5,[(.normal,[(0,.val (.sl false (.pair tyI (.pair tyI (.pair tyI tyR))))),(1,.val tyI),(5,.val (.sl true (.pair tyI (.pair tyI (.pair tyI tyR))))),(6,.val tyI)])]),(7,[(.normal,[(0,.val (.sl false (.pair tyI (.pair tyI (.pair tyI tyR))))),(1,.val tyI),(5,.val (.sl true (.pair tyI (.pair tyI (.pair tyI tyR))))),(6,.val tyI)])])]⟩
theorem ψ3G.ok:CtrOk Tryz.prog 83 ψ3G.ctr:=fS (A:=ψ3G.ann) EnvOk.nil Tryz.func83 (by kernel_rfl) (by kernel_rfl) (fun x=>by kernel_rfl)
def ψ1o.sig:Sig:=⟨[.val (.sl false tyE),.val tyE],[.val (.sl true tyE)]⟩
def ψ1o.ctr:Ctr:=⟨ψ1o.sig,fun x=>ψ1o.f x.1 x.2⟩
def ψ1o.env:Env:=[]
def ψ1o.ann:Ann:=⟨[(0,([(0,.val (.sl false tyE)),(3,.ptr tyE),(5,.val (.sl true tyE)),(6,.val .bool),(7,.val tyI)],[(.exit 0,[(3,.ptr tyE),(5,.val (.sl true tyE)),(6,.val .bool)])]))],[(1,[(.normal,[(0,.val (.sl false tyE)),(3,.ptr tyE),(5,.val (.sl true tyE)),(6,.val .bool),(7,.val tyI)])])],[(7,[(.normal,[(0,.val (.sl false tyE)),(3,.ptr tyE),(5,.val (.sl true tyE)),(6,.val .bool),(7,.val tyI)])])]⟩
theorem ψ1o.ok:CtrOk Tryz.prog 107 ψ1o.ctr:=fS (A:=ψ1o.ann) EnvOk.nil Tryz.func107 (by kernel_rfl) (by kernel_rfl) (fun x=>by kernel_rfl)
def ψ1l.sig:Sig:=⟨[.val (.sl false tyE),.val .str],[.val (.sl true tyE)]⟩
def ψ1l.ctr:Ctr:=⟨ψ1l.sig,fun x=>ψ1l.f x.1 x.2⟩
def ψ1l.env:Env:=[]
def ψ1l.ann:Ann:=⟨[(0,([(0,.val (.sl false tyE)),(1,.val .str),(5,.val (.sl true tyE)),(6,.val tyI)],[(.exit 0,[(5,.val (.sl true tyE))])]))],[],[(5,[(.normal,[(0,.val (.sl false tyE)),(1,.val .str),(5,.val (.sl true tyE)),(6,.val tyI)])])]⟩
theorem ψ1l.ok:CtrOk Tryz.prog 143 ψ1l.ctr:=fS (A:=ψ1l.ann) EnvOk.nil Tryz.func143 (by kernel_rfl) (by kernel_rfl) (fun x=>by kernel_rfl)
def ψ3I.sig:Sig:=⟨[.val (.sl false tyE),.val (.pair tyI (.pair tyI (.pair tyI tyR)))],[.val (.sl true tyE)]⟩
def ψ3I.ctr:Ctr:=⟨ψ3I.sig,fun x=>ψ3I.f x.1 x.2⟩
def ψ3I.env:Env:=[(107,[ψ1o.ctr]),(143,[ψ1l.ctr])]
def ψ3I.ann:Ann:=⟨[],[],[]⟩
theorem ψ3I.ok:CtrOk Tryz.prog 84 ψ3I.ctr:=fS (A:=ψ3I.ann) (eC ψ1o.ok (eC ψ1l.ok EnvOk.nil)) Tryz.func84 (by kernel_rfl) (by kernel_rfl) (fun x=>by kernel_rfl)
def ψ2H.sig:Sig:=⟨[.val (.pair (.sl false tyE) (.pair tyI tyI)),.val (.sl false (.pair tyI (.pair tyI (.pair tyI tyR))))],[.val (.pair (.sl true tyE) (.pair tyI tyI))]⟩
def ψ2H.ctr:Ctr:=⟨ψ2H.sig,fun x=>ψ2H.f x.1 x.2⟩
def ψ2H.env:Env:=[(81,[ψ3H.ctr]),(82,[ψ3F.ctr]),(83,[ψ3G.ctr]),(84,[ψ3I.ctr])]
def ψ2H.ann:Ann:=⟨[(3,([(1,.val (.sl false (.pair tyI (.pair tyI (.pair tyI tyR))))),(4,.ptr (.pair (.sl true tyE) (.pair tyI tyI))),(5,.ptr (.pair (.sl true tyE) (.pair tyI tyI))),(6,.val tyI),(8,.val (.sl true (.pair tyI (.pair tyI (.pair tyI tyR))))),(9,.val tyI)],[(.exit 3,[(1,.val (.sl false (.pair tyI (.pair tyI (.pair tyI tyR))))),(4,.ptr (.pair (.sl true tyE) (.pair tyI tyI))),(5,.ptr (.pair (.sl true tyE) (.pair tyI tyI))),(6,.val tyI)])])),(0,([(1,.val (.sl false (.pair tyI (.pair tyI (.pair tyI tyR))))),(4,.ptr (.pair (.sl true tyE) (.pair tyI tyI))),(5,.ptr (.pair (.sl true tyE) (.pair tyI tyI))),(6,.val tyI)],[(.exit 0,[(1,.val (.sl false (.pair tyI (.pair tyI (.pair tyI tyR))))),(4,.ptr (.pair (.sl true tyE) (.pair tyI tyI))),(5,.ptr (.pair (.sl true tyE) (.pair tyI tyI)))])]))],[(1,[(.normal,[(1,.val (.sl false (.pair tyI (.pair tyI (.pair tyI tyR))))),(4,.ptr (.pair (.sl true tyE) (.pair tyI tyI))),(5,.ptr (.pair (.sl true tyE) (.pair tyI tyI))),(6,.val tyI)])])],[(9,[(.normal,[(1,.val (.sl false (.pair tyI (.pair tyI (.pair tyI tyR))))),(4,.ptr (.pair (.sl true tyE) (.pair tyI tyI))),(5,.ptr (.pair (.sl true tyE) (.pair tyI tyI))),(6,.val tyI),(8,.val (.sl true (.pair tyI (.pair tyI (.pair tyI tyR)))))]),(.exit 1,[(1,.val (.sl false (.pair tyI (.pair tyI (.pair tyI tyR))))),(4,.ptr (.pair (.sl true tyE) (.pair tyI tyI))),(5,.ptr (.pair (.sl true tyE) (.pair tyI tyI))),(6,.val tyI)])]),(20,[(.normal,[(1,.val (.sl false (.pair tyI (.pair tyI (.pair tyI tyR))))),(4,.ptr (.pair (.sl true tyE) (.pair tyI tyI))),(5,.ptr (.pair (.sl true tyE) (.pair tyI tyI))),(6,.val tyI)])])]⟩
theorem ψ2H.ok:CtrOk Tryz.prog 37 ψ2H.ctr:=fS (A:=ψ2H.ann) (eC ψ3H.ok (eC ψ3F.ok (eC ψ3G.ok (eC ψ3I.ok EnvOk.nil)))) Tryz.func37 (by kernel_rfl) (by kernel_rfl) (fun x=>by kernel_rfl)
def ψ25.sig:Sig:=⟨[.val tyd],[.val (.pair (.pair tyI (.sl false tyI)) (.pair (.sl true tyE) (.pair tyI (.pair tyI tyI)))),.val tyd,.val tyI]⟩
def ψ25.ctr:Ctr:=⟨ψ25.sig,fun x=>ψ25.f x⟩
def ψ25.env:Env:=[(12,[ψ1q.ctr]),(15,[ψ1t.ctr]),(16,[ψ1y.ctr]),(26,[ψ34.ctr]),(27,[ψ2c.ctr]),(28,[ψ2C.ctr]),(29,[ψ2O.ctr]),(30,[ψ2N.ctr]),(31,[ψ2V.ctr]),(32,[ψ2a.ctr]),(33,[ψ2U.ctr]),(34,[ψ2B.ctr]),(35,[ψ1x.ctr]),(36,[ψ2e.ctr]),(37,[ψ2H.ctr]),(38,[ψ2f.ctr])]
def ψ25.ann:Ann:=⟨[(0,([(1,.ptr tyd),(2,.ptr tyS),(3,.ptr tyD),(5,.ptr tyS),(8,.ptr (.pair tyI (.sl false tyI))),(9,.val tyI),(10,.val tyI)],[(.exit 0,[(1,.ptr tyd),(2,.ptr tyS),(3,.ptr tyD),(5,.ptr tyS),(8,.ptr (.pair tyI (.sl false tyI))),(9,.val tyI)]),(.ret,[(2,.ptr tyS),(3,.ptr tyD),(4,.val tyI)])])),(2,([(2,.ptr tyS),(3,.ptr tyD),(5,.ptr tyS),(8,.ptr (.pair tyI (.sl false tyI))),(19,.ptr tyD),(23,.ptr (.pair (.pair tyI (.sl false tyI)) (.pair (.sl true tyE) (.pair tyI (.pair tyI tyI))))),(24,.ptr (.pair (.sl true tyE) (.pair tyI tyI))),(25,.val (.sl true (.pair tyI (.pair tyI (.pair tyI tyR))))),(26,.val tyI)],[(.exit 2,[(2,.ptr tyS),(3,.ptr tyD),(5,.ptr tyS),(8,.ptr (.pair tyI (.sl false tyI))),(19,.ptr tyD),(23,.ptr (.pair (.pair tyI (.sl false tyI)) (.pair (.sl true tyE) (.pair tyI (.pair tyI tyI))))),(24,.ptr (.pair (.sl true tyE) (.pair tyI tyI))),(25,.val (.sl true (.pair tyI (.pair tyI (.pair tyI tyR)))))])]))],[(3,[(.normal,[(2,.ptr tyS),(3,.ptr tyD),(5,.ptr tyS),(8,.ptr (.pair tyI (.sl false tyI))),(19,.ptr tyD),(23,.ptr (.pair (.pair tyI (.sl false tyI)) (.pair (.sl true tyE) (.pair tyI (.pair tyI tyI))))),(24,.ptr (.pair (.sl true tyE) (.pair tyI tyI))),(25,.val (.sl true (.pair tyI (.pair tyI (.pair tyI tyR))))),(26,.val tyI)])])],[(18,[(.normal,[(1,.ptr tyd),(2,.ptr tyS),(3,.ptr tyD),(5,.ptr tyS),(8,.ptr (.pair tyI (.sl false tyI))),(9,.val tyI),(10,.val tyI)]),(.ret,[(2,.ptr tyS),(3,.ptr tyD),(4,.val tyI)])]),(23,[(.normal,[(2,.ptr tyS),(3,.ptr tyD),(5,.ptr tyS),(8,.ptr (.pair tyI (.sl false tyI))),(9,.val tyI),(18,.val tyI),(19,.ptr tyD)]),(.ret,[(2,.ptr tyS),(3,.ptr tyD),(4,.val tyI)])]),(40,[(.normal,[(2,.ptr tyS),(3,.ptr tyD),(5,.ptr tyS),(8,.ptr (.pair tyI (.sl false tyI))),(19,.ptr tyD),(23,.ptr (.pair (.pair tyI (.sl false tyI)) (.pair (.sl true tyE) (.pair tyI (.pair tyI tyI))))),(24,.ptr (.pair (.sl true tyE) (.pair tyI tyI))),(25,.val (.sl true (.pair tyI (.pair tyI (.pair tyI tyR))))),(26,.val tyI),(27,.val .str)]),(.exit 3,[(2,.ptr tyS),(3,.ptr tyD),(5,.ptr tyS),(8,.ptr (.pair tyI (.sl false tyI))),(19,.ptr tyD),(23,.ptr (.pair (.pair tyI (.sl false tyI)) (.pair (.sl true tyE) (.pair tyI (.pair tyI tyI))))),(24,.ptr (.pair (.sl true tyE) (.pair tyI tyI))),(25,.val (.sl true (.pair tyI (.pair tyI (.pair tyI tyR))))),(26,.val tyI)])])]⟩
theorem ψ25.ok:CtrOk Tryz.prog 8 ψ25.ctr:=fS (A:=ψ25.ann) (eC ψ1q.ok (eC ψ1t.ok (eC ψ1y.ok (eC ψ34.ok (eC ψ2c.ok (eC ψ2C.ok (eC ψ2O.ok (eC ψ2N.ok (eC ψ2V.ok (eC ψ2a.ok (eC ψ2U.ok (eC ψ2B.ok (eC ψ1x.ok (eC ψ2e.ok (eC ψ2H.ok (eC ψ2f.ok EnvOk.nil)))))))))))))))) Tryz.func8 (by kernel_rfl) (by kernel_rfl) (fun x=>by kernel_rfl)
def ψ2y.sig:Sig:=⟨[.ptr (.pair (.sl false (.int .u8)) (.pair tyI tyI)),.val tyI],[.val .bool]⟩
def ψ2y.ctr:Ctr:=⟨ψ2y.sig,fun x=>ψ2y.f x.1 x.2⟩
def ψ2y.env:Env:=[(51,[ψ2u.ctr])]
def ψ2y.ann:Ann:=⟨[],[],[]⟩
theorem ψ2y.ok:CtrOk Tryz.prog 19 ψ2y.ctr:=fS (A:=ψ2y.ann) (eC ψ2u.ok EnvOk.nil) Tryz.func19 (by kernel_rfl) (by kernel_rfl) (fun x=>by kernel_rfl)
def ψ2l.sig:Sig:=⟨[.val tys],[.val tyS]⟩
def ψ2l.ctr:Ctr:=⟨ψ2l.sig,fun x=>ψ2l.f x⟩
def ψ2l.env:Env:=[]
def ψ2l.ann:Ann:=⟨[],[],[]⟩
theorem ψ2l.ok:CtrOk Tryz.prog 157 ψ2l.ctr:=fS (A:=ψ2l.ann) EnvOk.nil Tryz.func157 (by kernel_rfl) (by kernel_rfl) (fun x=>by kernel_rfl)
def ψ2F.sig:Sig:=⟨[.val .str,.val tyI,.val tyI],[.val tyR,.val .bool]⟩
def ψ2F.ctr:Ctr:=⟨ψ2F.sig,fun x=>ψ2F.f x.1 x.2.1 x.2.2⟩
def ψ2F.env:Env:=[(41,[ψ2w.ctr]),(72,[ψ2W.ctr]),(75,[ψ2D.ctr])]
def ψ2F.ann:Ann:=⟨[],[],[]⟩
theorem ψ2F.ok:CtrOk Tryz.prog 193 ψ2F.ctr:=fS (A:=ψ2F.ann) (eC ψ2w.ok (eC ψ2W.ok (eC ψ2D.ok EnvOk.nil))) Tryz.func193 (by kernel_rfl) (by kernel_rfl) (fun x=>by kernel_rfl)
def ψ2S.sig:Sig:=⟨[.val tys,.val tyd],[.val .bool]⟩
def ψ2S.ctr:Ctr:=⟨ψ2S.sig,fun x=>ψ2S.f x.1 x.2⟩
def ψ2S.env:Env:=[(12,[ψ1q.ctr]),(15,[ψ1t.ctr]),(29,[ψ2O.ctr]),(30,[ψ2N.ctr]),(41,[ψ2w.ctr]),(132,[ψ22.ctr]),(182,[ψ1n.ctr]),(193,[ψ2F.ctr])]
def ψ2S.ann:Ann:=⟨[(0,([(2,.ptr tys),(3,.ptr tyd),(5,.val tyI)],[(.exit 0,[(2,.ptr tys),(3,.ptr tyd)]),(.ret,[(4,.val .bool)])])),(2,([(2,.ptr tys),(3,.ptr tyd),(10,.val tyI)],[(.exit 2,[]),(.ret,[(4,.val .bool)])]))],[],[(8,[(.normal,[(2,.ptr tys),(3,.ptr tyd),(5,.val tyI)]),(.ret,[(4,.val .bool)])]),(16,[(.normal,[(2,.ptr tys),(3,.ptr tyd),(10,.val tyI)]),(.ret,[(4,.val .bool)])])]⟩
theorem ψ2S.ok:CtrOk Tryz.prog 158 ψ2S.ctr:=fS (A:=ψ2S.ann) (eC ψ1q.ok (eC ψ1t.ok (eC ψ2O.ok (eC ψ2N.ok (eC ψ2w.ok (eC ψ22.ok (eC ψ1n.ok (eC ψ2F.ok EnvOk.nil)))))))) Tryz.func158 (by kernel_rfl) (by kernel_rfl) (fun x=>by kernel_rfl)
def ψ1m.sig:Sig:=⟨[.val (.sl false tyE),.val .str],[.val tyE,.val .bool]⟩
def ψ1m.ctr:Ctr:=⟨ψ1m.sig,fun x=>ψ1m.f x.1 x.2⟩
def ψ1m.env:Env:=[]
def ψ1m.ann:Ann:=⟨[(0,([(0,.val (.sl false tyE)),(1,.val .str),(4,.ptr tyE),(6,.val tyI)],[(.exit 0,[(4,.ptr tyE)]),(.ret,[(4,.ptr tyE),(5,.val .bool)])]))],[],[]⟩
theorem ψ1m.ok:CtrOk Tryz.prog 208 ψ1m.ctr:=fS (A:=ψ1m.ann) EnvOk.nil Tryz.func208 (by kernel_rfl) (by kernel_rfl) (fun x=>by kernel_rfl)
def ψ1w.sig:Sig:=⟨[.val tys,.val tyd,.val .str],[.val tyF,.val tyI]⟩
def ψ1w.ctr:Ctr:=⟨ψ1w.sig,fun x=>ψ1w.f x.1 x.2.1 x.2.2⟩
def ψ1w.env:Env:=[(15,[ψ1t.ctr]),(29,[ψ2O.ctr]),(193,[ψ2F.ctr]),(208,[ψ1m.ctr])]
def ψ1w.ann:Ann:=⟨[],[],[]⟩
theorem ψ1w.ok:CtrOk Tryz.prog 194 ψ1w.ctr:=fS (A:=ψ1w.ann) (eC ψ1t.ok (eC ψ2O.ok (eC ψ2F.ok (eC ψ1m.ok EnvOk.nil)))) Tryz.func194 (by kernel_rfl) (by kernel_rfl) (fun x=>by kernel_rfl)
def ψ1s.sig:Sig:=⟨[.val tys,.val tyd],[.val (.sl true tyF),.val tyI]⟩
def ψ1s.ctr:Ctr:=⟨ψ1s.sig,fun x=>ψ1s.f x.1 x.2⟩
def ψ1s.env:Env:=[(194,[ψ1w.ctr])]
def ψ1s.ann:Ann:=⟨[(0,([(2,.ptr tys),(3,.ptr tyd),(6,.val (.sl true tyF)),(7,.val tyI)],[(.exit 0,[(6,.val (.sl true tyF))]),(.ret,[(4,.val (.sl true tyF)),(5,.val tyI)])]))],[],[]⟩
theorem ψ1s.ok:CtrOk Tryz.prog 159 ψ1s.ctr:=fS (A:=ψ1s.ann) (eC ψ1w.ok EnvOk.nil) Tryz.func159 (by kernel_rfl) (by kernel_rfl) (fun x=>by kernel_rfl)
def ψ3K.sig:Sig:=⟨[.val (.sl false tyR),.val tyI,.val tyI],[.val tyR]⟩
def ψ3K.ctr:Ctr:=⟨ψ3K.sig,fun x=>ψ3K.f x.1 x.2.1 x.2.2⟩
def ψ3K.env:Env:=[(141,[ψ2T.ctr])]
def ψ3K.ann:Ann:=⟨[],[],[]⟩
theorem ψ3K.ok:CtrOk Tryz.prog 200 ψ3K.ctr:=fS (A:=ψ3K.ann) (eC ψ2T.ok EnvOk.nil) Tryz.func200 (by kernel_rfl) (by kernel_rfl) (fun x=>by kernel_rfl)
def ψ2r.sig:Sig:=⟨[.val tyF],[.val tyR]⟩
def ψ2r.ctr:Ctr:=⟨ψ2r.sig,fun x=>ψ2r.f x⟩
def ψ2r.env:Env:=[]
def ψ2r.ann:Ann:=⟨[],[],[]⟩
theorem ψ2r.ok:CtrOk Tryz.prog 209 ψ2r.ctr:=fS (A:=ψ2r.ann) EnvOk.nil Tryz.func209 (by kernel_rfl) (by kernel_rfl) (fun x=>by kernel_rfl)
def ψ2t.sig:Sig:=⟨[.val tyd,.val tyI,.val (.sl false tyF),.val tyI],[.val tyD,.val (.sl true tyE),.val tyI]⟩
def ψ2t.ctr:Ctr:=⟨ψ2t.sig,fun x=>ψ2t.f x.1 x.2.1 x.2.2.1 x.2.2.2⟩
def ψ2t.env:Env:=[(29,[ψ2O.ctr]),(32,[ψ2a.ctr]),(33,[ψ2U.ctr]),(110,[ψ1g.ctr]),(134,[ψ1v.ctr]),(137,[ψ2R.ctr]),(180,[ψ2d.ctr]),(200,[ψ3K.ctr]),(209,[ψ2r.ctr])]
def ψ2t.ann:Ann:=⟨[(0,([(1,.val tyI),(2,.val (.sl false tyF)),(3,.val tyI),(8,.ptr tyD),(11,.val (.sl true tyE)),(12,.ptr tyD),(13,.val tyI),(14,.val (.sl true tyR)),(15,.val tyI),(16,.val tyI)],[(.exit 0,[(1,.val tyI),(3,.val tyI),(8,.ptr tyD),(11,.val (.sl true tyE)),(12,.ptr tyD),(13,.val tyI),(14,.val (.sl true tyR))])]))],[],[(14,[(.normal,[(1,.val tyI),(8,.ptr tyD),(11,.val (.sl true tyE)),(12,.ptr tyD),(13,.val tyI)])]),(16,[(.normal,[(8,.ptr tyD),(11,.val (.sl true tyE)),(12,.ptr tyD),(13,.val tyI)])])]⟩
theorem ψ2t.ok:CtrOk Tryz.prog 195 ψ2t.ctr:=fS (A:=ψ2t.ann) (eC ψ2O.ok (eC ψ2a.ok (eC ψ2U.ok (eC ψ1g.ok (eC ψ1v.ok (eC ψ2R.ok (eC ψ2d.ok (eC ψ3K.ok (eC ψ2r.ok EnvOk.nil))))))))) Tryz.func195 (by kernel_rfl) (by kernel_rfl) (fun x=>by kernel_rfl)
def ψ2p.sig:Sig:=⟨[.val tyd,.val (.sl false .str)],[.val tyd,.val tyI]⟩
def ψ2p.ctr:Ctr:=⟨ψ2p.sig,fun x=>ψ2p.f x.1 x.2⟩
def ψ2p.env:Env:=[(48,[ψ36.ctr]),(86,[ψ2I.ctr])]
def ψ2p.ann:Ann:=⟨[(0,([(1,.val (.sl false .str)),(2,.ptr tyd),(4,.ptr tyD),(6,.val tyI)],[(.exit 0,[(2,.ptr tyd),(4,.ptr tyD)]),(.ret,[(4,.ptr tyD),(5,.val tyI)])]))],[(1,[(.normal,[(1,.val (.sl false .str)),(2,.ptr tyd),(4,.ptr tyD),(6,.val tyI)]),(.ret,[(4,.ptr tyD),(5,.val tyI)])])],[]⟩
theorem ψ2p.ok:CtrOk Tryz.prog 197 ψ2p.ctr:=fS (A:=ψ2p.ann) (eC ψ36.ok (eC ψ2I.ok EnvOk.nil)) Tryz.func197 (by kernel_rfl) (by kernel_rfl) (fun x=>by kernel_rfl)
def ψ2q.sig:Sig:=⟨[.val tys,.val tyd,.val tyI,.val tyI],[.val tys,.val tyd,.val tyI]⟩
def ψ2q.ctr:Ctr:=⟨ψ2q.sig,fun x=>ψ2q.f x.1 x.2.1 x.2.2.1 x.2.2.2⟩
def ψ2q.env:Env:=[(16,[ψ1y.ctr]),(29,[ψ2O.ctr]),(32,[ψ2a.ctr]),(197,[ψ2p.ctr])]
def ψ2q.ann:Ann:=⟨[],[],[]⟩
theorem ψ2q.ok:CtrOk Tryz.prog 196 ψ2q.ctr:=fS (A:=ψ2q.ann) (eC ψ1y.ok (eC ψ2O.ok (eC ψ2a.ok (eC ψ2p.ok EnvOk.nil)))) Tryz.func196 (by kernel_rfl) (by kernel_rfl) (fun x=>by kernel_rfl)
def ψ2s.sig:Sig:=⟨[.val tys,.val tyd,.val (.sl false tyF)],[.val tys,.val tyd,.val tyI]⟩
def ψ2s.ctr:Ctr:=⟨ψ2s.sig,fun x=>ψ2s.f x.1 x.2.1 x.2.2⟩
def ψ2s.env:Env:=[(15,[ψ1t.ctr]),(16,[ψ1y.ctr]),(29,[ψ2O.ctr]),(32,[ψ2a.ctr]),(71,[ψ27.ctr]),(79,[ψ2P.ctr]),(80,[ψ1z.ctr]),(133,[ψ2b.ctr]),(180,[ψ2d.ctr]),(195,[ψ2t.ctr]),(196,[ψ2q.ctr]),(197,[ψ2p.ctr])]
def ψ2s.ann:Ann:=⟨[(0,([(3,.ptr tyS),(6,.ptr tyS),(7,.ptr tyD),(10,.ptr tyd),(18,.val (.sl true tyI)),(20,.val tyI)],[(.exit 0,[(3,.ptr tyS),(6,.ptr tyS),(7,.ptr tyD),(10,.ptr tyd)]),(.ret,[(6,.ptr tyS),(7,.ptr tyd),(8,.val tyI)])]))],[],[(12,[(.normal,[(3,.ptr tys),(6,.ptr tyS),(7,.ptr tyD),(9,.val tyI),(10,.ptr tyd),(11,.val (.sl true tyE)),(13,.val tyI)])])]⟩
theorem ψ2s.ok:CtrOk Tryz.prog 160 ψ2s.ctr:=fS (A:=ψ2s.ann) (eC ψ1t.ok (eC ψ1y.ok (eC ψ2O.ok (eC ψ2a.ok (eC ψ27.ok (eC ψ2P.ok (eC ψ1z.ok (eC ψ2b.ok (eC ψ2d.ok (eC ψ2t.ok (eC ψ2q.ok (eC ψ2p.ok EnvOk.nil)))))))))))) Tryz.func160 (by kernel_rfl) (by kernel_rfl) (fun x=>by kernel_rfl)
def ψ23.sig:Sig:=⟨[.val tys,.val tyd],[.val tys,.val tyd,.val tyI]⟩
def ψ23.ctr:Ctr:=⟨ψ23.sig,fun x=>ψ23.f x.1 x.2⟩
def ψ23.env:Env:=[(26,[ψ34.ctr]),(157,[ψ2l.ctr]),(158,[ψ2S.ctr]),(159,[ψ1s.ctr]),(160,[ψ2s.ctr])]
def ψ23.ann:Ann:=⟨[],[],[]⟩
theorem ψ23.ok:CtrOk Tryz.prog 103 ψ23.ctr:=fS (A:=ψ23.ann) (eC ψ34.ok (eC ψ2l.ok (eC ψ2S.ok (eC ψ1s.ok (eC ψ2s.ok EnvOk.nil))))) Tryz.func103 (by kernel_rfl) (by kernel_rfl) (fun x=>by kernel_rfl)
def ψ28.sig:Sig:=⟨[.val (.sl false tyP)],[.val .bool]⟩
def ψ28.ctr:Ctr:=⟨ψ28.sig,fun x=>ψ28.f x⟩
def ψ28.env:Env:=[(198,[ψ21.ctr])]
def ψ28.ann:Ann:=⟨[(0,([(0,.val (.sl false tyP)),(3,.val tyI)],[(.exit 0,[]),(.ret,[(2,.val .bool)])]))],[],[(6,[(.normal,[(0,.val (.sl false tyP)),(3,.val tyI)]),(.ret,[(2,.val .bool)])])]⟩
theorem ψ28.ok:CtrOk Tryz.prog 161 ψ28.ctr:=fS (A:=ψ28.ann) (eC ψ21.ok EnvOk.nil) Tryz.func161 (by kernel_rfl) (by kernel_rfl) (fun x=>by kernel_rfl)
def ψ2i.sig:Sig:=⟨[.val (.sl false tyE),.val (.sl false tyP)],[.val tyI]⟩
def ψ2i.ctr:Ctr:=⟨ψ2i.sig,fun x=>ψ2i.f x.1 x.2⟩
def ψ2i.env:Env:=[(107,[ψ1o.ctr]),(143,[ψ1l.ctr])]
def ψ2i.ann:Ann:=⟨[(0,([(0,.val (.sl false tyE)),(1,.val (.sl false tyP)),(5,.val tyI)],[(.exit 0,[(0,.val (.sl false tyE))])]))],[],[(4,[(.normal,[(0,.val (.sl true tyE)),(1,.val (.sl false tyP)),(5,.val tyI)])])]⟩
theorem ψ2i.ok:CtrOk Tryz.prog 162 ψ2i.ctr:=fS (A:=ψ2i.ann) (eC ψ1o.ok (eC ψ1l.ok EnvOk.nil)) Tryz.func162 (by kernel_rfl) (by kernel_rfl) (fun x=>by kernel_rfl)
def ψ2g.sig:Sig:=⟨[.val tys],[.val .str]⟩
def ψ2g.ctr:Ctr:=⟨ψ2g.sig,fun x=>ψ2g.f x⟩
def ψ2g.env:Env:=[(29,[ψ2O.ctr])]
def ψ2g.ann:Ann:=⟨[],[],[]⟩
theorem ψ2g.ok:CtrOk Tryz.prog 201 ψ2g.ctr:=fS (A:=ψ2g.ann) (eC ψ2O.ok EnvOk.nil) Tryz.func201 (by kernel_rfl) (by kernel_rfl) (fun x=>by kernel_rfl)
def ψ2n.sig:Sig:=⟨[.val tys,.val tyd],[.val tys,.val tyd,.val tyI]⟩
def ψ2n.ctr:Ctr:=⟨ψ2n.sig,fun x=>ψ2n.f x.1 x.2⟩
def ψ2n.env:Env:=[(29,[ψ2O.ctr]),(32,[ψ2a.ctr]),(33,[ψ2U.ctr]),(71,[ψ27.ctr]),(180,[ψ2d.ctr]),(197,[ψ2p.ctr]),(201,[ψ2g.ctr])]
def ψ2n.ann:Ann:=⟨[],[],[]⟩
theorem ψ2n.ok:CtrOk Tryz.prog 210 ψ2n.ctr:=fS (A:=ψ2n.ann) (eC ψ2O.ok (eC ψ2a.ok (eC ψ2U.ok (eC ψ27.ok (eC ψ2d.ok (eC ψ2p.ok (eC ψ2g.ok EnvOk.nil))))))) Tryz.func210 (by kernel_rfl) (by kernel_rfl) (fun x=>by kernel_rfl)
def ψ2h.sig:Sig:=⟨[.val tys,.val tyd,.val tyR],[.val tys,.val tyd,.val (.pair tyI (.pair tyI (.pair tyI tyR))),.val tyI]⟩
def ψ2h.ctr:Ctr:=⟨ψ2h.sig,fun x=>ψ2h.f x.1 x.2.1 x.2.2⟩
def ψ2h.env:Env:=[(32,[ψ2a.ctr]),(110,[ψ1g.ctr]),(134,[ψ1v.ctr]),(137,[ψ2R.ctr]),(201,[ψ2g.ctr]),(210,[ψ2n.ctr])]
def ψ2h.ann:Ann:=⟨[],[],[(2,[(.normal,[(3,.ptr tys),(4,.ptr tyd),(5,.ptr tyR),(6,.ptr tyS),(7,.ptr tyD),(8,.ptr (.pair tyI (.pair tyI (.pair tyI tyR)))),(10,.val .str)]),(.ret,[(6,.ptr tys),(7,.ptr tyd),(8,.ptr (.pair tyI (.pair tyI (.pair tyI tyR)))),(9,.val tyI)])])]⟩
theorem ψ2h.ok:CtrOk Tryz.prog 199 ψ2h.ctr:=fS (A:=ψ2h.ann) (eC ψ2a.ok (eC ψ1g.ok (eC ψ1v.ok (eC ψ2R.ok (eC ψ2g.ok (eC ψ2n.ok EnvOk.nil)))))) Tryz.func199 (by kernel_rfl) (by kernel_rfl) (fun x=>by kernel_rfl)
def ψ2k.sig:Sig:=⟨[.val tys,.val tyd,.val (.sl false tyP)],[.val tys,.val tyd,.val tyI]⟩
def ψ2k.ctr:Ctr:=⟨ψ2k.sig,fun x=>ψ2k.f x.1 x.2.1 x.2.2⟩
def ψ2k.env:Env:=[(32,[ψ2a.ctr]),(33,[ψ2U.ctr]),(84,[ψ3I.ctr]),(199,[ψ2h.ctr]),(200,[ψ3K.ctr]),(201,[ψ2g.ctr])]
def ψ2k.ann:Ann:=⟨[(0,([(2,.val (.sl false tyP)),(3,.ptr tys),(4,.ptr tyd),(6,.ptr tyS),(7,.ptr tyD),(9,.val tyI),(10,.val (.sl true tyR)),(11,.val (.sl true tyE)),(12,.val tyI)],[(.exit 0,[(3,.ptr tys),(4,.ptr tyd),(6,.ptr tyS),(7,.ptr tyD),(9,.val tyI),(10,.val (.sl true tyR)),(11,.val (.sl true tyE))]),(.ret,[(6,.ptr tys),(7,.ptr tyd),(8,.val tyI)])]))],[],[(9,[(.normal,[(2,.val (.sl false tyP)),(3,.ptr tys),(4,.ptr tyd),(6,.ptr tyS),(7,.ptr tyD),(9,.val tyI),(10,.val (.sl true tyR)),(11,.val (.sl true tyE)),(12,.val tyI),(13,.ptr tyR)])])]⟩
theorem ψ2k.ok:CtrOk Tryz.prog 163 ψ2k.ctr:=fS (A:=ψ2k.ann) (eC ψ2a.ok (eC ψ2U.ok (eC ψ3I.ok (eC ψ2h.ok (eC ψ3K.ok (eC ψ2g.ok EnvOk.nil)))))) Tryz.func163 (by kernel_rfl) (by kernel_rfl) (fun x=>by kernel_rfl)
def ψ1h.sig:Sig:=⟨[.val tys,.val tyd,.val (.sl false tyP)],[.val tys,.val tyd,.val tyI]⟩
def ψ1h.ctr:Ctr:=⟨ψ1h.sig,fun x=>ψ1h.f x.1 x.2.1 x.2.2⟩
def ψ1h.env:Env:=[(26,[ψ34.ctr]),(157,[ψ2l.ctr]),(158,[ψ2S.ctr]),(161,[ψ28.ctr]),(162,[ψ2i.ctr]),(163,[ψ2k.ctr])]
def ψ1h.ann:Ann:=⟨[],[],[]⟩
theorem ψ1h.ok:CtrOk Tryz.prog 104 ψ1h.ctr:=fS (A:=ψ1h.ann) (eC ψ34.ok (eC ψ2l.ok (eC ψ2S.ok (eC ψ28.ok (eC ψ2i.ok (eC ψ2k.ok EnvOk.nil)))))) Tryz.func104 (by kernel_rfl) (by kernel_rfl) (fun x=>by kernel_rfl)
def ψ3B.sig:Sig:=⟨[.ptr (.pair (.sl false (.int .u8)) (.pair tyI tyI))],[.val .str]⟩
def ψ3B.ctr:Ctr:=⟨ψ3B.sig,fun x=>ψ3B.f x⟩
def ψ3B.env:Env:=[(55,[ψ2z.ctr])]
def ψ3B.ann:Ann:=⟨[],[],[]⟩
theorem ψ3B.ok:CtrOk Tryz.prog 164 ψ3B.ctr:=fS (A:=ψ3B.ann) (eC ψ2z.ok EnvOk.nil) Tryz.func164 (by kernel_rfl) (by kernel_rfl) (fun x=>by kernel_rfl)
def ψ2m.sig:Sig:=⟨[.ptr (.pair (.sl false (.int .u8)) (.pair tyI tyI))],[.val (.sl true tyP)]⟩
def ψ2m.ctr:Ctr:=⟨ψ2m.sig,fun x=>ψ2m.f x⟩
def ψ2m.env:Env:=[(19,[ψ2y.ctr]),(51,[ψ2u.ctr]),(111,[ψ31.ctr]),(164,[ψ3B.ctr])]
def ψ2m.ann:Ann:=⟨[(0,([(0,.ptr (.pair (.sl false (.int .u8)) (.pair tyI tyI))),(3,.val (.sl true tyP)),(4,.val tyI)],[(.exit 0,[(0,.ptr (.pair (.sl false (.int .u8)) (.pair tyI tyI))),(3,.val (.sl true tyP))])]))],[],[(6,[(.normal,[(0,.ptr (.pair (.sl false (.int .u8)) (.pair tyI tyI))),(3,.val (.sl true tyP)),(4,.val tyI),(5,.ptr tyP)])])]⟩
theorem ψ2m.ok:CtrOk Tryz.prog 105 ψ2m.ctr:=fS (A:=ψ2m.ann) (eC ψ2y.ok (eC ψ2u.ok (eC ψ31.ok (eC ψ3B.ok EnvOk.nil)))) Tryz.func105 (by kernel_rfl) (by kernel_rfl) (fun x=>by kernel_rfl)
def ψ2o.sig:Sig:=⟨[.ptr (.pair (.sl false (.int .u8)) (.pair tyI tyI))],[.val tys,.val tyd]⟩
def ψ2o.ctr:Ctr:=⟨ψ2o.sig,fun x=>ψ2o.f x⟩
def ψ2o.env:Env:=[(8,[ψ25.ctr]),(19,[ψ2y.ctr]),(51,[ψ2u.ctr]),(53,[ψ30.ctr]),(102,[ψ1p.ctr]),(103,[ψ23.ctr]),(104,[ψ1h.ctr]),(105,[ψ2m.ctr])]
def ψ2o.ann:Ann:=⟨[(0,([(0,.ptr (.pair (.sl false (.int .u8)) (.pair tyI tyI))),(2,.ptr tyS),(3,.ptr tyD),(4,.ptr tys),(5,.ptr tyd),(7,.val tyI)],[(.exit 0,[(0,.ptr (.pair (.sl false (.int .u8)) (.pair tyI tyI))),(2,.ptr tyS),(3,.ptr tyD),(4,.ptr tys),(5,.ptr tyd)]),(.ret,[(0,.ptr (.pair (.sl false (.int .u8)) (.pair tyI tyI))),(2,.ptr tys),(3,.ptr tyd)])]))],[(1,[(.normal,[(0,.ptr (.pair (.sl false (.int .u8)) (.pair tyI tyI))),(2,.ptr tyS),(3,.ptr tyD),(4,.ptr tys),(5,.ptr tyd),(7,.val tyI)]),(.ret,[(0,.ptr (.pair (.sl false (.int .u8)) (.pair tyI tyI))),(2,.ptr tys),(3,.ptr tyd)])])],[]⟩
theorem ψ2o.ok:CtrOk Tryz.prog 50 ψ2o.ctr:=fS (A:=ψ2o.ann) (eC ψ25.ok (eC ψ2y.ok (eC ψ2u.ok (eC ψ30.ok (eC ψ1p.ok (eC ψ23.ok (eC ψ1h.ok (eC ψ2m.ok EnvOk.nil)))))))) Tryz.func50 (by kernel_rfl) (by kernel_rfl) (fun x=>by kernel_rfl)
def ψ3E.sig:Sig:=⟨[.ptr (.pair (.sl false (.int .u8)) (.pair tyI tyI))],[.val tyE]⟩
def ψ3E.ctr:Ctr:=⟨ψ3E.sig,fun x=>ψ3E.f x⟩
def ψ3E.env:Env:=[(51,[ψ2u.ctr]),(164,[ψ3B.ctr])]
def ψ3E.ann:Ann:=⟨[],[],[]⟩
theorem ψ3E.ok:CtrOk Tryz.prog 108 ψ3E.ctr:=fS (A:=ψ3E.ann) (eC ψ2u.ok (eC ψ3B.ok EnvOk.nil)) Tryz.func108 (by kernel_rfl) (by kernel_rfl) (fun x=>by kernel_rfl)
def ψ3D.sig:Sig:=⟨[.ptr (.pair (.sl false (.int .u8)) (.pair tyI tyI))],[.val (.sl true tyE)]⟩
def ψ3D.ctr:Ctr:=⟨ψ3D.sig,fun x=>ψ3D.f x⟩
def ψ3D.env:Env:=[(19,[ψ2y.ctr]),(51,[ψ2u.ctr]),(53,[ψ30.ctr]),(55,[ψ2z.ctr]),(107,[ψ1o.ctr]),(108,[ψ3E.ctr])]
def ψ3D.ann:Ann:=⟨[(0,([(0,.ptr (.pair (.sl false (.int .u8)) (.pair tyI tyI))),(3,.val (.sl true tyE)),(4,.val tyI)],[(.exit 0,[(0,.ptr (.pair (.sl false (.int .u8)) (.pair tyI tyI))),(3,.val (.sl true tyE))])]))],[],[]⟩
theorem ψ3D.ok:CtrOk Tryz.prog 52 ψ3D.ctr:=fS (A:=ψ3D.ann) (eC ψ2y.ok (eC ψ2u.ok (eC ψ30.ok (eC ψ2z.ok (eC ψ1o.ok (eC ψ3E.ok EnvOk.nil)))))) Tryz.func52 (by kernel_rfl) (by kernel_rfl) (fun x=>by kernel_rfl)
def ψ2j.sig:Sig:=⟨[.ptr (.pair (.sl false (.int .u8)) (.pair tyI tyI))],[.val tys,.val tyd]⟩
def ψ2j.ctr:Ctr:=⟨ψ2j.sig,fun x=>ψ2j.f x⟩
def ψ2j.env:Env:=[(20,[ψ32.ctr]),(50,[ψ2o.ctr]),(51,[ψ2u.ctr]),(52,[ψ3D.ctr]),(53,[ψ30.ctr])]
def ψ2j.ann:Ann:=⟨[],[],[(11,[(.normal,[(0,.ptr (.pair (.sl false (.int .u8)) (.pair tyI tyI))),(2,.ptr tyS),(3,.ptr tyD),(4,.ptr tys),(5,.ptr tyd),(12,.val tyI),(34,.val .bool)])])]⟩
theorem ψ2j.ok:CtrOk Tryz.prog 18 ψ2j.ctr:=fS (A:=ψ2j.ann) (eC ψ32.ok (eC ψ2o.ok (eC ψ2u.ok (eC ψ3D.ok (eC ψ30.ok EnvOk.nil))))) Tryz.func18 (by kernel_rfl) (by kernel_rfl) (fun x=>by kernel_rfl)
def ψ1r.sig:Sig:=⟨[.val (.sl false (.int .u8))],[.val tyd]⟩
def ψ1r.ctr:Ctr:=⟨ψ1r.sig,fun x=>ψ1r.f x⟩
def ψ1r.env:Env:=[(17,[ψ2x.ctr]),(18,[ψ2j.ctr]),(19,[ψ2y.ctr]),(20,[ψ32.ctr])]
def ψ1r.ann:Ann:=⟨[],[],[]⟩
theorem ψ1r.ok:CtrOk Tryz.prog 6 ψ1r.ctr:=fS (A:=ψ1r.ann) (eC ψ2x.ok (eC ψ2j.ok (eC ψ2y.ok (eC ψ32.ok EnvOk.nil)))) Tryz.func6 (by kernel_rfl) (by kernel_rfl) (fun x=>by kernel_rfl)
def ψy.sig:Sig:=⟨[.val tyd],[.val tyD]⟩
def ψy.ctr:Ctr:=⟨ψy.sig,fun x=>ψy.f x⟩
def ψy.env:Env:=[]
def ψy.ann:Ann:=⟨[],[],[]⟩
theorem ψy.ok:CtrOk Tryz.prog 21 ψy.ctr:=fS (A:=ψy.ann) EnvOk.nil Tryz.func21 (by kernel_rfl) (by kernel_rfl) (fun x=>by kernel_rfl)
def ψ15.sig:Sig:=⟨[.val tyI,.val tyI,.val tyI],[.val .bool]⟩
def ψ15.ctr:Ctr:=⟨ψ15.sig,fun x=>ψ15.f x.1 x.2.1 x.2.2⟩
def ψ15.env:Env:=[]
def ψ15.ann:Ann:=⟨[],[],[]⟩
theorem ψ15.ok:CtrOk Tryz.prog 56 ψ15.ctr:=fS (A:=ψ15.ann) EnvOk.nil Tryz.func56 (by kernel_rfl) (by kernel_rfl) (fun x=>by kernel_rfl)
def ψS.sig:Sig:=⟨[.val .str],[.val .bool]⟩
def ψS.ctr:Ctr:=⟨ψS.sig,fun x=>ψS.f x⟩
def ψS.env:Env:=[(56,[ψ15.ctr])]
def ψS.ann:Ann:=⟨[(0,([(0,.val .str),(3,.val tyI)],[(.exit 0,[(0,.val .str)]),(.ret,[(2,.val .bool)])]))],[],[(4,[(.normal,[(0,.val .str),(3,.val tyI)]),(.ret,[(2,.val .bool)])])]⟩
theorem ψS.ok:CtrOk Tryz.prog 57 ψS.ctr:=fS (A:=ψS.ann) (eC ψ15.ok EnvOk.nil) Tryz.func57 (by kernel_rfl) (by kernel_rfl) (fun x=>by kernel_rfl)
def ψB.sig:Sig:=⟨[.val tyd],[.val .bool]⟩
def ψB.ctr:Ctr:=⟨ψB.sig,fun x=>ψB.f x⟩
def ψB.env:Env:=[(56,[ψ15.ctr]),(57,[ψS.ctr])]
def ψB.ann:Ann:=⟨[(0,([(1,.ptr tyd),(3,.val tyI),(23,.val (.sl false tyF)),(24,.val tyI),(25,.val tyI)],[(.exit 0,[(1,.ptr tyd),(3,.val tyI)]),(.ret,[(2,.val .bool)])]))],[],[(7,[(.normal,[(1,.ptr tyd),(3,.val tyI),(5,.ptr tyF),(23,.val (.sl false tyF)),(24,.val tyI),(25,.val tyI)]),(.ret,[(2,.val .bool)])])]⟩
theorem ψB.ok:CtrOk Tryz.prog 22 ψB.ctr:=fS (A:=ψB.ann) (eC ψ15.ok (eC ψS.ok EnvOk.nil)) Tryz.func22 (by kernel_rfl) (by kernel_rfl) (fun x=>by kernel_rfl)
def ψ11.sig:Sig:=⟨[.val tyd,.val .str],[.val tyI]⟩
def ψ11.ctr:Ctr:=⟨ψ11.sig,fun x=>ψ11.f x.1 x.2⟩
def ψ11.env:Env:=[]
def ψ11.ann:Ann:=⟨[(0,([(1,.val .str),(8,.val (.sl false tyF)),(9,.val tyI),(10,.val tyI)],[(.exit 0,[]),(.ret,[(4,.val tyI)])]))],[],[]⟩
theorem ψ11.ok:CtrOk Tryz.prog 58 ψ11.ctr:=fS (A:=ψ11.ann) EnvOk.nil Tryz.func58 (by kernel_rfl) (by kernel_rfl) (fun x=>by kernel_rfl)
def ψG.sig:Sig:=⟨[.val tyd,.val .str],[.val .str,.val .bool]⟩
def ψG.ctr:Ctr:=⟨ψG.sig,fun x=>ψG.f x.1 x.2⟩
def ψG.env:Env:=[(22,[ψB.ctr]),(58,[ψ11.ctr])]
def ψG.ann:Ann:=⟨[],[],[]⟩
theorem ψG.ok:CtrOk Tryz.prog 23 ψG.ctr:=fS (A:=ψG.ann) (eC ψB.ok (eC ψ11.ok EnvOk.nil)) Tryz.func23 (by kernel_rfl) (by kernel_rfl) (fun x=>by kernel_rfl)
def ψQ.sig:Sig:=⟨[.val (.pair tyI (.sl false tyI))],[.val .bool]⟩
def ψQ.ctr:Ctr:=⟨ψQ.sig,fun x=>ψQ.f x⟩
def ψQ.env:Env:=[(56,[ψ15.ctr])]
def ψQ.ann:Ann:=⟨[(0,([(1,.ptr (.pair tyI (.sl false tyI))),(6,.val (.sl false tyI)),(7,.val tyI),(8,.val tyI)],[(.exit 0,[(1,.ptr (.pair tyI (.sl false tyI)))]),(.ret,[(2,.val .bool)])]))],[],[(4,[(.normal,[(1,.ptr (.pair tyI (.sl false tyI))),(6,.val (.sl false tyI)),(7,.val tyI),(8,.val tyI)]),(.ret,[(2,.val .bool)])])]⟩
theorem ψQ.ok:CtrOk Tryz.prog 92 ψQ.ctr:=fS (A:=ψQ.ann) (eC ψ15.ok EnvOk.nil) Tryz.func92 (by kernel_rfl) (by kernel_rfl) (fun x=>by kernel_rfl)
def ψw.sig:Sig:=⟨[.val tyI],[.val .str]⟩
def ψw.ctr:Ctr:=⟨ψw.sig,fun x=>ψw.f x⟩
def ψw.env:Env:=[(56,[ψ15.ctr])]
def ψw.ann:Ann:=⟨[(0,([(0,.val tyI),(3,.val (.sl true (.int .u8)))],[(.exit 0,[(0,.val tyI),(3,.val (.sl true (.int .u8)))])]))],[],[]⟩
theorem ψw.ok:CtrOk Tryz.prog 189 ψw.ctr:=fS (A:=ψw.ann) (eC ψ15.ok EnvOk.nil) Tryz.func189 (by kernel_rfl) (by kernel_rfl) (fun x=>by kernel_rfl)
def ψ1J.sig:Sig:=⟨[.val .str],[.val .str]⟩
def ψ1J.ctr:Ctr:=⟨ψ1J.sig,fun x=>ψ1J.f x⟩
def ψ1J.env:Env:=[(189,[ψw.ctr])]
def ψ1J.ann:Ann:=⟨[],[],[]⟩
theorem ψ1J.ok:CtrOk Tryz.prog 186 ψ1J.ctr:=fS (A:=ψ1J.ann) (eC ψw.ok EnvOk.nil) Tryz.func186 (by kernel_rfl) (by kernel_rfl) (fun x=>by kernel_rfl)
def ψH.sig:Sig:=⟨[.val tyI,.val tyI],[.val .str]⟩
def ψH.ctr:Ctr:=⟨ψH.sig,fun x=>ψH.f x.1 x.2⟩
def ψH.env:Env:=[(56,[ψ15.ctr])]
def ψH.ann:Ann:=⟨[(0,([(0,.val tyI),(5,.val (.sl true (.int .u8))),(6,.val tyI)],[(.exit 0,[(5,.val (.sl true (.int .u8)))])]))],[],[]⟩
theorem ψH.ok:CtrOk Tryz.prog 187 ψH.ctr:=fS (A:=ψH.ann) (eC ψ15.ok EnvOk.nil) Tryz.func187 (by kernel_rfl) (by kernel_rfl) (fun x=>by kernel_rfl)
def ψ2.sig:Sig:=⟨[.val .str],[.val tyI]⟩
def ψ2.ctr:Ctr:=⟨ψ2.sig,fun x=>ψ2.f x⟩
def ψ2.env:Env:=[]
def ψ2.ann:Ann:=⟨[(2,([(0,.val .str),(3,.val (.int .u32)),(4,.val tyI),(18,.val tyI)],[(.exit 2,[(0,.val .str),(3,.val (.int .u32)),(4,.val tyI)])])),(0,([(0,.val .str),(3,.val (.int .u32)),(4,.val tyI)],[(.exit 0,[(3,.val (.int .u32))])]))],[],[(10,[(.normal,[(0,.val .str),(3,.val (.int .u32)),(4,.val tyI),(18,.val tyI)])])]⟩
theorem ψ2.ok:CtrOk Tryz.prog 188 ψ2.ctr:=fS (A:=ψ2.ann) EnvOk.nil Tryz.func188 (by kernel_rfl) (by kernel_rfl) (fun x=>by kernel_rfl)
def ψI.sig:Sig:=⟨[.val .str],[.val .str]⟩
def ψI.ctr:Ctr:=⟨ψI.sig,fun x=>ψI.f x⟩
def ψI.env:Env:=[(186,[ψ1J.ctr]),(187,[ψH.ctr]),(188,[ψ2.ctr])]
def ψI.ann:Ann:=⟨[],[],[]⟩
theorem ψI.ok:CtrOk Tryz.prog 150 ψI.ctr:=fS (A:=ψI.ann) (eC ψ1J.ok (eC ψH.ok (eC ψ2.ok EnvOk.nil))) Tryz.func150 (by kernel_rfl) (by kernel_rfl) (fun x=>by kernel_rfl)
def ψa.sig:Sig:=⟨[.val .str],[.val tyI,.val tyI]⟩
def ψa.ctr:Ctr:=⟨ψa.sig,fun x=>ψa.f x⟩
def ψa.env:Env:=[]
def ψa.ann:Ann:=⟨[(0,([(0,.val .str),(4,.val tyI),(5,.val tyI)],[(.exit 0,[]),(.ret,[(2,.val tyI),(3,.val tyI)])]))],[],[(8,[(.normal,[(4,.val tyI),(5,.val tyI)]),(.ret,[(2,.val tyI),(3,.val tyI)])])]⟩
theorem ψa.ok:CtrOk Tryz.prog 165 ψa.ctr:=fS (A:=ψa.ann) EnvOk.nil Tryz.func165 (by kernel_rfl) (by kernel_rfl) (fun x=>by kernel_rfl)
def ψv.sig:Sig:=⟨[.val .str],[.val .str,.val tyI]⟩
def ψv.ctr:Ctr:=⟨ψv.sig,fun x=>ψv.f x⟩
def ψv.env:Env:=[(150,[ψI.ctr]),(165,[ψa.ctr])]
def ψv.ann:Ann:=⟨[],[],[]⟩
theorem ψv.ok:CtrOk Tryz.prog 113 ψv.ctr:=fS (A:=ψv.ann) (eC ψI.ok (eC ψa.ok EnvOk.nil)) Tryz.func113 (by kernel_rfl) (by kernel_rfl) (fun x=>by kernel_rfl)
def ψ1B.sig:Sig:=⟨[.ptr (.pair .str .bool)],[.val tyI]⟩
def ψ1B.ctr:Ctr:=⟨ψ1B.sig,fun x=>ψ1B.f x⟩
def ψ1B.env:Env:=[(165,[ψa.ctr])]
def ψ1B.ann:Ann:=⟨[],[],[]⟩
theorem ψ1B.ok:CtrOk Tryz.prog 114 ψ1B.ctr:=fS (A:=ψ1B.ann) (eC ψa.ok EnvOk.nil) Tryz.func114 (by kernel_rfl) (by kernel_rfl) (fun x=>by kernel_rfl)
def ψY.sig:Sig:=⟨[.val .str],[.val (.pair tyI (.sl true tyI)),.val .bool]⟩
def ψY.ctr:Ctr:=⟨ψY.sig,fun x=>ψY.f x⟩
def ψY.env:Env:=[(92,[ψQ.ctr]),(113,[ψv.ctr]),(114,[ψ1B.ctr])]
def ψY.ann:Ann:=⟨[(0,([(0,.val .str),(2,.ptr (.pair tyI (.sl true tyI))),(5,.val tyI),(6,.ptr (.pair .str .bool)),(7,.ptr (.pair tyI (.sl true tyI))),(8,.val tyI),(9,.val tyI)],[(.exit 0,[(0,.val .str),(2,.ptr (.pair tyI (.sl true tyI))),(5,.val tyI),(6,.ptr (.pair .str .bool)),(7,.ptr (.pair tyI (.sl true tyI)))])]))],[],[]⟩
theorem ψY.ok:CtrOk Tryz.prog 59 ψY.ctr:=fS (A:=ψY.ann) (eC ψQ.ok (eC ψv.ok (eC ψ1B.ok EnvOk.nil))) Tryz.func59 (by kernel_rfl) (by kernel_rfl) (fun x=>by kernel_rfl)
def strconv_Itoa.ctr:Ctr:=itoaCtr
theorem strconv_Itoa.ok:CtrOk Tryz.prog 202 strconv_Itoa.ctr:=itoa_ok Tryz.func202 (by kernel_rfl) (by kernel_rfl) fun n h0 h1 w hL=>(Tryz.strconv_Itoa n h0 h1 w hL.1).mono fun e w' ⟨he,k,os,hw⟩=>⟨he,hw ▸ below_grow _ w (Nat.le_refl _) k os⟩
def ψ5.sig:Sig:=⟨[.val tyI],[.val .str]⟩
def ψ5.ctr:Ctr:=⟨ψ5.sig,fun x=>ψ5.f x⟩
def ψ5.env:Env:=[(202,[strconv_Itoa.ctr])]
def ψ5.ann:Ann:=⟨[],[],[]⟩
theorem ψ5.ok:CtrOk Tryz.prog 166 ψ5.ctr:=fS (A:=ψ5.ann) (eC strconv_Itoa.ok EnvOk.nil) Tryz.func166 (by kernel_rfl) (by kernel_rfl) (fun x=>by kernel_rfl)
def ψ17.sig:Sig:=⟨[.val .str,.val tyI],[.val .str]⟩
def ψ17.ctr:Ctr:=⟨ψ17.sig,fun x=>ψ17.f x.1 x.2⟩
def ψ17.env:Env:=[(56,[ψ15.ctr]),(166,[ψ5.ctr])]
def ψ17.ann:Ann:=⟨[],[],[]⟩
theorem ψ17.ok:CtrOk Tryz.prog 116 ψ17.ctr:=fS (A:=ψ17.ann) (eC ψ15.ok (eC ψ5.ok EnvOk.nil)) Tryz.func116 (by kernel_rfl) (by kernel_rfl) (fun x=>by kernel_rfl)
def ψk.sig:Sig:=⟨[.val tyI],[.val .str]⟩
def ψk.ctr:Ctr:=⟨ψk.sig,fun x=>ψk.f x⟩
def ψk.env:Env:=[(116,[ψ17.ctr])]
def ψk.ann:Ann:=⟨[],[],[]⟩
theorem ψk.ok:CtrOk Tryz.prog 61 ψk.ctr:=fS (A:=ψk.ann) (eC ψ17.ok EnvOk.nil) Tryz.func61 (by kernel_rfl) (by kernel_rfl) (fun x=>by kernel_rfl)
def ψ1A.sig:Sig:=⟨[.ptr (.pair .str .bool),.val tyI],[.val .str]⟩
def ψ1A.ctr:Ctr:=⟨ψ1A.sig,fun x=>ψ1A.f x.1 x.2⟩
def ψ1A.env:Env:=[]
def ψ1A.ann:Ann:=⟨[],[],[]⟩
theorem ψ1A.ok:CtrOk Tryz.prog 168 ψ1A.ctr:=fS (A:=ψ1A.ann) EnvOk.nil Tryz.func168 (by kernel_rfl) (by kernel_rfl) (fun x=>by kernel_rfl)
def ψ1C.sig:Sig:=⟨[.ptr (.pair .str .bool)],[.val .str]⟩
def ψ1C.ctr:Ctr:=⟨ψ1C.sig,fun x=>ψ1C.f x⟩
def ψ1C.env:Env:=[(114,[ψ1B.ctr]),(168,[ψ1A.ctr])]
def ψ1C.ann:Ann:=⟨[],[],[]⟩
theorem ψ1C.ok:CtrOk Tryz.prog 169 ψ1C.ctr:=fS (A:=ψ1C.ann) (eC ψ1B.ok (eC ψ1A.ok EnvOk.nil)) Tryz.func169 (by kernel_rfl) (by kernel_rfl) (fun x=>by kernel_rfl)
def ψW.sig:Sig:=⟨[.val .str,.val tyI],[.val tyI,.val .bool]⟩
def ψW.ctr:Ctr:=⟨ψW.sig,fun x=>ψW.f x.1 x.2⟩
def ψW.env:Env:=[(56,[ψ15.ctr])]
def ψW.ann:Ann:=⟨[(0,([(0,.val .str),(6,.val tyI),(17,.val tyI),(18,.val tyI)],[(.exit 0,[(6,.val tyI)])]))],[],[]⟩
theorem ψW.ok:CtrOk Tryz.prog 184 ψW.ctr:=fS (A:=ψW.ann) (eC ψ15.ok EnvOk.nil) Tryz.func184 (by kernel_rfl) (by kernel_rfl) (fun x=>by kernel_rfl)
def ψP.sig:Sig:=⟨[.val .str],[.val .bool]⟩
def ψP.ctr:Ctr:=⟨ψP.sig,fun x=>ψP.f x⟩
def ψP.env:Env:=[(56,[ψ15.ctr])]
def ψP.ann:Ann:=⟨[],[],[]⟩
theorem ψP.ok:CtrOk Tryz.prog 147 ψP.ctr:=fS (A:=ψP.ann) (eC ψ15.ok EnvOk.nil) Tryz.func147 (by kernel_rfl) (by kernel_rfl) (fun x=>by kernel_rfl)
def ψc.sig:Sig:=⟨[.val tyR],[.val .bool]⟩
def ψc.ctr:Ctr:=⟨ψc.sig,fun x=>ψc.f x⟩
def ψc.env:Env:=[(56,[ψ15.ctr]),(147,[ψP.ctr])]
def ψc.ann:Ann:=⟨[],[],[(4,[(.normal,[(1,.ptr tyR),(3,.ptr tyR),(4,.val .bool),(5,.val tyI),(12,.val tyI),(13,.val .bool)])])]⟩
theorem ψc.ok:CtrOk Tryz.prog 185 ψc.ctr:=fS (A:=ψc.ann) (eC ψ15.ok (eC ψP.ok EnvOk.nil)) Tryz.func185 (by kernel_rfl) (by kernel_rfl) (fun x=>by kernel_rfl)
def ψZ.sig:Sig:=⟨[.val .str],[.val tyR,.val .bool]⟩
def ψZ.ctr:Ctr:=⟨ψZ.sig,fun x=>ψZ.f x⟩
def ψZ.env:Env:=[(114,[ψ1B.ctr]),(168,[ψ1A.ctr]),(169,[ψ1C.ctr]),(184,[ψW.ctr]),(185,[ψc.ctr])]
def ψZ.ann:Ann:=⟨[],[(0,[(.normal,[(2,.ptr tyR),(4,.ptr (.pair .str .bool)),(5,.ptr tyR)])])],[(8,[(.normal,[(2,.ptr tyR),(4,.ptr (.pair .str .bool)),(5,.ptr tyR),(16,.val tyI),(27,.val .bool)])]),(12,[(.normal,[(2,.ptr tyR),(4,.ptr (.pair .str .bool)),(5,.ptr tyR)])])]⟩
theorem ψZ.ok:CtrOk Tryz.prog 148 ψZ.ctr:=fS (A:=ψZ.ann) (eC ψ1B.ok (eC ψ1A.ok (eC ψ1C.ok (eC ψW.ok (eC ψc.ok EnvOk.nil))))) Tryz.func148 (by kernel_rfl) (by kernel_rfl) (fun x=>by kernel_rfl)
def ψj.sig:Sig:=⟨[.val .str],[.val (.sl false (.pair tyI (.pair tyI tyR))),.val tyI]⟩
def ψj.ctr:Ctr:=⟨ψj.sig,fun x=>ψj.f x⟩
def ψj.env:Env:=[(113,[ψv.ctr]),(148,[ψZ.ctr])]
def ψj.ann:Ann:=⟨[(0,([(0,.val .str),(4,.val (.sl true (.pair tyI (.pair tyI tyR)))),(5,.val tyI)],[(.ret,[(2,.val (.sl true (.pair tyI (.pair tyI tyR)))),(3,.val tyI)])]))],[],[]⟩
theorem ψj.ok:CtrOk Tryz.prog 94 ψj.ctr:=fS (A:=ψj.ann) (eC ψv.ok (eC ψZ.ok EnvOk.nil)) Tryz.func94 (by kernel_rfl) (by kernel_rfl) (fun x=>by kernel_rfl)
def ψ19.sig:Sig:=⟨[.val tyI,.val (.sl false (.pair tyI (.pair tyI tyR)))],[.val (.sl true (.pair tyI (.pair tyI (.pair tyI tyR))))]⟩
def ψ19.ctr:Ctr:=⟨ψ19.sig,fun x=>ψ19.f x.1 x.2⟩
def ψ19.env:Env:=[]
def ψ19.ann:Ann:=⟨[(0,([(0,.val tyI),(5,.val (.sl true (.pair tyI (.pair tyI (.pair tyI tyR))))),(8,.val (.sl false (.pair tyI (.pair tyI tyR)))),(9,.val tyI),(10,.val tyI)],[(.exit 0,[(5,.val (.sl true (.pair tyI (.pair tyI (.pair tyI tyR)))))])]))],[],[]⟩
theorem ψ19.ok:CtrOk Tryz.prog 115 ψ19.ctr:=fS (A:=ψ19.ann) EnvOk.nil Tryz.func115 (by kernel_rfl) (by kernel_rfl) (fun x=>by kernel_rfl)
def ψ1Z.sig:Sig:=⟨[.ptr (.pair tyD tyI),.val (.pair tyI (.sl false tyI))],[.val (.sl true (.sl true (.pair tyI (.pair tyI (.pair tyI tyR))))),.val tyI,.val .bool]⟩
def ψ1Z.ctr:Ctr:=⟨ψ1Z.sig,fun x=>ψ1Z.f x.1 x.2⟩
def ψ1Z.env:Env:=[(23,[ψG.ctr]),(61,[ψk.ctr]),(94,[ψj.ctr]),(115,[ψ19.ctr])]
def ψ1Z.ann:Ann:=⟨[(0,([(0,.ptr (.pair tyD tyI)),(3,.ptr (.pair tyI (.sl false tyI))),(7,.val (.sl true (.sl true (.pair tyI (.pair tyI (.pair tyI tyR)))))),(8,.val tyI),(16,.val (.sl false tyI)),(17,.val tyI),(18,.val tyI)],[(.exit 0,[(0,.ptr (.pair tyD tyI)),(7,.val (.sl true (.sl true (.pair tyI (.pair tyI (.pair tyI tyR)))))),(8,.val tyI)]),(.ret,[(0,.ptr (.pair tyD tyI)),(4,.val (.sl true (.sl true (.pair tyI (.pair tyI (.pair tyI tyR)))))),(5,.val tyI),(6,.val .bool)])]))],[],[(8,[(.normal,[(0,.ptr (.pair tyD tyI)),(3,.ptr (.pair tyI (.sl false tyI))),(7,.val (.sl true (.sl true (.pair tyI (.pair tyI (.pair tyI tyR)))))),(10,.val tyI),(13,.val (.sl false (.pair tyI (.pair tyI tyR)))),(14,.val tyI),(16,.val (.sl false tyI)),(17,.val tyI),(18,.val tyI)]),(.ret,[(0,.ptr (.pair tyD tyI)),(4,.val (.sl true (.sl true (.pair tyI (.pair tyI (.pair tyI tyR)))))),(5,.val tyI),(6,.val .bool)])])]⟩
theorem ψ1Z.ok:CtrOk Tryz.prog 60 ψ1Z.ctr:=fS (A:=ψ1Z.ann) (eC ψG.ok (eC ψk.ok (eC ψj.ok (eC ψ19.ok EnvOk.nil)))) Tryz.func60 (by kernel_rfl) (by kernel_rfl) (fun x=>by kernel_rfl)
def ψ1K.sig:Sig:=⟨[.val tyI],[.val tyI]⟩
def ψ1K.ctr:Ctr:=⟨ψ1K.sig,fun x=>ψ1K.f x⟩
def ψ1K.env:Env:=[]
def ψ1K.ann:Ann:=⟨[],[],[]⟩
theorem ψ1K.ok:CtrOk Tryz.prog 117 ψ1K.ctr:=fS (A:=ψ1K.ann) EnvOk.nil Tryz.func117 (by kernel_rfl) (by kernel_rfl) (fun x=>by kernel_rfl)
def ψ1b.sig:Sig:=⟨[.ptr (.pair tyD tyI),.val tyD,.val tyI],[]⟩
def ψ1b.ctr:Ctr:=⟨ψ1b.sig,fun x=>ψ1b.f x.1 x.2.1 x.2.2⟩
def ψ1b.env:Env:=[(117,[ψ1K.ctr])]
def ψ1b.ann:Ann:=⟨[],[],[]⟩
theorem ψ1b.ok:CtrOk Tryz.prog 62 ψ1b.ctr:=fS (A:=ψ1b.ann) (eC ψ1K.ok EnvOk.nil) Tryz.func62 (by kernel_rfl) (by kernel_rfl) (fun x=>by kernel_rfl)
def ψu.sig:Sig:=⟨[.ptr tyD,.val (.box none .str),.val (.box none tyI)],[.val tyI]⟩
def ψu.ctr:Ctr:=⟨ψu.sig,fun x=>ψu.f x.1 x.2.1 x.2.2⟩
def ψu.env:Env:=[(56,[ψ15.ctr]),(58,[ψ11.ctr])]
def ψu.ann:Ann:=⟨[],[],[]⟩
theorem ψu.ok:CtrOk Tryz.prog 119 ψu.ctr:=fS (A:=ψu.ann) (eC ψ15.ok (eC ψ11.ok EnvOk.nil)) Tryz.func119 (by kernel_rfl) (by kernel_rfl) (fun x=>by kernel_rfl)
def ψ1I.sig:Sig:=⟨[.val tyd,.val (.box (some 119) (.pair (.box none .str) (.box none tyI)))],[.val tyD,.val tyI]⟩
def ψ1I.ctr:Ctr:=⟨ψ1I.sig,fun x=>ψ1I.f x.1 x.2⟩
def ψ1I.env:Env:=[(21,[ψy.ctr]),(22,[ψB.ctr]),(119,[ψu.ctr])]
def ψ1I.ann:Ann:=⟨[],[],[(7,[(.normal,[(1,.val (.box (some 119) (.pair (.box none .str) (.box none tyI)))),(4,.ptr tyD),(6,.ptr tyD)])])]⟩
theorem ψ1I.ok:CtrOk Tryz.prog 118 ψ1I.ctr:=fS (A:=ψ1I.ann) (eC ψy.ok (eC ψB.ok (eC ψu.ok EnvOk.nil))) Tryz.func118 (by kernel_rfl) (by kernel_rfl) (fun x=>by kernel_rfl)
def ψt.sig:Sig:=⟨[.val tyd,.val .str,.val tyI],[.val tyD,.val tyI]⟩
def ψt.ctr:Ctr:=⟨ψt.sig,fun x=>ψt.f x.1 x.2.1 x.2.2⟩
def ψt.env:Env:=[(118,[ψ1I.ctr])]
def ψt.ann:Ann:=⟨[],[],[]⟩
theorem ψt.ok:CtrOk Tryz.prog 63 ψt.ctr:=fS (A:=ψt.ann) (eC ψ1I.ok EnvOk.nil) Tryz.func63 (by kernel_rfl) (by kernel_rfl) (fun x=>by kernel_rfl)
def ψs.sig:Sig:=⟨[.ptr tyD,.val (.box none .str)],[.val tyI]⟩
def ψs.ctr:Ctr:=⟨ψs.sig,fun x=>ψs.f x.1 x.2⟩
def ψs.env:Env:=[(58,[ψ11.ctr])]
def ψs.ann:Ann:=⟨[],[],[]⟩
theorem ψs.ok:CtrOk Tryz.prog 167 ψs.ctr:=fS (A:=ψs.ann) (eC ψ11.ok EnvOk.nil) Tryz.func167 (by kernel_rfl) (by kernel_rfl) (fun x=>by kernel_rfl)
def ψ1H.sig:Sig:=⟨[.val tyd,.val (.box (some 167) (.box none .str))],[.val tyD,.val tyI]⟩
def ψ1H.ctr:Ctr:=⟨ψ1H.sig,fun x=>ψ1H.f x.1 x.2⟩
def ψ1H.env:Env:=[(21,[ψy.ctr]),(22,[ψB.ctr]),(167,[ψs.ctr])]
def ψ1H.ann:Ann:=⟨[],[],[(7,[(.normal,[(1,.val (.box (some 167) (.box none .str))),(4,.ptr tyD),(6,.ptr tyD)])])]⟩
theorem ψ1H.ok:CtrOk Tryz.prog 118 ψ1H.ctr:=fS (A:=ψ1H.ann) (eC ψy.ok (eC ψB.ok (eC ψs.ok EnvOk.nil))) Tryz.func118 (by kernel_rfl) (by kernel_rfl) (fun x=>by kernel_rfl)
def ψr.sig:Sig:=⟨[.val tyd,.val .str],[.val tyD,.val tyI]⟩
def ψr.ctr:Ctr:=⟨ψr.sig,fun x=>ψr.f x.1 x.2⟩
def ψr.env:Env:=[(118,[ψ1H.ctr])]
def ψr.ann:Ann:=⟨[],[],[]⟩
theorem ψr.ok:CtrOk Tryz.prog 120 ψr.ctr:=fS (A:=ψr.ann) (eC ψ1H.ok EnvOk.nil) Tryz.func120 (by kernel_rfl) (by kernel_rfl) (fun x=>by kernel_rfl)
def ψ1a.sig:Sig:=⟨[.ptr (.pair tyD tyI),.val .str],[]⟩
def ψ1a.ctr:Ctr:=⟨ψ1a.sig,fun x=>ψ1a.f x.1 x.2⟩
def ψ1a.env:Env:=[(62,[ψ1b.ctr]),(120,[ψr.ctr])]
def ψ1a.ann:Ann:=⟨[],[],[]⟩
theorem ψ1a.ok:CtrOk Tryz.prog 64 ψ1a.ctr:=fS (A:=ψ1a.ann) (eC ψ1b.ok (eC ψr.ok EnvOk.nil)) Tryz.func64 (by kernel_rfl) (by kernel_rfl) (fun x=>by kernel_rfl)
def ψM.sig:Sig:=⟨[.val tyI],[.val .str]⟩
def ψM.ctr:Ctr:=⟨ψM.sig,fun x=>ψM.f x⟩
def ψM.env:Env:=[(116,[ψ17.ctr])]
def ψM.ann:Ann:=⟨[],[],[]⟩
theorem ψM.ok:CtrOk Tryz.prog 100 ψM.ctr:=fS (A:=ψM.ann) (eC ψ17.ok EnvOk.nil) Tryz.func100 (by kernel_rfl) (by kernel_rfl) (fun x=>by kernel_rfl)
def ψ9.sig:Sig:=⟨[.val (.sl false tyE)],[.val .bool]⟩
def ψ9.ctr:Ctr:=⟨ψ9.sig,fun x=>ψ9.f x⟩
def ψ9.env:Env:=[(56,[ψ15.ctr]),(147,[ψP.ctr])]
def ψ9.ann:Ann:=⟨[(0,([(0,.val (.sl false tyE)),(5,.val (.sl false tyE)),(6,.val tyI),(7,.val tyI)],[(.exit 0,[(0,.val (.sl false tyE))]),(.ret,[(2,.val .bool)])]))],[],[(4,[(.normal,[(0,.val (.sl false tyE)),(5,.val (.sl false tyE)),(6,.val tyI),(7,.val tyI)]),(.ret,[(2,.val .bool)])])]⟩
theorem ψ9.ok:CtrOk Tryz.prog 93 ψ9.ctr:=fS (A:=ψ9.ann) (eC ψ15.ok (eC ψP.ok EnvOk.nil)) Tryz.func93 (by kernel_rfl) (by kernel_rfl) (fun x=>by kernel_rfl)
def ψ14.sig:Sig:=⟨[.val (.pair tyI (.pair tyI (.sl false tyE)))],[.val .bool]⟩
def ψ14.ctr:Ctr:=⟨ψ14.sig,fun x=>ψ14.f x⟩
def ψ14.env:Env:=[(56,[ψ15.ctr]),(93,[ψ9.ctr])]
def ψ14.ann:Ann:=⟨[(0,([(1,.ptr (.pair tyI (.pair tyI (.sl false tyE)))),(6,.val (.sl false tyE)),(7,.val tyI),(8,.val tyI)],[(.exit 0,[(1,.ptr (.pair tyI (.pair tyI (.sl false tyE))))]),(.ret,[(2,.val .bool)])]))],[],[]⟩
theorem ψ14.ok:CtrOk Tryz.prog 170 ψ14.ctr:=fS (A:=ψ14.ann) (eC ψ15.ok (eC ψ9.ok EnvOk.nil)) Tryz.func170 (by kernel_rfl) (by kernel_rfl) (fun x=>by kernel_rfl)
def ψ1M.sig:Sig:=⟨[.val (.sl false tyI)],[.val .str]⟩
def ψ1M.ctr:Ctr:=⟨ψ1M.sig,fun x=>ψ1M.f x⟩
def ψ1M.env:Env:=[(189,[ψw.ctr])]
def ψ1M.ann:Ann:=⟨[(0,([(3,.val .str),(6,.val (.sl false tyI)),(7,.val tyI),(8,.val tyI)],[(.exit 0,[(3,.val .str)])]))],[],[]⟩
theorem ψ1M.ok:CtrOk Tryz.prog 178 ψ1M.ctr:=fS (A:=ψ1M.ann) (eC ψw.ok EnvOk.nil) Tryz.func178 (by kernel_rfl) (by kernel_rfl) (fun x=>by kernel_rfl)
def ψl.sig:Sig:=⟨[.val (.pair tyI (.pair tyI (.sl false tyE)))],[.val .str]⟩
def ψl.ctr:Ctr:=⟨ψl.sig,fun x=>ψl.f x⟩
def ψl.env:Env:=[(170,[ψ14.ctr]),(178,[ψ1M.ctr]),(186,[ψ1J.ctr]),(187,[ψH.ctr]),(188,[ψ2.ctr])]
def ψl.ann:Ann:=⟨[(0,([(3,.val .str),(19,.val (.sl false tyE)),(20,.val tyI),(21,.val tyI)],[(.exit 0,[(3,.val .str)])]))],[],[]⟩
theorem ψl.ok:CtrOk Tryz.prog 155 ψl.ctr:=fS (A:=ψl.ann) (eC ψ14.ok (eC ψ1M.ok (eC ψ1J.ok (eC ψH.ok (eC ψ2.ok EnvOk.nil))))) Tryz.func155 (by kernel_rfl) (by kernel_rfl) (fun x=>by kernel_rfl)
def ψX.sig:Sig:=⟨[.val .str],[.val (.pair tyI (.pair tyI (.sl true tyE))),.val .bool]⟩
def ψX.ctr:Ctr:=⟨ψX.sig,fun x=>ψX.f x⟩
def ψX.env:Env:=[(114,[ψ1B.ctr]),(155,[ψl.ctr]),(168,[ψ1A.ctr]),(169,[ψ1C.ctr]),(170,[ψ14.ctr])]
def ψX.ann:Ann:=⟨[(0,([(0,.val .str),(2,.ptr (.pair tyI (.pair tyI (.sl true tyE)))),(4,.ptr (.pair .str .bool)),(5,.ptr (.pair tyI (.pair tyI (.sl true tyE)))),(6,.val tyI),(7,.val tyI)],[(.exit 0,[(0,.val .str),(2,.ptr (.pair tyI (.pair tyI (.sl true tyE)))),(4,.ptr (.pair .str .bool)),(5,.ptr (.pair tyI (.pair tyI (.sl true tyE))))])]))],[],[]⟩
theorem ψX.ok:CtrOk Tryz.prog 121 ψX.ctr:=fS (A:=ψX.ann) (eC ψ1B.ok (eC ψl.ok (eC ψ1A.ok (eC ψ1C.ok (eC ψ14.ok EnvOk.nil))))) Tryz.func121 (by kernel_rfl) (by kernel_rfl) (fun x=>by kernel_rfl)
def ψn.sig:Sig:=⟨[.val tyR],[.val .str]⟩
def ψn.ctr:Ctr:=⟨ψn.sig,fun x=>ψn.f x⟩
def ψn.env:Env:=[(178,[ψ1M.ctr]),(185,[ψc.ctr]),(186,[ψ1J.ctr]),(187,[ψH.ctr]),(189,[ψw.ctr])]
def ψn.ann:Ann:=⟨[],[],[(5,[(.normal,[(1,.ptr tyR),(3,.val .str),(14,.val tyI),(15,.val .bool)])])]⟩
theorem ψn.ok:CtrOk Tryz.prog 151 ψn.ctr:=fS (A:=ψn.ann) (eC ψ1M.ok (eC ψc.ok (eC ψ1J.ok (eC ψH.ok (eC ψw.ok EnvOk.nil))))) Tryz.func151 (by kernel_rfl) (by kernel_rfl) (fun x=>by kernel_rfl)
def ψq.sig:Sig:=⟨[.val (.sl false tyR)],[.val tyI]⟩
def ψq.ctr:Ctr:=⟨ψq.sig,fun x=>ψq.f x⟩
def ψq.env:Env:=[(151,[ψn.ctr]),(188,[ψ2.ctr])]
def ψq.ann:Ann:=⟨[(0,([(3,.val .str),(6,.val (.sl false tyR)),(7,.val tyI),(8,.val tyI)],[(.exit 0,[(3,.val .str)])]))],[],[]⟩
theorem ψq.ok:CtrOk Tryz.prog 153 ψq.ctr:=fS (A:=ψq.ann) (eC ψn.ok (eC ψ2.ok EnvOk.nil)) Tryz.func153 (by kernel_rfl) (by kernel_rfl) (fun x=>by kernel_rfl)
def ψ12.sig:Sig:=⟨[.val tyR,.val (.sl false (.pair tyI (.pair tyI (.pair tyI tyR))))],[.val .bool]⟩
def ψ12.ctr:Ctr:=⟨ψ12.sig,fun x=>ψ12.f x.1 x.2⟩
def ψ12.env:Env:=[(153,[ψq.ctr])]
def ψ12.ann:Ann:=⟨[(0,([(2,.ptr tyR),(5,.val (.sl true tyR)),(8,.val (.sl false (.pair tyI (.pair tyI (.pair tyI tyR))))),(9,.val tyI),(10,.val tyI)],[(.exit 0,[(2,.ptr tyR),(5,.val (.sl true tyR))])]))],[],[]⟩
theorem ψ12.ok:CtrOk Tryz.prog 124 ψ12.ctr:=fS (A:=ψ12.ann) (eC ψq.ok EnvOk.nil) Tryz.func124 (by kernel_rfl) (by kernel_rfl) (fun x=>by kernel_rfl)
def ψN.sig:Sig:=⟨[.val tyI,.val .str],[.val (.pair tyI (.pair tyI (.sl true tyE))),.val .bool]⟩
def ψN.ctr:Ctr:=⟨ψN.sig,fun x=>ψN.f x.1 x.2⟩
def ψN.env:Env:=[(56,[ψ15.ctr]),(94,[ψj.ctr]),(115,[ψ19.ctr]),(124,[ψ12.ctr])]
def ψN.ann:Ann:=⟨[(0,([(0,.val tyI),(4,.ptr (.pair tyI (.pair tyI (.sl true tyE)))),(6,.val (.sl false (.pair tyI (.pair tyI tyR)))),(9,.ptr (.pair tyI (.pair tyI (.sl true tyE)))),(67,.val (.sl false (.pair tyI (.pair tyI tyR)))),(68,.val tyI),(69,.val tyI)],[(.exit 0,[(4,.ptr (.pair tyI (.pair tyI (.sl true tyE)))),(9,.ptr (.pair tyI (.pair tyI (.sl true tyE))))]),(.ret,[(4,.ptr (.pair tyI (.pair tyI (.sl true tyE)))),(5,.val .bool)])]))],[],[(9,[(.normal,[(0,.val tyI),(4,.ptr (.pair tyI (.pair tyI (.sl true tyE)))),(6,.val (.sl false (.pair tyI (.pair tyI tyR)))),(9,.ptr (.pair tyI (.pair tyI (.sl true tyE)))),(11,.ptr (.pair tyI (.pair tyI tyR))),(67,.val (.sl false (.pair tyI (.pair tyI tyR)))),(68,.val tyI),(69,.val tyI)]),(.ret,[(4,.ptr (.pair tyI (.pair tyI (.sl true tyE)))),(5,.val .bool)])])]⟩
theorem ψN.ok:CtrOk Tryz.prog 154 ψN.ctr:=fS (A:=ψN.ann) (eC ψ15.ok (eC ψj.ok (eC ψ19.ok (eC ψ12.ok EnvOk.nil)))) Tryz.func154 (by kernel_rfl) (by kernel_rfl) (fun x=>by kernel_rfl)
def ψi.sig:Sig:=⟨[.val (.sl false tyE),.val (.sl false tyE)],[.val .bool]⟩
def ψi.ctr:Ctr:=⟨ψi.sig,fun x=>ψi.f x.1 x.2⟩
def ψi.env:Env:=[]
def ψi.ann:Ann:=⟨[(0,([(0,.val (.sl false tyE)),(1,.val (.sl false tyE)),(12,.val tyI),(13,.val tyI)],[(.exit 0,[]),(.ret,[(4,.val .bool)])]))],[],[]⟩
theorem ψi.ok:CtrOk Tryz.prog 171 ψi.ctr:=fS (A:=ψi.ann) EnvOk.nil Tryz.func171 (by kernel_rfl) (by kernel_rfl) (fun x=>by kernel_rfl)
def ψL.sig:Sig:=⟨[.val tyI,.val .str,.val (.pair tyI (.pair tyI (.sl false tyE)))],[.val .bool]⟩
def ψL.ctr:Ctr:=⟨ψL.sig,fun x=>ψL.f x.1 x.2.1 x.2.2⟩
def ψL.env:Env:=[(154,[ψN.ctr]),(171,[ψi.ctr])]
def ψL.ann:Ann:=⟨[],[],[]⟩
theorem ψL.ok:CtrOk Tryz.prog 122 ψL.ctr:=fS (A:=ψL.ann) (eC ψN.ok (eC ψi.ok EnvOk.nil)) Tryz.func122 (by kernel_rfl) (by kernel_rfl) (fun x=>by kernel_rfl)
def ψ1U.sig:Sig:=⟨[.ptr (.pair tyD tyI),.val tyI],[.val (.pair (.sl true tyE) (.pair tyI tyI)),.val .bool]⟩
def ψ1U.ctr:Ctr:=⟨ψ1U.sig,fun x=>ψ1U.f x.1 x.2⟩
def ψ1U.env:Env:=[(23,[ψG.ctr]),(61,[ψk.ctr]),(100,[ψM.ctr]),(121,[ψX.ctr]),(122,[ψL.ctr])]
def ψ1U.ann:Ann:=⟨[],[],[]⟩
theorem ψ1U.ok:CtrOk Tryz.prog 65 ψ1U.ctr:=fS (A:=ψ1U.ann) (eC ψG.ok (eC ψk.ok (eC ψM.ok (eC ψX.ok (eC ψL.ok EnvOk.nil))))) Tryz.func65 (by kernel_rfl) (by kernel_rfl) (fun x=>by kernel_rfl)
def ψx.sig:Sig:=⟨[.val (.sl false tyE)],[.val (.sl true tyE)]⟩
def ψx.ctr:Ctr:=⟨ψx.sig,fun x=>ψx.f x⟩
def ψx.env:Env:=[]
def ψx.ann:Ann:=⟨[],[],[]⟩
theorem ψx.ok:CtrOk Tryz.prog 89 ψx.ctr:=fS (A:=ψx.ann) EnvOk.nil Tryz.func89 (by kernel_rfl) (by kernel_rfl) (fun x=>by kernel_rfl)
def ψ18.sig:Sig:=⟨[.val (.sl false (.pair tyI (.pair tyI (.pair tyI tyR)))),.val tyR],[.val (.sl true (.pair tyI (.pair tyI (.pair tyI tyR))))]⟩
def ψ18.ctr:Ctr:=⟨ψ18.sig,fun x=>ψ18.f x.1 x.2⟩
def ψ18.env:Env:=[]
def ψ18.ann:Ann:=⟨[(0,([(3,.ptr tyR),(5,.val (.sl true (.pair tyI (.pair tyI (.pair tyI tyR))))),(9,.val (.sl false (.pair tyI (.pair tyI (.pair tyI tyR))))),(10,.val tyI),(11,.val tyI)],[(.exit 0,[(5,.val (.sl true (.pair tyI (.pair tyI (.pair tyI tyR)))))])]))],[],[(9,[(.normal,[(3,.ptr tyR),(5,.val (.sl true (.pair tyI (.pair tyI (.pair tyI tyR))))),(7,.ptr (.pair tyI (.pair tyI (.pair tyI tyR)))),(9,.val (.sl false (.pair tyI (.pair tyI (.pair tyI tyR))))),(10,.val tyI),(11,.val tyI),(34,.val .bool)])]),(7,[(.normal,[(3,.ptr tyR),(5,.val (.sl true (.pair tyI (.pair tyI (.pair tyI tyR))))),(9,.val (.sl false (.pair tyI (.pair tyI (.pair tyI tyR))))),(10,.val tyI),(11,.val tyI)])]),(6,[(.normal,[(3,.ptr tyR),(5,.val (.sl true (.pair tyI (.pair tyI (.pair tyI tyR))))),(9,.val (.sl false (.pair tyI (.pair tyI (.pair tyI tyR))))),(10,.val tyI),(11,.val tyI)])])]⟩
theorem ψ18.ok:CtrOk Tryz.prog 123 ψ18.ctr:=fS (A:=ψ18.ann) EnvOk.nil Tryz.func123 (by kernel_rfl) (by kernel_rfl) (fun x=>by kernel_rfl)
def ψ6.sig:Sig:=⟨[.val (.sl false tyE),.val .str],[.val (.sl true tyE)]⟩
def ψ6.ctr:Ctr:=⟨ψ6.sig,fun x=>ψ6.f x.1 x.2⟩
def ψ6.env:Env:=[]
def ψ6.ann:Ann:=⟨[(0,([(1,.val .str),(5,.val (.sl true tyE)),(8,.val (.sl false tyE)),(9,.val tyI),(10,.val tyI)],[(.exit 0,[(5,.val (.sl true tyE))])]))],[],[(5,[(.normal,[(1,.val .str),(5,.val (.sl true tyE)),(8,.val (.sl false tyE)),(9,.val tyI),(10,.val tyI)])])]⟩
theorem ψ6.ok:CtrOk Tryz.prog 172 ψ6.ctr:=fS (A:=ψ6.ann) EnvOk.nil Tryz.func172 (by kernel_rfl) (by kernel_rfl) (fun x=>by kernel_rfl)
def ψA.sig:Sig:=⟨[.val (.sl false tyE),.val tyE],[.val (.sl true tyE)]⟩
def ψA.ctr:Ctr:=⟨ψA.sig,fun x=>ψA.f x.1 x.2⟩
def ψA.env:Env:=[(89,[ψx.ctr]),(172,[ψ6.ctr])]
def ψA.ann:Ann:=⟨[(0,([(3,.ptr tyE),(5,.val (.sl true tyE)),(6,.val tyI)],[(.exit 0,[(3,.ptr tyE),(5,.val (.sl true tyE)),(6,.val tyI)])]))],[],[]⟩
theorem ψA.ok:CtrOk Tryz.prog 173 ψA.ctr:=fS (A:=ψA.ann) (eC ψx.ok (eC ψ6.ok EnvOk.nil)) Tryz.func173 (by kernel_rfl) (by kernel_rfl) (fun x=>by kernel_rfl)
def ψK.sig:Sig:=⟨[.ptr (.pair (.sl true tyE) (.pair tyI tyI)),.val (.sl false (.pair tyI (.pair tyI (.pair tyI tyR))))],[]⟩
def ψK.ctr:Ctr:=⟨ψK.sig,fun x=>ψK.f x.1 x.2⟩
def ψK.env:Env:=[(172,[ψ6.ctr]),(173,[ψA.ctr])]
def ψK.ann:Ann:=⟨[(0,([(0,.ptr (.pair (.sl true tyE) (.pair tyI tyI))),(6,.val (.sl false (.pair tyI (.pair tyI (.pair tyI tyR))))),(7,.val tyI),(8,.val tyI)],[(.exit 0,[(0,.ptr (.pair (.sl true tyE) (.pair tyI tyI)))])]))],[],[(3,[(.normal,[(0,.ptr (.pair (.sl true tyE) (.pair tyI tyI))),(6,.val (.sl false (.pair tyI (.pair tyI (.pair tyI tyR))))),(7,.val tyI),(8,.val tyI)])])]⟩
theorem ψK.ok:CtrOk Tryz.prog 125 ψK.ctr:=fS (A:=ψK.ann) (eC ψ6.ok (eC ψA.ok EnvOk.nil)) Tryz.func125 (by kernel_rfl) (by kernel_rfl) (fun x=>by kernel_rfl)
def ψd.sig:Sig:=⟨[.val (.pair (.sl false tyE) (.pair tyI tyI)),.val (.sl false (.pair tyI (.pair tyI (.pair tyI tyR))))],[.val (.pair (.sl true tyE) (.pair tyI tyI))]⟩
def ψd.ctr:Ctr:=⟨ψd.sig,fun x=>ψd.f x.1 x.2⟩
def ψd.env:Env:=[(89,[ψx.ctr]),(123,[ψ18.ctr]),(124,[ψ12.ctr]),(125,[ψK.ctr])]
def ψd.ann:Ann:=⟨[(0,([(1,.val (.sl false (.pair tyI (.pair tyI (.pair tyI tyR))))),(4,.ptr (.pair (.sl true tyE) (.pair tyI tyI))),(5,.ptr (.pair (.sl true tyE) (.pair tyI tyI))),(17,.val (.sl false (.pair tyI (.pair tyI (.pair tyI tyR))))),(18,.val tyI),(19,.val tyI)],[(.exit 0,[(1,.val (.sl false (.pair tyI (.pair tyI (.pair tyI tyR))))),(4,.ptr (.pair (.sl true tyE) (.pair tyI tyI))),(5,.ptr (.pair (.sl true tyE) (.pair tyI tyI)))]),(.ret,[(4,.ptr (.pair (.sl true tyE) (.pair tyI tyI)))])]))],[(1,[(.normal,[(1,.val (.sl false (.pair tyI (.pair tyI (.pair tyI tyR))))),(4,.ptr (.pair (.sl true tyE) (.pair tyI tyI))),(5,.ptr (.pair (.sl true tyE) (.pair tyI tyI))),(17,.val (.sl false (.pair tyI (.pair tyI (.pair tyI tyR))))),(18,.val tyI),(19,.val tyI)]),(.ret,[(4,.ptr (.pair (.sl true tyE) (.pair tyI tyI)))])])],[(8,[(.normal,[(1,.val (.sl false (.pair tyI (.pair tyI (.pair tyI tyR))))),(4,.ptr (.pair (.sl true tyE) (.pair tyI tyI))),(5,.ptr (.pair (.sl true tyE) (.pair tyI tyI))),(6,.val tyI),(7,.ptr (.pair tyI (.pair tyI (.pair tyI tyR)))),(17,.val (.sl false (.pair tyI (.pair tyI (.pair tyI tyR))))),(18,.val tyI),(19,.val tyI)]),(.exit 1,[(1,.val (.sl false (.pair tyI (.pair tyI (.pair tyI tyR))))),(4,.ptr (.pair (.sl true tyE) (.pair tyI tyI))),(5,.ptr (.pair (.sl true tyE) (.pair tyI tyI))),(17,.val (.sl false (.pair tyI (.pair tyI (.pair tyI tyR))))),(18,.val tyI),(19,.val tyI)])]),(12,[(.normal,[(1,.val (.sl false (.pair tyI (.pair tyI (.pair tyI tyR))))),(4,.ptr (.pair (.sl true tyE) (.pair tyI tyI))),(5,.ptr (.pair (.sl true tyE) (.pair tyI tyI))),(17,.val (.sl false (.pair tyI (.pair tyI (.pair tyI tyR))))),(18,.val tyI),(19,.val tyI)])]),(10,[(.normal,[(1,.val (.sl false (.pair tyI (.pair tyI (.pair tyI tyR))))),(4,.ptr (.pair (.sl true tyE) (.pair tyI tyI))),(5,.ptr (.pair (.sl true tyE) (.pair tyI tyI))),(17,.val (.sl false (.pair tyI (.pair tyI (.pair tyI tyR))))),(18,.val tyI),(19,.val tyI)])])]⟩
theorem ψd.ok:CtrOk Tryz.prog 66 ψd.ctr:=fS (A:=ψd.ann) (eC ψx.ok (eC ψ18.ok (eC ψ12.ok (eC ψK.ok EnvOk.nil)))) Tryz.func66 (by kernel_rfl) (by kernel_rfl) (fun x=>by kernel_rfl)
def ψC.sig:Sig:=⟨[.ptr tyD,.val .str],[]⟩
def ψC.ctr:Ctr:=⟨ψC.sig,fun x=>ψC.f x.1 x.2⟩
def ψC.env:Env:=[(58,[ψ11.ctr])]
def ψC.ann:Ann:=⟨[],[],[]⟩
theorem ψC.ok:CtrOk Tryz.prog 192 ψC.ctr:=fS (A:=ψC.ann) (eC ψ11.ok EnvOk.nil) Tryz.func192 (by kernel_rfl) (by kernel_rfl) (fun x=>by kernel_rfl)
def ψf.sig:Sig:=⟨[.ptr tyD,.val (.box none .str)],[.val tyI]⟩
def ψf.ctr:Ctr:=⟨ψf.sig,fun x=>ψf.f x.1 x.2⟩
def ψf.env:Env:=[(58,[ψ11.ctr]),(192,[ψC.ctr])]
def ψf.ann:Ann:=⟨[],[],[]⟩
theorem ψf.ok:CtrOk Tryz.prog 191 ψf.ctr:=fS (A:=ψf.ann) (eC ψ11.ok (eC ψC.ok EnvOk.nil)) Tryz.func191 (by kernel_rfl) (by kernel_rfl) (fun x=>by kernel_rfl)
def ψ1F.sig:Sig:=⟨[.val tyd,.val (.box (some 191) (.box none .str))],[.val tyD,.val tyI]⟩
def ψ1F.ctr:Ctr:=⟨ψ1F.sig,fun x=>ψ1F.f x.1 x.2⟩
def ψ1F.env:Env:=[(21,[ψy.ctr]),(22,[ψB.ctr]),(191,[ψf.ctr])]
def ψ1F.ann:Ann:=⟨[],[],[(7,[(.normal,[(1,.val (.box (some 191) (.box none .str))),(4,.ptr tyD),(6,.ptr tyD)])])]⟩
theorem ψ1F.ok:CtrOk Tryz.prog 118 ψ1F.ctr:=fS (A:=ψ1F.ann) (eC ψy.ok (eC ψB.ok (eC ψf.ok EnvOk.nil))) Tryz.func118 (by kernel_rfl) (by kernel_rfl) (fun x=>by kernel_rfl)
def ψe.sig:Sig:=⟨[.val tyd,.val .str],[.val tyD,.val tyI]⟩
def ψe.ctr:Ctr:=⟨ψe.sig,fun x=>ψe.f x.1 x.2⟩
def ψe.env:Env:=[(118,[ψ1F.ctr])]
def ψe.ann:Ann:=⟨[],[],[]⟩
theorem ψe.ok:CtrOk Tryz.prog 156 ψe.ctr:=fS (A:=ψe.ann) (eC ψ1F.ok EnvOk.nil) Tryz.func156 (by kernel_rfl) (by kernel_rfl) (fun x=>by kernel_rfl)
def ψ1T.sig:Sig:=⟨[.ptr (.pair tyD tyI),.val .str],[]⟩
def ψ1T.ctr:Ctr:=⟨ψ1T.sig,fun x=>ψ1T.f x.1 x.2⟩
def ψ1T.env:Env:=[(58,[ψ11.ctr]),(62,[ψ1b.ctr]),(156,[ψe.ctr])]
def ψ1T.ann:Ann:=⟨[],[],[]⟩
theorem ψ1T.ok:CtrOk Tryz.prog 101 ψ1T.ctr:=fS (A:=ψ1T.ann) (eC ψ11.ok (eC ψ1b.ok (eC ψe.ok EnvOk.nil))) Tryz.func101 (by kernel_rfl) (by kernel_rfl) (fun x=>by kernel_rfl)
def ψ3O.sig:Sig:=⟨[.val .str,.val .str],[.val .bool]⟩
def ψ3O.ctr:Ctr:=⟨ψ3O.sig,fun x=>ψ3O.f x.1 x.2⟩
def ψ3O.env:Env:=[]
def ψ3O.ann:Ann:=⟨[],[],[]⟩
theorem ψ3O.ok:CtrOk Tryz.prog 87 ψ3O.ctr:=fS (A:=ψ3O.ann) EnvOk.nil Tryz.func87 (by kernel_rfl) (by kernel_rfl) (fun x=>by kernel_rfl)
def ψ3N.sig:Sig:=⟨[.val .str,.val .str],[.val .str,.val .bool]⟩
def ψ3N.ctr:Ctr:=⟨ψ3N.sig,fun x=>ψ3N.f x.1 x.2⟩
def ψ3N.env:Env:=[(87,[ψ3O.ctr])]
def ψ3N.ann:Ann:=⟨[],[],[]⟩
theorem ψ3N.ok:CtrOk Tryz.prog 212 ψ3N.ctr:=fS (A:=ψ3N.ann) (eC ψ3O.ok EnvOk.nil) Tryz.func212 (by kernel_rfl) (by kernel_rfl) (fun x=>by kernel_rfl)
def ψ3L.sig:Sig:=⟨[.val .str,.val .str],[.val .str,.val .bool]⟩
def ψ3L.ctr:Ctr:=⟨ψ3L.sig,fun x=>ψ3L.f x.1 x.2⟩
def ψ3L.env:Env:=[(212,[ψ3N.ctr])]
def ψ3L.ann:Ann:=⟨[],[],[]⟩
theorem ψ3L.ok:CtrOk Tryz.prog 203 ψ3L.ctr:=fS (A:=ψ3L.ann) (eC ψ3N.ok EnvOk.nil) Tryz.func203 (by kernel_rfl) (by kernel_rfl) (fun x=>by kernel_rfl)
def strconv_Atoi.ctr:Ctr:=atoiCtr
theorem strconv_Atoi.ok:CtrOk Tryz.prog 213 strconv_Atoi.ctr:=atoi_ok Tryz.func213 (by kernel_rfl) (by kernel_rfl) (fun s h v hv w _=>Tryz.strconv_Atoi_ok s h v hv w)
 (fun s h hv w hL=>by obtain ⟨ev,h1,h2⟩:=hL.2.1;exact (Tryz.strconv_Atoi_syntax s h hv ev w h1 h2).mono fun e w' ⟨N,he,_,_,hB⟩=>⟨N,he,hB⟩)
 (fun s h hv w hL=>by obtain ⟨ev,h1,h2⟩:=hL.2.2;exact (Tryz.strconv_Atoi_range s h hv ev w h1 h2).mono fun e w' ⟨N,he,_,_,hB⟩=>⟨N,he,hB⟩)
def ψV.sig:Sig:=⟨[.val .str],[.val tyI,.val .bool]⟩
def ψV.ctr:Ctr:=⟨ψV.sig,fun x=>ψV.f x⟩
def ψV.env:Env:=[(56,[ψ15.ctr]),(166,[ψ5.ctr]),(213,[strconv_Atoi.ctr])]
def ψV.ann:Ann:=⟨[],[],[]⟩
theorem ψV.ok:CtrOk Tryz.prog 204 ψV.ctr:=fS (A:=ψV.ann) (eC ψ15.ok (eC ψ5.ok (eC strconv_Atoi.ok EnvOk.nil))) Tryz.func204 (by kernel_rfl) (by kernel_rfl) (fun x=>by kernel_rfl)
def ψO.sig:Sig:=⟨[.val .str],[.val tyI,.val .bool]⟩
def ψO.ctr:Ctr:=⟨ψO.sig,fun x=>ψO.f x⟩
def ψO.env:Env:=[(56,[ψ15.ctr]),(203,[ψ3L.ctr]),(204,[ψV.ctr])]
def ψO.ann:Ann:=⟨[],[],[(2,[(.normal,[(4,.val .str),(5,.val .bool)])])]⟩
theorem ψO.ok:CtrOk Tryz.prog 174 ψO.ctr:=fS (A:=ψO.ann) (eC ψ15.ok (eC ψ3L.ok (eC ψV.ok EnvOk.nil))) Tryz.func174 (by kernel_rfl) (by kernel_rfl) (fun x=>by kernel_rfl)
def ψ13.sig:Sig:=⟨[.val (.sl false tyI),.val tyI],[.val .bool]⟩
def ψ13.ctr:Ctr:=⟨ψ13.sig,fun x=>ψ13.f x.1 x.2⟩
def ψ13.env:Env:=[]
def ψ13.ann:Ann:=⟨[(0,([(1,.val tyI),(7,.val (.sl false tyI)),(8,.val tyI),(9,.val tyI)],[(.exit 0,[]),(.ret,[(4,.val .bool)])]))],[],[]⟩
theorem ψ13.ok:CtrOk Tryz.prog 175 ψ13.ctr:=fS (A:=ψ13.ann) EnvOk.nil Tryz.func175 (by kernel_rfl) (by kernel_rfl) (fun x=>by kernel_rfl)
def ψU.sig:Sig:=⟨[.val tyd,.val (.pair tyI (.sl false tyI))],[.val (.sl true .str)]⟩
def ψU.ctr:Ctr:=⟨ψU.sig,fun x=>ψU.f x.1 x.2⟩
def ψU.env:Env:=[(22,[ψB.ctr]),(174,[ψO.ctr]),(175,[ψ13.ctr])]
def ψU.ann:Ann:=⟨[(0,([(3,.ptr (.pair tyI (.sl false tyI))),(5,.val (.sl true .str)),(14,.val (.sl false tyF)),(15,.val tyI),(16,.val tyI)],[(.exit 0,[(5,.val (.sl true .str))])]))],[],[(8,[(.normal,[(3,.ptr (.pair tyI (.sl false tyI))),(5,.val (.sl true .str)),(14,.val (.sl false tyF)),(15,.val tyI),(16,.val tyI)])])]⟩
theorem ψU.ok:CtrOk Tryz.prog 126 ψU.ctr:=fS (A:=ψU.ann) (eC ψB.ok (eC ψO.ok (eC ψ13.ok EnvOk.nil))) Tryz.func126 (by kernel_rfl) (by kernel_rfl) (fun x=>by kernel_rfl)
def ψ1V.sig:Sig:=⟨[.ptr (.pair tyD tyI),.val (.pair tyI (.sl false tyI))],[]⟩
def ψ1V.ctr:Ctr:=⟨ψ1V.sig,fun x=>ψ1V.f x.1 x.2⟩
def ψ1V.env:Env:=[(101,[ψ1T.ctr]),(126,[ψU.ctr])]
def ψ1V.ann:Ann:=⟨[(0,([(0,.ptr (.pair tyD tyI)),(11,.val (.sl true .str)),(12,.val tyI),(13,.val tyI)],[(.exit 0,[(0,.ptr (.pair tyD tyI))])]))],[],[]⟩
theorem ψ1V.ok:CtrOk Tryz.prog 67 ψ1V.ctr:=fS (A:=ψ1V.ann) (eC ψ1T.ok (eC ψU.ok EnvOk.nil)) Tryz.func67 (by kernel_rfl) (by kernel_rfl) (fun x=>by kernel_rfl)
def ψ1S.sig:Sig:=⟨[.ptr (.pair tyD tyI),.val .str],[.val tyS]⟩
def ψ1S.ctr:Ctr:=⟨ψ1S.sig,fun x=>ψ1S.f x.1 x.2⟩
def ψ1S.env:Env:=[(23,[ψG.ctr]),(59,[ψY.ctr]),(60,[ψ1Z.ctr]),(61,[ψk.ctr]),(62,[ψ1b.ctr]),(63,[ψt.ctr]),(64,[ψ1a.ctr]),(65,[ψ1U.ctr]),(66,[ψd.ctr]),(67,[ψ1V.ctr])]
def ψ1S.ann:Ann:=⟨[(0,([(0,.ptr (.pair tyD tyI)),(4,.ptr tyS),(5,.ptw (.pair tyI (.sl true tyI))),(13,.ptr tyS),(14,.ptr (.pair (.sl true tyE) (.pair tyI tyI))),(16,.val (.sl true (.pair tyI (.pair tyI (.pair tyI tyR))))),(103,.val (.sl false (.sl false (.pair tyI (.pair tyI (.pair tyI tyR)))))),(104,.val tyI),(105,.val tyI),(5,.lnk 1 13 1)],[(.exit 0,[(0,.ptr (.pair tyD tyI)),(4,.ptr tyS),(5,.ptw (.pair tyI (.sl true tyI))),(13,.ptr tyS),(14,.ptr (.pair (.sl true tyE) (.pair tyI tyI))),(16,.val (.sl true (.pair tyI (.pair tyI (.pair tyI tyR))))),(5,.lnk 1 13 1)])]))],[],[(8,[(.normal,[(0,.ptr (.pair tyD tyI)),(4,.ptr tyS),(5,.ptr (.pair tyI (.sl true tyI))),(7,.val (.sl true (.sl true (.pair tyI (.pair tyI (.pair tyI tyR)))))),(8,.val tyI),(10,.val .str)])]),(15,[(.normal,[(0,.ptr (.pair tyD tyI)),(4,.ptr tyS),(5,.ptw (.pair tyI (.sl true tyI))),(7,.val (.sl false (.sl false (.pair tyI (.pair tyI (.pair tyI tyR)))))),(13,.ptr tyS),(14,.ptr (.pair (.sl true tyE) (.pair tyI tyI))),(5,.lnk 1 13 1)])])]⟩
theorem ψ1S.ok:CtrOk Tryz.prog 24 ψ1S.ctr:=fS (A:=ψ1S.ann) (eC ψG.ok (eC ψY.ok (eC ψ1Z.ok (eC ψk.ok (eC ψ1b.ok (eC ψt.ok (eC ψ1a.ok (eC ψ1U.ok (eC ψd.ok (eC ψ1V.ok EnvOk.nil)))))))))) Tryz.func24 (by kernel_rfl) (by kernel_rfl) (fun x=>by kernel_rfl)
def ψD.sig:Sig:=⟨[.ptr tyD,.val tyF],[]⟩
def ψD.ctr:Ctr:=⟨ψD.sig,fun x=>ψD.f x.1 x.2⟩
def ψD.env:Env:=[]
def ψD.ann:Ann:=⟨[(0,([(0,.ptr tyD),(3,.ptr tyF),(4,.val tyI)],[(.exit 0,[(0,.ptr tyD),(3,.ptr tyF),(4,.val tyI)])]))],[],[]⟩
theorem ψD.ok:CtrOk Tryz.prog 177 ψD.ctr:=fS (A:=ψD.ann) EnvOk.nil Tryz.func177 (by kernel_rfl) (by kernel_rfl) (fun x=>by kernel_rfl)
def ψ4.sig:Sig:=⟨[.ptr tyD,.val (.box none .str)],[.val tyI]⟩
def ψ4.ctr:Ctr:=⟨ψ4.sig,fun x=>ψ4.f x.1 x.2⟩
def ψ4.env:Env:=[(57,[ψS.ctr]),(58,[ψ11.ctr]),(177,[ψD.ctr])]
def ψ4.ann:Ann:=⟨[],[],[]⟩
theorem ψ4.ok:CtrOk Tryz.prog 176 ψ4.ctr:=fS (A:=ψ4.ann) (eC ψS.ok (eC ψ11.ok (eC ψD.ok EnvOk.nil))) Tryz.func176 (by kernel_rfl) (by kernel_rfl) (fun x=>by kernel_rfl)
def ψ1E.sig:Sig:=⟨[.val tyd,.val (.box (some 176) (.box none .str))],[.val tyD,.val tyI]⟩
def ψ1E.ctr:Ctr:=⟨ψ1E.sig,fun x=>ψ1E.f x.1 x.2⟩
def ψ1E.env:Env:=[(21,[ψy.ctr]),(22,[ψB.ctr]),(176,[ψ4.ctr])]
def ψ1E.ann:Ann:=⟨[],[],[(7,[(.normal,[(1,.val (.box (some 176) (.box none .str))),(4,.ptr tyD),(6,.ptr tyD)])])]⟩
theorem ψ1E.ok:CtrOk Tryz.prog 118 ψ1E.ctr:=fS (A:=ψ1E.ann) (eC ψy.ok (eC ψB.ok (eC ψ4.ok EnvOk.nil))) Tryz.func118 (by kernel_rfl) (by kernel_rfl) (fun x=>by kernel_rfl)
def ψ3.sig:Sig:=⟨[.val tyd,.val .str],[.val tyD,.val tyI]⟩
def ψ3.ctr:Ctr:=⟨ψ3.sig,fun x=>ψ3.f x.1 x.2⟩
def ψ3.env:Env:=[(118,[ψ1E.ctr])]
def ψ3.ann:Ann:=⟨[],[],[]⟩
theorem ψ3.ok:CtrOk Tryz.prog 127 ψ3.ctr:=fS (A:=ψ3.ann) (eC ψ1E.ok EnvOk.nil) Tryz.func127 (by kernel_rfl) (by kernel_rfl) (fun x=>by kernel_rfl)
def ψ1P.sig:Sig:=⟨[.ptr (.pair tyD tyI),.val .str],[]⟩
def ψ1P.ctr:Ctr:=⟨ψ1P.sig,fun x=>ψ1P.f x.1 x.2⟩
def ψ1P.env:Env:=[(62,[ψ1b.ctr]),(127,[ψ3.ctr])]
def ψ1P.ann:Ann:=⟨[],[],[]⟩
theorem ψ1P.ok:CtrOk Tryz.prog 68 ψ1P.ctr:=fS (A:=ψ1P.ann) (eC ψ1b.ok (eC ψ3.ok EnvOk.nil)) Tryz.func68 (by kernel_rfl) (by kernel_rfl) (fun x=>by kernel_rfl)
def ψ1N.sig:Sig:=⟨[.ptr (.pair tyD tyI),.val .str],[]⟩
def ψ1N.ctr:Ctr:=⟨ψ1N.sig,fun x=>ψ1N.f x.1 x.2⟩
def ψ1N.env:Env:=[(68,[ψ1P.ctr]),(101,[ψ1T.ctr])]
def ψ1N.ann:Ann:=⟨[],[],[]⟩
theorem ψ1N.ok:CtrOk Tryz.prog 149 ψ1N.ctr:=fS (A:=ψ1N.ann) (eC ψ1P.ok (eC ψ1T.ok EnvOk.nil)) Tryz.func149 (by kernel_rfl) (by kernel_rfl) (fun x=>by kernel_rfl)
def ψ1L.sig:Sig:=⟨[.val tyd],[.val tyI]⟩
def ψ1L.ctr:Ctr:=⟨ψ1L.sig,fun x=>ψ1L.f x⟩
def ψ1L.env:Env:=[]
def ψ1L.ann:Ann:=⟨[(0,([(3,.val tyI),(7,.val (.sl false tyF)),(8,.val tyI),(9,.val tyI)],[(.exit 0,[(3,.val tyI)])]))],[],[]⟩
theorem ψ1L.ok:CtrOk Tryz.prog 207 ψ1L.ctr:=fS (A:=ψ1L.ann) EnvOk.nil Tryz.func207 (by kernel_rfl) (by kernel_rfl) (fun x=>by kernel_rfl)
def ψ1.sig:Sig:=⟨[.ptr tyD,.val (.box none .str),.val (.box none .str)],[.val tyI]⟩
def ψ1.ctr:Ctr:=⟨ψ1.sig,fun x=>ψ1.f x.1 x.2.1 x.2.2⟩
def ψ1.env:Env:=[(58,[ψ11.ctr]),(207,[ψ1L.ctr])]
def ψ1.ann:Ann:=⟨[],[],[]⟩
theorem ψ1.ok:CtrOk Tryz.prog 206 ψ1.ctr:=fS (A:=ψ1.ann) (eC ψ11.ok (eC ψ1L.ok EnvOk.nil)) Tryz.func206 (by kernel_rfl) (by kernel_rfl) (fun x=>by kernel_rfl)
def ψ1D.sig:Sig:=⟨[.val tyd,.val (.box (some 206) (.pair (.box none .str) (.box none .str)))],[.val tyD,.val tyI]⟩
def ψ1D.ctr:Ctr:=⟨ψ1D.sig,fun x=>ψ1D.f x.1 x.2⟩
def ψ1D.env:Env:=[(21,[ψy.ctr]),(22,[ψB.ctr]),(206,[ψ1.ctr])]
def ψ1D.ann:Ann:=⟨[],[],[(7,[(.normal,[(1,.val (.box (some 206) (.pair (.box none .str) (.box none .str)))),(4,.ptr tyD),(6,.ptr tyD)])])]⟩
theorem ψ1D.ok:CtrOk Tryz.prog 118 ψ1D.ctr:=fS (A:=ψ1D.ann) (eC ψy.ok (eC ψB.ok (eC ψ1.ok EnvOk.nil))) Tryz.func118 (by kernel_rfl) (by kernel_rfl) (fun x=>by kernel_rfl)
def ψ0.sig:Sig:=⟨[.val tyd,.val .str,.val .str],[.val tyD,.val tyI]⟩
def ψ0.ctr:Ctr:=⟨ψ0.sig,fun x=>ψ0.f x.1 x.2.1 x.2.2⟩
def ψ0.env:Env:=[(118,[ψ1D.ctr])]
def ψ0.ann:Ann:=⟨[],[],[]⟩
theorem ψ0.ok:CtrOk Tryz.prog 190 ψ0.ctr:=fS (A:=ψ0.ann) (eC ψ1D.ok EnvOk.nil) Tryz.func190 (by kernel_rfl) (by kernel_rfl) (fun x=>by kernel_rfl)
def ψ1W.sig:Sig:=⟨[.ptr (.pair tyD tyI),.val .str,.val .str],[]⟩
def ψ1W.ctr:Ctr:=⟨ψ1W.sig,fun x=>ψ1W.f x.1 x.2.1 x.2.2⟩
def ψ1W.env:Env:=[(62,[ψ1b.ctr]),(190,[ψ0.ctr])]
def ψ1W.ann:Ann:=⟨[],[],[]⟩
theorem ψ1W.ok:CtrOk Tryz.prog 152 ψ1W.ctr:=fS (A:=ψ1W.ann) (eC ψ1b.ok (eC ψ0.ok EnvOk.nil)) Tryz.func152 (by kernel_rfl) (by kernel_rfl) (fun x=>by kernel_rfl)
def ψ1Q.sig:Sig:=⟨[.ptr (.pair tyD tyI),.val .str,.val .str],[]⟩
def ψ1Q.ctr:Ctr:=⟨ψ1Q.sig,fun x=>ψ1Q.f x.1 x.2.1 x.2.2⟩
def ψ1Q.env:Env:=[(64,[ψ1a.ctr]),(149,[ψ1N.ctr]),(152,[ψ1W.ctr])]
def ψ1Q.ann:Ann:=⟨[],[],[]⟩
theorem ψ1Q.ok:CtrOk Tryz.prog 128 ψ1Q.ctr:=fS (A:=ψ1Q.ann) (eC ψ1a.ok (eC ψ1N.ok (eC ψ1W.ok EnvOk.nil))) Tryz.func128 (by kernel_rfl) (by kernel_rfl) (fun x=>by kernel_rfl)
def ψm.sig:Sig:=⟨[.val (.pair tyI (.sl false tyI))],[.val .str]⟩
def ψm.ctr:Ctr:=⟨ψm.sig,fun x=>ψm.f x⟩
def ψm.env:Env:=[(92,[ψQ.ctr]),(150,[ψI.ctr]),(178,[ψ1M.ctr])]
def ψm.ann:Ann:=⟨[],[],[]⟩
theorem ψm.ok:CtrOk Tryz.prog 129 ψm.ctr:=fS (A:=ψm.ann) (eC ψQ.ok (eC ψI.ok (eC ψ1M.ok EnvOk.nil))) Tryz.func129 (by kernel_rfl) (by kernel_rfl) (fun x=>by kernel_rfl)
def ψh.sig:Sig:=⟨[.ptr tyD,.val (.box none .str),.val (.box none .str)],[.val tyI]⟩
def ψh.ctr:Ctr:=⟨ψh.sig,fun x=>ψh.f x.1 x.2.1 x.2.2⟩
def ψh.env:Env:=[(57,[ψS.ctr]),(58,[ψ11.ctr]),(177,[ψD.ctr]),(192,[ψC.ctr])]
def ψh.ann:Ann:=⟨[],[],[]⟩
theorem ψh.ok:CtrOk Tryz.prog 205 ψh.ctr:=fS (A:=ψh.ann) (eC ψS.ok (eC ψ11.ok (eC ψD.ok (eC ψC.ok EnvOk.nil)))) Tryz.func205 (by kernel_rfl) (by kernel_rfl) (fun x=>by kernel_rfl)
def ψ1G.sig:Sig:=⟨[.val tyd,.val (.box (some 205) (.pair (.box none .str) (.box none .str)))],[.val tyD,.val tyI]⟩
def ψ1G.ctr:Ctr:=⟨ψ1G.sig,fun x=>ψ1G.f x.1 x.2⟩
def ψ1G.env:Env:=[(21,[ψy.ctr]),(22,[ψB.ctr]),(205,[ψh.ctr])]
def ψ1G.ann:Ann:=⟨[],[],[(7,[(.normal,[(1,.val (.box (some 205) (.pair (.box none .str) (.box none .str)))),(4,.ptr tyD),(6,.ptr tyD)])])]⟩
theorem ψ1G.ok:CtrOk Tryz.prog 118 ψ1G.ctr:=fS (A:=ψ1G.ann) (eC ψy.ok (eC ψB.ok (eC ψh.ok EnvOk.nil))) Tryz.func118 (by kernel_rfl) (by kernel_rfl) (fun x=>by kernel_rfl)
def ψg.sig:Sig:=⟨[.val tyd,.val .str,.val .str],[.val tyD,.val tyI]⟩
def ψg.ctr:Ctr:=⟨ψg.sig,fun x=>ψg.f x.1 x.2.1 x.2.2⟩
def ψg.env:Env:=[(118,[ψ1G.ctr])]
def ψg.ann:Ann:=⟨[],[],[]⟩
theorem ψg.ok:CtrOk Tryz.prog 179 ψg.ctr:=fS (A:=ψg.ann) (eC ψ1G.ok EnvOk.nil) Tryz.func179 (by kernel_rfl) (by kernel_rfl) (fun x=>by kernel_rfl)
def ψ1Y.sig:Sig:=⟨[.ptr (.pair tyD tyI),.val .str,.val .str],[]⟩
def ψ1Y.ctr:Ctr:=⟨ψ1Y.sig,fun x=>ψ1Y.f x.1 x.2.1 x.2.2⟩
def ψ1Y.env:Env:=[(62,[ψ1b.ctr]),(179,[ψg.ctr])]
def ψ1Y.ann:Ann:=⟨[],[],[]⟩
theorem ψ1Y.ok:CtrOk Tryz.prog 130 ψ1Y.ctr:=fS (A:=ψ1Y.ann) (eC ψ1b.ok (eC ψg.ok EnvOk.nil)) Tryz.func130 (by kernel_rfl) (by kernel_rfl) (fun x=>by kernel_rfl)
def ψ1X.sig:Sig:=⟨[.ptr (.pair tyD tyI),.val (.pair tyI (.sl false tyI))],[]⟩
def ψ1X.ctr:Ctr:=⟨ψ1X.sig,fun x=>ψ1X.f x.1 x.2⟩
def ψ1X.env:Env:=[(128,[ψ1Q.ctr]),(129,[ψm.ctr]),(130,[ψ1Y.ctr])]
def ψ1X.ann:Ann:=⟨[],[],[]⟩
theorem ψ1X.ok:CtrOk Tryz.prog 69 ψ1X.ctr:=fS (A:=ψ1X.ann) (eC ψ1Q.ok (eC ψm.ok (eC ψ1Y.ok EnvOk.nil))) Tryz.func69 (by kernel_rfl) (by kernel_rfl) (fun x=>by kernel_rfl)
def ψ1R.sig:Sig:=⟨[.ptr (.pair tyD tyI)],[.val tyS]⟩
def ψ1R.ctr:Ctr:=⟨ψ1R.sig,fun x=>ψ1R.f x⟩
def ψ1R.env:Env:=[(61,[ψk.ctr]),(67,[ψ1V.ctr]),(68,[ψ1P.ctr]),(69,[ψ1X.ctr])]
def ψ1R.ann:Ann:=⟨[],[],[]⟩
theorem ψ1R.ok:CtrOk Tryz.prog 25 ψ1R.ctr:=fS (A:=ψ1R.ann) (eC ψk.ok (eC ψ1V.ok (eC ψ1P.ok (eC ψ1X.ok EnvOk.nil)))) Tryz.func25 (by kernel_rfl) (by kernel_rfl) (fun x=>by kernel_rfl)
def ψT.sig:Sig:=⟨[.val tyd],[.val tyS,.val tyD,.val tyI]⟩
def ψT.ctr:Ctr:=⟨ψT.sig,fun x=>ψT.f x⟩
def ψT.env:Env:=[(21,[ψy.ctr]),(22,[ψB.ctr]),(23,[ψG.ctr]),(24,[ψ1S.ctr]),(25,[ψ1R.ctr])]
def ψT.ann:Ann:=⟨[],[],[(8,[(.normal,[(2,.ptr tyS),(3,.ptr tyD),(5,.ptr (.pair tyD tyI)),(6,.ptr tyS)])])]⟩
theorem ψT.ok:CtrOk Tryz.prog 7 ψT.ctr:=fS (A:=ψT.ann) (eC ψy.ok (eC ψB.ok (eC ψG.ok (eC ψ1S.ok (eC ψ1R.ok EnvOk.nil))))) Tryz.func7 (by kernel_rfl) (by kernel_rfl) (fun x=>by kernel_rfl)
def ψ2M.sig:Sig:=⟨[.val tys,.val tys],[.val .bool]⟩
def ψ2M.ctr:Ctr:=⟨ψ2M.sig,fun x=>ψ2M.f x.1 x.2⟩
def ψ2M.env:Env:=[(39,[ψ2K.ctr])]
def ψ2M.ann:Ann:=⟨[(0,([(2,.ptr tys),(3,.ptr tys),(5,.val tyI)],[(.exit 0,[(2,.ptr tys),(3,.ptr tys)]),(.ret,[(4,.val .bool)])]))],[],[]⟩
theorem ψ2M.ok:CtrOk Tryz.prog 9 ψ2M.ctr:=fS (A:=ψ2M.ann) (eC ψ2K.ok EnvOk.nil) Tryz.func9 (by kernel_rfl) (by kernel_rfl) (fun x=>by kernel_rfl)
def ψ3M.sig:Sig:=⟨[.val .str,.val .str],[.val .bool]⟩
def ψ3M.ctr:Ctr:=⟨ψ3M.sig,fun x=>ψ3M.f x.1 x.2⟩
def ψ3M.env:Env:=[(87,[ψ3O.ctr])]
def ψ3M.ann:Ann:=⟨[],[],[]⟩
theorem ψ3M.ok:CtrOk Tryz.prog 40 ψ3M.ctr:=fS (A:=ψ3M.ann) (eC ψ3O.ok EnvOk.nil) Tryz.func40 (by kernel_rfl) (by kernel_rfl) (fun x=>by kernel_rfl)
def ψE.sig:Sig:=⟨[.val tyd],[.val tyD]⟩
def ψE.ctr:Ctr:=⟨ψE.sig,fun x=>ψE.f x⟩
def ψE.env:Env:=[(21,[ψy.ctr]),(22,[ψB.ctr]),(40,[ψ3M.ctr])]
def ψE.ann:Ann:=⟨[(0,([(2,.ptr tyD),(3,.ptr tyD),(14,.val (.sl false tyF)),(15,.val tyI),(16,.val tyI)],[(.exit 0,[(2,.ptr tyD),(3,.ptr tyD)])]))],[],[(8,[(.normal,[(2,.ptr tyD),(3,.ptr tyD),(14,.val (.sl false tyF)),(15,.val tyI),(16,.val tyI)])])]⟩
theorem ψE.ok:CtrOk Tryz.prog 10 ψE.ctr:=fS (A:=ψE.ann) (eC ψy.ok (eC ψB.ok (eC ψ3M.ok EnvOk.nil))) Tryz.func10 (by kernel_rfl) (by kernel_rfl) (fun x=>by kernel_rfl)
def ψ2L.sig:Sig:=⟨[.val tyd,.val tyd],[.val .bool]⟩
def ψ2L.ctr:Ctr:=⟨ψ2L.sig,fun x=>ψ2L.f x.1 x.2⟩
def ψ2L.env:Env:=[]
def ψ2L.ann:Ann:=⟨[(0,([(2,.ptr tyd),(3,.ptr tyd),(5,.val tyI)],[(.exit 0,[]),(.ret,[(4,.val .bool)])]))],[],[]⟩
theorem ψ2L.ok:CtrOk Tryz.prog 11 ψ2L.ctr:=fS (A:=ψ2L.ann) EnvOk.nil Tryz.func11 (by kernel_rfl) (by kernel_rfl) (fun x=>by kernel_rfl)
def ψ1e.sig:Sig:=⟨[.val (.sl false (.int .u8))],[.val .bool]⟩
def ψ1e.ctr:Ctr:=⟨ψ1e.sig,fun x=>ψ1e.f x⟩
def ψ1e.env:Env:=[(5,[ψ1f.ctr]),(6,[ψ1r.ctr]),(7,[ψT.ctr]),(8,[ψ25.ctr]),(9,[ψ2M.ctr]),(10,[ψE.ctr]),(11,[ψ2L.ctr]),(12,[ψ1q.ctr])]
def ψ1e.ann:Ann:=⟨[],[],[(6,[(.normal,[(3,.ptr tyd),(4,.ptr tyS),(5,.ptr tyD),(6,.val tyI)]),(.ret,[(2,.val .bool)])])]⟩
theorem ψ1e.ok:CtrOk Tryz.prog 3 ψ1e.ctr:=fS (A:=ψ1e.ann) (eC ψ1f.ok (eC ψ1r.ok (eC ψT.ok (eC ψ25.ok (eC ψ2M.ok (eC ψE.ok (eC ψ2L.ok (eC ψ1q.ok EnvOk.nil)))))))) Tryz.func3 (by kernel_rfl) (by kernel_rfl) (fun x=>by kernel_rfl)
end
end Go.Proofs.YtakpldeobnelfaaGreatDoor
