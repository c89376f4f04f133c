import Derived.Test.YtaijadchooalpaaGreatDoorShelf
import Derived.Lib.AppendIntMem
import Derived.Test.YtaijadchooalpaaGreatDoorRf5
import Derived.Test.YtaijadchooalpaaGreatDoorXEngineNewFns
import Derived.Test.YtaijadchooalpaaGreatDoorProg
open Option renaming bind_some→bS
open List renaming length_append→lA,append_assoc→aA,mem_cons_of_mem→mC,mem_append→mA,mem_append_right→mR,mem_append_left→mL,mem_cons→mc,drop_eq_getElem_cons→dG,length_take→lT,length_drop→lD,mem_map→mM,length_map→lM,length_cons→lC,length_nil→lN,getElem_mem→gM,map_append→mp,mem_singleton→mZ,take_succ_eq_append_getElem→κ2,length_singleton→κ3,append_nil→κ4,mem_cons_self→κ6,take_append_drop→κ9,map_cons→κC,nodup_append→κD,drop_zero→κE,nil_append→κG,flatMap_append→κH,nodup_cons→κJ,foldl_cons→κK,cons_append→κM,take_length→κN,range'→κO,drop_left→κP,replicate→κU,flatten_cons→κY
open Bool renaming and_eq_true→bA,eq_false_or_eq_true→bE,not_true→nZ,not_false→nF,true_and→tA,not_not→nn,false_eq_true→κ1,true_eq_false→κ8,or_eq_false_iff→κF,false_and→κL,and_true→κV,not_eq_true'→κX
open Int renaming toNat_natCast→tN,ofNat_lt→oL
open Nat renaming lt_or_ge→κ0,zero_le→κ5,le_refl→κ7,lt_of_lt_of_le→κA,eq_of_beq_eq_true→κB,le_of_ble_eq_true→κI,zero_add→κQ,pow_succ→κS,pow_le_pow_right→κT,mod_eq_of_lt→κW
open Array renaming length_toList→κR
set_option linter.unusedVariables false
set_option linter.unusedSimpArgs false
namespace Go.Proofs.YtaijadchooalpaaGreatDoor
noncomputable section
open Go Go.Rf Go.Rf.G Go.Proofs Go.Lib
set_option maxRecDepth 100000
abbrev tyR:Ty:=.pair (.int .i64) (.pair (.int .i64) (.pair .str (.pair .str (.pair (.int .i64) (.int .i64)))))
abbrev tyE:Ty:=.pair .str (.pair (.int .i64) (.pair (.int .i64) (.pair (.int .i64) (.int .i64))))
abbrev tyF:Ty:=.pair .str (.pair .str (.int .i64))
abbrev tyP:Ty:=.pair .str (.pair .bool .str)
abbrev tyD:Ty:=.pair (.sl true tyF) (.pair (.int .i64) (.pair (.int .i64) .bool))
abbrev tyS:Ty:=.pair (.pair (.int .i64) (.sl true (.int .i64))) (.pair (.sl true tyE) (.pair (.int .i64) (.pair (.int .i64) (.int .i64))))
abbrev tyd:Ty:=.pair (.sl false tyF) (.pair (.int .i64) (.pair (.int .i64) .bool))
abbrev tys:Ty:=.pair (.pair (.int .i64) (.sl false (.int .i64))) (.pair (.sl false tyE) (.pair (.int .i64) (.pair (.int .i64) (.int .i64))))
abbrev tyI:Ty:=.int .i64
def φ78 (f:Func):Code:=f.body.getD .skip
def tab:Tab:=[(3,⟨tyI,false,[],none,8,false⟩),
 (4,⟨.bool,false,[],none,1,false⟩),
 (5,⟨(.int .u8),false,[],none,1,false⟩),
 (9,⟨.str,false,[],none,16,false⟩),
 (22,⟨(.sl true tyI),false,[],some 3,24,false⟩),
 (28,⟨(.sl true tyF),false,[],some 110,24,false⟩),
 (30,⟨tyD,true,[(0,1,false),(1,1,false),(2,1,false),(3,1,false)],none,48,false⟩),
 (38,⟨(.pair tyI (.sl true tyI)),true,[(0,1,false),(1,1,false)],none,32,false⟩),
 (39,⟨(.sl true tyE),false,[],some 90,24,false⟩),
 (41,⟨tyS,true,[(0,2,true),(2,1,false),(3,1,false),(4,1,false),(5,1,false)],none,80,false⟩),
 (42,⟨(.sl true tyF),false,[],some 135,24,false⟩),
 (44,⟨tyD,true,[(0,1,false),(1,1,false),(2,1,false),(3,1,false)],none,48,false⟩),
 (45,⟨(.sl true (.pair .bool (.pair (.sl true (.pair .str tyI)) (.sl true tyP)))),false,[],some 96,24,false⟩),
 (47,⟨(.pair .bool (.pair tyS (.pair tyD (.sl true (.pair .bool (.pair (.sl true (.pair .str tyI)) (.sl true tyP))))))),true,[(0,1,false),(1,6,true),(7,4,true),(11,1,false)],none,160,false⟩),
 (90,⟨tyE,true,[(0,1,false),(1,1,false),(2,1,false),(3,1,false),(4,1,false)],none,48,true⟩),
 (93,⟨(.sl true (.pair .str tyI)),false,[],some 163,24,false⟩),
 (94,⟨(.sl true tyP),false,[],some 165,24,false⟩),
 (96,⟨(.pair .bool (.pair (.sl true (.pair .str tyI)) (.sl true tyP))),true,[(0,1,false),(1,1,false),(2,1,false)],none,56,false⟩),
 (98,⟨(.sl true .str),false,[],some 9,24,false⟩),
 (107,⟨(.sl true (.int .u8)),false,[],some 5,24,false⟩),
 (110,⟨tyF,true,[(0,1,false),(1,1,false),(2,1,false)],none,40,true⟩),
 (117,⟨(.sl true (.pair tyI (.pair tyI tyR))),false,[],some 177,24,false⟩),
 (125,⟨(.pair (.sl true tyE) (.pair tyI tyI)),true,[(0,1,false),(1,1,false),(2,1,false)],none,40,false⟩),
 (126,⟨(.sl true (.pair tyI (.pair tyI (.pair tyI tyR)))),false,[],some 186,24,false⟩),
 (128,⟨(.pair tyI (.pair tyI (.sl true tyE))),true,[(0,1,false),(1,1,false),(2,1,false)],none,40,false⟩),
 (135,⟨tyF,true,[(0,1,false),(1,1,false),(2,1,false)],none,40,true⟩),
 (139,⟨(.pair tyD tyI),true,[(0,4,true),(4,1,false)],none,56,false⟩),
 (151,⟨tyR,true,[(0,1,false),(1,1,false),(2,1,false),(3,1,false),(4,1,false),(5,1,false)],none,64,true⟩),
 (163,⟨(.pair .str tyI),true,[(0,1,false),(1,1,false)],none,24,true⟩),
 (165,⟨tyP,true,[(0,1,false),(1,1,false),(2,1,false)],none,40,true⟩),
 (177,⟨(.pair tyI (.pair tyI tyR)),true,[(0,1,false),(1,1,false),(2,6,true)],none,80,true⟩),
 (186,⟨(.pair tyI (.pair tyI (.pair tyI tyR))),true,[(0,1,false),(1,1,false),(2,1,false),(3,6,true)],none,88,true⟩),
 (192,⟨(.sl true (.sl true (.pair tyI (.pair tyI (.pair tyI tyR))))),false,[],some 126,24,false⟩),
 (219,⟨(.sl true tyR),false,[],some 151,24,false⟩),
 (228,⟨(.pair .str .bool),true,[(0,1,false),(1,1,false)],none,24,true⟩),
 (248,⟨(.int .u32),false,[],none,4,false⟩),
 (250,⟨.box none .bool,false,[],none,16,false⟩)]
theorem tabOk:φs Tryz.prog tab:=Rf.tabOk (by kernel_rfl)
theorem φIS:Tryz.prog.follows .mixedOrders=true:=by kernel_rfl
instance laid:Laid:=φEB (φEW Tryz.prog "internal/strconv.uint64pow10" .u64 Lib.pow10Tab) (φFU 1 2)
theorem eC {g:Nat} {c:Ctr} {E:Env} (h:φ0 Tryz.prog g c) (k:φ1 Tryz.prog E):φ1 Tryz.prog ((g,[c])::E):=φ1.cons (φIm h φ5g) k
theorem fS {A:Ann} {E:Env} {g:Nat} {fn:Func} {ctr:Ctr} (hE:φ1 Tryz.prog E) (hf:Tryz.prog.funcs[g]?=some fn) (hn:(fn.name == "runtime.NumGoroutine")=false) (hb:fn.body=some (φ78 fn)) (hev:∀x,evF tab E A ctr.g fn.ntmps fn.results.toList (φ78 fn) x=ctr.fn x):φ0 Tryz.prog g ctr:=φEj (A:=A) tabOk hE φIS (fn:=fn) (body:=φ78 fn) hf hn hb hev
def ψ1V.sig:Sig:=⟨[.val tyF,.val tyF],[.val .bool],false⟩
def ψ1V.ctr:Ctr:=⟨ψ1V.sig,fun x=>ψ1V.f x.1 x.2⟩
def ψ1V.env:Env:=[]
def ψ1V.ann:Ann:=⟨[],[],[]⟩
theorem ψ1V.ok:φ0 Tryz.prog 81 ψ1V.ctr:=fS (A:=ψ1V.ann) φ1.nil Tryz.func81 (by kernel_rfl) (by kernel_rfl) (fun x=>by kernel_rfl)
def ψ1W.sig:Sig:=⟨[.val (.sl false tyF),.val (.sl false tyF)],[.val .bool],false⟩
def ψ1W.ctr:Ctr:=⟨ψ1W.sig,fun x=>ψ1W.f x.1 x.2⟩
def ψ1W.env:Env:=[(81,[ψ1V.ctr])]
def ψ1W.ann:Ann:=⟨[(0,([(0,.val (.sl false tyF)),(1,.val (.sl false tyF)),(5,.val tyI)],[(.exit 0,[]),(.ret,[(4,.val .bool)])]))],[],[]⟩
theorem ψ1W.ok:φ0 Tryz.prog 37 ψ1W.ctr:=fS (A:=ψ1W.ann) (eC ψ1V.ok φ1.nil) Tryz.func37 (by kernel_rfl) (by kernel_rfl) (fun x=>by kernel_rfl)
def ψ1R.sig:Sig:=⟨[.val tyd,.val tyd],[.val .bool],false⟩
def ψ1R.ctr:Ctr:=⟨ψ1R.sig,fun x=>ψ1R.f x.1 x.2⟩
def ψ1R.env:Env:=[(37,[ψ1W.ctr])]
def ψ1R.ann:Ann:=⟨[],[],[]⟩
theorem ψ1R.ok:φ0 Tryz.prog 18 ψ1R.ctr:=fS (A:=ψ1R.ann) (eC ψ1W.ok φ1.nil) Tryz.func18 (by kernel_rfl) (by kernel_rfl) (fun x=>by kernel_rfl)
def ψ1X.sig:Sig:=⟨[.val (.sl false tyI),.val (.sl false tyI)],[.val .bool],false⟩
def ψ1X.ctr:Ctr:=⟨ψ1X.sig,fun x=>ψ1X.f x.1 x.2⟩
def ψ1X.env:Env:=[]
def ψ1X.ann:Ann:=⟨[(0,([(0,.val (.sl false tyI)),(1,.val (.sl false tyI)),(5,.val tyI)],[(.exit 0,[]),(.ret,[(4,.val .bool)])]))],[],[]⟩
theorem ψ1X.ok:φ0 Tryz.prog 100 ψ1X.ctr:=fS (A:=ψ1X.ann) φ1.nil Tryz.func100 (by kernel_rfl) (by kernel_rfl) (fun x=>by kernel_rfl)
def ψ1Y.sig:Sig:=⟨[.val (.pair tyI (.sl false tyI)),.val (.pair tyI (.sl false tyI))],[.val .bool],false⟩
def ψ1Y.ctr:Ctr:=⟨ψ1Y.sig,fun x=>ψ1Y.f x.1 x.2⟩
def ψ1Y.env:Env:=[(100,[ψ1X.ctr])]
def ψ1Y.ann:Ann:=⟨[],[],[]⟩
theorem ψ1Y.ok:φ0 Tryz.prog 51 ψ1Y.ctr:=fS (A:=ψ1Y.ann) (eC ψ1X.ok φ1.nil) Tryz.func51 (by kernel_rfl) (by kernel_rfl) (fun x=>by kernel_rfl)
def ψ1T.sig:Sig:=⟨[.val tyE,.val tyE],[.val .bool],false⟩
def ψ1T.ctr:Ctr:=⟨ψ1T.sig,fun x=>ψ1T.f x.1 x.2⟩
def ψ1T.env:Env:=[]
def ψ1T.ann:Ann:=⟨[],[],[]⟩
theorem ψ1T.ok:φ0 Tryz.prog 101 ψ1T.ctr:=fS (A:=ψ1T.ann) φ1.nil Tryz.func101 (by kernel_rfl) (by kernel_rfl) (fun x=>by kernel_rfl)
def ψ1U.sig:Sig:=⟨[.val (.sl false tyE),.val (.sl false tyE)],[.val .bool],false⟩
def ψ1U.ctr:Ctr:=⟨ψ1U.sig,fun x=>ψ1U.f x.1 x.2⟩
def ψ1U.env:Env:=[(101,[ψ1T.ctr])]
def ψ1U.ann:Ann:=⟨[(0,([(0,.val (.sl false tyE)),(1,.val (.sl false tyE)),(5,.val tyI)],[(.exit 0,[]),(.ret,[(4,.val .bool)])]))],[],[]⟩
theorem ψ1U.ok:φ0 Tryz.prog 52 ψ1U.ctr:=fS (A:=ψ1U.ann) (eC ψ1T.ok φ1.nil) Tryz.func52 (by kernel_rfl) (by kernel_rfl) (fun x=>by kernel_rfl)
def ψ1d.sig:Sig:=⟨[.val tys,.val tys],[.val .bool],false⟩
def ψ1d.ctr:Ctr:=⟨ψ1d.sig,fun x=>ψ1d.f x.1 x.2⟩
def ψ1d.env:Env:=[(51,[ψ1Y.ctr]),(52,[ψ1U.ctr])]
def ψ1d.ann:Ann:=⟨[],[],[]⟩
theorem ψ1d.ok:φ0 Tryz.prog 28 ψ1d.ctr:=fS (A:=ψ1d.ann) (eC ψ1Y.ok (eC ψ1U.ok φ1.nil)) Tryz.func28 (by kernel_rfl) (by kernel_rfl) (fun x=>by kernel_rfl)
def ψ1b.sig:Sig:=⟨[.val (.pair .str tyI),.val (.pair .str tyI)],[.val .bool],false⟩
def ψ1b.ctr:Ctr:=⟨ψ1b.sig,fun x=>ψ1b.f x.1 x.2⟩
def ψ1b.env:Env:=[]
def ψ1b.ann:Ann:=⟨[],[],[]⟩
theorem ψ1b.ok:φ0 Tryz.prog 149 ψ1b.ctr:=fS (A:=ψ1b.ann) φ1.nil Tryz.func149 (by kernel_rfl) (by kernel_rfl) (fun x=>by kernel_rfl)
def ψ1c.sig:Sig:=⟨[.val (.sl false (.pair .str tyI)),.val (.sl false (.pair .str tyI))],[.val .bool],false⟩
def ψ1c.ctr:Ctr:=⟨ψ1c.sig,fun x=>ψ1c.f x.1 x.2⟩
def ψ1c.env:Env:=[(149,[ψ1b.ctr])]
def ψ1c.ann:Ann:=⟨[(0,([(0,.val (.sl false (.pair .str tyI))),(1,.val (.sl false (.pair .str tyI))),(5,.val tyI)],[(.exit 0,[]),(.ret,[(4,.val .bool)])]))],[],[]⟩
theorem ψ1c.ok:φ0 Tryz.prog 102 ψ1c.ctr:=fS (A:=ψ1c.ann) (eC ψ1b.ok φ1.nil) Tryz.func102 (by kernel_rfl) (by kernel_rfl) (fun x=>by kernel_rfl)
def ψ1Z.sig:Sig:=⟨[.val tyP,.val tyP],[.val .bool],false⟩
def ψ1Z.ctr:Ctr:=⟨ψ1Z.sig,fun x=>ψ1Z.f x.1 x.2⟩
def ψ1Z.env:Env:=[]
def ψ1Z.ann:Ann:=⟨[],[],[]⟩
theorem ψ1Z.ok:φ0 Tryz.prog 150 ψ1Z.ctr:=fS (A:=ψ1Z.ann) φ1.nil Tryz.func150 (by kernel_rfl) (by kernel_rfl) (fun x=>by kernel_rfl)
def ψ1a.sig:Sig:=⟨[.val (.sl false tyP),.val (.sl false tyP)],[.val .bool],false⟩
def ψ1a.ctr:Ctr:=⟨ψ1a.sig,fun x=>ψ1a.f x.1 x.2⟩
def ψ1a.env:Env:=[(150,[ψ1Z.ctr])]
def ψ1a.ann:Ann:=⟨[(0,([(0,.val (.sl false tyP)),(1,.val (.sl false tyP)),(5,.val tyI)],[(.exit 0,[]),(.ret,[(4,.val .bool)])]))],[],[]⟩
theorem ψ1a.ok:φ0 Tryz.prog 103 ψ1a.ctr:=fS (A:=ψ1a.ann) (eC ψ1Z.ok φ1.nil) Tryz.func103 (by kernel_rfl) (by kernel_rfl) (fun x=>by kernel_rfl)
def ψ1e.sig:Sig:=⟨[.val (.pair .bool (.pair (.sl false (.pair .str tyI)) (.sl false tyP))),.val (.pair .bool (.pair (.sl false (.pair .str tyI)) (.sl false tyP)))],[.val .bool],false⟩
def ψ1e.ctr:Ctr:=⟨ψ1e.sig,fun x=>ψ1e.f x.1 x.2⟩
def ψ1e.env:Env:=[(102,[ψ1c.ctr]),(103,[ψ1a.ctr])]
def ψ1e.ann:Ann:=⟨[],[],[]⟩
theorem ψ1e.ok:φ0 Tryz.prog 53 ψ1e.ctr:=fS (A:=ψ1e.ann) (eC ψ1c.ok (eC ψ1a.ok φ1.nil)) Tryz.func53 (by kernel_rfl) (by kernel_rfl) (fun x=>by kernel_rfl)
def ψ1f.sig:Sig:=⟨[.val (.sl false (.pair .bool (.pair (.sl false (.pair .str tyI)) (.sl false tyP)))),.val (.sl false (.pair .bool (.pair (.sl false (.pair .str tyI)) (.sl false tyP))))],[.val .bool],false⟩
def ψ1f.ctr:Ctr:=⟨ψ1f.sig,fun x=>ψ1f.f x.1 x.2⟩
def ψ1f.env:Env:=[(53,[ψ1e.ctr])]
def ψ1f.ann:Ann:=⟨[(0,([(0,.val (.sl false (.pair .bool (.pair (.sl false (.pair .str tyI)) (.sl false tyP))))),(1,.val (.sl false (.pair .bool (.pair (.sl false (.pair .str tyI)) (.sl false tyP))))),(5,.val tyI)],[(.exit 0,[]),(.ret,[(4,.val .bool)])]))],[],[]⟩
theorem ψ1f.ok:φ0 Tryz.prog 29 ψ1f.ctr:=fS (A:=ψ1f.ann) (eC ψ1e.ok φ1.nil) Tryz.func29 (by kernel_rfl) (by kernel_rfl) (fun x=>by kernel_rfl)
def ψ1S.sig:Sig:=⟨[.val (.pair .bool (.pair tys (.pair tyd (.sl false (.pair .bool (.pair (.sl false (.pair .str tyI)) (.sl false tyP))))))),.val (.pair .bool (.pair tys (.pair tyd (.sl false (.pair .bool (.pair (.sl false (.pair .str tyI)) (.sl false tyP)))))))],[.val .bool],false⟩
def ψ1S.ctr:Ctr:=⟨ψ1S.sig,fun x=>ψ1S.f x.1 x.2⟩
def ψ1S.env:Env:=[(18,[ψ1R.ctr]),(28,[ψ1d.ctr]),(29,[ψ1f.ctr])]
def ψ1S.ann:Ann:=⟨[],[],[]⟩
theorem ψ1S.ok:φ0 Tryz.prog 10 ψ1S.ctr:=fS (A:=ψ1S.ann) (eC ψ1R.ok (eC ψ1d.ok (eC ψ1f.ok φ1.nil))) Tryz.func10 (by kernel_rfl) (by kernel_rfl) (fun x=>by kernel_rfl)
def ψ1z.sig:Sig:=⟨[.val tyI],[.val .str],false⟩
def ψ1z.ctr:Ctr:=⟨ψ1z.sig,fun x=>ψ1z.f x⟩
def ψ1z.env:Env:=[]
def ψ1z.ann:Ann:=⟨[(0,([(0,.val tyI),(3,.val .str)],[(.exit 0,[(3,.val .str)])]))],[],[]⟩
theorem ψ1z.ok:φ0 Tryz.prog 32 ψ1z.ctr:=fS (A:=ψ1z.ann) φ1.nil Tryz.func32 (by kernel_rfl) (by kernel_rfl) (fun x=>by kernel_rfl)
def ψ1t.sig:Sig:=⟨[.io (.sl true tyF),.val tyI],[.val tyI],false⟩
def ψ1t.ctr:Ctr:=⟨ψ1t.sig,fun x=>ψ1t.f x.1 x.2⟩
def ψ1t.env:Env:=[(32,[ψ1z.ctr])]
def ψ1t.ann:Ann:=⟨[(0,([(0,.val (.sl true tyF)),(1,.val tyI),(5,.val tyI)],[(.exit 0,[(0,.val (.sl true tyF)),(1,.val tyI)])]))],[],[]⟩
theorem ψ1t.ok:φ0 Tryz.prog 38 ψ1t.ctr:=fS (A:=ψ1t.ann) (eC ψ1z.ok φ1.nil) Tryz.func38 (by kernel_rfl) (by kernel_rfl) (fun x=>by kernel_rfl)
def ψ1q.sig:Sig:=⟨[.io tyD,.val tyI],[.val tyI],false⟩
def ψ1q.ctr:Ctr:=⟨ψ1q.sig,fun x=>ψ1q.f x.1 x.2⟩
def ψ1q.env:Env:=[(38,[ψ1t.ctr])]
def ψ1q.ann:Ann:=⟨[],[],[]⟩
theorem ψ1q.ok:φ0 Tryz.prog 19 ψ1q.ctr:=fS (A:=ψ1q.ann) (eC ψ1t.ok φ1.nil) Tryz.func19 (by kernel_rfl) (by kernel_rfl) (fun x=>by kernel_rfl)
def ψ1u.sig:Sig:=⟨[.io (.sl true tyI),.val tyI],[.val tyI],false⟩
def ψ1u.ctr:Ctr:=⟨ψ1u.sig,fun x=>ψ1u.f x.1 x.2⟩
def ψ1u.env:Env:=[]
def ψ1u.ann:Ann:=⟨[(0,([(0,.val (.sl true tyI)),(1,.val tyI),(5,.val tyI)],[(.exit 0,[(0,.val (.sl true tyI)),(1,.val tyI)])]))],[],[]⟩
theorem ψ1u.ok:φ0 Tryz.prog 104 ψ1u.ctr:=fS (A:=ψ1u.ann) φ1.nil Tryz.func104 (by kernel_rfl) (by kernel_rfl) (fun x=>by kernel_rfl)
def ψ1v.sig:Sig:=⟨[.io (.pair tyI (.sl true tyI)),.val tyI],[.val tyI],false⟩
def ψ1v.ctr:Ctr:=⟨ψ1v.sig,fun x=>ψ1v.f x.1 x.2⟩
def ψ1v.env:Env:=[(104,[ψ1u.ctr])]
def ψ1v.ann:Ann:=⟨[],[],[]⟩
theorem ψ1v.ok:φ0 Tryz.prog 54 ψ1v.ctr:=fS (A:=ψ1v.ann) (eC ψ1u.ok φ1.nil) Tryz.func54 (by kernel_rfl) (by kernel_rfl) (fun x=>by kernel_rfl)
def ψ1s.sig:Sig:=⟨[.io (.sl true tyE),.val tyI],[.val tyI],false⟩
def ψ1s.ctr:Ctr:=⟨ψ1s.sig,fun x=>ψ1s.f x.1 x.2⟩
def ψ1s.env:Env:=[(32,[ψ1z.ctr])]
def ψ1s.ann:Ann:=⟨[(0,([(0,.val (.sl true tyE)),(1,.val tyI),(5,.val tyI)],[(.exit 0,[(0,.val (.sl true tyE)),(1,.val tyI)])]))],[],[]⟩
theorem ψ1s.ok:φ0 Tryz.prog 55 ψ1s.ctr:=fS (A:=ψ1s.ann) (eC ψ1z.ok φ1.nil) Tryz.func55 (by kernel_rfl) (by kernel_rfl) (fun x=>by kernel_rfl)
def ψ1y.sig:Sig:=⟨[.io tyS,.val tyI],[.val tyI],false⟩
def ψ1y.ctr:Ctr:=⟨ψ1y.sig,fun x=>ψ1y.f x.1 x.2⟩
def ψ1y.env:Env:=[(54,[ψ1v.ctr]),(55,[ψ1s.ctr])]
def ψ1y.ann:Ann:=⟨[],[],[]⟩
theorem ψ1y.ok:φ0 Tryz.prog 30 ψ1y.ctr:=fS (A:=ψ1y.ann) (eC ψ1v.ok (eC ψ1s.ok φ1.nil)) Tryz.func30 (by kernel_rfl) (by kernel_rfl) (fun x=>by kernel_rfl)
def ψ1x.sig:Sig:=⟨[.io (.sl true (.pair .str tyI)),.val tyI],[.val tyI],false⟩
def ψ1x.ctr:Ctr:=⟨ψ1x.sig,fun x=>ψ1x.f x.1 x.2⟩
def ψ1x.env:Env:=[(32,[ψ1z.ctr])]
def ψ1x.ann:Ann:=⟨[(0,([(0,.val (.sl true (.pair .str tyI))),(1,.val tyI),(5,.val tyI)],[(.exit 0,[(0,.val (.sl true (.pair .str tyI))),(1,.val tyI)])]))],[],[]⟩
theorem ψ1x.ok:φ0 Tryz.prog 56 ψ1x.ctr:=fS (A:=ψ1x.ann) (eC ψ1z.ok φ1.nil) Tryz.func56 (by kernel_rfl) (by kernel_rfl) (fun x=>by kernel_rfl)
def ψ1w.sig:Sig:=⟨[.io (.sl true tyP),.val tyI],[.val tyI],false⟩
def ψ1w.ctr:Ctr:=⟨ψ1w.sig,fun x=>ψ1w.f x.1 x.2⟩
def ψ1w.env:Env:=[(32,[ψ1z.ctr])]
def ψ1w.ann:Ann:=⟨[(0,([(0,.val (.sl true tyP)),(1,.val tyI),(5,.val tyI)],[(.exit 0,[(0,.val (.sl true tyP)),(1,.val tyI)])]))],[],[]⟩
theorem ψ1w.ok:φ0 Tryz.prog 57 ψ1w.ctr:=fS (A:=ψ1w.ann) (eC ψ1z.ok φ1.nil) Tryz.func57 (by kernel_rfl) (by kernel_rfl) (fun x=>by kernel_rfl)
def ψ20.sig:Sig:=⟨[.io (.sl true (.pair .bool (.pair (.sl true (.pair .str tyI)) (.sl true tyP)))),.val tyI],[.val tyI],true⟩
def ψ20.ctr:Ctr:=⟨ψ20.sig,fun x=>ψ20.f x.1 x.2⟩
def ψ20.env:Env:=[(56,[ψ1x.ctr]),(57,[ψ1w.ctr]),(1000000007,[]),(1000000008,[])]
def ψ20.ann:Ann:=⟨[(0,([(0,.val (.sl true (.pair .bool (.pair (.sl true (.pair .str tyI)) (.sl true tyP))))),(1,.val tyI),(5,.val tyI)],[(.exit 0,[(0,.val (.sl true (.pair .bool (.pair (.sl true (.pair .str tyI)) (.sl true tyP))))),(1,.val tyI)])]))],[],[]⟩
theorem ψ20.ok:φ0 Tryz.prog 31 ψ20.ctr:=fS (A:=ψ20.ann) (eC ψ1x.ok (eC ψ1w.ok (φ1.cons (g:=1000000007) φ5g (φ1.cons (g:=1000000008) φ5g φ1.nil)))) Tryz.func31 (by kernel_rfl) (by kernel_rfl) (fun x=>by kernel_rfl)
def ψ1r.sig:Sig:=⟨[.io (.pair .bool (.pair tyS (.pair tyD (.sl true (.pair .bool (.pair (.sl true (.pair .str tyI)) (.sl true tyP))))))),.val tyI],[.val tyI],true⟩
def ψ1r.ctr:Ctr:=⟨ψ1r.sig,fun x=>ψ1r.f x.1 x.2⟩
def ψ1r.env:Env:=[(19,[ψ1q.ctr]),(30,[ψ1y.ctr]),(31,[ψ20.ctr]),(1000000008,[])]
def ψ1r.ann:Ann:=⟨[],[],[]⟩
theorem ψ1r.ok:φ0 Tryz.prog 11 ψ1r.ctr:=fS (A:=ψ1r.ann) (eC ψ1q.ok (eC ψ1y.ok (eC ψ20.ok (φ1.cons (g:=1000000008) φ5g φ1.nil)))) Tryz.func11 (by kernel_rfl) (by kernel_rfl) (fun x=>by kernel_rfl)
def ψ22.sig:Sig:=⟨[.val tyF,.val tyI],[.val tyI],false⟩
def ψ22.ctr:Ctr:=⟨ψ22.sig,fun x=>ψ22.f x.1 x.2⟩
def ψ22.env:Env:=[]
def ψ22.ann:Ann:=⟨[],[],[]⟩
theorem ψ22.ok:φ0 Tryz.prog 58 ψ22.ctr:=fS (A:=ψ22.ann) φ1.nil Tryz.func58 (by kernel_rfl) (by kernel_rfl) (fun x=>by kernel_rfl)
def ψ23.sig:Sig:=⟨[.val (.sl false tyF),.val tyI],[.val tyI],false⟩
def ψ23.ctr:Ctr:=⟨ψ23.sig,fun x=>ψ23.f x.1 x.2⟩
def ψ23.env:Env:=[(58,[ψ22.ctr])]
def ψ23.ann:Ann:=⟨[(0,([(0,.val (.sl false tyF)),(1,.val tyI),(5,.val tyI)],[(.exit 0,[(1,.val tyI)]),(.ret,[(4,.val tyI)])]))],[],[]⟩
theorem ψ23.ok:φ0 Tryz.prog 33 ψ23.ctr:=fS (A:=ψ23.ann) (eC ψ22.ok φ1.nil) Tryz.func33 (by kernel_rfl) (by kernel_rfl) (fun x=>by kernel_rfl)
def ψ21.sig:Sig:=⟨[.val tyd,.val tyI],[.val tyI],false⟩
def ψ21.ctr:Ctr:=⟨ψ21.sig,fun x=>ψ21.f x.1 x.2⟩
def ψ21.env:Env:=[(33,[ψ23.ctr])]
def ψ21.ann:Ann:=⟨[],[],[]⟩
theorem ψ21.ok:φ0 Tryz.prog 14 ψ21.ctr:=fS (A:=ψ21.ann) (eC ψ23.ok φ1.nil) Tryz.func14 (by kernel_rfl) (by kernel_rfl) (fun x=>by kernel_rfl)
def ψ2w.sig:Sig:=⟨[.val tyI,.val tyI,.val tyI],[.val .bool],false⟩
def ψ2w.ctr:Ctr:=⟨ψ2w.sig,fun x=>ψ2w.f x.1 x.2.1 x.2.2⟩
def ψ2w.env:Env:=[]
def ψ2w.ann:Ann:=⟨[],[],[]⟩
theorem ψ2w.ok:φ0 Tryz.prog 105 ψ2w.ctr:=fS (A:=ψ2w.ann) φ1.nil Tryz.func105 (by kernel_rfl) (by kernel_rfl) (fun x=>by kernel_rfl)
def ψ31.sig:Sig:=⟨[.val tyd],[.val tyI],false⟩
def ψ31.ctr:Ctr:=⟨ψ31.sig,fun x=>ψ31.f x⟩
def ψ31.env:Env:=[]
def ψ31.ann:Ann:=⟨[(0,([(1,.ptr tyd),(3,.val tyI),(4,.val tyI)],[(.exit 0,[(3,.val tyI)])]))],[],[]⟩
theorem ψ31.ok:φ0 Tryz.prog 106 ψ31.ctr:=fS (A:=ψ31.ann) φ1.nil Tryz.func106 (by kernel_rfl) (by kernel_rfl) (fun x=>by kernel_rfl)
def ψ2P.sig:Sig:=⟨[.val .str],[.val .bool],false⟩
def ψ2P.ctr:Ctr:=⟨ψ2P.sig,fun x=>ψ2P.f x⟩
def ψ2P.env:Env:=[(105,[ψ2w.ctr])]
def ψ2P.ann:Ann:=⟨[(0,([(0,.val .str),(3,.val tyI)],[(.exit 0,[(0,.val .str)]),(.ret,[(2,.val .bool)])]))],[],[(4,[(.normal,[(0,.val .str),(3,.val tyI)]),(.ret,[(2,.val .bool)])])]⟩
theorem ψ2P.ok:φ0 Tryz.prog 107 ψ2P.ctr:=fS (A:=ψ2P.ann) (eC ψ2w.ok φ1.nil) Tryz.func107 (by kernel_rfl) (by kernel_rfl) (fun x=>by kernel_rfl)
def ψ2E.sig:Sig:=⟨[.val tyd],[.val .bool],false⟩
def ψ2E.ctr:Ctr:=⟨ψ2E.sig,fun x=>ψ2E.f x⟩
def ψ2E.env:Env:=[(105,[ψ2w.ctr]),(106,[ψ31.ctr]),(107,[ψ2P.ctr])]
def ψ2E.ann:Ann:=⟨[(0,([(1,.ptr tyd),(3,.val tyI)],[(.exit 0,[]),(.ret,[(2,.val .bool)])]))],[],[(6,[(.normal,[(1,.ptr tyd),(3,.val tyI)]),(.ret,[(2,.val .bool)])])]⟩
theorem ψ2E.ok:φ0 Tryz.prog 59 ψ2E.ctr:=fS (A:=ψ2E.ann) (eC ψ2w.ok (eC ψ31.ok (eC ψ2P.ok φ1.nil))) Tryz.func59 (by kernel_rfl) (by kernel_rfl) (fun x=>by kernel_rfl)
def ψ2y.sig:Sig:=⟨[.val tyd],[.val tyD],false⟩
def ψ2y.ctr:Ctr:=⟨ψ2y.sig,fun x=>ψ2y.f x⟩
def ψ2y.env:Env:=[]
def ψ2y.ann:Ann:=⟨[],[],[]⟩
theorem ψ2y.ok:φ0 Tryz.prog 60 ψ2y.ctr:=fS (A:=ψ2y.ann) φ1.nil Tryz.func60 (by kernel_rfl) (by kernel_rfl) (fun x=>by kernel_rfl)
def ψ2z.sig:Sig:=⟨[.val tyd,.val .str],[.val tyI],false⟩
def ψ2z.ctr:Ctr:=⟨ψ2z.sig,fun x=>ψ2z.f x.1 x.2⟩
def ψ2z.env:Env:=[]
def ψ2z.ann:Ann:=⟨[(0,([(1,.val .str),(2,.ptr tyd),(5,.val tyI)],[(.exit 0,[]),(.ret,[(4,.val tyI)])]))],[],[]⟩
theorem ψ2z.ok:φ0 Tryz.prog 108 ψ2z.ctr:=fS (A:=ψ2z.ann) φ1.nil Tryz.func108 (by kernel_rfl) (by kernel_rfl) (fun x=>by kernel_rfl)
def ψ2G.sig:Sig:=⟨[.val tyd,.val .str],[.val .str,.val .bool],false⟩
def ψ2G.ctr:Ctr:=⟨ψ2G.sig,fun x=>ψ2G.f x.1 x.2⟩
def ψ2G.env:Env:=[(59,[ψ2E.ctr]),(108,[ψ2z.ctr])]
def ψ2G.ann:Ann:=⟨[],[],[]⟩
theorem ψ2G.ok:φ0 Tryz.prog 61 ψ2G.ctr:=fS (A:=ψ2G.ann) (eC ψ2E.ok (eC ψ2z.ok φ1.nil)) Tryz.func61 (by kernel_rfl) (by kernel_rfl) (fun x=>by kernel_rfl)
def ψ2A.sig:Sig:=⟨[.val tyI],[.val .str],false⟩
def ψ2A.ctr:Ctr:=⟨ψ2A.sig,fun x=>ψ2A.f x⟩
def ψ2A.env:Env:=[]
def ψ2A.ann:Ann:=⟨[(0,([(0,.val tyI),(3,.val .str),(4,.val .bool)],[(.exit 0,[(3,.val .str),(4,.val .bool)])]))],[],[(7,[(.normal,[(0,.val tyI),(3,.val .str),(4,.val .bool),(5,.val tyI)])])]⟩
theorem ψ2A.ok:φ0 Tryz.prog 114 ψ2A.ctr:=fS (A:=ψ2A.ann) φ1.nil Tryz.func114 (by kernel_rfl) (by kernel_rfl) (fun x=>by kernel_rfl)
def ψ2f.sig:Sig:=⟨[.val tyI],[.val .str],false⟩
def ψ2f.ctr:Ctr:=⟨ψ2f.sig,fun x=>ψ2f.f x⟩
def ψ2f.env:Env:=[(105,[ψ2w.ctr]),(114,[ψ2A.ctr])]
def ψ2f.ann:Ann:=⟨[],[],[]⟩
theorem ψ2f.ok:φ0 Tryz.prog 64 ψ2f.ctr:=fS (A:=ψ2f.ann) (eC ψ2w.ok (eC ψ2A.ok φ1.nil)) Tryz.func64 (by kernel_rfl) (by kernel_rfl) (fun x=>by kernel_rfl)
def ψ2q.sig:Sig:=⟨[.val tyI],[.val tyI],false⟩
def ψ2q.ctr:Ctr:=⟨ψ2q.sig,fun x=>ψ2q.f x⟩
def ψ2q.env:Env:=[]
def ψ2q.ann:Ann:=⟨[],[],[]⟩
theorem ψ2q.ok:φ0 Tryz.prog 67 ψ2q.ctr:=fS (A:=ψ2q.ann) φ1.nil Tryz.func67 (by kernel_rfl) (by kernel_rfl) (fun x=>by kernel_rfl)
def ψ2K.sig:Sig:=⟨[.val tyI],[.val .str],false⟩
def ψ2K.ctr:Ctr:=⟨ψ2K.sig,fun x=>ψ2K.f x⟩
def ψ2K.env:Env:=[(105,[ψ2w.ctr]),(114,[ψ2A.ctr])]
def ψ2K.ann:Ann:=⟨[],[],[]⟩
theorem ψ2K.ok:φ0 Tryz.prog 69 ψ2K.ctr:=fS (A:=ψ2K.ann) (eC ψ2w.ok (eC ψ2A.ok φ1.nil)) Tryz.func69 (by kernel_rfl) (by kernel_rfl) (fun x=>by kernel_rfl)
def ψ2T.sig:Sig:=⟨[.val .str],[.val tyI,.val .bool],false⟩
def ψ2T.ctr:Ctr:=⟨ψ2T.sig,fun x=>ψ2T.f x⟩
def ψ2T.env:Env:=[(114,[ψ2A.ctr])]
def ψ2T.ann:Ann:=⟨[(0,([(0,.val .str),(4,.val tyI),(5,.val tyI),(6,.val tyI)],[(.exit 0,[(0,.val .str),(4,.val tyI),(5,.val tyI)])]))],[],[(6,[(.normal,[(0,.val .str),(4,.val tyI),(5,.val tyI),(6,.val tyI)])]),(9,[(.normal,[(0,.val .str),(4,.val tyI),(5,.val tyI)])])]⟩
theorem ψ2T.ok:φ0 Tryz.prog 200 ψ2T.ctr:=fS (A:=ψ2T.ann) (eC ψ2A.ok φ1.nil) Tryz.func200 (by kernel_rfl) (by kernel_rfl) (fun x=>by kernel_rfl)
def ψ2M.sig:Sig:=⟨[.val .str],[.val tyI,.val .bool],false⟩
def ψ2M.ctr:Ctr:=⟨ψ2M.sig,fun x=>ψ2M.f x⟩
def ψ2M.env:Env:=[(64,[ψ2f.ctr]),(69,[ψ2K.ctr]),(200,[ψ2T.ctr])]
def ψ2M.ann:Ann:=⟨[(0,([(0,.val .str),(4,.val tyI)],[(.exit 0,[]),(.ret,[(2,.val tyI),(3,.val .bool)])]))],[],[(6,[(.normal,[(0,.val .str),(4,.val tyI)]),(.ret,[(2,.val tyI),(3,.val .bool)])]),(4,[(.normal,[(0,.val .str),(4,.val tyI)]),(.ret,[(2,.val tyI),(3,.val .bool)])])]⟩
theorem ψ2M.ok:φ0 Tryz.prog 166 ψ2M.ctr:=fS (A:=ψ2M.ann) (eC ψ2f.ok (eC ψ2K.ok (eC ψ2T.ok φ1.nil))) Tryz.func166 (by kernel_rfl) (by kernel_rfl) (fun x=>by kernel_rfl)
def ψ2R.sig:Sig:=⟨[.val tyd,.val (.pair tyI (.sl false tyI))],[.val (.sl true .str)],false⟩
def ψ2R.ctr:Ctr:=⟨ψ2R.sig,fun x=>ψ2R.f x.1 x.2⟩
def ψ2R.env:Env:=[(59,[ψ2E.ctr]),(166,[ψ2M.ctr])]
def ψ2R.ann:Ann:=⟨[(2,([(2,.ptr tyd),(3,.ptr (.pair tyI (.sl false tyI))),(5,.val (.sl true .str)),(6,.val tyI),(7,.val tyI),(8,.val .bool),(9,.val .bool),(10,.val tyI)],[(.exit 2,[(2,.ptr tyd),(3,.ptr (.pair tyI (.sl false tyI))),(5,.val (.sl true .str)),(6,.val tyI),(8,.val .bool),(9,.val .bool)])])),(0,([(2,.ptr tyd),(3,.ptr (.pair tyI (.sl false tyI))),(5,.val (.sl true .str)),(6,.val tyI)],[(.exit 0,[(5,.val (.sl true .str))])]))],[(3,[(.normal,[(2,.ptr tyd),(3,.ptr (.pair tyI (.sl false tyI))),(5,.val (.sl true .str)),(6,.val tyI),(7,.val tyI),(8,.val .bool),(9,.val .bool),(10,.val tyI)])])],[(13,[(.normal,[(2,.ptr tyd),(3,.ptr (.pair tyI (.sl false tyI))),(5,.val (.sl true .str)),(6,.val tyI)])])]⟩
theorem ψ2R.ok:φ0 Tryz.prog 126 ψ2R.ctr:=fS (A:=ψ2R.ann) (eC ψ2E.ok (eC ψ2M.ok φ1.nil)) Tryz.func126 (by kernel_rfl) (by kernel_rfl) (fun x=>by kernel_rfl)
def ψ2x.sig:Sig:=⟨[.val tyd],[.val tyD,.val tyI],false⟩
def ψ2x.ctr:Ctr:=⟨ψ2x.sig,fun x=>ψ2x.f x⟩
def ψ2x.env:Env:=[(59,[ψ2E.ctr]),(60,[ψ2y.ctr])]
def ψ2x.ann:Ann:=⟨[],[],[]⟩
theorem ψ2x.ok:φ0 Tryz.prog 116 ψ2x.ctr:=fS (A:=ψ2x.ann) (eC ψ2E.ok (eC ψ2y.ok φ1.nil)) Tryz.func116 (by kernel_rfl) (by kernel_rfl) (fun x=>by kernel_rfl)
def ψ32.sig:Sig:=⟨[.val (.sl false tyF),.val tyI],[.val (.sl true tyF)],false⟩
def ψ32.ctr:Ctr:=⟨ψ32.sig,fun x=>ψ32.f x.1 x.2⟩
def ψ32.env:Env:=[]
def ψ32.ann:Ann:=⟨[],[],[]⟩
theorem ψ32.ok:φ0 Tryz.prog 167 ψ32.ctr:=fS (A:=ψ32.ann) φ1.nil Tryz.func167 (by kernel_rfl) (by kernel_rfl) (fun x=>by kernel_rfl)
def ψ2b.sig:Sig:=⟨[.val tyd,.val .str],[.val tyD,.val tyI],false⟩
def ψ2b.ctr:Ctr:=⟨ψ2b.sig,fun x=>ψ2b.f x.1 x.2⟩
def ψ2b.env:Env:=[(108,[ψ2z.ctr]),(116,[ψ2x.ctr]),(167,[ψ32.ctr])]
def ψ2b.ann:Ann:=⟨[],[],[]⟩
theorem ψ2b.ok:φ0 Tryz.prog 127 ψ2b.ctr:=fS (A:=ψ2b.ann) (eC ψ2z.ok (eC ψ2x.ok (eC ψ32.ok φ1.nil))) Tryz.func127 (by kernel_rfl) (by kernel_rfl) (fun x=>by kernel_rfl)
def ψ2v.sig:Sig:=⟨[.val tyd,.val (.pair tyI (.sl false tyI))],[.val tyd,.val tyI],false⟩
def ψ2v.ctr:Ctr:=⟨ψ2v.sig,fun x=>ψ2v.f x.1 x.2⟩
def ψ2v.env:Env:=[(67,[ψ2q.ctr]),(126,[ψ2R.ctr]),(127,[ψ2b.ctr])]
def ψ2v.ann:Ann:=⟨[(0,([(2,.ptr tyd),(4,.ptr tyD),(6,.val (.sl true .str)),(7,.val tyI)],[(.exit 0,[(2,.ptr tyd),(4,.ptr tyD)]),(.ret,[(4,.ptr tyD),(5,.val tyI)])]))],[],[]⟩
theorem ψ2v.ok:φ0 Tryz.prog 74 ψ2v.ctr:=fS (A:=ψ2v.ann) (eC ψ2q.ok (eC ψ2R.ok (eC ψ2b.ok φ1.nil))) Tryz.func74 (by kernel_rfl) (by kernel_rfl) (fun x=>by kernel_rfl)
def ψ30.sig:Sig:=⟨[.val (.sl false tyF),.val tyF],[.val (.sl true tyF)],false⟩
def ψ30.ctr:Ctr:=⟨ψ30.sig,fun x=>ψ30.f x.1 x.2⟩
def ψ30.env:Env:=[]
def ψ30.ann:Ann:=⟨[(0,([(0,.val (.sl false tyF)),(3,.ptr tyF),(5,.val (.sl true tyF)),(6,.val .bool),(7,.val tyI)],[(.exit 0,[(3,.ptr tyF),(5,.val (.sl true tyF)),(6,.val .bool)])]))],[],[(6,[(.normal,[(0,.val (.sl false tyF)),(3,.ptr tyF),(5,.val (.sl true tyF)),(6,.val .bool),(7,.val tyI)])])]⟩
theorem ψ30.ok:φ0 Tryz.prog 151 ψ30.ctr:=fS (A:=ψ30.ann) φ1.nil Tryz.func151 (by kernel_rfl) (by kernel_rfl) (fun x=>by kernel_rfl)
def ψ29.sig:Sig:=⟨[.val tyd,.val .str],[.val tyD,.val tyI],false⟩
def ψ29.ctr:Ctr:=⟨ψ29.sig,fun x=>ψ29.f x.1 x.2⟩
def ψ29.env:Env:=[(107,[ψ2P.ctr]),(108,[ψ2z.ctr]),(116,[ψ2x.ctr]),(151,[ψ30.ctr])]
def ψ29.ann:Ann:=⟨[],[],[]⟩
theorem ψ29.ok:φ0 Tryz.prog 109 ψ29.ctr:=fS (A:=ψ29.ann) (eC ψ2P.ok (eC ψ2z.ok (eC ψ2x.ok (eC ψ30.ok φ1.nil)))) Tryz.func109 (by kernel_rfl) (by kernel_rfl) (fun x=>by kernel_rfl)
def ψ2O.sig:Sig:=⟨[.val (.pair tyI (.sl false tyI))],[.val .bool],false⟩
def ψ2O.ctr:Ctr:=⟨ψ2O.sig,fun x=>ψ2O.f x⟩
def ψ2O.env:Env:=[(105,[ψ2w.ctr])]
def ψ2O.ann:Ann:=⟨[(0,([(1,.ptr (.pair tyI (.sl false tyI))),(3,.val tyI)],[(.exit 0,[]),(.ret,[(2,.val .bool)])]))],[],[(6,[(.normal,[(1,.ptr (.pair tyI (.sl false tyI))),(3,.val tyI)]),(.ret,[(2,.val .bool)])])]⟩
theorem ψ2O.ok:φ0 Tryz.prog 152 ψ2O.ctr:=fS (A:=ψ2O.ann) (eC ψ2w.ok φ1.nil) Tryz.func152 (by kernel_rfl) (by kernel_rfl) (fun x=>by kernel_rfl)
def ψ2n.sig:Sig:=⟨[.val tyI],[.val .str],false⟩
def ψ2n.ctr:Ctr:=⟨ψ2n.sig,fun x=>ψ2n.f x⟩
def ψ2n.env:Env:=[(105,[ψ2w.ctr])]
def ψ2n.ann:Ann:=⟨[(0,([(0,.val tyI),(3,.val (.sl true (.int .u8)))],[(.exit 0,[(0,.val tyI),(3,.val (.sl true (.int .u8)))])]))],[],[]⟩
theorem ψ2n.ok:φ0 Tryz.prog 156 ψ2n.ctr:=fS (A:=ψ2n.ann) (eC ψ2w.ok φ1.nil) Tryz.func156 (by kernel_rfl) (by kernel_rfl) (fun x=>by kernel_rfl)
def ψ2H.sig:Sig:=⟨[.val tyI,.val tyI],[.val .str],false⟩
def ψ2H.ctr:Ctr:=⟨ψ2H.sig,fun x=>ψ2H.f x.1 x.2⟩
def ψ2H.env:Env:=[(105,[ψ2w.ctr])]
def ψ2H.ann:Ann:=⟨[(0,([(0,.val tyI),(1,.val tyI),(5,.val .str),(6,.val tyI)],[(.exit 0,[(0,.val tyI),(5,.val .str)])]))],[],[]⟩
theorem ψ2H.ok:φ0 Tryz.prog 160 ψ2H.ctr:=fS (A:=ψ2H.ann) (eC ψ2w.ok φ1.nil) Tryz.func160 (by kernel_rfl) (by kernel_rfl) (fun x=>by kernel_rfl)
def ψ28.sig:Sig:=⟨[.val .str],[.val tyI],false⟩
def ψ28.ctr:Ctr:=⟨ψ28.sig,fun x=>ψ28.f x⟩
def ψ28.env:Env:=[]
def ψ28.ann:Ann:=⟨[(2,([(0,.val .str),(3,.val tyI),(4,.val tyI),(5,.val tyI)],[(.exit 2,[(0,.val .str),(3,.val tyI),(4,.val tyI)])])),(0,([(0,.val .str),(3,.val tyI),(4,.val tyI)],[(.exit 0,[(3,.val tyI)])]))],[],[(11,[(.normal,[(0,.val .str),(3,.val tyI),(4,.val tyI),(5,.val tyI)])])]⟩
theorem ψ28.ok:φ0 Tryz.prog 161 ψ28.ctr:=fS (A:=ψ28.ann) φ1.nil Tryz.func161 (by kernel_rfl) (by kernel_rfl) (fun x=>by kernel_rfl)
def ψ2I.sig:Sig:=⟨[.val .str],[.val .str],false⟩
def ψ2I.ctr:Ctr:=⟨ψ2I.sig,fun x=>ψ2I.f x⟩
def ψ2I.env:Env:=[(156,[ψ2n.ctr]),(160,[ψ2H.ctr]),(161,[ψ28.ctr])]
def ψ2I.ann:Ann:=⟨[],[],[]⟩
theorem ψ2I.ok:φ0 Tryz.prog 155 ψ2I.ctr:=fS (A:=ψ2I.ann) (eC ψ2n.ok (eC ψ2H.ok (eC ψ28.ok φ1.nil))) Tryz.func155 (by kernel_rfl) (by kernel_rfl) (fun x=>by kernel_rfl)
def ψ2h.sig:Sig:=⟨[.val (.pair tyI (.sl false tyI))],[.val .str],false⟩
def ψ2h.ctr:Ctr:=⟨ψ2h.sig,fun x=>ψ2h.f x⟩
def ψ2h.env:Env:=[(152,[ψ2O.ctr]),(155,[ψ2I.ctr]),(156,[ψ2n.ctr])]
def ψ2h.ann:Ann:=⟨[(0,([(1,.ptr (.pair tyI (.sl false tyI))),(3,.val .str),(4,.val tyI)],[(.exit 0,[(3,.val .str)])]))],[],[]⟩
theorem ψ2h.ok:φ0 Tryz.prog 113 ψ2h.ctr:=fS (A:=ψ2h.ann) (eC ψ2O.ok (eC ψ2I.ok (eC ψ2n.ok φ1.nil))) Tryz.func113 (by kernel_rfl) (by kernel_rfl) (fun x=>by kernel_rfl)
def ψ2k.sig:Sig:=⟨[.val tyd,.val .str],[.val tyD,.val tyI],false⟩
def ψ2k.ctr:Ctr:=⟨ψ2k.sig,fun x=>ψ2k.f x.1 x.2⟩
def ψ2k.env:Env:=[(108,[ψ2z.ctr]),(116,[ψ2x.ctr])]
def ψ2k.ann:Ann:=⟨[],[],[]⟩
theorem ψ2k.ok:φ0 Tryz.prog 68 ψ2k.ctr:=fS (A:=ψ2k.ann) (eC ψ2z.ok (eC ψ2x.ok φ1.nil)) Tryz.func68 (by kernel_rfl) (by kernel_rfl) (fun x=>by kernel_rfl)
def ψ2t.sig:Sig:=⟨[.val tyd,.val .str],[.val tyD,.val tyI],false⟩
def ψ2t.ctr:Ctr:=⟨ψ2t.sig,fun x=>ψ2t.f x.1 x.2⟩
def ψ2t.env:Env:=[(108,[ψ2z.ctr]),(109,[ψ29.ctr]),(127,[ψ2b.ctr])]
def ψ2t.ann:Ann:=⟨[],[],[(1,[(.normal,[(1,.val .str),(2,.ptr tyd),(4,.ptr tyD)]),(.ret,[(4,.ptr tyD),(5,.val tyI)])])]⟩
theorem ψ2t.ok:φ0 Tryz.prog 196 ψ2t.ctr:=fS (A:=ψ2t.ann) (eC ψ2z.ok (eC ψ29.ok (eC ψ2b.ok φ1.nil))) Tryz.func196 (by kernel_rfl) (by kernel_rfl) (fun x=>by kernel_rfl)
def ψ27.sig:Sig:=⟨[.val tyd,.val .str,.val .str],[.val tyD,.val tyI],false⟩
def ψ27.ctr:Ctr:=⟨ψ27.sig,fun x=>ψ27.f x.1 x.2.1 x.2.2⟩
def ψ27.env:Env:=[(106,[ψ31.ctr]),(108,[ψ2z.ctr]),(116,[ψ2x.ctr])]
def ψ27.ann:Ann:=⟨[],[],[]⟩
theorem ψ27.ok:φ0 Tryz.prog 197 ψ27.ctr:=fS (A:=ψ27.ann) (eC ψ31.ok (eC ψ2z.ok (eC ψ2x.ok φ1.nil))) Tryz.func197 (by kernel_rfl) (by kernel_rfl) (fun x=>by kernel_rfl)
def ψ2r.sig:Sig:=⟨[.val tyd,.val .str,.val .str],[.val tyD,.val tyI],false⟩
def ψ2r.ctr:Ctr:=⟨ψ2r.sig,fun x=>ψ2r.f x.1 x.2.1 x.2.2⟩
def ψ2r.env:Env:=[(68,[ψ2k.ctr]),(196,[ψ2t.ctr]),(197,[ψ27.ctr])]
def ψ2r.ann:Ann:=⟨[],[],[(2,[(.normal,[(1,.val .str),(6,.ptr tyD),(8,.ptr tyD),(9,.val tyI)])])]⟩
theorem ψ2r.ok:φ0 Tryz.prog 153 ψ2r.ctr:=fS (A:=ψ2r.ann) (eC ψ2k.ok (eC ψ2t.ok (eC ψ27.ok φ1.nil))) Tryz.func153 (by kernel_rfl) (by kernel_rfl) (fun x=>by kernel_rfl)
def ψ2c.sig:Sig:=⟨[.val tyd,.val .str,.val .str],[.val tyD,.val tyI],false⟩
def ψ2c.ctr:Ctr:=⟨ψ2c.sig,fun x=>ψ2c.f x.1 x.2.1 x.2.2⟩
def ψ2c.env:Env:=[(107,[ψ2P.ctr]),(108,[ψ2z.ctr]),(116,[ψ2x.ctr]),(151,[ψ30.ctr]),(167,[ψ32.ctr])]
def ψ2c.ann:Ann:=⟨[],[],[(15,[(.normal,[(6,.ptr tyD),(8,.ptr tyD),(11,.ptr tyF)])])]⟩
theorem ψ2c.ok:φ0 Tryz.prog 154 ψ2c.ctr:=fS (A:=ψ2c.ann) (eC ψ2P.ok (eC ψ2z.ok (eC ψ2x.ok (eC ψ30.ok (eC ψ32.ok φ1.nil))))) Tryz.func154 (by kernel_rfl) (by kernel_rfl) (fun x=>by kernel_rfl)
def ψ2S.sig:Sig:=⟨[.val tyd,.val (.pair tyI (.sl false tyI))],[.val tyD,.val tyI],false⟩
def ψ2S.ctr:Ctr:=⟨ψ2S.sig,fun x=>ψ2S.f x.1 x.2⟩
def ψ2S.env:Env:=[(59,[ψ2E.ctr]),(60,[ψ2y.ctr]),(67,[ψ2q.ctr]),(113,[ψ2h.ctr]),(152,[ψ2O.ctr]),(153,[ψ2r.ctr]),(154,[ψ2c.ctr])]
def ψ2S.ann:Ann:=⟨[],[],[(4,[(.normal,[(4,.ptr tyD),(6,.ptr tyD),(7,.val tyI)])])]⟩
theorem ψ2S.ok:φ0 Tryz.prog 110 ψ2S.ctr:=fS (A:=ψ2S.ann) (eC ψ2E.ok (eC ψ2y.ok (eC ψ2q.ok (eC ψ2h.ok (eC ψ2O.ok (eC ψ2r.ok (eC ψ2c.ok φ1.nil))))))) Tryz.func110 (by kernel_rfl) (by kernel_rfl) (fun x=>by kernel_rfl)
def ψ2s.sig:Sig:=⟨[.val tyd],[.val tyS,.val tyd,.val tyI],false⟩
def ψ2s.ctr:Ctr:=⟨ψ2s.sig,fun x=>ψ2s.f x⟩
def ψ2s.env:Env:=[(64,[ψ2f.ctr]),(67,[ψ2q.ctr]),(74,[ψ2v.ctr]),(109,[ψ29.ctr]),(110,[ψ2S.ctr])]
def ψ2s.ann:Ann:=⟨[],[],[]⟩
theorem ψ2s.ok:φ0 Tryz.prog 62 ψ2s.ctr:=fS (A:=ψ2s.ann) (eC ψ2f.ok (eC ψ2q.ok (eC ψ2v.ok (eC ψ29.ok (eC ψ2S.ok φ1.nil))))) Tryz.func62 (by kernel_rfl) (by kernel_rfl) (fun x=>by kernel_rfl)
def ψ2Y.sig:Sig:=⟨[.val .str],[.val tyI,.val tyI],false⟩
def ψ2Y.ctr:Ctr:=⟨ψ2Y.sig,fun x=>ψ2Y.f x⟩
def ψ2Y.env:Env:=[(156,[ψ2n.ctr])]
def ψ2Y.ann:Ann:=⟨[(2,([(0,.val .str),(4,.val tyI),(5,.val tyI),(6,.val tyI)],[(.exit 2,[(0,.val .str),(4,.val tyI),(5,.val tyI)])])),(0,([(0,.val .str),(4,.val tyI)],[(.exit 0,[]),(.ret,[(2,.val tyI),(3,.val tyI)])]))],[],[]⟩
theorem ψ2Y.ok:φ0 Tryz.prog 112 ψ2Y.ctr:=fS (A:=ψ2Y.ann) (eC ψ2n.ok φ1.nil) Tryz.func112 (by kernel_rfl) (by kernel_rfl) (fun x=>by kernel_rfl)
def ψ2m.sig:Sig:=⟨[.val .str],[.val .str,.val tyI],false⟩
def ψ2m.ctr:Ctr:=⟨ψ2m.sig,fun x=>ψ2m.f x⟩
def ψ2m.env:Env:=[(112,[ψ2Y.ctr]),(155,[ψ2I.ctr])]
def ψ2m.ann:Ann:=⟨[],[],[]⟩
theorem ψ2m.ok:φ0 Tryz.prog 111 ψ2m.ctr:=fS (A:=ψ2m.ann) (eC ψ2Y.ok (eC ψ2I.ok φ1.nil)) Tryz.func111 (by kernel_rfl) (by kernel_rfl) (fun x=>by kernel_rfl)
def ψ2W.sig:Sig:=⟨[.val .str],[.val (.pair tyI (.sl false tyI)),.val .bool],false⟩
def ψ2W.ctr:Ctr:=⟨ψ2W.sig,fun x=>ψ2W.f x⟩
def ψ2W.env:Env:=[(111,[ψ2m.ctr]),(112,[ψ2Y.ctr]),(113,[ψ2h.ctr])]
def ψ2W.ann:Ann:=⟨[(0,([(0,.val .str),(2,.ptr (.pair tyI (.sl true tyI))),(4,.val .str),(8,.val tyI),(10,.ptr (.pair tyI (.sl true tyI))),(11,.val tyI),(12,.val tyI)],[(.exit 0,[(0,.val .str),(2,.ptr (.pair tyI (.sl true tyI))),(10,.ptr (.pair tyI (.sl true tyI)))])]))],[],[]⟩
theorem ψ2W.ok:φ0 Tryz.prog 63 ψ2W.ctr:=fS (A:=ψ2W.ann) (eC ψ2m.ok (eC ψ2Y.ok (eC ψ2h.ok φ1.nil))) Tryz.func63 (by kernel_rfl) (by kernel_rfl) (fun x=>by kernel_rfl)
def ψ33.sig:Sig:=⟨[.val .str],[.val .str,.val .str,.val .bool],false⟩
def ψ33.ctr:Ctr:=⟨ψ33.sig,fun x=>ψ33.f x⟩
def ψ33.env:Env:=[(112,[ψ2Y.ctr])]
def ψ33.ann:Ann:=⟨[],[],[]⟩
theorem ψ33.ok:φ0 Tryz.prog 118 ψ33.ctr:=fS (A:=ψ33.ann) (eC ψ2Y.ok φ1.nil) Tryz.func118 (by kernel_rfl) (by kernel_rfl) (fun x=>by kernel_rfl)
def ψ2U.sig:Sig:=⟨[.val .str,.val tyI],[.val tyI,.val .bool],false⟩
def ψ2U.ctr:Ctr:=⟨ψ2U.sig,fun x=>ψ2U.f x.1 x.2⟩
def ψ2U.env:Env:=[(105,[ψ2w.ctr])]
def ψ2U.ann:Ann:=⟨[(0,([(0,.val .str),(1,.val tyI),(6,.val tyI),(7,.val tyI)],[(.exit 0,[(6,.val tyI)])]))],[],[]⟩
theorem ψ2U.ok:φ0 Tryz.prog 157 ψ2U.ctr:=fS (A:=ψ2U.ann) (eC ψ2w.ok φ1.nil) Tryz.func157 (by kernel_rfl) (by kernel_rfl) (fun x=>by kernel_rfl)
def ψ2N.sig:Sig:=⟨[.val .str],[.val .bool],false⟩
def ψ2N.ctr:Ctr:=⟨ψ2N.sig,fun x=>ψ2N.f x⟩
def ψ2N.env:Env:=[(105,[ψ2w.ctr])]
def ψ2N.ann:Ann:=⟨[],[],[]⟩
theorem ψ2N.ok:φ0 Tryz.prog 223 ψ2N.ctr:=fS (A:=ψ2N.ann) (eC ψ2w.ok φ1.nil) Tryz.func223 (by kernel_rfl) (by kernel_rfl) (fun x=>by kernel_rfl)
def ψ2Z.sig:Sig:=⟨[.val tyR],[.val .bool],false⟩
def ψ2Z.ctr:Ctr:=⟨ψ2Z.sig,fun x=>ψ2Z.f x⟩
def ψ2Z.env:Env:=[(105,[ψ2w.ctr]),(223,[ψ2N.ctr])]
def ψ2Z.ann:Ann:=⟨[],[],[(1,[(.normal,[(1,.ptr tyR)]),(.ret,[(2,.val .bool)])]),(4,[(.normal,[(1,.ptr tyR),(18,.val tyI),(19,.val .bool)])])]⟩
theorem ψ2Z.ok:φ0 Tryz.prog 198 ψ2Z.ctr:=fS (A:=ψ2Z.ann) (eC ψ2w.ok (eC ψ2N.ok φ1.nil)) Tryz.func198 (by kernel_rfl) (by kernel_rfl) (fun x=>by kernel_rfl)
def ψ2i.sig:Sig:=⟨[.val tyR],[.val .str],false⟩
def ψ2i.ctr:Ctr:=⟨ψ2i.sig,fun x=>ψ2i.f x⟩
def ψ2i.env:Env:=[(156,[ψ2n.ctr]),(160,[ψ2H.ctr]),(198,[ψ2Z.ctr])]
def ψ2i.ann:Ann:=⟨[],[],[(5,[(.normal,[(1,.ptr tyR),(3,.val .str),(15,.val tyI),(16,.val .bool)])])]⟩
theorem ψ2i.ok:φ0 Tryz.prog 158 ψ2i.ctr:=fS (A:=ψ2i.ann) (eC ψ2n.ok (eC ψ2H.ok (eC ψ2Z.ok φ1.nil))) Tryz.func158 (by kernel_rfl) (by kernel_rfl) (fun x=>by kernel_rfl)
def ψ2X.sig:Sig:=⟨[.val .str],[.val tyR,.val .bool],false⟩
def ψ2X.ctr:Ctr:=⟨ψ2X.sig,fun x=>ψ2X.f x⟩
def ψ2X.env:Env:=[(112,[ψ2Y.ctr]),(118,[ψ33.ctr]),(157,[ψ2U.ctr]),(158,[ψ2i.ctr])]
def ψ2X.ann:Ann:=⟨[],[(0,[(.normal,[(0,.val .str),(2,.ptr tyR),(8,.ptr tyR)])])],[(12,[(.normal,[(0,.val .str),(2,.ptr tyR),(8,.ptr tyR),(9,.val .str),(50,.val tyI),(67,.val .bool)])]),(18,[(.normal,[(0,.val .str),(2,.ptr tyR),(8,.ptr tyR)])])]⟩
theorem ψ2X.ok:φ0 Tryz.prog 115 ψ2X.ctr:=fS (A:=ψ2X.ann) (eC ψ2Y.ok (eC ψ33.ok (eC ψ2U.ok (eC ψ2i.ok φ1.nil)))) Tryz.func115 (by kernel_rfl) (by kernel_rfl) (fun x=>by kernel_rfl)
def ψ2e.sig:Sig:=⟨[.val .str],[.val (.sl true (.pair tyI (.pair tyI tyR))),.val tyI],false⟩
def ψ2e.ctr:Ctr:=⟨ψ2e.sig,fun x=>ψ2e.f x⟩
def ψ2e.env:Env:=[(111,[ψ2m.ctr]),(115,[ψ2X.ctr])]
def ψ2e.ann:Ann:=⟨[(0,([(0,.val .str),(4,.val (.sl true (.pair tyI (.pair tyI tyR)))),(5,.val tyI)],[(.exit 0,[(4,.val (.sl true (.pair tyI (.pair tyI tyR)))),(5,.val tyI)]),(.ret,[(2,.val (.sl true (.pair tyI (.pair tyI tyR)))),(3,.val tyI)])]))],[],[]⟩
theorem ψ2e.ok:φ0 Tryz.prog 65 ψ2e.ctr:=fS (A:=ψ2e.ann) (eC ψ2m.ok (eC ψ2X.ok φ1.nil)) Tryz.func65 (by kernel_rfl) (by kernel_rfl) (fun x=>by kernel_rfl)
def ψ2l.sig:Sig:=⟨[.val tyd,.val .str,.val tyI],[.val tyD,.val tyI],false⟩
def ψ2l.ctr:Ctr:=⟨ψ2l.sig,fun x=>ψ2l.f x.1 x.2.1 x.2.2⟩
def ψ2l.env:Env:=[(105,[ψ2w.ctr]),(108,[ψ2z.ctr]),(116,[ψ2x.ctr])]
def ψ2l.ann:Ann:=⟨[],[],[]⟩
theorem ψ2l.ok:φ0 Tryz.prog 66 ψ2l.ctr:=fS (A:=ψ2l.ann) (eC ψ2w.ok (eC ψ2z.ok (eC ψ2x.ok φ1.nil))) Tryz.func66 (by kernel_rfl) (by kernel_rfl) (fun x=>by kernel_rfl)
def ψ2p.sig:Sig:=⟨[.val .str,.val tyI,.val tyI],[.val (.sl true tyI),.val tyI],false⟩
def ψ2p.ctr:Ctr:=⟨ψ2p.sig,fun x=>ψ2p.f x.1 x.2.1 x.2.2⟩
def ψ2p.env:Env:=[(112,[ψ2Y.ctr])]
def ψ2p.ann:Ann:=⟨[(0,([(0,.val .str),(1,.val tyI),(2,.val tyI),(8,.val (.sl true tyI)),(9,.val tyI)],[(.exit 0,[(1,.val tyI),(8,.val (.sl true tyI))]),(.ret,[(6,.val (.sl true tyI)),(7,.val tyI)])]))],[],[]⟩
theorem ψ2p.ok:φ0 Tryz.prog 117 ψ2p.ctr:=fS (A:=ψ2p.ann) (eC ψ2Y.ok φ1.nil) Tryz.func117 (by kernel_rfl) (by kernel_rfl) (fun x=>by kernel_rfl)
def ψ2C.sig:Sig:=⟨[.val (.sl false tyE)],[.val .bool],false⟩
def ψ2C.ctr:Ctr:=⟨ψ2C.sig,fun x=>ψ2C.f x⟩
def ψ2C.env:Env:=[(105,[ψ2w.ctr]),(223,[ψ2N.ctr])]
def ψ2C.ann:Ann:=⟨[(0,([(0,.val (.sl false tyE)),(3,.val tyI)],[(.exit 0,[]),(.ret,[(2,.val .bool)])]))],[],[(7,[(.normal,[(0,.val (.sl false tyE)),(3,.val tyI)]),(.ret,[(2,.val .bool)])])]⟩
theorem ψ2C.ok:φ0 Tryz.prog 199 ψ2C.ctr:=fS (A:=ψ2C.ann) (eC ψ2w.ok (eC ψ2N.ok φ1.nil)) Tryz.func199 (by kernel_rfl) (by kernel_rfl) (fun x=>by kernel_rfl)
def ψ2o.sig:Sig:=⟨[.val (.pair tyI (.pair tyI (.sl false tyE)))],[.val .bool],false⟩
def ψ2o.ctr:Ctr:=⟨ψ2o.sig,fun x=>ψ2o.f x⟩
def ψ2o.env:Env:=[(105,[ψ2w.ctr]),(199,[ψ2C.ctr])]
def ψ2o.ann:Ann:=⟨[(0,([(1,.ptr (.pair tyI (.pair tyI (.sl false tyE)))),(3,.val tyI)],[(.exit 0,[]),(.ret,[(2,.val .bool)])]))],[],[]⟩
theorem ψ2o.ok:φ0 Tryz.prog 159 ψ2o.ctr:=fS (A:=ψ2o.ann) (eC ψ2w.ok (eC ψ2C.ok φ1.nil)) Tryz.func159 (by kernel_rfl) (by kernel_rfl) (fun x=>by kernel_rfl)
def ψ2g.sig:Sig:=⟨[.val (.pair tyI (.pair tyI (.sl false tyE)))],[.val .str],false⟩
def ψ2g.ctr:Ctr:=⟨ψ2g.sig,fun x=>ψ2g.f x⟩
def ψ2g.env:Env:=[(156,[ψ2n.ctr]),(159,[ψ2o.ctr]),(160,[ψ2H.ctr]),(161,[ψ28.ctr])]
def ψ2g.ann:Ann:=⟨[(0,([(1,.ptr (.pair tyI (.pair tyI (.sl false tyE)))),(3,.val .str),(4,.val tyI)],[(.exit 0,[(3,.val .str)])]))],[],[]⟩
theorem ψ2g.ok:φ0 Tryz.prog 119 ψ2g.ctr:=fS (A:=ψ2g.ann) (eC ψ2n.ok (eC ψ2o.ok (eC ψ2H.ok (eC ψ28.ok φ1.nil)))) Tryz.func119 (by kernel_rfl) (by kernel_rfl) (fun x=>by kernel_rfl)
def ψ2V.sig:Sig:=⟨[.val .str],[.val (.pair tyI (.pair tyI (.sl true tyE))),.val .bool],false⟩
def ψ2V.ctr:Ctr:=⟨ψ2V.sig,fun x=>ψ2V.f x⟩
def ψ2V.env:Env:=[(117,[ψ2p.ctr]),(118,[ψ33.ctr]),(119,[ψ2g.ctr])]
def ψ2V.ann:Ann:=⟨[(0,([(0,.val .str),(2,.ptr (.pair tyI (.pair tyI (.sl true tyE)))),(4,.val (.sl true tyI)),(5,.val tyI),(6,.ptr (.pair tyI (.pair tyI (.sl true tyE)))),(7,.val tyI)],[(.exit 0,[(0,.val .str),(2,.ptr (.pair tyI (.pair tyI (.sl true tyE)))),(6,.ptr (.pair tyI (.pair tyI (.sl true tyE))))]),(.ret,[(2,.ptr (.pair tyI (.pair tyI (.sl true tyE)))),(3,.val .bool)])]))],[],[]⟩
theorem ψ2V.ok:φ0 Tryz.prog 70 ψ2V.ctr:=fS (A:=ψ2V.ann) (eC ψ2p.ok (eC ψ33.ok (eC ψ2g.ok φ1.nil))) Tryz.func70 (by kernel_rfl) (by kernel_rfl) (fun x=>by kernel_rfl)
def ψ2j.sig:Sig:=⟨[.val (.sl false tyR)],[.val tyI],false⟩
def ψ2j.ctr:Ctr:=⟨ψ2j.sig,fun x=>ψ2j.f x⟩
def ψ2j.env:Env:=[(158,[ψ2i.ctr]),(161,[ψ28.ctr])]
def ψ2j.ann:Ann:=⟨[(0,([(0,.val (.sl false tyR)),(3,.val .str),(4,.val tyI)],[(.exit 0,[(3,.val .str)])]))],[],[]⟩
theorem ψ2j.ok:φ0 Tryz.prog 162 ψ2j.ctr:=fS (A:=ψ2j.ann) (eC ψ2i.ok (eC ψ28.ok φ1.nil)) Tryz.func162 (by kernel_rfl) (by kernel_rfl) (fun x=>by kernel_rfl)
def ψ2L.sig:Sig:=⟨[.val tyI,.val .str],[.val (.pair tyI (.pair tyI (.sl true tyE))),.val .bool],false⟩
def ψ2L.ctr:Ctr:=⟨ψ2L.sig,fun x=>ψ2L.f x.1 x.2⟩
def ψ2L.env:Env:=[(64,[ψ2f.ctr]),(65,[ψ2e.ctr]),(162,[ψ2j.ctr])]
def ψ2L.ann:Ann:=⟨[(0,([(0,.val tyI),(4,.ptr (.pair tyI (.pair tyI (.sl true tyE)))),(6,.val (.sl true (.pair tyI (.pair tyI tyR)))),(8,.ptr (.pair tyI (.pair tyI (.sl true tyE)))),(9,.val (.sl true tyR)),(10,.val tyI)],[(.exit 0,[(4,.ptr (.pair tyI (.pair tyI (.sl true tyE)))),(6,.val (.sl true (.pair tyI (.pair tyI tyR)))),(8,.ptr (.pair tyI (.pair tyI (.sl true tyE)))),(9,.val (.sl true tyR))]),(.ret,[(4,.ptr (.pair tyI (.pair tyI (.sl true tyE)))),(5,.val .bool)])]))],[],[(10,[(.normal,[(0,.val tyI),(4,.ptr (.pair tyI (.pair tyI (.sl true tyE)))),(6,.val (.sl true (.pair tyI (.pair tyI tyR)))),(8,.ptr (.pair tyI (.pair tyI (.sl true tyE)))),(9,.val (.sl true tyR)),(10,.val tyI),(11,.ptr tyR)]),(.ret,[(4,.ptr (.pair tyI (.pair tyI (.sl true tyE)))),(5,.val .bool)])])]⟩
theorem ψ2L.ok:φ0 Tryz.prog 120 ψ2L.ctr:=fS (A:=ψ2L.ann) (eC ψ2f.ok (eC ψ2e.ok (eC ψ2j.ok φ1.nil))) Tryz.func120 (by kernel_rfl) (by kernel_rfl) (fun x=>by kernel_rfl)
def ψ2d.sig:Sig:=⟨[.val (.sl false tyE),.val (.sl false tyE)],[.val .bool],false⟩
def ψ2d.ctr:Ctr:=⟨ψ2d.sig,fun x=>ψ2d.f x.1 x.2⟩
def ψ2d.env:Env:=[]
def ψ2d.ann:Ann:=⟨[(0,([(0,.val (.sl false tyE)),(1,.val (.sl false tyE)),(5,.val tyI)],[(.exit 0,[]),(.ret,[(4,.val .bool)])]))],[],[]⟩
theorem ψ2d.ok:φ0 Tryz.prog 121 ψ2d.ctr:=fS (A:=ψ2d.ann) φ1.nil Tryz.func121 (by kernel_rfl) (by kernel_rfl) (fun x=>by kernel_rfl)
def ψ2J.sig:Sig:=⟨[.val tyI,.val .str,.val (.pair tyI (.pair tyI (.sl false tyE)))],[.val .bool],false⟩
def ψ2J.ctr:Ctr:=⟨ψ2J.sig,fun x=>ψ2J.f x.1 x.2.1 x.2.2⟩
def ψ2J.env:Env:=[(120,[ψ2L.ctr]),(121,[ψ2d.ctr])]
def ψ2J.ann:Ann:=⟨[],[],[]⟩
theorem ψ2J.ok:φ0 Tryz.prog 71 ψ2J.ctr:=fS (A:=ψ2J.ann) (eC ψ2L.ok (eC ψ2d.ok φ1.nil)) Tryz.func71 (by kernel_rfl) (by kernel_rfl) (fun x=>by kernel_rfl)
def ψ2u.sig:Sig:=⟨[.val tyI,.val .str],[.val (.sl true (.pair tyI (.pair tyI (.pair tyI tyR))))],false⟩
def ψ2u.ctr:Ctr:=⟨ψ2u.sig,fun x=>ψ2u.f x.1 x.2⟩
def ψ2u.env:Env:=[(65,[ψ2e.ctr])]
def ψ2u.ann:Ann:=⟨[(0,([(0,.val tyI),(5,.val (.sl true (.pair tyI (.pair tyI (.pair tyI tyR))))),(6,.val (.sl true (.pair tyI (.pair tyI tyR)))),(8,.val tyI)],[(.exit 0,[(5,.val (.sl true (.pair tyI (.pair tyI (.pair tyI tyR)))))])]))],[],[]⟩
theorem ψ2u.ok:φ0 Tryz.prog 72 ψ2u.ctr:=fS (A:=ψ2u.ann) (eC ψ2e.ok φ1.nil) Tryz.func72 (by kernel_rfl) (by kernel_rfl) (fun x=>by kernel_rfl)
def ψ36.sig:Sig:=⟨[.val (.sl false (.pair tyI (.pair tyI (.pair tyI tyR)))),.val tyI,.val tyI],[.val (.sl true (.pair tyI (.pair tyI (.pair tyI tyR))))],false⟩
def ψ36.ctr:Ctr:=⟨ψ36.sig,fun x=>ψ36.f x.1 x.2.1 x.2.2⟩
def ψ36.env:Env:=[]
def ψ36.ann:Ann:=⟨[(0,([(0,.val (.sl false (.pair tyI (.pair tyI (.pair tyI tyR))))),(1,.val tyI),(2,.val tyI),(7,.val (.sl true (.pair tyI (.pair tyI (.pair tyI tyR))))),(8,.val tyI)],[(.exit 0,[(7,.val (.sl true (.pair tyI (.pair tyI (.pair tyI tyR)))))])]))],[],[(6,[(.normal,[(0,.val (.sl false (.pair tyI (.pair tyI (.pair tyI tyR))))),(1,.val tyI),(2,.val tyI),(7,.val (.sl true (.pair tyI (.pair tyI (.pair tyI tyR))))),(8,.val tyI),(9,.ptr tyR)])]),(8,[(.normal,[(0,.val (.sl false (.pair tyI (.pair tyI (.pair tyI tyR))))),(1,.val tyI),(2,.val tyI),(7,.val (.sl true (.pair tyI (.pair tyI (.pair tyI tyR))))),(8,.val tyI)])])]⟩
theorem ψ36.ok:φ0 Tryz.prog 122 ψ36.ctr:=fS (A:=ψ36.ann) φ1.nil Tryz.func122 (by kernel_rfl) (by kernel_rfl) (fun x=>by kernel_rfl)
def ψ38.sig:Sig:=⟨[.val (.sl false (.pair tyI (.pair tyI (.pair tyI tyR))))],[.val (.sl true tyR)],false⟩
def ψ38.ctr:Ctr:=⟨ψ38.sig,fun x=>ψ38.f x⟩
def ψ38.env:Env:=[]
def ψ38.ann:Ann:=⟨[(0,([(0,.val (.sl false (.pair tyI (.pair tyI (.pair tyI tyR))))),(3,.val (.sl true tyR)),(4,.val tyI)],[(.exit 0,[(3,.val (.sl true tyR))])]))],[],[]⟩
theorem ψ38.ok:φ0 Tryz.prog 163 ψ38.ctr:=fS (A:=ψ38.ann) φ1.nil Tryz.func163 (by kernel_rfl) (by kernel_rfl) (fun x=>by kernel_rfl)
def ψ34.sig:Sig:=⟨[.val tyR,.val (.sl false (.pair tyI (.pair tyI (.pair tyI tyR))))],[.val .bool],false⟩
def ψ34.ctr:Ctr:=⟨ψ34.sig,fun x=>ψ34.f x.1 x.2⟩
def ψ34.env:Env:=[(162,[ψ2j.ctr]),(163,[ψ38.ctr])]
def ψ34.ann:Ann:=⟨[],[],[]⟩
theorem ψ34.ok:φ0 Tryz.prog 123 ψ34.ctr:=fS (A:=ψ34.ann) (eC ψ2j.ok (eC ψ38.ok φ1.nil)) Tryz.func123 (by kernel_rfl) (by kernel_rfl) (fun x=>by kernel_rfl)
def ψ35.sig:Sig:=⟨[.val (.sl false (.pair tyI (.pair tyI (.pair tyI tyR)))),.val tyI],[.val (.sl true (.pair tyI (.pair tyI (.pair tyI tyR))))],false⟩
def ψ35.ctr:Ctr:=⟨ψ35.sig,fun x=>ψ35.f x.1 x.2⟩
def ψ35.env:Env:=[]
def ψ35.ann:Ann:=⟨[(0,([(0,.val (.sl false (.pair tyI (.pair tyI (.pair tyI tyR))))),(1,.val tyI),(5,.val (.sl true (.pair tyI (.pair tyI (.pair tyI tyR))))),(6,.val tyI)],[(.exit 0,[(5,.val (.sl true (.pair tyI (.pair tyI (.pair tyI tyR)))))])]))],[],[(5,[(.normal,[(0,.val (.sl false (.pair tyI (.pair tyI (.pair tyI tyR))))),(1,.val tyI),(5,.val (.sl true (.pair tyI (.pair tyI (.pair tyI tyR))))),(6,.val tyI)])]),(7,[(.normal,[(0,.val (.sl false (.pair tyI (.pair tyI (.pair tyI tyR))))),(1,.val tyI),(5,.val (.sl true (.pair tyI (.pair tyI (.pair tyI tyR))))),(6,.val tyI)])])]⟩
theorem ψ35.ok:φ0 Tryz.prog 124 ψ35.ctr:=fS (A:=ψ35.ann) φ1.nil Tryz.func124 (by kernel_rfl) (by kernel_rfl) (fun x=>by kernel_rfl)
def ψ2B.sig:Sig:=⟨[.val (.sl false tyE),.val .str],[.val (.sl true tyE)],false⟩
def ψ2B.ctr:Ctr:=⟨ψ2B.sig,fun x=>ψ2B.f x.1 x.2⟩
def ψ2B.env:Env:=[]
def ψ2B.ann:Ann:=⟨[(0,([(0,.val (.sl false tyE)),(1,.val .str),(5,.val (.sl true tyE)),(6,.val tyI)],[(.exit 0,[(5,.val (.sl true tyE))])]))],[],[(5,[(.normal,[(0,.val (.sl false tyE)),(1,.val .str),(5,.val (.sl true tyE)),(6,.val tyI)])])]⟩
theorem ψ2B.ok:φ0 Tryz.prog 164 ψ2B.ctr:=fS (A:=ψ2B.ann) φ1.nil Tryz.func164 (by kernel_rfl) (by kernel_rfl) (fun x=>by kernel_rfl)
def ψ2D.sig:Sig:=⟨[.val (.sl false tyE),.val tyE],[.val (.sl true tyE)],false⟩
def ψ2D.ctr:Ctr:=⟨ψ2D.sig,fun x=>ψ2D.f x.1 x.2⟩
def ψ2D.env:Env:=[]
def ψ2D.ann:Ann:=⟨[(0,([(0,.val (.sl false tyE)),(3,.ptr tyE),(5,.val (.sl true tyE)),(6,.val .bool),(7,.val tyI)],[(.exit 0,[(3,.ptr tyE),(5,.val (.sl true tyE)),(6,.val .bool)])]))],[(1,[(.normal,[(0,.val (.sl false tyE)),(3,.ptr tyE),(5,.val (.sl true tyE)),(6,.val .bool),(7,.val tyI)])])],[(7,[(.normal,[(0,.val (.sl false tyE)),(3,.ptr tyE),(5,.val (.sl true tyE)),(6,.val .bool),(7,.val tyI)])])]⟩
theorem ψ2D.ok:φ0 Tryz.prog 165 ψ2D.ctr:=fS (A:=ψ2D.ann) φ1.nil Tryz.func165 (by kernel_rfl) (by kernel_rfl) (fun x=>by kernel_rfl)
def ψ37.sig:Sig:=⟨[.val (.sl false tyE),.val (.pair tyI (.pair tyI (.pair tyI tyR)))],[.val (.sl true tyE)],false⟩
def ψ37.ctr:Ctr:=⟨ψ37.sig,fun x=>ψ37.f x.1 x.2⟩
def ψ37.env:Env:=[(164,[ψ2B.ctr]),(165,[ψ2D.ctr])]
def ψ37.ann:Ann:=⟨[],[],[]⟩
theorem ψ37.ok:φ0 Tryz.prog 125 ψ37.ctr:=fS (A:=ψ37.ann) (eC ψ2B.ok (eC ψ2D.ok φ1.nil)) Tryz.func125 (by kernel_rfl) (by kernel_rfl) (fun x=>by kernel_rfl)
def ψ2a.sig:Sig:=⟨[.val (.pair (.sl false tyE) (.pair tyI tyI)),.val (.sl false (.pair tyI (.pair tyI (.pair tyI tyR))))],[.val (.pair (.sl true tyE) (.pair tyI tyI))],false⟩
def ψ2a.ctr:Ctr:=⟨ψ2a.sig,fun x=>ψ2a.f x.1 x.2⟩
def ψ2a.env:Env:=[(122,[ψ36.ctr]),(123,[ψ34.ctr]),(124,[ψ35.ctr]),(125,[ψ37.ctr])]
def ψ2a.ann:Ann:=⟨[(3,([(1,.val (.sl false (.pair tyI (.pair tyI (.pair tyI tyR))))),(4,.ptr (.pair (.sl true tyE) (.pair tyI tyI))),(5,.ptr (.pair (.sl true tyE) (.pair tyI tyI))),(6,.val tyI),(8,.val (.sl true (.pair tyI (.pair tyI (.pair tyI tyR))))),(9,.val tyI)],[(.exit 3,[(1,.val (.sl false (.pair tyI (.pair tyI (.pair tyI tyR))))),(4,.ptr (.pair (.sl true tyE) (.pair tyI tyI))),(5,.ptr (.pair (.sl true tyE) (.pair tyI tyI))),(6,.val tyI)])])),(0,([(1,.val (.sl false (.pair tyI (.pair tyI (.pair tyI tyR))))),(4,.ptr (.pair (.sl true tyE) (.pair tyI tyI))),(5,.ptr (.pair (.sl true tyE) (.pair tyI tyI))),(6,.val tyI)],[(.exit 0,[(1,.val (.sl false (.pair tyI (.pair tyI (.pair tyI tyR))))),(4,.ptr (.pair (.sl true tyE) (.pair tyI tyI))),(5,.ptr (.pair (.sl true tyE) (.pair tyI tyI)))])]))],[(1,[(.normal,[(1,.val (.sl false (.pair tyI (.pair tyI (.pair tyI tyR))))),(4,.ptr (.pair (.sl true tyE) (.pair tyI tyI))),(5,.ptr (.pair (.sl true tyE) (.pair tyI tyI))),(6,.val tyI)])])],[(9,[(.normal,[(1,.val (.sl false (.pair tyI (.pair tyI (.pair tyI tyR))))),(4,.ptr (.pair (.sl true tyE) (.pair tyI tyI))),(5,.ptr (.pair (.sl true tyE) (.pair tyI tyI))),(6,.val tyI),(8,.val (.sl true (.pair tyI (.pair tyI (.pair tyI tyR)))))]),(.exit 1,[(1,.val (.sl false (.pair tyI (.pair tyI (.pair tyI tyR))))),(4,.ptr (.pair (.sl true tyE) (.pair tyI tyI))),(5,.ptr (.pair (.sl true tyE) (.pair tyI tyI))),(6,.val tyI)])]),(20,[(.normal,[(1,.val (.sl false (.pair tyI (.pair tyI (.pair tyI tyR))))),(4,.ptr (.pair (.sl true tyE) (.pair tyI tyI))),(5,.ptr (.pair (.sl true tyE) (.pair tyI tyI))),(6,.val tyI)])])]⟩
theorem ψ2a.ok:φ0 Tryz.prog 73 ψ2a.ctr:=fS (A:=ψ2a.ann) (eC ψ36.ok (eC ψ34.ok (eC ψ35.ok (eC ψ37.ok φ1.nil)))) Tryz.func73 (by kernel_rfl) (by kernel_rfl) (fun x=>by kernel_rfl)
def ψ2Q.sig:Sig:=⟨[.val tyd],[.val (.pair (.pair tyI (.sl false tyI)) (.pair (.sl true tyE) (.pair tyI (.pair tyI tyI)))),.val tyd,.val tyI],false⟩
def ψ2Q.ctr:Ctr:=⟨ψ2Q.sig,fun x=>ψ2Q.f x⟩
def ψ2Q.env:Env:=[(59,[ψ2E.ctr]),(60,[ψ2y.ctr]),(61,[ψ2G.ctr]),(62,[ψ2s.ctr]),(63,[ψ2W.ctr]),(64,[ψ2f.ctr]),(65,[ψ2e.ctr]),(66,[ψ2l.ctr]),(67,[ψ2q.ctr]),(68,[ψ2k.ctr]),(69,[ψ2K.ctr]),(70,[ψ2V.ctr]),(71,[ψ2J.ctr]),(72,[ψ2u.ctr]),(73,[ψ2a.ctr]),(74,[ψ2v.ctr])]
def ψ2Q.ann:Ann:=⟨[(0,([(1,.ptr tyd),(2,.ptr tyS),(3,.ptr tyD),(5,.ptr tyS),(8,.ptr (.pair tyI (.sl false tyI))),(9,.val tyI),(10,.val tyI)],[(.exit 0,[(1,.ptr tyd),(2,.ptr tyS),(3,.ptr tyD),(5,.ptr tyS),(8,.ptr (.pair tyI (.sl false tyI))),(9,.val tyI)]),(.ret,[(2,.ptr tyS),(3,.ptr tyD),(4,.val tyI)])])),(2,([(2,.ptr tyS),(3,.ptr tyD),(5,.ptr tyS),(8,.ptr (.pair tyI (.sl false tyI))),(19,.ptr tyD),(23,.ptr (.pair (.pair tyI (.sl false tyI)) (.pair (.sl true tyE) (.pair tyI (.pair tyI tyI))))),(24,.ptr (.pair (.sl true tyE) (.pair tyI tyI))),(25,.val (.sl true (.pair tyI (.pair tyI (.pair tyI tyR))))),(26,.val tyI)],[(.exit 2,[(2,.ptr tyS),(3,.ptr tyD),(5,.ptr tyS),(8,.ptr (.pair tyI (.sl false tyI))),(19,.ptr tyD),(23,.ptr (.pair (.pair tyI (.sl false tyI)) (.pair (.sl true tyE) (.pair tyI (.pair tyI tyI))))),(24,.ptr (.pair (.sl true tyE) (.pair tyI tyI))),(25,.val (.sl true (.pair tyI (.pair tyI (.pair tyI tyR)))))])]))],[(3,[(.normal,[(2,.ptr tyS),(3,.ptr tyD),(5,.ptr tyS),(8,.ptr (.pair tyI (.sl false tyI))),(19,.ptr tyD),(23,.ptr (.pair (.pair tyI (.sl false tyI)) (.pair (.sl true tyE) (.pair tyI (.pair tyI tyI))))),(24,.ptr (.pair (.sl true tyE) (.pair tyI tyI))),(25,.val (.sl true (.pair tyI (.pair tyI (.pair tyI tyR))))),(26,.val tyI)])])],[(18,[(.normal,[(1,.ptr tyd),(2,.ptr tyS),(3,.ptr tyD),(5,.ptr tyS),(8,.ptr (.pair tyI (.sl false tyI))),(9,.val tyI),(10,.val tyI)]),(.ret,[(2,.ptr tyS),(3,.ptr tyD),(4,.val tyI)])]),(23,[(.normal,[(2,.ptr tyS),(3,.ptr tyD),(5,.ptr tyS),(8,.ptr (.pair tyI (.sl false tyI))),(9,.val tyI),(18,.val tyI),(19,.ptr tyD)]),(.ret,[(2,.ptr tyS),(3,.ptr tyD),(4,.val tyI)])]),(40,[(.normal,[(2,.ptr tyS),(3,.ptr tyD),(5,.ptr tyS),(8,.ptr (.pair tyI (.sl false tyI))),(19,.ptr tyD),(23,.ptr (.pair (.pair tyI (.sl false tyI)) (.pair (.sl true tyE) (.pair tyI (.pair tyI tyI))))),(24,.ptr (.pair (.sl true tyE) (.pair tyI tyI))),(25,.val (.sl true (.pair tyI (.pair tyI (.pair tyI tyR))))),(26,.val tyI),(27,.val .str)]),(.exit 3,[(2,.ptr tyS),(3,.ptr tyD),(5,.ptr tyS),(8,.ptr (.pair tyI (.sl false tyI))),(19,.ptr tyD),(23,.ptr (.pair (.pair tyI (.sl false tyI)) (.pair (.sl true tyE) (.pair tyI (.pair tyI tyI))))),(24,.ptr (.pair (.sl true tyE) (.pair tyI tyI))),(25,.val (.sl true (.pair tyI (.pair tyI (.pair tyI tyR))))),(26,.val tyI)])])]⟩
theorem ψ2Q.ok:φ0 Tryz.prog 34 ψ2Q.ctr:=fS (A:=ψ2Q.ann) (eC ψ2E.ok (eC ψ2y.ok (eC ψ2G.ok (eC ψ2s.ok (eC ψ2W.ok (eC ψ2f.ok (eC ψ2e.ok (eC ψ2l.ok (eC ψ2q.ok (eC ψ2k.ok (eC ψ2K.ok (eC ψ2V.ok (eC ψ2J.ok (eC ψ2u.ok (eC ψ2a.ok (eC ψ2v.ok φ1.nil)))))))))))))))) Tryz.func34 (by kernel_rfl) (by kernel_rfl) (fun x=>by kernel_rfl)
def ψ2F.sig:Sig:=⟨[.val tyd],[.val (.pair .bool (.pair (.pair (.pair tyI (.sl false tyI)) (.pair (.sl true tyE) (.pair tyI (.pair tyI tyI)))) (.pair tyd (.sl true (.pair .bool (.pair (.sl true (.pair .str tyI)) (.sl true tyP))))))),.val tyI],false⟩
def ψ2F.ctr:Ctr:=⟨ψ2F.sig,fun x=>ψ2F.f x⟩
def ψ2F.env:Env:=[(34,[ψ2Q.ctr])]
def ψ2F.ann:Ann:=⟨[],[],[]⟩
theorem ψ2F.ok:φ0 Tryz.prog 15 ψ2F.ctr:=fS (A:=ψ2F.ann) (eC ψ2Q.ok φ1.nil) Tryz.func15 (by kernel_rfl) (by kernel_rfl) (fun x=>by kernel_rfl)
def ψ25.sig:Sig:=⟨[.val tyF],[.val tyF],false⟩
def ψ25.ctr:Ctr:=⟨ψ25.sig,fun x=>ψ25.f x⟩
def ψ25.env:Env:=[]
def ψ25.ann:Ann:=⟨[],[],[]⟩
theorem ψ25.ok:φ0 Tryz.prog 75 ψ25.ctr:=fS (A:=ψ25.ann) φ1.nil Tryz.func75 (by kernel_rfl) (by kernel_rfl) (fun x=>by kernel_rfl)
def ψ26.sig:Sig:=⟨[.val (.sl false tyF)],[.val (.sl true tyF)],false⟩
def ψ26.ctr:Ctr:=⟨ψ26.sig,fun x=>ψ26.f x⟩
def ψ26.env:Env:=[(75,[ψ25.ctr])]
def ψ26.ann:Ann:=⟨[(0,([(0,.val (.sl false tyF)),(3,.val (.sl true tyF)),(4,.val tyI)],[(.exit 0,[(3,.val (.sl true tyF))])]))],[],[]⟩
theorem ψ26.ok:φ0 Tryz.prog 35 ψ26.ctr:=fS (A:=ψ26.ann) (eC ψ25.ok φ1.nil) Tryz.func35 (by kernel_rfl) (by kernel_rfl) (fun x=>by kernel_rfl)
def ψ24.sig:Sig:=⟨[.val tyd],[.val tyD],false⟩
def ψ24.ctr:Ctr:=⟨ψ24.sig,fun x=>ψ24.f x⟩
def ψ24.env:Env:=[(35,[ψ26.ctr])]
def ψ24.ann:Ann:=⟨[],[],[]⟩
theorem ψ24.ok:φ0 Tryz.prog 16 ψ24.ctr:=fS (A:=ψ24.ann) (eC ψ26.ok φ1.nil) Tryz.func16 (by kernel_rfl) (by kernel_rfl) (fun x=>by kernel_rfl)
def ψq.sig:Sig:=⟨[.val tyd],[.val tyD],false⟩
def ψq.ctr:Ctr:=⟨ψq.sig,fun x=>ψq.f x⟩
def ψq.env:Env:=[]
def ψq.ann:Ann:=⟨[],[],[]⟩
theorem ψq.ok:φ0 Tryz.prog 76 ψq.ctr:=fS (A:=ψq.ann) φ1.nil Tryz.func76 (by kernel_rfl) (by kernel_rfl) (fun x=>by kernel_rfl)
def ψv.sig:Sig:=⟨[.val tyI,.val tyI,.val tyI],[.val .bool],false⟩
def ψv.ctr:Ctr:=⟨ψv.sig,fun x=>ψv.f x.1 x.2.1 x.2.2⟩
def ψv.env:Env:=[]
def ψv.ann:Ann:=⟨[],[],[]⟩
theorem ψv.ok:φ0 Tryz.prog 128 ψv.ctr:=fS (A:=ψv.ann) φ1.nil Tryz.func128 (by kernel_rfl) (by kernel_rfl) (fun x=>by kernel_rfl)
def ψN.sig:Sig:=⟨[.val .str],[.val .bool],false⟩
def ψN.ctr:Ctr:=⟨ψN.sig,fun x=>ψN.f x⟩
def ψN.env:Env:=[(128,[ψv.ctr])]
def ψN.ann:Ann:=⟨[(0,([(0,.val .str),(3,.val tyI)],[(.exit 0,[(0,.val .str)]),(.ret,[(2,.val .bool)])]))],[],[(4,[(.normal,[(0,.val .str),(3,.val tyI)]),(.ret,[(2,.val .bool)])])]⟩
theorem ψN.ok:φ0 Tryz.prog 129 ψN.ctr:=fS (A:=ψN.ann) (eC ψv.ok φ1.nil) Tryz.func129 (by kernel_rfl) (by kernel_rfl) (fun x=>by kernel_rfl)
def ψ9.sig:Sig:=⟨[.val tyd],[.val .bool],false⟩
def ψ9.ctr:Ctr:=⟨ψ9.sig,fun x=>ψ9.f x⟩
def ψ9.env:Env:=[(128,[ψv.ctr]),(129,[ψN.ctr])]
def ψ9.ann:Ann:=⟨[(0,([(1,.ptr tyd),(3,.val tyI),(23,.val (.sl false tyF)),(24,.val tyI),(25,.val tyI)],[(.exit 0,[(1,.ptr tyd),(3,.val tyI)]),(.ret,[(2,.val .bool)])]))],[],[(7,[(.normal,[(1,.ptr tyd),(3,.val tyI),(5,.ptr tyF),(23,.val (.sl false tyF)),(24,.val tyI),(25,.val tyI)]),(.ret,[(2,.val .bool)])])]⟩
theorem ψ9.ok:φ0 Tryz.prog 77 ψ9.ctr:=fS (A:=ψ9.ann) (eC ψv.ok (eC ψN.ok φ1.nil)) Tryz.func77 (by kernel_rfl) (by kernel_rfl) (fun x=>by kernel_rfl)
def ψr.sig:Sig:=⟨[.val tyd,.val .str],[.val tyI],false⟩
def ψr.ctr:Ctr:=⟨ψr.sig,fun x=>ψr.f x.1 x.2⟩
def ψr.env:Env:=[]
def ψr.ann:Ann:=⟨[(0,([(1,.val .str),(8,.val (.sl false tyF)),(9,.val tyI),(10,.val tyI)],[(.exit 0,[]),(.ret,[(4,.val tyI)])]))],[],[]⟩
theorem ψr.ok:φ0 Tryz.prog 130 ψr.ctr:=fS (A:=ψr.ann) φ1.nil Tryz.func130 (by kernel_rfl) (by kernel_rfl) (fun x=>by kernel_rfl)
def ψD.sig:Sig:=⟨[.val tyd,.val .str],[.val .str,.val .bool],false⟩
def ψD.ctr:Ctr:=⟨ψD.sig,fun x=>ψD.f x.1 x.2⟩
def ψD.env:Env:=[(77,[ψ9.ctr]),(130,[ψr.ctr])]
def ψD.ann:Ann:=⟨[],[],[]⟩
theorem ψD.ok:φ0 Tryz.prog 78 ψD.ctr:=fS (A:=ψD.ann) (eC ψ9.ok (eC ψr.ok φ1.nil)) Tryz.func78 (by kernel_rfl) (by kernel_rfl) (fun x=>by kernel_rfl)
def strconv_Itoa.ctr:Ctr:=φCu
theorem strconv_Itoa.ok:φ0 Tryz.prog 218 strconv_Itoa.ctr:=φEx Tryz.func218 (by kernel_rfl) (by kernel_rfl) fun n h0 h1 w hL=>(Tryz.strconv_Itoa n h0 h1 w hL.1).mono fun e w' ⟨he,k,os,hw⟩=>⟨he,hw ▸ below_grow _ w (κ7 _) k os⟩
def ψ5.sig:Sig:=⟨[.val tyI],[.val .str],false⟩
def ψ5.ctr:Ctr:=⟨ψ5.sig,fun x=>ψ5.f x⟩
def ψ5.env:Env:=[(218,[strconv_Itoa.ctr])]
def ψ5.ann:Ann:=⟨[],[],[]⟩
theorem ψ5.ok:φ0 Tryz.prog 189 ψ5.ctr:=fS (A:=ψ5.ann) (eC strconv_Itoa.ok φ1.nil) Tryz.func189 (by kernel_rfl) (by kernel_rfl) (fun x=>by kernel_rfl)
def ψw.sig:Sig:=⟨[.val .str,.val tyI],[.val .str],false⟩
def ψw.ctr:Ctr:=⟨ψw.sig,fun x=>ψw.f x.1 x.2⟩
def ψw.env:Env:=[(128,[ψv.ctr]),(189,[ψ5.ctr])]
def ψw.ann:Ann:=⟨[],[],[]⟩
theorem ψw.ok:φ0 Tryz.prog 146 ψw.ctr:=fS (A:=ψw.ann) (eC ψv.ok (eC ψ5.ok φ1.nil)) Tryz.func146 (by kernel_rfl) (by kernel_rfl) (fun x=>by kernel_rfl)
def ψe.sig:Sig:=⟨[.val tyI],[.val .str],false⟩
def ψe.ctr:Ctr:=⟨ψe.sig,fun x=>ψe.f x⟩
def ψe.env:Env:=[(146,[ψw.ctr])]
def ψe.ann:Ann:=⟨[],[],[]⟩
theorem ψe.ok:φ0 Tryz.prog 98 ψe.ctr:=fS (A:=ψe.ann) (eC ψw.ok φ1.nil) Tryz.func98 (by kernel_rfl) (by kernel_rfl) (fun x=>by kernel_rfl)
def ψV.sig:Sig:=⟨[.val .str],[.val tyI,.val tyI],false⟩
def ψV.ctr:Ctr:=⟨ψV.sig,fun x=>ψV.f x⟩
def ψV.env:Env:=[]
def ψV.ann:Ann:=⟨[(0,([(0,.val .str),(4,.val tyI),(5,.val tyI)],[(.exit 0,[]),(.ret,[(2,.val tyI),(3,.val tyI)])]))],[],[(8,[(.normal,[(4,.val tyI),(5,.val tyI)]),(.ret,[(2,.val tyI),(3,.val tyI)])])]⟩
theorem ψV.ok:φ0 Tryz.prog 190 ψV.ctr:=fS (A:=ψV.ann) φ1.nil Tryz.func190 (by kernel_rfl) (by kernel_rfl) (fun x=>by kernel_rfl)
def ψo.sig:Sig:=⟨[.val tyI],[.val .str],false⟩
def ψo.ctr:Ctr:=⟨ψo.sig,fun x=>ψo.f x⟩
def ψo.env:Env:=[(128,[ψv.ctr])]
def ψo.ann:Ann:=⟨[(0,([(0,.val tyI),(3,.val (.sl true (.int .u8)))],[(.exit 0,[(0,.val tyI),(3,.val (.sl true (.int .u8)))])]))],[],[]⟩
theorem ψo.ok:φ0 Tryz.prog 231 ψo.ctr:=fS (A:=ψo.ann) (eC ψv.ok φ1.nil) Tryz.func231 (by kernel_rfl) (by kernel_rfl) (fun x=>by kernel_rfl)
def ψ18.sig:Sig:=⟨[.val .str],[.val .str],false⟩
def ψ18.ctr:Ctr:=⟨ψ18.sig,fun x=>ψ18.f x⟩
def ψ18.env:Env:=[(231,[ψo.ctr])]
def ψ18.ann:Ann:=⟨[],[],[]⟩
theorem ψ18.ok:φ0 Tryz.prog 219 ψ18.ctr:=fS (A:=ψ18.ann) (eC ψo.ok φ1.nil) Tryz.func219 (by kernel_rfl) (by kernel_rfl) (fun x=>by kernel_rfl)
def ψE.sig:Sig:=⟨[.val tyI,.val tyI],[.val .str],false⟩
def ψE.ctr:Ctr:=⟨ψE.sig,fun x=>ψE.f x.1 x.2⟩
def ψE.env:Env:=[(128,[ψv.ctr])]
def ψE.ann:Ann:=⟨[(0,([(0,.val tyI),(5,.val (.sl true (.int .u8))),(6,.val tyI)],[(.exit 0,[(5,.val (.sl true (.int .u8)))])]))],[],[]⟩
theorem ψE.ok:φ0 Tryz.prog 220 ψE.ctr:=fS (A:=ψE.ann) (eC ψv.ok φ1.nil) Tryz.func220 (by kernel_rfl) (by kernel_rfl) (fun x=>by kernel_rfl)
def ψ2.sig:Sig:=⟨[.val .str],[.val tyI],false⟩
def ψ2.ctr:Ctr:=⟨ψ2.sig,fun x=>ψ2.f x⟩
def ψ2.env:Env:=[]
def ψ2.ann:Ann:=⟨[(2,([(0,.val .str),(3,.val (.int .u32)),(4,.val tyI),(18,.val tyI)],[(.exit 2,[(0,.val .str),(3,.val (.int .u32)),(4,.val tyI)])])),(0,([(0,.val .str),(3,.val (.int .u32)),(4,.val tyI)],[(.exit 0,[(3,.val (.int .u32))])]))],[],[(10,[(.normal,[(0,.val .str),(3,.val (.int .u32)),(4,.val tyI),(18,.val tyI)])])]⟩
theorem ψ2.ok:φ0 Tryz.prog 221 ψ2.ctr:=fS (A:=ψ2.ann) φ1.nil Tryz.func221 (by kernel_rfl) (by kernel_rfl) (fun x=>by kernel_rfl)
def ψF.sig:Sig:=⟨[.val .str],[.val .str],false⟩
def ψF.ctr:Ctr:=⟨ψF.sig,fun x=>ψF.f x⟩
def ψF.env:Env:=[(219,[ψ18.ctr]),(220,[ψE.ctr]),(221,[ψ2.ctr])]
def ψF.ann:Ann:=⟨[],[],[]⟩
theorem ψF.ok:φ0 Tryz.prog 191 ψF.ctr:=fS (A:=ψF.ann) (eC ψ18.ok (eC ψE.ok (eC ψ2.ok φ1.nil))) Tryz.func191 (by kernel_rfl) (by kernel_rfl) (fun x=>by kernel_rfl)
def ψn.sig:Sig:=⟨[.val .str],[.val .str,.val tyI],false⟩
def ψn.ctr:Ctr:=⟨ψn.sig,fun x=>ψn.f x⟩
def ψn.env:Env:=[(190,[ψV.ctr]),(191,[ψF.ctr])]
def ψn.ann:Ann:=⟨[],[],[]⟩
theorem ψn.ok:φ0 Tryz.prog 147 ψn.ctr:=fS (A:=ψn.ann) (eC ψV.ok (eC ψF.ok φ1.nil)) Tryz.func147 (by kernel_rfl) (by kernel_rfl) (fun x=>by kernel_rfl)
def ψ10.sig:Sig:=⟨[.ptr (.pair .str .bool)],[.val tyI],false⟩
def ψ10.ctr:Ctr:=⟨ψ10.sig,fun x=>ψ10.f x⟩
def ψ10.env:Env:=[(190,[ψV.ctr])]
def ψ10.ann:Ann:=⟨[],[],[]⟩
theorem ψ10.ok:φ0 Tryz.prog 168 ψ10.ctr:=fS (A:=ψ10.ann) (eC ψV.ok φ1.nil) Tryz.func168 (by kernel_rfl) (by kernel_rfl) (fun x=>by kernel_rfl)
def ψM.sig:Sig:=⟨[.val (.pair tyI (.sl false tyI))],[.val .bool],false⟩
def ψM.ctr:Ctr:=⟨ψM.sig,fun x=>ψM.f x⟩
def ψM.env:Env:=[(128,[ψv.ctr])]
def ψM.ann:Ann:=⟨[(0,([(1,.ptr (.pair tyI (.sl false tyI))),(6,.val (.sl false tyI)),(7,.val tyI),(8,.val tyI)],[(.exit 0,[(1,.ptr (.pair tyI (.sl false tyI)))]),(.ret,[(2,.val .bool)])]))],[],[(4,[(.normal,[(1,.ptr (.pair tyI (.sl false tyI))),(6,.val (.sl false tyI)),(7,.val tyI),(8,.val tyI)]),(.ret,[(2,.val .bool)])])]⟩
theorem ψM.ok:φ0 Tryz.prog 169 ψM.ctr:=fS (A:=ψM.ann) (eC ψv.ok φ1.nil) Tryz.func169 (by kernel_rfl) (by kernel_rfl) (fun x=>by kernel_rfl)
def ψT.sig:Sig:=⟨[.val .str],[.val (.pair tyI (.sl true tyI)),.val .bool],false⟩
def ψT.ctr:Ctr:=⟨ψT.sig,fun x=>ψT.f x⟩
def ψT.env:Env:=[(147,[ψn.ctr]),(168,[ψ10.ctr]),(169,[ψM.ctr])]
def ψT.ann:Ann:=⟨[(0,([(0,.val .str),(2,.ptr (.pair tyI (.sl true tyI))),(5,.val tyI),(6,.ptr (.pair .str .bool)),(7,.ptr (.pair tyI (.sl true tyI))),(8,.val tyI),(9,.val tyI)],[(.exit 0,[(0,.val .str),(2,.ptr (.pair tyI (.sl true tyI))),(5,.val tyI),(6,.ptr (.pair .str .bool)),(7,.ptr (.pair tyI (.sl true tyI)))])]))],[],[]⟩
theorem ψT.ok:φ0 Tryz.prog 131 ψT.ctr:=fS (A:=ψT.ann) (eC ψn.ok (eC ψ10.ok (eC ψM.ok φ1.nil))) Tryz.func131 (by kernel_rfl) (by kernel_rfl) (fun x=>by kernel_rfl)
def ψz.sig:Sig:=⟨[.ptr (.pair .str .bool),.val tyI],[.val .str],false⟩
def ψz.ctr:Ctr:=⟨ψz.sig,fun x=>ψz.f x.1 x.2⟩
def ψz.env:Env:=[]
def ψz.ann:Ann:=⟨[],[],[]⟩
theorem ψz.ok:φ0 Tryz.prog 194 ψz.ctr:=fS (A:=ψz.ann) φ1.nil Tryz.func194 (by kernel_rfl) (by kernel_rfl) (fun x=>by kernel_rfl)
def ψ11.sig:Sig:=⟨[.ptr (.pair .str .bool)],[.val .str],false⟩
def ψ11.ctr:Ctr:=⟨ψ11.sig,fun x=>ψ11.f x⟩
def ψ11.env:Env:=[(168,[ψ10.ctr]),(194,[ψz.ctr])]
def ψ11.ann:Ann:=⟨[],[],[]⟩
theorem ψ11.ok:φ0 Tryz.prog 192 ψ11.ctr:=fS (A:=ψ11.ann) (eC ψ10.ok (eC ψz.ok φ1.nil)) Tryz.func192 (by kernel_rfl) (by kernel_rfl) (fun x=>by kernel_rfl)
def ψR.sig:Sig:=⟨[.val .str,.val tyI],[.val tyI,.val .bool],false⟩
def ψR.ctr:Ctr:=⟨ψR.sig,fun x=>ψR.f x.1 x.2⟩
def ψR.env:Env:=[(128,[ψv.ctr])]
def ψR.ann:Ann:=⟨[(0,([(0,.val .str),(6,.val tyI),(17,.val tyI),(18,.val tyI)],[(.exit 0,[(6,.val tyI)])]))],[],[]⟩
theorem ψR.ok:φ0 Tryz.prog 193 ψR.ctr:=fS (A:=ψR.ann) (eC ψv.ok φ1.nil) Tryz.func193 (by kernel_rfl) (by kernel_rfl) (fun x=>by kernel_rfl)
def ψL.sig:Sig:=⟨[.val .str],[.val .bool],false⟩
def ψL.ctr:Ctr:=⟨ψL.sig,fun x=>ψL.f x⟩
def ψL.env:Env:=[(128,[ψv.ctr])]
def ψL.ann:Ann:=⟨[],[],[]⟩
theorem ψL.ok:φ0 Tryz.prog 222 ψL.ctr:=fS (A:=ψL.ann) (eC ψv.ok φ1.nil) Tryz.func222 (by kernel_rfl) (by kernel_rfl) (fun x=>by kernel_rfl)
def ψW.sig:Sig:=⟨[.val tyR],[.val .bool],false⟩
def ψW.ctr:Ctr:=⟨ψW.sig,fun x=>ψW.f x⟩
def ψW.env:Env:=[(128,[ψv.ctr]),(222,[ψL.ctr])]
def ψW.ann:Ann:=⟨[],[],[(4,[(.normal,[(1,.ptr tyR),(3,.ptr tyR),(4,.val .bool),(5,.val tyI),(12,.val tyI),(13,.val .bool)])])]⟩
theorem ψW.ok:φ0 Tryz.prog 195 ψW.ctr:=fS (A:=ψW.ann) (eC ψv.ok (eC ψL.ok φ1.nil)) Tryz.func195 (by kernel_rfl) (by kernel_rfl) (fun x=>by kernel_rfl)
def ψU.sig:Sig:=⟨[.val .str],[.val tyR,.val .bool],false⟩
def ψU.ctr:Ctr:=⟨ψU.sig,fun x=>ψU.f x⟩
def ψU.env:Env:=[(168,[ψ10.ctr]),(192,[ψ11.ctr]),(193,[ψR.ctr]),(194,[ψz.ctr]),(195,[ψW.ctr])]
def ψU.ann:Ann:=⟨[],[(0,[(.normal,[(2,.ptr tyR),(4,.ptr (.pair .str .bool)),(5,.ptr tyR)])])],[(8,[(.normal,[(2,.ptr tyR),(4,.ptr (.pair .str .bool)),(5,.ptr tyR),(16,.val tyI),(27,.val .bool)])]),(12,[(.normal,[(2,.ptr tyR),(4,.ptr (.pair .str .bool)),(5,.ptr tyR)])])]⟩
theorem ψU.ok:φ0 Tryz.prog 148 ψU.ctr:=fS (A:=ψU.ann) (eC ψ10.ok (eC ψ11.ok (eC ψR.ok (eC ψz.ok (eC ψW.ok φ1.nil))))) Tryz.func148 (by kernel_rfl) (by kernel_rfl) (fun x=>by kernel_rfl)
def ψd.sig:Sig:=⟨[.val .str],[.val (.sl false (.pair tyI (.pair tyI tyR))),.val tyI],false⟩
def ψd.ctr:Ctr:=⟨ψd.sig,fun x=>ψd.f x⟩
def ψd.env:Env:=[(147,[ψn.ctr]),(148,[ψU.ctr])]
def ψd.ann:Ann:=⟨[(0,([(0,.val .str),(4,.val (.sl true (.pair tyI (.pair tyI tyR)))),(5,.val tyI)],[(.ret,[(2,.val (.sl true (.pair tyI (.pair tyI tyR)))),(3,.val tyI)])]))],[],[]⟩
theorem ψd.ok:φ0 Tryz.prog 170 ψd.ctr:=fS (A:=ψd.ann) (eC ψn.ok (eC ψU.ok φ1.nil)) Tryz.func170 (by kernel_rfl) (by kernel_rfl) (fun x=>by kernel_rfl)
def ψy.sig:Sig:=⟨[.val tyI,.val (.sl false (.pair tyI (.pair tyI tyR)))],[.val (.sl true (.pair tyI (.pair tyI (.pair tyI tyR))))],false⟩
def ψy.ctr:Ctr:=⟨ψy.sig,fun x=>ψy.f x.1 x.2⟩
def ψy.env:Env:=[]
def ψy.ann:Ann:=⟨[(0,([(0,.val tyI),(5,.val (.sl true (.pair tyI (.pair tyI (.pair tyI tyR))))),(8,.val (.sl false (.pair tyI (.pair tyI tyR)))),(9,.val tyI),(10,.val tyI)],[(.exit 0,[(5,.val (.sl true (.pair tyI (.pair tyI (.pair tyI tyR)))))])]))],[],[]⟩
theorem ψy.ok:φ0 Tryz.prog 171 ψy.ctr:=fS (A:=ψy.ann) φ1.nil Tryz.func171 (by kernel_rfl) (by kernel_rfl) (fun x=>by kernel_rfl)
def ψ1N.sig:Sig:=⟨[.ptr (.pair tyD tyI),.val (.pair tyI (.sl false tyI))],[.val (.sl true (.sl true (.pair tyI (.pair tyI (.pair tyI tyR))))),.val tyI,.val .bool],false⟩
def ψ1N.ctr:Ctr:=⟨ψ1N.sig,fun x=>ψ1N.f x.1 x.2⟩
def ψ1N.env:Env:=[(78,[ψD.ctr]),(98,[ψe.ctr]),(170,[ψd.ctr]),(171,[ψy.ctr])]
def ψ1N.ann:Ann:=⟨[(0,([(0,.ptr (.pair tyD tyI)),(3,.ptr (.pair tyI (.sl false tyI))),(7,.val (.sl true (.sl true (.pair tyI (.pair tyI (.pair tyI tyR)))))),(8,.val tyI),(16,.val (.sl false tyI)),(17,.val tyI),(18,.val tyI)],[(.exit 0,[(0,.ptr (.pair tyD tyI)),(7,.val (.sl true (.sl true (.pair tyI (.pair tyI (.pair tyI tyR)))))),(8,.val tyI)]),(.ret,[(0,.ptr (.pair tyD tyI)),(4,.val (.sl true (.sl true (.pair tyI (.pair tyI (.pair tyI tyR)))))),(5,.val tyI),(6,.val .bool)])]))],[],[(8,[(.normal,[(0,.ptr (.pair tyD tyI)),(3,.ptr (.pair tyI (.sl false tyI))),(7,.val (.sl true (.sl true (.pair tyI (.pair tyI (.pair tyI tyR)))))),(10,.val tyI),(13,.val (.sl false (.pair tyI (.pair tyI tyR)))),(14,.val tyI),(16,.val (.sl false tyI)),(17,.val tyI),(18,.val tyI)]),(.ret,[(0,.ptr (.pair tyD tyI)),(4,.val (.sl true (.sl true (.pair tyI (.pair tyI (.pair tyI tyR)))))),(5,.val tyI),(6,.val .bool)])])]⟩
theorem ψ1N.ok:φ0 Tryz.prog 132 ψ1N.ctr:=fS (A:=ψ1N.ann) (eC ψD.ok (eC ψe.ok (eC ψd.ok (eC ψy.ok φ1.nil)))) Tryz.func132 (by kernel_rfl) (by kernel_rfl) (fun x=>by kernel_rfl)
def ψ19.sig:Sig:=⟨[.val tyI],[.val tyI],false⟩
def ψ19.ctr:Ctr:=⟨ψ19.sig,fun x=>ψ19.f x⟩
def ψ19.env:Env:=[]
def ψ19.ann:Ann:=⟨[],[],[]⟩
theorem ψ19.ok:φ0 Tryz.prog 172 ψ19.ctr:=fS (A:=ψ19.ann) φ1.nil Tryz.func172 (by kernel_rfl) (by kernel_rfl) (fun x=>by kernel_rfl)
def ψ1P.sig:Sig:=⟨[.ptr (.pair tyD tyI),.val tyD,.val tyI],[],false⟩
def ψ1P.ctr:Ctr:=⟨ψ1P.sig,fun x=>ψ1P.f x.1 x.2.1 x.2.2⟩
def ψ1P.env:Env:=[(172,[ψ19.ctr])]
def ψ1P.ann:Ann:=⟨[],[],[]⟩
theorem ψ1P.ok:φ0 Tryz.prog 133 ψ1P.ctr:=fS (A:=ψ1P.ann) (eC ψ19.ok φ1.nil) Tryz.func133 (by kernel_rfl) (by kernel_rfl) (fun x=>by kernel_rfl)
def ψm.sig:Sig:=⟨[.ptr tyD,.val (.box none .str),.val (.box none tyI)],[.val tyI],false⟩
def ψm.ctr:Ctr:=⟨ψm.sig,fun x=>ψm.f x.1 x.2.1 x.2.2⟩
def ψm.env:Env:=[(128,[ψv.ctr]),(130,[ψr.ctr])]
def ψm.ann:Ann:=⟨[],[],[]⟩
theorem ψm.ok:φ0 Tryz.prog 174 ψm.ctr:=fS (A:=ψm.ann) (eC ψv.ok (eC ψr.ok φ1.nil)) Tryz.func174 (by kernel_rfl) (by kernel_rfl) (fun x=>by kernel_rfl)
def ψ17.sig:Sig:=⟨[.val tyd,.val (.box (some 174) (.pair (.box none .str) (.box none tyI)))],[.val tyD,.val tyI],false⟩
def ψ17.ctr:Ctr:=⟨ψ17.sig,fun x=>ψ17.f x.1 x.2⟩
def ψ17.env:Env:=[(76,[ψq.ctr]),(77,[ψ9.ctr]),(174,[ψm.ctr])]
def ψ17.ann:Ann:=⟨[],[],[(7,[(.normal,[(1,.val (.box (some 174) (.pair (.box none .str) (.box none tyI)))),(4,.ptr tyD),(6,.ptr tyD)])])]⟩
theorem ψ17.ok:φ0 Tryz.prog 173 ψ17.ctr:=fS (A:=ψ17.ann) (eC ψq.ok (eC ψ9.ok (eC ψm.ok φ1.nil))) Tryz.func173 (by kernel_rfl) (by kernel_rfl) (fun x=>by kernel_rfl)
def ψl.sig:Sig:=⟨[.val tyd,.val .str,.val tyI],[.val tyD,.val tyI],false⟩
def ψl.ctr:Ctr:=⟨ψl.sig,fun x=>ψl.f x.1 x.2.1 x.2.2⟩
def ψl.env:Env:=[(173,[ψ17.ctr])]
def ψl.ann:Ann:=⟨[],[],[]⟩
theorem ψl.ok:φ0 Tryz.prog 134 ψl.ctr:=fS (A:=ψl.ann) (eC ψ17.ok φ1.nil) Tryz.func134 (by kernel_rfl) (by kernel_rfl) (fun x=>by kernel_rfl)
def ψk.sig:Sig:=⟨[.ptr tyD,.val (.box none .str)],[.val tyI],false⟩
def ψk.ctr:Ctr:=⟨ψk.sig,fun x=>ψk.f x.1 x.2⟩
def ψk.env:Env:=[(130,[ψr.ctr])]
def ψk.ann:Ann:=⟨[],[],[]⟩
theorem ψk.ok:φ0 Tryz.prog 201 ψk.ctr:=fS (A:=ψk.ann) (eC ψr.ok φ1.nil) Tryz.func201 (by kernel_rfl) (by kernel_rfl) (fun x=>by kernel_rfl)
def ψ16.sig:Sig:=⟨[.val tyd,.val (.box (some 201) (.box none .str))],[.val tyD,.val tyI],false⟩
def ψ16.ctr:Ctr:=⟨ψ16.sig,fun x=>ψ16.f x.1 x.2⟩
def ψ16.env:Env:=[(76,[ψq.ctr]),(77,[ψ9.ctr]),(201,[ψk.ctr])]
def ψ16.ann:Ann:=⟨[],[],[(7,[(.normal,[(1,.val (.box (some 201) (.box none .str))),(4,.ptr tyD),(6,.ptr tyD)])])]⟩
theorem ψ16.ok:φ0 Tryz.prog 173 ψ16.ctr:=fS (A:=ψ16.ann) (eC ψq.ok (eC ψ9.ok (eC ψk.ok φ1.nil))) Tryz.func173 (by kernel_rfl) (by kernel_rfl) (fun x=>by kernel_rfl)
def ψj.sig:Sig:=⟨[.val tyd,.val .str],[.val tyD,.val tyI],false⟩
def ψj.ctr:Ctr:=⟨ψj.sig,fun x=>ψj.f x.1 x.2⟩
def ψj.env:Env:=[(173,[ψ16.ctr])]
def ψj.ann:Ann:=⟨[],[],[]⟩
theorem ψj.ok:φ0 Tryz.prog 175 ψj.ctr:=fS (A:=ψj.ann) (eC ψ16.ok φ1.nil) Tryz.func175 (by kernel_rfl) (by kernel_rfl) (fun x=>by kernel_rfl)
def ψ1O.sig:Sig:=⟨[.ptr (.pair tyD tyI),.val .str],[],false⟩
def ψ1O.ctr:Ctr:=⟨ψ1O.sig,fun x=>ψ1O.f x.1 x.2⟩
def ψ1O.env:Env:=[(133,[ψ1P.ctr]),(175,[ψj.ctr])]
def ψ1O.ann:Ann:=⟨[],[],[]⟩
theorem ψ1O.ok:φ0 Tryz.prog 135 ψ1O.ctr:=fS (A:=ψ1O.ann) (eC ψ1P.ok (eC ψj.ok φ1.nil)) Tryz.func135 (by kernel_rfl) (by kernel_rfl) (fun x=>by kernel_rfl)
def ψI.sig:Sig:=⟨[.val tyI],[.val .str],false⟩
def ψI.ctr:Ctr:=⟨ψI.sig,fun x=>ψI.f x⟩
def ψI.env:Env:=[(146,[ψw.ctr])]
def ψI.ann:Ann:=⟨[],[],[]⟩
theorem ψI.ok:φ0 Tryz.prog 176 ψI.ctr:=fS (A:=ψI.ann) (eC ψw.ok φ1.nil) Tryz.func176 (by kernel_rfl) (by kernel_rfl) (fun x=>by kernel_rfl)
def ψ7.sig:Sig:=⟨[.val (.sl false tyE)],[.val .bool],false⟩
def ψ7.ctr:Ctr:=⟨ψ7.sig,fun x=>ψ7.f x⟩
def ψ7.env:Env:=[(128,[ψv.ctr]),(222,[ψL.ctr])]
def ψ7.ann:Ann:=⟨[(0,([(0,.val (.sl false tyE)),(5,.val (.sl false tyE)),(6,.val tyI),(7,.val tyI)],[(.exit 0,[(0,.val (.sl false tyE))]),(.ret,[(2,.val .bool)])]))],[],[(4,[(.normal,[(0,.val (.sl false tyE)),(5,.val (.sl false tyE)),(6,.val tyI),(7,.val tyI)]),(.ret,[(2,.val .bool)])])]⟩
theorem ψ7.ok:φ0 Tryz.prog 224 ψ7.ctr:=fS (A:=ψ7.ann) (eC ψv.ok (eC ψL.ok φ1.nil)) Tryz.func224 (by kernel_rfl) (by kernel_rfl) (fun x=>by kernel_rfl)
def ψu.sig:Sig:=⟨[.val (.pair tyI (.pair tyI (.sl false tyE)))],[.val .bool],false⟩
def ψu.ctr:Ctr:=⟨ψu.sig,fun x=>ψu.f x⟩
def ψu.env:Env:=[(128,[ψv.ctr]),(224,[ψ7.ctr])]
def ψu.ann:Ann:=⟨[(0,([(1,.ptr (.pair tyI (.pair tyI (.sl false tyE)))),(6,.val (.sl false tyE)),(7,.val tyI),(8,.val tyI)],[(.exit 0,[(1,.ptr (.pair tyI (.pair tyI (.sl false tyE))))]),(.ret,[(2,.val .bool)])]))],[],[]⟩
theorem ψu.ok:φ0 Tryz.prog 202 ψu.ctr:=fS (A:=ψu.ann) (eC ψv.ok (eC ψ7.ok φ1.nil)) Tryz.func202 (by kernel_rfl) (by kernel_rfl) (fun x=>by kernel_rfl)
def ψ1B.sig:Sig:=⟨[.val (.sl false tyI)],[.val .str],false⟩
def ψ1B.ctr:Ctr:=⟨ψ1B.sig,fun x=>ψ1B.f x⟩
def ψ1B.env:Env:=[(231,[ψo.ctr])]
def ψ1B.ann:Ann:=⟨[(0,([(3,.val .str),(6,.val (.sl false tyI)),(7,.val tyI),(8,.val tyI)],[(.exit 0,[(3,.val .str)])]))],[],[]⟩
theorem ψ1B.ok:φ0 Tryz.prog 216 ψ1B.ctr:=fS (A:=ψ1B.ann) (eC ψo.ok φ1.nil) Tryz.func216 (by kernel_rfl) (by kernel_rfl) (fun x=>by kernel_rfl)
def ψf.sig:Sig:=⟨[.val (.pair tyI (.pair tyI (.sl false tyE)))],[.val .str],false⟩
def ψf.ctr:Ctr:=⟨ψf.sig,fun x=>ψf.f x⟩
def ψf.env:Env:=[(202,[ψu.ctr]),(216,[ψ1B.ctr]),(219,[ψ18.ctr]),(220,[ψE.ctr]),(221,[ψ2.ctr])]
def ψf.ann:Ann:=⟨[(0,([(3,.val .str),(19,.val (.sl false tyE)),(20,.val tyI),(21,.val tyI)],[(.exit 0,[(3,.val .str)])]))],[],[]⟩
theorem ψf.ok:φ0 Tryz.prog 203 ψf.ctr:=fS (A:=ψf.ann) (eC ψu.ok (eC ψ1B.ok (eC ψ18.ok (eC ψE.ok (eC ψ2.ok φ1.nil))))) Tryz.func203 (by kernel_rfl) (by kernel_rfl) (fun x=>by kernel_rfl)
def ψS.sig:Sig:=⟨[.val .str],[.val (.pair tyI (.pair tyI (.sl true tyE))),.val .bool],false⟩
def ψS.ctr:Ctr:=⟨ψS.sig,fun x=>ψS.f x⟩
def ψS.env:Env:=[(168,[ψ10.ctr]),(192,[ψ11.ctr]),(194,[ψz.ctr]),(202,[ψu.ctr]),(203,[ψf.ctr])]
def ψS.ann:Ann:=⟨[(0,([(0,.val .str),(2,.ptr (.pair tyI (.pair tyI (.sl true tyE)))),(4,.ptr (.pair .str .bool)),(5,.ptr (.pair tyI (.pair tyI (.sl true tyE)))),(6,.val tyI),(7,.val tyI)],[(.exit 0,[(0,.val .str),(2,.ptr (.pair tyI (.pair tyI (.sl true tyE)))),(4,.ptr (.pair .str .bool)),(5,.ptr (.pair tyI (.pair tyI (.sl true tyE))))])]))],[],[]⟩
theorem ψS.ok:φ0 Tryz.prog 177 ψS.ctr:=fS (A:=ψS.ann) (eC ψ10.ok (eC ψ11.ok (eC ψz.ok (eC ψu.ok (eC ψf.ok φ1.nil))))) Tryz.func177 (by kernel_rfl) (by kernel_rfl) (fun x=>by kernel_rfl)
def ψh.sig:Sig:=⟨[.val tyR],[.val .str],false⟩
def ψh.ctr:Ctr:=⟨ψh.sig,fun x=>ψh.f x⟩
def ψh.env:Env:=[(195,[ψW.ctr]),(216,[ψ1B.ctr]),(219,[ψ18.ctr]),(220,[ψE.ctr]),(231,[ψo.ctr])]
def ψh.ann:Ann:=⟨[],[],[(5,[(.normal,[(1,.ptr tyR),(3,.val .str),(14,.val tyI),(15,.val .bool)])])]⟩
theorem ψh.ok:φ0 Tryz.prog 225 ψh.ctr:=fS (A:=ψh.ann) (eC ψW.ok (eC ψ1B.ok (eC ψ18.ok (eC ψE.ok (eC ψo.ok φ1.nil))))) Tryz.func225 (by kernel_rfl) (by kernel_rfl) (fun x=>by kernel_rfl)
def ψi.sig:Sig:=⟨[.val (.sl false tyR)],[.val tyI],false⟩
def ψi.ctr:Ctr:=⟨ψi.sig,fun x=>ψi.f x⟩
def ψi.env:Env:=[(221,[ψ2.ctr]),(225,[ψh.ctr])]
def ψi.ann:Ann:=⟨[(0,([(3,.val .str),(6,.val (.sl false tyR)),(7,.val tyI),(8,.val tyI)],[(.exit 0,[(3,.val .str)])]))],[],[]⟩
theorem ψi.ok:φ0 Tryz.prog 206 ψi.ctr:=fS (A:=ψi.ann) (eC ψ2.ok (eC ψh.ok φ1.nil)) Tryz.func206 (by kernel_rfl) (by kernel_rfl) (fun x=>by kernel_rfl)
def ψs.sig:Sig:=⟨[.val tyR,.val (.sl false (.pair tyI (.pair tyI (.pair tyI tyR))))],[.val .bool],false⟩
def ψs.ctr:Ctr:=⟨ψs.sig,fun x=>ψs.f x.1 x.2⟩
def ψs.env:Env:=[(206,[ψi.ctr])]
def ψs.ann:Ann:=⟨[(0,([(2,.ptr tyR),(5,.val (.sl true tyR)),(8,.val (.sl false (.pair tyI (.pair tyI (.pair tyI tyR))))),(9,.val tyI),(10,.val tyI)],[(.exit 0,[(2,.ptr tyR),(5,.val (.sl true tyR))])]))],[],[]⟩
theorem ψs.ok:φ0 Tryz.prog 181 ψs.ctr:=fS (A:=ψs.ann) (eC ψi.ok φ1.nil) Tryz.func181 (by kernel_rfl) (by kernel_rfl) (fun x=>by kernel_rfl)
def ψJ.sig:Sig:=⟨[.val tyI,.val .str],[.val (.pair tyI (.pair tyI (.sl true tyE))),.val .bool],false⟩
def ψJ.ctr:Ctr:=⟨ψJ.sig,fun x=>ψJ.f x.1 x.2⟩
def ψJ.env:Env:=[(128,[ψv.ctr]),(170,[ψd.ctr]),(171,[ψy.ctr]),(181,[ψs.ctr])]
def ψJ.ann:Ann:=⟨[(0,([(0,.val tyI),(4,.ptr (.pair tyI (.pair tyI (.sl true tyE)))),(6,.val (.sl false (.pair tyI (.pair tyI tyR)))),(9,.ptr (.pair tyI (.pair tyI (.sl true tyE)))),(67,.val (.sl false (.pair tyI (.pair tyI tyR)))),(68,.val tyI),(69,.val tyI)],[(.exit 0,[(4,.ptr (.pair tyI (.pair tyI (.sl true tyE)))),(9,.ptr (.pair tyI (.pair tyI (.sl true tyE))))]),(.ret,[(4,.ptr (.pair tyI (.pair tyI (.sl true tyE)))),(5,.val .bool)])]))],[],[(9,[(.normal,[(0,.val tyI),(4,.ptr (.pair tyI (.pair tyI (.sl true tyE)))),(6,.val (.sl false (.pair tyI (.pair tyI tyR)))),(9,.ptr (.pair tyI (.pair tyI (.sl true tyE)))),(11,.ptr (.pair tyI (.pair tyI tyR))),(67,.val (.sl false (.pair tyI (.pair tyI tyR)))),(68,.val tyI),(69,.val tyI)]),(.ret,[(4,.ptr (.pair tyI (.pair tyI (.sl true tyE)))),(5,.val .bool)])])]⟩
theorem ψJ.ok:φ0 Tryz.prog 204 ψJ.ctr:=fS (A:=ψJ.ann) (eC ψv.ok (eC ψd.ok (eC ψy.ok (eC ψs.ok φ1.nil)))) Tryz.func204 (by kernel_rfl) (by kernel_rfl) (fun x=>by kernel_rfl)
def ψc.sig:Sig:=⟨[.val (.sl false tyE),.val (.sl false tyE)],[.val .bool],false⟩
def ψc.ctr:Ctr:=⟨ψc.sig,fun x=>ψc.f x.1 x.2⟩
def ψc.env:Env:=[]
def ψc.ann:Ann:=⟨[(0,([(0,.val (.sl false tyE)),(1,.val (.sl false tyE)),(12,.val tyI),(13,.val tyI)],[(.exit 0,[]),(.ret,[(4,.val .bool)])]))],[],[]⟩
theorem ψc.ok:φ0 Tryz.prog 205 ψc.ctr:=fS (A:=ψc.ann) φ1.nil Tryz.func205 (by kernel_rfl) (by kernel_rfl) (fun x=>by kernel_rfl)
def ψH.sig:Sig:=⟨[.val tyI,.val .str,.val (.pair tyI (.pair tyI (.sl false tyE)))],[.val .bool],false⟩
def ψH.ctr:Ctr:=⟨ψH.sig,fun x=>ψH.f x.1 x.2.1 x.2.2⟩
def ψH.env:Env:=[(204,[ψJ.ctr]),(205,[ψc.ctr])]
def ψH.ann:Ann:=⟨[],[],[]⟩
theorem ψH.ok:φ0 Tryz.prog 178 ψH.ctr:=fS (A:=ψH.ann) (eC ψJ.ok (eC ψc.ok φ1.nil)) Tryz.func178 (by kernel_rfl) (by kernel_rfl) (fun x=>by kernel_rfl)
def ψ1I.sig:Sig:=⟨[.ptr (.pair tyD tyI),.val tyI],[.val (.pair (.sl true tyE) (.pair tyI tyI)),.val .bool],false⟩
def ψ1I.ctr:Ctr:=⟨ψ1I.sig,fun x=>ψ1I.f x.1 x.2⟩
def ψ1I.env:Env:=[(78,[ψD.ctr]),(98,[ψe.ctr]),(176,[ψI.ctr]),(177,[ψS.ctr]),(178,[ψH.ctr])]
def ψ1I.ann:Ann:=⟨[],[],[]⟩
theorem ψ1I.ok:φ0 Tryz.prog 136 ψ1I.ctr:=fS (A:=ψ1I.ann) (eC ψD.ok (eC ψe.ok (eC ψI.ok (eC ψS.ok (eC ψH.ok φ1.nil))))) Tryz.func136 (by kernel_rfl) (by kernel_rfl) (fun x=>by kernel_rfl)
def ψp.sig:Sig:=⟨[.val (.sl false tyE)],[.val (.sl true tyE)],false⟩
def ψp.ctr:Ctr:=⟨ψp.sig,fun x=>ψp.f x⟩
def ψp.env:Env:=[]
def ψp.ann:Ann:=⟨[],[],[]⟩
theorem ψp.ok:φ0 Tryz.prog 179 ψp.ctr:=fS (A:=ψp.ann) φ1.nil Tryz.func179 (by kernel_rfl) (by kernel_rfl) (fun x=>by kernel_rfl)
def ψx.sig:Sig:=⟨[.val (.sl false (.pair tyI (.pair tyI (.pair tyI tyR)))),.val tyR],[.val (.sl true (.pair tyI (.pair tyI (.pair tyI tyR))))],false⟩
def ψx.ctr:Ctr:=⟨ψx.sig,fun x=>ψx.f x.1 x.2⟩
def ψx.env:Env:=[]
def ψx.ann:Ann:=⟨[(0,([(3,.ptr tyR),(5,.val (.sl true (.pair tyI (.pair tyI (.pair tyI tyR))))),(9,.val (.sl false (.pair tyI (.pair tyI (.pair tyI tyR))))),(10,.val tyI),(11,.val tyI)],[(.exit 0,[(5,.val (.sl true (.pair tyI (.pair tyI (.pair tyI tyR)))))])]))],[],[(9,[(.normal,[(3,.ptr tyR),(5,.val (.sl true (.pair tyI (.pair tyI (.pair tyI tyR))))),(7,.ptr (.pair tyI (.pair tyI (.pair tyI tyR)))),(9,.val (.sl false (.pair tyI (.pair tyI (.pair tyI tyR))))),(10,.val tyI),(11,.val tyI),(34,.val .bool)])]),(7,[(.normal,[(3,.ptr tyR),(5,.val (.sl true (.pair tyI (.pair tyI (.pair tyI tyR))))),(9,.val (.sl false (.pair tyI (.pair tyI (.pair tyI tyR))))),(10,.val tyI),(11,.val tyI)])]),(6,[(.normal,[(3,.ptr tyR),(5,.val (.sl true (.pair tyI (.pair tyI (.pair tyI tyR))))),(9,.val (.sl false (.pair tyI (.pair tyI (.pair tyI tyR))))),(10,.val tyI),(11,.val tyI)])])]⟩
theorem ψx.ok:φ0 Tryz.prog 180 ψx.ctr:=fS (A:=ψx.ann) φ1.nil Tryz.func180 (by kernel_rfl) (by kernel_rfl) (fun x=>by kernel_rfl)
def ψ6.sig:Sig:=⟨[.val (.sl false tyE),.val .str],[.val (.sl true tyE)],false⟩
def ψ6.ctr:Ctr:=⟨ψ6.sig,fun x=>ψ6.f x.1 x.2⟩
def ψ6.env:Env:=[]
def ψ6.ann:Ann:=⟨[(0,([(1,.val .str),(5,.val (.sl true tyE)),(8,.val (.sl false tyE)),(9,.val tyI),(10,.val tyI)],[(.exit 0,[(5,.val (.sl true tyE))])]))],[],[(5,[(.normal,[(1,.val .str),(5,.val (.sl true tyE)),(8,.val (.sl false tyE)),(9,.val tyI),(10,.val tyI)])])]⟩
theorem ψ6.ok:φ0 Tryz.prog 207 ψ6.ctr:=fS (A:=ψ6.ann) φ1.nil Tryz.func207 (by kernel_rfl) (by kernel_rfl) (fun x=>by kernel_rfl)
def ψ8.sig:Sig:=⟨[.val (.sl false tyE),.val tyE],[.val (.sl true tyE)],false⟩
def ψ8.ctr:Ctr:=⟨ψ8.sig,fun x=>ψ8.f x.1 x.2⟩
def ψ8.env:Env:=[(179,[ψp.ctr]),(207,[ψ6.ctr])]
def ψ8.ann:Ann:=⟨[(0,([(3,.ptr tyE),(5,.val (.sl true tyE)),(6,.val tyI)],[(.exit 0,[(3,.ptr tyE),(5,.val (.sl true tyE)),(6,.val tyI)])]))],[],[]⟩
theorem ψ8.ok:φ0 Tryz.prog 208 ψ8.ctr:=fS (A:=ψ8.ann) (eC ψp.ok (eC ψ6.ok φ1.nil)) Tryz.func208 (by kernel_rfl) (by kernel_rfl) (fun x=>by kernel_rfl)
def ψG.sig:Sig:=⟨[.ptr (.pair (.sl true tyE) (.pair tyI tyI)),.val (.sl false (.pair tyI (.pair tyI (.pair tyI tyR))))],[],false⟩
def ψG.ctr:Ctr:=⟨ψG.sig,fun x=>ψG.f x.1 x.2⟩
def ψG.env:Env:=[(207,[ψ6.ctr]),(208,[ψ8.ctr])]
def ψG.ann:Ann:=⟨[(0,([(0,.ptr (.pair (.sl true tyE) (.pair tyI tyI))),(6,.val (.sl false (.pair tyI (.pair tyI (.pair tyI tyR))))),(7,.val tyI),(8,.val tyI)],[(.exit 0,[(0,.ptr (.pair (.sl true tyE) (.pair tyI tyI)))])]))],[],[(3,[(.normal,[(0,.ptr (.pair (.sl true tyE) (.pair tyI tyI))),(6,.val (.sl false (.pair tyI (.pair tyI (.pair tyI tyR))))),(7,.val tyI),(8,.val tyI)])])]⟩
theorem ψG.ok:φ0 Tryz.prog 182 ψG.ctr:=fS (A:=ψG.ann) (eC ψ6.ok (eC ψ8.ok φ1.nil)) Tryz.func182 (by kernel_rfl) (by kernel_rfl) (fun x=>by kernel_rfl)
def ψX.sig:Sig:=⟨[.val (.pair (.sl false tyE) (.pair tyI tyI)),.val (.sl false (.pair tyI (.pair tyI (.pair tyI tyR))))],[.val (.pair (.sl true tyE) (.pair tyI tyI))],false⟩
def ψX.ctr:Ctr:=⟨ψX.sig,fun x=>ψX.f x.1 x.2⟩
def ψX.env:Env:=[(179,[ψp.ctr]),(180,[ψx.ctr]),(181,[ψs.ctr]),(182,[ψG.ctr])]
def ψX.ann:Ann:=⟨[(0,([(1,.val (.sl false (.pair tyI (.pair tyI (.pair tyI tyR))))),(4,.ptr (.pair (.sl true tyE) (.pair tyI tyI))),(5,.ptr (.pair (.sl true tyE) (.pair tyI tyI))),(17,.val (.sl false (.pair tyI (.pair tyI (.pair tyI tyR))))),(18,.val tyI),(19,.val tyI)],[(.exit 0,[(1,.val (.sl false (.pair tyI (.pair tyI (.pair tyI tyR))))),(4,.ptr (.pair (.sl true tyE) (.pair tyI tyI))),(5,.ptr (.pair (.sl true tyE) (.pair tyI tyI)))]),(.ret,[(4,.ptr (.pair (.sl true tyE) (.pair tyI tyI)))])]))],[(1,[(.normal,[(1,.val (.sl false (.pair tyI (.pair tyI (.pair tyI tyR))))),(4,.ptr (.pair (.sl true tyE) (.pair tyI tyI))),(5,.ptr (.pair (.sl true tyE) (.pair tyI tyI))),(17,.val (.sl false (.pair tyI (.pair tyI (.pair tyI tyR))))),(18,.val tyI),(19,.val tyI)]),(.ret,[(4,.ptr (.pair (.sl true tyE) (.pair tyI tyI)))])])],[(8,[(.normal,[(1,.val (.sl false (.pair tyI (.pair tyI (.pair tyI tyR))))),(4,.ptr (.pair (.sl true tyE) (.pair tyI tyI))),(5,.ptr (.pair (.sl true tyE) (.pair tyI tyI))),(6,.val tyI),(7,.ptr (.pair tyI (.pair tyI (.pair tyI tyR)))),(17,.val (.sl false (.pair tyI (.pair tyI (.pair tyI tyR))))),(18,.val tyI),(19,.val tyI)]),(.exit 1,[(1,.val (.sl false (.pair tyI (.pair tyI (.pair tyI tyR))))),(4,.ptr (.pair (.sl true tyE) (.pair tyI tyI))),(5,.ptr (.pair (.sl true tyE) (.pair tyI tyI))),(17,.val (.sl false (.pair tyI (.pair tyI (.pair tyI tyR))))),(18,.val tyI),(19,.val tyI)])]),(12,[(.normal,[(1,.val (.sl false (.pair tyI (.pair tyI (.pair tyI tyR))))),(4,.ptr (.pair (.sl true tyE) (.pair tyI tyI))),(5,.ptr (.pair (.sl true tyE) (.pair tyI tyI))),(17,.val (.sl false (.pair tyI (.pair tyI (.pair tyI tyR))))),(18,.val tyI),(19,.val tyI)])]),(10,[(.normal,[(1,.val (.sl false (.pair tyI (.pair tyI (.pair tyI tyR))))),(4,.ptr (.pair (.sl true tyE) (.pair tyI tyI))),(5,.ptr (.pair (.sl true tyE) (.pair tyI tyI))),(17,.val (.sl false (.pair tyI (.pair tyI (.pair tyI tyR))))),(18,.val tyI),(19,.val tyI)])])]⟩
theorem ψX.ok:φ0 Tryz.prog 137 ψX.ctr:=fS (A:=ψX.ann) (eC ψp.ok (eC ψx.ok (eC ψs.ok (eC ψG.ok φ1.nil)))) Tryz.func137 (by kernel_rfl) (by kernel_rfl) (fun x=>by kernel_rfl)
def ψ3B.sig:Sig:=⟨[.val .str,.val .str],[.val .bool],false⟩
def ψ3B.ctr:Ctr:=⟨ψ3B.sig,fun x=>ψ3B.f x.1 x.2⟩
def ψ3B.env:Env:=[]
def ψ3B.ann:Ann:=⟨[],[],[]⟩
theorem ψ3B.ok:φ0 Tryz.prog 239 ψ3B.ctr:=fS (A:=ψ3B.ann) φ1.nil Tryz.func239 (by kernel_rfl) (by kernel_rfl) (fun x=>by kernel_rfl)
def ψ3A.sig:Sig:=⟨[.val .str,.val .str],[.val .str,.val .bool],false⟩
def ψ3A.ctr:Ctr:=⟨ψ3A.sig,fun x=>ψ3A.f x.1 x.2⟩
def ψ3A.env:Env:=[(239,[ψ3B.ctr])]
def ψ3A.ann:Ann:=⟨[],[],[]⟩
theorem ψ3A.ok:φ0 Tryz.prog 234 ψ3A.ctr:=fS (A:=ψ3A.ann) (eC ψ3B.ok φ1.nil) Tryz.func234 (by kernel_rfl) (by kernel_rfl) (fun x=>by kernel_rfl)
def ψ39.sig:Sig:=⟨[.val .str,.val .str],[.val .str,.val .bool],false⟩
def ψ39.ctr:Ctr:=⟨ψ39.sig,fun x=>ψ39.f x.1 x.2⟩
def ψ39.env:Env:=[(234,[ψ3A.ctr])]
def ψ39.ann:Ann:=⟨[],[],[]⟩
theorem ψ39.ok:φ0 Tryz.prog 226 ψ39.ctr:=fS (A:=ψ39.ann) (eC ψ3A.ok φ1.nil) Tryz.func226 (by kernel_rfl) (by kernel_rfl) (fun x=>by kernel_rfl)
def strconv_Atoi.ctr:Ctr:=φ3r
theorem strconv_Atoi.ok:φ0 Tryz.prog 235 strconv_Atoi.ctr:=φG7 Tryz.func235 (by kernel_rfl) (by kernel_rfl) (fun s h v hv w _=>Tryz.strconv_Atoi_ok s h v hv w)
 (fun s h hv w hL=>by obtain ⟨ev,h1,h2⟩:=hL.2.1;exact (Tryz.strconv_Atoi_syntax s h hv ev w h1 h2).mono fun e w' ⟨N,he,_,_,hB⟩=>⟨N,he,hB⟩)
 (fun s h hv w hL=>by obtain ⟨ev,h1,h2⟩:=hL.2.2;exact (Tryz.strconv_Atoi_range s h hv ev w h1 h2).mono fun e w' ⟨N,he,_,_,hB⟩=>⟨N,he,hB⟩)
def ψQ.sig:Sig:=⟨[.val .str],[.val tyI,.val .bool],false⟩
def ψQ.ctr:Ctr:=⟨ψQ.sig,fun x=>ψQ.f x⟩
def ψQ.env:Env:=[(128,[ψv.ctr]),(189,[ψ5.ctr]),(235,[strconv_Atoi.ctr])]
def ψQ.ann:Ann:=⟨[],[],[]⟩
theorem ψQ.ok:φ0 Tryz.prog 227 ψQ.ctr:=fS (A:=ψQ.ann) (eC ψv.ok (eC ψ5.ok (eC strconv_Atoi.ok φ1.nil))) Tryz.func227 (by kernel_rfl) (by kernel_rfl) (fun x=>by kernel_rfl)
def ψK.sig:Sig:=⟨[.val .str],[.val tyI,.val .bool],false⟩
def ψK.ctr:Ctr:=⟨ψK.sig,fun x=>ψK.f x⟩
def ψK.env:Env:=[(128,[ψv.ctr]),(226,[ψ39.ctr]),(227,[ψQ.ctr])]
def ψK.ann:Ann:=⟨[],[],[(2,[(.normal,[(4,.val .str),(5,.val .bool)])])]⟩
theorem ψK.ok:φ0 Tryz.prog 209 ψK.ctr:=fS (A:=ψK.ann) (eC ψv.ok (eC ψ39.ok (eC ψQ.ok φ1.nil))) Tryz.func209 (by kernel_rfl) (by kernel_rfl) (fun x=>by kernel_rfl)
def ψt.sig:Sig:=⟨[.val (.sl false tyI),.val tyI],[.val .bool],false⟩
def ψt.ctr:Ctr:=⟨ψt.sig,fun x=>ψt.f x.1 x.2⟩
def ψt.env:Env:=[]
def ψt.ann:Ann:=⟨[(0,([(1,.val tyI),(7,.val (.sl false tyI)),(8,.val tyI),(9,.val tyI)],[(.exit 0,[]),(.ret,[(4,.val .bool)])]))],[],[]⟩
theorem ψt.ok:φ0 Tryz.prog 210 ψt.ctr:=fS (A:=ψt.ann) φ1.nil Tryz.func210 (by kernel_rfl) (by kernel_rfl) (fun x=>by kernel_rfl)
def ψP.sig:Sig:=⟨[.val tyd,.val (.pair tyI (.sl false tyI))],[.val (.sl true .str)],false⟩
def ψP.ctr:Ctr:=⟨ψP.sig,fun x=>ψP.f x.1 x.2⟩
def ψP.env:Env:=[(77,[ψ9.ctr]),(209,[ψK.ctr]),(210,[ψt.ctr])]
def ψP.ann:Ann:=⟨[(0,([(3,.ptr (.pair tyI (.sl false tyI))),(5,.val (.sl true .str)),(14,.val (.sl false tyF)),(15,.val tyI),(16,.val tyI)],[(.exit 0,[(5,.val (.sl true .str))])]))],[],[(8,[(.normal,[(3,.ptr (.pair tyI (.sl false tyI))),(5,.val (.sl true .str)),(14,.val (.sl false tyF)),(15,.val tyI),(16,.val tyI)])])]⟩
theorem ψP.ok:φ0 Tryz.prog 183 ψP.ctr:=fS (A:=ψP.ann) (eC ψ9.ok (eC ψK.ok (eC ψt.ok φ1.nil))) Tryz.func183 (by kernel_rfl) (by kernel_rfl) (fun x=>by kernel_rfl)
def ψA.sig:Sig:=⟨[.ptr tyD,.val .str],[],false⟩
def ψA.ctr:Ctr:=⟨ψA.sig,fun x=>ψA.f x.1 x.2⟩
def ψA.env:Env:=[(130,[ψr.ctr])]
def ψA.ann:Ann:=⟨[],[],[]⟩
theorem ψA.ok:φ0 Tryz.prog 229 ψA.ctr:=fS (A:=ψA.ann) (eC ψr.ok φ1.nil) Tryz.func229 (by kernel_rfl) (by kernel_rfl) (fun x=>by kernel_rfl)
def ψZ.sig:Sig:=⟨[.ptr tyD,.val (.box none .str)],[.val tyI],false⟩
def ψZ.ctr:Ctr:=⟨ψZ.sig,fun x=>ψZ.f x.1 x.2⟩
def ψZ.env:Env:=[(130,[ψr.ctr]),(229,[ψA.ctr])]
def ψZ.ann:Ann:=⟨[],[],[]⟩
theorem ψZ.ok:φ0 Tryz.prog 228 ψZ.ctr:=fS (A:=ψZ.ann) (eC ψr.ok (eC ψA.ok φ1.nil)) Tryz.func228 (by kernel_rfl) (by kernel_rfl) (fun x=>by kernel_rfl)
def ψ14.sig:Sig:=⟨[.val tyd,.val (.box (some 228) (.box none .str))],[.val tyD,.val tyI],false⟩
def ψ14.ctr:Ctr:=⟨ψ14.sig,fun x=>ψ14.f x.1 x.2⟩
def ψ14.env:Env:=[(76,[ψq.ctr]),(77,[ψ9.ctr]),(228,[ψZ.ctr])]
def ψ14.ann:Ann:=⟨[],[],[(7,[(.normal,[(1,.val (.box (some 228) (.box none .str))),(4,.ptr tyD),(6,.ptr tyD)])])]⟩
theorem ψ14.ok:φ0 Tryz.prog 173 ψ14.ctr:=fS (A:=ψ14.ann) (eC ψq.ok (eC ψ9.ok (eC ψZ.ok φ1.nil))) Tryz.func173 (by kernel_rfl) (by kernel_rfl) (fun x=>by kernel_rfl)
def ψY.sig:Sig:=⟨[.val tyd,.val .str],[.val tyD,.val tyI],false⟩
def ψY.ctr:Ctr:=⟨ψY.sig,fun x=>ψY.f x.1 x.2⟩
def ψY.env:Env:=[(173,[ψ14.ctr])]
def ψY.ann:Ann:=⟨[],[],[]⟩
theorem ψY.ok:φ0 Tryz.prog 211 ψY.ctr:=fS (A:=ψY.ann) (eC ψ14.ok φ1.nil) Tryz.func211 (by kernel_rfl) (by kernel_rfl) (fun x=>by kernel_rfl)
def ψ1H.sig:Sig:=⟨[.ptr (.pair tyD tyI),.val .str],[],false⟩
def ψ1H.ctr:Ctr:=⟨ψ1H.sig,fun x=>ψ1H.f x.1 x.2⟩
def ψ1H.env:Env:=[(130,[ψr.ctr]),(133,[ψ1P.ctr]),(211,[ψY.ctr])]
def ψ1H.ann:Ann:=⟨[],[],[]⟩
theorem ψ1H.ok:φ0 Tryz.prog 184 ψ1H.ctr:=fS (A:=ψ1H.ann) (eC ψr.ok (eC ψ1P.ok (eC ψY.ok φ1.nil))) Tryz.func184 (by kernel_rfl) (by kernel_rfl) (fun x=>by kernel_rfl)
def ψ1J.sig:Sig:=⟨[.ptr (.pair tyD tyI),.val (.pair tyI (.sl false tyI))],[],false⟩
def ψ1J.ctr:Ctr:=⟨ψ1J.sig,fun x=>ψ1J.f x.1 x.2⟩
def ψ1J.env:Env:=[(183,[ψP.ctr]),(184,[ψ1H.ctr])]
def ψ1J.ann:Ann:=⟨[(0,([(0,.ptr (.pair tyD tyI)),(11,.val (.sl true .str)),(12,.val tyI),(13,.val tyI)],[(.exit 0,[(0,.ptr (.pair tyD tyI))])]))],[],[]⟩
theorem ψ1J.ok:φ0 Tryz.prog 138 ψ1J.ctr:=fS (A:=ψ1J.ann) (eC ψP.ok (eC ψ1H.ok φ1.nil)) Tryz.func138 (by kernel_rfl) (by kernel_rfl) (fun x=>by kernel_rfl)
def ψ1G.sig:Sig:=⟨[.ptr (.pair tyD tyI),.val .str],[.val tyS],false⟩
def ψ1G.ctr:Ctr:=⟨ψ1G.sig,fun x=>ψ1G.f x.1 x.2⟩
def ψ1G.env:Env:=[(78,[ψD.ctr]),(98,[ψe.ctr]),(131,[ψT.ctr]),(132,[ψ1N.ctr]),(133,[ψ1P.ctr]),(134,[ψl.ctr]),(135,[ψ1O.ctr]),(136,[ψ1I.ctr]),(137,[ψX.ctr]),(138,[ψ1J.ctr])]
def ψ1G.ann:Ann:=⟨[(0,([(0,.ptr (.pair tyD tyI)),(4,.ptr tyS),(5,.ptw (.pair tyI (.sl true tyI))),(13,.ptr tyS),(14,.ptr (.pair (.sl true tyE) (.pair tyI tyI))),(16,.val (.sl true (.pair tyI (.pair tyI (.pair tyI tyR))))),(103,.val (.sl false (.sl false (.pair tyI (.pair tyI (.pair tyI tyR)))))),(104,.val tyI),(105,.val tyI),(5,.lnk 1 13 1)],[(.exit 0,[(0,.ptr (.pair tyD tyI)),(4,.ptr tyS),(5,.ptw (.pair tyI (.sl true tyI))),(13,.ptr tyS),(14,.ptr (.pair (.sl true tyE) (.pair tyI tyI))),(16,.val (.sl true (.pair tyI (.pair tyI (.pair tyI tyR))))),(5,.lnk 1 13 1)])]))],[],[(8,[(.normal,[(0,.ptr (.pair tyD tyI)),(4,.ptr tyS),(5,.ptr (.pair tyI (.sl true tyI))),(7,.val (.sl true (.sl true (.pair tyI (.pair tyI (.pair tyI tyR)))))),(8,.val tyI),(10,.val .str)])]),(15,[(.normal,[(0,.ptr (.pair tyD tyI)),(4,.ptr tyS),(5,.ptw (.pair tyI (.sl true tyI))),(7,.val (.sl false (.sl false (.pair tyI (.pair tyI (.pair tyI tyR)))))),(13,.ptr tyS),(14,.ptr (.pair (.sl true tyE) (.pair tyI tyI))),(5,.lnk 1 13 1)])])]⟩
theorem ψ1G.ok:φ0 Tryz.prog 79 ψ1G.ctr:=fS (A:=ψ1G.ann) (eC ψD.ok (eC ψe.ok (eC ψT.ok (eC ψ1N.ok (eC ψ1P.ok (eC ψl.ok (eC ψ1O.ok (eC ψ1I.ok (eC ψX.ok (eC ψ1J.ok φ1.nil)))))))))) Tryz.func79 (by kernel_rfl) (by kernel_rfl) (fun x=>by kernel_rfl)
def ψB.sig:Sig:=⟨[.ptr tyD,.val tyF],[],false⟩
def ψB.ctr:Ctr:=⟨ψB.sig,fun x=>ψB.f x.1 x.2⟩
def ψB.env:Env:=[]
def ψB.ann:Ann:=⟨[(0,([(0,.ptr tyD),(3,.ptr tyF),(4,.val tyI)],[(.exit 0,[(0,.ptr tyD),(3,.ptr tyF),(4,.val tyI)])]))],[],[]⟩
theorem ψB.ok:φ0 Tryz.prog 213 ψB.ctr:=fS (A:=ψB.ann) φ1.nil Tryz.func213 (by kernel_rfl) (by kernel_rfl) (fun x=>by kernel_rfl)
def ψ4.sig:Sig:=⟨[.ptr tyD,.val (.box none .str)],[.val tyI],false⟩
def ψ4.ctr:Ctr:=⟨ψ4.sig,fun x=>ψ4.f x.1 x.2⟩
def ψ4.env:Env:=[(129,[ψN.ctr]),(130,[ψr.ctr]),(213,[ψB.ctr])]
def ψ4.ann:Ann:=⟨[],[],[]⟩
theorem ψ4.ok:φ0 Tryz.prog 212 ψ4.ctr:=fS (A:=ψ4.ann) (eC ψN.ok (eC ψr.ok (eC ψB.ok φ1.nil))) Tryz.func212 (by kernel_rfl) (by kernel_rfl) (fun x=>by kernel_rfl)
def ψ13.sig:Sig:=⟨[.val tyd,.val (.box (some 212) (.box none .str))],[.val tyD,.val tyI],false⟩
def ψ13.ctr:Ctr:=⟨ψ13.sig,fun x=>ψ13.f x.1 x.2⟩
def ψ13.env:Env:=[(76,[ψq.ctr]),(77,[ψ9.ctr]),(212,[ψ4.ctr])]
def ψ13.ann:Ann:=⟨[],[],[(7,[(.normal,[(1,.val (.box (some 212) (.box none .str))),(4,.ptr tyD),(6,.ptr tyD)])])]⟩
theorem ψ13.ok:φ0 Tryz.prog 173 ψ13.ctr:=fS (A:=ψ13.ann) (eC ψq.ok (eC ψ9.ok (eC ψ4.ok φ1.nil))) Tryz.func173 (by kernel_rfl) (by kernel_rfl) (fun x=>by kernel_rfl)
def ψ3.sig:Sig:=⟨[.val tyd,.val .str],[.val tyD,.val tyI],false⟩
def ψ3.ctr:Ctr:=⟨ψ3.sig,fun x=>ψ3.f x.1 x.2⟩
def ψ3.env:Env:=[(173,[ψ13.ctr])]
def ψ3.ann:Ann:=⟨[],[],[]⟩
theorem ψ3.ok:φ0 Tryz.prog 185 ψ3.ctr:=fS (A:=ψ3.ann) (eC ψ13.ok φ1.nil) Tryz.func185 (by kernel_rfl) (by kernel_rfl) (fun x=>by kernel_rfl)
def ψ1D.sig:Sig:=⟨[.ptr (.pair tyD tyI),.val .str],[],false⟩
def ψ1D.ctr:Ctr:=⟨ψ1D.sig,fun x=>ψ1D.f x.1 x.2⟩
def ψ1D.env:Env:=[(133,[ψ1P.ctr]),(185,[ψ3.ctr])]
def ψ1D.ann:Ann:=⟨[],[],[]⟩
theorem ψ1D.ok:φ0 Tryz.prog 139 ψ1D.ctr:=fS (A:=ψ1D.ann) (eC ψ1P.ok (eC ψ3.ok φ1.nil)) Tryz.func139 (by kernel_rfl) (by kernel_rfl) (fun x=>by kernel_rfl)
def ψ1C.sig:Sig:=⟨[.ptr (.pair tyD tyI),.val .str],[],false⟩
def ψ1C.ctr:Ctr:=⟨ψ1C.sig,fun x=>ψ1C.f x.1 x.2⟩
def ψ1C.env:Env:=[(139,[ψ1D.ctr]),(184,[ψ1H.ctr])]
def ψ1C.ann:Ann:=⟨[],[],[]⟩
theorem ψ1C.ok:φ0 Tryz.prog 214 ψ1C.ctr:=fS (A:=ψ1C.ann) (eC ψ1D.ok (eC ψ1H.ok φ1.nil)) Tryz.func214 (by kernel_rfl) (by kernel_rfl) (fun x=>by kernel_rfl)
def ψ1A.sig:Sig:=⟨[.val tyd],[.val tyI],false⟩
def ψ1A.ctr:Ctr:=⟨ψ1A.sig,fun x=>ψ1A.f x⟩
def ψ1A.env:Env:=[]
def ψ1A.ann:Ann:=⟨[(0,([(3,.val tyI),(7,.val (.sl false tyF)),(8,.val tyI),(9,.val tyI)],[(.exit 0,[(3,.val tyI)])]))],[],[]⟩
theorem ψ1A.ok:φ0 Tryz.prog 237 ψ1A.ctr:=fS (A:=ψ1A.ann) φ1.nil Tryz.func237 (by kernel_rfl) (by kernel_rfl) (fun x=>by kernel_rfl)
def ψ1.sig:Sig:=⟨[.ptr tyD,.val (.box none .str),.val (.box none .str)],[.val tyI],false⟩
def ψ1.ctr:Ctr:=⟨ψ1.sig,fun x=>ψ1.f x.1 x.2.1 x.2.2⟩
def ψ1.env:Env:=[(130,[ψr.ctr]),(237,[ψ1A.ctr])]
def ψ1.ann:Ann:=⟨[],[],[]⟩
theorem ψ1.ok:φ0 Tryz.prog 236 ψ1.ctr:=fS (A:=ψ1.ann) (eC ψr.ok (eC ψ1A.ok φ1.nil)) Tryz.func236 (by kernel_rfl) (by kernel_rfl) (fun x=>by kernel_rfl)
def ψ12.sig:Sig:=⟨[.val tyd,.val (.box (some 236) (.pair (.box none .str) (.box none .str)))],[.val tyD,.val tyI],false⟩
def ψ12.ctr:Ctr:=⟨ψ12.sig,fun x=>ψ12.f x.1 x.2⟩
def ψ12.env:Env:=[(76,[ψq.ctr]),(77,[ψ9.ctr]),(236,[ψ1.ctr])]
def ψ12.ann:Ann:=⟨[],[],[(7,[(.normal,[(1,.val (.box (some 236) (.pair (.box none .str) (.box none .str)))),(4,.ptr tyD),(6,.ptr tyD)])])]⟩
theorem ψ12.ok:φ0 Tryz.prog 173 ψ12.ctr:=fS (A:=ψ12.ann) (eC ψq.ok (eC ψ9.ok (eC ψ1.ok φ1.nil))) Tryz.func173 (by kernel_rfl) (by kernel_rfl) (fun x=>by kernel_rfl)
def ψ0.sig:Sig:=⟨[.val tyd,.val .str,.val .str],[.val tyD,.val tyI],false⟩
def ψ0.ctr:Ctr:=⟨ψ0.sig,fun x=>ψ0.f x.1 x.2.1 x.2.2⟩
def ψ0.env:Env:=[(173,[ψ12.ctr])]
def ψ0.ann:Ann:=⟨[],[],[]⟩
theorem ψ0.ok:φ0 Tryz.prog 230 ψ0.ctr:=fS (A:=ψ0.ann) (eC ψ12.ok φ1.nil) Tryz.func230 (by kernel_rfl) (by kernel_rfl) (fun x=>by kernel_rfl)
def ψ1K.sig:Sig:=⟨[.ptr (.pair tyD tyI),.val .str,.val .str],[],false⟩
def ψ1K.ctr:Ctr:=⟨ψ1K.sig,fun x=>ψ1K.f x.1 x.2.1 x.2.2⟩
def ψ1K.env:Env:=[(133,[ψ1P.ctr]),(230,[ψ0.ctr])]
def ψ1K.ann:Ann:=⟨[],[],[]⟩
theorem ψ1K.ok:φ0 Tryz.prog 215 ψ1K.ctr:=fS (A:=ψ1K.ann) (eC ψ1P.ok (eC ψ0.ok φ1.nil)) Tryz.func215 (by kernel_rfl) (by kernel_rfl) (fun x=>by kernel_rfl)
def ψ1E.sig:Sig:=⟨[.ptr (.pair tyD tyI),.val .str,.val .str],[],false⟩
def ψ1E.ctr:Ctr:=⟨ψ1E.sig,fun x=>ψ1E.f x.1 x.2.1 x.2.2⟩
def ψ1E.env:Env:=[(135,[ψ1O.ctr]),(214,[ψ1C.ctr]),(215,[ψ1K.ctr])]
def ψ1E.ann:Ann:=⟨[],[],[]⟩
theorem ψ1E.ok:φ0 Tryz.prog 186 ψ1E.ctr:=fS (A:=ψ1E.ann) (eC ψ1O.ok (eC ψ1C.ok (eC ψ1K.ok φ1.nil))) Tryz.func186 (by kernel_rfl) (by kernel_rfl) (fun x=>by kernel_rfl)
def ψg.sig:Sig:=⟨[.val (.pair tyI (.sl false tyI))],[.val .str],false⟩
def ψg.ctr:Ctr:=⟨ψg.sig,fun x=>ψg.f x⟩
def ψg.env:Env:=[(169,[ψM.ctr]),(191,[ψF.ctr]),(216,[ψ1B.ctr])]
def ψg.ann:Ann:=⟨[],[],[]⟩
theorem ψg.ok:φ0 Tryz.prog 187 ψg.ctr:=fS (A:=ψg.ann) (eC ψM.ok (eC ψF.ok (eC ψ1B.ok φ1.nil))) Tryz.func187 (by kernel_rfl) (by kernel_rfl) (fun x=>by kernel_rfl)
def ψb.sig:Sig:=⟨[.ptr tyD,.val (.box none .str),.val (.box none .str)],[.val tyI],false⟩
def ψb.ctr:Ctr:=⟨ψb.sig,fun x=>ψb.f x.1 x.2.1 x.2.2⟩
def ψb.env:Env:=[(129,[ψN.ctr]),(130,[ψr.ctr]),(213,[ψB.ctr]),(229,[ψA.ctr])]
def ψb.ann:Ann:=⟨[],[],[]⟩
theorem ψb.ok:φ0 Tryz.prog 232 ψb.ctr:=fS (A:=ψb.ann) (eC ψN.ok (eC ψr.ok (eC ψB.ok (eC ψA.ok φ1.nil)))) Tryz.func232 (by kernel_rfl) (by kernel_rfl) (fun x=>by kernel_rfl)
def ψ15.sig:Sig:=⟨[.val tyd,.val (.box (some 232) (.pair (.box none .str) (.box none .str)))],[.val tyD,.val tyI],false⟩
def ψ15.ctr:Ctr:=⟨ψ15.sig,fun x=>ψ15.f x.1 x.2⟩
def ψ15.env:Env:=[(76,[ψq.ctr]),(77,[ψ9.ctr]),(232,[ψb.ctr])]
def ψ15.ann:Ann:=⟨[],[],[(7,[(.normal,[(1,.val (.box (some 232) (.pair (.box none .str) (.box none .str)))),(4,.ptr tyD),(6,.ptr tyD)])])]⟩
theorem ψ15.ok:φ0 Tryz.prog 173 ψ15.ctr:=fS (A:=ψ15.ann) (eC ψq.ok (eC ψ9.ok (eC ψb.ok φ1.nil))) Tryz.func173 (by kernel_rfl) (by kernel_rfl) (fun x=>by kernel_rfl)
def ψa.sig:Sig:=⟨[.val tyd,.val .str,.val .str],[.val tyD,.val tyI],false⟩
def ψa.ctr:Ctr:=⟨ψa.sig,fun x=>ψa.f x.1 x.2.1 x.2.2⟩
def ψa.env:Env:=[(173,[ψ15.ctr])]
def ψa.ann:Ann:=⟨[],[],[]⟩
theorem ψa.ok:φ0 Tryz.prog 217 ψa.ctr:=fS (A:=ψa.ann) (eC ψ15.ok φ1.nil) Tryz.func217 (by kernel_rfl) (by kernel_rfl) (fun x=>by kernel_rfl)
def ψ1M.sig:Sig:=⟨[.ptr (.pair tyD tyI),.val .str,.val .str],[],false⟩
def ψ1M.ctr:Ctr:=⟨ψ1M.sig,fun x=>ψ1M.f x.1 x.2.1 x.2.2⟩
def ψ1M.env:Env:=[(133,[ψ1P.ctr]),(217,[ψa.ctr])]
def ψ1M.ann:Ann:=⟨[],[],[]⟩
theorem ψ1M.ok:φ0 Tryz.prog 188 ψ1M.ctr:=fS (A:=ψ1M.ann) (eC ψ1P.ok (eC ψa.ok φ1.nil)) Tryz.func188 (by kernel_rfl) (by kernel_rfl) (fun x=>by kernel_rfl)
def ψ1L.sig:Sig:=⟨[.ptr (.pair tyD tyI),.val (.pair tyI (.sl false tyI))],[],false⟩
def ψ1L.ctr:Ctr:=⟨ψ1L.sig,fun x=>ψ1L.f x.1 x.2⟩
def ψ1L.env:Env:=[(186,[ψ1E.ctr]),(187,[ψg.ctr]),(188,[ψ1M.ctr])]
def ψ1L.ann:Ann:=⟨[],[],[]⟩
theorem ψ1L.ok:φ0 Tryz.prog 140 ψ1L.ctr:=fS (A:=ψ1L.ann) (eC ψ1E.ok (eC ψg.ok (eC ψ1M.ok φ1.nil))) Tryz.func140 (by kernel_rfl) (by kernel_rfl) (fun x=>by kernel_rfl)
def ψ1F.sig:Sig:=⟨[.ptr (.pair tyD tyI)],[.val tyS],false⟩
def ψ1F.ctr:Ctr:=⟨ψ1F.sig,fun x=>ψ1F.f x⟩
def ψ1F.env:Env:=[(98,[ψe.ctr]),(138,[ψ1J.ctr]),(139,[ψ1D.ctr]),(140,[ψ1L.ctr])]
def ψ1F.ann:Ann:=⟨[],[],[]⟩
theorem ψ1F.ok:φ0 Tryz.prog 80 ψ1F.ctr:=fS (A:=ψ1F.ann) (eC ψe.ok (eC ψ1J.ok (eC ψ1D.ok (eC ψ1L.ok φ1.nil)))) Tryz.func80 (by kernel_rfl) (by kernel_rfl) (fun x=>by kernel_rfl)
def ψO.sig:Sig:=⟨[.val tyd],[.val tyS,.val tyD,.val tyI],false⟩
def ψO.ctr:Ctr:=⟨ψO.sig,fun x=>ψO.f x⟩
def ψO.env:Env:=[(76,[ψq.ctr]),(77,[ψ9.ctr]),(78,[ψD.ctr]),(79,[ψ1G.ctr]),(80,[ψ1F.ctr])]
def ψO.ann:Ann:=⟨[],[],[(8,[(.normal,[(2,.ptr tyS),(3,.ptr tyD),(5,.ptr (.pair tyD tyI)),(6,.ptr tyS)])])]⟩
theorem ψO.ok:φ0 Tryz.prog 36 ψO.ctr:=fS (A:=ψO.ann) (eC ψq.ok (eC ψ9.ok (eC ψD.ok (eC ψ1G.ok (eC ψ1F.ok φ1.nil))))) Tryz.func36 (by kernel_rfl) (by kernel_rfl) (fun x=>by kernel_rfl)
def ψC.sig:Sig:=⟨[.val tyd],[.val (.pair .bool (.pair tyS (.pair tyD (.sl true (.pair .bool (.pair (.sl true (.pair .str tyI)) (.sl true tyP))))))),.val tyI],false⟩
def ψC.ctr:Ctr:=⟨ψC.sig,fun x=>ψC.f x⟩
def ψC.env:Env:=[(36,[ψO.ctr])]
def ψC.ann:Ann:=⟨[],[],[]⟩
theorem ψC.ok:φ0 Tryz.prog 17 ψC.ctr:=fS (A:=ψC.ann) (eC ψO.ok φ1.nil) Tryz.func17 (by kernel_rfl) (by kernel_rfl) (fun x=>by kernel_rfl)
def ψ1k.sig:Sig:=⟨[.val (.sl false tyI),.val tyI],[.val tyI],false⟩
def ψ1k.ctr:Ctr:=⟨ψ1k.sig,fun x=>ψ1k.f x.1 x.2⟩
def ψ1k.env:Env:=[]
def ψ1k.ann:Ann:=⟨[(0,([(0,.val (.sl false tyI)),(1,.val tyI),(5,.val tyI)],[(.exit 0,[(1,.val tyI)]),(.ret,[(4,.val tyI)])]))],[],[]⟩
theorem ψ1k.ok:φ0 Tryz.prog 141 ψ1k.ctr:=fS (A:=ψ1k.ann) φ1.nil Tryz.func141 (by kernel_rfl) (by kernel_rfl) (fun x=>by kernel_rfl)
def ψ1l.sig:Sig:=⟨[.val (.pair tyI (.sl false tyI)),.val tyI],[.val tyI],false⟩
def ψ1l.ctr:Ctr:=⟨ψ1l.sig,fun x=>ψ1l.f x.1 x.2⟩
def ψ1l.env:Env:=[(141,[ψ1k.ctr])]
def ψ1l.ann:Ann:=⟨[],[],[]⟩
theorem ψ1l.ok:φ0 Tryz.prog 82 ψ1l.ctr:=fS (A:=ψ1l.ann) (eC ψ1k.ok φ1.nil) Tryz.func82 (by kernel_rfl) (by kernel_rfl) (fun x=>by kernel_rfl)
def ψ1i.sig:Sig:=⟨[.val (.sl false tyE),.val tyI],[.val tyI],false⟩
def ψ1i.ctr:Ctr:=⟨ψ1i.sig,fun x=>ψ1i.f x.1 x.2⟩
def ψ1i.env:Env:=[(32,[ψ1z.ctr])]
def ψ1i.ann:Ann:=⟨[(0,([(0,.val (.sl false tyE)),(1,.val tyI),(5,.val tyI)],[(.exit 0,[(1,.val tyI)]),(.ret,[(4,.val tyI)])]))],[],[]⟩
theorem ψ1i.ok:φ0 Tryz.prog 83 ψ1i.ctr:=fS (A:=ψ1i.ann) (eC ψ1z.ok φ1.nil) Tryz.func83 (by kernel_rfl) (by kernel_rfl) (fun x=>by kernel_rfl)
def ψ1o.sig:Sig:=⟨[.val tys,.val tyI],[.val tyI],false⟩
def ψ1o.ctr:Ctr:=⟨ψ1o.sig,fun x=>ψ1o.f x.1 x.2⟩
def ψ1o.env:Env:=[(82,[ψ1l.ctr]),(83,[ψ1i.ctr])]
def ψ1o.ann:Ann:=⟨[],[],[]⟩
theorem ψ1o.ok:φ0 Tryz.prog 39 ψ1o.ctr:=fS (A:=ψ1o.ann) (eC ψ1l.ok (eC ψ1i.ok φ1.nil)) Tryz.func39 (by kernel_rfl) (by kernel_rfl) (fun x=>by kernel_rfl)
def ψ1j.sig:Sig:=⟨[.val (.sl false tyF),.val tyI],[.val tyI],false⟩
def ψ1j.ctr:Ctr:=⟨ψ1j.sig,fun x=>ψ1j.f x.1 x.2⟩
def ψ1j.env:Env:=[(32,[ψ1z.ctr])]
def ψ1j.ann:Ann:=⟨[(0,([(0,.val (.sl false tyF)),(1,.val tyI),(5,.val tyI)],[(.exit 0,[(1,.val tyI)]),(.ret,[(4,.val tyI)])]))],[],[]⟩
theorem ψ1j.ok:φ0 Tryz.prog 84 ψ1j.ctr:=fS (A:=ψ1j.ann) (eC ψ1z.ok φ1.nil) Tryz.func84 (by kernel_rfl) (by kernel_rfl) (fun x=>by kernel_rfl)
def ψ1g.sig:Sig:=⟨[.val tyd,.val tyI],[.val tyI],false⟩
def ψ1g.ctr:Ctr:=⟨ψ1g.sig,fun x=>ψ1g.f x.1 x.2⟩
def ψ1g.env:Env:=[(84,[ψ1j.ctr])]
def ψ1g.ann:Ann:=⟨[],[],[]⟩
theorem ψ1g.ok:φ0 Tryz.prog 40 ψ1g.ctr:=fS (A:=ψ1g.ann) (eC ψ1j.ok φ1.nil) Tryz.func40 (by kernel_rfl) (by kernel_rfl) (fun x=>by kernel_rfl)
def ψ1n.sig:Sig:=⟨[.val (.sl false (.pair .str tyI)),.val tyI],[.val tyI],false⟩
def ψ1n.ctr:Ctr:=⟨ψ1n.sig,fun x=>ψ1n.f x.1 x.2⟩
def ψ1n.env:Env:=[(32,[ψ1z.ctr])]
def ψ1n.ann:Ann:=⟨[(0,([(0,.val (.sl false (.pair .str tyI))),(1,.val tyI),(5,.val tyI)],[(.exit 0,[(1,.val tyI)]),(.ret,[(4,.val tyI)])]))],[],[]⟩
theorem ψ1n.ok:φ0 Tryz.prog 85 ψ1n.ctr:=fS (A:=ψ1n.ann) (eC ψ1z.ok φ1.nil) Tryz.func85 (by kernel_rfl) (by kernel_rfl) (fun x=>by kernel_rfl)
def ψ1m.sig:Sig:=⟨[.val (.sl false tyP),.val tyI],[.val tyI],false⟩
def ψ1m.ctr:Ctr:=⟨ψ1m.sig,fun x=>ψ1m.f x.1 x.2⟩
def ψ1m.env:Env:=[(32,[ψ1z.ctr])]
def ψ1m.ann:Ann:=⟨[(0,([(0,.val (.sl false tyP)),(1,.val tyI),(5,.val tyI)],[(.exit 0,[(1,.val tyI)]),(.ret,[(4,.val tyI)])]))],[],[]⟩
theorem ψ1m.ok:φ0 Tryz.prog 86 ψ1m.ctr:=fS (A:=ψ1m.ann) (eC ψ1z.ok φ1.nil) Tryz.func86 (by kernel_rfl) (by kernel_rfl) (fun x=>by kernel_rfl)
def ψ1p.sig:Sig:=⟨[.val (.sl false (.pair .bool (.pair (.sl false (.pair .str tyI)) (.sl false tyP)))),.val tyI],[.val tyI],false⟩
def ψ1p.ctr:Ctr:=⟨ψ1p.sig,fun x=>ψ1p.f x.1 x.2⟩
def ψ1p.env:Env:=[(85,[ψ1n.ctr]),(86,[ψ1m.ctr])]
def ψ1p.ann:Ann:=⟨[(0,([(0,.val (.sl false (.pair .bool (.pair (.sl false (.pair .str tyI)) (.sl false tyP))))),(1,.val tyI),(5,.val tyI)],[(.exit 0,[(1,.val tyI)]),(.ret,[(4,.val tyI)])]))],[],[]⟩
theorem ψ1p.ok:φ0 Tryz.prog 41 ψ1p.ctr:=fS (A:=ψ1p.ann) (eC ψ1n.ok (eC ψ1m.ok φ1.nil)) Tryz.func41 (by kernel_rfl) (by kernel_rfl) (fun x=>by kernel_rfl)
def ψ1h.sig:Sig:=⟨[.val (.pair .bool (.pair tys (.pair tyd (.sl false (.pair .bool (.pair (.sl false (.pair .str tyI)) (.sl false tyP))))))),.val tyI],[.val tyI],false⟩
def ψ1h.ctr:Ctr:=⟨ψ1h.sig,fun x=>ψ1h.f x.1 x.2⟩
def ψ1h.env:Env:=[(39,[ψ1o.ctr]),(40,[ψ1g.ctr]),(41,[ψ1p.ctr])]
def ψ1h.ann:Ann:=⟨[],[],[]⟩
theorem ψ1h.ok:φ0 Tryz.prog 20 ψ1h.ctr:=fS (A:=ψ1h.ann) (eC ψ1o.ok (eC ψ1g.ok (eC ψ1p.ok φ1.nil))) Tryz.func20 (by kernel_rfl) (by kernel_rfl) (fun x=>by kernel_rfl)
def ψ1Q.sig:Sig:=⟨[.val tyd],[.val .bool],false⟩
def ψ1Q.ctr:Ctr:=⟨ψ1Q.sig,fun x=>ψ1Q.f x⟩
def ψ1Q.env:Env:=[(10,[ψ1S.ctr]),(11,[ψ1r.ctr]),(14,[ψ21.ctr]),(15,[ψ2F.ctr]),(16,[ψ24.ctr]),(17,[ψC.ctr]),(18,[ψ1R.ctr]),(19,[ψ1q.ctr]),(20,[ψ1h.ctr]),(1000000008,[])]
def ψ1Q.ann:Ann:=⟨[],[],[]⟩
theorem ψ1Q.ok:φ0 Tryz.prog 4 ψ1Q.ctr:=fS (A:=ψ1Q.ann) (eC ψ1S.ok (eC ψ1r.ok (eC ψ21.ok (eC ψ2F.ok (eC ψ24.ok (eC ψC.ok (eC ψ1R.ok (eC ψ1q.ok (eC ψ1h.ok (φ1.cons (g:=1000000008) φ5g φ1.nil)))))))))) Tryz.func4 (by kernel_rfl) (by kernel_rfl) (fun x=>by kernel_rfl)
end
end Go.Proofs.YtaijadchooalpaaGreatDoor
