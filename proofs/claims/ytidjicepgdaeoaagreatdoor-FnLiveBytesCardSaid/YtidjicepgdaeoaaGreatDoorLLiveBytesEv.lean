import Derived.Test.YtidjicepgdaeoaaGreatDoorShelf
import Derived.Lib.AppendIntMem
import Derived.Test.YtidjicepgdaeoaaGreatDoorRf5
import Derived.Test.YtidjicepgdaeoaaGreatDoorLLiveBytesFns
import Derived.Test.YtidjicepgdaeoaaGreatDoorProg
namespace Go.Proofs.YtidjicepgdaeoaaGreatDoor
noncomputable section
open Go Go.Rf Go.Rf.G Go.Proofs Go.Lib
set_option maxRecDepth 100000
abbrev tyR : Ty := .pair (.int .i64) (.pair (.int .i64) (.pair .str (.pair .str (.pair (.int .i64) (.int .i64)))))
abbrev tyE : Ty := .pair .str (.pair (.int .i64) (.pair (.int .i64) (.pair (.int .i64) (.int .i64))))
abbrev tyF : Ty := .pair .str (.pair .str (.int .i64))
abbrev tyP : Ty := .pair .str (.pair .bool .str)
abbrev tyD : Ty := .pair (.sl true tyF) (.pair (.int .i64) (.pair (.int .i64) .bool))
abbrev tyS : Ty := .pair (.pair (.int .i64) (.sl true (.int .i64))) (.pair (.sl true tyE) (.pair (.int .i64) (.pair (.int .i64) (.int .i64))))
abbrev tyd : Ty := .pair (.sl false tyF) (.pair (.int .i64) (.pair (.int .i64) .bool))
abbrev tys : Ty := .pair (.pair (.int .i64) (.sl false (.int .i64))) (.pair (.sl false tyE) (.pair (.int .i64) (.pair (.int .i64) (.int .i64))))
abbrev tyI : Ty := .int .i64
def bodyOf (f : Func) : Code := f.body.getD .skip
def tab : Tab := [(3, ⟨tyI, false, [], none, 8, false⟩),
 (4, ⟨.bool, false, [], none, 1, false⟩),
 (5, ⟨(.int .u8), false, [], none, 1, false⟩),
 (9, ⟨.str, false, [], none, 16, false⟩),
 (26, ⟨(.sl true tyI), false, [], some 3, 24, false⟩),
 (28, ⟨(.pair tyI (.sl true tyI)), true, [(0, 1, false), (1, 1, false)], none, 32, false⟩),
 (29, ⟨(.sl true tyE), false, [], some 104, 24, false⟩),
 (31, ⟨tyS, true, [(0, 2, true), (2, 1, false), (3, 1, false), (4, 1, false), (5, 1, false)], none, 80, false⟩),
 (32, ⟨(.sl true tyF), false, [], some 56, 24, false⟩),
 (34, ⟨tyD, true, [(0, 1, false), (1, 1, false), (2, 1, false), (3, 1, false)], none, 48, false⟩),
 (43, ⟨(.sl true (.int .u8)), false, [], some 5, 24, false⟩),
 (56, ⟨tyF, true, [(0, 1, false), (1, 1, false), (2, 1, false)], none, 40, true⟩),
 (60, ⟨(.sl true .str), false, [], some 9, 24, false⟩),
 (71, ⟨(.sl true (.pair tyI (.pair tyI tyR))), false, [], some 127, 24, false⟩),
 (77, ⟨(.pair (.sl true tyE) (.pair tyI tyI)), true, [(0, 1, false), (1, 1, false), (2, 1, false)], none, 40, false⟩),
 (78, ⟨(.sl true (.pair tyI (.pair tyI (.pair tyI tyR)))), false, [], some 135, 24, false⟩),
 (80, ⟨(.pair tyI (.pair tyI (.sl true tyE))), true, [(0, 1, false), (1, 1, false), (2, 1, false)], none, 40, false⟩),
 (90, ⟨(.pair tyD tyI), true, [(0, 4, true), (4, 1, false)], none, 56, false⟩),
 (104, ⟨tyE, true, [(0, 1, false), (1, 1, false), (2, 1, false), (3, 1, false), (4, 1, false)], none, 48, true⟩),
 (106, ⟨tyR, true, [(0, 1, false), (1, 1, false), (2, 1, false), (3, 1, false), (4, 1, false), (5, 1, false)], none, 64, true⟩),
 (127, ⟨(.pair tyI (.pair tyI tyR)), true, [(0, 1, false), (1, 1, false), (2, 6, true)], none, 80, true⟩),
 (135, ⟨(.pair tyI (.pair tyI (.pair tyI tyR))), true, [(0, 1, false), (1, 1, false), (2, 1, false), (3, 6, true)], none, 88, true⟩),
 (142, ⟨(.sl true (.sl true (.pair tyI (.pair tyI (.pair tyI tyR))))), false, [], some 78, 24, false⟩),
 (156, ⟨(.pair (.sl true (.int .u8)) (.pair tyI tyI)), true, [(0, 1, false), (1, 1, false), (2, 1, false)], none, 40, false⟩),
 (170, ⟨(.sl true tyR), false, [], some 106, 24, false⟩),
 (177, ⟨(.pair .str .bool), true, [(0, 1, false), (1, 1, false)], none, 24, true⟩),
 (223, ⟨(.int .u32), false, [], none, 4, false⟩),
 (225, ⟨.box none .bool, false, [], none, 16, false⟩)]
theorem tabOk : TabOk Tryz.prog tab := Rf.tabOk (by kernel_rfl)
theorem mixed : Tryz.prog.follows .mixedOrders = true := by kernel_rfl
instance laid : Laid := andLaid (tabLaid Tryz.prog "internal/strconv.uint64pow10" .u64 Lib.pow10Tab) (sentLaid 1 2)
def spec_l1In.sig : Sig := ⟨[.val tyI, .val tyI, .val tyI], [.val .bool]⟩
def spec_l1In.ctr : Ctr := ⟨spec_l1In.sig, fun x => spec_l1In.f x.1 x.2.1 x.2.2⟩
def spec_l1In.env : Env := []
def spec_l1In.ann : Ann := ⟨[], [], []⟩
theorem spec_l1In.ok : CtrOk Tryz.prog 72 spec_l1In.ctr := fn_sound (A := spec_l1In.ann) tabOk EnvOk.nil mixed (fn := Tryz.f72) (body := bodyOf Tryz.f72) Tryz.func72 (by kernel_rfl) (by kernel_rfl) (fun x => by kernel_rfl)
def spec_Dec.sig : Sig := ⟨[.val tyI], [.val .str]⟩
def spec_Dec.ctr : Ctr := ⟨spec_Dec.sig, fun x => spec_Dec.f x⟩
def spec_Dec.env : Env := []
def spec_Dec.ann : Ann := ⟨[(0, ([(0, .val tyI), (3, .val .str), (4, .val .bool)], [(.exit 0, [(3, .val .str), (4, .val .bool)])]))], [], [(7, [(.normal, [(0, .val tyI), (3, .val .str), (4, .val .bool), (5, .val tyI)])])]⟩
theorem spec_Dec.ok : CtrOk Tryz.prog 81 spec_Dec.ctr := fn_sound (A := spec_Dec.ann) tabOk EnvOk.nil mixed (fn := Tryz.f81) (body := bodyOf Tryz.f81) Tryz.func81 (by kernel_rfl) (by kernel_rfl) (fun x => by kernel_rfl)
def spec_HintName.sig : Sig := ⟨[.val tyI], [.val .str]⟩
def spec_HintName.ctr : Ctr := ⟨spec_HintName.sig, fun x => spec_HintName.f x⟩
def spec_HintName.env : Env := [(72, [spec_l1In.ctr]), (81, [spec_Dec.ctr])]
def spec_HintName.ann : Ann := ⟨[], [], []⟩
theorem spec_HintName.ok : CtrOk Tryz.prog 29 spec_HintName.ctr := fn_sound (A := spec_HintName.ann) tabOk (EnvOk.cons (ctrs_cons spec_l1In.ok ctrs_nil) (EnvOk.cons (ctrs_cons spec_Dec.ok ctrs_nil) EnvOk.nil)) mixed (fn := Tryz.f29) (body := bodyOf Tryz.f29) Tryz.func29 (by kernel_rfl) (by kernel_rfl) (fun x => by kernel_rfl)
def spec_SegName.sig : Sig := ⟨[.val tyI], [.val .str]⟩
def spec_SegName.ctr : Ctr := ⟨spec_SegName.sig, fun x => spec_SegName.f x⟩
def spec_SegName.env : Env := [(72, [spec_l1In.ctr]), (81, [spec_Dec.ctr])]
def spec_SegName.ann : Ann := ⟨[], [], []⟩
theorem spec_SegName.ok : CtrOk Tryz.prog 32 spec_SegName.ctr := fn_sound (A := spec_SegName.ann) tabOk (EnvOk.cons (ctrs_cons spec_l1In.ok ctrs_nil) (EnvOk.cons (ctrs_cons spec_Dec.ok ctrs_nil) EnvOk.nil)) mixed (fn := Tryz.f32) (body := bodyOf Tryz.f32) Tryz.func32 (by kernel_rfl) (by kernel_rfl) (fun x => by kernel_rfl)
def spec_NameOk.sig : Sig := ⟨[.val .str], [.val .bool]⟩
def spec_NameOk.ctr : Ctr := ⟨spec_NameOk.sig, fun x => spec_NameOk.f x⟩
def spec_NameOk.env : Env := [(72, [spec_l1In.ctr])]
def spec_NameOk.ann : Ann := ⟨[(0, ([(0, .val .str), (3, .val tyI)], [(.exit 0, [(0, .val .str)]), (.ret, [(2, .val .bool)])]))], [], [(4, [(.normal, [(0, .val .str), (3, .val tyI)]), (.ret, [(2, .val .bool)])])]⟩
theorem spec_NameOk.ok : CtrOk Tryz.prog 84 spec_NameOk.ctr := fn_sound (A := spec_NameOk.ann) tabOk (EnvOk.cons (ctrs_cons spec_l1In.ok ctrs_nil) EnvOk.nil) mixed (fn := Tryz.f84) (body := bodyOf Tryz.f84) Tryz.func84 (by kernel_rfl) (by kernel_rfl) (fun x => by kernel_rfl)
def spec_l3Used.sig : Sig := ⟨[.val tyd], [.val tyI]⟩
def spec_l3Used.ctr : Ctr := ⟨spec_l3Used.sig, fun x => spec_l3Used.f x⟩
def spec_l3Used.env : Env := []
def spec_l3Used.ann : Ann := ⟨[(0, ([(1, .ptr tyd), (3, .val tyI), (4, .val tyI)], [(.exit 0, [(3, .val tyI)])]))], [], []⟩
theorem spec_l3Used.ok : CtrOk Tryz.prog 87 spec_l3Used.ctr := fn_sound (A := spec_l3Used.ann) tabOk EnvOk.nil mixed (fn := Tryz.f87) (body := bodyOf Tryz.f87) Tryz.func87 (by kernel_rfl) (by kernel_rfl) (fun x => by kernel_rfl)
def spec_DiskOk.sig : Sig := ⟨[.val tyd], [.val .bool]⟩
def spec_DiskOk.ctr : Ctr := ⟨spec_DiskOk.sig, fun x => spec_DiskOk.f x⟩
def spec_DiskOk.env : Env := [(72, [spec_l1In.ctr]), (84, [spec_NameOk.ctr]), (87, [spec_l3Used.ctr])]
def spec_DiskOk.ann : Ann := ⟨[(0, ([(1, .ptr tyd), (3, .val tyI)], [(.exit 0, []), (.ret, [(2, .val .bool)])]))], [], [(6, [(.normal, [(1, .ptr tyd), (3, .val tyI)]), (.ret, [(2, .val .bool)])])]⟩
theorem spec_DiskOk.ok : CtrOk Tryz.prog 36 spec_DiskOk.ctr := fn_sound (A := spec_DiskOk.ann) tabOk (EnvOk.cons (ctrs_cons spec_l1In.ok ctrs_nil) (EnvOk.cons (ctrs_cons spec_NameOk.ok ctrs_nil) (EnvOk.cons (ctrs_cons spec_l3Used.ok ctrs_nil) EnvOk.nil))) mixed (fn := Tryz.f36) (body := bodyOf Tryz.f36) Tryz.func36 (by kernel_rfl) (by kernel_rfl) (fun x => by kernel_rfl)
def spec_l3Copy.sig : Sig := ⟨[.val tyd], [.val tyD]⟩
def spec_l3Copy.ctr : Ctr := ⟨spec_l3Copy.sig, fun x => spec_l3Copy.f x⟩
def spec_l3Copy.env : Env := []
def spec_l3Copy.ann : Ann := ⟨[], [], []⟩
theorem spec_l3Copy.ok : CtrOk Tryz.prog 37 spec_l3Copy.ctr := fn_sound (A := spec_l3Copy.ann) tabOk EnvOk.nil mixed (fn := Tryz.f37) (body := bodyOf Tryz.f37) Tryz.func37 (by kernel_rfl) (by kernel_rfl) (fun x => by kernel_rfl)
def spec_l3Find.sig : Sig := ⟨[.val tyd, .val .str], [.val tyI]⟩
def spec_l3Find.ctr : Ctr := ⟨spec_l3Find.sig, fun x => spec_l3Find.f x.1 x.2⟩
def spec_l3Find.env : Env := []
def spec_l3Find.ann : Ann := ⟨[(0, ([(1, .val .str), (2, .ptr tyd), (5, .val tyI)], [(.exit 0, []), (.ret, [(4, .val tyI)])]))], [], []⟩
theorem spec_l3Find.ok : CtrOk Tryz.prog 85 spec_l3Find.ctr := fn_sound (A := spec_l3Find.ann) tabOk EnvOk.nil mixed (fn := Tryz.f85) (body := bodyOf Tryz.f85) Tryz.func85 (by kernel_rfl) (by kernel_rfl) (fun x => by kernel_rfl)
def spec_FileText.sig : Sig := ⟨[.val tyd, .val .str], [.val .str, .val .bool]⟩
def spec_FileText.ctr : Ctr := ⟨spec_FileText.sig, fun x => spec_FileText.f x.1 x.2⟩
def spec_FileText.env : Env := [(36, [spec_DiskOk.ctr]), (85, [spec_l3Find.ctr])]
def spec_FileText.ann : Ann := ⟨[], [], []⟩
theorem spec_FileText.ok : CtrOk Tryz.prog 38 spec_FileText.ctr := fn_sound (A := spec_FileText.ann) tabOk (EnvOk.cons (ctrs_cons spec_DiskOk.ok ctrs_nil) (EnvOk.cons (ctrs_cons spec_l3Find.ok ctrs_nil) EnvOk.nil)) mixed (fn := Tryz.f38) (body := bodyOf Tryz.f38) Tryz.func38 (by kernel_rfl) (by kernel_rfl) (fun x => by kernel_rfl)
def spec_l3Begin.sig : Sig := ⟨[.val tyd], [.val tyD, .val tyI]⟩
def spec_l3Begin.ctr : Ctr := ⟨spec_l3Begin.sig, fun x => spec_l3Begin.f x⟩
def spec_l3Begin.env : Env := [(36, [spec_DiskOk.ctr]), (37, [spec_l3Copy.ctr])]
def spec_l3Begin.ann : Ann := ⟨[], [], []⟩
theorem spec_l3Begin.ok : CtrOk Tryz.prog 83 spec_l3Begin.ctr := fn_sound (A := spec_l3Begin.ann) tabOk (EnvOk.cons (ctrs_cons spec_DiskOk.ok ctrs_nil) (EnvOk.cons (ctrs_cons spec_l3Copy.ok ctrs_nil) EnvOk.nil)) mixed (fn := Tryz.f83) (body := bodyOf Tryz.f83) Tryz.func83 (by kernel_rfl) (by kernel_rfl) (fun x => by kernel_rfl)
def spec_l3Insert.sig : Sig := ⟨[.val (.sl false tyF), .val tyF], [.val (.sl true tyF)]⟩
def spec_l3Insert.ctr : Ctr := ⟨spec_l3Insert.sig, fun x => spec_l3Insert.f x.1 x.2⟩
def spec_l3Insert.env : Env := []
def spec_l3Insert.ann : Ann := ⟨[(0, ([(0, .val (.sl false tyF)), (3, .ptr tyF), (5, .val (.sl true tyF)), (6, .val .bool), (7, .val tyI)], [(.exit 0, [(3, .ptr tyF), (5, .val (.sl true tyF)), (6, .val .bool)])]))], [], [(6, [(.normal, [(0, .val (.sl false tyF)), (3, .ptr tyF), (5, .val (.sl true tyF)), (6, .val .bool), (7, .val tyI)])])]⟩
theorem spec_l3Insert.ok : CtrOk Tryz.prog 86 spec_l3Insert.ctr := fn_sound (A := spec_l3Insert.ann) tabOk EnvOk.nil mixed (fn := Tryz.f86) (body := bodyOf Tryz.f86) Tryz.func86 (by kernel_rfl) (by kernel_rfl) (fun x => by kernel_rfl)
def spec_Create.sig : Sig := ⟨[.val tyd, .val .str], [.val tyD, .val tyI]⟩
def spec_Create.ctr : Ctr := ⟨spec_Create.sig, fun x => spec_Create.f x.1 x.2⟩
def spec_Create.env : Env := [(83, [spec_l3Begin.ctr]), (84, [spec_NameOk.ctr]), (85, [spec_l3Find.ctr]), (86, [spec_l3Insert.ctr])]
def spec_Create.ann : Ann := ⟨[], [], []⟩
theorem spec_Create.ok : CtrOk Tryz.prog 33 spec_Create.ctr := fn_sound (A := spec_Create.ann) tabOk (EnvOk.cons (ctrs_cons spec_l3Begin.ok ctrs_nil) (EnvOk.cons (ctrs_cons spec_NameOk.ok ctrs_nil) (EnvOk.cons (ctrs_cons spec_l3Find.ok ctrs_nil) (EnvOk.cons (ctrs_cons spec_l3Insert.ok ctrs_nil) EnvOk.nil)))) mixed (fn := Tryz.f33) (body := bodyOf Tryz.f33) Tryz.func33 (by kernel_rfl) (by kernel_rfl) (fun x => by kernel_rfl)
def spec_l11Code.sig : Sig := ⟨[.val tyI], [.val tyI]⟩
def spec_l11Code.ctr : Ctr := ⟨spec_l11Code.sig, fun x => spec_l11Code.f x⟩
def spec_l11Code.env : Env := []
def spec_l11Code.ann : Ann := ⟨[], [], []⟩
theorem spec_l11Code.ok : CtrOk Tryz.prog 43 spec_l11Code.ctr := fn_sound (A := spec_l11Code.ann) tabOk EnvOk.nil mixed (fn := Tryz.f43) (body := bodyOf Tryz.f43) Tryz.func43 (by kernel_rfl) (by kernel_rfl) (fun x => by kernel_rfl)
def spec_ReadDec.sig : Sig := ⟨[.val .str], [.val tyI, .val .bool]⟩
def spec_ReadDec.ctr : Ctr := ⟨spec_ReadDec.sig, fun x => spec_ReadDec.f x⟩
def spec_ReadDec.env : Env := [(81, [spec_Dec.ctr])]
def spec_ReadDec.ann : Ann := ⟨[(0, ([(0, .val .str), (4, .val tyI), (5, .val tyI), (6, .val tyI)], [(.exit 0, [(0, .val .str), (4, .val tyI), (5, .val tyI)])]))], [], [(6, [(.normal, [(0, .val .str), (4, .val tyI), (5, .val tyI), (6, .val tyI)])]), (9, [(.normal, [(0, .val .str), (4, .val tyI), (5, .val tyI)])])]⟩
theorem spec_ReadDec.ok : CtrOk Tryz.prog 80 spec_ReadDec.ctr := fn_sound (A := spec_ReadDec.ann) tabOk (EnvOk.cons (ctrs_cons spec_Dec.ok ctrs_nil) EnvOk.nil) mixed (fn := Tryz.f80) (body := bodyOf Tryz.f80) Tryz.func80 (by kernel_rfl) (by kernel_rfl) (fun x => by kernel_rfl)
def spec_IdOf.sig : Sig := ⟨[.val .str], [.val tyI, .val .bool]⟩
def spec_IdOf.ctr : Ctr := ⟨spec_IdOf.sig, fun x => spec_IdOf.f x⟩
def spec_IdOf.env : Env := [(29, [spec_HintName.ctr]), (32, [spec_SegName.ctr]), (80, [spec_ReadDec.ctr])]
def spec_IdOf.ann : Ann := ⟨[(0, ([(0, .val .str), (4, .val tyI)], [(.exit 0, []), (.ret, [(2, .val tyI), (3, .val .bool)])]))], [], [(6, [(.normal, [(0, .val .str), (4, .val tyI)]), (.ret, [(2, .val tyI), (3, .val .bool)])]), (4, [(.normal, [(0, .val .str), (4, .val tyI)]), (.ret, [(2, .val tyI), (3, .val .bool)])])]⟩
theorem spec_IdOf.ok : CtrOk Tryz.prog 28 spec_IdOf.ctr := fn_sound (A := spec_IdOf.ann) tabOk (EnvOk.cons (ctrs_cons spec_HintName.ok ctrs_nil) (EnvOk.cons (ctrs_cons spec_SegName.ok ctrs_nil) (EnvOk.cons (ctrs_cons spec_ReadDec.ok ctrs_nil) EnvOk.nil))) mixed (fn := Tryz.f28) (body := bodyOf Tryz.f28) Tryz.func28 (by kernel_rfl) (by kernel_rfl) (fun x => by kernel_rfl)
def spec_Orphans.sig : Sig := ⟨[.val tyd, .val (.pair tyI (.sl false tyI))], [.val (.sl true .str)]⟩
def spec_Orphans.ctr : Ctr := ⟨spec_Orphans.sig, fun x => spec_Orphans.f x.1 x.2⟩
def spec_Orphans.env : Env := [(28, [spec_IdOf.ctr]), (36, [spec_DiskOk.ctr])]
def spec_Orphans.ann : Ann := ⟨[(2, ([(2, .ptr tyd), (3, .ptr (.pair tyI (.sl false tyI))), (5, .val (.sl true .str)), (6, .val tyI), (7, .val tyI), (8, .val .bool), (9, .val .bool), (10, .val tyI)], [(.exit 2, [(2, .ptr tyd), (3, .ptr (.pair tyI (.sl false tyI))), (5, .val (.sl true .str)), (6, .val tyI), (8, .val .bool), (9, .val .bool)])])), (0, ([(2, .ptr tyd), (3, .ptr (.pair tyI (.sl false tyI))), (5, .val (.sl true .str)), (6, .val tyI)], [(.exit 0, [(5, .val (.sl true .str))])]))], [(3, [(.normal, [(2, .ptr tyd), (3, .ptr (.pair tyI (.sl false tyI))), (5, .val (.sl true .str)), (6, .val tyI), (7, .val tyI), (8, .val .bool), (9, .val .bool), (10, .val tyI)])])], [(13, [(.normal, [(2, .ptr tyd), (3, .ptr (.pair tyI (.sl false tyI))), (5, .val (.sl true .str)), (6, .val tyI)])])]⟩
theorem spec_Orphans.ok : CtrOk Tryz.prog 101 spec_Orphans.ctr := fn_sound (A := spec_Orphans.ann) tabOk (EnvOk.cons (ctrs_cons spec_IdOf.ok ctrs_nil) (EnvOk.cons (ctrs_cons spec_DiskOk.ok ctrs_nil) EnvOk.nil)) mixed (fn := Tryz.f101) (body := bodyOf Tryz.f101) Tryz.func101 (by kernel_rfl) (by kernel_rfl) (fun x => by kernel_rfl)
def spec_l3Without.sig : Sig := ⟨[.val (.sl false tyF), .val tyI], [.val (.sl true tyF)]⟩
def spec_l3Without.ctr : Ctr := ⟨spec_l3Without.sig, fun x => spec_l3Without.f x.1 x.2⟩
def spec_l3Without.env : Env := []
def spec_l3Without.ann : Ann := ⟨[], [], []⟩
theorem spec_l3Without.ok : CtrOk Tryz.prog 135 spec_l3Without.ctr := fn_sound (A := spec_l3Without.ann) tabOk EnvOk.nil mixed (fn := Tryz.f135) (body := bodyOf Tryz.f135) Tryz.func135 (by kernel_rfl) (by kernel_rfl) (fun x => by kernel_rfl)
def spec_Remove.sig : Sig := ⟨[.val tyd, .val .str], [.val tyD, .val tyI]⟩
def spec_Remove.ctr : Ctr := ⟨spec_Remove.sig, fun x => spec_Remove.f x.1 x.2⟩
def spec_Remove.env : Env := [(83, [spec_l3Begin.ctr]), (85, [spec_l3Find.ctr]), (135, [spec_l3Without.ctr])]
def spec_Remove.ann : Ann := ⟨[], [], []⟩
theorem spec_Remove.ok : CtrOk Tryz.prog 102 spec_Remove.ctr := fn_sound (A := spec_Remove.ann) tabOk (EnvOk.cons (ctrs_cons spec_l3Begin.ok ctrs_nil) (EnvOk.cons (ctrs_cons spec_l3Find.ok ctrs_nil) (EnvOk.cons (ctrs_cons spec_l3Without.ok ctrs_nil) EnvOk.nil))) mixed (fn := Tryz.f102) (body := bodyOf Tryz.f102) Tryz.func102 (by kernel_rfl) (by kernel_rfl) (fun x => by kernel_rfl)
def spec_l11Sweep.sig : Sig := ⟨[.val tyd, .val (.pair tyI (.sl false tyI))], [.val tyd, .val tyI]⟩
def spec_l11Sweep.ctr : Ctr := ⟨spec_l11Sweep.sig, fun x => spec_l11Sweep.f x.1 x.2⟩
def spec_l11Sweep.env : Env := [(43, [spec_l11Code.ctr]), (101, [spec_Orphans.ctr]), (102, [spec_Remove.ctr])]
def spec_l11Sweep.ann : Ann := ⟨[(0, ([(2, .ptr tyd), (4, .ptr tyD), (6, .val (.sl true .str)), (7, .val tyI)], [(.exit 0, [(2, .ptr tyd), (4, .ptr tyD)]), (.ret, [(4, .ptr tyD), (5, .val tyI)])]))], [], []⟩
theorem spec_l11Sweep.ok : CtrOk Tryz.prog 49 spec_l11Sweep.ctr := fn_sound (A := spec_l11Sweep.ann) tabOk (EnvOk.cons (ctrs_cons spec_l11Code.ok ctrs_nil) (EnvOk.cons (ctrs_cons spec_Orphans.ok ctrs_nil) (EnvOk.cons (ctrs_cons spec_Remove.ok ctrs_nil) EnvOk.nil))) mixed (fn := Tryz.f49) (body := bodyOf Tryz.f49) Tryz.func49 (by kernel_rfl) (by kernel_rfl) (fun x => by kernel_rfl)
def spec_LiveOk.sig : Sig := ⟨[.val (.pair tyI (.sl false tyI))], [.val .bool]⟩
def spec_LiveOk.ctr : Ctr := ⟨spec_LiveOk.sig, fun x => spec_LiveOk.f x⟩
def spec_LiveOk.env : Env := [(72, [spec_l1In.ctr])]
def spec_LiveOk.ann : Ann := ⟨[(0, ([(1, .ptr (.pair tyI (.sl false tyI))), (3, .val tyI)], [(.exit 0, []), (.ret, [(2, .val .bool)])]))], [], [(6, [(.normal, [(1, .ptr (.pair tyI (.sl false tyI))), (3, .val tyI)]), (.ret, [(2, .val .bool)])])]⟩
theorem spec_LiveOk.ok : CtrOk Tryz.prog 66 spec_LiveOk.ctr := fn_sound (A := spec_LiveOk.ann) tabOk (EnvOk.cons (ctrs_cons spec_l1In.ok ctrs_nil) EnvOk.nil) mixed (fn := Tryz.f66) (body := bodyOf Tryz.f66) Tryz.func66 (by kernel_rfl) (by kernel_rfl) (fun x => by kernel_rfl)
def spec_Var.sig : Sig := ⟨[.val tyI], [.val .str]⟩
def spec_Var.ctr : Ctr := ⟨spec_Var.sig, fun x => spec_Var.f x⟩
def spec_Var.env : Env := [(72, [spec_l1In.ctr])]
def spec_Var.ann : Ann := ⟨[(0, ([(0, .val tyI), (3, .val (.sl true (.int .u8)))], [(.exit 0, [(0, .val tyI), (3, .val (.sl true (.int .u8)))])]))], [], []⟩
theorem spec_Var.ok : CtrOk Tryz.prog 67 spec_Var.ctr := fn_sound (A := spec_Var.ann) tabOk (EnvOk.cons (ctrs_cons spec_l1In.ok ctrs_nil) EnvOk.nil) mixed (fn := Tryz.f67) (body := bodyOf Tryz.f67) Tryz.func67 (by kernel_rfl) (by kernel_rfl) (fun x => by kernel_rfl)
def spec_Fixed.sig : Sig := ⟨[.val tyI, .val tyI], [.val .str]⟩
def spec_Fixed.ctr : Ctr := ⟨spec_Fixed.sig, fun x => spec_Fixed.f x.1 x.2⟩
def spec_Fixed.env : Env := [(72, [spec_l1In.ctr])]
def spec_Fixed.ann : Ann := ⟨[(0, ([(0, .val tyI), (1, .val tyI), (5, .val .str), (6, .val tyI)], [(.exit 0, [(0, .val tyI), (5, .val .str)])]))], [], []⟩
theorem spec_Fixed.ok : CtrOk Tryz.prog 122 spec_Fixed.ctr := fn_sound (A := spec_Fixed.ann) tabOk (EnvOk.cons (ctrs_cons spec_l1In.ok ctrs_nil) EnvOk.nil) mixed (fn := Tryz.f122) (body := bodyOf Tryz.f122) Tryz.func122 (by kernel_rfl) (by kernel_rfl) (fun x => by kernel_rfl)
def spec_Crc.sig : Sig := ⟨[.val .str], [.val tyI]⟩
def spec_Crc.ctr : Ctr := ⟨spec_Crc.sig, fun x => spec_Crc.f x⟩
def spec_Crc.env : Env := []
def spec_Crc.ann : Ann := ⟨[(2, ([(0, .val .str), (3, .val tyI), (4, .val tyI), (5, .val tyI)], [(.exit 2, [(0, .val .str), (3, .val tyI), (4, .val tyI)])])), (0, ([(0, .val .str), (3, .val tyI), (4, .val tyI)], [(.exit 0, [(3, .val tyI)])]))], [], [(11, [(.normal, [(0, .val .str), (3, .val tyI), (4, .val tyI), (5, .val tyI)])])]⟩
theorem spec_Crc.ok : CtrOk Tryz.prog 123 spec_Crc.ctr := fn_sound (A := spec_Crc.ann) tabOk EnvOk.nil mixed (fn := Tryz.f123) (body := bodyOf Tryz.f123) Tryz.func123 (by kernel_rfl) (by kernel_rfl) (fun x => by kernel_rfl)
def spec_Frame.sig : Sig := ⟨[.val .str], [.val .str]⟩
def spec_Frame.ctr : Ctr := ⟨spec_Frame.sig, fun x => spec_Frame.f x⟩
def spec_Frame.env : Env := [(67, [spec_Var.ctr]), (122, [spec_Fixed.ctr]), (123, [spec_Crc.ctr])]
def spec_Frame.ann : Ann := ⟨[], [], []⟩
theorem spec_Frame.ok : CtrOk Tryz.prog 68 spec_Frame.ctr := fn_sound (A := spec_Frame.ann) tabOk (EnvOk.cons (ctrs_cons spec_Var.ok ctrs_nil) (EnvOk.cons (ctrs_cons spec_Fixed.ok ctrs_nil) (EnvOk.cons (ctrs_cons spec_Crc.ok ctrs_nil) EnvOk.nil))) mixed (fn := Tryz.f68) (body := bodyOf Tryz.f68) Tryz.func68 (by kernel_rfl) (by kernel_rfl) (fun x => by kernel_rfl)
def spec_ShowLive.sig : Sig := ⟨[.val (.pair tyI (.sl false tyI))], [.val .str]⟩
def spec_ShowLive.ctr : Ctr := ⟨spec_ShowLive.sig, fun x => spec_ShowLive.f x⟩
def spec_ShowLive.env : Env := [(66, [spec_LiveOk.ctr]), (67, [spec_Var.ctr]), (68, [spec_Frame.ctr])]
def spec_ShowLive.ann : Ann := ⟨[(0, ([(1, .ptr (.pair tyI (.sl false tyI))), (3, .val .str), (4, .val tyI)], [(.exit 0, [(3, .val .str)])]))], [], []⟩
theorem spec_ShowLive.ok : CtrOk Tryz.prog 20 spec_ShowLive.ctr := fn_sound (A := spec_ShowLive.ann) tabOk (EnvOk.cons (ctrs_cons spec_LiveOk.ok ctrs_nil) (EnvOk.cons (ctrs_cons spec_Var.ok ctrs_nil) (EnvOk.cons (ctrs_cons spec_Frame.ok ctrs_nil) EnvOk.nil))) mixed (fn := Tryz.f20) (body := bodyOf Tryz.f20) Tryz.func20 (by kernel_rfl) (by kernel_rfl) (fun x => by kernel_rfl)
def spec_Append.sig : Sig := ⟨[.val tyd, .val .str, .val .str], [.val tyD, .val tyI]⟩
def spec_Append.ctr : Ctr := ⟨spec_Append.sig, fun x => spec_Append.f x.1 x.2.1 x.2.2⟩
def spec_Append.env : Env := [(83, [spec_l3Begin.ctr]), (85, [spec_l3Find.ctr]), (87, [spec_l3Used.ctr])]
def spec_Append.ann : Ann := ⟨[], [], []⟩
theorem spec_Append.ok : CtrOk Tryz.prog 34 spec_Append.ctr := fn_sound (A := spec_Append.ann) tabOk (EnvOk.cons (ctrs_cons spec_l3Begin.ok ctrs_nil) (EnvOk.cons (ctrs_cons spec_l3Find.ok ctrs_nil) (EnvOk.cons (ctrs_cons spec_l3Used.ok ctrs_nil) EnvOk.nil))) mixed (fn := Tryz.f34) (body := bodyOf Tryz.f34) Tryz.func34 (by kernel_rfl) (by kernel_rfl) (fun x => by kernel_rfl)
def spec_Sync.sig : Sig := ⟨[.val tyd, .val .str], [.val tyD, .val tyI]⟩
def spec_Sync.ctr : Ctr := ⟨spec_Sync.sig, fun x => spec_Sync.f x.1 x.2⟩
def spec_Sync.env : Env := [(83, [spec_l3Begin.ctr]), (85, [spec_l3Find.ctr])]
def spec_Sync.ann : Ann := ⟨[], [], []⟩
theorem spec_Sync.ok : CtrOk Tryz.prog 44 spec_Sync.ctr := fn_sound (A := spec_Sync.ann) tabOk (EnvOk.cons (ctrs_cons spec_l3Begin.ok ctrs_nil) (EnvOk.cons (ctrs_cons spec_l3Find.ok ctrs_nil) EnvOk.nil)) mixed (fn := Tryz.f44) (body := bodyOf Tryz.f44) Tryz.func44 (by kernel_rfl) (by kernel_rfl) (fun x => by kernel_rfl)
def spec_l11Fresh.sig : Sig := ⟨[.val tyd, .val .str], [.val tyD, .val tyI]⟩
def spec_l11Fresh.ctr : Ctr := ⟨spec_l11Fresh.sig, fun x => spec_l11Fresh.f x.1 x.2⟩
def spec_l11Fresh.env : Env := [(33, [spec_Create.ctr]), (85, [spec_l3Find.ctr]), (102, [spec_Remove.ctr])]
def spec_l11Fresh.ann : Ann := ⟨[], [], [(1, [(.normal, [(1, .val .str), (2, .ptr tyd), (4, .ptr tyD)]), (.ret, [(4, .ptr tyD), (5, .val tyI)])])]⟩
theorem spec_l11Fresh.ok : CtrOk Tryz.prog 179 spec_l11Fresh.ctr := fn_sound (A := spec_l11Fresh.ann) tabOk (EnvOk.cons (ctrs_cons spec_Create.ok ctrs_nil) (EnvOk.cons (ctrs_cons spec_l3Find.ok ctrs_nil) (EnvOk.cons (ctrs_cons spec_Remove.ok ctrs_nil) EnvOk.nil))) mixed (fn := Tryz.f179) (body := bodyOf Tryz.f179) Tryz.func179 (by kernel_rfl) (by kernel_rfl) (fun x => by kernel_rfl)
def spec_l11File.sig : Sig := ⟨[.val tyd, .val .str, .val .str], [.val tyD, .val tyI]⟩
def spec_l11File.ctr : Ctr := ⟨spec_l11File.sig, fun x => spec_l11File.f x.1 x.2.1 x.2.2⟩
def spec_l11File.env : Env := [(34, [spec_Append.ctr]), (44, [spec_Sync.ctr]), (179, [spec_l11Fresh.ctr])]
def spec_l11File.ann : Ann := ⟨[], [], [(2, [(.normal, [(1, .val .str), (6, .ptr tyD), (8, .ptr tyD), (9, .val tyI)])])]⟩
theorem spec_l11File.ok : CtrOk Tryz.prog 139 spec_l11File.ctr := fn_sound (A := spec_l11File.ann) tabOk (EnvOk.cons (ctrs_cons spec_Append.ok ctrs_nil) (EnvOk.cons (ctrs_cons spec_Sync.ok ctrs_nil) (EnvOk.cons (ctrs_cons spec_l11Fresh.ok ctrs_nil) EnvOk.nil))) mixed (fn := Tryz.f139) (body := bodyOf Tryz.f139) Tryz.func139 (by kernel_rfl) (by kernel_rfl) (fun x => by kernel_rfl)
def spec_Rename.sig : Sig := ⟨[.val tyd, .val .str, .val .str], [.val tyD, .val tyI]⟩
def spec_Rename.ctr : Ctr := ⟨spec_Rename.sig, fun x => spec_Rename.f x.1 x.2.1 x.2.2⟩
def spec_Rename.env : Env := [(83, [spec_l3Begin.ctr]), (84, [spec_NameOk.ctr]), (85, [spec_l3Find.ctr]), (86, [spec_l3Insert.ctr]), (135, [spec_l3Without.ctr])]
def spec_Rename.ann : Ann := ⟨[], [], [(15, [(.normal, [(6, .ptr tyD), (8, .ptr tyD), (11, .ptr tyF)])])]⟩
theorem spec_Rename.ok : CtrOk Tryz.prog 140 spec_Rename.ctr := fn_sound (A := spec_Rename.ann) tabOk (EnvOk.cons (ctrs_cons spec_l3Begin.ok ctrs_nil) (EnvOk.cons (ctrs_cons spec_NameOk.ok ctrs_nil) (EnvOk.cons (ctrs_cons spec_l3Find.ok ctrs_nil) (EnvOk.cons (ctrs_cons spec_l3Insert.ok ctrs_nil) (EnvOk.cons (ctrs_cons spec_l3Without.ok ctrs_nil) EnvOk.nil))))) mixed (fn := Tryz.f140) (body := bodyOf Tryz.f140) Tryz.func140 (by kernel_rfl) (by kernel_rfl) (fun x => by kernel_rfl)
def spec_PutLive.sig : Sig := ⟨[.val tyd, .val (.pair tyI (.sl false tyI))], [.val tyD, .val tyI]⟩
def spec_PutLive.ctr : Ctr := ⟨spec_PutLive.sig, fun x => spec_PutLive.f x.1 x.2⟩
def spec_PutLive.env : Env := [(20, [spec_ShowLive.ctr]), (36, [spec_DiskOk.ctr]), (37, [spec_l3Copy.ctr]), (43, [spec_l11Code.ctr]), (66, [spec_LiveOk.ctr]), (139, [spec_l11File.ctr]), (140, [spec_Rename.ctr])]
def spec_PutLive.ann : Ann := ⟨[], [], [(4, [(.normal, [(4, .ptr tyD), (6, .ptr tyD), (7, .val tyI)])])]⟩
theorem spec_PutLive.ok : CtrOk Tryz.prog 89 spec_PutLive.ctr := fn_sound (A := spec_PutLive.ann) tabOk (EnvOk.cons (ctrs_cons spec_ShowLive.ok ctrs_nil) (EnvOk.cons (ctrs_cons spec_DiskOk.ok ctrs_nil) (EnvOk.cons (ctrs_cons spec_l3Copy.ok ctrs_nil) (EnvOk.cons (ctrs_cons spec_l11Code.ok ctrs_nil) (EnvOk.cons (ctrs_cons spec_LiveOk.ok ctrs_nil) (EnvOk.cons (ctrs_cons spec_l11File.ok ctrs_nil) (EnvOk.cons (ctrs_cons spec_Rename.ok ctrs_nil) EnvOk.nil))))))) mixed (fn := Tryz.f89) (body := bodyOf Tryz.f89) Tryz.func89 (by kernel_rfl) (by kernel_rfl) (fun x => by kernel_rfl)
def spec_l11First.sig : Sig := ⟨[.val tyd], [.val tyS, .val tyd, .val tyI]⟩
def spec_l11First.ctr : Ctr := ⟨spec_l11First.sig, fun x => spec_l11First.f x⟩
def spec_l11First.env : Env := [(32, [spec_SegName.ctr]), (33, [spec_Create.ctr]), (43, [spec_l11Code.ctr]), (49, [spec_l11Sweep.ctr]), (89, [spec_PutLive.ctr])]
def spec_l11First.ann : Ann := ⟨[], [], []⟩
theorem spec_l11First.ok : CtrOk Tryz.prog 39 spec_l11First.ctr := fn_sound (A := spec_l11First.ann) tabOk (EnvOk.cons (ctrs_cons spec_SegName.ok ctrs_nil) (EnvOk.cons (ctrs_cons spec_Create.ok ctrs_nil) (EnvOk.cons (ctrs_cons spec_l11Code.ok ctrs_nil) (EnvOk.cons (ctrs_cons spec_l11Sweep.ok ctrs_nil) (EnvOk.cons (ctrs_cons spec_PutLive.ok ctrs_nil) EnvOk.nil))))) mixed (fn := Tryz.f39) (body := bodyOf Tryz.f39) Tryz.func39 (by kernel_rfl) (by kernel_rfl) (fun x => by kernel_rfl)
def spec_ReadVar.sig : Sig := ⟨[.val .str], [.val tyI, .val tyI]⟩
def spec_ReadVar.ctr : Ctr := ⟨spec_ReadVar.sig, fun x => spec_ReadVar.f x⟩
def spec_ReadVar.env : Env := [(67, [spec_Var.ctr])]
def spec_ReadVar.ann : Ann := ⟨[(2, ([(0, .val .str), (4, .val tyI), (5, .val tyI), (6, .val tyI)], [(.exit 2, [(0, .val .str), (4, .val tyI), (5, .val tyI)])])), (0, ([(0, .val .str), (4, .val tyI)], [(.exit 0, []), (.ret, [(2, .val tyI), (3, .val tyI)])]))], [], []⟩
theorem spec_ReadVar.ok : CtrOk Tryz.prog 91 spec_ReadVar.ctr := fn_sound (A := spec_ReadVar.ann) tabOk (EnvOk.cons (ctrs_cons spec_Var.ok ctrs_nil) EnvOk.nil) mixed (fn := Tryz.f91) (body := bodyOf Tryz.f91) Tryz.func91 (by kernel_rfl) (by kernel_rfl) (fun x => by kernel_rfl)
def spec_Unframe.sig : Sig := ⟨[.val .str], [.val .str, .val tyI]⟩
def spec_Unframe.ctr : Ctr := ⟨spec_Unframe.sig, fun x => spec_Unframe.f x⟩
def spec_Unframe.env : Env := [(68, [spec_Frame.ctr]), (91, [spec_ReadVar.ctr])]
def spec_Unframe.ann : Ann := ⟨[], [], []⟩
theorem spec_Unframe.ok : CtrOk Tryz.prog 90 spec_Unframe.ctr := fn_sound (A := spec_Unframe.ann) tabOk (EnvOk.cons (ctrs_cons spec_Frame.ok ctrs_nil) (EnvOk.cons (ctrs_cons spec_ReadVar.ok ctrs_nil) EnvOk.nil)) mixed (fn := Tryz.f90) (body := bodyOf Tryz.f90) Tryz.func90 (by kernel_rfl) (by kernel_rfl) (fun x => by kernel_rfl)
def spec_ReadLive.sig : Sig := ⟨[.val .str], [.val (.pair tyI (.sl false tyI)), .val .bool]⟩
def spec_ReadLive.ctr : Ctr := ⟨spec_ReadLive.sig, fun x => spec_ReadLive.f x⟩
def spec_ReadLive.env : Env := [(20, [spec_ShowLive.ctr]), (90, [spec_Unframe.ctr]), (91, [spec_ReadVar.ctr])]
def spec_ReadLive.ann : Ann := ⟨[(0, ([(0, .val .str), (2, .ptr (.pair tyI (.sl true tyI))), (4, .val .str), (8, .val tyI), (10, .ptr (.pair tyI (.sl true tyI))), (11, .val tyI), (12, .val tyI)], [(.exit 0, [(0, .val .str), (2, .ptr (.pair tyI (.sl true tyI))), (10, .ptr (.pair tyI (.sl true tyI)))])]))], [], []⟩
theorem spec_ReadLive.ok : CtrOk Tryz.prog 40 spec_ReadLive.ctr := fn_sound (A := spec_ReadLive.ann) tabOk (EnvOk.cons (ctrs_cons spec_ShowLive.ok ctrs_nil) (EnvOk.cons (ctrs_cons spec_Unframe.ok ctrs_nil) (EnvOk.cons (ctrs_cons spec_ReadVar.ok ctrs_nil) EnvOk.nil))) mixed (fn := Tryz.f40) (body := bodyOf Tryz.f40) Tryz.func40 (by kernel_rfl) (by kernel_rfl) (fun x => by kernel_rfl)
def spec_l5Text.sig : Sig := ⟨[.val .str], [.val .str, .val .str, .val .bool]⟩
def spec_l5Text.ctr : Ctr := ⟨spec_l5Text.sig, fun x => spec_l5Text.f x⟩
def spec_l5Text.env : Env := [(91, [spec_ReadVar.ctr])]
def spec_l5Text.ann : Ann := ⟨[], [], []⟩
theorem spec_l5Text.ok : CtrOk Tryz.prog 94 spec_l5Text.ctr := fn_sound (A := spec_l5Text.ann) tabOk (EnvOk.cons (ctrs_cons spec_ReadVar.ok ctrs_nil) EnvOk.nil) mixed (fn := Tryz.f94) (body := bodyOf Tryz.f94) Tryz.func94 (by kernel_rfl) (by kernel_rfl) (fun x => by kernel_rfl)
def spec_KeyOk.sig : Sig := ⟨[.val .str], [.val .bool]⟩
def spec_KeyOk.ctr : Ctr := ⟨spec_KeyOk.sig, fun x => spec_KeyOk.f x⟩
def spec_KeyOk.env : Env := [(72, [spec_l1In.ctr])]
def spec_KeyOk.ann : Ann := ⟨[], [], []⟩
theorem spec_KeyOk.ok : CtrOk Tryz.prog 124 spec_KeyOk.ctr := fn_sound (A := spec_KeyOk.ann) tabOk (EnvOk.cons (ctrs_cons spec_l1In.ok ctrs_nil) EnvOk.nil) mixed (fn := Tryz.f124) (body := bodyOf Tryz.f124) Tryz.func124 (by kernel_rfl) (by kernel_rfl) (fun x => by kernel_rfl)
def spec_RecOk.sig : Sig := ⟨[.val tyR], [.val .bool]⟩
def spec_RecOk.ctr : Ctr := ⟨spec_RecOk.sig, fun x => spec_RecOk.f x⟩
def spec_RecOk.env : Env := [(72, [spec_l1In.ctr]), (124, [spec_KeyOk.ctr])]
def spec_RecOk.ann : Ann := ⟨[], [], [(1, [(.normal, [(1, .ptr tyR)]), (.ret, [(2, .val .bool)])]), (4, [(.normal, [(1, .ptr tyR), (18, .val tyI), (19, .val .bool)])])]⟩
theorem spec_RecOk.ok : CtrOk Tryz.prog 173 spec_RecOk.ctr := fn_sound (A := spec_RecOk.ann) tabOk (EnvOk.cons (ctrs_cons spec_l1In.ok ctrs_nil) (EnvOk.cons (ctrs_cons spec_KeyOk.ok ctrs_nil) EnvOk.nil)) mixed (fn := Tryz.f173) (body := bodyOf Tryz.f173) Tryz.func173 (by kernel_rfl) (by kernel_rfl) (fun x => by kernel_rfl)
def spec_ShowRec.sig : Sig := ⟨[.val tyR], [.val .str]⟩
def spec_ShowRec.ctr : Ctr := ⟨spec_ShowRec.sig, fun x => spec_ShowRec.f x⟩
def spec_ShowRec.env : Env := [(67, [spec_Var.ctr]), (122, [spec_Fixed.ctr]), (173, [spec_RecOk.ctr])]
def spec_ShowRec.ann : Ann := ⟨[], [], [(5, [(.normal, [(1, .ptr tyR), (3, .val .str), (15, .val tyI), (16, .val .bool)])])]⟩
theorem spec_ShowRec.ok : CtrOk Tryz.prog 133 spec_ShowRec.ctr := fn_sound (A := spec_ShowRec.ann) tabOk (EnvOk.cons (ctrs_cons spec_Var.ok ctrs_nil) (EnvOk.cons (ctrs_cons spec_Fixed.ok ctrs_nil) (EnvOk.cons (ctrs_cons spec_RecOk.ok ctrs_nil) EnvOk.nil))) mixed (fn := Tryz.f133) (body := bodyOf Tryz.f133) Tryz.func133 (by kernel_rfl) (by kernel_rfl) (fun x => by kernel_rfl)
def spec_ReadFixed.sig : Sig := ⟨[.val .str, .val tyI], [.val tyI, .val .bool]⟩
def spec_ReadFixed.ctr : Ctr := ⟨spec_ReadFixed.sig, fun x => spec_ReadFixed.f x.1 x.2⟩
def spec_ReadFixed.env : Env := [(72, [spec_l1In.ctr])]
def spec_ReadFixed.ann : Ann := ⟨[(0, ([(0, .val .str), (1, .val tyI), (6, .val tyI), (7, .val tyI)], [(.exit 0, [(6, .val tyI)])]))], [], []⟩
theorem spec_ReadFixed.ok : CtrOk Tryz.prog 141 spec_ReadFixed.ctr := fn_sound (A := spec_ReadFixed.ann) tabOk (EnvOk.cons (ctrs_cons spec_l1In.ok ctrs_nil) EnvOk.nil) mixed (fn := Tryz.f141) (body := bodyOf Tryz.f141) Tryz.func141 (by kernel_rfl) (by kernel_rfl) (fun x => by kernel_rfl)
def spec_ReadRec.sig : Sig := ⟨[.val .str], [.val tyR, .val .bool]⟩
def spec_ReadRec.ctr : Ctr := ⟨spec_ReadRec.sig, fun x => spec_ReadRec.f x⟩
def spec_ReadRec.env : Env := [(91, [spec_ReadVar.ctr]), (94, [spec_l5Text.ctr]), (133, [spec_ShowRec.ctr]), (141, [spec_ReadFixed.ctr])]
def spec_ReadRec.ann : Ann := ⟨[], [(0, [(.normal, [(0, .val .str), (2, .ptr tyR), (8, .ptr tyR)])])], [(12, [(.normal, [(0, .val .str), (2, .ptr tyR), (8, .ptr tyR), (9, .val .str), (50, .val tyI), (67, .val .bool)])]), (18, [(.normal, [(0, .val .str), (2, .ptr tyR), (8, .ptr tyR)])])]⟩
theorem spec_ReadRec.ok : CtrOk Tryz.prog 92 spec_ReadRec.ctr := fn_sound (A := spec_ReadRec.ann) tabOk (EnvOk.cons (ctrs_cons spec_ReadVar.ok ctrs_nil) (EnvOk.cons (ctrs_cons spec_l5Text.ok ctrs_nil) (EnvOk.cons (ctrs_cons spec_ShowRec.ok ctrs_nil) (EnvOk.cons (ctrs_cons spec_ReadFixed.ok ctrs_nil) EnvOk.nil)))) mixed (fn := Tryz.f92) (body := bodyOf Tryz.f92) Tryz.func92 (by kernel_rfl) (by kernel_rfl) (fun x => by kernel_rfl)
def spec_ScanRecs.sig : Sig := ⟨[.val .str], [.val (.sl true (.pair tyI (.pair tyI tyR))), .val tyI]⟩
def spec_ScanRecs.ctr : Ctr := ⟨spec_ScanRecs.sig, fun x => spec_ScanRecs.f x⟩
def spec_ScanRecs.env : Env := [(90, [spec_Unframe.ctr]), (92, [spec_ReadRec.ctr])]
def spec_ScanRecs.ann : Ann := ⟨[(0, ([(0, .val .str), (4, .val (.sl true (.pair tyI (.pair tyI tyR)))), (5, .val tyI)], [(.exit 0, [(4, .val (.sl true (.pair tyI (.pair tyI tyR)))), (5, .val tyI)]), (.ret, [(2, .val (.sl true (.pair tyI (.pair tyI tyR)))), (3, .val tyI)])]))], [], []⟩
theorem spec_ScanRecs.ok : CtrOk Tryz.prog 41 spec_ScanRecs.ctr := fn_sound (A := spec_ScanRecs.ann) tabOk (EnvOk.cons (ctrs_cons spec_Unframe.ok ctrs_nil) (EnvOk.cons (ctrs_cons spec_ReadRec.ok ctrs_nil) EnvOk.nil)) mixed (fn := Tryz.f41) (body := bodyOf Tryz.f41) Tryz.func41 (by kernel_rfl) (by kernel_rfl) (fun x => by kernel_rfl)
def spec_Truncate.sig : Sig := ⟨[.val tyd, .val .str, .val tyI], [.val tyD, .val tyI]⟩
def spec_Truncate.ctr : Ctr := ⟨spec_Truncate.sig, fun x => spec_Truncate.f x.1 x.2.1 x.2.2⟩
def spec_Truncate.env : Env := [(72, [spec_l1In.ctr]), (83, [spec_l3Begin.ctr]), (85, [spec_l3Find.ctr])]
def spec_Truncate.ann : Ann := ⟨[], [], []⟩
theorem spec_Truncate.ok : CtrOk Tryz.prog 42 spec_Truncate.ctr := fn_sound (A := spec_Truncate.ann) tabOk (EnvOk.cons (ctrs_cons spec_l1In.ok ctrs_nil) (EnvOk.cons (ctrs_cons spec_l3Begin.ok ctrs_nil) (EnvOk.cons (ctrs_cons spec_l3Find.ok ctrs_nil) EnvOk.nil))) mixed (fn := Tryz.f42) (body := bodyOf Tryz.f42) Tryz.func42 (by kernel_rfl) (by kernel_rfl) (fun x => by kernel_rfl)
def spec_l10Vars.sig : Sig := ⟨[.val .str, .val tyI, .val tyI], [.val (.sl true tyI), .val tyI]⟩
def spec_l10Vars.ctr : Ctr := ⟨spec_l10Vars.sig, fun x => spec_l10Vars.f x.1 x.2.1 x.2.2⟩
def spec_l10Vars.env : Env := [(91, [spec_ReadVar.ctr])]
def spec_l10Vars.ann : Ann := ⟨[(0, ([(0, .val .str), (1, .val tyI), (2, .val tyI), (8, .val (.sl true tyI)), (9, .val tyI)], [(.exit 0, [(1, .val tyI), (8, .val (.sl true tyI))]), (.ret, [(6, .val (.sl true tyI)), (7, .val tyI)])]))], [], []⟩
theorem spec_l10Vars.ok : CtrOk Tryz.prog 93 spec_l10Vars.ctr := fn_sound (A := spec_l10Vars.ann) tabOk (EnvOk.cons (ctrs_cons spec_ReadVar.ok ctrs_nil) EnvOk.nil) mixed (fn := Tryz.f93) (body := bodyOf Tryz.f93) Tryz.func93 (by kernel_rfl) (by kernel_rfl) (fun x => by kernel_rfl)
def spec_DirOk.sig : Sig := ⟨[.val (.sl false tyE)], [.val .bool]⟩
def spec_DirOk.ctr : Ctr := ⟨spec_DirOk.sig, fun x => spec_DirOk.f x⟩
def spec_DirOk.env : Env := [(72, [spec_l1In.ctr]), (124, [spec_KeyOk.ctr])]
def spec_DirOk.ann : Ann := ⟨[(0, ([(0, .val (.sl false tyE)), (3, .val tyI)], [(.exit 0, []), (.ret, [(2, .val .bool)])]))], [], [(7, [(.normal, [(0, .val (.sl false tyE)), (3, .val tyI)]), (.ret, [(2, .val .bool)])])]⟩
theorem spec_DirOk.ok : CtrOk Tryz.prog 71 spec_DirOk.ctr := fn_sound (A := spec_DirOk.ann) tabOk (EnvOk.cons (ctrs_cons spec_l1In.ok ctrs_nil) (EnvOk.cons (ctrs_cons spec_KeyOk.ok ctrs_nil) EnvOk.nil)) mixed (fn := Tryz.f71) (body := bodyOf Tryz.f71) Tryz.func71 (by kernel_rfl) (by kernel_rfl) (fun x => by kernel_rfl)
def spec_l10Ok.sig : Sig := ⟨[.val (.pair tyI (.pair tyI (.sl false tyE)))], [.val .bool]⟩
def spec_l10Ok.ctr : Ctr := ⟨spec_l10Ok.sig, fun x => spec_l10Ok.f x⟩
def spec_l10Ok.env : Env := [(71, [spec_DirOk.ctr]), (72, [spec_l1In.ctr])]
def spec_l10Ok.ann : Ann := ⟨[(0, ([(1, .ptr (.pair tyI (.pair tyI (.sl false tyE)))), (3, .val tyI)], [(.exit 0, []), (.ret, [(2, .val .bool)])]))], [], []⟩
theorem spec_l10Ok.ok : CtrOk Tryz.prog 142 spec_l10Ok.ctr := fn_sound (A := spec_l10Ok.ann) tabOk (EnvOk.cons (ctrs_cons spec_DirOk.ok ctrs_nil) (EnvOk.cons (ctrs_cons spec_l1In.ok ctrs_nil) EnvOk.nil)) mixed (fn := Tryz.f142) (body := bodyOf Tryz.f142) Tryz.func142 (by kernel_rfl) (by kernel_rfl) (fun x => by kernel_rfl)
def spec_ShowHint.sig : Sig := ⟨[.val (.pair tyI (.pair tyI (.sl false tyE)))], [.val .str]⟩
def spec_ShowHint.ctr : Ctr := ⟨spec_ShowHint.sig, fun x => spec_ShowHint.f x⟩
def spec_ShowHint.env : Env := [(67, [spec_Var.ctr]), (122, [spec_Fixed.ctr]), (123, [spec_Crc.ctr]), (142, [spec_l10Ok.ctr])]
def spec_ShowHint.ann : Ann := ⟨[(0, ([(1, .ptr (.pair tyI (.pair tyI (.sl false tyE)))), (3, .val .str), (4, .val tyI)], [(.exit 0, [(3, .val .str)])]))], [], []⟩
theorem spec_ShowHint.ok : CtrOk Tryz.prog 95 spec_ShowHint.ctr := fn_sound (A := spec_ShowHint.ann) tabOk (EnvOk.cons (ctrs_cons spec_Var.ok ctrs_nil) (EnvOk.cons (ctrs_cons spec_Fixed.ok ctrs_nil) (EnvOk.cons (ctrs_cons spec_Crc.ok ctrs_nil) (EnvOk.cons (ctrs_cons spec_l10Ok.ok ctrs_nil) EnvOk.nil)))) mixed (fn := Tryz.f95) (body := bodyOf Tryz.f95) Tryz.func95 (by kernel_rfl) (by kernel_rfl) (fun x => by kernel_rfl)
def spec_ReadHint.sig : Sig := ⟨[.val .str], [.val (.pair tyI (.pair tyI (.sl true tyE))), .val .bool]⟩
def spec_ReadHint.ctr : Ctr := ⟨spec_ReadHint.sig, fun x => spec_ReadHint.f x⟩
def spec_ReadHint.env : Env := [(93, [spec_l10Vars.ctr]), (94, [spec_l5Text.ctr]), (95, [spec_ShowHint.ctr])]
def spec_ReadHint.ann : Ann := ⟨[(0, ([(0, .val .str), (2, .ptr (.pair tyI (.pair tyI (.sl true tyE)))), (4, .val (.sl true tyI)), (5, .val tyI), (6, .ptr (.pair tyI (.pair tyI (.sl true tyE)))), (7, .val tyI)], [(.exit 0, [(0, .val .str), (2, .ptr (.pair tyI (.pair tyI (.sl true tyE)))), (6, .ptr (.pair tyI (.pair tyI (.sl true tyE))))]), (.ret, [(2, .ptr (.pair tyI (.pair tyI (.sl true tyE)))), (3, .val .bool)])]))], [], []⟩
theorem spec_ReadHint.ok : CtrOk Tryz.prog 45 spec_ReadHint.ctr := fn_sound (A := spec_ReadHint.ann) tabOk (EnvOk.cons (ctrs_cons spec_l10Vars.ok ctrs_nil) (EnvOk.cons (ctrs_cons spec_l5Text.ok ctrs_nil) (EnvOk.cons (ctrs_cons spec_ShowHint.ok ctrs_nil) EnvOk.nil))) mixed (fn := Tryz.f45) (body := bodyOf Tryz.f45) Tryz.func45 (by kernel_rfl) (by kernel_rfl) (fun x => by kernel_rfl)
def spec_SameDir.sig : Sig := ⟨[.val (.sl false tyE), .val (.sl false tyE)], [.val .bool]⟩
def spec_SameDir.ctr : Ctr := ⟨spec_SameDir.sig, fun x => spec_SameDir.f x.1 x.2⟩
def spec_SameDir.env : Env := []
def spec_SameDir.ann : Ann := ⟨[(0, ([(0, .val (.sl false tyE)), (1, .val (.sl false tyE)), (5, .val tyI)], [(.exit 0, []), (.ret, [(4, .val .bool)])]))], [], []⟩
theorem spec_SameDir.ok : CtrOk Tryz.prog 69 spec_SameDir.ctr := fn_sound (A := spec_SameDir.ann) tabOk EnvOk.nil mixed (fn := Tryz.f69) (body := bodyOf Tryz.f69) Tryz.func69 (by kernel_rfl) (by kernel_rfl) (fun x => by kernel_rfl)
def spec_SumOf.sig : Sig := ⟨[.val (.sl false tyR)], [.val tyI]⟩
def spec_SumOf.ctr : Ctr := ⟨spec_SumOf.sig, fun x => spec_SumOf.f x⟩
def spec_SumOf.env : Env := [(123, [spec_Crc.ctr]), (133, [spec_ShowRec.ctr])]
def spec_SumOf.ann : Ann := ⟨[(0, ([(0, .val (.sl false tyR)), (3, .val .str), (4, .val tyI)], [(.exit 0, [(3, .val .str)])]))], [], []⟩
theorem spec_SumOf.ok : CtrOk Tryz.prog 143 spec_SumOf.ctr := fn_sound (A := spec_SumOf.ann) tabOk (EnvOk.cons (ctrs_cons spec_Crc.ok ctrs_nil) (EnvOk.cons (ctrs_cons spec_ShowRec.ok ctrs_nil) EnvOk.nil)) mixed (fn := Tryz.f143) (body := bodyOf Tryz.f143) Tryz.func143 (by kernel_rfl) (by kernel_rfl) (fun x => by kernel_rfl)
def spec_HintOf.sig : Sig := ⟨[.val tyI, .val .str], [.val (.pair tyI (.pair tyI (.sl true tyE))), .val .bool]⟩
def spec_HintOf.ctr : Ctr := ⟨spec_HintOf.sig, fun x => spec_HintOf.f x.1 x.2⟩
def spec_HintOf.env : Env := [(32, [spec_SegName.ctr]), (41, [spec_ScanRecs.ctr]), (143, [spec_SumOf.ctr])]
def spec_HintOf.ann : Ann := ⟨[(0, ([(0, .val tyI), (4, .ptr (.pair tyI (.pair tyI (.sl true tyE)))), (6, .val (.sl true (.pair tyI (.pair tyI tyR)))), (8, .ptr (.pair tyI (.pair tyI (.sl true tyE)))), (9, .val (.sl true tyR)), (10, .val tyI)], [(.exit 0, [(4, .ptr (.pair tyI (.pair tyI (.sl true tyE)))), (6, .val (.sl true (.pair tyI (.pair tyI tyR)))), (8, .ptr (.pair tyI (.pair tyI (.sl true tyE)))), (9, .val (.sl true tyR))]), (.ret, [(4, .ptr (.pair tyI (.pair tyI (.sl true tyE)))), (5, .val .bool)])]))], [], [(10, [(.normal, [(0, .val tyI), (4, .ptr (.pair tyI (.pair tyI (.sl true tyE)))), (6, .val (.sl true (.pair tyI (.pair tyI tyR)))), (8, .ptr (.pair tyI (.pair tyI (.sl true tyE)))), (9, .val (.sl true tyR)), (10, .val tyI), (11, .ptr tyR)]), (.ret, [(4, .ptr (.pair tyI (.pair tyI (.sl true tyE)))), (5, .val .bool)])])]⟩
theorem spec_HintOf.ok : CtrOk Tryz.prog 96 spec_HintOf.ctr := fn_sound (A := spec_HintOf.ann) tabOk (EnvOk.cons (ctrs_cons spec_SegName.ok ctrs_nil) (EnvOk.cons (ctrs_cons spec_ScanRecs.ok ctrs_nil) (EnvOk.cons (ctrs_cons spec_SumOf.ok ctrs_nil) EnvOk.nil))) mixed (fn := Tryz.f96) (body := bodyOf Tryz.f96) Tryz.func96 (by kernel_rfl) (by kernel_rfl) (fun x => by kernel_rfl)
def spec_HintFits.sig : Sig := ⟨[.val tyI, .val .str, .val (.pair tyI (.pair tyI (.sl false tyE)))], [.val .bool]⟩
def spec_HintFits.ctr : Ctr := ⟨spec_HintFits.sig, fun x => spec_HintFits.f x.1 x.2.1 x.2.2⟩
def spec_HintFits.env : Env := [(69, [spec_SameDir.ctr]), (96, [spec_HintOf.ctr])]
def spec_HintFits.ann : Ann := ⟨[], [], []⟩
theorem spec_HintFits.ok : CtrOk Tryz.prog 46 spec_HintFits.ctr := fn_sound (A := spec_HintFits.ann) tabOk (EnvOk.cons (ctrs_cons spec_SameDir.ok ctrs_nil) (EnvOk.cons (ctrs_cons spec_HintOf.ok ctrs_nil) EnvOk.nil)) mixed (fn := Tryz.f46) (body := bodyOf Tryz.f46) Tryz.func46 (by kernel_rfl) (by kernel_rfl) (fun x => by kernel_rfl)
def spec_l11Places.sig : Sig := ⟨[.val tyI, .val .str], [.val (.sl true (.pair tyI (.pair tyI (.pair tyI tyR))))]⟩
def spec_l11Places.ctr : Ctr := ⟨spec_l11Places.sig, fun x => spec_l11Places.f x.1 x.2⟩
def spec_l11Places.env : Env := [(41, [spec_ScanRecs.ctr])]
def spec_l11Places.ann : Ann := ⟨[(0, ([(0, .val tyI), (5, .val (.sl true (.pair tyI (.pair tyI (.pair tyI tyR))))), (6, .val (.sl true (.pair tyI (.pair tyI tyR)))), (8, .val tyI)], [(.exit 0, [(5, .val (.sl true (.pair tyI (.pair tyI (.pair tyI tyR)))))])]))], [], []⟩
theorem spec_l11Places.ok : CtrOk Tryz.prog 47 spec_l11Places.ctr := fn_sound (A := spec_l11Places.ann) tabOk (EnvOk.cons (ctrs_cons spec_ScanRecs.ok ctrs_nil) EnvOk.nil) mixed (fn := Tryz.f47) (body := bodyOf Tryz.f47) Tryz.func47 (by kernel_rfl) (by kernel_rfl) (fun x => by kernel_rfl)
def spec_l9Of.sig : Sig := ⟨[.val (.sl false (.pair tyI (.pair tyI (.pair tyI tyR)))), .val tyI, .val tyI], [.val (.sl true (.pair tyI (.pair tyI (.pair tyI tyR))))]⟩
def spec_l9Of.ctr : Ctr := ⟨spec_l9Of.sig, fun x => spec_l9Of.f x.1 x.2.1 x.2.2⟩
def spec_l9Of.env : Env := []
def spec_l9Of.ann : Ann := ⟨[(0, ([(0, .val (.sl false (.pair tyI (.pair tyI (.pair tyI tyR))))), (1, .val tyI), (2, .val tyI), (7, .val (.sl true (.pair tyI (.pair tyI (.pair tyI tyR))))), (8, .val tyI)], [(.exit 0, [(7, .val (.sl true (.pair tyI (.pair tyI (.pair tyI tyR)))))])]))], [], [(6, [(.normal, [(0, .val (.sl false (.pair tyI (.pair tyI (.pair tyI tyR))))), (1, .val tyI), (2, .val tyI), (7, .val (.sl true (.pair tyI (.pair tyI (.pair tyI tyR))))), (8, .val tyI), (9, .ptr tyR)])]), (8, [(.normal, [(0, .val (.sl false (.pair tyI (.pair tyI (.pair tyI tyR))))), (1, .val tyI), (2, .val tyI), (7, .val (.sl true (.pair tyI (.pair tyI (.pair tyI tyR))))), (8, .val tyI)])])]⟩
theorem spec_l9Of.ok : CtrOk Tryz.prog 97 spec_l9Of.ctr := fn_sound (A := spec_l9Of.ann) tabOk EnvOk.nil mixed (fn := Tryz.f97) (body := bodyOf Tryz.f97) Tryz.func97 (by kernel_rfl) (by kernel_rfl) (fun x => by kernel_rfl)
def spec_l9Recs.sig : Sig := ⟨[.val (.sl false (.pair tyI (.pair tyI (.pair tyI tyR))))], [.val (.sl true tyR)]⟩
def spec_l9Recs.ctr : Ctr := ⟨spec_l9Recs.sig, fun x => spec_l9Recs.f x⟩
def spec_l9Recs.env : Env := []
def spec_l9Recs.ann : Ann := ⟨[(0, ([(0, .val (.sl false (.pair tyI (.pair tyI (.pair tyI tyR))))), (3, .val (.sl true tyR)), (4, .val tyI)], [(.exit 0, [(3, .val (.sl true tyR))])]))], [], []⟩
theorem spec_l9Recs.ok : CtrOk Tryz.prog 144 spec_l9Recs.ctr := fn_sound (A := spec_l9Recs.ann) tabOk EnvOk.nil mixed (fn := Tryz.f144) (body := bodyOf Tryz.f144) Tryz.func144 (by kernel_rfl) (by kernel_rfl) (fun x => by kernel_rfl)
def spec_l9Fits.sig : Sig := ⟨[.val tyR, .val (.sl false (.pair tyI (.pair tyI (.pair tyI tyR))))], [.val .bool]⟩
def spec_l9Fits.ctr : Ctr := ⟨spec_l9Fits.sig, fun x => spec_l9Fits.f x.1 x.2⟩
def spec_l9Fits.env : Env := [(143, [spec_SumOf.ctr]), (144, [spec_l9Recs.ctr])]
def spec_l9Fits.ann : Ann := ⟨[], [], []⟩
theorem spec_l9Fits.ok : CtrOk Tryz.prog 98 spec_l9Fits.ctr := fn_sound (A := spec_l9Fits.ann) tabOk (EnvOk.cons (ctrs_cons spec_SumOf.ok ctrs_nil) (EnvOk.cons (ctrs_cons spec_l9Recs.ok ctrs_nil) EnvOk.nil)) mixed (fn := Tryz.f98) (body := bodyOf Tryz.f98) Tryz.func98 (by kernel_rfl) (by kernel_rfl) (fun x => by kernel_rfl)
def spec_l9Kept.sig : Sig := ⟨[.val (.sl false (.pair tyI (.pair tyI (.pair tyI tyR)))), .val tyI], [.val (.sl true (.pair tyI (.pair tyI (.pair tyI tyR))))]⟩
def spec_l9Kept.ctr : Ctr := ⟨spec_l9Kept.sig, fun x => spec_l9Kept.f x.1 x.2⟩
def spec_l9Kept.env : Env := []
def spec_l9Kept.ann : Ann := ⟨[(0, ([(0, .val (.sl false (.pair tyI (.pair tyI (.pair tyI tyR))))), (1, .val tyI), (5, .val (.sl true (.pair tyI (.pair tyI (.pair tyI tyR))))), (6, .val tyI)], [(.exit 0, [(5, .val (.sl true (.pair tyI (.pair tyI (.pair tyI tyR)))))])]))], [], [(5, [(.normal, [(0, .val (.sl false (.pair tyI (.pair tyI (.pair tyI tyR))))), (1, .val tyI), (5, .val (.sl true (.pair tyI (.pair tyI (.pair tyI tyR))))), (6, .val tyI)])]), (7, [(.normal, [(0, .val (.sl false (.pair tyI (.pair tyI (.pair tyI tyR))))), (1, .val tyI), (5, .val (.sl true (.pair tyI (.pair tyI (.pair tyI tyR))))), (6, .val tyI)])])]⟩
theorem spec_l9Kept.ok : CtrOk Tryz.prog 99 spec_l9Kept.ctr := fn_sound (A := spec_l9Kept.ann) tabOk EnvOk.nil mixed (fn := Tryz.f99) (body := bodyOf Tryz.f99) Tryz.func99 (by kernel_rfl) (by kernel_rfl) (fun x => by kernel_rfl)
def spec_DirDrop.sig : Sig := ⟨[.val (.sl false tyE), .val .str], [.val (.sl true tyE)]⟩
def spec_DirDrop.ctr : Ctr := ⟨spec_DirDrop.sig, fun x => spec_DirDrop.f x.1 x.2⟩
def spec_DirDrop.env : Env := []
def spec_DirDrop.ann : Ann := ⟨[(0, ([(0, .val (.sl false tyE)), (1, .val .str), (5, .val (.sl true tyE)), (6, .val tyI)], [(.exit 0, [(5, .val (.sl true tyE))])]))], [], [(5, [(.normal, [(0, .val (.sl false tyE)), (1, .val .str), (5, .val (.sl true tyE)), (6, .val tyI)])])]⟩
theorem spec_DirDrop.ok : CtrOk Tryz.prog 145 spec_DirDrop.ctr := fn_sound (A := spec_DirDrop.ann) tabOk EnvOk.nil mixed (fn := Tryz.f145) (body := bodyOf Tryz.f145) Tryz.func145 (by kernel_rfl) (by kernel_rfl) (fun x => by kernel_rfl)
def spec_DirPut.sig : Sig := ⟨[.val (.sl false tyE), .val tyE], [.val (.sl true tyE)]⟩
def spec_DirPut.ctr : Ctr := ⟨spec_DirPut.sig, fun x => spec_DirPut.f x.1 x.2⟩
def spec_DirPut.env : Env := []
def spec_DirPut.ann : Ann := ⟨[(0, ([(0, .val (.sl false tyE)), (3, .ptr tyE), (5, .val (.sl true tyE)), (6, .val .bool), (7, .val tyI)], [(.exit 0, [(3, .ptr tyE), (5, .val (.sl true tyE)), (6, .val .bool)])]))], [(1, [(.normal, [(0, .val (.sl false tyE)), (3, .ptr tyE), (5, .val (.sl true tyE)), (6, .val .bool), (7, .val tyI)])])], [(7, [(.normal, [(0, .val (.sl false tyE)), (3, .ptr tyE), (5, .val (.sl true tyE)), (6, .val .bool), (7, .val tyI)])])]⟩
theorem spec_DirPut.ok : CtrOk Tryz.prog 146 spec_DirPut.ctr := fn_sound (A := spec_DirPut.ann) tabOk EnvOk.nil mixed (fn := Tryz.f146) (body := bodyOf Tryz.f146) Tryz.func146 (by kernel_rfl) (by kernel_rfl) (fun x => by kernel_rfl)
def spec_l9Put.sig : Sig := ⟨[.val (.sl false tyE), .val (.pair tyI (.pair tyI (.pair tyI tyR)))], [.val (.sl true tyE)]⟩
def spec_l9Put.ctr : Ctr := ⟨spec_l9Put.sig, fun x => spec_l9Put.f x.1 x.2⟩
def spec_l9Put.env : Env := [(145, [spec_DirDrop.ctr]), (146, [spec_DirPut.ctr])]
def spec_l9Put.ann : Ann := ⟨[], [], []⟩
theorem spec_l9Put.ok : CtrOk Tryz.prog 100 spec_l9Put.ctr := fn_sound (A := spec_l9Put.ann) tabOk (EnvOk.cons (ctrs_cons spec_DirDrop.ok ctrs_nil) (EnvOk.cons (ctrs_cons spec_DirPut.ok ctrs_nil) EnvOk.nil)) mixed (fn := Tryz.f100) (body := bodyOf Tryz.f100) Tryz.func100 (by kernel_rfl) (by kernel_rfl) (fun x => by kernel_rfl)
def spec_Regroup.sig : Sig := ⟨[.val (.pair (.sl false tyE) (.pair tyI tyI)), .val (.sl false (.pair tyI (.pair tyI (.pair tyI tyR))))], [.val (.pair (.sl true tyE) (.pair tyI tyI))]⟩
def spec_Regroup.ctr : Ctr := ⟨spec_Regroup.sig, fun x => spec_Regroup.f x.1 x.2⟩
def spec_Regroup.env : Env := [(97, [spec_l9Of.ctr]), (98, [spec_l9Fits.ctr]), (99, [spec_l9Kept.ctr]), (100, [spec_l9Put.ctr])]
def spec_Regroup.ann : Ann := ⟨[(3, ([(1, .val (.sl false (.pair tyI (.pair tyI (.pair tyI tyR))))), (4, .ptr (.pair (.sl true tyE) (.pair tyI tyI))), (5, .ptr (.pair (.sl true tyE) (.pair tyI tyI))), (6, .val tyI), (8, .val (.sl true (.pair tyI (.pair tyI (.pair tyI tyR))))), (9, .val tyI)], [(.exit 3, [(1, .val (.sl false (.pair tyI (.pair tyI (.pair tyI tyR))))), (4, .ptr (.pair (.sl true tyE) (.pair tyI tyI))), (5, .ptr (.pair (.sl true tyE) (.pair tyI tyI))), (6, .val tyI)])])), (0, ([(1, .val (.sl false (.pair tyI (.pair tyI (.pair tyI tyR))))), (4, .ptr (.pair (.sl true tyE) (.pair tyI tyI))), (5, .ptr (.pair (.sl true tyE) (.pair tyI tyI))), (6, .val tyI)], [(.exit 0, [(1, .val (.sl false (.pair tyI (.pair tyI (.pair tyI tyR))))), (4, .ptr (.pair (.sl true tyE) (.pair tyI tyI))), (5, .ptr (.pair (.sl true tyE) (.pair tyI tyI)))])]))], [(1, [(.normal, [(1, .val (.sl false (.pair tyI (.pair tyI (.pair tyI tyR))))), (4, .ptr (.pair (.sl true tyE) (.pair tyI tyI))), (5, .ptr (.pair (.sl true tyE) (.pair tyI tyI))), (6, .val tyI)])])], [(9, [(.normal, [(1, .val (.sl false (.pair tyI (.pair tyI (.pair tyI tyR))))), (4, .ptr (.pair (.sl true tyE) (.pair tyI tyI))), (5, .ptr (.pair (.sl true tyE) (.pair tyI tyI))), (6, .val tyI), (8, .val (.sl true (.pair tyI (.pair tyI (.pair tyI tyR)))))]), (.exit 1, [(1, .val (.sl false (.pair tyI (.pair tyI (.pair tyI tyR))))), (4, .ptr (.pair (.sl true tyE) (.pair tyI tyI))), (5, .ptr (.pair (.sl true tyE) (.pair tyI tyI))), (6, .val tyI)])]), (20, [(.normal, [(1, .val (.sl false (.pair tyI (.pair tyI (.pair tyI tyR))))), (4, .ptr (.pair (.sl true tyE) (.pair tyI tyI))), (5, .ptr (.pair (.sl true tyE) (.pair tyI tyI))), (6, .val tyI)])])]⟩
theorem spec_Regroup.ok : CtrOk Tryz.prog 48 spec_Regroup.ctr := fn_sound (A := spec_Regroup.ann) tabOk (EnvOk.cons (ctrs_cons spec_l9Of.ok ctrs_nil) (EnvOk.cons (ctrs_cons spec_l9Fits.ok ctrs_nil) (EnvOk.cons (ctrs_cons spec_l9Kept.ok ctrs_nil) (EnvOk.cons (ctrs_cons spec_l9Put.ok ctrs_nil) EnvOk.nil)))) mixed (fn := Tryz.f48) (body := bodyOf Tryz.f48) Tryz.func48 (by kernel_rfl) (by kernel_rfl) (fun x => by kernel_rfl)
def spec_Open.sig : Sig := ⟨[.val tyd], [.val (.pair (.pair tyI (.sl false tyI)) (.pair (.sl true tyE) (.pair tyI (.pair tyI tyI)))), .val tyd, .val tyI]⟩
def spec_Open.ctr : Ctr := ⟨spec_Open.sig, fun x => spec_Open.f x⟩
def spec_Open.env : Env := [(29, [spec_HintName.ctr]), (32, [spec_SegName.ctr]), (36, [spec_DiskOk.ctr]), (37, [spec_l3Copy.ctr]), (38, [spec_FileText.ctr]), (39, [spec_l11First.ctr]), (40, [spec_ReadLive.ctr]), (41, [spec_ScanRecs.ctr]), (42, [spec_Truncate.ctr]), (43, [spec_l11Code.ctr]), (44, [spec_Sync.ctr]), (45, [spec_ReadHint.ctr]), (46, [spec_HintFits.ctr]), (47, [spec_l11Places.ctr]), (48, [spec_Regroup.ctr]), (49, [spec_l11Sweep.ctr])]
def spec_Open.ann : Ann := ⟨[(0, ([(1, .ptr tyd), (2, .ptr tyS), (3, .ptr tyD), (5, .ptr tyS), (8, .ptr (.pair tyI (.sl false tyI))), (9, .val tyI), (10, .val tyI)], [(.exit 0, [(1, .ptr tyd), (2, .ptr tyS), (3, .ptr tyD), (5, .ptr tyS), (8, .ptr (.pair tyI (.sl false tyI))), (9, .val tyI)]), (.ret, [(2, .ptr tyS), (3, .ptr tyD), (4, .val tyI)])])), (2, ([(2, .ptr tyS), (3, .ptr tyD), (5, .ptr tyS), (8, .ptr (.pair tyI (.sl false tyI))), (19, .ptr tyD), (23, .ptr (.pair (.pair tyI (.sl false tyI)) (.pair (.sl true tyE) (.pair tyI (.pair tyI tyI))))), (24, .ptr (.pair (.sl true tyE) (.pair tyI tyI))), (25, .val (.sl true (.pair tyI (.pair tyI (.pair tyI tyR))))), (26, .val tyI)], [(.exit 2, [(2, .ptr tyS), (3, .ptr tyD), (5, .ptr tyS), (8, .ptr (.pair tyI (.sl false tyI))), (19, .ptr tyD), (23, .ptr (.pair (.pair tyI (.sl false tyI)) (.pair (.sl true tyE) (.pair tyI (.pair tyI tyI))))), (24, .ptr (.pair (.sl true tyE) (.pair tyI tyI))), (25, .val (.sl true (.pair tyI (.pair tyI (.pair tyI tyR)))))])]))], [(3, [(.normal, [(2, .ptr tyS), (3, .ptr tyD), (5, .ptr tyS), (8, .ptr (.pair tyI (.sl false tyI))), (19, .ptr tyD), (23, .ptr (.pair (.pair tyI (.sl false tyI)) (.pair (.sl true tyE) (.pair tyI (.pair tyI tyI))))), (24, .ptr (.pair (.sl true tyE) (.pair tyI tyI))), (25, .val (.sl true (.pair tyI (.pair tyI (.pair tyI tyR))))), (26, .val tyI)])])], [(18, [(.normal, [(1, .ptr tyd), (2, .ptr tyS), (3, .ptr tyD), (5, .ptr tyS), (8, .ptr (.pair tyI (.sl false tyI))), (9, .val tyI), (10, .val tyI)]), (.ret, [(2, .ptr tyS), (3, .ptr tyD), (4, .val tyI)])]), (23, [(.normal, [(2, .ptr tyS), (3, .ptr tyD), (5, .ptr tyS), (8, .ptr (.pair tyI (.sl false tyI))), (9, .val tyI), (18, .val tyI), (19, .ptr tyD)]), (.ret, [(2, .ptr tyS), (3, .ptr tyD), (4, .val tyI)])]), (40, [(.normal, [(2, .ptr tyS), (3, .ptr tyD), (5, .ptr tyS), (8, .ptr (.pair tyI (.sl false tyI))), (19, .ptr tyD), (23, .ptr (.pair (.pair tyI (.sl false tyI)) (.pair (.sl true tyE) (.pair tyI (.pair tyI tyI))))), (24, .ptr (.pair (.sl true tyE) (.pair tyI tyI))), (25, .val (.sl true (.pair tyI (.pair tyI (.pair tyI tyR))))), (26, .val tyI), (27, .val .str)]), (.exit 3, [(2, .ptr tyS), (3, .ptr tyD), (5, .ptr tyS), (8, .ptr (.pair tyI (.sl false tyI))), (19, .ptr tyD), (23, .ptr (.pair (.pair tyI (.sl false tyI)) (.pair (.sl true tyE) (.pair tyI (.pair tyI tyI))))), (24, .ptr (.pair (.sl true tyE) (.pair tyI tyI))), (25, .val (.sl true (.pair tyI (.pair tyI (.pair tyI tyR))))), (26, .val tyI)])])]⟩
theorem spec_Open.ok : CtrOk Tryz.prog 8 spec_Open.ctr := fn_sound (A := spec_Open.ann) tabOk (EnvOk.cons (ctrs_cons spec_HintName.ok ctrs_nil) (EnvOk.cons (ctrs_cons spec_SegName.ok ctrs_nil) (EnvOk.cons (ctrs_cons spec_DiskOk.ok ctrs_nil) (EnvOk.cons (ctrs_cons spec_l3Copy.ok ctrs_nil) (EnvOk.cons (ctrs_cons spec_FileText.ok ctrs_nil) (EnvOk.cons (ctrs_cons spec_l11First.ok ctrs_nil) (EnvOk.cons (ctrs_cons spec_ReadLive.ok ctrs_nil) (EnvOk.cons (ctrs_cons spec_ScanRecs.ok ctrs_nil) (EnvOk.cons (ctrs_cons spec_Truncate.ok ctrs_nil) (EnvOk.cons (ctrs_cons spec_l11Code.ok ctrs_nil) (EnvOk.cons (ctrs_cons spec_Sync.ok ctrs_nil) (EnvOk.cons (ctrs_cons spec_ReadHint.ok ctrs_nil) (EnvOk.cons (ctrs_cons spec_HintFits.ok ctrs_nil) (EnvOk.cons (ctrs_cons spec_l11Places.ok ctrs_nil) (EnvOk.cons (ctrs_cons spec_Regroup.ok ctrs_nil) (EnvOk.cons (ctrs_cons spec_l11Sweep.ok ctrs_nil) EnvOk.nil)))))))))))))))) mixed (fn := Tryz.f8) (body := bodyOf Tryz.f8) Tryz.func8 (by kernel_rfl) (by kernel_rfl) (fun x => by kernel_rfl)
def impl_copyDisk.sig : Sig := ⟨[.val tyd], [.val tyD]⟩
def impl_copyDisk.ctr : Ctr := ⟨impl_copyDisk.sig, fun x => impl_copyDisk.f x⟩
def impl_copyDisk.env : Env := []
def impl_copyDisk.ann : Ann := ⟨[], [], []⟩
theorem impl_copyDisk.ok : CtrOk Tryz.prog 51 impl_copyDisk.ctr := fn_sound (A := impl_copyDisk.ann) tabOk EnvOk.nil mixed (fn := Tryz.f51) (body := bodyOf Tryz.f51) Tryz.func51 (by kernel_rfl) (by kernel_rfl) (fun x => by kernel_rfl)
def impl_in.sig : Sig := ⟨[.val tyI, .val tyI, .val tyI], [.val .bool]⟩
def impl_in.ctr : Ctr := ⟨impl_in.sig, fun x => impl_in.f x.1 x.2.1 x.2.2⟩
def impl_in.env : Env := []
def impl_in.ann : Ann := ⟨[], [], []⟩
theorem impl_in.ok : CtrOk Tryz.prog 65 impl_in.ctr := fn_sound (A := impl_in.ann) tabOk EnvOk.nil mixed (fn := Tryz.f65) (body := bodyOf Tryz.f65) Tryz.func65 (by kernel_rfl) (by kernel_rfl) (fun x => by kernel_rfl)
def impl_NameOk.sig : Sig := ⟨[.val .str], [.val .bool]⟩
def impl_NameOk.ctr : Ctr := ⟨impl_NameOk.sig, fun x => impl_NameOk.f x⟩
def impl_NameOk.env : Env := [(65, [impl_in.ctr])]
def impl_NameOk.ann : Ann := ⟨[(0, ([(0, .val .str), (3, .val tyI)], [(.exit 0, [(0, .val .str)]), (.ret, [(2, .val .bool)])]))], [], [(4, [(.normal, [(0, .val .str), (3, .val tyI)]), (.ret, [(2, .val .bool)])])]⟩
theorem impl_NameOk.ok : CtrOk Tryz.prog 104 impl_NameOk.ctr := fn_sound (A := impl_NameOk.ann) tabOk (EnvOk.cons (ctrs_cons impl_in.ok ctrs_nil) EnvOk.nil) mixed (fn := Tryz.f104) (body := bodyOf Tryz.f104) Tryz.func104 (by kernel_rfl) (by kernel_rfl) (fun x => by kernel_rfl)
def impl_DiskOk.sig : Sig := ⟨[.val tyd], [.val .bool]⟩
def impl_DiskOk.ctr : Ctr := ⟨impl_DiskOk.sig, fun x => impl_DiskOk.f x⟩
def impl_DiskOk.env : Env := [(65, [impl_in.ctr]), (104, [impl_NameOk.ctr])]
def impl_DiskOk.ann : Ann := ⟨[(0, ([(1, .ptr tyd), (3, .val tyI), (23, .val (.sl false tyF)), (24, .val tyI), (25, .val tyI)], [(.exit 0, [(1, .ptr tyd), (3, .val tyI)]), (.ret, [(2, .val .bool)])]))], [], [(7, [(.normal, [(1, .ptr tyd), (3, .val tyI), (5, .ptr tyF), (23, .val (.sl false tyF)), (24, .val tyI), (25, .val tyI)]), (.ret, [(2, .val .bool)])])]⟩
theorem impl_DiskOk.ok : CtrOk Tryz.prog 52 impl_DiskOk.ctr := fn_sound (A := impl_DiskOk.ann) tabOk (EnvOk.cons (ctrs_cons impl_in.ok ctrs_nil) (EnvOk.cons (ctrs_cons impl_NameOk.ok ctrs_nil) EnvOk.nil)) mixed (fn := Tryz.f52) (body := bodyOf Tryz.f52) Tryz.func52 (by kernel_rfl) (by kernel_rfl) (fun x => by kernel_rfl)
def impl_fileAt.sig : Sig := ⟨[.val tyd, .val .str], [.val tyI]⟩
def impl_fileAt.ctr : Ctr := ⟨impl_fileAt.sig, fun x => impl_fileAt.f x.1 x.2⟩
def impl_fileAt.env : Env := []
def impl_fileAt.ann : Ann := ⟨[(0, ([(1, .val .str), (8, .val (.sl false tyF)), (9, .val tyI), (10, .val tyI)], [(.exit 0, []), (.ret, [(4, .val tyI)])]))], [], []⟩
theorem impl_fileAt.ok : CtrOk Tryz.prog 105 impl_fileAt.ctr := fn_sound (A := impl_fileAt.ann) tabOk EnvOk.nil mixed (fn := Tryz.f105) (body := bodyOf Tryz.f105) Tryz.func105 (by kernel_rfl) (by kernel_rfl) (fun x => by kernel_rfl)
def impl_FileText.sig : Sig := ⟨[.val tyd, .val .str], [.val .str, .val .bool]⟩
def impl_FileText.ctr : Ctr := ⟨impl_FileText.sig, fun x => impl_FileText.f x.1 x.2⟩
def impl_FileText.env : Env := [(52, [impl_DiskOk.ctr]), (105, [impl_fileAt.ctr])]
def impl_FileText.ann : Ann := ⟨[], [], []⟩
theorem impl_FileText.ok : CtrOk Tryz.prog 53 impl_FileText.ctr := fn_sound (A := impl_FileText.ann) tabOk (EnvOk.cons (ctrs_cons impl_DiskOk.ok ctrs_nil) (EnvOk.cons (ctrs_cons impl_fileAt.ok ctrs_nil) EnvOk.nil)) mixed (fn := Tryz.f53) (body := bodyOf Tryz.f53) Tryz.func53 (by kernel_rfl) (by kernel_rfl) (fun x => by kernel_rfl)
def strconv_Itoa.ctr : Ctr := itoaCtr
theorem strconv_Itoa.ok : CtrOk Tryz.prog 202 strconv_Itoa.ctr := itoa_ok Tryz.func202 (by kernel_rfl) (by kernel_rfl) fun n h0 h1 w hL => (Tryz.strconv_Itoa n h0 h1 w hL.1).mono fun e w' ⟨he, k, os, hw⟩ => ⟨he, hw ▸ below_grow _ w (Nat.le_refl _) k os⟩
def impl_Dec.sig : Sig := ⟨[.val tyI], [.val .str]⟩
def impl_Dec.ctr : Ctr := ⟨impl_Dec.sig, fun x => impl_Dec.f x⟩
def impl_Dec.env : Env := [(202, [strconv_Itoa.ctr])]
def impl_Dec.ann : Ann := ⟨[], [], []⟩
theorem impl_Dec.ok : CtrOk Tryz.prog 174 impl_Dec.ctr := fn_sound (A := impl_Dec.ann) tabOk (EnvOk.cons (ctrs_cons strconv_Itoa.ok ctrs_nil) EnvOk.nil) mixed (fn := Tryz.f174) (body := bodyOf Tryz.f174) Tryz.func174 (by kernel_rfl) (by kernel_rfl) (fun x => by kernel_rfl)
def impl_named.sig : Sig := ⟨[.val .str, .val tyI], [.val .str]⟩
def impl_named.ctr : Ctr := ⟨impl_named.sig, fun x => impl_named.f x.1 x.2⟩
def impl_named.env : Env := [(65, [impl_in.ctr]), (174, [impl_Dec.ctr])]
def impl_named.ann : Ann := ⟨[], [], []⟩
theorem impl_named.ok : CtrOk Tryz.prog 136 impl_named.ctr := fn_sound (A := impl_named.ann) tabOk (EnvOk.cons (ctrs_cons impl_in.ok ctrs_nil) (EnvOk.cons (ctrs_cons impl_Dec.ok ctrs_nil) EnvOk.nil)) mixed (fn := Tryz.f136) (body := bodyOf Tryz.f136) Tryz.func136 (by kernel_rfl) (by kernel_rfl) (fun x => by kernel_rfl)
def impl_SegName.sig : Sig := ⟨[.val tyI], [.val .str]⟩
def impl_SegName.ctr : Ctr := ⟨impl_SegName.sig, fun x => impl_SegName.f x⟩
def impl_SegName.env : Env := [(136, [impl_named.ctr])]
def impl_SegName.ann : Ann := ⟨[], [], []⟩
theorem impl_SegName.ok : CtrOk Tryz.prog 79 impl_SegName.ctr := fn_sound (A := impl_SegName.ann) tabOk (EnvOk.cons (ctrs_cons impl_named.ok ctrs_nil) EnvOk.nil) mixed (fn := Tryz.f79) (body := bodyOf Tryz.f79) Tryz.func79 (by kernel_rfl) (by kernel_rfl) (fun x => by kernel_rfl)
def impl_ReadVar.sig : Sig := ⟨[.val .str], [.val tyI, .val tyI]⟩
def impl_ReadVar.ctr : Ctr := ⟨impl_ReadVar.sig, fun x => impl_ReadVar.f x⟩
def impl_ReadVar.env : Env := []
def impl_ReadVar.ann : Ann := ⟨[(0, ([(0, .val .str), (4, .val tyI), (5, .val tyI)], [(.exit 0, []), (.ret, [(2, .val tyI), (3, .val tyI)])]))], [], [(8, [(.normal, [(4, .val tyI), (5, .val tyI)]), (.ret, [(2, .val tyI), (3, .val tyI)])])]⟩
theorem impl_ReadVar.ok : CtrOk Tryz.prog 180 impl_ReadVar.ctr := fn_sound (A := impl_ReadVar.ann) tabOk EnvOk.nil mixed (fn := Tryz.f180) (body := bodyOf Tryz.f180) Tryz.func180 (by kernel_rfl) (by kernel_rfl) (fun x => by kernel_rfl)
def impl_Var.sig : Sig := ⟨[.val tyI], [.val .str]⟩
def impl_Var.ctr : Ctr := ⟨impl_Var.sig, fun x => impl_Var.f x⟩
def impl_Var.env : Env := [(65, [impl_in.ctr])]
def impl_Var.ann : Ann := ⟨[(0, ([(0, .val tyI), (3, .val (.sl true (.int .u8)))], [(.exit 0, [(0, .val tyI), (3, .val (.sl true (.int .u8)))])]))], [], []⟩
theorem impl_Var.ok : CtrOk Tryz.prog 221 impl_Var.ctr := fn_sound (A := impl_Var.ann) tabOk (EnvOk.cons (ctrs_cons impl_in.ok ctrs_nil) EnvOk.nil) mixed (fn := Tryz.f221) (body := bodyOf Tryz.f221) Tryz.func221 (by kernel_rfl) (by kernel_rfl) (fun x => by kernel_rfl)
def impl_textOf.sig : Sig := ⟨[.val .str], [.val .str]⟩
def impl_textOf.ctr : Ctr := ⟨impl_textOf.sig, fun x => impl_textOf.f x⟩
def impl_textOf.env : Env := [(221, [impl_Var.ctr])]
def impl_textOf.ann : Ann := ⟨[], [], []⟩
theorem impl_textOf.ok : CtrOk Tryz.prog 209 impl_textOf.ctr := fn_sound (A := impl_textOf.ann) tabOk (EnvOk.cons (ctrs_cons impl_Var.ok ctrs_nil) EnvOk.nil) mixed (fn := Tryz.f209) (body := bodyOf Tryz.f209) Tryz.func209 (by kernel_rfl) (by kernel_rfl) (fun x => by kernel_rfl)
def impl_Fixed.sig : Sig := ⟨[.val tyI, .val tyI], [.val .str]⟩
def impl_Fixed.ctr : Ctr := ⟨impl_Fixed.sig, fun x => impl_Fixed.f x.1 x.2⟩
def impl_Fixed.env : Env := [(65, [impl_in.ctr])]
def impl_Fixed.ann : Ann := ⟨[(0, ([(0, .val tyI), (5, .val (.sl true (.int .u8))), (6, .val tyI)], [(.exit 0, [(5, .val (.sl true (.int .u8)))])]))], [], []⟩
theorem impl_Fixed.ok : CtrOk Tryz.prog 210 impl_Fixed.ctr := fn_sound (A := impl_Fixed.ann) tabOk (EnvOk.cons (ctrs_cons impl_in.ok ctrs_nil) EnvOk.nil) mixed (fn := Tryz.f210) (body := bodyOf Tryz.f210) Tryz.func210 (by kernel_rfl) (by kernel_rfl) (fun x => by kernel_rfl)
def impl_Crc.sig : Sig := ⟨[.val .str], [.val tyI]⟩
def impl_Crc.ctr : Ctr := ⟨impl_Crc.sig, fun x => impl_Crc.f x⟩
def impl_Crc.env : Env := []
def impl_Crc.ann : Ann := ⟨[(2, ([(0, .val .str), (3, .val (.int .u32)), (4, .val tyI), (18, .val tyI)], [(.exit 2, [(0, .val .str), (3, .val (.int .u32)), (4, .val tyI)])])), (0, ([(0, .val .str), (3, .val (.int .u32)), (4, .val tyI)], [(.exit 0, [(3, .val (.int .u32))])]))], [], [(10, [(.normal, [(0, .val .str), (3, .val (.int .u32)), (4, .val tyI), (18, .val tyI)])])]⟩
theorem impl_Crc.ok : CtrOk Tryz.prog 211 impl_Crc.ctr := fn_sound (A := impl_Crc.ann) tabOk EnvOk.nil mixed (fn := Tryz.f211) (body := bodyOf Tryz.f211) Tryz.func211 (by kernel_rfl) (by kernel_rfl) (fun x => by kernel_rfl)
def impl_Frame.sig : Sig := ⟨[.val .str], [.val .str]⟩
def impl_Frame.ctr : Ctr := ⟨impl_Frame.sig, fun x => impl_Frame.f x⟩
def impl_Frame.env : Env := [(209, [impl_textOf.ctr]), (210, [impl_Fixed.ctr]), (211, [impl_Crc.ctr])]
def impl_Frame.ann : Ann := ⟨[], [], []⟩
theorem impl_Frame.ok : CtrOk Tryz.prog 181 impl_Frame.ctr := fn_sound (A := impl_Frame.ann) tabOk (EnvOk.cons (ctrs_cons impl_textOf.ok ctrs_nil) (EnvOk.cons (ctrs_cons impl_Fixed.ok ctrs_nil) (EnvOk.cons (ctrs_cons impl_Crc.ok ctrs_nil) EnvOk.nil))) mixed (fn := Tryz.f181) (body := bodyOf Tryz.f181) Tryz.func181 (by kernel_rfl) (by kernel_rfl) (fun x => by kernel_rfl)
def impl_Unframe.sig : Sig := ⟨[.val .str], [.val .str, .val tyI]⟩
def impl_Unframe.ctr : Ctr := ⟨impl_Unframe.sig, fun x => impl_Unframe.f x⟩
def impl_Unframe.env : Env := [(180, [impl_ReadVar.ctr]), (181, [impl_Frame.ctr])]
def impl_Unframe.ann : Ann := ⟨[], [], []⟩
theorem impl_Unframe.ok : CtrOk Tryz.prog 147 impl_Unframe.ctr := fn_sound (A := impl_Unframe.ann) tabOk (EnvOk.cons (ctrs_cons impl_ReadVar.ok ctrs_nil) (EnvOk.cons (ctrs_cons impl_Frame.ok ctrs_nil) EnvOk.nil)) mixed (fn := Tryz.f147) (body := bodyOf Tryz.f147) Tryz.func147 (by kernel_rfl) (by kernel_rfl) (fun x => by kernel_rfl)
def impl_scanner_num.sig : Sig := ⟨[.ptr (.pair .str .bool)], [.val tyI]⟩
def impl_scanner_num.ctr : Ctr := ⟨impl_scanner_num.sig, fun x => impl_scanner_num.f x⟩
def impl_scanner_num.env : Env := [(180, [impl_ReadVar.ctr])]
def impl_scanner_num.ann : Ann := ⟨[], [], []⟩
theorem impl_scanner_num.ok : CtrOk Tryz.prog 148 impl_scanner_num.ctr := fn_sound (A := impl_scanner_num.ann) tabOk (EnvOk.cons (ctrs_cons impl_ReadVar.ok ctrs_nil) EnvOk.nil) mixed (fn := Tryz.f148) (body := bodyOf Tryz.f148) Tryz.func148 (by kernel_rfl) (by kernel_rfl) (fun x => by kernel_rfl)
def impl_LiveOk.sig : Sig := ⟨[.val (.pair tyI (.sl false tyI))], [.val .bool]⟩
def impl_LiveOk.ctr : Ctr := ⟨impl_LiveOk.sig, fun x => impl_LiveOk.f x⟩
def impl_LiveOk.env : Env := [(65, [impl_in.ctr])]
def impl_LiveOk.ann : Ann := ⟨[(0, ([(1, .ptr (.pair tyI (.sl false tyI))), (6, .val (.sl false tyI)), (7, .val tyI), (8, .val tyI)], [(.exit 0, [(1, .ptr (.pair tyI (.sl false tyI)))]), (.ret, [(2, .val .bool)])]))], [], [(4, [(.normal, [(1, .ptr (.pair tyI (.sl false tyI))), (6, .val (.sl false tyI)), (7, .val tyI), (8, .val tyI)]), (.ret, [(2, .val .bool)])])]⟩
theorem impl_LiveOk.ok : CtrOk Tryz.prog 149 impl_LiveOk.ctr := fn_sound (A := impl_LiveOk.ann) tabOk (EnvOk.cons (ctrs_cons impl_in.ok ctrs_nil) EnvOk.nil) mixed (fn := Tryz.f149) (body := bodyOf Tryz.f149) Tryz.func149 (by kernel_rfl) (by kernel_rfl) (fun x => by kernel_rfl)
def impl_ReadLive.sig : Sig := ⟨[.val .str], [.val (.pair tyI (.sl true tyI)), .val .bool]⟩
def impl_ReadLive.ctr : Ctr := ⟨impl_ReadLive.sig, fun x => impl_ReadLive.f x⟩
def impl_ReadLive.env : Env := [(147, [impl_Unframe.ctr]), (148, [impl_scanner_num.ctr]), (149, [impl_LiveOk.ctr])]
def impl_ReadLive.ann : Ann := ⟨[(0, ([(0, .val .str), (2, .ptr (.pair tyI (.sl true tyI))), (5, .val tyI), (6, .ptr (.pair .str .bool)), (7, .ptr (.pair tyI (.sl true tyI))), (8, .val tyI), (9, .val tyI)], [(.exit 0, [(0, .val .str), (2, .ptr (.pair tyI (.sl true tyI))), (5, .val tyI), (6, .ptr (.pair .str .bool)), (7, .ptr (.pair tyI (.sl true tyI)))])]))], [], []⟩
theorem impl_ReadLive.ok : CtrOk Tryz.prog 106 impl_ReadLive.ctr := fn_sound (A := impl_ReadLive.ann) tabOk (EnvOk.cons (ctrs_cons impl_Unframe.ok ctrs_nil) (EnvOk.cons (ctrs_cons impl_scanner_num.ok ctrs_nil) (EnvOk.cons (ctrs_cons impl_LiveOk.ok ctrs_nil) EnvOk.nil))) mixed (fn := Tryz.f106) (body := bodyOf Tryz.f106) Tryz.func106 (by kernel_rfl) (by kernel_rfl) (fun x => by kernel_rfl)
def impl_scanner_bytes.sig : Sig := ⟨[.ptr (.pair .str .bool), .val tyI], [.val .str]⟩
def impl_scanner_bytes.ctr : Ctr := ⟨impl_scanner_bytes.sig, fun x => impl_scanner_bytes.f x.1 x.2⟩
def impl_scanner_bytes.env : Env := []
def impl_scanner_bytes.ann : Ann := ⟨[], [], []⟩
theorem impl_scanner_bytes.ok : CtrOk Tryz.prog 184 impl_scanner_bytes.ctr := fn_sound (A := impl_scanner_bytes.ann) tabOk EnvOk.nil mixed (fn := Tryz.f184) (body := bodyOf Tryz.f184) Tryz.func184 (by kernel_rfl) (by kernel_rfl) (fun x => by kernel_rfl)
def impl_scanner_text.sig : Sig := ⟨[.ptr (.pair .str .bool)], [.val .str]⟩
def impl_scanner_text.ctr : Ctr := ⟨impl_scanner_text.sig, fun x => impl_scanner_text.f x⟩
def impl_scanner_text.env : Env := [(148, [impl_scanner_num.ctr]), (184, [impl_scanner_bytes.ctr])]
def impl_scanner_text.ann : Ann := ⟨[], [], []⟩
theorem impl_scanner_text.ok : CtrOk Tryz.prog 185 impl_scanner_text.ctr := fn_sound (A := impl_scanner_text.ann) tabOk (EnvOk.cons (ctrs_cons impl_scanner_num.ok ctrs_nil) (EnvOk.cons (ctrs_cons impl_scanner_bytes.ok ctrs_nil) EnvOk.nil)) mixed (fn := Tryz.f185) (body := bodyOf Tryz.f185) Tryz.func185 (by kernel_rfl) (by kernel_rfl) (fun x => by kernel_rfl)
def impl_ReadFixed.sig : Sig := ⟨[.val .str, .val tyI], [.val tyI, .val .bool]⟩
def impl_ReadFixed.ctr : Ctr := ⟨impl_ReadFixed.sig, fun x => impl_ReadFixed.f x.1 x.2⟩
def impl_ReadFixed.env : Env := [(65, [impl_in.ctr])]
def impl_ReadFixed.ann : Ann := ⟨[(0, ([(0, .val .str), (6, .val tyI), (17, .val tyI), (18, .val tyI)], [(.exit 0, [(6, .val tyI)])]))], [], []⟩
theorem impl_ReadFixed.ok : CtrOk Tryz.prog 212 impl_ReadFixed.ctr := fn_sound (A := impl_ReadFixed.ann) tabOk (EnvOk.cons (ctrs_cons impl_in.ok ctrs_nil) EnvOk.nil) mixed (fn := Tryz.f212) (body := bodyOf Tryz.f212) Tryz.func212 (by kernel_rfl) (by kernel_rfl) (fun x => by kernel_rfl)
def impl_KeyOk.sig : Sig := ⟨[.val .str], [.val .bool]⟩
def impl_KeyOk.ctr : Ctr := ⟨impl_KeyOk.sig, fun x => impl_KeyOk.f x⟩
def impl_KeyOk.env : Env := [(65, [impl_in.ctr])]
def impl_KeyOk.ann : Ann := ⟨[], [], []⟩
theorem impl_KeyOk.ok : CtrOk Tryz.prog 230 impl_KeyOk.ctr := fn_sound (A := impl_KeyOk.ann) tabOk (EnvOk.cons (ctrs_cons impl_in.ok ctrs_nil) EnvOk.nil) mixed (fn := Tryz.f230) (body := bodyOf Tryz.f230) Tryz.func230 (by kernel_rfl) (by kernel_rfl) (fun x => by kernel_rfl)
def impl_RecOk.sig : Sig := ⟨[.val tyR], [.val .bool]⟩
def impl_RecOk.ctr : Ctr := ⟨impl_RecOk.sig, fun x => impl_RecOk.f x⟩
def impl_RecOk.env : Env := [(65, [impl_in.ctr]), (230, [impl_KeyOk.ctr])]
def impl_RecOk.ann : Ann := ⟨[], [], [(4, [(.normal, [(1, .ptr tyR), (3, .ptr tyR), (4, .val .bool), (5, .val tyI), (12, .val tyI), (13, .val .bool)])])]⟩
theorem impl_RecOk.ok : CtrOk Tryz.prog 213 impl_RecOk.ctr := fn_sound (A := impl_RecOk.ann) tabOk (EnvOk.cons (ctrs_cons impl_in.ok ctrs_nil) (EnvOk.cons (ctrs_cons impl_KeyOk.ok ctrs_nil) EnvOk.nil)) mixed (fn := Tryz.f213) (body := bodyOf Tryz.f213) Tryz.func213 (by kernel_rfl) (by kernel_rfl) (fun x => by kernel_rfl)
def impl_ReadRec.sig : Sig := ⟨[.val .str], [.val tyR, .val .bool]⟩
def impl_ReadRec.ctr : Ctr := ⟨impl_ReadRec.sig, fun x => impl_ReadRec.f x⟩
def impl_ReadRec.env : Env := [(148, [impl_scanner_num.ctr]), (184, [impl_scanner_bytes.ctr]), (185, [impl_scanner_text.ctr]), (212, [impl_ReadFixed.ctr]), (213, [impl_RecOk.ctr])]
def impl_ReadRec.ann : Ann := ⟨[], [(0, [(.normal, [(2, .ptr tyR), (4, .ptr (.pair .str .bool)), (5, .ptr tyR)])])], [(8, [(.normal, [(2, .ptr tyR), (4, .ptr (.pair .str .bool)), (5, .ptr tyR), (16, .val tyI), (27, .val .bool)])]), (12, [(.normal, [(2, .ptr tyR), (4, .ptr (.pair .str .bool)), (5, .ptr tyR)])])]⟩
theorem impl_ReadRec.ok : CtrOk Tryz.prog 182 impl_ReadRec.ctr := fn_sound (A := impl_ReadRec.ann) tabOk (EnvOk.cons (ctrs_cons impl_scanner_num.ok ctrs_nil) (EnvOk.cons (ctrs_cons impl_scanner_bytes.ok ctrs_nil) (EnvOk.cons (ctrs_cons impl_scanner_text.ok ctrs_nil) (EnvOk.cons (ctrs_cons impl_ReadFixed.ok ctrs_nil) (EnvOk.cons (ctrs_cons impl_RecOk.ok ctrs_nil) EnvOk.nil))))) mixed (fn := Tryz.f182) (body := bodyOf Tryz.f182) Tryz.func182 (by kernel_rfl) (by kernel_rfl) (fun x => by kernel_rfl)
def impl_ScanRecs.sig : Sig := ⟨[.val .str], [.val (.sl false (.pair tyI (.pair tyI tyR))), .val tyI]⟩
def impl_ScanRecs.ctr : Ctr := ⟨impl_ScanRecs.sig, fun x => impl_ScanRecs.f x⟩
def impl_ScanRecs.env : Env := [(147, [impl_Unframe.ctr]), (182, [impl_ReadRec.ctr])]
def impl_ScanRecs.ann : Ann := ⟨[(0, ([(0, .val .str), (4, .val (.sl true (.pair tyI (.pair tyI tyR)))), (5, .val tyI)], [(.ret, [(2, .val (.sl true (.pair tyI (.pair tyI tyR)))), (3, .val tyI)])]))], [], []⟩
theorem impl_ScanRecs.ok : CtrOk Tryz.prog 150 impl_ScanRecs.ctr := fn_sound (A := impl_ScanRecs.ann) tabOk (EnvOk.cons (ctrs_cons impl_Unframe.ok ctrs_nil) (EnvOk.cons (ctrs_cons impl_ReadRec.ok ctrs_nil) EnvOk.nil)) mixed (fn := Tryz.f150) (body := bodyOf Tryz.f150) Tryz.func150 (by kernel_rfl) (by kernel_rfl) (fun x => by kernel_rfl)
def impl_placed.sig : Sig := ⟨[.val tyI, .val (.sl false (.pair tyI (.pair tyI tyR)))], [.val (.sl true (.pair tyI (.pair tyI (.pair tyI tyR))))]⟩
def impl_placed.ctr : Ctr := ⟨impl_placed.sig, fun x => impl_placed.f x.1 x.2⟩
def impl_placed.env : Env := []
def impl_placed.ann : Ann := ⟨[(0, ([(0, .val tyI), (5, .val (.sl true (.pair tyI (.pair tyI (.pair tyI tyR))))), (8, .val (.sl false (.pair tyI (.pair tyI tyR)))), (9, .val tyI), (10, .val tyI)], [(.exit 0, [(5, .val (.sl true (.pair tyI (.pair tyI (.pair tyI tyR)))))])]))], [], []⟩
theorem impl_placed.ok : CtrOk Tryz.prog 151 impl_placed.ctr := fn_sound (A := impl_placed.ann) tabOk EnvOk.nil mixed (fn := Tryz.f151) (body := bodyOf Tryz.f151) Tryz.func151 (by kernel_rfl) (by kernel_rfl) (fun x => by kernel_rfl)
def impl_worker_scanAll.sig : Sig := ⟨[.ptr (.pair tyD tyI), .val (.pair tyI (.sl false tyI))], [.val (.sl true (.sl true (.pair tyI (.pair tyI (.pair tyI tyR))))), .val tyI, .val .bool]⟩
def impl_worker_scanAll.ctr : Ctr := ⟨impl_worker_scanAll.sig, fun x => impl_worker_scanAll.f x.1 x.2⟩
def impl_worker_scanAll.env : Env := [(53, [impl_FileText.ctr]), (79, [impl_SegName.ctr]), (150, [impl_ScanRecs.ctr]), (151, [impl_placed.ctr])]
def impl_worker_scanAll.ann : Ann := ⟨[(0, ([(0, .ptr (.pair tyD tyI)), (3, .ptr (.pair tyI (.sl false tyI))), (7, .val (.sl true (.sl true (.pair tyI (.pair tyI (.pair tyI tyR)))))), (8, .val tyI), (16, .val (.sl false tyI)), (17, .val tyI), (18, .val tyI)], [(.exit 0, [(0, .ptr (.pair tyD tyI)), (7, .val (.sl true (.sl true (.pair tyI (.pair tyI (.pair tyI tyR)))))), (8, .val tyI)]), (.ret, [(0, .ptr (.pair tyD tyI)), (4, .val (.sl true (.sl true (.pair tyI (.pair tyI (.pair tyI tyR)))))), (5, .val tyI), (6, .val .bool)])]))], [], [(8, [(.normal, [(0, .ptr (.pair tyD tyI)), (3, .ptr (.pair tyI (.sl false tyI))), (7, .val (.sl true (.sl true (.pair tyI (.pair tyI (.pair tyI tyR)))))), (10, .val tyI), (13, .val (.sl false (.pair tyI (.pair tyI tyR)))), (14, .val tyI), (16, .val (.sl false tyI)), (17, .val tyI), (18, .val tyI)]), (.ret, [(0, .ptr (.pair tyD tyI)), (4, .val (.sl true (.sl true (.pair tyI (.pair tyI (.pair tyI tyR)))))), (5, .val tyI), (6, .val .bool)])])]⟩
theorem impl_worker_scanAll.ok : CtrOk Tryz.prog 107 impl_worker_scanAll.ctr := fn_sound (A := impl_worker_scanAll.ann) tabOk (EnvOk.cons (ctrs_cons impl_FileText.ok ctrs_nil) (EnvOk.cons (ctrs_cons impl_SegName.ok ctrs_nil) (EnvOk.cons (ctrs_cons impl_ScanRecs.ok ctrs_nil) (EnvOk.cons (ctrs_cons impl_placed.ok ctrs_nil) EnvOk.nil)))) mixed (fn := Tryz.f107) (body := bodyOf Tryz.f107) Tryz.func107 (by kernel_rfl) (by kernel_rfl) (fun x => by kernel_rfl)
def impl_told.sig : Sig := ⟨[.val tyI], [.val tyI]⟩
def impl_told.ctr : Ctr := ⟨impl_told.sig, fun x => impl_told.f x⟩
def impl_told.env : Env := []
def impl_told.ann : Ann := ⟨[], [], []⟩
theorem impl_told.ok : CtrOk Tryz.prog 152 impl_told.ctr := fn_sound (A := impl_told.ann) tabOk EnvOk.nil mixed (fn := Tryz.f152) (body := bodyOf Tryz.f152) Tryz.func152 (by kernel_rfl) (by kernel_rfl) (fun x => by kernel_rfl)
def impl_worker_took_o.sig : Sig := ⟨[.ptr (.pair tyD tyI), .val tyD, .val tyI], []⟩
def impl_worker_took_o.ctr : Ctr := ⟨impl_worker_took_o.sig, fun x => impl_worker_took_o.f x.1 x.2.1 x.2.2⟩
def impl_worker_took_o.env : Env := [(152, [impl_told.ctr])]
def impl_worker_took_o.ann : Ann := ⟨[], [], []⟩
theorem impl_worker_took_o.ok : CtrOk Tryz.prog 108 impl_worker_took_o.ctr := fn_sound (A := impl_worker_took_o.ann) tabOk (EnvOk.cons (ctrs_cons impl_told.ok ctrs_nil) EnvOk.nil) mixed (fn := Tryz.f108) (body := bodyOf Tryz.f108) Tryz.func108 (by kernel_rfl) (by kernel_rfl) (fun x => by kernel_rfl)
def impl_Truncate_1.sig : Sig := ⟨[.ptr tyD, .val (.box none .str), .val (.box none tyI)], [.val tyI]⟩
def impl_Truncate_1.ctr : Ctr := ⟨impl_Truncate_1.sig, fun x => impl_Truncate_1.f x.1 x.2.1 x.2.2⟩
def impl_Truncate_1.env : Env := [(65, [impl_in.ctr]), (105, [impl_fileAt.ctr])]
def impl_Truncate_1.ann : Ann := ⟨[], [], []⟩
theorem impl_Truncate_1.ok : CtrOk Tryz.prog 154 impl_Truncate_1.ctr := fn_sound (A := impl_Truncate_1.ann) tabOk (EnvOk.cons (ctrs_cons impl_in.ok ctrs_nil) (EnvOk.cons (ctrs_cons impl_fileAt.ok ctrs_nil) EnvOk.nil)) mixed (fn := Tryz.f154) (body := bodyOf Tryz.f154) Tryz.func154 (by kernel_rfl) (by kernel_rfl) (fun x => by kernel_rfl)
def impl_step_Truncate_1.sig : Sig := ⟨[.val tyd, .val (.box (some 154) (.pair (.box none .str) (.box none tyI)))], [.val tyD, .val tyI]⟩
def impl_step_Truncate_1.ctr : Ctr := ⟨impl_step_Truncate_1.sig, fun x => impl_step_Truncate_1.f x.1 x.2⟩
def impl_step_Truncate_1.env : Env := [(51, [impl_copyDisk.ctr]), (52, [impl_DiskOk.ctr]), (154, [impl_Truncate_1.ctr])]
def impl_step_Truncate_1.ann : Ann := ⟨[], [], [(7, [(.normal, [(1, .val (.box (some 154) (.pair (.box none .str) (.box none tyI)))), (4, .ptr tyD), (6, .ptr tyD)])])]⟩
theorem impl_step_Truncate_1.ok : CtrOk Tryz.prog 153 impl_step_Truncate_1.ctr := fn_sound (A := impl_step_Truncate_1.ann) tabOk (EnvOk.cons (ctrs_cons impl_copyDisk.ok ctrs_nil) (EnvOk.cons (ctrs_cons impl_DiskOk.ok ctrs_nil) (EnvOk.cons (ctrs_cons impl_Truncate_1.ok ctrs_nil) EnvOk.nil))) mixed (fn := Tryz.f153) (body := bodyOf Tryz.f153) Tryz.func153 (by kernel_rfl) (by kernel_rfl) (fun x => by kernel_rfl)
def impl_Truncate.sig : Sig := ⟨[.val tyd, .val .str, .val tyI], [.val tyD, .val tyI]⟩
def impl_Truncate.ctr : Ctr := ⟨impl_Truncate.sig, fun x => impl_Truncate.f x.1 x.2.1 x.2.2⟩
def impl_Truncate.env : Env := [(153, [impl_step_Truncate_1.ctr])]
def impl_Truncate.ann : Ann := ⟨[], [], []⟩
theorem impl_Truncate.ok : CtrOk Tryz.prog 109 impl_Truncate.ctr := fn_sound (A := impl_Truncate.ann) tabOk (EnvOk.cons (ctrs_cons impl_step_Truncate_1.ok ctrs_nil) EnvOk.nil) mixed (fn := Tryz.f109) (body := bodyOf Tryz.f109) Tryz.func109 (by kernel_rfl) (by kernel_rfl) (fun x => by kernel_rfl)
def impl_Sync_1.sig : Sig := ⟨[.ptr tyD, .val (.box none .str)], [.val tyI]⟩
def impl_Sync_1.ctr : Ctr := ⟨impl_Sync_1.sig, fun x => impl_Sync_1.f x.1 x.2⟩
def impl_Sync_1.env : Env := [(105, [impl_fileAt.ctr])]
def impl_Sync_1.ann : Ann := ⟨[], [], []⟩
theorem impl_Sync_1.ok : CtrOk Tryz.prog 183 impl_Sync_1.ctr := fn_sound (A := impl_Sync_1.ann) tabOk (EnvOk.cons (ctrs_cons impl_fileAt.ok ctrs_nil) EnvOk.nil) mixed (fn := Tryz.f183) (body := bodyOf Tryz.f183) Tryz.func183 (by kernel_rfl) (by kernel_rfl) (fun x => by kernel_rfl)
def impl_step_Sync_1.sig : Sig := ⟨[.val tyd, .val (.box (some 183) (.box none .str))], [.val tyD, .val tyI]⟩
def impl_step_Sync_1.ctr : Ctr := ⟨impl_step_Sync_1.sig, fun x => impl_step_Sync_1.f x.1 x.2⟩
def impl_step_Sync_1.env : Env := [(51, [impl_copyDisk.ctr]), (52, [impl_DiskOk.ctr]), (183, [impl_Sync_1.ctr])]
def impl_step_Sync_1.ann : Ann := ⟨[], [], [(7, [(.normal, [(1, .val (.box (some 183) (.box none .str))), (4, .ptr tyD), (6, .ptr tyD)])])]⟩
theorem impl_step_Sync_1.ok : CtrOk Tryz.prog 153 impl_step_Sync_1.ctr := fn_sound (A := impl_step_Sync_1.ann) tabOk (EnvOk.cons (ctrs_cons impl_copyDisk.ok ctrs_nil) (EnvOk.cons (ctrs_cons impl_DiskOk.ok ctrs_nil) (EnvOk.cons (ctrs_cons impl_Sync_1.ok ctrs_nil) EnvOk.nil))) mixed (fn := Tryz.f153) (body := bodyOf Tryz.f153) Tryz.func153 (by kernel_rfl) (by kernel_rfl) (fun x => by kernel_rfl)
def impl_Sync.sig : Sig := ⟨[.val tyd, .val .str], [.val tyD, .val tyI]⟩
def impl_Sync.ctr : Ctr := ⟨impl_Sync.sig, fun x => impl_Sync.f x.1 x.2⟩
def impl_Sync.env : Env := [(153, [impl_step_Sync_1.ctr])]
def impl_Sync.ann : Ann := ⟨[], [], []⟩
theorem impl_Sync.ok : CtrOk Tryz.prog 155 impl_Sync.ctr := fn_sound (A := impl_Sync.ann) tabOk (EnvOk.cons (ctrs_cons impl_step_Sync_1.ok ctrs_nil) EnvOk.nil) mixed (fn := Tryz.f155) (body := bodyOf Tryz.f155) Tryz.func155 (by kernel_rfl) (by kernel_rfl) (fun x => by kernel_rfl)
def impl_worker_sync.sig : Sig := ⟨[.ptr (.pair tyD tyI), .val .str], []⟩
def impl_worker_sync.ctr : Ctr := ⟨impl_worker_sync.sig, fun x => impl_worker_sync.f x.1 x.2⟩
def impl_worker_sync.env : Env := [(108, [impl_worker_took_o.ctr]), (155, [impl_Sync.ctr])]
def impl_worker_sync.ann : Ann := ⟨[], [], []⟩
theorem impl_worker_sync.ok : CtrOk Tryz.prog 110 impl_worker_sync.ctr := fn_sound (A := impl_worker_sync.ann) tabOk (EnvOk.cons (ctrs_cons impl_worker_took_o.ok ctrs_nil) (EnvOk.cons (ctrs_cons impl_Sync.ok ctrs_nil) EnvOk.nil)) mixed (fn := Tryz.f110) (body := bodyOf Tryz.f110) Tryz.func110 (by kernel_rfl) (by kernel_rfl) (fun x => by kernel_rfl)
def impl_HintName.sig : Sig := ⟨[.val tyI], [.val .str]⟩
def impl_HintName.ctr : Ctr := ⟨impl_HintName.sig, fun x => impl_HintName.f x⟩
def impl_HintName.env : Env := [(136, [impl_named.ctr])]
def impl_HintName.ann : Ann := ⟨[], [], []⟩
theorem impl_HintName.ok : CtrOk Tryz.prog 156 impl_HintName.ctr := fn_sound (A := impl_HintName.ann) tabOk (EnvOk.cons (ctrs_cons impl_named.ok ctrs_nil) EnvOk.nil) mixed (fn := Tryz.f156) (body := bodyOf Tryz.f156) Tryz.func156 (by kernel_rfl) (by kernel_rfl) (fun x => by kernel_rfl)
def impl_DirOk.sig : Sig := ⟨[.val (.sl false tyE)], [.val .bool]⟩
def impl_DirOk.ctr : Ctr := ⟨impl_DirOk.sig, fun x => impl_DirOk.f x⟩
def impl_DirOk.env : Env := [(65, [impl_in.ctr]), (230, [impl_KeyOk.ctr])]
def impl_DirOk.ann : Ann := ⟨[(0, ([(0, .val (.sl false tyE)), (5, .val (.sl false tyE)), (6, .val tyI), (7, .val tyI)], [(.exit 0, [(0, .val (.sl false tyE))]), (.ret, [(2, .val .bool)])]))], [], [(4, [(.normal, [(0, .val (.sl false tyE)), (5, .val (.sl false tyE)), (6, .val tyI), (7, .val tyI)]), (.ret, [(2, .val .bool)])])]⟩
theorem impl_DirOk.ok : CtrOk Tryz.prog 214 impl_DirOk.ctr := fn_sound (A := impl_DirOk.ann) tabOk (EnvOk.cons (ctrs_cons impl_in.ok ctrs_nil) (EnvOk.cons (ctrs_cons impl_KeyOk.ok ctrs_nil) EnvOk.nil)) mixed (fn := Tryz.f214) (body := bodyOf Tryz.f214) Tryz.func214 (by kernel_rfl) (by kernel_rfl) (fun x => by kernel_rfl)
def impl_hintOk.sig : Sig := ⟨[.val (.pair tyI (.pair tyI (.sl false tyE)))], [.val .bool]⟩
def impl_hintOk.ctr : Ctr := ⟨impl_hintOk.sig, fun x => impl_hintOk.f x⟩
def impl_hintOk.env : Env := [(65, [impl_in.ctr]), (214, [impl_DirOk.ctr])]
def impl_hintOk.ann : Ann := ⟨[(0, ([(1, .ptr (.pair tyI (.pair tyI (.sl false tyE)))), (6, .val (.sl false tyE)), (7, .val tyI), (8, .val tyI)], [(.exit 0, [(1, .ptr (.pair tyI (.pair tyI (.sl false tyE))))]), (.ret, [(2, .val .bool)])]))], [], []⟩
theorem impl_hintOk.ok : CtrOk Tryz.prog 186 impl_hintOk.ctr := fn_sound (A := impl_hintOk.ann) tabOk (EnvOk.cons (ctrs_cons impl_in.ok ctrs_nil) (EnvOk.cons (ctrs_cons impl_DirOk.ok ctrs_nil) EnvOk.nil)) mixed (fn := Tryz.f186) (body := bodyOf Tryz.f186) Tryz.func186 (by kernel_rfl) (by kernel_rfl) (fun x => by kernel_rfl)
def impl_vars.sig : Sig := ⟨[.val (.sl false tyI)], [.val .str]⟩
def impl_vars.ctr : Ctr := ⟨impl_vars.sig, fun x => impl_vars.f x⟩
def impl_vars.env : Env := [(221, [impl_Var.ctr])]
def impl_vars.ann : Ann := ⟨[(0, ([(3, .val .str), (6, .val (.sl false tyI)), (7, .val tyI), (8, .val tyI)], [(.exit 0, [(3, .val .str)])]))], [], []⟩
theorem impl_vars.ok : CtrOk Tryz.prog 200 impl_vars.ctr := fn_sound (A := impl_vars.ann) tabOk (EnvOk.cons (ctrs_cons impl_Var.ok ctrs_nil) EnvOk.nil) mixed (fn := Tryz.f200) (body := bodyOf Tryz.f200) Tryz.func200 (by kernel_rfl) (by kernel_rfl) (fun x => by kernel_rfl)
def impl_ShowHint.sig : Sig := ⟨[.val (.pair tyI (.pair tyI (.sl false tyE)))], [.val .str]⟩
def impl_ShowHint.ctr : Ctr := ⟨impl_ShowHint.sig, fun x => impl_ShowHint.f x⟩
def impl_ShowHint.env : Env := [(186, [impl_hintOk.ctr]), (200, [impl_vars.ctr]), (209, [impl_textOf.ctr]), (210, [impl_Fixed.ctr]), (211, [impl_Crc.ctr])]
def impl_ShowHint.ann : Ann := ⟨[(0, ([(3, .val .str), (19, .val (.sl false tyE)), (20, .val tyI), (21, .val tyI)], [(.exit 0, [(3, .val .str)])]))], [], []⟩
theorem impl_ShowHint.ok : CtrOk Tryz.prog 187 impl_ShowHint.ctr := fn_sound (A := impl_ShowHint.ann) tabOk (EnvOk.cons (ctrs_cons impl_hintOk.ok ctrs_nil) (EnvOk.cons (ctrs_cons impl_vars.ok ctrs_nil) (EnvOk.cons (ctrs_cons impl_textOf.ok ctrs_nil) (EnvOk.cons (ctrs_cons impl_Fixed.ok ctrs_nil) (EnvOk.cons (ctrs_cons impl_Crc.ok ctrs_nil) EnvOk.nil))))) mixed (fn := Tryz.f187) (body := bodyOf Tryz.f187) Tryz.func187 (by kernel_rfl) (by kernel_rfl) (fun x => by kernel_rfl)
def impl_ReadHint.sig : Sig := ⟨[.val .str], [.val (.pair tyI (.pair tyI (.sl true tyE))), .val .bool]⟩
def impl_ReadHint.ctr : Ctr := ⟨impl_ReadHint.sig, fun x => impl_ReadHint.f x⟩
def impl_ReadHint.env : Env := [(148, [impl_scanner_num.ctr]), (184, [impl_scanner_bytes.ctr]), (185, [impl_scanner_text.ctr]), (186, [impl_hintOk.ctr]), (187, [impl_ShowHint.ctr])]
def impl_ReadHint.ann : Ann := ⟨[(0, ([(0, .val .str), (2, .ptr (.pair tyI (.pair tyI (.sl true tyE)))), (4, .ptr (.pair .str .bool)), (5, .ptr (.pair tyI (.pair tyI (.sl true tyE)))), (6, .val tyI), (7, .val tyI)], [(.exit 0, [(0, .val .str), (2, .ptr (.pair tyI (.pair tyI (.sl true tyE)))), (4, .ptr (.pair .str .bool)), (5, .ptr (.pair tyI (.pair tyI (.sl true tyE))))])]))], [], []⟩
theorem impl_ReadHint.ok : CtrOk Tryz.prog 157 impl_ReadHint.ctr := fn_sound (A := impl_ReadHint.ann) tabOk (EnvOk.cons (ctrs_cons impl_scanner_num.ok ctrs_nil) (EnvOk.cons (ctrs_cons impl_scanner_bytes.ok ctrs_nil) (EnvOk.cons (ctrs_cons impl_scanner_text.ok ctrs_nil) (EnvOk.cons (ctrs_cons impl_hintOk.ok ctrs_nil) (EnvOk.cons (ctrs_cons impl_ShowHint.ok ctrs_nil) EnvOk.nil))))) mixed (fn := Tryz.f157) (body := bodyOf Tryz.f157) Tryz.func157 (by kernel_rfl) (by kernel_rfl) (fun x => by kernel_rfl)
def impl_ShowRec.sig : Sig := ⟨[.val tyR], [.val .str]⟩
def impl_ShowRec.ctr : Ctr := ⟨impl_ShowRec.sig, fun x => impl_ShowRec.f x⟩
def impl_ShowRec.env : Env := [(200, [impl_vars.ctr]), (209, [impl_textOf.ctr]), (210, [impl_Fixed.ctr]), (213, [impl_RecOk.ctr]), (221, [impl_Var.ctr])]
def impl_ShowRec.ann : Ann := ⟨[], [], [(5, [(.normal, [(1, .ptr tyR), (3, .val .str), (14, .val tyI), (15, .val .bool)])])]⟩
theorem impl_ShowRec.ok : CtrOk Tryz.prog 215 impl_ShowRec.ctr := fn_sound (A := impl_ShowRec.ann) tabOk (EnvOk.cons (ctrs_cons impl_vars.ok ctrs_nil) (EnvOk.cons (ctrs_cons impl_textOf.ok ctrs_nil) (EnvOk.cons (ctrs_cons impl_Fixed.ok ctrs_nil) (EnvOk.cons (ctrs_cons impl_RecOk.ok ctrs_nil) (EnvOk.cons (ctrs_cons impl_Var.ok ctrs_nil) EnvOk.nil))))) mixed (fn := Tryz.f215) (body := bodyOf Tryz.f215) Tryz.func215 (by kernel_rfl) (by kernel_rfl) (fun x => by kernel_rfl)
def impl_SumOf.sig : Sig := ⟨[.val (.sl false tyR)], [.val tyI]⟩
def impl_SumOf.ctr : Ctr := ⟨impl_SumOf.sig, fun x => impl_SumOf.f x⟩
def impl_SumOf.env : Env := [(211, [impl_Crc.ctr]), (215, [impl_ShowRec.ctr])]
def impl_SumOf.ann : Ann := ⟨[(0, ([(3, .val .str), (6, .val (.sl false tyR)), (7, .val tyI), (8, .val tyI)], [(.exit 0, [(3, .val .str)])]))], [], []⟩
theorem impl_SumOf.ok : CtrOk Tryz.prog 190 impl_SumOf.ctr := fn_sound (A := impl_SumOf.ann) tabOk (EnvOk.cons (ctrs_cons impl_Crc.ok ctrs_nil) (EnvOk.cons (ctrs_cons impl_ShowRec.ok ctrs_nil) EnvOk.nil)) mixed (fn := Tryz.f190) (body := bodyOf Tryz.f190) Tryz.func190 (by kernel_rfl) (by kernel_rfl) (fun x => by kernel_rfl)
def impl_fits.sig : Sig := ⟨[.val tyR, .val (.sl false (.pair tyI (.pair tyI (.pair tyI tyR))))], [.val .bool]⟩
def impl_fits.ctr : Ctr := ⟨impl_fits.sig, fun x => impl_fits.f x.1 x.2⟩
def impl_fits.env : Env := [(190, [impl_SumOf.ctr])]
def impl_fits.ann : Ann := ⟨[(0, ([(2, .ptr tyR), (5, .val (.sl true tyR)), (8, .val (.sl false (.pair tyI (.pair tyI (.pair tyI tyR))))), (9, .val tyI), (10, .val tyI)], [(.exit 0, [(2, .ptr tyR), (5, .val (.sl true tyR))])]))], [], []⟩
theorem impl_fits.ok : CtrOk Tryz.prog 161 impl_fits.ctr := fn_sound (A := impl_fits.ann) tabOk (EnvOk.cons (ctrs_cons impl_SumOf.ok ctrs_nil) EnvOk.nil) mixed (fn := Tryz.f161) (body := bodyOf Tryz.f161) Tryz.func161 (by kernel_rfl) (by kernel_rfl) (fun x => by kernel_rfl)
def impl_HintOf.sig : Sig := ⟨[.val tyI, .val .str], [.val (.pair tyI (.pair tyI (.sl true tyE))), .val .bool]⟩
def impl_HintOf.ctr : Ctr := ⟨impl_HintOf.sig, fun x => impl_HintOf.f x.1 x.2⟩
def impl_HintOf.env : Env := [(65, [impl_in.ctr]), (150, [impl_ScanRecs.ctr]), (151, [impl_placed.ctr]), (161, [impl_fits.ctr])]
def impl_HintOf.ann : Ann := ⟨[(0, ([(0, .val tyI), (4, .ptr (.pair tyI (.pair tyI (.sl true tyE)))), (6, .val (.sl false (.pair tyI (.pair tyI tyR)))), (9, .ptr (.pair tyI (.pair tyI (.sl true tyE)))), (67, .val (.sl false (.pair tyI (.pair tyI tyR)))), (68, .val tyI), (69, .val tyI)], [(.exit 0, [(4, .ptr (.pair tyI (.pair tyI (.sl true tyE)))), (9, .ptr (.pair tyI (.pair tyI (.sl true tyE))))]), (.ret, [(4, .ptr (.pair tyI (.pair tyI (.sl true tyE)))), (5, .val .bool)])]))], [], [(9, [(.normal, [(0, .val tyI), (4, .ptr (.pair tyI (.pair tyI (.sl true tyE)))), (6, .val (.sl false (.pair tyI (.pair tyI tyR)))), (9, .ptr (.pair tyI (.pair tyI (.sl true tyE)))), (11, .ptr (.pair tyI (.pair tyI tyR))), (67, .val (.sl false (.pair tyI (.pair tyI tyR)))), (68, .val tyI), (69, .val tyI)]), (.ret, [(4, .ptr (.pair tyI (.pair tyI (.sl true tyE)))), (5, .val .bool)])])]⟩
theorem impl_HintOf.ok : CtrOk Tryz.prog 188 impl_HintOf.ctr := fn_sound (A := impl_HintOf.ann) tabOk (EnvOk.cons (ctrs_cons impl_in.ok ctrs_nil) (EnvOk.cons (ctrs_cons impl_ScanRecs.ok ctrs_nil) (EnvOk.cons (ctrs_cons impl_placed.ok ctrs_nil) (EnvOk.cons (ctrs_cons impl_fits.ok ctrs_nil) EnvOk.nil)))) mixed (fn := Tryz.f188) (body := bodyOf Tryz.f188) Tryz.func188 (by kernel_rfl) (by kernel_rfl) (fun x => by kernel_rfl)
def impl_SameDir.sig : Sig := ⟨[.val (.sl false tyE), .val (.sl false tyE)], [.val .bool]⟩
def impl_SameDir.ctr : Ctr := ⟨impl_SameDir.sig, fun x => impl_SameDir.f x.1 x.2⟩
def impl_SameDir.env : Env := []
def impl_SameDir.ann : Ann := ⟨[(0, ([(0, .val (.sl false tyE)), (1, .val (.sl false tyE)), (12, .val tyI), (13, .val tyI)], [(.exit 0, []), (.ret, [(4, .val .bool)])]))], [], []⟩
theorem impl_SameDir.ok : CtrOk Tryz.prog 189 impl_SameDir.ctr := fn_sound (A := impl_SameDir.ann) tabOk EnvOk.nil mixed (fn := Tryz.f189) (body := bodyOf Tryz.f189) Tryz.func189 (by kernel_rfl) (by kernel_rfl) (fun x => by kernel_rfl)
def impl_HintFits.sig : Sig := ⟨[.val tyI, .val .str, .val (.pair tyI (.pair tyI (.sl false tyE)))], [.val .bool]⟩
def impl_HintFits.ctr : Ctr := ⟨impl_HintFits.sig, fun x => impl_HintFits.f x.1 x.2.1 x.2.2⟩
def impl_HintFits.env : Env := [(188, [impl_HintOf.ctr]), (189, [impl_SameDir.ctr])]
def impl_HintFits.ann : Ann := ⟨[], [], []⟩
theorem impl_HintFits.ok : CtrOk Tryz.prog 158 impl_HintFits.ctr := fn_sound (A := impl_HintFits.ann) tabOk (EnvOk.cons (ctrs_cons impl_HintOf.ok ctrs_nil) (EnvOk.cons (ctrs_cons impl_SameDir.ok ctrs_nil) EnvOk.nil)) mixed (fn := Tryz.f158) (body := bodyOf Tryz.f158) Tryz.func158 (by kernel_rfl) (by kernel_rfl) (fun x => by kernel_rfl)
def impl_worker_hinted.sig : Sig := ⟨[.ptr (.pair tyD tyI), .val tyI], [.val (.pair (.sl true tyE) (.pair tyI tyI)), .val .bool]⟩
def impl_worker_hinted.ctr : Ctr := ⟨impl_worker_hinted.sig, fun x => impl_worker_hinted.f x.1 x.2⟩
def impl_worker_hinted.env : Env := [(53, [impl_FileText.ctr]), (79, [impl_SegName.ctr]), (156, [impl_HintName.ctr]), (157, [impl_ReadHint.ctr]), (158, [impl_HintFits.ctr])]
def impl_worker_hinted.ann : Ann := ⟨[], [], []⟩
theorem impl_worker_hinted.ok : CtrOk Tryz.prog 111 impl_worker_hinted.ctr := fn_sound (A := impl_worker_hinted.ann) tabOk (EnvOk.cons (ctrs_cons impl_FileText.ok ctrs_nil) (EnvOk.cons (ctrs_cons impl_SegName.ok ctrs_nil) (EnvOk.cons (ctrs_cons impl_HintName.ok ctrs_nil) (EnvOk.cons (ctrs_cons impl_ReadHint.ok ctrs_nil) (EnvOk.cons (ctrs_cons impl_HintFits.ok ctrs_nil) EnvOk.nil))))) mixed (fn := Tryz.f111) (body := bodyOf Tryz.f111) Tryz.func111 (by kernel_rfl) (by kernel_rfl) (fun x => by kernel_rfl)
def impl_copyDir.sig : Sig := ⟨[.val (.sl false tyE)], [.val (.sl true tyE)]⟩
def impl_copyDir.ctr : Ctr := ⟨impl_copyDir.sig, fun x => impl_copyDir.f x⟩
def impl_copyDir.env : Env := []
def impl_copyDir.ann : Ann := ⟨[], [], []⟩
theorem impl_copyDir.ok : CtrOk Tryz.prog 159 impl_copyDir.ctr := fn_sound (A := impl_copyDir.ann) tabOk EnvOk.nil mixed (fn := Tryz.f159) (body := bodyOf Tryz.f159) Tryz.func159 (by kernel_rfl) (by kernel_rfl) (fun x => by kernel_rfl)
def impl_ownOf.sig : Sig := ⟨[.val (.sl false (.pair tyI (.pair tyI (.pair tyI tyR)))), .val tyR], [.val (.sl true (.pair tyI (.pair tyI (.pair tyI tyR))))]⟩
def impl_ownOf.ctr : Ctr := ⟨impl_ownOf.sig, fun x => impl_ownOf.f x.1 x.2⟩
def impl_ownOf.env : Env := []
def impl_ownOf.ann : Ann := ⟨[(0, ([(3, .ptr tyR), (5, .val (.sl true (.pair tyI (.pair tyI (.pair tyI tyR))))), (9, .val (.sl false (.pair tyI (.pair tyI (.pair tyI tyR))))), (10, .val tyI), (11, .val tyI)], [(.exit 0, [(5, .val (.sl true (.pair tyI (.pair tyI (.pair tyI tyR)))))])]))], [], [(9, [(.normal, [(3, .ptr tyR), (5, .val (.sl true (.pair tyI (.pair tyI (.pair tyI tyR))))), (7, .ptr (.pair tyI (.pair tyI (.pair tyI tyR)))), (9, .val (.sl false (.pair tyI (.pair tyI (.pair tyI tyR))))), (10, .val tyI), (11, .val tyI), (34, .val .bool)])]), (7, [(.normal, [(3, .ptr tyR), (5, .val (.sl true (.pair tyI (.pair tyI (.pair tyI tyR))))), (9, .val (.sl false (.pair tyI (.pair tyI (.pair tyI tyR))))), (10, .val tyI), (11, .val tyI)])]), (6, [(.normal, [(3, .ptr tyR), (5, .val (.sl true (.pair tyI (.pair tyI (.pair tyI tyR))))), (9, .val (.sl false (.pair tyI (.pair tyI (.pair tyI tyR))))), (10, .val tyI), (11, .val tyI)])])]⟩
theorem impl_ownOf.ok : CtrOk Tryz.prog 160 impl_ownOf.ctr := fn_sound (A := impl_ownOf.ann) tabOk EnvOk.nil mixed (fn := Tryz.f160) (body := bodyOf Tryz.f160) Tryz.func160 (by kernel_rfl) (by kernel_rfl) (fun x => by kernel_rfl)
def impl_DirDrop.sig : Sig := ⟨[.val (.sl false tyE), .val .str], [.val (.sl true tyE)]⟩
def impl_DirDrop.ctr : Ctr := ⟨impl_DirDrop.sig, fun x => impl_DirDrop.f x.1 x.2⟩
def impl_DirDrop.env : Env := []
def impl_DirDrop.ann : Ann := ⟨[(0, ([(1, .val .str), (5, .val (.sl true tyE)), (8, .val (.sl false tyE)), (9, .val tyI), (10, .val tyI)], [(.exit 0, [(5, .val (.sl true tyE))])]))], [], [(5, [(.normal, [(1, .val .str), (5, .val (.sl true tyE)), (8, .val (.sl false tyE)), (9, .val tyI), (10, .val tyI)])])]⟩
theorem impl_DirDrop.ok : CtrOk Tryz.prog 191 impl_DirDrop.ctr := fn_sound (A := impl_DirDrop.ann) tabOk EnvOk.nil mixed (fn := Tryz.f191) (body := bodyOf Tryz.f191) Tryz.func191 (by kernel_rfl) (by kernel_rfl) (fun x => by kernel_rfl)
def impl_DirPut.sig : Sig := ⟨[.val (.sl false tyE), .val tyE], [.val (.sl true tyE)]⟩
def impl_DirPut.ctr : Ctr := ⟨impl_DirPut.sig, fun x => impl_DirPut.f x.1 x.2⟩
def impl_DirPut.env : Env := [(159, [impl_copyDir.ctr]), (191, [impl_DirDrop.ctr])]
def impl_DirPut.ann : Ann := ⟨[(0, ([(3, .ptr tyE), (5, .val (.sl true tyE)), (6, .val tyI)], [(.exit 0, [(3, .ptr tyE), (5, .val (.sl true tyE)), (6, .val tyI)])]))], [], []⟩
theorem impl_DirPut.ok : CtrOk Tryz.prog 192 impl_DirPut.ctr := fn_sound (A := impl_DirPut.ann) tabOk (EnvOk.cons (ctrs_cons impl_copyDir.ok ctrs_nil) (EnvOk.cons (ctrs_cons impl_DirDrop.ok ctrs_nil) EnvOk.nil)) mixed (fn := Tryz.f192) (body := bodyOf Tryz.f192) Tryz.func192 (by kernel_rfl) (by kernel_rfl) (fun x => by kernel_rfl)
def impl_Group_apply.sig : Sig := ⟨[.ptr (.pair (.sl true tyE) (.pair tyI tyI)), .val (.sl false (.pair tyI (.pair tyI (.pair tyI tyR))))], []⟩
def impl_Group_apply.ctr : Ctr := ⟨impl_Group_apply.sig, fun x => impl_Group_apply.f x.1 x.2⟩
def impl_Group_apply.env : Env := [(191, [impl_DirDrop.ctr]), (192, [impl_DirPut.ctr])]
def impl_Group_apply.ann : Ann := ⟨[(0, ([(0, .ptr (.pair (.sl true tyE) (.pair tyI tyI))), (6, .val (.sl false (.pair tyI (.pair tyI (.pair tyI tyR))))), (7, .val tyI), (8, .val tyI)], [(.exit 0, [(0, .ptr (.pair (.sl true tyE) (.pair tyI tyI)))])]))], [], [(3, [(.normal, [(0, .ptr (.pair (.sl true tyE) (.pair tyI tyI))), (6, .val (.sl false (.pair tyI (.pair tyI (.pair tyI tyR))))), (7, .val tyI), (8, .val tyI)])])]⟩
theorem impl_Group_apply.ok : CtrOk Tryz.prog 162 impl_Group_apply.ctr := fn_sound (A := impl_Group_apply.ann) tabOk (EnvOk.cons (ctrs_cons impl_DirDrop.ok ctrs_nil) (EnvOk.cons (ctrs_cons impl_DirPut.ok ctrs_nil) EnvOk.nil)) mixed (fn := Tryz.f162) (body := bodyOf Tryz.f162) Tryz.func162 (by kernel_rfl) (by kernel_rfl) (fun x => by kernel_rfl)
def impl_Regroup.sig : Sig := ⟨[.val (.pair (.sl false tyE) (.pair tyI tyI)), .val (.sl false (.pair tyI (.pair tyI (.pair tyI tyR))))], [.val (.pair (.sl true tyE) (.pair tyI tyI))]⟩
def impl_Regroup.ctr : Ctr := ⟨impl_Regroup.sig, fun x => impl_Regroup.f x.1 x.2⟩
def impl_Regroup.env : Env := [(159, [impl_copyDir.ctr]), (160, [impl_ownOf.ctr]), (161, [impl_fits.ctr]), (162, [impl_Group_apply.ctr])]
def impl_Regroup.ann : Ann := ⟨[(0, ([(1, .val (.sl false (.pair tyI (.pair tyI (.pair tyI tyR))))), (4, .ptr (.pair (.sl true tyE) (.pair tyI tyI))), (5, .ptr (.pair (.sl true tyE) (.pair tyI tyI))), (17, .val (.sl false (.pair tyI (.pair tyI (.pair tyI tyR))))), (18, .val tyI), (19, .val tyI)], [(.exit 0, [(1, .val (.sl false (.pair tyI (.pair tyI (.pair tyI tyR))))), (4, .ptr (.pair (.sl true tyE) (.pair tyI tyI))), (5, .ptr (.pair (.sl true tyE) (.pair tyI tyI)))]), (.ret, [(4, .ptr (.pair (.sl true tyE) (.pair tyI tyI)))])]))], [(1, [(.normal, [(1, .val (.sl false (.pair tyI (.pair tyI (.pair tyI tyR))))), (4, .ptr (.pair (.sl true tyE) (.pair tyI tyI))), (5, .ptr (.pair (.sl true tyE) (.pair tyI tyI))), (17, .val (.sl false (.pair tyI (.pair tyI (.pair tyI tyR))))), (18, .val tyI), (19, .val tyI)]), (.ret, [(4, .ptr (.pair (.sl true tyE) (.pair tyI tyI)))])])], [(8, [(.normal, [(1, .val (.sl false (.pair tyI (.pair tyI (.pair tyI tyR))))), (4, .ptr (.pair (.sl true tyE) (.pair tyI tyI))), (5, .ptr (.pair (.sl true tyE) (.pair tyI tyI))), (6, .val tyI), (7, .ptr (.pair tyI (.pair tyI (.pair tyI tyR)))), (17, .val (.sl false (.pair tyI (.pair tyI (.pair tyI tyR))))), (18, .val tyI), (19, .val tyI)]), (.exit 1, [(1, .val (.sl false (.pair tyI (.pair tyI (.pair tyI tyR))))), (4, .ptr (.pair (.sl true tyE) (.pair tyI tyI))), (5, .ptr (.pair (.sl true tyE) (.pair tyI tyI))), (17, .val (.sl false (.pair tyI (.pair tyI (.pair tyI tyR))))), (18, .val tyI), (19, .val tyI)])]), (12, [(.normal, [(1, .val (.sl false (.pair tyI (.pair tyI (.pair tyI tyR))))), (4, .ptr (.pair (.sl true tyE) (.pair tyI tyI))), (5, .ptr (.pair (.sl true tyE) (.pair tyI tyI))), (17, .val (.sl false (.pair tyI (.pair tyI (.pair tyI tyR))))), (18, .val tyI), (19, .val tyI)])]), (10, [(.normal, [(1, .val (.sl false (.pair tyI (.pair tyI (.pair tyI tyR))))), (4, .ptr (.pair (.sl true tyE) (.pair tyI tyI))), (5, .ptr (.pair (.sl true tyE) (.pair tyI tyI))), (17, .val (.sl false (.pair tyI (.pair tyI (.pair tyI tyR))))), (18, .val tyI), (19, .val tyI)])])]⟩
theorem impl_Regroup.ok : CtrOk Tryz.prog 112 impl_Regroup.ctr := fn_sound (A := impl_Regroup.ann) tabOk (EnvOk.cons (ctrs_cons impl_copyDir.ok ctrs_nil) (EnvOk.cons (ctrs_cons impl_ownOf.ok ctrs_nil) (EnvOk.cons (ctrs_cons impl_fits.ok ctrs_nil) (EnvOk.cons (ctrs_cons impl_Group_apply.ok ctrs_nil) EnvOk.nil)))) mixed (fn := Tryz.f112) (body := bodyOf Tryz.f112) Tryz.func112 (by kernel_rfl) (by kernel_rfl) (fun x => by kernel_rfl)
def stringslite_HasPrefix.sig : Sig := ⟨[.val .str, .val .str], [.val .bool]⟩
def stringslite_HasPrefix.ctr : Ctr := ⟨stringslite_HasPrefix.sig, fun x => stringslite_HasPrefix.f x.1 x.2⟩
def stringslite_HasPrefix.env : Env := []
def stringslite_HasPrefix.ann : Ann := ⟨[], [], []⟩
theorem stringslite_HasPrefix.ok : CtrOk Tryz.prog 238 stringslite_HasPrefix.ctr := fn_sound (A := stringslite_HasPrefix.ann) tabOk EnvOk.nil mixed (fn := Tryz.f238) (body := bodyOf Tryz.f238) Tryz.func238 (by kernel_rfl) (by kernel_rfl) (fun x => by kernel_rfl)
def stringslite_CutPrefix.sig : Sig := ⟨[.val .str, .val .str], [.val .str, .val .bool]⟩
def stringslite_CutPrefix.ctr : Ctr := ⟨stringslite_CutPrefix.sig, fun x => stringslite_CutPrefix.f x.1 x.2⟩
def stringslite_CutPrefix.env : Env := [(238, [stringslite_HasPrefix.ctr])]
def stringslite_CutPrefix.ann : Ann := ⟨[], [], []⟩
theorem stringslite_CutPrefix.ok : CtrOk Tryz.prog 231 stringslite_CutPrefix.ctr := fn_sound (A := stringslite_CutPrefix.ann) tabOk (EnvOk.cons (ctrs_cons stringslite_HasPrefix.ok ctrs_nil) EnvOk.nil) mixed (fn := Tryz.f231) (body := bodyOf Tryz.f231) Tryz.func231 (by kernel_rfl) (by kernel_rfl) (fun x => by kernel_rfl)
def strings_CutPrefix.sig : Sig := ⟨[.val .str, .val .str], [.val .str, .val .bool]⟩
def strings_CutPrefix.ctr : Ctr := ⟨strings_CutPrefix.sig, fun x => strings_CutPrefix.f x.1 x.2⟩
def strings_CutPrefix.env : Env := [(231, [stringslite_CutPrefix.ctr])]
def strings_CutPrefix.ann : Ann := ⟨[], [], []⟩
theorem strings_CutPrefix.ok : CtrOk Tryz.prog 216 strings_CutPrefix.ctr := fn_sound (A := strings_CutPrefix.ann) tabOk (EnvOk.cons (ctrs_cons stringslite_CutPrefix.ok ctrs_nil) EnvOk.nil) mixed (fn := Tryz.f216) (body := bodyOf Tryz.f216) Tryz.func216 (by kernel_rfl) (by kernel_rfl) (fun x => by kernel_rfl)
def strconv_Atoi.ctr : Ctr := atoiCtr
theorem strconv_Atoi.ok : CtrOk Tryz.prog 232 strconv_Atoi.ctr := atoi_ok Tryz.func232 (by kernel_rfl) (by kernel_rfl) (fun s h v hv w _ => Tryz.strconv_Atoi_ok s h v hv w)
 (fun s h hv w hL => by obtain ⟨ev, h1, h2⟩ := hL.2.1; exact (Tryz.strconv_Atoi_syntax s h hv ev w h1 h2).mono fun e w' ⟨N, he, _, _, hB⟩ => ⟨N, he, hB⟩)
 (fun s h hv w hL => by obtain ⟨ev, h1, h2⟩ := hL.2.2; exact (Tryz.strconv_Atoi_range s h hv ev w h1 h2).mono fun e w' ⟨N, he, _, _, hB⟩ => ⟨N, he, hB⟩)
def impl_ReadDec.sig : Sig := ⟨[.val .str], [.val tyI, .val .bool]⟩
def impl_ReadDec.ctr : Ctr := ⟨impl_ReadDec.sig, fun x => impl_ReadDec.f x⟩
def impl_ReadDec.env : Env := [(65, [impl_in.ctr]), (174, [impl_Dec.ctr]), (232, [strconv_Atoi.ctr])]
def impl_ReadDec.ann : Ann := ⟨[], [], []⟩
theorem impl_ReadDec.ok : CtrOk Tryz.prog 217 impl_ReadDec.ctr := fn_sound (A := impl_ReadDec.ann) tabOk (EnvOk.cons (ctrs_cons impl_in.ok ctrs_nil) (EnvOk.cons (ctrs_cons impl_Dec.ok ctrs_nil) (EnvOk.cons (ctrs_cons strconv_Atoi.ok ctrs_nil) EnvOk.nil))) mixed (fn := Tryz.f217) (body := bodyOf Tryz.f217) Tryz.func217 (by kernel_rfl) (by kernel_rfl) (fun x => by kernel_rfl)
def impl_IdOf.sig : Sig := ⟨[.val .str], [.val tyI, .val .bool]⟩
def impl_IdOf.ctr : Ctr := ⟨impl_IdOf.sig, fun x => impl_IdOf.f x⟩
def impl_IdOf.env : Env := [(65, [impl_in.ctr]), (216, [strings_CutPrefix.ctr]), (217, [impl_ReadDec.ctr])]
def impl_IdOf.ann : Ann := ⟨[], [], [(2, [(.normal, [(4, .val .str), (5, .val .bool)])])]⟩
theorem impl_IdOf.ok : CtrOk Tryz.prog 193 impl_IdOf.ctr := fn_sound (A := impl_IdOf.ann) tabOk (EnvOk.cons (ctrs_cons impl_in.ok ctrs_nil) (EnvOk.cons (ctrs_cons strings_CutPrefix.ok ctrs_nil) (EnvOk.cons (ctrs_cons impl_ReadDec.ok ctrs_nil) EnvOk.nil))) mixed (fn := Tryz.f193) (body := bodyOf Tryz.f193) Tryz.func193 (by kernel_rfl) (by kernel_rfl) (fun x => by kernel_rfl)
def impl_hasInt.sig : Sig := ⟨[.val (.sl false tyI), .val tyI], [.val .bool]⟩
def impl_hasInt.ctr : Ctr := ⟨impl_hasInt.sig, fun x => impl_hasInt.f x.1 x.2⟩
def impl_hasInt.env : Env := []
def impl_hasInt.ann : Ann := ⟨[(0, ([(1, .val tyI), (7, .val (.sl false tyI)), (8, .val tyI), (9, .val tyI)], [(.exit 0, []), (.ret, [(4, .val .bool)])]))], [], []⟩
theorem impl_hasInt.ok : CtrOk Tryz.prog 194 impl_hasInt.ctr := fn_sound (A := impl_hasInt.ann) tabOk EnvOk.nil mixed (fn := Tryz.f194) (body := bodyOf Tryz.f194) Tryz.func194 (by kernel_rfl) (by kernel_rfl) (fun x => by kernel_rfl)
def impl_Orphans.sig : Sig := ⟨[.val tyd, .val (.pair tyI (.sl false tyI))], [.val (.sl true .str)]⟩
def impl_Orphans.ctr : Ctr := ⟨impl_Orphans.sig, fun x => impl_Orphans.f x.1 x.2⟩
def impl_Orphans.env : Env := [(52, [impl_DiskOk.ctr]), (193, [impl_IdOf.ctr]), (194, [impl_hasInt.ctr])]
def impl_Orphans.ann : Ann := ⟨[(0, ([(3, .ptr (.pair tyI (.sl false tyI))), (5, .val (.sl true .str)), (14, .val (.sl false tyF)), (15, .val tyI), (16, .val tyI)], [(.exit 0, [(5, .val (.sl true .str))])]))], [], [(8, [(.normal, [(3, .ptr (.pair tyI (.sl false tyI))), (5, .val (.sl true .str)), (14, .val (.sl false tyF)), (15, .val tyI), (16, .val tyI)])])]⟩
theorem impl_Orphans.ok : CtrOk Tryz.prog 163 impl_Orphans.ctr := fn_sound (A := impl_Orphans.ann) tabOk (EnvOk.cons (ctrs_cons impl_DiskOk.ok ctrs_nil) (EnvOk.cons (ctrs_cons impl_IdOf.ok ctrs_nil) (EnvOk.cons (ctrs_cons impl_hasInt.ok ctrs_nil) EnvOk.nil))) mixed (fn := Tryz.f163) (body := bodyOf Tryz.f163) Tryz.func163 (by kernel_rfl) (by kernel_rfl) (fun x => by kernel_rfl)
def impl_Disk_drop.sig : Sig := ⟨[.ptr tyD, .val .str], []⟩
def impl_Disk_drop.ctr : Ctr := ⟨impl_Disk_drop.sig, fun x => impl_Disk_drop.f x.1 x.2⟩
def impl_Disk_drop.env : Env := [(105, [impl_fileAt.ctr])]
def impl_Disk_drop.ann : Ann := ⟨[], [], []⟩
theorem impl_Disk_drop.ok : CtrOk Tryz.prog 219 impl_Disk_drop.ctr := fn_sound (A := impl_Disk_drop.ann) tabOk (EnvOk.cons (ctrs_cons impl_fileAt.ok ctrs_nil) EnvOk.nil) mixed (fn := Tryz.f219) (body := bodyOf Tryz.f219) Tryz.func219 (by kernel_rfl) (by kernel_rfl) (fun x => by kernel_rfl)
def impl_Remove_1.sig : Sig := ⟨[.ptr tyD, .val (.box none .str)], [.val tyI]⟩
def impl_Remove_1.ctr : Ctr := ⟨impl_Remove_1.sig, fun x => impl_Remove_1.f x.1 x.2⟩
def impl_Remove_1.env : Env := [(105, [impl_fileAt.ctr]), (219, [impl_Disk_drop.ctr])]
def impl_Remove_1.ann : Ann := ⟨[], [], []⟩
theorem impl_Remove_1.ok : CtrOk Tryz.prog 218 impl_Remove_1.ctr := fn_sound (A := impl_Remove_1.ann) tabOk (EnvOk.cons (ctrs_cons impl_fileAt.ok ctrs_nil) (EnvOk.cons (ctrs_cons impl_Disk_drop.ok ctrs_nil) EnvOk.nil)) mixed (fn := Tryz.f218) (body := bodyOf Tryz.f218) Tryz.func218 (by kernel_rfl) (by kernel_rfl) (fun x => by kernel_rfl)
def impl_step_Remove_1.sig : Sig := ⟨[.val tyd, .val (.box (some 218) (.box none .str))], [.val tyD, .val tyI]⟩
def impl_step_Remove_1.ctr : Ctr := ⟨impl_step_Remove_1.sig, fun x => impl_step_Remove_1.f x.1 x.2⟩
def impl_step_Remove_1.env : Env := [(51, [impl_copyDisk.ctr]), (52, [impl_DiskOk.ctr]), (218, [impl_Remove_1.ctr])]
def impl_step_Remove_1.ann : Ann := ⟨[], [], [(7, [(.normal, [(1, .val (.box (some 218) (.box none .str))), (4, .ptr tyD), (6, .ptr tyD)])])]⟩
theorem impl_step_Remove_1.ok : CtrOk Tryz.prog 153 impl_step_Remove_1.ctr := fn_sound (A := impl_step_Remove_1.ann) tabOk (EnvOk.cons (ctrs_cons impl_copyDisk.ok ctrs_nil) (EnvOk.cons (ctrs_cons impl_DiskOk.ok ctrs_nil) (EnvOk.cons (ctrs_cons impl_Remove_1.ok ctrs_nil) EnvOk.nil))) mixed (fn := Tryz.f153) (body := bodyOf Tryz.f153) Tryz.func153 (by kernel_rfl) (by kernel_rfl) (fun x => by kernel_rfl)
def impl_Remove.sig : Sig := ⟨[.val tyd, .val .str], [.val tyD, .val tyI]⟩
def impl_Remove.ctr : Ctr := ⟨impl_Remove.sig, fun x => impl_Remove.f x.1 x.2⟩
def impl_Remove.env : Env := [(153, [impl_step_Remove_1.ctr])]
def impl_Remove.ann : Ann := ⟨[], [], []⟩
theorem impl_Remove.ok : CtrOk Tryz.prog 195 impl_Remove.ctr := fn_sound (A := impl_Remove.ann) tabOk (EnvOk.cons (ctrs_cons impl_step_Remove_1.ok ctrs_nil) EnvOk.nil) mixed (fn := Tryz.f195) (body := bodyOf Tryz.f195) Tryz.func195 (by kernel_rfl) (by kernel_rfl) (fun x => by kernel_rfl)
def impl_worker_gone.sig : Sig := ⟨[.ptr (.pair tyD tyI), .val .str], []⟩
def impl_worker_gone.ctr : Ctr := ⟨impl_worker_gone.sig, fun x => impl_worker_gone.f x.1 x.2⟩
def impl_worker_gone.env : Env := [(105, [impl_fileAt.ctr]), (108, [impl_worker_took_o.ctr]), (195, [impl_Remove.ctr])]
def impl_worker_gone.ann : Ann := ⟨[], [], []⟩
theorem impl_worker_gone.ok : CtrOk Tryz.prog 164 impl_worker_gone.ctr := fn_sound (A := impl_worker_gone.ann) tabOk (EnvOk.cons (ctrs_cons impl_fileAt.ok ctrs_nil) (EnvOk.cons (ctrs_cons impl_worker_took_o.ok ctrs_nil) (EnvOk.cons (ctrs_cons impl_Remove.ok ctrs_nil) EnvOk.nil))) mixed (fn := Tryz.f164) (body := bodyOf Tryz.f164) Tryz.func164 (by kernel_rfl) (by kernel_rfl) (fun x => by kernel_rfl)
def impl_worker_orphans.sig : Sig := ⟨[.ptr (.pair tyD tyI), .val (.pair tyI (.sl false tyI))], []⟩
def impl_worker_orphans.ctr : Ctr := ⟨impl_worker_orphans.sig, fun x => impl_worker_orphans.f x.1 x.2⟩
def impl_worker_orphans.env : Env := [(163, [impl_Orphans.ctr]), (164, [impl_worker_gone.ctr])]
def impl_worker_orphans.ann : Ann := ⟨[(0, ([(0, .ptr (.pair tyD tyI)), (11, .val (.sl true .str)), (12, .val tyI), (13, .val tyI)], [(.exit 0, [(0, .ptr (.pair tyD tyI))])]))], [], []⟩
theorem impl_worker_orphans.ok : CtrOk Tryz.prog 113 impl_worker_orphans.ctr := fn_sound (A := impl_worker_orphans.ann) tabOk (EnvOk.cons (ctrs_cons impl_Orphans.ok ctrs_nil) (EnvOk.cons (ctrs_cons impl_worker_gone.ok ctrs_nil) EnvOk.nil)) mixed (fn := Tryz.f113) (body := bodyOf Tryz.f113) Tryz.func113 (by kernel_rfl) (by kernel_rfl) (fun x => by kernel_rfl)
def impl_worker_found.sig : Sig := ⟨[.ptr (.pair tyD tyI), .val .str], [.val tyS]⟩
def impl_worker_found.ctr : Ctr := ⟨impl_worker_found.sig, fun x => impl_worker_found.f x.1 x.2⟩
def impl_worker_found.env : Env := [(53, [impl_FileText.ctr]), (79, [impl_SegName.ctr]), (106, [impl_ReadLive.ctr]), (107, [impl_worker_scanAll.ctr]), (108, [impl_worker_took_o.ctr]), (109, [impl_Truncate.ctr]), (110, [impl_worker_sync.ctr]), (111, [impl_worker_hinted.ctr]), (112, [impl_Regroup.ctr]), (113, [impl_worker_orphans.ctr])]
def impl_worker_found.ann : Ann := ⟨[(0, ([(0, .ptr (.pair tyD tyI)), (4, .ptr tyS), (5, .ptw (.pair tyI (.sl true tyI))), (13, .ptr tyS), (14, .ptr (.pair (.sl true tyE) (.pair tyI tyI))), (16, .val (.sl true (.pair tyI (.pair tyI (.pair tyI tyR))))), (103, .val (.sl false (.sl false (.pair tyI (.pair tyI (.pair tyI tyR)))))), (104, .val tyI), (105, .val tyI), (5, .lnk 1 13 1)], [(.exit 0, [(0, .ptr (.pair tyD tyI)), (4, .ptr tyS), (5, .ptw (.pair tyI (.sl true tyI))), (13, .ptr tyS), (14, .ptr (.pair (.sl true tyE) (.pair tyI tyI))), (16, .val (.sl true (.pair tyI (.pair tyI (.pair tyI tyR))))), (5, .lnk 1 13 1)])]))], [], [(8, [(.normal, [(0, .ptr (.pair tyD tyI)), (4, .ptr tyS), (5, .ptr (.pair tyI (.sl true tyI))), (7, .val (.sl true (.sl true (.pair tyI (.pair tyI (.pair tyI tyR)))))), (8, .val tyI), (10, .val .str)])]), (15, [(.normal, [(0, .ptr (.pair tyD tyI)), (4, .ptr tyS), (5, .ptw (.pair tyI (.sl true tyI))), (7, .val (.sl false (.sl false (.pair tyI (.pair tyI (.pair tyI tyR)))))), (13, .ptr tyS), (14, .ptr (.pair (.sl true tyE) (.pair tyI tyI))), (5, .lnk 1 13 1)])])]⟩
theorem impl_worker_found.ok : CtrOk Tryz.prog 54 impl_worker_found.ctr := fn_sound (A := impl_worker_found.ann) tabOk (EnvOk.cons (ctrs_cons impl_FileText.ok ctrs_nil) (EnvOk.cons (ctrs_cons impl_SegName.ok ctrs_nil) (EnvOk.cons (ctrs_cons impl_ReadLive.ok ctrs_nil) (EnvOk.cons (ctrs_cons impl_worker_scanAll.ok ctrs_nil) (EnvOk.cons (ctrs_cons impl_worker_took_o.ok ctrs_nil) (EnvOk.cons (ctrs_cons impl_Truncate.ok ctrs_nil) (EnvOk.cons (ctrs_cons impl_worker_sync.ok ctrs_nil) (EnvOk.cons (ctrs_cons impl_worker_hinted.ok ctrs_nil) (EnvOk.cons (ctrs_cons impl_Regroup.ok ctrs_nil) (EnvOk.cons (ctrs_cons impl_worker_orphans.ok ctrs_nil) EnvOk.nil)))))))))) mixed (fn := Tryz.f54) (body := bodyOf Tryz.f54) Tryz.func54 (by kernel_rfl) (by kernel_rfl) (fun x => by kernel_rfl)
def impl_Disk_put.sig : Sig := ⟨[.ptr tyD, .val tyF], []⟩
def impl_Disk_put.ctr : Ctr := ⟨impl_Disk_put.sig, fun x => impl_Disk_put.f x.1 x.2⟩
def impl_Disk_put.env : Env := []
def impl_Disk_put.ann : Ann := ⟨[(0, ([(0, .ptr tyD), (3, .ptr tyF), (4, .val tyI)], [(.exit 0, [(0, .ptr tyD), (3, .ptr tyF), (4, .val tyI)])]))], [], []⟩
theorem impl_Disk_put.ok : CtrOk Tryz.prog 197 impl_Disk_put.ctr := fn_sound (A := impl_Disk_put.ann) tabOk EnvOk.nil mixed (fn := Tryz.f197) (body := bodyOf Tryz.f197) Tryz.func197 (by kernel_rfl) (by kernel_rfl) (fun x => by kernel_rfl)
def impl_Create_1.sig : Sig := ⟨[.ptr tyD, .val (.box none .str)], [.val tyI]⟩
def impl_Create_1.ctr : Ctr := ⟨impl_Create_1.sig, fun x => impl_Create_1.f x.1 x.2⟩
def impl_Create_1.env : Env := [(104, [impl_NameOk.ctr]), (105, [impl_fileAt.ctr]), (197, [impl_Disk_put.ctr])]
def impl_Create_1.ann : Ann := ⟨[], [], []⟩
theorem impl_Create_1.ok : CtrOk Tryz.prog 196 impl_Create_1.ctr := fn_sound (A := impl_Create_1.ann) tabOk (EnvOk.cons (ctrs_cons impl_NameOk.ok ctrs_nil) (EnvOk.cons (ctrs_cons impl_fileAt.ok ctrs_nil) (EnvOk.cons (ctrs_cons impl_Disk_put.ok ctrs_nil) EnvOk.nil))) mixed (fn := Tryz.f196) (body := bodyOf Tryz.f196) Tryz.func196 (by kernel_rfl) (by kernel_rfl) (fun x => by kernel_rfl)
def impl_step_Create_1.sig : Sig := ⟨[.val tyd, .val (.box (some 196) (.box none .str))], [.val tyD, .val tyI]⟩
def impl_step_Create_1.ctr : Ctr := ⟨impl_step_Create_1.sig, fun x => impl_step_Create_1.f x.1 x.2⟩
def impl_step_Create_1.env : Env := [(51, [impl_copyDisk.ctr]), (52, [impl_DiskOk.ctr]), (196, [impl_Create_1.ctr])]
def impl_step_Create_1.ann : Ann := ⟨[], [], [(7, [(.normal, [(1, .val (.box (some 196) (.box none .str))), (4, .ptr tyD), (6, .ptr tyD)])])]⟩
theorem impl_step_Create_1.ok : CtrOk Tryz.prog 153 impl_step_Create_1.ctr := fn_sound (A := impl_step_Create_1.ann) tabOk (EnvOk.cons (ctrs_cons impl_copyDisk.ok ctrs_nil) (EnvOk.cons (ctrs_cons impl_DiskOk.ok ctrs_nil) (EnvOk.cons (ctrs_cons impl_Create_1.ok ctrs_nil) EnvOk.nil))) mixed (fn := Tryz.f153) (body := bodyOf Tryz.f153) Tryz.func153 (by kernel_rfl) (by kernel_rfl) (fun x => by kernel_rfl)
def impl_Create.sig : Sig := ⟨[.val tyd, .val .str], [.val tyD, .val tyI]⟩
def impl_Create.ctr : Ctr := ⟨impl_Create.sig, fun x => impl_Create.f x.1 x.2⟩
def impl_Create.env : Env := [(153, [impl_step_Create_1.ctr])]
def impl_Create.ann : Ann := ⟨[], [], []⟩
theorem impl_Create.ok : CtrOk Tryz.prog 165 impl_Create.ctr := fn_sound (A := impl_Create.ann) tabOk (EnvOk.cons (ctrs_cons impl_step_Create_1.ok ctrs_nil) EnvOk.nil) mixed (fn := Tryz.f165) (body := bodyOf Tryz.f165) Tryz.func165 (by kernel_rfl) (by kernel_rfl) (fun x => by kernel_rfl)
def impl_worker_create.sig : Sig := ⟨[.ptr (.pair tyD tyI), .val .str], []⟩
def impl_worker_create.ctr : Ctr := ⟨impl_worker_create.sig, fun x => impl_worker_create.f x.1 x.2⟩
def impl_worker_create.env : Env := [(108, [impl_worker_took_o.ctr]), (165, [impl_Create.ctr])]
def impl_worker_create.ann : Ann := ⟨[], [], []⟩
theorem impl_worker_create.ok : CtrOk Tryz.prog 114 impl_worker_create.ctr := fn_sound (A := impl_worker_create.ann) tabOk (EnvOk.cons (ctrs_cons impl_worker_took_o.ok ctrs_nil) (EnvOk.cons (ctrs_cons impl_Create.ok ctrs_nil) EnvOk.nil)) mixed (fn := Tryz.f114) (body := bodyOf Tryz.f114) Tryz.func114 (by kernel_rfl) (by kernel_rfl) (fun x => by kernel_rfl)
def impl_worker_anew.sig : Sig := ⟨[.ptr (.pair tyD tyI), .val .str], []⟩
def impl_worker_anew.ctr : Ctr := ⟨impl_worker_anew.sig, fun x => impl_worker_anew.f x.1 x.2⟩
def impl_worker_anew.env : Env := [(114, [impl_worker_create.ctr]), (164, [impl_worker_gone.ctr])]
def impl_worker_anew.ann : Ann := ⟨[], [], []⟩
theorem impl_worker_anew.ok : CtrOk Tryz.prog 198 impl_worker_anew.ctr := fn_sound (A := impl_worker_anew.ann) tabOk (EnvOk.cons (ctrs_cons impl_worker_create.ok ctrs_nil) (EnvOk.cons (ctrs_cons impl_worker_gone.ok ctrs_nil) EnvOk.nil)) mixed (fn := Tryz.f198) (body := bodyOf Tryz.f198) Tryz.func198 (by kernel_rfl) (by kernel_rfl) (fun x => by kernel_rfl)
def impl_used.sig : Sig := ⟨[.val tyd], [.val tyI]⟩
def impl_used.ctr : Ctr := ⟨impl_used.sig, fun x => impl_used.f x⟩
def impl_used.env : Env := []
def impl_used.ann : Ann := ⟨[(0, ([(3, .val tyI), (7, .val (.sl false tyF)), (8, .val tyI), (9, .val tyI)], [(.exit 0, [(3, .val tyI)])]))], [], []⟩
theorem impl_used.ok : CtrOk Tryz.prog 70 impl_used.ctr := fn_sound (A := impl_used.ann) tabOk EnvOk.nil mixed (fn := Tryz.f70) (body := bodyOf Tryz.f70) Tryz.func70 (by kernel_rfl) (by kernel_rfl) (fun x => by kernel_rfl)
def impl_Append_1.sig : Sig := ⟨[.ptr tyD, .val (.box none .str), .val (.box none .str)], [.val tyI]⟩
def impl_Append_1.ctr : Ctr := ⟨impl_Append_1.sig, fun x => impl_Append_1.f x.1 x.2.1 x.2.2⟩
def impl_Append_1.env : Env := [(70, [impl_used.ctr]), (105, [impl_fileAt.ctr])]
def impl_Append_1.ann : Ann := ⟨[], [], []⟩
theorem impl_Append_1.ok : CtrOk Tryz.prog 233 impl_Append_1.ctr := fn_sound (A := impl_Append_1.ann) tabOk (EnvOk.cons (ctrs_cons impl_used.ok ctrs_nil) (EnvOk.cons (ctrs_cons impl_fileAt.ok ctrs_nil) EnvOk.nil)) mixed (fn := Tryz.f233) (body := bodyOf Tryz.f233) Tryz.func233 (by kernel_rfl) (by kernel_rfl) (fun x => by kernel_rfl)
def impl_step_Append_1.sig : Sig := ⟨[.val tyd, .val (.box (some 233) (.pair (.box none .str) (.box none .str)))], [.val tyD, .val tyI]⟩
def impl_step_Append_1.ctr : Ctr := ⟨impl_step_Append_1.sig, fun x => impl_step_Append_1.f x.1 x.2⟩
def impl_step_Append_1.env : Env := [(51, [impl_copyDisk.ctr]), (52, [impl_DiskOk.ctr]), (233, [impl_Append_1.ctr])]
def impl_step_Append_1.ann : Ann := ⟨[], [], [(7, [(.normal, [(1, .val (.box (some 233) (.pair (.box none .str) (.box none .str)))), (4, .ptr tyD), (6, .ptr tyD)])])]⟩
theorem impl_step_Append_1.ok : CtrOk Tryz.prog 153 impl_step_Append_1.ctr := fn_sound (A := impl_step_Append_1.ann) tabOk (EnvOk.cons (ctrs_cons impl_copyDisk.ok ctrs_nil) (EnvOk.cons (ctrs_cons impl_DiskOk.ok ctrs_nil) (EnvOk.cons (ctrs_cons impl_Append_1.ok ctrs_nil) EnvOk.nil))) mixed (fn := Tryz.f153) (body := bodyOf Tryz.f153) Tryz.func153 (by kernel_rfl) (by kernel_rfl) (fun x => by kernel_rfl)
def impl_Append.sig : Sig := ⟨[.val tyd, .val .str, .val .str], [.val tyD, .val tyI]⟩
def impl_Append.ctr : Ctr := ⟨impl_Append.sig, fun x => impl_Append.f x.1 x.2.1 x.2.2⟩
def impl_Append.env : Env := [(153, [impl_step_Append_1.ctr])]
def impl_Append.ann : Ann := ⟨[], [], []⟩
theorem impl_Append.ok : CtrOk Tryz.prog 220 impl_Append.ctr := fn_sound (A := impl_Append.ann) tabOk (EnvOk.cons (ctrs_cons impl_step_Append_1.ok ctrs_nil) EnvOk.nil) mixed (fn := Tryz.f220) (body := bodyOf Tryz.f220) Tryz.func220 (by kernel_rfl) (by kernel_rfl) (fun x => by kernel_rfl)
def impl_worker_put.sig : Sig := ⟨[.ptr (.pair tyD tyI), .val .str, .val .str], []⟩
def impl_worker_put.ctr : Ctr := ⟨impl_worker_put.sig, fun x => impl_worker_put.f x.1 x.2.1 x.2.2⟩
def impl_worker_put.env : Env := [(108, [impl_worker_took_o.ctr]), (220, [impl_Append.ctr])]
def impl_worker_put.ann : Ann := ⟨[], [], []⟩
theorem impl_worker_put.ok : CtrOk Tryz.prog 199 impl_worker_put.ctr := fn_sound (A := impl_worker_put.ann) tabOk (EnvOk.cons (ctrs_cons impl_worker_took_o.ok ctrs_nil) (EnvOk.cons (ctrs_cons impl_Append.ok ctrs_nil) EnvOk.nil)) mixed (fn := Tryz.f199) (body := bodyOf Tryz.f199) Tryz.func199 (by kernel_rfl) (by kernel_rfl) (fun x => by kernel_rfl)
def impl_worker_fileOf.sig : Sig := ⟨[.ptr (.pair tyD tyI), .val .str, .val .str], []⟩
def impl_worker_fileOf.ctr : Ctr := ⟨impl_worker_fileOf.sig, fun x => impl_worker_fileOf.f x.1 x.2.1 x.2.2⟩
def impl_worker_fileOf.env : Env := [(110, [impl_worker_sync.ctr]), (198, [impl_worker_anew.ctr]), (199, [impl_worker_put.ctr])]
def impl_worker_fileOf.ann : Ann := ⟨[], [], []⟩
theorem impl_worker_fileOf.ok : CtrOk Tryz.prog 166 impl_worker_fileOf.ctr := fn_sound (A := impl_worker_fileOf.ann) tabOk (EnvOk.cons (ctrs_cons impl_worker_sync.ok ctrs_nil) (EnvOk.cons (ctrs_cons impl_worker_anew.ok ctrs_nil) (EnvOk.cons (ctrs_cons impl_worker_put.ok ctrs_nil) EnvOk.nil))) mixed (fn := Tryz.f166) (body := bodyOf Tryz.f166) Tryz.func166 (by kernel_rfl) (by kernel_rfl) (fun x => by kernel_rfl)
def impl_ShowLive.sig : Sig := ⟨[.val (.pair tyI (.sl false tyI))], [.val .str]⟩
def impl_ShowLive.ctr : Ctr := ⟨impl_ShowLive.sig, fun x => impl_ShowLive.f x⟩
def impl_ShowLive.env : Env := [(149, [impl_LiveOk.ctr]), (181, [impl_Frame.ctr]), (200, [impl_vars.ctr])]
def impl_ShowLive.ann : Ann := ⟨[], [], []⟩
theorem impl_ShowLive.ok : CtrOk Tryz.prog 167 impl_ShowLive.ctr := fn_sound (A := impl_ShowLive.ann) tabOk (EnvOk.cons (ctrs_cons impl_LiveOk.ok ctrs_nil) (EnvOk.cons (ctrs_cons impl_Frame.ok ctrs_nil) (EnvOk.cons (ctrs_cons impl_vars.ok ctrs_nil) EnvOk.nil))) mixed (fn := Tryz.f167) (body := bodyOf Tryz.f167) Tryz.func167 (by kernel_rfl) (by kernel_rfl) (fun x => by kernel_rfl)
def impl_Rename_1.sig : Sig := ⟨[.ptr tyD, .val (.box none .str), .val (.box none .str)], [.val tyI]⟩
def impl_Rename_1.ctr : Ctr := ⟨impl_Rename_1.sig, fun x => impl_Rename_1.f x.1 x.2.1 x.2.2⟩
def impl_Rename_1.env : Env := [(104, [impl_NameOk.ctr]), (105, [impl_fileAt.ctr]), (197, [impl_Disk_put.ctr]), (219, [impl_Disk_drop.ctr])]
def impl_Rename_1.ann : Ann := ⟨[], [], []⟩
theorem impl_Rename_1.ok : CtrOk Tryz.prog 222 impl_Rename_1.ctr := fn_sound (A := impl_Rename_1.ann) tabOk (EnvOk.cons (ctrs_cons impl_NameOk.ok ctrs_nil) (EnvOk.cons (ctrs_cons impl_fileAt.ok ctrs_nil) (EnvOk.cons (ctrs_cons impl_Disk_put.ok ctrs_nil) (EnvOk.cons (ctrs_cons impl_Disk_drop.ok ctrs_nil) EnvOk.nil)))) mixed (fn := Tryz.f222) (body := bodyOf Tryz.f222) Tryz.func222 (by kernel_rfl) (by kernel_rfl) (fun x => by kernel_rfl)
def impl_step_Rename_1.sig : Sig := ⟨[.val tyd, .val (.box (some 222) (.pair (.box none .str) (.box none .str)))], [.val tyD, .val tyI]⟩
def impl_step_Rename_1.ctr : Ctr := ⟨impl_step_Rename_1.sig, fun x => impl_step_Rename_1.f x.1 x.2⟩
def impl_step_Rename_1.env : Env := [(51, [impl_copyDisk.ctr]), (52, [impl_DiskOk.ctr]), (222, [impl_Rename_1.ctr])]
def impl_step_Rename_1.ann : Ann := ⟨[], [], [(7, [(.normal, [(1, .val (.box (some 222) (.pair (.box none .str) (.box none .str)))), (4, .ptr tyD), (6, .ptr tyD)])])]⟩
theorem impl_step_Rename_1.ok : CtrOk Tryz.prog 153 impl_step_Rename_1.ctr := fn_sound (A := impl_step_Rename_1.ann) tabOk (EnvOk.cons (ctrs_cons impl_copyDisk.ok ctrs_nil) (EnvOk.cons (ctrs_cons impl_DiskOk.ok ctrs_nil) (EnvOk.cons (ctrs_cons impl_Rename_1.ok ctrs_nil) EnvOk.nil))) mixed (fn := Tryz.f153) (body := bodyOf Tryz.f153) Tryz.func153 (by kernel_rfl) (by kernel_rfl) (fun x => by kernel_rfl)
def impl_Rename.sig : Sig := ⟨[.val tyd, .val .str, .val .str], [.val tyD, .val tyI]⟩
def impl_Rename.ctr : Ctr := ⟨impl_Rename.sig, fun x => impl_Rename.f x.1 x.2.1 x.2.2⟩
def impl_Rename.env : Env := [(153, [impl_step_Rename_1.ctr])]
def impl_Rename.ann : Ann := ⟨[], [], []⟩
theorem impl_Rename.ok : CtrOk Tryz.prog 201 impl_Rename.ctr := fn_sound (A := impl_Rename.ann) tabOk (EnvOk.cons (ctrs_cons impl_step_Rename_1.ok ctrs_nil) EnvOk.nil) mixed (fn := Tryz.f201) (body := bodyOf Tryz.f201) Tryz.func201 (by kernel_rfl) (by kernel_rfl) (fun x => by kernel_rfl)
def impl_worker_rename.sig : Sig := ⟨[.ptr (.pair tyD tyI), .val .str, .val .str], []⟩
def impl_worker_rename.ctr : Ctr := ⟨impl_worker_rename.sig, fun x => impl_worker_rename.f x.1 x.2.1 x.2.2⟩
def impl_worker_rename.env : Env := [(108, [impl_worker_took_o.ctr]), (201, [impl_Rename.ctr])]
def impl_worker_rename.ann : Ann := ⟨[], [], []⟩
theorem impl_worker_rename.ok : CtrOk Tryz.prog 168 impl_worker_rename.ctr := fn_sound (A := impl_worker_rename.ann) tabOk (EnvOk.cons (ctrs_cons impl_worker_took_o.ok ctrs_nil) (EnvOk.cons (ctrs_cons impl_Rename.ok ctrs_nil) EnvOk.nil)) mixed (fn := Tryz.f168) (body := bodyOf Tryz.f168) Tryz.func168 (by kernel_rfl) (by kernel_rfl) (fun x => by kernel_rfl)
def impl_worker_putLive.sig : Sig := ⟨[.ptr (.pair tyD tyI), .val (.pair tyI (.sl false tyI))], []⟩
def impl_worker_putLive.ctr : Ctr := ⟨impl_worker_putLive.sig, fun x => impl_worker_putLive.f x.1 x.2⟩
def impl_worker_putLive.env : Env := [(166, [impl_worker_fileOf.ctr]), (167, [impl_ShowLive.ctr]), (168, [impl_worker_rename.ctr])]
def impl_worker_putLive.ann : Ann := ⟨[], [], []⟩
theorem impl_worker_putLive.ok : CtrOk Tryz.prog 115 impl_worker_putLive.ctr := fn_sound (A := impl_worker_putLive.ann) tabOk (EnvOk.cons (ctrs_cons impl_worker_fileOf.ok ctrs_nil) (EnvOk.cons (ctrs_cons impl_ShowLive.ok ctrs_nil) (EnvOk.cons (ctrs_cons impl_worker_rename.ok ctrs_nil) EnvOk.nil))) mixed (fn := Tryz.f115) (body := bodyOf Tryz.f115) Tryz.func115 (by kernel_rfl) (by kernel_rfl) (fun x => by kernel_rfl)
def impl_worker_first.sig : Sig := ⟨[.ptr (.pair tyD tyI)], [.val tyS]⟩
def impl_worker_first.ctr : Ctr := ⟨impl_worker_first.sig, fun x => impl_worker_first.f x⟩
def impl_worker_first.env : Env := [(79, [impl_SegName.ctr]), (113, [impl_worker_orphans.ctr]), (114, [impl_worker_create.ctr]), (115, [impl_worker_putLive.ctr])]
def impl_worker_first.ann : Ann := ⟨[], [], []⟩
theorem impl_worker_first.ok : CtrOk Tryz.prog 55 impl_worker_first.ctr := fn_sound (A := impl_worker_first.ann) tabOk (EnvOk.cons (ctrs_cons impl_SegName.ok ctrs_nil) (EnvOk.cons (ctrs_cons impl_worker_orphans.ok ctrs_nil) (EnvOk.cons (ctrs_cons impl_worker_create.ok ctrs_nil) (EnvOk.cons (ctrs_cons impl_worker_putLive.ok ctrs_nil) EnvOk.nil)))) mixed (fn := Tryz.f55) (body := bodyOf Tryz.f55) Tryz.func55 (by kernel_rfl) (by kernel_rfl) (fun x => by kernel_rfl)
def impl_Open.sig : Sig := ⟨[.val tyd], [.val tyS, .val tyD, .val tyI]⟩
def impl_Open.ctr : Ctr := ⟨impl_Open.sig, fun x => impl_Open.f x⟩
def impl_Open.env : Env := [(51, [impl_copyDisk.ctr]), (52, [impl_DiskOk.ctr]), (53, [impl_FileText.ctr]), (54, [impl_worker_found.ctr]), (55, [impl_worker_first.ctr])]
def impl_Open.ann : Ann := ⟨[], [], [(8, [(.normal, [(2, .ptr tyS), (3, .ptr tyD), (5, .ptr (.pair tyD tyI)), (6, .ptr tyS)])])]⟩
theorem impl_Open.ok : CtrOk Tryz.prog 10 impl_Open.ctr := fn_sound (A := impl_Open.ann) tabOk (EnvOk.cons (ctrs_cons impl_copyDisk.ok ctrs_nil) (EnvOk.cons (ctrs_cons impl_DiskOk.ok ctrs_nil) (EnvOk.cons (ctrs_cons impl_FileText.ok ctrs_nil) (EnvOk.cons (ctrs_cons impl_worker_found.ok ctrs_nil) (EnvOk.cons (ctrs_cons impl_worker_first.ok ctrs_nil) EnvOk.nil))))) mixed (fn := Tryz.f10) (body := bodyOf Tryz.f10) Tryz.func10 (by kernel_rfl) (by kernel_rfl) (fun x => by kernel_rfl)
def laws_big.sig : Sig := ⟨[.val (.sl false (.int .u8))], [.val .bool]⟩
def laws_big.ctr : Ctr := ⟨laws_big.sig, fun x => laws_big.f x⟩
def laws_big.env : Env := []
def laws_big.ann : Ann := ⟨[], [], []⟩
theorem laws_big.ok : CtrOk Tryz.prog 17 laws_big.ctr := fn_sound (A := laws_big.ann) tabOk EnvOk.nil mixed (fn := Tryz.f17) (body := bodyOf Tryz.f17) Tryz.func17 (by kernel_rfl) (by kernel_rfl) (fun x => by kernel_rfl)
def spec_SameDisk.sig : Sig := ⟨[.val tyd, .val tyd], [.val .bool]⟩
def spec_SameDisk.ctr : Ctr := ⟨spec_SameDisk.sig, fun x => spec_SameDisk.f x.1 x.2⟩
def spec_SameDisk.env : Env := []
def spec_SameDisk.ann : Ann := ⟨[(0, ([(2, .ptr tyd), (3, .ptr tyd), (5, .val tyI)], [(.exit 0, []), (.ret, [(4, .val .bool)])]))], [], []⟩
theorem spec_SameDisk.ok : CtrOk Tryz.prog 23 spec_SameDisk.ctr := fn_sound (A := spec_SameDisk.ann) tabOk EnvOk.nil mixed (fn := Tryz.f23) (body := bodyOf Tryz.f23) Tryz.func23 (by kernel_rfl) (by kernel_rfl) (fun x => by kernel_rfl)
def impl_Used.sig : Sig := ⟨[.val tyd], [.val tyI]⟩
def impl_Used.ctr : Ctr := ⟨impl_Used.sig, fun x => impl_Used.f x⟩
def impl_Used.env : Env := [(52, [impl_DiskOk.ctr]), (70, [impl_used.ctr])]
def impl_Used.ann : Ann := ⟨[], [], []⟩
theorem impl_Used.ok : CtrOk Tryz.prog 24 impl_Used.ctr := fn_sound (A := impl_Used.ann) tabOk (EnvOk.cons (ctrs_cons impl_DiskOk.ok ctrs_nil) (EnvOk.cons (ctrs_cons impl_used.ok ctrs_nil) EnvOk.nil)) mixed (fn := Tryz.f24) (body := bodyOf Tryz.f24) Tryz.func24 (by kernel_rfl) (by kernel_rfl) (fun x => by kernel_rfl)
def spec_l1New.sig : Sig := ⟨[.val (.sl false (.int .u8))], [.ptr (.pair (.sl false (.int .u8)) (.pair tyI tyI))]⟩
def spec_l1New.ctr : Ctr := ⟨spec_l1New.sig, fun x => spec_l1New.f x⟩
def spec_l1New.env : Env := []
def spec_l1New.ann : Ann := ⟨[(0, ([(0, .val (.sl false (.int .u8))), (3, .val tyI), (4, .val tyI)], [(.exit 0, [(0, .val (.sl false (.int .u8))), (3, .val tyI)])]))], [], []⟩
theorem spec_l1New.ok : CtrOk Tryz.prog 74 spec_l1New.ctr := fn_sound (A := spec_l1New.ann) tabOk EnvOk.nil mixed (fn := Tryz.f74) (body := bodyOf Tryz.f74) Tryz.func74 (by kernel_rfl) (by kernel_rfl) (fun x => by kernel_rfl)
def spec_l1Byte.sig : Sig := ⟨[.ptr (.pair (.sl false (.int .u8)) (.pair tyI tyI))], [.val tyI]⟩
def spec_l1Byte.ctr : Ctr := ⟨spec_l1Byte.sig, fun x => spec_l1Byte.f x⟩
def spec_l1Byte.env : Env := []
def spec_l1Byte.ann : Ann := ⟨[], [], []⟩
theorem spec_l1Byte.ok : CtrOk Tryz.prog 125 spec_l1Byte.ctr := fn_sound (A := spec_l1Byte.ann) tabOk EnvOk.nil mixed (fn := Tryz.f125) (body := bodyOf Tryz.f125) Tryz.func125 (by kernel_rfl) (by kernel_rfl) (fun x => by kernel_rfl)
def spec_l1Below.sig : Sig := ⟨[.ptr (.pair (.sl false (.int .u8)) (.pair tyI tyI)), .val tyI], [.val tyI]⟩
def spec_l1Below.ctr : Ctr := ⟨spec_l1Below.sig, fun x => spec_l1Below.f x.1 x.2⟩
def spec_l1Below.env : Env := [(125, [spec_l1Byte.ctr])]
def spec_l1Below.ann : Ann := ⟨[], [], []⟩
theorem spec_l1Below.ok : CtrOk Tryz.prog 75 spec_l1Below.ctr := fn_sound (A := spec_l1Below.ann) tabOk (EnvOk.cons (ctrs_cons spec_l1Byte.ok ctrs_nil) EnvOk.nil) mixed (fn := Tryz.f75) (body := bodyOf Tryz.f75) Tryz.func75 (by kernel_rfl) (by kernel_rfl) (fun x => by kernel_rfl)
def spec_l1PickInt.sig : Sig := ⟨[.ptr (.pair (.sl false (.int .u8)) (.pair tyI tyI)), .val (.sl false tyI)], [.val tyI]⟩
def spec_l1PickInt.ctr : Ctr := ⟨spec_l1PickInt.sig, fun x => spec_l1PickInt.f x.1 x.2⟩
def spec_l1PickInt.env : Env := [(75, [spec_l1Below.ctr])]
def spec_l1PickInt.ann : Ann := ⟨[], [], []⟩
theorem spec_l1PickInt.ok : CtrOk Tryz.prog 77 spec_l1PickInt.ctr := fn_sound (A := spec_l1PickInt.ann) tabOk (EnvOk.cons (ctrs_cons spec_l1Below.ok ctrs_nil) EnvOk.nil) mixed (fn := Tryz.f77) (body := bodyOf Tryz.f77) Tryz.func77 (by kernel_rfl) (by kernel_rfl) (fun x => by kernel_rfl)
def spec_DiskNew.sig : Sig := ⟨[.val tyI], [.val tyD]⟩
def spec_DiskNew.ctr : Ctr := ⟨spec_DiskNew.sig, fun x => spec_DiskNew.f x⟩
def spec_DiskNew.env : Env := [(72, [spec_l1In.ctr])]
def spec_DiskNew.ann : Ann := ⟨[], [], []⟩
theorem spec_DiskNew.ok : CtrOk Tryz.prog 128 spec_DiskNew.ctr := fn_sound (A := spec_DiskNew.ann) tabOk (EnvOk.cons (ctrs_cons spec_l1In.ok ctrs_nil) EnvOk.nil) mixed (fn := Tryz.f128) (body := bodyOf Tryz.f128) Tryz.func128 (by kernel_rfl) (by kernel_rfl) (fun x => by kernel_rfl)
def spec_l1Pick.sig : Sig := ⟨[.ptr (.pair (.sl false (.int .u8)) (.pair tyI tyI)), .val (.sl false .str)], [.val .str]⟩
def spec_l1Pick.ctr : Ctr := ⟨spec_l1Pick.sig, fun x => spec_l1Pick.f x.1 x.2⟩
def spec_l1Pick.env : Env := [(75, [spec_l1Below.ctr])]
def spec_l1Pick.ann : Ann := ⟨[], [], []⟩
theorem spec_l1Pick.ok : CtrOk Tryz.prog 127 spec_l1Pick.ctr := fn_sound (A := spec_l1Pick.ann) tabOk (EnvOk.cons (ctrs_cons spec_l1Below.ok ctrs_nil) EnvOk.nil) mixed (fn := Tryz.f127) (body := bodyOf Tryz.f127) Tryz.func127 (by kernel_rfl) (by kernel_rfl) (fun x => by kernel_rfl)
def spec_l3Name.sig : Sig := ⟨[.ptr (.pair (.sl false (.int .u8)) (.pair tyI tyI))], [.val .str]⟩
def spec_l3Name.ctr : Ctr := ⟨spec_l3Name.sig, fun x => spec_l3Name.f x⟩
def spec_l3Name.env : Env := [(127, [spec_l1Pick.ctr])]
def spec_l3Name.ann : Ann := ⟨[], [], []⟩
theorem spec_l3Name.ok : CtrOk Tryz.prog 169 spec_l3Name.ctr := fn_sound (A := spec_l3Name.ann) tabOk (EnvOk.cons (ctrs_cons spec_l1Pick.ok ctrs_nil) EnvOk.nil) mixed (fn := Tryz.f169) (body := bodyOf Tryz.f169) Tryz.func169 (by kernel_rfl) (by kernel_rfl) (fun x => by kernel_rfl)
def spec_l1Text.sig : Sig := ⟨[.ptr (.pair (.sl false (.int .u8)) (.pair tyI tyI)), .val tyI], [.val .str]⟩
def spec_l1Text.ctr : Ctr := ⟨spec_l1Text.sig, fun x => spec_l1Text.f x.1 x.2⟩
def spec_l1Text.env : Env := [(75, [spec_l1Below.ctr]), (125, [spec_l1Byte.ctr])]
def spec_l1Text.ann : Ann := ⟨[(0, ([(0, .ptr (.pair (.sl false (.int .u8)) (.pair tyI tyI))), (5, .val (.sl true (.int .u8))), (6, .val tyI), (7, .val tyI)], [(.exit 0, [(0, .ptr (.pair (.sl false (.int .u8)) (.pair tyI tyI))), (5, .val (.sl true (.int .u8)))])]))], [], [(7, [(.normal, [(0, .ptr (.pair (.sl false (.int .u8)) (.pair tyI tyI))), (5, .val (.sl true (.int .u8))), (6, .val tyI), (7, .val tyI), (8, .val tyI)])]), (9, [(.normal, [(0, .ptr (.pair (.sl false (.int .u8)) (.pair tyI tyI))), (5, .val (.sl true (.int .u8))), (6, .val tyI), (7, .val tyI), (8, .val tyI)])])]⟩
theorem spec_l1Text.ok : CtrOk Tryz.prog 170 spec_l1Text.ctr := fn_sound (A := spec_l1Text.ann) tabOk (EnvOk.cons (ctrs_cons spec_l1Below.ok ctrs_nil) (EnvOk.cons (ctrs_cons spec_l1Byte.ok ctrs_nil) EnvOk.nil)) mixed (fn := Tryz.f170) (body := bodyOf Tryz.f170) Tryz.func170 (by kernel_rfl) (by kernel_rfl) (fun x => by kernel_rfl)
def spec_l3Disk.sig : Sig := ⟨[.ptr (.pair (.sl false (.int .u8)) (.pair tyI tyI))], [.val tyD]⟩
def spec_l3Disk.ctr : Ctr := ⟨spec_l3Disk.sig, fun x => spec_l3Disk.f x⟩
def spec_l3Disk.env : Env := [(33, [spec_Create.ctr]), (34, [spec_Append.ctr]), (44, [spec_Sync.ctr]), (75, [spec_l1Below.ctr]), (128, [spec_DiskNew.ctr]), (140, [spec_Rename.ctr]), (169, [spec_l3Name.ctr]), (170, [spec_l1Text.ctr])]
def spec_l3Disk.ann : Ann := ⟨[(0, ([(0, .ptr (.pair (.sl false (.int .u8)) (.pair tyI tyI))), (2, .ptr tyD), (3, .ptr tyD), (4, .val tyI)], [(.exit 0, [(0, .ptr (.pair (.sl false (.int .u8)) (.pair tyI tyI))), (2, .ptr tyD), (3, .ptr tyD)])]))], [(2, [(.normal, [(0, .ptr (.pair (.sl false (.int .u8)) (.pair tyI tyI))), (2, .ptr tyD), (3, .ptr tyD), (4, .val tyI), (6, .ptr tyD)])])], [(9, [(.normal, [(0, .ptr (.pair (.sl false (.int .u8)) (.pair tyI tyI))), (2, .ptr tyD), (3, .ptr tyD), (4, .val tyI), (5, .val .str), (6, .ptw tyD), (18, .val tyI), (27, .val .bool), (6, .lnk 0 3 0)])]), (12, [(.normal, [(0, .ptr (.pair (.sl false (.int .u8)) (.pair tyI tyI))), (2, .ptr tyD), (3, .ptr tyD), (4, .val tyI), (5, .val .str), (6, .ptw tyD), (18, .val tyI), (36, .val .bool), (6, .lnk 0 3 0)])]), (15, [(.normal, [(0, .ptr (.pair (.sl false (.int .u8)) (.pair tyI tyI))), (2, .ptr tyD), (3, .ptr tyD), (4, .val tyI), (6, .ptr tyD)])])]⟩
theorem spec_l3Disk.ok : CtrOk Tryz.prog 126 spec_l3Disk.ctr := fn_sound (A := spec_l3Disk.ann) tabOk (EnvOk.cons (ctrs_cons spec_Create.ok ctrs_nil) (EnvOk.cons (ctrs_cons spec_Append.ok ctrs_nil) (EnvOk.cons (ctrs_cons spec_Sync.ok ctrs_nil) (EnvOk.cons (ctrs_cons spec_l1Below.ok ctrs_nil) (EnvOk.cons (ctrs_cons spec_DiskNew.ok ctrs_nil) (EnvOk.cons (ctrs_cons spec_Rename.ok ctrs_nil) (EnvOk.cons (ctrs_cons spec_l3Name.ok ctrs_nil) (EnvOk.cons (ctrs_cons spec_l1Text.ok ctrs_nil) EnvOk.nil)))))))) mixed (fn := Tryz.f126) (body := bodyOf Tryz.f126) Tryz.func126 (by kernel_rfl) (by kernel_rfl) (fun x => by kernel_rfl)
def spec_l3Any.sig : Sig := ⟨[.ptr (.pair (.sl false (.int .u8)) (.pair tyI tyI))], [.val tyD]⟩
def spec_l3Any.ctr : Ctr := ⟨spec_l3Any.sig, fun x => spec_l3Any.f x⟩
def spec_l3Any.env : Env := [(75, [spec_l1Below.ctr]), (77, [spec_l1PickInt.ctr]), (81, [spec_Dec.ctr]), (87, [spec_l3Used.ctr]), (126, [spec_l3Disk.ctr]), (127, [spec_l1Pick.ctr])]
def spec_l3Any.ann : Ann := ⟨[(1, ([(0, .ptr (.pair (.sl false (.int .u8)) (.pair tyI tyI))), (2, .ptr tyD), (3, .ptr tyD), (4, .val tyI)], [(.exit 1, [(0, .ptr (.pair (.sl false (.int .u8)) (.pair tyI tyI))), (2, .ptr tyD), (3, .ptr tyD)])]))], [], []⟩
theorem spec_l3Any.ok : CtrOk Tryz.prog 76 spec_l3Any.ctr := fn_sound (A := spec_l3Any.ann) tabOk (EnvOk.cons (ctrs_cons spec_l1Below.ok ctrs_nil) (EnvOk.cons (ctrs_cons spec_l1PickInt.ok ctrs_nil) (EnvOk.cons (ctrs_cons spec_Dec.ok ctrs_nil) (EnvOk.cons (ctrs_cons spec_l3Used.ok ctrs_nil) (EnvOk.cons (ctrs_cons spec_l3Disk.ok ctrs_nil) (EnvOk.cons (ctrs_cons spec_l1Pick.ok ctrs_nil) EnvOk.nil)))))) mixed (fn := Tryz.f76) (body := bodyOf Tryz.f76) Tryz.func76 (by kernel_rfl) (by kernel_rfl) (fun x => by kernel_rfl)
def spec_l7Live.sig : Sig := ⟨[.ptr (.pair (.sl false (.int .u8)) (.pair tyI tyI))], [.val (.pair tyI (.sl true tyI))]⟩
def spec_l7Live.ctr : Ctr := ⟨spec_l7Live.sig, fun x => spec_l7Live.f x⟩
def spec_l7Live.env : Env := [(75, [spec_l1Below.ctr])]
def spec_l7Live.ann : Ann := ⟨[(0, ([(0, .ptr (.pair (.sl false (.int .u8)) (.pair tyI tyI))), (2, .ptr (.pair tyI (.sl true tyI))), (3, .ptr (.pair tyI (.sl true tyI))), (4, .val tyI), (5, .val tyI)], [(.exit 0, [(0, .ptr (.pair (.sl false (.int .u8)) (.pair tyI tyI))), (2, .ptr (.pair tyI (.sl true tyI))), (3, .ptr (.pair tyI (.sl true tyI))), (4, .val tyI)])]))], [], []⟩
theorem spec_l7Live.ok : CtrOk Tryz.prog 129 spec_l7Live.ctr := fn_sound (A := spec_l7Live.ann) tabOk (EnvOk.cons (ctrs_cons spec_l1Below.ok ctrs_nil) EnvOk.nil) mixed (fn := Tryz.f129) (body := bodyOf Tryz.f129) Tryz.func129 (by kernel_rfl) (by kernel_rfl) (fun x => by kernel_rfl)
def spec_l1Once.sig : Sig := ⟨[.ptr (.pair (.sl false (.int .u8)) (.pair tyI tyI)), .val tyI], [.val .bool]⟩
def spec_l1Once.ctr : Ctr := ⟨spec_l1Once.sig, fun x => spec_l1Once.f x.1 x.2⟩
def spec_l1Once.env : Env := [(75, [spec_l1Below.ctr])]
def spec_l1Once.ann : Ann := ⟨[], [], []⟩
theorem spec_l1Once.ok : CtrOk Tryz.prog 131 spec_l1Once.ctr := fn_sound (A := spec_l1Once.ann) tabOk (EnvOk.cons (ctrs_cons spec_l1Below.ok ctrs_nil) EnvOk.nil) mixed (fn := Tryz.f131) (body := bodyOf Tryz.f131) Tryz.func131 (by kernel_rfl) (by kernel_rfl) (fun x => by kernel_rfl)
def spec_l5Key.sig : Sig := ⟨[.ptr (.pair (.sl false (.int .u8)) (.pair tyI tyI))], [.val .str]⟩
def spec_l5Key.ctr : Ctr := ⟨spec_l5Key.sig, fun x => spec_l5Key.f x⟩
def spec_l5Key.env : Env := [(127, [spec_l1Pick.ctr])]
def spec_l5Key.ann : Ann := ⟨[], [], []⟩
theorem spec_l5Key.ok : CtrOk Tryz.prog 171 spec_l5Key.ctr := fn_sound (A := spec_l5Key.ann) tabOk (EnvOk.cons (ctrs_cons spec_l1Pick.ok ctrs_nil) EnvOk.nil) mixed (fn := Tryz.f171) (body := bodyOf Tryz.f171) Tryz.func171 (by kernel_rfl) (by kernel_rfl) (fun x => by kernel_rfl)
def spec_l9Seal.sig : Sig := ⟨[.val (.sl false tyR), .val tyI, .val tyI], [.val tyR]⟩
def spec_l9Seal.ctr : Ctr := ⟨spec_l9Seal.sig, fun x => spec_l9Seal.f x.1 x.2.1 x.2.2⟩
def spec_l9Seal.env : Env := [(143, [spec_SumOf.ctr])]
def spec_l9Seal.ann : Ann := ⟨[], [], []⟩
theorem spec_l9Seal.ok : CtrOk Tryz.prog 172 spec_l9Seal.ctr := fn_sound (A := spec_l9Seal.ann) tabOk (EnvOk.cons (ctrs_cons spec_SumOf.ok ctrs_nil) EnvOk.nil) mixed (fn := Tryz.f172) (body := bodyOf Tryz.f172) Tryz.func172 (by kernel_rfl) (by kernel_rfl) (fun x => by kernel_rfl)
def spec_l9Places.sig : Sig := ⟨[.ptr (.pair (.sl false (.int .u8)) (.pair tyI tyI))], [.val (.sl true (.pair tyI (.pair tyI (.pair tyI tyR))))]⟩
def spec_l9Places.ctr : Ctr := ⟨spec_l9Places.sig, fun x => spec_l9Places.f x⟩
def spec_l9Places.env : Env := [(75, [spec_l1Below.ctr]), (131, [spec_l1Once.ctr]), (170, [spec_l1Text.ctr]), (171, [spec_l5Key.ctr]), (172, [spec_l9Seal.ctr])]
def spec_l9Places.ann : Ann := ⟨[(0, ([(0, .ptr (.pair (.sl false (.int .u8)) (.pair tyI tyI))), (3, .val (.sl true (.pair tyI (.pair tyI (.pair tyI tyR))))), (4, .val tyI), (5, .val tyI), (6, .val (.sl true tyR)), (7, .val tyI)], [(.exit 0, [(0, .ptr (.pair (.sl false (.int .u8)) (.pair tyI tyI))), (3, .val (.sl true (.pair tyI (.pair tyI (.pair tyI tyR))))), (4, .val tyI), (5, .val tyI), (6, .val (.sl true tyR))])])), (2, ([(0, .ptr (.pair (.sl false (.int .u8)) (.pair tyI tyI))), (3, .val (.sl true (.pair tyI (.pair tyI (.pair tyI tyR))))), (4, .val tyI), (5, .val tyI), (6, .val (.sl true tyR)), (8, .val tyI)], [(.exit 2, [(0, .ptr (.pair (.sl false (.int .u8)) (.pair tyI tyI))), (3, .val (.sl true (.pair tyI (.pair tyI (.pair tyI tyR))))), (4, .val tyI), (5, .val tyI), (6, .val (.sl true tyR))])])), (6, ([(0, .ptr (.pair (.sl false (.int .u8)) (.pair tyI tyI))), (3, .val (.sl true (.pair tyI (.pair tyI (.pair tyI tyR))))), (4, .val tyI), (5, .val tyI), (9, .val tyI), (10, .val (.sl true tyR)), (11, .val tyI)], [(.exit 6, [(0, .ptr (.pair (.sl false (.int .u8)) (.pair tyI tyI))), (3, .val (.sl true (.pair tyI (.pair tyI (.pair tyI tyR))))), (4, .val tyI), (5, .val tyI), (9, .val tyI), (10, .val (.sl true tyR))])])), (8, ([(0, .ptr (.pair (.sl false (.int .u8)) (.pair tyI tyI))), (3, .val (.sl true (.pair tyI (.pair tyI (.pair tyI tyR))))), (4, .val tyI), (5, .val tyI), (9, .val tyI), (10, .val (.sl true tyR)), (13, .val tyI)], [(.exit 8, [(0, .ptr (.pair (.sl false (.int .u8)) (.pair tyI tyI))), (3, .val (.sl true (.pair tyI (.pair tyI (.pair tyI tyR))))), (4, .val tyI), (5, .val tyI), (9, .val tyI), (10, .val (.sl true tyR))])])), (4, ([(0, .ptr (.pair (.sl false (.int .u8)) (.pair tyI tyI))), (3, .val (.sl true (.pair tyI (.pair tyI (.pair tyI tyR))))), (4, .val tyI), (5, .val tyI), (9, .val tyI)], [(.exit 4, [(0, .ptr (.pair (.sl false (.int .u8)) (.pair tyI tyI))), (3, .val (.sl true (.pair tyI (.pair tyI (.pair tyI tyR)))))])]))], [(5, [(.normal, [(0, .ptr (.pair (.sl false (.int .u8)) (.pair tyI tyI))), (3, .val (.sl true (.pair tyI (.pair tyI (.pair tyI tyR))))), (4, .val tyI), (5, .val tyI), (9, .val tyI)])])], [(15, [(.normal, [(0, .ptr (.pair (.sl false (.int .u8)) (.pair tyI tyI))), (3, .val (.sl true (.pair tyI (.pair tyI (.pair tyI tyR))))), (5, .val tyI)])]), (4, [(.normal, [(0, .ptr (.pair (.sl false (.int .u8)) (.pair tyI tyI))), (3, .val (.sl true (.pair tyI (.pair tyI (.pair tyI tyR))))), (4, .val tyI), (5, .val tyI)])]), (27, [(.normal, [(0, .ptr (.pair (.sl false (.int .u8)) (.pair tyI tyI))), (3, .val (.sl true (.pair tyI (.pair tyI (.pair tyI tyR))))), (4, .val tyI), (5, .val tyI), (9, .val tyI), (10, .val (.sl true tyR)), (11, .val tyI), (12, .ptr tyR)])]), (37, [(.normal, [(0, .ptr (.pair (.sl false (.int .u8)) (.pair tyI tyI))), (3, .val (.sl true (.pair tyI (.pair tyI (.pair tyI tyR))))), (4, .val tyI), (5, .val tyI), (9, .val tyI), (14, .ptr tyR)])]), (40, [(.normal, [(0, .ptr (.pair (.sl false (.int .u8)) (.pair tyI tyI))), (3, .val (.sl true (.pair tyI (.pair tyI (.pair tyI tyR))))), (4, .val tyI), (5, .val tyI), (9, .val tyI)])])]⟩
theorem spec_l9Places.ok : CtrOk Tryz.prog 130 spec_l9Places.ctr := fn_sound (A := spec_l9Places.ann) tabOk (EnvOk.cons (ctrs_cons spec_l1Below.ok ctrs_nil) (EnvOk.cons (ctrs_cons spec_l1Once.ok ctrs_nil) (EnvOk.cons (ctrs_cons spec_l1Text.ok ctrs_nil) (EnvOk.cons (ctrs_cons spec_l5Key.ok ctrs_nil) (EnvOk.cons (ctrs_cons spec_l9Seal.ok ctrs_nil) EnvOk.nil))))) mixed (fn := Tryz.f130) (body := bodyOf Tryz.f130) Tryz.func130 (by kernel_rfl) (by kernel_rfl) (fun x => by kernel_rfl)
def spec_l1Spoil.sig : Sig := ⟨[.ptr (.pair (.sl false (.int .u8)) (.pair tyI tyI)), .val .str], [.val .str]⟩
def spec_l1Spoil.ctr : Ctr := ⟨spec_l1Spoil.sig, fun x => spec_l1Spoil.f x.1 x.2⟩
def spec_l1Spoil.env : Env := [(75, [spec_l1Below.ctr]), (125, [spec_l1Byte.ctr]), (170, [spec_l1Text.ctr])]
def spec_l1Spoil.ann : Ann := ⟨[], [], []⟩
theorem spec_l1Spoil.ok : CtrOk Tryz.prog 134 spec_l1Spoil.ctr := fn_sound (A := spec_l1Spoil.ann) tabOk (EnvOk.cons (ctrs_cons spec_l1Below.ok ctrs_nil) (EnvOk.cons (ctrs_cons spec_l1Byte.ok ctrs_nil) (EnvOk.cons (ctrs_cons spec_l1Text.ok ctrs_nil) EnvOk.nil))) mixed (fn := Tryz.f134) (body := bodyOf Tryz.f134) Tryz.func134 (by kernel_rfl) (by kernel_rfl) (fun x => by kernel_rfl)
def spec_l10Merged.sig : Sig := ⟨[.ptr (.pair (.sl false (.int .u8)) (.pair tyI tyI))], [.val .str]⟩
def spec_l10Merged.ctr : Ctr := ⟨spec_l10Merged.sig, fun x => spec_l10Merged.f x⟩
def spec_l10Merged.env : Env := [(68, [spec_Frame.ctr]), (75, [spec_l1Below.ctr]), (131, [spec_l1Once.ctr]), (133, [spec_ShowRec.ctr]), (134, [spec_l1Spoil.ctr]), (170, [spec_l1Text.ctr]), (172, [spec_l9Seal.ctr])]
def spec_l10Merged.ann : Ann := ⟨[(0, ([(0, .ptr (.pair (.sl false (.int .u8)) (.pair tyI tyI))), (3, .val .str), (4, .val (.sl true tyR)), (5, .val (.sl true .str)), (6, .val tyI)], [(.exit 0, [(0, .ptr (.pair (.sl false (.int .u8)) (.pair tyI tyI))), (3, .val .str), (4, .val (.sl true tyR))])]))], [], [(7, [(.normal, [(0, .ptr (.pair (.sl false (.int .u8)) (.pair tyI tyI))), (3, .val .str), (4, .val (.sl true tyR)), (5, .val (.sl true .str)), (6, .val tyI)])]), (12, [(.normal, [(0, .ptr (.pair (.sl false (.int .u8)) (.pair tyI tyI))), (3, .val .str), (8, .ptr tyR)])])]⟩
theorem spec_l10Merged.ok : CtrOk Tryz.prog 132 spec_l10Merged.ctr := fn_sound (A := spec_l10Merged.ann) tabOk (EnvOk.cons (ctrs_cons spec_Frame.ok ctrs_nil) (EnvOk.cons (ctrs_cons spec_l1Below.ok ctrs_nil) (EnvOk.cons (ctrs_cons spec_l1Once.ok ctrs_nil) (EnvOk.cons (ctrs_cons spec_ShowRec.ok ctrs_nil) (EnvOk.cons (ctrs_cons spec_l1Spoil.ok ctrs_nil) (EnvOk.cons (ctrs_cons spec_l1Text.ok ctrs_nil) (EnvOk.cons (ctrs_cons spec_l9Seal.ok ctrs_nil) EnvOk.nil))))))) mixed (fn := Tryz.f132) (body := bodyOf Tryz.f132) Tryz.func132 (by kernel_rfl) (by kernel_rfl) (fun x => by kernel_rfl)
def spec_l11Disk.sig : Sig := ⟨[.ptr (.pair (.sl false (.int .u8)) (.pair tyI tyI))], [.val tyD]⟩
def spec_l11Disk.ctr : Ctr := ⟨spec_l11Disk.sig, fun x => spec_l11Disk.f x⟩
def spec_l11Disk.env : Env := [(20, [spec_ShowLive.ctr]), (29, [spec_HintName.ctr]), (32, [spec_SegName.ctr]), (33, [spec_Create.ctr]), (68, [spec_Frame.ctr]), (75, [spec_l1Below.ctr]), (86, [spec_l3Insert.ctr]), (95, [spec_ShowHint.ctr]), (96, [spec_HintOf.ctr]), (128, [spec_DiskNew.ctr]), (129, [spec_l7Live.ctr]), (130, [spec_l9Places.ctr]), (131, [spec_l1Once.ctr]), (132, [spec_l10Merged.ctr]), (133, [spec_ShowRec.ctr]), (134, [spec_l1Spoil.ctr]), (135, [spec_l3Without.ctr])]
def spec_l11Disk.ann : Ann := ⟨[(2, ([(0, .ptr (.pair (.sl false (.int .u8)) (.pair tyI tyI))), (2, .ptr tyD), (3, .ptr tyD), (4, .ptr (.pair tyI (.sl true tyI))), (5, .val tyI), (6, .val .str), (7, .val (.sl true (.pair tyI (.pair tyI (.pair tyI tyR))))), (8, .val tyI)], [(.exit 2, [(0, .ptr (.pair (.sl false (.int .u8)) (.pair tyI tyI))), (2, .ptr tyD), (3, .ptr tyD), (4, .ptr (.pair tyI (.sl true tyI))), (5, .val tyI), (6, .val .str)])])), (0, ([(0, .ptr (.pair (.sl false (.int .u8)) (.pair tyI tyI))), (2, .ptr tyD), (3, .ptr tyD), (4, .ptr (.pair tyI (.sl true tyI))), (5, .val tyI)], [(.exit 0, [(0, .ptr (.pair (.sl false (.int .u8)) (.pair tyI tyI))), (2, .ptr tyD), (3, .ptr tyD), (4, .ptr (.pair tyI (.sl true tyI)))])]))], [], [(8, [(.normal, [(0, .ptr (.pair (.sl false (.int .u8)) (.pair tyI tyI))), (2, .ptr tyD), (3, .ptr tyD), (4, .ptr (.pair tyI (.sl true tyI))), (5, .val tyI), (6, .val .str), (7, .val (.sl true (.pair tyI (.pair tyI (.pair tyI tyR)))))])]), (15, [(.normal, [(0, .ptr (.pair (.sl false (.int .u8)) (.pair tyI tyI))), (2, .ptr tyD), (3, .ptr tyD), (4, .ptr (.pair tyI (.sl true tyI))), (5, .val tyI), (6, .val .str)])]), (19, [(.normal, [(0, .ptr (.pair (.sl false (.int .u8)) (.pair tyI tyI))), (2, .ptr tyD), (3, .ptr tyD), (4, .ptr (.pair tyI (.sl true tyI))), (5, .val tyI)])]), (33, [(.normal, [(0, .ptr (.pair (.sl false (.int .u8)) (.pair tyI tyI))), (2, .ptr tyD), (3, .ptr tyD), (12, .val .str)])]), (28, [(.normal, [(0, .ptr (.pair (.sl false (.int .u8)) (.pair tyI tyI))), (2, .ptr tyD), (3, .ptr tyD), (12, .val .str)]), (.ret, [(0, .ptr (.pair (.sl false (.int .u8)) (.pair tyI tyI))), (2, .ptr tyD)])]), (26, [(.normal, [(0, .ptr (.pair (.sl false (.int .u8)) (.pair tyI tyI))), (2, .ptr tyD), (3, .ptr tyD), (12, .val .str)]), (.ret, [(0, .ptr (.pair (.sl false (.int .u8)) (.pair tyI tyI))), (2, .ptr tyD)])]), (24, [(.normal, [(0, .ptr (.pair (.sl false (.int .u8)) (.pair tyI tyI))), (2, .ptr tyD), (3, .ptr tyD), (12, .val .str)]), (.ret, [(0, .ptr (.pair (.sl false (.int .u8)) (.pair tyI tyI))), (2, .ptr tyD)])])]⟩
theorem spec_l11Disk.ok : CtrOk Tryz.prog 78 spec_l11Disk.ctr := fn_sound (A := spec_l11Disk.ann) tabOk (EnvOk.cons (ctrs_cons spec_ShowLive.ok ctrs_nil) (EnvOk.cons (ctrs_cons spec_HintName.ok ctrs_nil) (EnvOk.cons (ctrs_cons spec_SegName.ok ctrs_nil) (EnvOk.cons (ctrs_cons spec_Create.ok ctrs_nil) (EnvOk.cons (ctrs_cons spec_Frame.ok ctrs_nil) (EnvOk.cons (ctrs_cons spec_l1Below.ok ctrs_nil) (EnvOk.cons (ctrs_cons spec_l3Insert.ok ctrs_nil) (EnvOk.cons (ctrs_cons spec_ShowHint.ok ctrs_nil) (EnvOk.cons (ctrs_cons spec_HintOf.ok ctrs_nil) (EnvOk.cons (ctrs_cons spec_DiskNew.ok ctrs_nil) (EnvOk.cons (ctrs_cons spec_l7Live.ok ctrs_nil) (EnvOk.cons (ctrs_cons spec_l9Places.ok ctrs_nil) (EnvOk.cons (ctrs_cons spec_l1Once.ok ctrs_nil) (EnvOk.cons (ctrs_cons spec_l10Merged.ok ctrs_nil) (EnvOk.cons (ctrs_cons spec_ShowRec.ok ctrs_nil) (EnvOk.cons (ctrs_cons spec_l1Spoil.ok ctrs_nil) (EnvOk.cons (ctrs_cons spec_l3Without.ok ctrs_nil) EnvOk.nil))))))))))))))))) mixed (fn := Tryz.f78) (body := bodyOf Tryz.f78) Tryz.func78 (by kernel_rfl) (by kernel_rfl) (fun x => by kernel_rfl)
def spec_DrawOpen.sig : Sig := ⟨[.val (.sl false (.int .u8))], [.val tyD]⟩
def spec_DrawOpen.ctr : Ctr := ⟨spec_DrawOpen.sig, fun x => spec_DrawOpen.f x⟩
def spec_DrawOpen.env : Env := [(74, [spec_l1New.ctr]), (75, [spec_l1Below.ctr]), (76, [spec_l3Any.ctr]), (77, [spec_l1PickInt.ctr]), (78, [spec_l11Disk.ctr])]
def spec_DrawOpen.ann : Ann := ⟨[], [], []⟩
theorem spec_DrawOpen.ok : CtrOk Tryz.prog 26 spec_DrawOpen.ctr := fn_sound (A := spec_DrawOpen.ann) tabOk (EnvOk.cons (ctrs_cons spec_l1New.ok ctrs_nil) (EnvOk.cons (ctrs_cons spec_l1Below.ok ctrs_nil) (EnvOk.cons (ctrs_cons spec_l3Any.ok ctrs_nil) (EnvOk.cons (ctrs_cons spec_l1PickInt.ok ctrs_nil) (EnvOk.cons (ctrs_cons spec_l11Disk.ok ctrs_nil) EnvOk.nil))))) mixed (fn := Tryz.f26) (body := bodyOf Tryz.f26) Tryz.func26 (by kernel_rfl) (by kernel_rfl) (fun x => by kernel_rfl)
def impl_SegBytes.sig : Sig := ⟨[.val tys, .val tyd], [.val tyI]⟩
def impl_SegBytes.ctr : Ctr := ⟨impl_SegBytes.sig, fun x => impl_SegBytes.f x.1 x.2⟩
def impl_SegBytes.env : Env := [(53, [impl_FileText.ctr]), (79, [impl_SegName.ctr])]
def impl_SegBytes.ann : Ann := ⟨[(0, ([(3, .ptr tyd), (5, .val tyI), (12, .val (.sl false tyI)), (13, .val tyI), (14, .val tyI)], [(.exit 0, [(5, .val tyI)])]))], [], [(5, [(.normal, [(3, .ptr tyd), (5, .val tyI), (12, .val (.sl false tyI)), (13, .val tyI), (14, .val tyI)])])]⟩
theorem impl_SegBytes.ok : CtrOk Tryz.prog 27 impl_SegBytes.ctr := fn_sound (A := impl_SegBytes.ann) tabOk (EnvOk.cons (ctrs_cons impl_FileText.ok ctrs_nil) (EnvOk.cons (ctrs_cons impl_SegName.ok ctrs_nil) EnvOk.nil)) mixed (fn := Tryz.f27) (body := bodyOf Tryz.f27) Tryz.func27 (by kernel_rfl) (by kernel_rfl) (fun x => by kernel_rfl)
def spec_SegBytes.sig : Sig := ⟨[.val tys, .val tyd], [.val tyI]⟩
def spec_SegBytes.ctr : Ctr := ⟨spec_SegBytes.sig, fun x => spec_SegBytes.f x.1 x.2⟩
def spec_SegBytes.env : Env := [(32, [spec_SegName.ctr]), (38, [spec_FileText.ctr])]
def spec_SegBytes.ann : Ann := ⟨[(0, ([(2, .ptr tys), (3, .ptr tyd), (5, .val tyI), (6, .val tyI)], [(.exit 0, [(5, .val tyI)])]))], [], []⟩
theorem spec_SegBytes.ok : CtrOk Tryz.prog 30 spec_SegBytes.ctr := fn_sound (A := spec_SegBytes.ann) tabOk (EnvOk.cons (ctrs_cons spec_SegName.ok ctrs_nil) (EnvOk.cons (ctrs_cons spec_FileText.ok ctrs_nil) EnvOk.nil)) mixed (fn := Tryz.f30) (body := bodyOf Tryz.f30) Tryz.func30 (by kernel_rfl) (by kernel_rfl) (fun x => by kernel_rfl)
def laws_FnLiveBytes.sig : Sig := ⟨[.val (.sl false (.int .u8))], [.val .bool]⟩
def laws_FnLiveBytes.ctr : Ctr := ⟨laws_FnLiveBytes.sig, fun x => laws_FnLiveBytes.f x⟩
def laws_FnLiveBytes.env : Env := [(8, [spec_Open.ctr]), (10, [impl_Open.ctr]), (17, [laws_big.ctr]), (23, [spec_SameDisk.ctr]), (24, [impl_Used.ctr]), (26, [spec_DrawOpen.ctr]), (27, [impl_SegBytes.ctr]), (28, [spec_IdOf.ctr]), (29, [spec_HintName.ctr]), (30, [spec_SegBytes.ctr])]
def laws_FnLiveBytes.ann : Ann := ⟨[(0, ([(4, .ptr tyS), (5, .ptr tyD), (10, .val tyI), (11, .val tyI), (12, .val tyI)], [(.exit 0, [(4, .ptr tyS), (5, .ptr tyD), (10, .val tyI), (11, .val tyI)])]))], [], [(16, [(.normal, [(4, .ptr tyS), (5, .ptr tyD), (10, .val tyI), (11, .val tyI), (12, .val tyI)])])]⟩
theorem laws_FnLiveBytes.ok : CtrOk Tryz.prog 5 laws_FnLiveBytes.ctr := fn_sound (A := laws_FnLiveBytes.ann) tabOk (EnvOk.cons (ctrs_cons spec_Open.ok ctrs_nil) (EnvOk.cons (ctrs_cons impl_Open.ok ctrs_nil) (EnvOk.cons (ctrs_cons laws_big.ok ctrs_nil) (EnvOk.cons (ctrs_cons spec_SameDisk.ok ctrs_nil) (EnvOk.cons (ctrs_cons impl_Used.ok ctrs_nil) (EnvOk.cons (ctrs_cons spec_DrawOpen.ok ctrs_nil) (EnvOk.cons (ctrs_cons impl_SegBytes.ok ctrs_nil) (EnvOk.cons (ctrs_cons spec_IdOf.ok ctrs_nil) (EnvOk.cons (ctrs_cons spec_HintName.ok ctrs_nil) (EnvOk.cons (ctrs_cons spec_SegBytes.ok ctrs_nil) EnvOk.nil)))))))))) mixed (fn := Tryz.f5) (body := bodyOf Tryz.f5) Tryz.func5 (by kernel_rfl) (by kernel_rfl) (fun x => by kernel_rfl)
end
end Go.Proofs.YtidjicepgdaeoaaGreatDoor
