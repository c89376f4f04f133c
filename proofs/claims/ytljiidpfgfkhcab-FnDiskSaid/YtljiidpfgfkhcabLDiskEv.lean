/- Each function of the program that FnDisk reaches comes to its plain function. -/
import Derived.Test.YtljiidpfgfkhcabRf5
import Derived.Test.YtljiidpfgfkhcabLDiskFns
import Derived.Test.YtljiidpfgfkhcabProg
namespace Go.Proofs.Ytljiidpfgfkhcab
open Go Go.Rf Go.Rf.G Go.Proofs
set_option maxRecDepth 100000
def bodyOf (f : Func) : Code := f.body.getD .skip
def tab : Tab := [(3, ⟨(.int .i64), false, [], none, 8, false⟩),
  (4, ⟨.bool, false, [], none, 1, false⟩),
  (5, ⟨(.int .u8), false, [], none, 1, false⟩),
  (9, ⟨.str, false, [], none, 16, false⟩),
  (43, ⟨(.sl true (.int .u8)), false, [], some 5, 24, false⟩),
  (45, ⟨(.sl true (.pair .str (.pair .str (.int .i64)))), false, [], some 93, 24, false⟩),
  (47, ⟨(.pair (.sl true (.pair .str (.pair .str (.int .i64)))) (.pair (.int .i64) (.pair (.int .i64) .bool))), true, [(0, 1, false), (1, 1, false), (2, 1, false), (3, 1, false)], none, 48, false⟩),
  (50, ⟨(.sl true .str), false, [], some 9, 24, false⟩),
  (52, ⟨(.sl true (.pair (.sl true (.pair .str (.pair .str (.int .i64)))) (.pair (.int .i64) (.pair (.int .i64) .bool)))), false, [], some 47, 24, false⟩),
  (53, ⟨(.sl true (.int .i64)), false, [], some 3, 24, false⟩),
  (93, ⟨(.pair .str (.pair .str (.int .i64))), true, [(0, 1, false), (1, 1, false), (2, 1, false)], none, 40, true⟩),
  (113, ⟨(.pair (.sl true (.int .u8)) (.pair (.int .i64) (.int .i64))), true, [(0, 1, false), (1, 1, false), (2, 1, false)], none, 40, false⟩)]
theorem tabOk : TabOk Try.prog tab := Rf.tabOk (by kernel_rfl)
theorem mixed : Try.prog.follows .mixedOrders = true := by kernel_rfl
instance laid : Laid := noLaid
def laws_big.sig : Sig := ⟨[.val (.sl false (.int .u8))], [.val .bool]⟩
noncomputable def laws_big.ctr : Ctr := ⟨laws_big.sig, fun x => laws_big.f x⟩
noncomputable def laws_big.env : Env := []
def laws_big.ann : Ann := ⟨[], [], []⟩
theorem laws_big.ok : CtrOk Try.prog 22 laws_big.ctr := fn_sound (A := laws_big.ann) tabOk EnvOk.nil mixed (fn := Try.f22) (body := bodyOf Try.f22) Try.func22 (by kernel_rfl) (by kernel_rfl) (fun x => by kernel_rfl)

def spec_l1New.sig : Sig := ⟨[.val (.sl false (.int .u8))], [.ptr (.pair (.sl false (.int .u8)) (.pair (.int .i64) (.int .i64)))]⟩
noncomputable def spec_l1New.ctr : Ctr := ⟨spec_l1New.sig, fun x => spec_l1New.f x⟩
noncomputable def spec_l1New.env : Env := []
def spec_l1New.ann : Ann := ⟨[(0, ([(0, .val (.sl false (.int .u8))), (3, .val (.int .i64)), (4, .val (.int .i64))], [(.exit 0, [(0, .val (.sl false (.int .u8))), (3, .val (.int .i64))])]))], [], []⟩
theorem spec_l1New.ok : CtrOk Try.prog 49 spec_l1New.ctr := fn_sound (A := spec_l1New.ann) tabOk EnvOk.nil mixed (fn := Try.f49) (body := bodyOf Try.f49) Try.func49 (by kernel_rfl) (by kernel_rfl) (fun x => by kernel_rfl)

def spec_l3Used.sig : Sig := ⟨[.val (.pair (.sl false (.pair .str (.pair .str (.int .i64)))) (.pair (.int .i64) (.pair (.int .i64) .bool)))], [.val (.int .i64)]⟩
noncomputable def spec_l3Used.ctr : Ctr := ⟨spec_l3Used.sig, fun x => spec_l3Used.f x⟩
noncomputable def spec_l3Used.env : Env := []
def spec_l3Used.ann : Ann := ⟨[(0, ([(1, .ptr (.pair (.sl false (.pair .str (.pair .str (.int .i64)))) (.pair (.int .i64) (.pair (.int .i64) .bool)))), (3, .val (.int .i64)), (4, .val (.int .i64))], [(.exit 0, [(3, .val (.int .i64))])]))], [], []⟩
theorem spec_l3Used.ok : CtrOk Try.prog 67 spec_l3Used.ctr := fn_sound (A := spec_l3Used.ann) tabOk EnvOk.nil mixed (fn := Try.f67) (body := bodyOf Try.f67) Try.func67 (by kernel_rfl) (by kernel_rfl) (fun x => by kernel_rfl)

def spec_l1Byte.sig : Sig := ⟨[.ptr (.pair (.sl false (.int .u8)) (.pair (.int .i64) (.int .i64)))], [.val (.int .i64)]⟩
noncomputable def spec_l1Byte.ctr : Ctr := ⟨spec_l1Byte.sig, fun x => spec_l1Byte.f x⟩
noncomputable def spec_l1Byte.env : Env := []
def spec_l1Byte.ann : Ann := ⟨[], [], []⟩
theorem spec_l1Byte.ok : CtrOk Try.prog 85 spec_l1Byte.ctr := fn_sound (A := spec_l1Byte.ann) tabOk EnvOk.nil mixed (fn := Try.f85) (body := bodyOf Try.f85) Try.func85 (by kernel_rfl) (by kernel_rfl) (fun x => by kernel_rfl)

def spec_l1Below.sig : Sig := ⟨[.ptr (.pair (.sl false (.int .u8)) (.pair (.int .i64) (.int .i64))), .val (.int .i64)], [.val (.int .i64)]⟩
noncomputable def spec_l1Below.ctr : Ctr := ⟨spec_l1Below.sig, fun x => spec_l1Below.f x.1 x.2⟩
noncomputable def spec_l1Below.env : Env := [(85, [spec_l1Byte.ctr])]
def spec_l1Below.ann : Ann := ⟨[], [], []⟩
theorem spec_l1Below.ok : CtrOk Try.prog 81 spec_l1Below.ctr := fn_sound (A := spec_l1Below.ann) tabOk (EnvOk.cons (ctrs_cons spec_l1Byte.ok ctrs_nil) EnvOk.nil) mixed (fn := Try.f81) (body := bodyOf Try.f81) Try.func81 (by kernel_rfl) (by kernel_rfl) (fun x => by kernel_rfl)

def spec_l1Pick.sig : Sig := ⟨[.ptr (.pair (.sl false (.int .u8)) (.pair (.int .i64) (.int .i64))), .val (.sl false .str)], [.val .str]⟩
noncomputable def spec_l1Pick.ctr : Ctr := ⟨spec_l1Pick.sig, fun x => spec_l1Pick.f x.1 x.2⟩
noncomputable def spec_l1Pick.env : Env := [(81, [spec_l1Below.ctr])]
def spec_l1Pick.ann : Ann := ⟨[], [], []⟩
theorem spec_l1Pick.ok : CtrOk Try.prog 83 spec_l1Pick.ctr := fn_sound (A := spec_l1Pick.ann) tabOk (EnvOk.cons (ctrs_cons spec_l1Below.ok ctrs_nil) EnvOk.nil) mixed (fn := Try.f83) (body := bodyOf Try.f83) Try.func83 (by kernel_rfl) (by kernel_rfl) (fun x => by kernel_rfl)

def spec_l3Name.sig : Sig := ⟨[.ptr (.pair (.sl false (.int .u8)) (.pair (.int .i64) (.int .i64)))], [.val .str]⟩
noncomputable def spec_l3Name.ctr : Ctr := ⟨spec_l3Name.sig, fun x => spec_l3Name.f x⟩
noncomputable def spec_l3Name.env : Env := [(83, [spec_l1Pick.ctr])]
def spec_l3Name.ann : Ann := ⟨[], [], []⟩
theorem spec_l3Name.ok : CtrOk Try.prog 51 spec_l3Name.ctr := fn_sound (A := spec_l3Name.ann) tabOk (EnvOk.cons (ctrs_cons spec_l1Pick.ok ctrs_nil) EnvOk.nil) mixed (fn := Try.f51) (body := bodyOf Try.f51) Try.func51 (by kernel_rfl) (by kernel_rfl) (fun x => by kernel_rfl)

def spec_l1Text.sig : Sig := ⟨[.ptr (.pair (.sl false (.int .u8)) (.pair (.int .i64) (.int .i64))), .val (.int .i64)], [.val .str]⟩
noncomputable def spec_l1Text.ctr : Ctr := ⟨spec_l1Text.sig, fun x => spec_l1Text.f x.1 x.2⟩
noncomputable def spec_l1Text.env : Env := [(81, [spec_l1Below.ctr]), (85, [spec_l1Byte.ctr])]
def spec_l1Text.ann : Ann := ⟨[(0, ([(0, .ptr (.pair (.sl false (.int .u8)) (.pair (.int .i64) (.int .i64)))), (5, .val (.sl true (.int .u8))), (6, .val (.int .i64)), (7, .val (.int .i64))], [(.exit 0, [(0, .ptr (.pair (.sl false (.int .u8)) (.pair (.int .i64) (.int .i64)))), (5, .val (.sl true (.int .u8)))])]))], [], [(7, [(.normal, [(0, .ptr (.pair (.sl false (.int .u8)) (.pair (.int .i64) (.int .i64)))), (5, .val (.sl true (.int .u8))), (6, .val (.int .i64)), (7, .val (.int .i64)), (8, .val (.int .i64))])]), (9, [(.normal, [(0, .ptr (.pair (.sl false (.int .u8)) (.pair (.int .i64) (.int .i64)))), (5, .val (.sl true (.int .u8))), (6, .val (.int .i64)), (7, .val (.int .i64)), (8, .val (.int .i64))])])]⟩
theorem spec_l1Text.ok : CtrOk Try.prog 52 spec_l1Text.ctr := fn_sound (A := spec_l1Text.ann) tabOk (EnvOk.cons (ctrs_cons spec_l1Below.ok ctrs_nil) (EnvOk.cons (ctrs_cons spec_l1Byte.ok ctrs_nil) EnvOk.nil)) mixed (fn := Try.f52) (body := bodyOf Try.f52) Try.func52 (by kernel_rfl) (by kernel_rfl) (fun x => by kernel_rfl)

def spec_l1In.sig : Sig := ⟨[.val (.int .i64), .val (.int .i64), .val (.int .i64)], [.val .bool]⟩
noncomputable def spec_l1In.ctr : Ctr := ⟨spec_l1In.sig, fun x => spec_l1In.f x.1 x.2.1 x.2.2⟩
noncomputable def spec_l1In.env : Env := []
def spec_l1In.ann : Ann := ⟨[], [], []⟩
theorem spec_l1In.ok : CtrOk Try.prog 66 spec_l1In.ctr := fn_sound (A := spec_l1In.ann) tabOk EnvOk.nil mixed (fn := Try.f66) (body := bodyOf Try.f66) Try.func66 (by kernel_rfl) (by kernel_rfl) (fun x => by kernel_rfl)

def spec_DiskNew.sig : Sig := ⟨[.val (.int .i64)], [.val (.pair (.sl true (.pair .str (.pair .str (.int .i64)))) (.pair (.int .i64) (.pair (.int .i64) .bool)))]⟩
noncomputable def spec_DiskNew.ctr : Ctr := ⟨spec_DiskNew.sig, fun x => spec_DiskNew.f x⟩
noncomputable def spec_DiskNew.env : Env := [(66, [spec_l1In.ctr])]
def spec_DiskNew.ann : Ann := ⟨[], [], []⟩
theorem spec_DiskNew.ok : CtrOk Try.prog 91 spec_DiskNew.ctr := fn_sound (A := spec_DiskNew.ann) tabOk (EnvOk.cons (ctrs_cons spec_l1In.ok ctrs_nil) EnvOk.nil) mixed (fn := Try.f91) (body := bodyOf Try.f91) Try.func91 (by kernel_rfl) (by kernel_rfl) (fun x => by kernel_rfl)

def spec_NameOk.sig : Sig := ⟨[.val .str], [.val .bool]⟩
noncomputable def spec_NameOk.ctr : Ctr := ⟨spec_NameOk.sig, fun x => spec_NameOk.f x⟩
noncomputable def spec_NameOk.env : Env := [(66, [spec_l1In.ctr])]
def spec_NameOk.ann : Ann := ⟨[(0, ([(0, .val .str), (3, .val (.int .i64))], [(.exit 0, [(0, .val .str)]), (.ret, [(2, .val .bool)])]))], [], [(4, [(.normal, [(0, .val .str), (3, .val (.int .i64))]), (.ret, [(2, .val .bool)])])]⟩
theorem spec_NameOk.ok : CtrOk Try.prog 68 spec_NameOk.ctr := fn_sound (A := spec_NameOk.ann) tabOk (EnvOk.cons (ctrs_cons spec_l1In.ok ctrs_nil) EnvOk.nil) mixed (fn := Try.f68) (body := bodyOf Try.f68) Try.func68 (by kernel_rfl) (by kernel_rfl) (fun x => by kernel_rfl)

def spec_l3Find.sig : Sig := ⟨[.val (.pair (.sl false (.pair .str (.pair .str (.int .i64)))) (.pair (.int .i64) (.pair (.int .i64) .bool))), .val .str], [.val (.int .i64)]⟩
noncomputable def spec_l3Find.ctr : Ctr := ⟨spec_l3Find.sig, fun x => spec_l3Find.f x.1 x.2⟩
noncomputable def spec_l3Find.env : Env := []
def spec_l3Find.ann : Ann := ⟨[(0, ([(1, .val .str), (2, .ptr (.pair (.sl false (.pair .str (.pair .str (.int .i64)))) (.pair (.int .i64) (.pair (.int .i64) .bool)))), (5, .val (.int .i64))], [(.exit 0, []), (.ret, [(4, .val (.int .i64))])]))], [], []⟩
theorem spec_l3Find.ok : CtrOk Try.prog 69 spec_l3Find.ctr := fn_sound (A := spec_l3Find.ann) tabOk EnvOk.nil mixed (fn := Try.f69) (body := bodyOf Try.f69) Try.func69 (by kernel_rfl) (by kernel_rfl) (fun x => by kernel_rfl)

def spec_DiskOk.sig : Sig := ⟨[.val (.pair (.sl false (.pair .str (.pair .str (.int .i64)))) (.pair (.int .i64) (.pair (.int .i64) .bool)))], [.val .bool]⟩
noncomputable def spec_DiskOk.ctr : Ctr := ⟨spec_DiskOk.sig, fun x => spec_DiskOk.f x⟩
noncomputable def spec_DiskOk.env : Env := [(66, [spec_l1In.ctr]), (67, [spec_l3Used.ctr]), (68, [spec_NameOk.ctr])]
def spec_DiskOk.ann : Ann := ⟨[(0, ([(1, .ptr (.pair (.sl false (.pair .str (.pair .str (.int .i64)))) (.pair (.int .i64) (.pair (.int .i64) .bool)))), (3, .val (.int .i64))], [(.exit 0, []), (.ret, [(2, .val .bool)])]))], [], [(6, [(.normal, [(1, .ptr (.pair (.sl false (.pair .str (.pair .str (.int .i64)))) (.pair (.int .i64) (.pair (.int .i64) .bool)))), (3, .val (.int .i64))]), (.ret, [(2, .val .bool)])])]⟩
theorem spec_DiskOk.ok : CtrOk Try.prog 31 spec_DiskOk.ctr := fn_sound (A := spec_DiskOk.ann) tabOk (EnvOk.cons (ctrs_cons spec_l1In.ok ctrs_nil) (EnvOk.cons (ctrs_cons spec_l3Used.ok ctrs_nil) (EnvOk.cons (ctrs_cons spec_NameOk.ok ctrs_nil) EnvOk.nil))) mixed (fn := Try.f31) (body := bodyOf Try.f31) Try.func31 (by kernel_rfl) (by kernel_rfl) (fun x => by kernel_rfl)

def spec_l3Copy.sig : Sig := ⟨[.val (.pair (.sl false (.pair .str (.pair .str (.int .i64)))) (.pair (.int .i64) (.pair (.int .i64) .bool)))], [.val (.pair (.sl true (.pair .str (.pair .str (.int .i64)))) (.pair (.int .i64) (.pair (.int .i64) .bool)))]⟩
noncomputable def spec_l3Copy.ctr : Ctr := ⟨spec_l3Copy.sig, fun x => spec_l3Copy.f x⟩
noncomputable def spec_l3Copy.env : Env := []
def spec_l3Copy.ann : Ann := ⟨[], [], []⟩
theorem spec_l3Copy.ok : CtrOk Try.prog 100 spec_l3Copy.ctr := fn_sound (A := spec_l3Copy.ann) tabOk EnvOk.nil mixed (fn := Try.f100) (body := bodyOf Try.f100) Try.func100 (by kernel_rfl) (by kernel_rfl) (fun x => by kernel_rfl)

def spec_l3Begin.sig : Sig := ⟨[.val (.pair (.sl false (.pair .str (.pair .str (.int .i64)))) (.pair (.int .i64) (.pair (.int .i64) .bool)))], [.val (.pair (.sl true (.pair .str (.pair .str (.int .i64)))) (.pair (.int .i64) (.pair (.int .i64) .bool))), .val (.int .i64)]⟩
noncomputable def spec_l3Begin.ctr : Ctr := ⟨spec_l3Begin.sig, fun x => spec_l3Begin.f x⟩
noncomputable def spec_l3Begin.env : Env := [(31, [spec_DiskOk.ctr]), (100, [spec_l3Copy.ctr])]
def spec_l3Begin.ann : Ann := ⟨[], [], []⟩
theorem spec_l3Begin.ok : CtrOk Try.prog 97 spec_l3Begin.ctr := fn_sound (A := spec_l3Begin.ann) tabOk (EnvOk.cons (ctrs_cons spec_DiskOk.ok ctrs_nil) (EnvOk.cons (ctrs_cons spec_l3Copy.ok ctrs_nil) EnvOk.nil)) mixed (fn := Try.f97) (body := bodyOf Try.f97) Try.func97 (by kernel_rfl) (by kernel_rfl) (fun x => by kernel_rfl)

def spec_l3Insert.sig : Sig := ⟨[.val (.sl false (.pair .str (.pair .str (.int .i64)))), .val (.pair .str (.pair .str (.int .i64)))], [.val (.sl true (.pair .str (.pair .str (.int .i64))))]⟩
noncomputable def spec_l3Insert.ctr : Ctr := ⟨spec_l3Insert.sig, fun x => spec_l3Insert.f x.1 x.2⟩
noncomputable def spec_l3Insert.env : Env := []
def spec_l3Insert.ann : Ann := ⟨[(0, ([(0, .val (.sl false (.pair .str (.pair .str (.int .i64))))), (3, .ptr (.pair .str (.pair .str (.int .i64)))), (5, .val (.sl true (.pair .str (.pair .str (.int .i64))))), (6, .val .bool), (7, .val (.int .i64))], [(.exit 0, [(3, .ptr (.pair .str (.pair .str (.int .i64)))), (5, .val (.sl true (.pair .str (.pair .str (.int .i64))))), (6, .val .bool)])]))], [], [(6, [(.normal, [(0, .val (.sl false (.pair .str (.pair .str (.int .i64))))), (3, .ptr (.pair .str (.pair .str (.int .i64)))), (5, .val (.sl true (.pair .str (.pair .str (.int .i64))))), (6, .val .bool), (7, .val (.int .i64))])])]⟩
theorem spec_l3Insert.ok : CtrOk Try.prog 98 spec_l3Insert.ctr := fn_sound (A := spec_l3Insert.ann) tabOk EnvOk.nil mixed (fn := Try.f98) (body := bodyOf Try.f98) Try.func98 (by kernel_rfl) (by kernel_rfl) (fun x => by kernel_rfl)

def spec_Create.sig : Sig := ⟨[.val (.pair (.sl false (.pair .str (.pair .str (.int .i64)))) (.pair (.int .i64) (.pair (.int .i64) .bool))), .val .str], [.val (.pair (.sl true (.pair .str (.pair .str (.int .i64)))) (.pair (.int .i64) (.pair (.int .i64) .bool))), .val (.int .i64)]⟩
noncomputable def spec_Create.ctr : Ctr := ⟨spec_Create.sig, fun x => spec_Create.f x.1 x.2⟩
noncomputable def spec_Create.env : Env := [(68, [spec_NameOk.ctr]), (69, [spec_l3Find.ctr]), (97, [spec_l3Begin.ctr]), (98, [spec_l3Insert.ctr])]
def spec_Create.ann : Ann := ⟨[], [], []⟩
theorem spec_Create.ok : CtrOk Try.prog 92 spec_Create.ctr := fn_sound (A := spec_Create.ann) tabOk (EnvOk.cons (ctrs_cons spec_NameOk.ok ctrs_nil) (EnvOk.cons (ctrs_cons spec_l3Find.ok ctrs_nil) (EnvOk.cons (ctrs_cons spec_l3Begin.ok ctrs_nil) (EnvOk.cons (ctrs_cons spec_l3Insert.ok ctrs_nil) EnvOk.nil)))) mixed (fn := Try.f92) (body := bodyOf Try.f92) Try.func92 (by kernel_rfl) (by kernel_rfl) (fun x => by kernel_rfl)

def spec_Append.sig : Sig := ⟨[.val (.pair (.sl false (.pair .str (.pair .str (.int .i64)))) (.pair (.int .i64) (.pair (.int .i64) .bool))), .val .str, .val .str], [.val (.pair (.sl true (.pair .str (.pair .str (.int .i64)))) (.pair (.int .i64) (.pair (.int .i64) .bool))), .val (.int .i64)]⟩
noncomputable def spec_Append.ctr : Ctr := ⟨spec_Append.sig, fun x => spec_Append.f x.1 x.2.1 x.2.2⟩
noncomputable def spec_Append.env : Env := [(67, [spec_l3Used.ctr]), (69, [spec_l3Find.ctr]), (97, [spec_l3Begin.ctr])]
def spec_Append.ann : Ann := ⟨[], [], []⟩
theorem spec_Append.ok : CtrOk Try.prog 93 spec_Append.ctr := fn_sound (A := spec_Append.ann) tabOk (EnvOk.cons (ctrs_cons spec_l3Used.ok ctrs_nil) (EnvOk.cons (ctrs_cons spec_l3Find.ok ctrs_nil) (EnvOk.cons (ctrs_cons spec_l3Begin.ok ctrs_nil) EnvOk.nil))) mixed (fn := Try.f93) (body := bodyOf Try.f93) Try.func93 (by kernel_rfl) (by kernel_rfl) (fun x => by kernel_rfl)

def spec_Sync.sig : Sig := ⟨[.val (.pair (.sl false (.pair .str (.pair .str (.int .i64)))) (.pair (.int .i64) (.pair (.int .i64) .bool))), .val .str], [.val (.pair (.sl true (.pair .str (.pair .str (.int .i64)))) (.pair (.int .i64) (.pair (.int .i64) .bool))), .val (.int .i64)]⟩
noncomputable def spec_Sync.ctr : Ctr := ⟨spec_Sync.sig, fun x => spec_Sync.f x.1 x.2⟩
noncomputable def spec_Sync.env : Env := [(69, [spec_l3Find.ctr]), (97, [spec_l3Begin.ctr])]
def spec_Sync.ann : Ann := ⟨[], [], []⟩
theorem spec_Sync.ok : CtrOk Try.prog 94 spec_Sync.ctr := fn_sound (A := spec_Sync.ann) tabOk (EnvOk.cons (ctrs_cons spec_l3Find.ok ctrs_nil) (EnvOk.cons (ctrs_cons spec_l3Begin.ok ctrs_nil) EnvOk.nil)) mixed (fn := Try.f94) (body := bodyOf Try.f94) Try.func94 (by kernel_rfl) (by kernel_rfl) (fun x => by kernel_rfl)

def spec_l3Without.sig : Sig := ⟨[.val (.sl false (.pair .str (.pair .str (.int .i64)))), .val (.int .i64)], [.val (.sl true (.pair .str (.pair .str (.int .i64))))]⟩
noncomputable def spec_l3Without.ctr : Ctr := ⟨spec_l3Without.sig, fun x => spec_l3Without.f x.1 x.2⟩
noncomputable def spec_l3Without.env : Env := []
def spec_l3Without.ann : Ann := ⟨[], [], []⟩
theorem spec_l3Without.ok : CtrOk Try.prog 99 spec_l3Without.ctr := fn_sound (A := spec_l3Without.ann) tabOk EnvOk.nil mixed (fn := Try.f99) (body := bodyOf Try.f99) Try.func99 (by kernel_rfl) (by kernel_rfl) (fun x => by kernel_rfl)

def spec_Rename.sig : Sig := ⟨[.val (.pair (.sl false (.pair .str (.pair .str (.int .i64)))) (.pair (.int .i64) (.pair (.int .i64) .bool))), .val .str, .val .str], [.val (.pair (.sl true (.pair .str (.pair .str (.int .i64)))) (.pair (.int .i64) (.pair (.int .i64) .bool))), .val (.int .i64)]⟩
noncomputable def spec_Rename.ctr : Ctr := ⟨spec_Rename.sig, fun x => spec_Rename.f x.1 x.2.1 x.2.2⟩
noncomputable def spec_Rename.env : Env := [(68, [spec_NameOk.ctr]), (69, [spec_l3Find.ctr]), (97, [spec_l3Begin.ctr]), (98, [spec_l3Insert.ctr]), (99, [spec_l3Without.ctr])]
def spec_Rename.ann : Ann := ⟨[], [], [(15, [(.normal, [(6, .ptr (.pair (.sl true (.pair .str (.pair .str (.int .i64)))) (.pair (.int .i64) (.pair (.int .i64) .bool)))), (8, .ptr (.pair (.sl true (.pair .str (.pair .str (.int .i64)))) (.pair (.int .i64) (.pair (.int .i64) .bool)))), (11, .ptr (.pair .str (.pair .str (.int .i64))))])])]⟩
theorem spec_Rename.ok : CtrOk Try.prog 95 spec_Rename.ctr := fn_sound (A := spec_Rename.ann) tabOk (EnvOk.cons (ctrs_cons spec_NameOk.ok ctrs_nil) (EnvOk.cons (ctrs_cons spec_l3Find.ok ctrs_nil) (EnvOk.cons (ctrs_cons spec_l3Begin.ok ctrs_nil) (EnvOk.cons (ctrs_cons spec_l3Insert.ok ctrs_nil) (EnvOk.cons (ctrs_cons spec_l3Without.ok ctrs_nil) EnvOk.nil))))) mixed (fn := Try.f95) (body := bodyOf Try.f95) Try.func95 (by kernel_rfl) (by kernel_rfl) (fun x => by kernel_rfl)

def spec_l3Disk.sig : Sig := ⟨[.ptr (.pair (.sl false (.int .u8)) (.pair (.int .i64) (.int .i64)))], [.val (.pair (.sl true (.pair .str (.pair .str (.int .i64)))) (.pair (.int .i64) (.pair (.int .i64) .bool)))]⟩
noncomputable def spec_l3Disk.ctr : Ctr := ⟨spec_l3Disk.sig, fun x => spec_l3Disk.f x⟩
noncomputable def spec_l3Disk.env : Env := [(51, [spec_l3Name.ctr]), (52, [spec_l1Text.ctr]), (81, [spec_l1Below.ctr]), (91, [spec_DiskNew.ctr]), (92, [spec_Create.ctr]), (93, [spec_Append.ctr]), (94, [spec_Sync.ctr]), (95, [spec_Rename.ctr])]
def spec_l3Disk.ann : Ann := ⟨[(0, ([(0, .ptr (.pair (.sl false (.int .u8)) (.pair (.int .i64) (.int .i64)))), (2, .ptr (.pair (.sl true (.pair .str (.pair .str (.int .i64)))) (.pair (.int .i64) (.pair (.int .i64) .bool)))), (3, .ptr (.pair (.sl true (.pair .str (.pair .str (.int .i64)))) (.pair (.int .i64) (.pair (.int .i64) .bool)))), (4, .val (.int .i64))], [(.exit 0, [(0, .ptr (.pair (.sl false (.int .u8)) (.pair (.int .i64) (.int .i64)))), (2, .ptr (.pair (.sl true (.pair .str (.pair .str (.int .i64)))) (.pair (.int .i64) (.pair (.int .i64) .bool)))), (3, .ptr (.pair (.sl true (.pair .str (.pair .str (.int .i64)))) (.pair (.int .i64) (.pair (.int .i64) .bool))))])]))], [(2, [(.normal, [(0, .ptr (.pair (.sl false (.int .u8)) (.pair (.int .i64) (.int .i64)))), (2, .ptr (.pair (.sl true (.pair .str (.pair .str (.int .i64)))) (.pair (.int .i64) (.pair (.int .i64) .bool)))), (3, .ptr (.pair (.sl true (.pair .str (.pair .str (.int .i64)))) (.pair (.int .i64) (.pair (.int .i64) .bool)))), (4, .val (.int .i64)), (6, .ptr (.pair (.sl true (.pair .str (.pair .str (.int .i64)))) (.pair (.int .i64) (.pair (.int .i64) .bool))))])])], [(9, [(.normal, [(0, .ptr (.pair (.sl false (.int .u8)) (.pair (.int .i64) (.int .i64)))), (2, .ptr (.pair (.sl true (.pair .str (.pair .str (.int .i64)))) (.pair (.int .i64) (.pair (.int .i64) .bool)))), (3, .ptr (.pair (.sl true (.pair .str (.pair .str (.int .i64)))) (.pair (.int .i64) (.pair (.int .i64) .bool)))), (4, .val (.int .i64)), (5, .val .str), (6, .ptw (.pair (.sl true (.pair .str (.pair .str (.int .i64)))) (.pair (.int .i64) (.pair (.int .i64) .bool)))), (18, .val (.int .i64)), (27, .val .bool)])]), (12, [(.normal, [(0, .ptr (.pair (.sl false (.int .u8)) (.pair (.int .i64) (.int .i64)))), (2, .ptr (.pair (.sl true (.pair .str (.pair .str (.int .i64)))) (.pair (.int .i64) (.pair (.int .i64) .bool)))), (3, .ptr (.pair (.sl true (.pair .str (.pair .str (.int .i64)))) (.pair (.int .i64) (.pair (.int .i64) .bool)))), (4, .val (.int .i64)), (5, .val .str), (6, .ptw (.pair (.sl true (.pair .str (.pair .str (.int .i64)))) (.pair (.int .i64) (.pair (.int .i64) .bool)))), (18, .val (.int .i64)), (36, .val .bool)])]), (15, [(.normal, [(0, .ptr (.pair (.sl false (.int .u8)) (.pair (.int .i64) (.int .i64)))), (2, .ptr (.pair (.sl true (.pair .str (.pair .str (.int .i64)))) (.pair (.int .i64) (.pair (.int .i64) .bool)))), (3, .ptr (.pair (.sl true (.pair .str (.pair .str (.int .i64)))) (.pair (.int .i64) (.pair (.int .i64) .bool)))), (4, .val (.int .i64)), (6, .ptr (.pair (.sl true (.pair .str (.pair .str (.int .i64)))) (.pair (.int .i64) (.pair (.int .i64) .bool))))])])]⟩
theorem spec_l3Disk.ok : CtrOk Try.prog 80 spec_l3Disk.ctr := fn_sound (A := spec_l3Disk.ann) tabOk (EnvOk.cons (ctrs_cons spec_l3Name.ok ctrs_nil) (EnvOk.cons (ctrs_cons spec_l1Text.ok ctrs_nil) (EnvOk.cons (ctrs_cons spec_l1Below.ok ctrs_nil) (EnvOk.cons (ctrs_cons spec_DiskNew.ok ctrs_nil) (EnvOk.cons (ctrs_cons spec_Create.ok ctrs_nil) (EnvOk.cons (ctrs_cons spec_Append.ok ctrs_nil) (EnvOk.cons (ctrs_cons spec_Sync.ok ctrs_nil) (EnvOk.cons (ctrs_cons spec_Rename.ok ctrs_nil) EnvOk.nil)))))))) mixed (fn := Try.f80) (body := bodyOf Try.f80) Try.func80 (by kernel_rfl) (by kernel_rfl) (fun x => by kernel_rfl)

def spec_l1PickInt.sig : Sig := ⟨[.ptr (.pair (.sl false (.int .u8)) (.pair (.int .i64) (.int .i64))), .val (.sl false (.int .i64))], [.val (.int .i64)]⟩
noncomputable def spec_l1PickInt.ctr : Ctr := ⟨spec_l1PickInt.sig, fun x => spec_l1PickInt.f x.1 x.2⟩
noncomputable def spec_l1PickInt.env : Env := [(81, [spec_l1Below.ctr])]
def spec_l1PickInt.ann : Ann := ⟨[], [], []⟩
theorem spec_l1PickInt.ok : CtrOk Try.prog 82 spec_l1PickInt.ctr := fn_sound (A := spec_l1PickInt.ann) tabOk (EnvOk.cons (ctrs_cons spec_l1Below.ok ctrs_nil) EnvOk.nil) mixed (fn := Try.f82) (body := bodyOf Try.f82) Try.func82 (by kernel_rfl) (by kernel_rfl) (fun x => by kernel_rfl)

def spec_Dec.sig : Sig := ⟨[.val (.int .i64)], [.val .str]⟩
noncomputable def spec_Dec.ctr : Ctr := ⟨spec_Dec.sig, fun x => spec_Dec.f x⟩
noncomputable def spec_Dec.env : Env := []
def spec_Dec.ann : Ann := ⟨[(0, ([(0, .val (.int .i64)), (3, .val .str), (4, .val .bool)], [(.exit 0, [(3, .val .str), (4, .val .bool)])]))], [], [(7, [(.normal, [(0, .val (.int .i64)), (3, .val .str), (4, .val .bool), (5, .val (.int .i64))])])]⟩
theorem spec_Dec.ok : CtrOk Try.prog 84 spec_Dec.ctr := fn_sound (A := spec_Dec.ann) tabOk EnvOk.nil mixed (fn := Try.f84) (body := bodyOf Try.f84) Try.func84 (by kernel_rfl) (by kernel_rfl) (fun x => by kernel_rfl)

def spec_l3Any.sig : Sig := ⟨[.ptr (.pair (.sl false (.int .u8)) (.pair (.int .i64) (.int .i64)))], [.val (.pair (.sl true (.pair .str (.pair .str (.int .i64)))) (.pair (.int .i64) (.pair (.int .i64) .bool)))]⟩
noncomputable def spec_l3Any.ctr : Ctr := ⟨spec_l3Any.sig, fun x => spec_l3Any.f x⟩
noncomputable def spec_l3Any.env : Env := [(67, [spec_l3Used.ctr]), (80, [spec_l3Disk.ctr]), (81, [spec_l1Below.ctr]), (82, [spec_l1PickInt.ctr]), (83, [spec_l1Pick.ctr]), (84, [spec_Dec.ctr])]
def spec_l3Any.ann : Ann := ⟨[(1, ([(0, .ptr (.pair (.sl false (.int .u8)) (.pair (.int .i64) (.int .i64)))), (2, .ptr (.pair (.sl true (.pair .str (.pair .str (.int .i64)))) (.pair (.int .i64) (.pair (.int .i64) .bool)))), (3, .ptr (.pair (.sl true (.pair .str (.pair .str (.int .i64)))) (.pair (.int .i64) (.pair (.int .i64) .bool)))), (4, .val (.int .i64))], [(.exit 1, [(0, .ptr (.pair (.sl false (.int .u8)) (.pair (.int .i64) (.int .i64)))), (2, .ptr (.pair (.sl true (.pair .str (.pair .str (.int .i64)))) (.pair (.int .i64) (.pair (.int .i64) .bool)))), (3, .ptr (.pair (.sl true (.pair .str (.pair .str (.int .i64)))) (.pair (.int .i64) (.pair (.int .i64) .bool))))])]))], [], []⟩
theorem spec_l3Any.ok : CtrOk Try.prog 50 spec_l3Any.ctr := fn_sound (A := spec_l3Any.ann) tabOk (EnvOk.cons (ctrs_cons spec_l3Used.ok ctrs_nil) (EnvOk.cons (ctrs_cons spec_l3Disk.ok ctrs_nil) (EnvOk.cons (ctrs_cons spec_l1Below.ok ctrs_nil) (EnvOk.cons (ctrs_cons spec_l1PickInt.ok ctrs_nil) (EnvOk.cons (ctrs_cons spec_l1Pick.ok ctrs_nil) (EnvOk.cons (ctrs_cons spec_Dec.ok ctrs_nil) EnvOk.nil)))))) mixed (fn := Try.f50) (body := bodyOf Try.f50) Try.func50 (by kernel_rfl) (by kernel_rfl) (fun x => by kernel_rfl)

def spec_DrawAppend.sig : Sig := ⟨[.val (.sl false (.int .u8))], [.val (.pair (.sl true (.pair .str (.pair .str (.int .i64)))) (.pair (.int .i64) (.pair (.int .i64) .bool))), .val .str, .val .str]⟩
noncomputable def spec_DrawAppend.ctr : Ctr := ⟨spec_DrawAppend.sig, fun x => spec_DrawAppend.f x⟩
noncomputable def spec_DrawAppend.env : Env := [(49, [spec_l1New.ctr]), (50, [spec_l3Any.ctr]), (51, [spec_l3Name.ctr]), (52, [spec_l1Text.ctr])]
def spec_DrawAppend.ann : Ann := ⟨[], [], []⟩
theorem spec_DrawAppend.ok : CtrOk Try.prog 23 spec_DrawAppend.ctr := fn_sound (A := spec_DrawAppend.ann) tabOk (EnvOk.cons (ctrs_cons spec_l1New.ok ctrs_nil) (EnvOk.cons (ctrs_cons spec_l3Any.ok ctrs_nil) (EnvOk.cons (ctrs_cons spec_l3Name.ok ctrs_nil) (EnvOk.cons (ctrs_cons spec_l1Text.ok ctrs_nil) EnvOk.nil)))) mixed (fn := Try.f23) (body := bodyOf Try.f23) Try.func23 (by kernel_rfl) (by kernel_rfl) (fun x => by kernel_rfl)

def laws_at.sig : Sig := ⟨[.val (.sl false (.int .u8)), .val (.int .i64)], [.val (.int .i64)]⟩
noncomputable def laws_at.ctr : Ctr := ⟨laws_at.sig, fun x => laws_at.f x.1 x.2⟩
noncomputable def laws_at.env : Env := []
def laws_at.ann : Ann := ⟨[], [], []⟩
theorem laws_at.ok : CtrOk Try.prog 24 laws_at.ctr := fn_sound (A := laws_at.ann) tabOk EnvOk.nil mixed (fn := Try.f24) (body := bodyOf Try.f24) Try.func24 (by kernel_rfl) (by kernel_rfl) (fun x => by kernel_rfl)

def impl_fileAt.sig : Sig := ⟨[.val (.pair (.sl false (.pair .str (.pair .str (.int .i64)))) (.pair (.int .i64) (.pair (.int .i64) .bool))), .val .str], [.val (.int .i64)]⟩
noncomputable def impl_fileAt.ctr : Ctr := ⟨impl_fileAt.sig, fun x => impl_fileAt.f x.1 x.2⟩
noncomputable def impl_fileAt.env : Env := []
def impl_fileAt.ann : Ann := ⟨[(0, ([(1, .val .str), (8, .val (.sl false (.pair .str (.pair .str (.int .i64))))), (9, .val (.int .i64)), (10, .val (.int .i64))], [(.exit 0, []), (.ret, [(4, .val (.int .i64))])]))], [], []⟩
theorem impl_fileAt.ok : CtrOk Try.prog 55 impl_fileAt.ctr := fn_sound (A := impl_fileAt.ann) tabOk EnvOk.nil mixed (fn := Try.f55) (body := bodyOf Try.f55) Try.func55 (by kernel_rfl) (by kernel_rfl) (fun x => by kernel_rfl)

def impl_used.sig : Sig := ⟨[.val (.pair (.sl false (.pair .str (.pair .str (.int .i64)))) (.pair (.int .i64) (.pair (.int .i64) .bool)))], [.val (.int .i64)]⟩
noncomputable def impl_used.ctr : Ctr := ⟨impl_used.sig, fun x => impl_used.f x⟩
noncomputable def impl_used.env : Env := []
def impl_used.ann : Ann := ⟨[(0, ([(3, .val (.int .i64)), (7, .val (.sl false (.pair .str (.pair .str (.int .i64))))), (8, .val (.int .i64)), (9, .val (.int .i64))], [(.exit 0, [(3, .val (.int .i64))])]))], [], []⟩
theorem impl_used.ok : CtrOk Try.prog 56 impl_used.ctr := fn_sound (A := impl_used.ann) tabOk EnvOk.nil mixed (fn := Try.f56) (body := bodyOf Try.f56) Try.func56 (by kernel_rfl) (by kernel_rfl) (fun x => by kernel_rfl)

def impl_Append_1.sig : Sig := ⟨[.ptr (.pair (.sl true (.pair .str (.pair .str (.int .i64)))) (.pair (.int .i64) (.pair (.int .i64) .bool))), .val (.box none .str), .val (.box none .str)], [.val (.int .i64)]⟩
noncomputable def impl_Append_1.ctr : Ctr := ⟨impl_Append_1.sig, fun x => impl_Append_1.f x.1 x.2.1 x.2.2⟩
noncomputable def impl_Append_1.env : Env := [(55, [impl_fileAt.ctr]), (56, [impl_used.ctr])]
def impl_Append_1.ann : Ann := ⟨[], [], []⟩
theorem impl_Append_1.ok : CtrOk Try.prog 54 impl_Append_1.ctr := fn_sound (A := impl_Append_1.ann) tabOk (EnvOk.cons (ctrs_cons impl_fileAt.ok ctrs_nil) (EnvOk.cons (ctrs_cons impl_used.ok ctrs_nil) EnvOk.nil)) mixed (fn := Try.f54) (body := bodyOf Try.f54) Try.func54 (by kernel_rfl) (by kernel_rfl) (fun x => by kernel_rfl)

def impl_in.sig : Sig := ⟨[.val (.int .i64), .val (.int .i64), .val (.int .i64)], [.val .bool]⟩
noncomputable def impl_in.ctr : Ctr := ⟨impl_in.sig, fun x => impl_in.f x.1 x.2.1 x.2.2⟩
noncomputable def impl_in.env : Env := []
def impl_in.ann : Ann := ⟨[], [], []⟩
theorem impl_in.ok : CtrOk Try.prog 65 impl_in.ctr := fn_sound (A := impl_in.ann) tabOk EnvOk.nil mixed (fn := Try.f65) (body := bodyOf Try.f65) Try.func65 (by kernel_rfl) (by kernel_rfl) (fun x => by kernel_rfl)

def impl_NameOk.sig : Sig := ⟨[.val .str], [.val .bool]⟩
noncomputable def impl_NameOk.ctr : Ctr := ⟨impl_NameOk.sig, fun x => impl_NameOk.f x⟩
noncomputable def impl_NameOk.env : Env := [(65, [impl_in.ctr])]
def impl_NameOk.ann : Ann := ⟨[(0, ([(0, .val .str), (3, .val (.int .i64))], [(.exit 0, [(0, .val .str)]), (.ret, [(2, .val .bool)])]))], [], [(4, [(.normal, [(0, .val .str), (3, .val (.int .i64))]), (.ret, [(2, .val .bool)])])]⟩
theorem impl_NameOk.ok : CtrOk Try.prog 58 impl_NameOk.ctr := fn_sound (A := impl_NameOk.ann) tabOk (EnvOk.cons (ctrs_cons impl_in.ok ctrs_nil) EnvOk.nil) mixed (fn := Try.f58) (body := bodyOf Try.f58) Try.func58 (by kernel_rfl) (by kernel_rfl) (fun x => by kernel_rfl)

def impl_DiskOk.sig : Sig := ⟨[.val (.pair (.sl false (.pair .str (.pair .str (.int .i64)))) (.pair (.int .i64) (.pair (.int .i64) .bool)))], [.val .bool]⟩
noncomputable def impl_DiskOk.ctr : Ctr := ⟨impl_DiskOk.sig, fun x => impl_DiskOk.f x⟩
noncomputable def impl_DiskOk.env : Env := [(58, [impl_NameOk.ctr]), (65, [impl_in.ctr])]
def impl_DiskOk.ann : Ann := ⟨[(0, ([(1, .ptr (.pair (.sl false (.pair .str (.pair .str (.int .i64)))) (.pair (.int .i64) (.pair (.int .i64) .bool)))), (3, .val (.int .i64)), (23, .val (.sl false (.pair .str (.pair .str (.int .i64))))), (24, .val (.int .i64)), (25, .val (.int .i64))], [(.exit 0, [(1, .ptr (.pair (.sl false (.pair .str (.pair .str (.int .i64)))) (.pair (.int .i64) (.pair (.int .i64) .bool)))), (3, .val (.int .i64))]), (.ret, [(2, .val .bool)])]))], [], [(7, [(.normal, [(1, .ptr (.pair (.sl false (.pair .str (.pair .str (.int .i64)))) (.pair (.int .i64) (.pair (.int .i64) .bool)))), (3, .val (.int .i64)), (5, .ptr (.pair .str (.pair .str (.int .i64)))), (23, .val (.sl false (.pair .str (.pair .str (.int .i64))))), (24, .val (.int .i64)), (25, .val (.int .i64))]), (.ret, [(2, .val .bool)])])]⟩
theorem impl_DiskOk.ok : CtrOk Try.prog 70 impl_DiskOk.ctr := fn_sound (A := impl_DiskOk.ann) tabOk (EnvOk.cons (ctrs_cons impl_NameOk.ok ctrs_nil) (EnvOk.cons (ctrs_cons impl_in.ok ctrs_nil) EnvOk.nil)) mixed (fn := Try.f70) (body := bodyOf Try.f70) Try.func70 (by kernel_rfl) (by kernel_rfl) (fun x => by kernel_rfl)

def impl_copyDisk.sig : Sig := ⟨[.val (.pair (.sl false (.pair .str (.pair .str (.int .i64)))) (.pair (.int .i64) (.pair (.int .i64) .bool)))], [.val (.pair (.sl true (.pair .str (.pair .str (.int .i64)))) (.pair (.int .i64) (.pair (.int .i64) .bool)))]⟩
noncomputable def impl_copyDisk.ctr : Ctr := ⟨impl_copyDisk.sig, fun x => impl_copyDisk.f x⟩
noncomputable def impl_copyDisk.env : Env := []
def impl_copyDisk.ann : Ann := ⟨[], [], []⟩
theorem impl_copyDisk.ok : CtrOk Try.prog 86 impl_copyDisk.ctr := fn_sound (A := impl_copyDisk.ann) tabOk EnvOk.nil mixed (fn := Try.f86) (body := bodyOf Try.f86) Try.func86 (by kernel_rfl) (by kernel_rfl) (fun x => by kernel_rfl)

def impl_step_Append_1.sig : Sig := ⟨[.val (.pair (.sl false (.pair .str (.pair .str (.int .i64)))) (.pair (.int .i64) (.pair (.int .i64) .bool))), .val (.box (some 54) (.pair (.box none .str) (.box none .str)))], [.val (.pair (.sl true (.pair .str (.pair .str (.int .i64)))) (.pair (.int .i64) (.pair (.int .i64) .bool))), .val (.int .i64)]⟩
noncomputable def impl_step_Append_1.ctr : Ctr := ⟨impl_step_Append_1.sig, fun x => impl_step_Append_1.f x.1 x.2⟩
noncomputable def impl_step_Append_1.env : Env := [(54, [impl_Append_1.ctr]), (70, [impl_DiskOk.ctr]), (86, [impl_copyDisk.ctr])]
def impl_step_Append_1.ann : Ann := ⟨[], [], [(7, [(.normal, [(1, .val (.box (some 54) (.pair (.box none .str) (.box none .str)))), (4, .ptr (.pair (.sl true (.pair .str (.pair .str (.int .i64)))) (.pair (.int .i64) (.pair (.int .i64) .bool)))), (6, .ptr (.pair (.sl true (.pair .str (.pair .str (.int .i64)))) (.pair (.int .i64) (.pair (.int .i64) .bool))))])])]⟩
theorem impl_step_Append_1.ok : CtrOk Try.prog 53 impl_step_Append_1.ctr := fn_sound (A := impl_step_Append_1.ann) tabOk (EnvOk.cons (ctrs_cons impl_Append_1.ok ctrs_nil) (EnvOk.cons (ctrs_cons impl_DiskOk.ok ctrs_nil) (EnvOk.cons (ctrs_cons impl_copyDisk.ok ctrs_nil) EnvOk.nil))) mixed (fn := Try.f53) (body := bodyOf Try.f53) Try.func53 (by kernel_rfl) (by kernel_rfl) (fun x => by kernel_rfl)

def impl_Append.sig : Sig := ⟨[.val (.pair (.sl false (.pair .str (.pair .str (.int .i64)))) (.pair (.int .i64) (.pair (.int .i64) .bool))), .val .str, .val .str], [.val (.pair (.sl true (.pair .str (.pair .str (.int .i64)))) (.pair (.int .i64) (.pair (.int .i64) .bool))), .val (.int .i64)]⟩
noncomputable def impl_Append.ctr : Ctr := ⟨impl_Append.sig, fun x => impl_Append.f x.1 x.2.1 x.2.2⟩
noncomputable def impl_Append.env : Env := [(53, [impl_step_Append_1.ctr])]
def impl_Append.ann : Ann := ⟨[], [], []⟩
theorem impl_Append.ok : CtrOk Try.prog 25 impl_Append.ctr := fn_sound (A := impl_Append.ann) tabOk (EnvOk.cons (ctrs_cons impl_step_Append_1.ok ctrs_nil) EnvOk.nil) mixed (fn := Try.f25) (body := bodyOf Try.f25) Try.func25 (by kernel_rfl) (by kernel_rfl) (fun x => by kernel_rfl)

def impl_Disk_put.sig : Sig := ⟨[.ptr (.pair (.sl true (.pair .str (.pair .str (.int .i64)))) (.pair (.int .i64) (.pair (.int .i64) .bool))), .val (.pair .str (.pair .str (.int .i64)))], []⟩
noncomputable def impl_Disk_put.ctr : Ctr := ⟨impl_Disk_put.sig, fun x => impl_Disk_put.f x.1 x.2⟩
noncomputable def impl_Disk_put.env : Env := []
def impl_Disk_put.ann : Ann := ⟨[(0, ([(0, .ptr (.pair (.sl true (.pair .str (.pair .str (.int .i64)))) (.pair (.int .i64) (.pair (.int .i64) .bool)))), (3, .ptr (.pair .str (.pair .str (.int .i64)))), (4, .val (.int .i64))], [(.exit 0, [(0, .ptr (.pair (.sl true (.pair .str (.pair .str (.int .i64)))) (.pair (.int .i64) (.pair (.int .i64) .bool)))), (3, .ptr (.pair .str (.pair .str (.int .i64)))), (4, .val (.int .i64))])]))], [], []⟩
theorem impl_Disk_put.ok : CtrOk Try.prog 59 impl_Disk_put.ctr := fn_sound (A := impl_Disk_put.ann) tabOk EnvOk.nil mixed (fn := Try.f59) (body := bodyOf Try.f59) Try.func59 (by kernel_rfl) (by kernel_rfl) (fun x => by kernel_rfl)

def impl_Create_1.sig : Sig := ⟨[.ptr (.pair (.sl true (.pair .str (.pair .str (.int .i64)))) (.pair (.int .i64) (.pair (.int .i64) .bool))), .val (.box none .str)], [.val (.int .i64)]⟩
noncomputable def impl_Create_1.ctr : Ctr := ⟨impl_Create_1.sig, fun x => impl_Create_1.f x.1 x.2⟩
noncomputable def impl_Create_1.env : Env := [(55, [impl_fileAt.ctr]), (58, [impl_NameOk.ctr]), (59, [impl_Disk_put.ctr])]
def impl_Create_1.ann : Ann := ⟨[], [], []⟩
theorem impl_Create_1.ok : CtrOk Try.prog 57 impl_Create_1.ctr := fn_sound (A := impl_Create_1.ann) tabOk (EnvOk.cons (ctrs_cons impl_fileAt.ok ctrs_nil) (EnvOk.cons (ctrs_cons impl_NameOk.ok ctrs_nil) (EnvOk.cons (ctrs_cons impl_Disk_put.ok ctrs_nil) EnvOk.nil))) mixed (fn := Try.f57) (body := bodyOf Try.f57) Try.func57 (by kernel_rfl) (by kernel_rfl) (fun x => by kernel_rfl)

def impl_step_Create_1.sig : Sig := ⟨[.val (.pair (.sl false (.pair .str (.pair .str (.int .i64)))) (.pair (.int .i64) (.pair (.int .i64) .bool))), .val (.box (some 57) (.box none .str))], [.val (.pair (.sl true (.pair .str (.pair .str (.int .i64)))) (.pair (.int .i64) (.pair (.int .i64) .bool))), .val (.int .i64)]⟩
noncomputable def impl_step_Create_1.ctr : Ctr := ⟨impl_step_Create_1.sig, fun x => impl_step_Create_1.f x.1 x.2⟩
noncomputable def impl_step_Create_1.env : Env := [(57, [impl_Create_1.ctr]), (70, [impl_DiskOk.ctr]), (86, [impl_copyDisk.ctr])]
def impl_step_Create_1.ann : Ann := ⟨[], [], [(7, [(.normal, [(1, .val (.box (some 57) (.box none .str))), (4, .ptr (.pair (.sl true (.pair .str (.pair .str (.int .i64)))) (.pair (.int .i64) (.pair (.int .i64) .bool)))), (6, .ptr (.pair (.sl true (.pair .str (.pair .str (.int .i64)))) (.pair (.int .i64) (.pair (.int .i64) .bool))))])])]⟩
theorem impl_step_Create_1.ok : CtrOk Try.prog 53 impl_step_Create_1.ctr := fn_sound (A := impl_step_Create_1.ann) tabOk (EnvOk.cons (ctrs_cons impl_Create_1.ok ctrs_nil) (EnvOk.cons (ctrs_cons impl_DiskOk.ok ctrs_nil) (EnvOk.cons (ctrs_cons impl_copyDisk.ok ctrs_nil) EnvOk.nil))) mixed (fn := Try.f53) (body := bodyOf Try.f53) Try.func53 (by kernel_rfl) (by kernel_rfl) (fun x => by kernel_rfl)

def impl_Create.sig : Sig := ⟨[.val (.pair (.sl false (.pair .str (.pair .str (.int .i64)))) (.pair (.int .i64) (.pair (.int .i64) .bool))), .val .str], [.val (.pair (.sl true (.pair .str (.pair .str (.int .i64)))) (.pair (.int .i64) (.pair (.int .i64) .bool))), .val (.int .i64)]⟩
noncomputable def impl_Create.ctr : Ctr := ⟨impl_Create.sig, fun x => impl_Create.f x.1 x.2⟩
noncomputable def impl_Create.env : Env := [(53, [impl_step_Create_1.ctr])]
def impl_Create.ann : Ann := ⟨[], [], []⟩
theorem impl_Create.ok : CtrOk Try.prog 26 impl_Create.ctr := fn_sound (A := impl_Create.ann) tabOk (EnvOk.cons (ctrs_cons impl_step_Create_1.ok ctrs_nil) EnvOk.nil) mixed (fn := Try.f26) (body := bodyOf Try.f26) Try.func26 (by kernel_rfl) (by kernel_rfl) (fun x => by kernel_rfl)

def impl_Sync_1.sig : Sig := ⟨[.ptr (.pair (.sl true (.pair .str (.pair .str (.int .i64)))) (.pair (.int .i64) (.pair (.int .i64) .bool))), .val (.box none .str)], [.val (.int .i64)]⟩
noncomputable def impl_Sync_1.ctr : Ctr := ⟨impl_Sync_1.sig, fun x => impl_Sync_1.f x.1 x.2⟩
noncomputable def impl_Sync_1.env : Env := [(55, [impl_fileAt.ctr])]
def impl_Sync_1.ann : Ann := ⟨[], [], []⟩
theorem impl_Sync_1.ok : CtrOk Try.prog 60 impl_Sync_1.ctr := fn_sound (A := impl_Sync_1.ann) tabOk (EnvOk.cons (ctrs_cons impl_fileAt.ok ctrs_nil) EnvOk.nil) mixed (fn := Try.f60) (body := bodyOf Try.f60) Try.func60 (by kernel_rfl) (by kernel_rfl) (fun x => by kernel_rfl)

def impl_step_Sync_1.sig : Sig := ⟨[.val (.pair (.sl false (.pair .str (.pair .str (.int .i64)))) (.pair (.int .i64) (.pair (.int .i64) .bool))), .val (.box (some 60) (.box none .str))], [.val (.pair (.sl true (.pair .str (.pair .str (.int .i64)))) (.pair (.int .i64) (.pair (.int .i64) .bool))), .val (.int .i64)]⟩
noncomputable def impl_step_Sync_1.ctr : Ctr := ⟨impl_step_Sync_1.sig, fun x => impl_step_Sync_1.f x.1 x.2⟩
noncomputable def impl_step_Sync_1.env : Env := [(60, [impl_Sync_1.ctr]), (70, [impl_DiskOk.ctr]), (86, [impl_copyDisk.ctr])]
def impl_step_Sync_1.ann : Ann := ⟨[], [], [(7, [(.normal, [(1, .val (.box (some 60) (.box none .str))), (4, .ptr (.pair (.sl true (.pair .str (.pair .str (.int .i64)))) (.pair (.int .i64) (.pair (.int .i64) .bool)))), (6, .ptr (.pair (.sl true (.pair .str (.pair .str (.int .i64)))) (.pair (.int .i64) (.pair (.int .i64) .bool))))])])]⟩
theorem impl_step_Sync_1.ok : CtrOk Try.prog 53 impl_step_Sync_1.ctr := fn_sound (A := impl_step_Sync_1.ann) tabOk (EnvOk.cons (ctrs_cons impl_Sync_1.ok ctrs_nil) (EnvOk.cons (ctrs_cons impl_DiskOk.ok ctrs_nil) (EnvOk.cons (ctrs_cons impl_copyDisk.ok ctrs_nil) EnvOk.nil))) mixed (fn := Try.f53) (body := bodyOf Try.f53) Try.func53 (by kernel_rfl) (by kernel_rfl) (fun x => by kernel_rfl)

def impl_Sync.sig : Sig := ⟨[.val (.pair (.sl false (.pair .str (.pair .str (.int .i64)))) (.pair (.int .i64) (.pair (.int .i64) .bool))), .val .str], [.val (.pair (.sl true (.pair .str (.pair .str (.int .i64)))) (.pair (.int .i64) (.pair (.int .i64) .bool))), .val (.int .i64)]⟩
noncomputable def impl_Sync.ctr : Ctr := ⟨impl_Sync.sig, fun x => impl_Sync.f x.1 x.2⟩
noncomputable def impl_Sync.env : Env := [(53, [impl_step_Sync_1.ctr])]
def impl_Sync.ann : Ann := ⟨[], [], []⟩
theorem impl_Sync.ok : CtrOk Try.prog 27 impl_Sync.ctr := fn_sound (A := impl_Sync.ann) tabOk (EnvOk.cons (ctrs_cons impl_step_Sync_1.ok ctrs_nil) EnvOk.nil) mixed (fn := Try.f27) (body := bodyOf Try.f27) Try.func27 (by kernel_rfl) (by kernel_rfl) (fun x => by kernel_rfl)

def impl_Disk_drop.sig : Sig := ⟨[.ptr (.pair (.sl true (.pair .str (.pair .str (.int .i64)))) (.pair (.int .i64) (.pair (.int .i64) .bool))), .val .str], []⟩
noncomputable def impl_Disk_drop.ctr : Ctr := ⟨impl_Disk_drop.sig, fun x => impl_Disk_drop.f x.1 x.2⟩
noncomputable def impl_Disk_drop.env : Env := [(55, [impl_fileAt.ctr])]
def impl_Disk_drop.ann : Ann := ⟨[], [], []⟩
theorem impl_Disk_drop.ok : CtrOk Try.prog 62 impl_Disk_drop.ctr := fn_sound (A := impl_Disk_drop.ann) tabOk (EnvOk.cons (ctrs_cons impl_fileAt.ok ctrs_nil) EnvOk.nil) mixed (fn := Try.f62) (body := bodyOf Try.f62) Try.func62 (by kernel_rfl) (by kernel_rfl) (fun x => by kernel_rfl)

def impl_Rename_1.sig : Sig := ⟨[.ptr (.pair (.sl true (.pair .str (.pair .str (.int .i64)))) (.pair (.int .i64) (.pair (.int .i64) .bool))), .val (.box none .str), .val (.box none .str)], [.val (.int .i64)]⟩
noncomputable def impl_Rename_1.ctr : Ctr := ⟨impl_Rename_1.sig, fun x => impl_Rename_1.f x.1 x.2.1 x.2.2⟩
noncomputable def impl_Rename_1.env : Env := [(55, [impl_fileAt.ctr]), (58, [impl_NameOk.ctr]), (59, [impl_Disk_put.ctr]), (62, [impl_Disk_drop.ctr])]
def impl_Rename_1.ann : Ann := ⟨[], [], []⟩
theorem impl_Rename_1.ok : CtrOk Try.prog 61 impl_Rename_1.ctr := fn_sound (A := impl_Rename_1.ann) tabOk (EnvOk.cons (ctrs_cons impl_fileAt.ok ctrs_nil) (EnvOk.cons (ctrs_cons impl_NameOk.ok ctrs_nil) (EnvOk.cons (ctrs_cons impl_Disk_put.ok ctrs_nil) (EnvOk.cons (ctrs_cons impl_Disk_drop.ok ctrs_nil) EnvOk.nil)))) mixed (fn := Try.f61) (body := bodyOf Try.f61) Try.func61 (by kernel_rfl) (by kernel_rfl) (fun x => by kernel_rfl)

def impl_step_Rename_1.sig : Sig := ⟨[.val (.pair (.sl false (.pair .str (.pair .str (.int .i64)))) (.pair (.int .i64) (.pair (.int .i64) .bool))), .val (.box (some 61) (.pair (.box none .str) (.box none .str)))], [.val (.pair (.sl true (.pair .str (.pair .str (.int .i64)))) (.pair (.int .i64) (.pair (.int .i64) .bool))), .val (.int .i64)]⟩
noncomputable def impl_step_Rename_1.ctr : Ctr := ⟨impl_step_Rename_1.sig, fun x => impl_step_Rename_1.f x.1 x.2⟩
noncomputable def impl_step_Rename_1.env : Env := [(61, [impl_Rename_1.ctr]), (70, [impl_DiskOk.ctr]), (86, [impl_copyDisk.ctr])]
def impl_step_Rename_1.ann : Ann := ⟨[], [], [(7, [(.normal, [(1, .val (.box (some 61) (.pair (.box none .str) (.box none .str)))), (4, .ptr (.pair (.sl true (.pair .str (.pair .str (.int .i64)))) (.pair (.int .i64) (.pair (.int .i64) .bool)))), (6, .ptr (.pair (.sl true (.pair .str (.pair .str (.int .i64)))) (.pair (.int .i64) (.pair (.int .i64) .bool))))])])]⟩
theorem impl_step_Rename_1.ok : CtrOk Try.prog 53 impl_step_Rename_1.ctr := fn_sound (A := impl_step_Rename_1.ann) tabOk (EnvOk.cons (ctrs_cons impl_Rename_1.ok ctrs_nil) (EnvOk.cons (ctrs_cons impl_DiskOk.ok ctrs_nil) (EnvOk.cons (ctrs_cons impl_copyDisk.ok ctrs_nil) EnvOk.nil))) mixed (fn := Try.f53) (body := bodyOf Try.f53) Try.func53 (by kernel_rfl) (by kernel_rfl) (fun x => by kernel_rfl)

def impl_Rename.sig : Sig := ⟨[.val (.pair (.sl false (.pair .str (.pair .str (.int .i64)))) (.pair (.int .i64) (.pair (.int .i64) .bool))), .val .str, .val .str], [.val (.pair (.sl true (.pair .str (.pair .str (.int .i64)))) (.pair (.int .i64) (.pair (.int .i64) .bool))), .val (.int .i64)]⟩
noncomputable def impl_Rename.ctr : Ctr := ⟨impl_Rename.sig, fun x => impl_Rename.f x.1 x.2.1 x.2.2⟩
noncomputable def impl_Rename.env : Env := [(53, [impl_step_Rename_1.ctr])]
def impl_Rename.ann : Ann := ⟨[], [], []⟩
theorem impl_Rename.ok : CtrOk Try.prog 28 impl_Rename.ctr := fn_sound (A := impl_Rename.ann) tabOk (EnvOk.cons (ctrs_cons impl_step_Rename_1.ok ctrs_nil) EnvOk.nil) mixed (fn := Try.f28) (body := bodyOf Try.f28) Try.func28 (by kernel_rfl) (by kernel_rfl) (fun x => by kernel_rfl)

def impl_Remove_1.sig : Sig := ⟨[.ptr (.pair (.sl true (.pair .str (.pair .str (.int .i64)))) (.pair (.int .i64) (.pair (.int .i64) .bool))), .val (.box none .str)], [.val (.int .i64)]⟩
noncomputable def impl_Remove_1.ctr : Ctr := ⟨impl_Remove_1.sig, fun x => impl_Remove_1.f x.1 x.2⟩
noncomputable def impl_Remove_1.env : Env := [(55, [impl_fileAt.ctr]), (62, [impl_Disk_drop.ctr])]
def impl_Remove_1.ann : Ann := ⟨[], [], []⟩
theorem impl_Remove_1.ok : CtrOk Try.prog 63 impl_Remove_1.ctr := fn_sound (A := impl_Remove_1.ann) tabOk (EnvOk.cons (ctrs_cons impl_fileAt.ok ctrs_nil) (EnvOk.cons (ctrs_cons impl_Disk_drop.ok ctrs_nil) EnvOk.nil)) mixed (fn := Try.f63) (body := bodyOf Try.f63) Try.func63 (by kernel_rfl) (by kernel_rfl) (fun x => by kernel_rfl)

def impl_step_Remove_1.sig : Sig := ⟨[.val (.pair (.sl false (.pair .str (.pair .str (.int .i64)))) (.pair (.int .i64) (.pair (.int .i64) .bool))), .val (.box (some 63) (.box none .str))], [.val (.pair (.sl true (.pair .str (.pair .str (.int .i64)))) (.pair (.int .i64) (.pair (.int .i64) .bool))), .val (.int .i64)]⟩
noncomputable def impl_step_Remove_1.ctr : Ctr := ⟨impl_step_Remove_1.sig, fun x => impl_step_Remove_1.f x.1 x.2⟩
noncomputable def impl_step_Remove_1.env : Env := [(63, [impl_Remove_1.ctr]), (70, [impl_DiskOk.ctr]), (86, [impl_copyDisk.ctr])]
def impl_step_Remove_1.ann : Ann := ⟨[], [], [(7, [(.normal, [(1, .val (.box (some 63) (.box none .str))), (4, .ptr (.pair (.sl true (.pair .str (.pair .str (.int .i64)))) (.pair (.int .i64) (.pair (.int .i64) .bool)))), (6, .ptr (.pair (.sl true (.pair .str (.pair .str (.int .i64)))) (.pair (.int .i64) (.pair (.int .i64) .bool))))])])]⟩
theorem impl_step_Remove_1.ok : CtrOk Try.prog 53 impl_step_Remove_1.ctr := fn_sound (A := impl_step_Remove_1.ann) tabOk (EnvOk.cons (ctrs_cons impl_Remove_1.ok ctrs_nil) (EnvOk.cons (ctrs_cons impl_DiskOk.ok ctrs_nil) (EnvOk.cons (ctrs_cons impl_copyDisk.ok ctrs_nil) EnvOk.nil))) mixed (fn := Try.f53) (body := bodyOf Try.f53) Try.func53 (by kernel_rfl) (by kernel_rfl) (fun x => by kernel_rfl)

def impl_Remove.sig : Sig := ⟨[.val (.pair (.sl false (.pair .str (.pair .str (.int .i64)))) (.pair (.int .i64) (.pair (.int .i64) .bool))), .val .str], [.val (.pair (.sl true (.pair .str (.pair .str (.int .i64)))) (.pair (.int .i64) (.pair (.int .i64) .bool))), .val (.int .i64)]⟩
noncomputable def impl_Remove.ctr : Ctr := ⟨impl_Remove.sig, fun x => impl_Remove.f x.1 x.2⟩
noncomputable def impl_Remove.env : Env := [(53, [impl_step_Remove_1.ctr])]
def impl_Remove.ann : Ann := ⟨[], [], []⟩
theorem impl_Remove.ok : CtrOk Try.prog 29 impl_Remove.ctr := fn_sound (A := impl_Remove.ann) tabOk (EnvOk.cons (ctrs_cons impl_step_Remove_1.ok ctrs_nil) EnvOk.nil) mixed (fn := Try.f29) (body := bodyOf Try.f29) Try.func29 (by kernel_rfl) (by kernel_rfl) (fun x => by kernel_rfl)

def impl_Truncate_1.sig : Sig := ⟨[.ptr (.pair (.sl true (.pair .str (.pair .str (.int .i64)))) (.pair (.int .i64) (.pair (.int .i64) .bool))), .val (.box none .str), .val (.box none (.int .i64))], [.val (.int .i64)]⟩
noncomputable def impl_Truncate_1.ctr : Ctr := ⟨impl_Truncate_1.sig, fun x => impl_Truncate_1.f x.1 x.2.1 x.2.2⟩
noncomputable def impl_Truncate_1.env : Env := [(55, [impl_fileAt.ctr]), (65, [impl_in.ctr])]
def impl_Truncate_1.ann : Ann := ⟨[], [], []⟩
theorem impl_Truncate_1.ok : CtrOk Try.prog 64 impl_Truncate_1.ctr := fn_sound (A := impl_Truncate_1.ann) tabOk (EnvOk.cons (ctrs_cons impl_fileAt.ok ctrs_nil) (EnvOk.cons (ctrs_cons impl_in.ok ctrs_nil) EnvOk.nil)) mixed (fn := Try.f64) (body := bodyOf Try.f64) Try.func64 (by kernel_rfl) (by kernel_rfl) (fun x => by kernel_rfl)

def impl_step_Truncate_1.sig : Sig := ⟨[.val (.pair (.sl false (.pair .str (.pair .str (.int .i64)))) (.pair (.int .i64) (.pair (.int .i64) .bool))), .val (.box (some 64) (.pair (.box none .str) (.box none (.int .i64))))], [.val (.pair (.sl true (.pair .str (.pair .str (.int .i64)))) (.pair (.int .i64) (.pair (.int .i64) .bool))), .val (.int .i64)]⟩
noncomputable def impl_step_Truncate_1.ctr : Ctr := ⟨impl_step_Truncate_1.sig, fun x => impl_step_Truncate_1.f x.1 x.2⟩
noncomputable def impl_step_Truncate_1.env : Env := [(64, [impl_Truncate_1.ctr]), (70, [impl_DiskOk.ctr]), (86, [impl_copyDisk.ctr])]
def impl_step_Truncate_1.ann : Ann := ⟨[], [], [(7, [(.normal, [(1, .val (.box (some 64) (.pair (.box none .str) (.box none (.int .i64))))), (4, .ptr (.pair (.sl true (.pair .str (.pair .str (.int .i64)))) (.pair (.int .i64) (.pair (.int .i64) .bool)))), (6, .ptr (.pair (.sl true (.pair .str (.pair .str (.int .i64)))) (.pair (.int .i64) (.pair (.int .i64) .bool))))])])]⟩
theorem impl_step_Truncate_1.ok : CtrOk Try.prog 53 impl_step_Truncate_1.ctr := fn_sound (A := impl_step_Truncate_1.ann) tabOk (EnvOk.cons (ctrs_cons impl_Truncate_1.ok ctrs_nil) (EnvOk.cons (ctrs_cons impl_DiskOk.ok ctrs_nil) (EnvOk.cons (ctrs_cons impl_copyDisk.ok ctrs_nil) EnvOk.nil))) mixed (fn := Try.f53) (body := bodyOf Try.f53) Try.func53 (by kernel_rfl) (by kernel_rfl) (fun x => by kernel_rfl)

def impl_Truncate.sig : Sig := ⟨[.val (.pair (.sl false (.pair .str (.pair .str (.int .i64)))) (.pair (.int .i64) (.pair (.int .i64) .bool))), .val .str, .val (.int .i64)], [.val (.pair (.sl true (.pair .str (.pair .str (.int .i64)))) (.pair (.int .i64) (.pair (.int .i64) .bool))), .val (.int .i64)]⟩
noncomputable def impl_Truncate.ctr : Ctr := ⟨impl_Truncate.sig, fun x => impl_Truncate.f x.1 x.2.1 x.2.2⟩
noncomputable def impl_Truncate.env : Env := [(53, [impl_step_Truncate_1.ctr])]
def impl_Truncate.ann : Ann := ⟨[], [], []⟩
theorem impl_Truncate.ok : CtrOk Try.prog 30 impl_Truncate.ctr := fn_sound (A := impl_Truncate.ann) tabOk (EnvOk.cons (ctrs_cons impl_step_Truncate_1.ok ctrs_nil) EnvOk.nil) mixed (fn := Try.f30) (body := bodyOf Try.f30) Try.func30 (by kernel_rfl) (by kernel_rfl) (fun x => by kernel_rfl)

def spec_SameDisk.sig : Sig := ⟨[.val (.pair (.sl false (.pair .str (.pair .str (.int .i64)))) (.pair (.int .i64) (.pair (.int .i64) .bool))), .val (.pair (.sl false (.pair .str (.pair .str (.int .i64)))) (.pair (.int .i64) (.pair (.int .i64) .bool)))], [.val .bool]⟩
noncomputable def spec_SameDisk.ctr : Ctr := ⟨spec_SameDisk.sig, fun x => spec_SameDisk.f x.1 x.2⟩
noncomputable def spec_SameDisk.env : Env := []
def spec_SameDisk.ann : Ann := ⟨[(0, ([(2, .ptr (.pair (.sl false (.pair .str (.pair .str (.int .i64)))) (.pair (.int .i64) (.pair (.int .i64) .bool)))), (3, .ptr (.pair (.sl false (.pair .str (.pair .str (.int .i64)))) (.pair (.int .i64) (.pair (.int .i64) .bool)))), (5, .val (.int .i64))], [(.exit 0, []), (.ret, [(4, .val .bool)])]))], [], []⟩
theorem spec_SameDisk.ok : CtrOk Try.prog 32 spec_SameDisk.ctr := fn_sound (A := spec_SameDisk.ann) tabOk EnvOk.nil mixed (fn := Try.f32) (body := bodyOf Try.f32) Try.func32 (by kernel_rfl) (by kernel_rfl) (fun x => by kernel_rfl)

def spec_FileText.sig : Sig := ⟨[.val (.pair (.sl false (.pair .str (.pair .str (.int .i64)))) (.pair (.int .i64) (.pair (.int .i64) .bool))), .val .str], [.val .str, .val .bool]⟩
noncomputable def spec_FileText.ctr : Ctr := ⟨spec_FileText.sig, fun x => spec_FileText.f x.1 x.2⟩
noncomputable def spec_FileText.env : Env := [(31, [spec_DiskOk.ctr]), (69, [spec_l3Find.ctr])]
def spec_FileText.ann : Ann := ⟨[], [], []⟩
theorem spec_FileText.ok : CtrOk Try.prog 33 spec_FileText.ctr := fn_sound (A := spec_FileText.ann) tabOk (EnvOk.cons (ctrs_cons spec_DiskOk.ok ctrs_nil) (EnvOk.cons (ctrs_cons spec_l3Find.ok ctrs_nil) EnvOk.nil)) mixed (fn := Try.f33) (body := bodyOf Try.f33) Try.func33 (by kernel_rfl) (by kernel_rfl) (fun x => by kernel_rfl)

def impl_FileText.sig : Sig := ⟨[.val (.pair (.sl false (.pair .str (.pair .str (.int .i64)))) (.pair (.int .i64) (.pair (.int .i64) .bool))), .val .str], [.val .str, .val .bool]⟩
noncomputable def impl_FileText.ctr : Ctr := ⟨impl_FileText.sig, fun x => impl_FileText.f x.1 x.2⟩
noncomputable def impl_FileText.env : Env := [(55, [impl_fileAt.ctr]), (70, [impl_DiskOk.ctr])]
def impl_FileText.ann : Ann := ⟨[], [], []⟩
theorem impl_FileText.ok : CtrOk Try.prog 34 impl_FileText.ctr := fn_sound (A := impl_FileText.ann) tabOk (EnvOk.cons (ctrs_cons impl_fileAt.ok ctrs_nil) (EnvOk.cons (ctrs_cons impl_DiskOk.ok ctrs_nil) EnvOk.nil)) mixed (fn := Try.f34) (body := bodyOf Try.f34) Try.func34 (by kernel_rfl) (by kernel_rfl) (fun x => by kernel_rfl)

def laws_FnDisk.sig : Sig := ⟨[.val (.sl false (.int .u8))], [.val .bool]⟩
noncomputable def laws_FnDisk.ctr : Ctr := ⟨laws_FnDisk.sig, fun x => laws_FnDisk.f x⟩
noncomputable def laws_FnDisk.env : Env := [(22, [laws_big.ctr]), (23, [spec_DrawAppend.ctr]), (24, [laws_at.ctr]), (25, [impl_Append.ctr]), (26, [impl_Create.ctr]), (27, [impl_Sync.ctr]), (28, [impl_Rename.ctr]), (29, [impl_Remove.ctr]), (30, [impl_Truncate.ctr]), (31, [spec_DiskOk.ctr]), (32, [spec_SameDisk.ctr]), (33, [spec_FileText.ctr]), (34, [impl_FileText.ctr])]
def laws_FnDisk.ann : Ann := ⟨[(0, ([(0, .val (.sl false (.int .u8))), (3, .ptr (.pair (.sl true (.pair .str (.pair .str (.int .i64)))) (.pair (.int .i64) (.pair (.int .i64) .bool)))), (4, .val .str), (5, .val .str), (6, .val .str), (7, .val (.sl true (.pair (.sl true (.pair .str (.pair .str (.int .i64)))) (.pair (.int .i64) (.pair (.int .i64) .bool))))), (8, .val (.sl true (.int .i64))), (9, .val (.int .i64))], [(.exit 0, [(3, .ptr (.pair (.sl true (.pair .str (.pair .str (.int .i64)))) (.pair (.int .i64) (.pair (.int .i64) .bool)))), (4, .val .str), (5, .val .str), (6, .val .str), (7, .val (.sl true (.pair (.sl true (.pair .str (.pair .str (.int .i64)))) (.pair (.int .i64) (.pair (.int .i64) .bool))))), (8, .val (.sl true (.int .i64)))])])), (3, ([(3, .ptr (.pair (.sl true (.pair .str (.pair .str (.int .i64)))) (.pair (.int .i64) (.pair (.int .i64) .bool)))), (4, .val .str), (5, .val .str), (6, .val .str), (7, .val (.sl true (.pair (.sl true (.pair .str (.pair .str (.int .i64)))) (.pair (.int .i64) (.pair (.int .i64) .bool))))), (8, .val (.sl true (.int .i64))), (12, .val (.int .i64))], [(.exit 3, [(3, .ptr (.pair (.sl true (.pair .str (.pair .str (.int .i64)))) (.pair (.int .i64) (.pair (.int .i64) .bool)))), (4, .val .str), (5, .val .str), (6, .val .str), (7, .val (.sl true (.pair (.sl true (.pair .str (.pair .str (.int .i64)))) (.pair (.int .i64) (.pair (.int .i64) .bool))))), (8, .val (.sl true (.int .i64)))]), (.ret, [(2, .val .bool)])]))], [(4, [(.normal, [(3, .ptr (.pair (.sl true (.pair .str (.pair .str (.int .i64)))) (.pair (.int .i64) (.pair (.int .i64) .bool)))), (4, .val .str), (5, .val .str), (6, .val .str), (7, .val (.sl true (.pair (.sl true (.pair .str (.pair .str (.int .i64)))) (.pair (.int .i64) (.pair (.int .i64) .bool))))), (8, .val (.sl true (.int .i64))), (12, .val (.int .i64))]), (.ret, [(2, .val .bool)])])], [(22, [(.normal, [(0, .val (.sl false (.int .u8))), (3, .ptr (.pair (.sl true (.pair .str (.pair .str (.int .i64)))) (.pair (.int .i64) (.pair (.int .i64) .bool)))), (4, .val .str), (5, .val .str), (6, .val .str), (7, .val (.sl true (.pair (.sl true (.pair .str (.pair .str (.int .i64)))) (.pair (.int .i64) (.pair (.int .i64) .bool))))), (8, .val (.sl true (.int .i64))), (9, .val (.int .i64)), (10, .ptr (.pair (.sl true (.pair .str (.pair .str (.int .i64)))) (.pair (.int .i64) (.pair (.int .i64) .bool)))), (11, .val (.int .i64))])]), (20, [(.normal, [(0, .val (.sl false (.int .u8))), (3, .ptr (.pair (.sl true (.pair .str (.pair .str (.int .i64)))) (.pair (.int .i64) (.pair (.int .i64) .bool)))), (4, .val .str), (5, .val .str), (6, .val .str), (7, .val (.sl true (.pair (.sl true (.pair .str (.pair .str (.int .i64)))) (.pair (.int .i64) (.pair (.int .i64) .bool))))), (8, .val (.sl true (.int .i64))), (9, .val (.int .i64)), (10, .ptr (.pair (.sl true (.pair .str (.pair .str (.int .i64)))) (.pair (.int .i64) (.pair (.int .i64) .bool)))), (11, .val (.int .i64))])]), (18, [(.normal, [(0, .val (.sl false (.int .u8))), (3, .ptr (.pair (.sl true (.pair .str (.pair .str (.int .i64)))) (.pair (.int .i64) (.pair (.int .i64) .bool)))), (4, .val .str), (5, .val .str), (6, .val .str), (7, .val (.sl true (.pair (.sl true (.pair .str (.pair .str (.int .i64)))) (.pair (.int .i64) (.pair (.int .i64) .bool))))), (8, .val (.sl true (.int .i64))), (9, .val (.int .i64)), (10, .ptr (.pair (.sl true (.pair .str (.pair .str (.int .i64)))) (.pair (.int .i64) (.pair (.int .i64) .bool)))), (11, .val (.int .i64))])]), (16, [(.normal, [(0, .val (.sl false (.int .u8))), (3, .ptr (.pair (.sl true (.pair .str (.pair .str (.int .i64)))) (.pair (.int .i64) (.pair (.int .i64) .bool)))), (4, .val .str), (5, .val .str), (6, .val .str), (7, .val (.sl true (.pair (.sl true (.pair .str (.pair .str (.int .i64)))) (.pair (.int .i64) (.pair (.int .i64) .bool))))), (8, .val (.sl true (.int .i64))), (9, .val (.int .i64)), (10, .ptr (.pair (.sl true (.pair .str (.pair .str (.int .i64)))) (.pair (.int .i64) (.pair (.int .i64) .bool)))), (11, .val (.int .i64))])]), (14, [(.normal, [(0, .val (.sl false (.int .u8))), (3, .ptr (.pair (.sl true (.pair .str (.pair .str (.int .i64)))) (.pair (.int .i64) (.pair (.int .i64) .bool)))), (4, .val .str), (5, .val .str), (6, .val .str), (7, .val (.sl true (.pair (.sl true (.pair .str (.pair .str (.int .i64)))) (.pair (.int .i64) (.pair (.int .i64) .bool))))), (8, .val (.sl true (.int .i64))), (9, .val (.int .i64)), (10, .ptr (.pair (.sl true (.pair .str (.pair .str (.int .i64)))) (.pair (.int .i64) (.pair (.int .i64) .bool)))), (11, .val (.int .i64))])]), (31, [(.normal, [(3, .ptr (.pair (.sl true (.pair .str (.pair .str (.int .i64)))) (.pair (.int .i64) (.pair (.int .i64) .bool)))), (4, .val .str), (5, .val .str), (6, .val .str), (7, .val (.sl true (.pair (.sl true (.pair .str (.pair .str (.int .i64)))) (.pair (.int .i64) (.pair (.int .i64) .bool))))), (8, .val (.sl true (.int .i64))), (12, .val (.int .i64))]), (.ret, [(2, .val .bool)])]), (35, [(.normal, [(3, .ptr (.pair (.sl true (.pair .str (.pair .str (.int .i64)))) (.pair (.int .i64) (.pair (.int .i64) .bool)))), (4, .val .str), (5, .val .str), (6, .val .str), (7, .val (.sl true (.pair (.sl true (.pair .str (.pair .str (.int .i64)))) (.pair (.int .i64) (.pair (.int .i64) .bool))))), (8, .val (.sl true (.int .i64))), (12, .val (.int .i64))]), (.ret, [(2, .val .bool)])])]⟩
theorem laws_FnDisk.ok : CtrOk Try.prog 5 laws_FnDisk.ctr := fn_sound (A := laws_FnDisk.ann) tabOk (EnvOk.cons (ctrs_cons laws_big.ok ctrs_nil) (EnvOk.cons (ctrs_cons spec_DrawAppend.ok ctrs_nil) (EnvOk.cons (ctrs_cons laws_at.ok ctrs_nil) (EnvOk.cons (ctrs_cons impl_Append.ok ctrs_nil) (EnvOk.cons (ctrs_cons impl_Create.ok ctrs_nil) (EnvOk.cons (ctrs_cons impl_Sync.ok ctrs_nil) (EnvOk.cons (ctrs_cons impl_Rename.ok ctrs_nil) (EnvOk.cons (ctrs_cons impl_Remove.ok ctrs_nil) (EnvOk.cons (ctrs_cons impl_Truncate.ok ctrs_nil) (EnvOk.cons (ctrs_cons spec_DiskOk.ok ctrs_nil) (EnvOk.cons (ctrs_cons spec_SameDisk.ok ctrs_nil) (EnvOk.cons (ctrs_cons spec_FileText.ok ctrs_nil) (EnvOk.cons (ctrs_cons impl_FileText.ok ctrs_nil) EnvOk.nil))))))))))))) mixed (fn := Try.f5) (body := bodyOf Try.f5) Try.func5 (by kernel_rfl) (by kernel_rfl) (fun x => by kernel_rfl)

end Go.Proofs.Ytljiidpfgfkhcab
