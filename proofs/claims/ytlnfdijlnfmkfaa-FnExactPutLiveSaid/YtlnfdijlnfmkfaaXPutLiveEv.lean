/- Each function of the program that FnExactPutLive reaches comes to its plain function. -/
import Derived.Test.YtlnfdijlnfmkfaaRf5
import Derived.Test.YtlnfdijlnfmkfaaXPutLiveFns
import Derived.Test.YtlnfdijlnfmkfaaProg
namespace Go.Proofs.Ytlnfdijlnfmkfaa
open Go Go.Rf Go.Rf.G Go.Proofs
set_option maxRecDepth 100000
def bodyOf (f : Func) : Code := f.body.getD .skip
def tab : Tab := [(3, ⟨(.int .i64), false, [], none, 8, false⟩),
  (4, ⟨.bool, false, [], none, 1, false⟩),
  (5, ⟨(.int .u8), false, [], none, 1, false⟩),
  (9, ⟨.str, false, [], none, 16, false⟩),
  (22, ⟨(.sl true (.pair .str (.pair .str (.int .i64)))), false, [], some 131, 24, false⟩),
  (24, ⟨(.pair (.sl true (.pair .str (.pair .str (.int .i64)))) (.pair (.int .i64) (.pair (.int .i64) .bool))), true, [(0, 1, false), (1, 1, false), (2, 1, false), (3, 1, false)], none, 48, false⟩),
  (25, ⟨(.sl true (.int .i64)), false, [], some 3, 24, false⟩),
  (27, ⟨(.pair (.int .i64) (.sl true (.int .i64))), true, [(0, 1, false), (1, 1, false)], none, 32, false⟩),
  (30, ⟨(.sl true (.pair .str (.pair .str (.int .i64)))), false, [], some 134, 24, false⟩),
  (32, ⟨(.pair (.sl true (.pair .str (.pair .str (.int .i64)))) (.pair (.int .i64) (.pair (.int .i64) .bool))), true, [(0, 1, false), (1, 1, false), (2, 1, false), (3, 1, false)], none, 48, false⟩),
  (36, ⟨(.pair (.int .i64) (.sl true (.int .i64))), true, [(0, 1, false), (1, 1, false)], none, 32, false⟩),
  (92, ⟨(.pair (.pair (.sl true (.pair .str (.pair .str (.int .i64)))) (.pair (.int .i64) (.pair (.int .i64) .bool))) (.int .i64)), true, [(0, 4, true), (4, 1, false)], none, 56, false⟩),
  (131, ⟨(.pair .str (.pair .str (.int .i64))), true, [(0, 1, false), (1, 1, false), (2, 1, false)], none, 40, true⟩),
  (134, ⟨(.pair .str (.pair .str (.int .i64))), true, [(0, 1, false), (1, 1, false), (2, 1, false)], none, 40, true⟩),
  (149, ⟨(.sl true (.int .u8)), false, [], some 5, 24, false⟩),
  (212, ⟨(.int .u32), false, [], none, 4, false⟩)]
theorem tabOk : TabOk Try.prog tab := Rf.tabOk (by kernel_rfl)
theorem mixed : Try.prog.follows .mixedOrders = true := by kernel_rfl
def laws_szFile.sig : Sig := ⟨[.val (.pair .str (.pair .str (.int .i64))), .val (.int .i64)], [.val (.int .i64)]⟩
noncomputable def laws_szFile.ctr : Ctr := ⟨laws_szFile.sig, fun x => laws_szFile.f x.1 x.2⟩
noncomputable def laws_szFile.env : Env := []
def laws_szFile.ann : Ann := ⟨[], [], []⟩
theorem laws_szFile.ok : CtrOk Try.prog 86 laws_szFile.ctr := fn_sound (A := laws_szFile.ann) tabOk EnvOk.nil mixed (fn := Try.f86) (body := bodyOf Try.f86) Try.func86 (by kernel_rfl) (by kernel_rfl) (fun x => by kernel_rfl)

def laws_szFileS.sig : Sig := ⟨[.val (.sl false (.pair .str (.pair .str (.int .i64)))), .val (.int .i64)], [.val (.int .i64)]⟩
noncomputable def laws_szFileS.ctr : Ctr := ⟨laws_szFileS.sig, fun x => laws_szFileS.f x.1 x.2⟩
noncomputable def laws_szFileS.env : Env := [(86, [laws_szFile.ctr])]
def laws_szFileS.ann : Ann := ⟨[(0, ([(0, .val (.sl false (.pair .str (.pair .str (.int .i64))))), (1, .val (.int .i64)), (5, .val (.int .i64))], [(.exit 0, [(1, .val (.int .i64))]), (.ret, [(4, .val (.int .i64))])]))], [], []⟩
theorem laws_szFileS.ok : CtrOk Try.prog 38 laws_szFileS.ctr := fn_sound (A := laws_szFileS.ann) tabOk (EnvOk.cons (ctrs_cons laws_szFile.ok ctrs_nil) EnvOk.nil) mixed (fn := Try.f38) (body := bodyOf Try.f38) Try.func38 (by kernel_rfl) (by kernel_rfl) (fun x => by kernel_rfl)

def laws_szDisk.sig : Sig := ⟨[.val (.pair (.sl false (.pair .str (.pair .str (.int .i64)))) (.pair (.int .i64) (.pair (.int .i64) .bool))), .val (.int .i64)], [.val (.int .i64)]⟩
noncomputable def laws_szDisk.ctr : Ctr := ⟨laws_szDisk.sig, fun x => laws_szDisk.f x.1 x.2⟩
noncomputable def laws_szDisk.env : Env := [(38, [laws_szFileS.ctr])]
def laws_szDisk.ann : Ann := ⟨[], [], []⟩
theorem laws_szDisk.ok : CtrOk Try.prog 6 laws_szDisk.ctr := fn_sound (A := laws_szDisk.ann) tabOk (EnvOk.cons (ctrs_cons laws_szFileS.ok ctrs_nil) EnvOk.nil) mixed (fn := Try.f6) (body := bodyOf Try.f6) Try.func6 (by kernel_rfl) (by kernel_rfl) (fun x => by kernel_rfl)

def laws_szIntS.sig : Sig := ⟨[.val (.sl false (.int .i64)), .val (.int .i64)], [.val (.int .i64)]⟩
noncomputable def laws_szIntS.ctr : Ctr := ⟨laws_szIntS.sig, fun x => laws_szIntS.f x.1 x.2⟩
noncomputable def laws_szIntS.env : Env := []
def laws_szIntS.ann : Ann := ⟨[], [], []⟩
theorem laws_szIntS.ok : CtrOk Try.prog 39 laws_szIntS.ctr := fn_sound (A := laws_szIntS.ann) tabOk EnvOk.nil mixed (fn := Try.f39) (body := bodyOf Try.f39) Try.func39 (by kernel_rfl) (by kernel_rfl) (fun x => by kernel_rfl)

def laws_szLive.sig : Sig := ⟨[.val (.pair (.int .i64) (.sl false (.int .i64))), .val (.int .i64)], [.val (.int .i64)]⟩
noncomputable def laws_szLive.ctr : Ctr := ⟨laws_szLive.sig, fun x => laws_szLive.f x.1 x.2⟩
noncomputable def laws_szLive.env : Env := [(39, [laws_szIntS.ctr])]
def laws_szLive.ann : Ann := ⟨[], [], []⟩
theorem laws_szLive.ok : CtrOk Try.prog 7 laws_szLive.ctr := fn_sound (A := laws_szLive.ann) tabOk (EnvOk.cons (ctrs_cons laws_szIntS.ok ctrs_nil) EnvOk.nil) mixed (fn := Try.f7) (body := bodyOf Try.f7) Try.func7 (by kernel_rfl) (by kernel_rfl) (fun x => by kernel_rfl)

def spec_l1In.sig : Sig := ⟨[.val (.int .i64), .val (.int .i64), .val (.int .i64)], [.val .bool]⟩
noncomputable def spec_l1In.ctr : Ctr := ⟨spec_l1In.sig, fun x => spec_l1In.f x.1 x.2.1 x.2.2⟩
noncomputable def spec_l1In.env : Env := []
def spec_l1In.ann : Ann := ⟨[], [], []⟩
theorem spec_l1In.ok : CtrOk Try.prog 76 spec_l1In.ctr := fn_sound (A := spec_l1In.ann) tabOk EnvOk.nil mixed (fn := Try.f76) (body := bodyOf Try.f76) Try.func76 (by kernel_rfl) (by kernel_rfl) (fun x => by kernel_rfl)

def spec_l3Used.sig : Sig := ⟨[.val (.pair (.sl false (.pair .str (.pair .str (.int .i64)))) (.pair (.int .i64) (.pair (.int .i64) .bool)))], [.val (.int .i64)]⟩
noncomputable def spec_l3Used.ctr : Ctr := ⟨spec_l3Used.sig, fun x => spec_l3Used.f x⟩
noncomputable def spec_l3Used.env : Env := []
def spec_l3Used.ann : Ann := ⟨[(0, ([(1, .ptr (.pair (.sl false (.pair .str (.pair .str (.int .i64)))) (.pair (.int .i64) (.pair (.int .i64) .bool)))), (3, .val (.int .i64)), (4, .val (.int .i64))], [(.exit 0, [(3, .val (.int .i64))])]))], [], []⟩
theorem spec_l3Used.ok : CtrOk Try.prog 87 spec_l3Used.ctr := fn_sound (A := spec_l3Used.ann) tabOk EnvOk.nil mixed (fn := Try.f87) (body := bodyOf Try.f87) Try.func87 (by kernel_rfl) (by kernel_rfl) (fun x => by kernel_rfl)

def spec_NameOk.sig : Sig := ⟨[.val .str], [.val .bool]⟩
noncomputable def spec_NameOk.ctr : Ctr := ⟨spec_NameOk.sig, fun x => spec_NameOk.f x⟩
noncomputable def spec_NameOk.env : Env := [(76, [spec_l1In.ctr])]
def spec_NameOk.ann : Ann := ⟨[(0, ([(0, .val .str), (3, .val (.int .i64))], [(.exit 0, [(0, .val .str)]), (.ret, [(2, .val .bool)])]))], [], [(4, [(.normal, [(0, .val .str), (3, .val (.int .i64))]), (.ret, [(2, .val .bool)])])]⟩
theorem spec_NameOk.ok : CtrOk Try.prog 88 spec_NameOk.ctr := fn_sound (A := spec_NameOk.ann) tabOk (EnvOk.cons (ctrs_cons spec_l1In.ok ctrs_nil) EnvOk.nil) mixed (fn := Try.f88) (body := bodyOf Try.f88) Try.func88 (by kernel_rfl) (by kernel_rfl) (fun x => by kernel_rfl)

def spec_DiskOk.sig : Sig := ⟨[.val (.pair (.sl false (.pair .str (.pair .str (.int .i64)))) (.pair (.int .i64) (.pair (.int .i64) .bool)))], [.val .bool]⟩
noncomputable def spec_DiskOk.ctr : Ctr := ⟨spec_DiskOk.sig, fun x => spec_DiskOk.f x⟩
noncomputable def spec_DiskOk.env : Env := [(76, [spec_l1In.ctr]), (87, [spec_l3Used.ctr]), (88, [spec_NameOk.ctr])]
def spec_DiskOk.ann : Ann := ⟨[(0, ([(1, .ptr (.pair (.sl false (.pair .str (.pair .str (.int .i64)))) (.pair (.int .i64) (.pair (.int .i64) .bool)))), (3, .val (.int .i64))], [(.exit 0, []), (.ret, [(2, .val .bool)])]))], [], [(6, [(.normal, [(1, .ptr (.pair (.sl false (.pair .str (.pair .str (.int .i64)))) (.pair (.int .i64) (.pair (.int .i64) .bool)))), (3, .val (.int .i64))]), (.ret, [(2, .val .bool)])])]⟩
theorem spec_DiskOk.ok : CtrOk Try.prog 40 spec_DiskOk.ctr := fn_sound (A := spec_DiskOk.ann) tabOk (EnvOk.cons (ctrs_cons spec_l1In.ok ctrs_nil) (EnvOk.cons (ctrs_cons spec_l3Used.ok ctrs_nil) (EnvOk.cons (ctrs_cons spec_NameOk.ok ctrs_nil) EnvOk.nil))) mixed (fn := Try.f40) (body := bodyOf Try.f40) Try.func40 (by kernel_rfl) (by kernel_rfl) (fun x => by kernel_rfl)

def spec_LiveOk.sig : Sig := ⟨[.val (.pair (.int .i64) (.sl false (.int .i64)))], [.val .bool]⟩
noncomputable def spec_LiveOk.ctr : Ctr := ⟨spec_LiveOk.sig, fun x => spec_LiveOk.f x⟩
noncomputable def spec_LiveOk.env : Env := [(76, [spec_l1In.ctr])]
def spec_LiveOk.ann : Ann := ⟨[(0, ([(1, .ptr (.pair (.int .i64) (.sl false (.int .i64)))), (3, .val (.int .i64))], [(.exit 0, []), (.ret, [(2, .val .bool)])]))], [], [(6, [(.normal, [(1, .ptr (.pair (.int .i64) (.sl false (.int .i64)))), (3, .val (.int .i64))]), (.ret, [(2, .val .bool)])])]⟩
theorem spec_LiveOk.ok : CtrOk Try.prog 41 spec_LiveOk.ctr := fn_sound (A := spec_LiveOk.ann) tabOk (EnvOk.cons (ctrs_cons spec_l1In.ok ctrs_nil) EnvOk.nil) mixed (fn := Try.f41) (body := bodyOf Try.f41) Try.func41 (by kernel_rfl) (by kernel_rfl) (fun x => by kernel_rfl)

def spec_l3Copy.sig : Sig := ⟨[.val (.pair (.sl false (.pair .str (.pair .str (.int .i64)))) (.pair (.int .i64) (.pair (.int .i64) .bool)))], [.val (.pair (.sl true (.pair .str (.pair .str (.int .i64)))) (.pair (.int .i64) (.pair (.int .i64) .bool)))]⟩
noncomputable def spec_l3Copy.ctr : Ctr := ⟨spec_l3Copy.sig, fun x => spec_l3Copy.f x⟩
noncomputable def spec_l3Copy.env : Env := []
def spec_l3Copy.ann : Ann := ⟨[], [], []⟩
theorem spec_l3Copy.ok : CtrOk Try.prog 42 spec_l3Copy.ctr := fn_sound (A := spec_l3Copy.ann) tabOk EnvOk.nil mixed (fn := Try.f42) (body := bodyOf Try.f42) Try.func42 (by kernel_rfl) (by kernel_rfl) (fun x => by kernel_rfl)

def spec_l3Find.sig : Sig := ⟨[.val (.pair (.sl false (.pair .str (.pair .str (.int .i64)))) (.pair (.int .i64) (.pair (.int .i64) .bool))), .val .str], [.val (.int .i64)]⟩
noncomputable def spec_l3Find.ctr : Ctr := ⟨spec_l3Find.sig, fun x => spec_l3Find.f x.1 x.2⟩
noncomputable def spec_l3Find.env : Env := []
def spec_l3Find.ann : Ann := ⟨[(0, ([(1, .val .str), (2, .ptr (.pair (.sl false (.pair .str (.pair .str (.int .i64)))) (.pair (.int .i64) (.pair (.int .i64) .bool)))), (5, .val (.int .i64))], [(.exit 0, []), (.ret, [(4, .val (.int .i64))])]))], [], []⟩
theorem spec_l3Find.ok : CtrOk Try.prog 95 spec_l3Find.ctr := fn_sound (A := spec_l3Find.ann) tabOk EnvOk.nil mixed (fn := Try.f95) (body := bodyOf Try.f95) Try.func95 (by kernel_rfl) (by kernel_rfl) (fun x => by kernel_rfl)

def spec_l3Begin.sig : Sig := ⟨[.val (.pair (.sl false (.pair .str (.pair .str (.int .i64)))) (.pair (.int .i64) (.pair (.int .i64) .bool)))], [.val (.pair (.sl true (.pair .str (.pair .str (.int .i64)))) (.pair (.int .i64) (.pair (.int .i64) .bool))), .val (.int .i64)]⟩
noncomputable def spec_l3Begin.ctr : Ctr := ⟨spec_l3Begin.sig, fun x => spec_l3Begin.f x⟩
noncomputable def spec_l3Begin.env : Env := [(40, [spec_DiskOk.ctr]), (42, [spec_l3Copy.ctr])]
def spec_l3Begin.ann : Ann := ⟨[], [], []⟩
theorem spec_l3Begin.ok : CtrOk Try.prog 94 spec_l3Begin.ctr := fn_sound (A := spec_l3Begin.ann) tabOk (EnvOk.cons (ctrs_cons spec_DiskOk.ok ctrs_nil) (EnvOk.cons (ctrs_cons spec_l3Copy.ok ctrs_nil) EnvOk.nil)) mixed (fn := Try.f94) (body := bodyOf Try.f94) Try.func94 (by kernel_rfl) (by kernel_rfl) (fun x => by kernel_rfl)

def spec_l3Without.sig : Sig := ⟨[.val (.sl false (.pair .str (.pair .str (.int .i64)))), .val (.int .i64)], [.val (.sl true (.pair .str (.pair .str (.int .i64))))]⟩
noncomputable def spec_l3Without.ctr : Ctr := ⟨spec_l3Without.sig, fun x => spec_l3Without.f x.1 x.2⟩
noncomputable def spec_l3Without.env : Env := []
def spec_l3Without.ann : Ann := ⟨[], [], []⟩
theorem spec_l3Without.ok : CtrOk Try.prog 96 spec_l3Without.ctr := fn_sound (A := spec_l3Without.ann) tabOk EnvOk.nil mixed (fn := Try.f96) (body := bodyOf Try.f96) Try.func96 (by kernel_rfl) (by kernel_rfl) (fun x => by kernel_rfl)

def spec_Remove.sig : Sig := ⟨[.val (.pair (.sl false (.pair .str (.pair .str (.int .i64)))) (.pair (.int .i64) (.pair (.int .i64) .bool))), .val .str], [.val (.pair (.sl true (.pair .str (.pair .str (.int .i64)))) (.pair (.int .i64) (.pair (.int .i64) .bool))), .val (.int .i64)]⟩
noncomputable def spec_Remove.ctr : Ctr := ⟨spec_Remove.sig, fun x => spec_Remove.f x.1 x.2⟩
noncomputable def spec_Remove.env : Env := [(94, [spec_l3Begin.ctr]), (95, [spec_l3Find.ctr]), (96, [spec_l3Without.ctr])]
def spec_Remove.ann : Ann := ⟨[], [], []⟩
theorem spec_Remove.ok : CtrOk Try.prog 126 spec_Remove.ctr := fn_sound (A := spec_Remove.ann) tabOk (EnvOk.cons (ctrs_cons spec_l3Begin.ok ctrs_nil) (EnvOk.cons (ctrs_cons spec_l3Find.ok ctrs_nil) (EnvOk.cons (ctrs_cons spec_l3Without.ok ctrs_nil) EnvOk.nil))) mixed (fn := Try.f126) (body := bodyOf Try.f126) Try.func126 (by kernel_rfl) (by kernel_rfl) (fun x => by kernel_rfl)

def spec_l3Insert.sig : Sig := ⟨[.val (.sl false (.pair .str (.pair .str (.int .i64)))), .val (.pair .str (.pair .str (.int .i64)))], [.val (.sl true (.pair .str (.pair .str (.int .i64))))]⟩
noncomputable def spec_l3Insert.ctr : Ctr := ⟨spec_l3Insert.sig, fun x => spec_l3Insert.f x.1 x.2⟩
noncomputable def spec_l3Insert.env : Env := []
def spec_l3Insert.ann : Ann := ⟨[(0, ([(0, .val (.sl false (.pair .str (.pair .str (.int .i64))))), (3, .ptr (.pair .str (.pair .str (.int .i64)))), (5, .val (.sl true (.pair .str (.pair .str (.int .i64))))), (6, .val .bool), (7, .val (.int .i64))], [(.exit 0, [(3, .ptr (.pair .str (.pair .str (.int .i64)))), (5, .val (.sl true (.pair .str (.pair .str (.int .i64))))), (6, .val .bool)])]))], [], [(6, [(.normal, [(0, .val (.sl false (.pair .str (.pair .str (.int .i64))))), (3, .ptr (.pair .str (.pair .str (.int .i64)))), (5, .val (.sl true (.pair .str (.pair .str (.int .i64))))), (6, .val .bool), (7, .val (.int .i64))])])]⟩
theorem spec_l3Insert.ok : CtrOk Try.prog 97 spec_l3Insert.ctr := fn_sound (A := spec_l3Insert.ann) tabOk EnvOk.nil mixed (fn := Try.f97) (body := bodyOf Try.f97) Try.func97 (by kernel_rfl) (by kernel_rfl) (fun x => by kernel_rfl)

def spec_Create.sig : Sig := ⟨[.val (.pair (.sl false (.pair .str (.pair .str (.int .i64)))) (.pair (.int .i64) (.pair (.int .i64) .bool))), .val .str], [.val (.pair (.sl true (.pair .str (.pair .str (.int .i64)))) (.pair (.int .i64) (.pair (.int .i64) .bool))), .val (.int .i64)]⟩
noncomputable def spec_Create.ctr : Ctr := ⟨spec_Create.sig, fun x => spec_Create.f x.1 x.2⟩
noncomputable def spec_Create.env : Env := [(88, [spec_NameOk.ctr]), (94, [spec_l3Begin.ctr]), (95, [spec_l3Find.ctr]), (97, [spec_l3Insert.ctr])]
def spec_Create.ann : Ann := ⟨[], [], []⟩
theorem spec_Create.ok : CtrOk Try.prog 127 spec_Create.ctr := fn_sound (A := spec_Create.ann) tabOk (EnvOk.cons (ctrs_cons spec_NameOk.ok ctrs_nil) (EnvOk.cons (ctrs_cons spec_l3Begin.ok ctrs_nil) (EnvOk.cons (ctrs_cons spec_l3Find.ok ctrs_nil) (EnvOk.cons (ctrs_cons spec_l3Insert.ok ctrs_nil) EnvOk.nil)))) mixed (fn := Try.f127) (body := bodyOf Try.f127) Try.func127 (by kernel_rfl) (by kernel_rfl) (fun x => by kernel_rfl)

def spec_l11Fresh.sig : Sig := ⟨[.val (.pair (.sl false (.pair .str (.pair .str (.int .i64)))) (.pair (.int .i64) (.pair (.int .i64) .bool))), .val .str], [.val (.pair (.sl true (.pair .str (.pair .str (.int .i64)))) (.pair (.int .i64) (.pair (.int .i64) .bool))), .val (.int .i64)]⟩
noncomputable def spec_l11Fresh.ctr : Ctr := ⟨spec_l11Fresh.sig, fun x => spec_l11Fresh.f x.1 x.2⟩
noncomputable def spec_l11Fresh.env : Env := [(95, [spec_l3Find.ctr]), (126, [spec_Remove.ctr]), (127, [spec_Create.ctr])]
def spec_l11Fresh.ann : Ann := ⟨[], [], [(1, [(.normal, [(1, .val .str), (2, .ptr (.pair (.sl false (.pair .str (.pair .str (.int .i64)))) (.pair (.int .i64) (.pair (.int .i64) .bool)))), (4, .ptr (.pair (.sl true (.pair .str (.pair .str (.int .i64)))) (.pair (.int .i64) (.pair (.int .i64) .bool))))]), (.ret, [(4, .ptr (.pair (.sl true (.pair .str (.pair .str (.int .i64)))) (.pair (.int .i64) (.pair (.int .i64) .bool)))), (5, .val (.int .i64))])])]⟩
theorem spec_l11Fresh.ok : CtrOk Try.prog 89 spec_l11Fresh.ctr := fn_sound (A := spec_l11Fresh.ann) tabOk (EnvOk.cons (ctrs_cons spec_l3Find.ok ctrs_nil) (EnvOk.cons (ctrs_cons spec_Remove.ok ctrs_nil) (EnvOk.cons (ctrs_cons spec_Create.ok ctrs_nil) EnvOk.nil))) mixed (fn := Try.f89) (body := bodyOf Try.f89) Try.func89 (by kernel_rfl) (by kernel_rfl) (fun x => by kernel_rfl)

def spec_Append.sig : Sig := ⟨[.val (.pair (.sl false (.pair .str (.pair .str (.int .i64)))) (.pair (.int .i64) (.pair (.int .i64) .bool))), .val .str, .val .str], [.val (.pair (.sl true (.pair .str (.pair .str (.int .i64)))) (.pair (.int .i64) (.pair (.int .i64) .bool))), .val (.int .i64)]⟩
noncomputable def spec_Append.ctr : Ctr := ⟨spec_Append.sig, fun x => spec_Append.f x.1 x.2.1 x.2.2⟩
noncomputable def spec_Append.env : Env := [(87, [spec_l3Used.ctr]), (94, [spec_l3Begin.ctr]), (95, [spec_l3Find.ctr])]
def spec_Append.ann : Ann := ⟨[], [], []⟩
theorem spec_Append.ok : CtrOk Try.prog 90 spec_Append.ctr := fn_sound (A := spec_Append.ann) tabOk (EnvOk.cons (ctrs_cons spec_l3Used.ok ctrs_nil) (EnvOk.cons (ctrs_cons spec_l3Begin.ok ctrs_nil) (EnvOk.cons (ctrs_cons spec_l3Find.ok ctrs_nil) EnvOk.nil))) mixed (fn := Try.f90) (body := bodyOf Try.f90) Try.func90 (by kernel_rfl) (by kernel_rfl) (fun x => by kernel_rfl)

def spec_Sync.sig : Sig := ⟨[.val (.pair (.sl false (.pair .str (.pair .str (.int .i64)))) (.pair (.int .i64) (.pair (.int .i64) .bool))), .val .str], [.val (.pair (.sl true (.pair .str (.pair .str (.int .i64)))) (.pair (.int .i64) (.pair (.int .i64) .bool))), .val (.int .i64)]⟩
noncomputable def spec_Sync.ctr : Ctr := ⟨spec_Sync.sig, fun x => spec_Sync.f x.1 x.2⟩
noncomputable def spec_Sync.env : Env := [(94, [spec_l3Begin.ctr]), (95, [spec_l3Find.ctr])]
def spec_Sync.ann : Ann := ⟨[], [], []⟩
theorem spec_Sync.ok : CtrOk Try.prog 91 spec_Sync.ctr := fn_sound (A := spec_Sync.ann) tabOk (EnvOk.cons (ctrs_cons spec_l3Begin.ok ctrs_nil) (EnvOk.cons (ctrs_cons spec_l3Find.ok ctrs_nil) EnvOk.nil)) mixed (fn := Try.f91) (body := bodyOf Try.f91) Try.func91 (by kernel_rfl) (by kernel_rfl) (fun x => by kernel_rfl)

def spec_l11File.sig : Sig := ⟨[.val (.pair (.sl false (.pair .str (.pair .str (.int .i64)))) (.pair (.int .i64) (.pair (.int .i64) .bool))), .val .str, .val .str], [.val (.pair (.sl true (.pair .str (.pair .str (.int .i64)))) (.pair (.int .i64) (.pair (.int .i64) .bool))), .val (.int .i64)]⟩
noncomputable def spec_l11File.ctr : Ctr := ⟨spec_l11File.sig, fun x => spec_l11File.f x.1 x.2.1 x.2.2⟩
noncomputable def spec_l11File.env : Env := [(89, [spec_l11Fresh.ctr]), (90, [spec_Append.ctr]), (91, [spec_Sync.ctr])]
def spec_l11File.ann : Ann := ⟨[], [], [(2, [(.normal, [(1, .val .str), (6, .ptr (.pair (.sl true (.pair .str (.pair .str (.int .i64)))) (.pair (.int .i64) (.pair (.int .i64) .bool)))), (8, .ptr (.pair (.sl true (.pair .str (.pair .str (.int .i64)))) (.pair (.int .i64) (.pair (.int .i64) .bool)))), (9, .val (.int .i64))])])]⟩
theorem spec_l11File.ok : CtrOk Try.prog 43 spec_l11File.ctr := fn_sound (A := spec_l11File.ann) tabOk (EnvOk.cons (ctrs_cons spec_l11Fresh.ok ctrs_nil) (EnvOk.cons (ctrs_cons spec_Append.ok ctrs_nil) (EnvOk.cons (ctrs_cons spec_Sync.ok ctrs_nil) EnvOk.nil))) mixed (fn := Try.f43) (body := bodyOf Try.f43) Try.func43 (by kernel_rfl) (by kernel_rfl) (fun x => by kernel_rfl)

def spec_Var.sig : Sig := ⟨[.val (.int .i64)], [.val .str]⟩
noncomputable def spec_Var.ctr : Ctr := ⟨spec_Var.sig, fun x => spec_Var.f x⟩
noncomputable def spec_Var.env : Env := [(76, [spec_l1In.ctr])]
def spec_Var.ann : Ann := ⟨[(0, ([(0, .val (.int .i64)), (3, .val (.sl true (.int .u8)))], [(.exit 0, [(0, .val (.int .i64)), (3, .val (.sl true (.int .u8)))])]))], [], []⟩
theorem spec_Var.ok : CtrOk Try.prog 92 spec_Var.ctr := fn_sound (A := spec_Var.ann) tabOk (EnvOk.cons (ctrs_cons spec_l1In.ok ctrs_nil) EnvOk.nil) mixed (fn := Try.f92) (body := bodyOf Try.f92) Try.func92 (by kernel_rfl) (by kernel_rfl) (fun x => by kernel_rfl)

def spec_Fixed.sig : Sig := ⟨[.val (.int .i64), .val (.int .i64)], [.val .str]⟩
noncomputable def spec_Fixed.ctr : Ctr := ⟨spec_Fixed.sig, fun x => spec_Fixed.f x.1 x.2⟩
noncomputable def spec_Fixed.env : Env := [(76, [spec_l1In.ctr])]
def spec_Fixed.ann : Ann := ⟨[(0, ([(0, .val (.int .i64)), (1, .val (.int .i64)), (5, .val .str), (6, .val (.int .i64))], [(.exit 0, [(0, .val (.int .i64)), (5, .val .str)])]))], [], []⟩
theorem spec_Fixed.ok : CtrOk Try.prog 128 spec_Fixed.ctr := fn_sound (A := spec_Fixed.ann) tabOk (EnvOk.cons (ctrs_cons spec_l1In.ok ctrs_nil) EnvOk.nil) mixed (fn := Try.f128) (body := bodyOf Try.f128) Try.func128 (by kernel_rfl) (by kernel_rfl) (fun x => by kernel_rfl)

def spec_Crc.sig : Sig := ⟨[.val .str], [.val (.int .i64)]⟩
noncomputable def spec_Crc.ctr : Ctr := ⟨spec_Crc.sig, fun x => spec_Crc.f x⟩
noncomputable def spec_Crc.env : Env := []
def spec_Crc.ann : Ann := ⟨[(2, ([(0, .val .str), (3, .val (.int .i64)), (4, .val (.int .i64)), (5, .val (.int .i64))], [(.exit 2, [(0, .val .str), (3, .val (.int .i64)), (4, .val (.int .i64))])])), (0, ([(0, .val .str), (3, .val (.int .i64)), (4, .val (.int .i64))], [(.exit 0, [(3, .val (.int .i64))])]))], [], [(11, [(.normal, [(0, .val .str), (3, .val (.int .i64)), (4, .val (.int .i64)), (5, .val (.int .i64))])])]⟩
theorem spec_Crc.ok : CtrOk Try.prog 129 spec_Crc.ctr := fn_sound (A := spec_Crc.ann) tabOk EnvOk.nil mixed (fn := Try.f129) (body := bodyOf Try.f129) Try.func129 (by kernel_rfl) (by kernel_rfl) (fun x => by kernel_rfl)

def spec_Frame.sig : Sig := ⟨[.val .str], [.val .str]⟩
noncomputable def spec_Frame.ctr : Ctr := ⟨spec_Frame.sig, fun x => spec_Frame.f x⟩
noncomputable def spec_Frame.env : Env := [(92, [spec_Var.ctr]), (128, [spec_Fixed.ctr]), (129, [spec_Crc.ctr])]
def spec_Frame.ann : Ann := ⟨[], [], []⟩
theorem spec_Frame.ok : CtrOk Try.prog 93 spec_Frame.ctr := fn_sound (A := spec_Frame.ann) tabOk (EnvOk.cons (ctrs_cons spec_Var.ok ctrs_nil) (EnvOk.cons (ctrs_cons spec_Fixed.ok ctrs_nil) (EnvOk.cons (ctrs_cons spec_Crc.ok ctrs_nil) EnvOk.nil))) mixed (fn := Try.f93) (body := bodyOf Try.f93) Try.func93 (by kernel_rfl) (by kernel_rfl) (fun x => by kernel_rfl)

def spec_ShowLive.sig : Sig := ⟨[.val (.pair (.int .i64) (.sl false (.int .i64)))], [.val .str]⟩
noncomputable def spec_ShowLive.ctr : Ctr := ⟨spec_ShowLive.sig, fun x => spec_ShowLive.f x⟩
noncomputable def spec_ShowLive.env : Env := [(41, [spec_LiveOk.ctr]), (92, [spec_Var.ctr]), (93, [spec_Frame.ctr])]
def spec_ShowLive.ann : Ann := ⟨[(0, ([(1, .ptr (.pair (.int .i64) (.sl false (.int .i64)))), (3, .val .str), (4, .val (.int .i64))], [(.exit 0, [(3, .val .str)])]))], [], []⟩
theorem spec_ShowLive.ok : CtrOk Try.prog 44 spec_ShowLive.ctr := fn_sound (A := spec_ShowLive.ann) tabOk (EnvOk.cons (ctrs_cons spec_LiveOk.ok ctrs_nil) (EnvOk.cons (ctrs_cons spec_Var.ok ctrs_nil) (EnvOk.cons (ctrs_cons spec_Frame.ok ctrs_nil) EnvOk.nil))) mixed (fn := Try.f44) (body := bodyOf Try.f44) Try.func44 (by kernel_rfl) (by kernel_rfl) (fun x => by kernel_rfl)

def spec_Rename.sig : Sig := ⟨[.val (.pair (.sl false (.pair .str (.pair .str (.int .i64)))) (.pair (.int .i64) (.pair (.int .i64) .bool))), .val .str, .val .str], [.val (.pair (.sl true (.pair .str (.pair .str (.int .i64)))) (.pair (.int .i64) (.pair (.int .i64) .bool))), .val (.int .i64)]⟩
noncomputable def spec_Rename.ctr : Ctr := ⟨spec_Rename.sig, fun x => spec_Rename.f x.1 x.2.1 x.2.2⟩
noncomputable def spec_Rename.env : Env := [(88, [spec_NameOk.ctr]), (94, [spec_l3Begin.ctr]), (95, [spec_l3Find.ctr]), (96, [spec_l3Without.ctr]), (97, [spec_l3Insert.ctr])]
def spec_Rename.ann : Ann := ⟨[], [], [(15, [(.normal, [(6, .ptr (.pair (.sl true (.pair .str (.pair .str (.int .i64)))) (.pair (.int .i64) (.pair (.int .i64) .bool)))), (8, .ptr (.pair (.sl true (.pair .str (.pair .str (.int .i64)))) (.pair (.int .i64) (.pair (.int .i64) .bool)))), (11, .ptr (.pair .str (.pair .str (.int .i64))))])])]⟩
theorem spec_Rename.ok : CtrOk Try.prog 45 spec_Rename.ctr := fn_sound (A := spec_Rename.ann) tabOk (EnvOk.cons (ctrs_cons spec_NameOk.ok ctrs_nil) (EnvOk.cons (ctrs_cons spec_l3Begin.ok ctrs_nil) (EnvOk.cons (ctrs_cons spec_l3Find.ok ctrs_nil) (EnvOk.cons (ctrs_cons spec_l3Without.ok ctrs_nil) (EnvOk.cons (ctrs_cons spec_l3Insert.ok ctrs_nil) EnvOk.nil))))) mixed (fn := Try.f45) (body := bodyOf Try.f45) Try.func45 (by kernel_rfl) (by kernel_rfl) (fun x => by kernel_rfl)

def spec_l11Code.sig : Sig := ⟨[.val (.int .i64)], [.val (.int .i64)]⟩
noncomputable def spec_l11Code.ctr : Ctr := ⟨spec_l11Code.sig, fun x => spec_l11Code.f x⟩
noncomputable def spec_l11Code.env : Env := []
def spec_l11Code.ann : Ann := ⟨[], [], []⟩
theorem spec_l11Code.ok : CtrOk Try.prog 46 spec_l11Code.ctr := fn_sound (A := spec_l11Code.ann) tabOk EnvOk.nil mixed (fn := Try.f46) (body := bodyOf Try.f46) Try.func46 (by kernel_rfl) (by kernel_rfl) (fun x => by kernel_rfl)

def spec_PutLive.sig : Sig := ⟨[.val (.pair (.sl false (.pair .str (.pair .str (.int .i64)))) (.pair (.int .i64) (.pair (.int .i64) .bool))), .val (.pair (.int .i64) (.sl false (.int .i64)))], [.val (.pair (.sl true (.pair .str (.pair .str (.int .i64)))) (.pair (.int .i64) (.pair (.int .i64) .bool))), .val (.int .i64)]⟩
noncomputable def spec_PutLive.ctr : Ctr := ⟨spec_PutLive.sig, fun x => spec_PutLive.f x.1 x.2⟩
noncomputable def spec_PutLive.env : Env := [(40, [spec_DiskOk.ctr]), (41, [spec_LiveOk.ctr]), (42, [spec_l3Copy.ctr]), (43, [spec_l11File.ctr]), (44, [spec_ShowLive.ctr]), (45, [spec_Rename.ctr]), (46, [spec_l11Code.ctr])]
def spec_PutLive.ann : Ann := ⟨[], [], [(4, [(.normal, [(4, .ptr (.pair (.sl true (.pair .str (.pair .str (.int .i64)))) (.pair (.int .i64) (.pair (.int .i64) .bool)))), (6, .ptr (.pair (.sl true (.pair .str (.pair .str (.int .i64)))) (.pair (.int .i64) (.pair (.int .i64) .bool)))), (7, .val (.int .i64))])])]⟩
theorem spec_PutLive.ok : CtrOk Try.prog 8 spec_PutLive.ctr := fn_sound (A := spec_PutLive.ann) tabOk (EnvOk.cons (ctrs_cons spec_DiskOk.ok ctrs_nil) (EnvOk.cons (ctrs_cons spec_LiveOk.ok ctrs_nil) (EnvOk.cons (ctrs_cons spec_l3Copy.ok ctrs_nil) (EnvOk.cons (ctrs_cons spec_l11File.ok ctrs_nil) (EnvOk.cons (ctrs_cons spec_ShowLive.ok ctrs_nil) (EnvOk.cons (ctrs_cons spec_Rename.ok ctrs_nil) (EnvOk.cons (ctrs_cons spec_l11Code.ok ctrs_nil) EnvOk.nil))))))) mixed (fn := Try.f8) (body := bodyOf Try.f8) Try.func8 (by kernel_rfl) (by kernel_rfl) (fun x => by kernel_rfl)

def laws_toFile.sig : Sig := ⟨[.val (.pair .str (.pair .str (.int .i64)))], [.val (.pair .str (.pair .str (.int .i64)))]⟩
noncomputable def laws_toFile.ctr : Ctr := ⟨laws_toFile.sig, fun x => laws_toFile.f x⟩
noncomputable def laws_toFile.env : Env := []
def laws_toFile.ann : Ann := ⟨[], [], []⟩
theorem laws_toFile.ok : CtrOk Try.prog 98 laws_toFile.ctr := fn_sound (A := laws_toFile.ann) tabOk EnvOk.nil mixed (fn := Try.f98) (body := bodyOf Try.f98) Try.func98 (by kernel_rfl) (by kernel_rfl) (fun x => by kernel_rfl)

def laws_toFileS.sig : Sig := ⟨[.val (.sl false (.pair .str (.pair .str (.int .i64))))], [.val (.sl true (.pair .str (.pair .str (.int .i64))))]⟩
noncomputable def laws_toFileS.ctr : Ctr := ⟨laws_toFileS.sig, fun x => laws_toFileS.f x⟩
noncomputable def laws_toFileS.env : Env := [(98, [laws_toFile.ctr])]
def laws_toFileS.ann : Ann := ⟨[(0, ([(0, .val (.sl false (.pair .str (.pair .str (.int .i64))))), (3, .val (.sl true (.pair .str (.pair .str (.int .i64))))), (4, .val (.int .i64))], [(.exit 0, [(3, .val (.sl true (.pair .str (.pair .str (.int .i64)))))])]))], [], []⟩
theorem laws_toFileS.ok : CtrOk Try.prog 47 laws_toFileS.ctr := fn_sound (A := laws_toFileS.ann) tabOk (EnvOk.cons (ctrs_cons laws_toFile.ok ctrs_nil) EnvOk.nil) mixed (fn := Try.f47) (body := bodyOf Try.f47) Try.func47 (by kernel_rfl) (by kernel_rfl) (fun x => by kernel_rfl)

def laws_toDisk.sig : Sig := ⟨[.val (.pair (.sl false (.pair .str (.pair .str (.int .i64)))) (.pair (.int .i64) (.pair (.int .i64) .bool)))], [.val (.pair (.sl true (.pair .str (.pair .str (.int .i64)))) (.pair (.int .i64) (.pair (.int .i64) .bool)))]⟩
noncomputable def laws_toDisk.ctr : Ctr := ⟨laws_toDisk.sig, fun x => laws_toDisk.f x⟩
noncomputable def laws_toDisk.env : Env := [(47, [laws_toFileS.ctr])]
def laws_toDisk.ann : Ann := ⟨[], [], []⟩
theorem laws_toDisk.ok : CtrOk Try.prog 9 laws_toDisk.ctr := fn_sound (A := laws_toDisk.ann) tabOk (EnvOk.cons (ctrs_cons laws_toFileS.ok ctrs_nil) EnvOk.nil) mixed (fn := Try.f9) (body := bodyOf Try.f9) Try.func9 (by kernel_rfl) (by kernel_rfl) (fun x => by kernel_rfl)

def laws_toIntS.sig : Sig := ⟨[.val (.sl false (.int .i64))], [.val (.sl true (.int .i64))]⟩
noncomputable def laws_toIntS.ctr : Ctr := ⟨laws_toIntS.sig, fun x => laws_toIntS.f x⟩
noncomputable def laws_toIntS.env : Env := []
def laws_toIntS.ann : Ann := ⟨[(0, ([(0, .val (.sl false (.int .i64))), (3, .val (.sl true (.int .i64))), (4, .val (.int .i64))], [(.exit 0, [(3, .val (.sl true (.int .i64)))])]))], [], []⟩
theorem laws_toIntS.ok : CtrOk Try.prog 48 laws_toIntS.ctr := fn_sound (A := laws_toIntS.ann) tabOk EnvOk.nil mixed (fn := Try.f48) (body := bodyOf Try.f48) Try.func48 (by kernel_rfl) (by kernel_rfl) (fun x => by kernel_rfl)

def laws_toLive.sig : Sig := ⟨[.val (.pair (.int .i64) (.sl false (.int .i64)))], [.val (.pair (.int .i64) (.sl true (.int .i64)))]⟩
noncomputable def laws_toLive.ctr : Ctr := ⟨laws_toLive.sig, fun x => laws_toLive.f x⟩
noncomputable def laws_toLive.env : Env := [(48, [laws_toIntS.ctr])]
def laws_toLive.ann : Ann := ⟨[], [], []⟩
theorem laws_toLive.ok : CtrOk Try.prog 10 laws_toLive.ctr := fn_sound (A := laws_toLive.ann) tabOk (EnvOk.cons (ctrs_cons laws_toIntS.ok ctrs_nil) EnvOk.nil) mixed (fn := Try.f10) (body := bodyOf Try.f10) Try.func10 (by kernel_rfl) (by kernel_rfl) (fun x => by kernel_rfl)

def impl_in.sig : Sig := ⟨[.val (.int .i64), .val (.int .i64), .val (.int .i64)], [.val .bool]⟩
noncomputable def impl_in.ctr : Ctr := ⟨impl_in.sig, fun x => impl_in.f x.1 x.2.1 x.2.2⟩
noncomputable def impl_in.env : Env := []
def impl_in.ann : Ann := ⟨[], [], []⟩
theorem impl_in.ok : CtrOk Try.prog 99 impl_in.ctr := fn_sound (A := impl_in.ann) tabOk EnvOk.nil mixed (fn := Try.f99) (body := bodyOf Try.f99) Try.func99 (by kernel_rfl) (by kernel_rfl) (fun x => by kernel_rfl)

def impl_NameOk.sig : Sig := ⟨[.val .str], [.val .bool]⟩
noncomputable def impl_NameOk.ctr : Ctr := ⟨impl_NameOk.sig, fun x => impl_NameOk.f x⟩
noncomputable def impl_NameOk.env : Env := [(99, [impl_in.ctr])]
def impl_NameOk.ann : Ann := ⟨[(0, ([(0, .val .str), (3, .val (.int .i64))], [(.exit 0, [(0, .val .str)]), (.ret, [(2, .val .bool)])]))], [], [(4, [(.normal, [(0, .val .str), (3, .val (.int .i64))]), (.ret, [(2, .val .bool)])])]⟩
theorem impl_NameOk.ok : CtrOk Try.prog 100 impl_NameOk.ctr := fn_sound (A := impl_NameOk.ann) tabOk (EnvOk.cons (ctrs_cons impl_in.ok ctrs_nil) EnvOk.nil) mixed (fn := Try.f100) (body := bodyOf Try.f100) Try.func100 (by kernel_rfl) (by kernel_rfl) (fun x => by kernel_rfl)

def impl_DiskOk.sig : Sig := ⟨[.val (.pair (.sl false (.pair .str (.pair .str (.int .i64)))) (.pair (.int .i64) (.pair (.int .i64) .bool)))], [.val .bool]⟩
noncomputable def impl_DiskOk.ctr : Ctr := ⟨impl_DiskOk.sig, fun x => impl_DiskOk.f x⟩
noncomputable def impl_DiskOk.env : Env := [(99, [impl_in.ctr]), (100, [impl_NameOk.ctr])]
def impl_DiskOk.ann : Ann := ⟨[(0, ([(1, .ptr (.pair (.sl false (.pair .str (.pair .str (.int .i64)))) (.pair (.int .i64) (.pair (.int .i64) .bool)))), (3, .val (.int .i64)), (23, .val (.sl false (.pair .str (.pair .str (.int .i64))))), (24, .val (.int .i64)), (25, .val (.int .i64))], [(.exit 0, [(1, .ptr (.pair (.sl false (.pair .str (.pair .str (.int .i64)))) (.pair (.int .i64) (.pair (.int .i64) .bool)))), (3, .val (.int .i64))]), (.ret, [(2, .val .bool)])]))], [], [(7, [(.normal, [(1, .ptr (.pair (.sl false (.pair .str (.pair .str (.int .i64)))) (.pair (.int .i64) (.pair (.int .i64) .bool)))), (3, .val (.int .i64)), (5, .ptr (.pair .str (.pair .str (.int .i64)))), (23, .val (.sl false (.pair .str (.pair .str (.int .i64))))), (24, .val (.int .i64)), (25, .val (.int .i64))]), (.ret, [(2, .val .bool)])])]⟩
theorem impl_DiskOk.ok : CtrOk Try.prog 49 impl_DiskOk.ctr := fn_sound (A := impl_DiskOk.ann) tabOk (EnvOk.cons (ctrs_cons impl_in.ok ctrs_nil) (EnvOk.cons (ctrs_cons impl_NameOk.ok ctrs_nil) EnvOk.nil)) mixed (fn := Try.f49) (body := bodyOf Try.f49) Try.func49 (by kernel_rfl) (by kernel_rfl) (fun x => by kernel_rfl)

def impl_LiveOk.sig : Sig := ⟨[.val (.pair (.int .i64) (.sl false (.int .i64)))], [.val .bool]⟩
noncomputable def impl_LiveOk.ctr : Ctr := ⟨impl_LiveOk.sig, fun x => impl_LiveOk.f x⟩
noncomputable def impl_LiveOk.env : Env := [(99, [impl_in.ctr])]
def impl_LiveOk.ann : Ann := ⟨[(0, ([(1, .ptr (.pair (.int .i64) (.sl false (.int .i64)))), (6, .val (.sl false (.int .i64))), (7, .val (.int .i64)), (8, .val (.int .i64))], [(.exit 0, [(1, .ptr (.pair (.int .i64) (.sl false (.int .i64))))]), (.ret, [(2, .val .bool)])]))], [], [(4, [(.normal, [(1, .ptr (.pair (.int .i64) (.sl false (.int .i64)))), (6, .val (.sl false (.int .i64))), (7, .val (.int .i64)), (8, .val (.int .i64))]), (.ret, [(2, .val .bool)])])]⟩
theorem impl_LiveOk.ok : CtrOk Try.prog 50 impl_LiveOk.ctr := fn_sound (A := impl_LiveOk.ann) tabOk (EnvOk.cons (ctrs_cons impl_in.ok ctrs_nil) EnvOk.nil) mixed (fn := Try.f50) (body := bodyOf Try.f50) Try.func50 (by kernel_rfl) (by kernel_rfl) (fun x => by kernel_rfl)

def impl_copyDisk.sig : Sig := ⟨[.val (.pair (.sl false (.pair .str (.pair .str (.int .i64)))) (.pair (.int .i64) (.pair (.int .i64) .bool)))], [.val (.pair (.sl true (.pair .str (.pair .str (.int .i64)))) (.pair (.int .i64) (.pair (.int .i64) .bool)))]⟩
noncomputable def impl_copyDisk.ctr : Ctr := ⟨impl_copyDisk.sig, fun x => impl_copyDisk.f x⟩
noncomputable def impl_copyDisk.env : Env := []
def impl_copyDisk.ann : Ann := ⟨[], [], []⟩
theorem impl_copyDisk.ok : CtrOk Try.prog 51 impl_copyDisk.ctr := fn_sound (A := impl_copyDisk.ann) tabOk EnvOk.nil mixed (fn := Try.f51) (body := bodyOf Try.f51) Try.func51 (by kernel_rfl) (by kernel_rfl) (fun x => by kernel_rfl)

def impl_told.sig : Sig := ⟨[.val (.int .i64)], [.val (.int .i64)]⟩
noncomputable def impl_told.ctr : Ctr := ⟨impl_told.sig, fun x => impl_told.f x⟩
noncomputable def impl_told.env : Env := []
def impl_told.ann : Ann := ⟨[], [], []⟩
theorem impl_told.ok : CtrOk Try.prog 158 impl_told.ctr := fn_sound (A := impl_told.ann) tabOk EnvOk.nil mixed (fn := Try.f158) (body := bodyOf Try.f158) Try.func158 (by kernel_rfl) (by kernel_rfl) (fun x => by kernel_rfl)

def impl_worker_took_o.sig : Sig := ⟨[.ptr (.pair (.pair (.sl true (.pair .str (.pair .str (.int .i64)))) (.pair (.int .i64) (.pair (.int .i64) .bool))) (.int .i64)), .val (.pair (.sl true (.pair .str (.pair .str (.int .i64)))) (.pair (.int .i64) (.pair (.int .i64) .bool))), .val (.int .i64)], []⟩
noncomputable def impl_worker_took_o.ctr : Ctr := ⟨impl_worker_took_o.sig, fun x => impl_worker_took_o.f x.1 x.2.1 x.2.2⟩
noncomputable def impl_worker_took_o.env : Env := [(158, [impl_told.ctr])]
def impl_worker_took_o.ann : Ann := ⟨[], [], []⟩
theorem impl_worker_took_o.ok : CtrOk Try.prog 135 impl_worker_took_o.ctr := fn_sound (A := impl_worker_took_o.ann) tabOk (EnvOk.cons (ctrs_cons impl_told.ok ctrs_nil) EnvOk.nil) mixed (fn := Try.f135) (body := bodyOf Try.f135) Try.func135 (by kernel_rfl) (by kernel_rfl) (fun x => by kernel_rfl)

def impl_fileAt.sig : Sig := ⟨[.val (.pair (.sl false (.pair .str (.pair .str (.int .i64)))) (.pair (.int .i64) (.pair (.int .i64) .bool))), .val .str], [.val (.int .i64)]⟩
noncomputable def impl_fileAt.ctr : Ctr := ⟨impl_fileAt.sig, fun x => impl_fileAt.f x.1 x.2⟩
noncomputable def impl_fileAt.env : Env := []
def impl_fileAt.ann : Ann := ⟨[(0, ([(1, .val .str), (8, .val (.sl false (.pair .str (.pair .str (.int .i64))))), (9, .val (.int .i64)), (10, .val (.int .i64))], [(.exit 0, []), (.ret, [(4, .val (.int .i64))])]))], [], []⟩
theorem impl_fileAt.ok : CtrOk Try.prog 161 impl_fileAt.ctr := fn_sound (A := impl_fileAt.ann) tabOk EnvOk.nil mixed (fn := Try.f161) (body := bodyOf Try.f161) Try.func161 (by kernel_rfl) (by kernel_rfl) (fun x => by kernel_rfl)

def impl_Disk_drop.sig : Sig := ⟨[.ptr (.pair (.sl true (.pair .str (.pair .str (.int .i64)))) (.pair (.int .i64) (.pair (.int .i64) .bool))), .val .str], []⟩
noncomputable def impl_Disk_drop.ctr : Ctr := ⟨impl_Disk_drop.sig, fun x => impl_Disk_drop.f x.1 x.2⟩
noncomputable def impl_Disk_drop.env : Env := [(161, [impl_fileAt.ctr])]
def impl_Disk_drop.ann : Ann := ⟨[], [], []⟩
theorem impl_Disk_drop.ok : CtrOk Try.prog 162 impl_Disk_drop.ctr := fn_sound (A := impl_Disk_drop.ann) tabOk (EnvOk.cons (ctrs_cons impl_fileAt.ok ctrs_nil) EnvOk.nil) mixed (fn := Try.f162) (body := bodyOf Try.f162) Try.func162 (by kernel_rfl) (by kernel_rfl) (fun x => by kernel_rfl)

def impl_Remove_1.sig : Sig := ⟨[.ptr (.pair (.sl true (.pair .str (.pair .str (.int .i64)))) (.pair (.int .i64) (.pair (.int .i64) .bool))), .val (.box none .str)], [.val (.int .i64)]⟩
noncomputable def impl_Remove_1.ctr : Ctr := ⟨impl_Remove_1.sig, fun x => impl_Remove_1.f x.1 x.2⟩
noncomputable def impl_Remove_1.env : Env := [(161, [impl_fileAt.ctr]), (162, [impl_Disk_drop.ctr])]
def impl_Remove_1.ann : Ann := ⟨[], [], []⟩
theorem impl_Remove_1.ok : CtrOk Try.prog 189 impl_Remove_1.ctr := fn_sound (A := impl_Remove_1.ann) tabOk (EnvOk.cons (ctrs_cons impl_fileAt.ok ctrs_nil) (EnvOk.cons (ctrs_cons impl_Disk_drop.ok ctrs_nil) EnvOk.nil)) mixed (fn := Try.f189) (body := bodyOf Try.f189) Try.func189 (by kernel_rfl) (by kernel_rfl) (fun x => by kernel_rfl)

def impl_step_Remove_1.sig : Sig := ⟨[.val (.pair (.sl false (.pair .str (.pair .str (.int .i64)))) (.pair (.int .i64) (.pair (.int .i64) .bool))), .val (.box (some 189) (.box none .str))], [.val (.pair (.sl true (.pair .str (.pair .str (.int .i64)))) (.pair (.int .i64) (.pair (.int .i64) .bool))), .val (.int .i64)]⟩
noncomputable def impl_step_Remove_1.ctr : Ctr := ⟨impl_step_Remove_1.sig, fun x => impl_step_Remove_1.f x.1 x.2⟩
noncomputable def impl_step_Remove_1.env : Env := [(49, [impl_DiskOk.ctr]), (51, [impl_copyDisk.ctr]), (189, [impl_Remove_1.ctr])]
def impl_step_Remove_1.ann : Ann := ⟨[], [], [(7, [(.normal, [(1, .val (.box (some 189) (.box none .str))), (4, .ptr (.pair (.sl true (.pair .str (.pair .str (.int .i64)))) (.pair (.int .i64) (.pair (.int .i64) .bool)))), (6, .ptr (.pair (.sl true (.pair .str (.pair .str (.int .i64)))) (.pair (.int .i64) (.pair (.int .i64) .bool))))])])]⟩
theorem impl_step_Remove_1.ok : CtrOk Try.prog 159 impl_step_Remove_1.ctr := fn_sound (A := impl_step_Remove_1.ann) tabOk (EnvOk.cons (ctrs_cons impl_DiskOk.ok ctrs_nil) (EnvOk.cons (ctrs_cons impl_copyDisk.ok ctrs_nil) (EnvOk.cons (ctrs_cons impl_Remove_1.ok ctrs_nil) EnvOk.nil))) mixed (fn := Try.f159) (body := bodyOf Try.f159) Try.func159 (by kernel_rfl) (by kernel_rfl) (fun x => by kernel_rfl)

def impl_Remove.sig : Sig := ⟨[.val (.pair (.sl false (.pair .str (.pair .str (.int .i64)))) (.pair (.int .i64) (.pair (.int .i64) .bool))), .val .str], [.val (.pair (.sl true (.pair .str (.pair .str (.int .i64)))) (.pair (.int .i64) (.pair (.int .i64) .bool))), .val (.int .i64)]⟩
noncomputable def impl_Remove.ctr : Ctr := ⟨impl_Remove.sig, fun x => impl_Remove.f x.1 x.2⟩
noncomputable def impl_Remove.env : Env := [(159, [impl_step_Remove_1.ctr])]
def impl_Remove.ann : Ann := ⟨[], [], []⟩
theorem impl_Remove.ok : CtrOk Try.prog 179 impl_Remove.ctr := fn_sound (A := impl_Remove.ann) tabOk (EnvOk.cons (ctrs_cons impl_step_Remove_1.ok ctrs_nil) EnvOk.nil) mixed (fn := Try.f179) (body := bodyOf Try.f179) Try.func179 (by kernel_rfl) (by kernel_rfl) (fun x => by kernel_rfl)

def impl_worker_gone.sig : Sig := ⟨[.ptr (.pair (.pair (.sl true (.pair .str (.pair .str (.int .i64)))) (.pair (.int .i64) (.pair (.int .i64) .bool))) (.int .i64)), .val .str], []⟩
noncomputable def impl_worker_gone.ctr : Ctr := ⟨impl_worker_gone.sig, fun x => impl_worker_gone.f x.1 x.2⟩
noncomputable def impl_worker_gone.env : Env := [(135, [impl_worker_took_o.ctr]), (161, [impl_fileAt.ctr]), (179, [impl_Remove.ctr])]
def impl_worker_gone.ann : Ann := ⟨[], [], []⟩
theorem impl_worker_gone.ok : CtrOk Try.prog 150 impl_worker_gone.ctr := fn_sound (A := impl_worker_gone.ann) tabOk (EnvOk.cons (ctrs_cons impl_worker_took_o.ok ctrs_nil) (EnvOk.cons (ctrs_cons impl_fileAt.ok ctrs_nil) (EnvOk.cons (ctrs_cons impl_Remove.ok ctrs_nil) EnvOk.nil))) mixed (fn := Try.f150) (body := bodyOf Try.f150) Try.func150 (by kernel_rfl) (by kernel_rfl) (fun x => by kernel_rfl)

def impl_Disk_put.sig : Sig := ⟨[.ptr (.pair (.sl true (.pair .str (.pair .str (.int .i64)))) (.pair (.int .i64) (.pair (.int .i64) .bool))), .val (.pair .str (.pair .str (.int .i64)))], []⟩
noncomputable def impl_Disk_put.ctr : Ctr := ⟨impl_Disk_put.sig, fun x => impl_Disk_put.f x.1 x.2⟩
noncomputable def impl_Disk_put.env : Env := []
def impl_Disk_put.ann : Ann := ⟨[(0, ([(0, .ptr (.pair (.sl true (.pair .str (.pair .str (.int .i64)))) (.pair (.int .i64) (.pair (.int .i64) .bool)))), (3, .ptr (.pair .str (.pair .str (.int .i64)))), (4, .val (.int .i64))], [(.exit 0, [(0, .ptr (.pair (.sl true (.pair .str (.pair .str (.int .i64)))) (.pair (.int .i64) (.pair (.int .i64) .bool)))), (3, .ptr (.pair .str (.pair .str (.int .i64)))), (4, .val (.int .i64))])]))], [], []⟩
theorem impl_Disk_put.ok : CtrOk Try.prog 163 impl_Disk_put.ctr := fn_sound (A := impl_Disk_put.ann) tabOk EnvOk.nil mixed (fn := Try.f163) (body := bodyOf Try.f163) Try.func163 (by kernel_rfl) (by kernel_rfl) (fun x => by kernel_rfl)

def impl_Create_1.sig : Sig := ⟨[.ptr (.pair (.sl true (.pair .str (.pair .str (.int .i64)))) (.pair (.int .i64) (.pair (.int .i64) .bool))), .val (.box none .str)], [.val (.int .i64)]⟩
noncomputable def impl_Create_1.ctr : Ctr := ⟨impl_Create_1.sig, fun x => impl_Create_1.f x.1 x.2⟩
noncomputable def impl_Create_1.env : Env := [(100, [impl_NameOk.ctr]), (161, [impl_fileAt.ctr]), (163, [impl_Disk_put.ctr])]
def impl_Create_1.ann : Ann := ⟨[], [], []⟩
theorem impl_Create_1.ok : CtrOk Try.prog 190 impl_Create_1.ctr := fn_sound (A := impl_Create_1.ann) tabOk (EnvOk.cons (ctrs_cons impl_NameOk.ok ctrs_nil) (EnvOk.cons (ctrs_cons impl_fileAt.ok ctrs_nil) (EnvOk.cons (ctrs_cons impl_Disk_put.ok ctrs_nil) EnvOk.nil))) mixed (fn := Try.f190) (body := bodyOf Try.f190) Try.func190 (by kernel_rfl) (by kernel_rfl) (fun x => by kernel_rfl)

def impl_step_Create_1.sig : Sig := ⟨[.val (.pair (.sl false (.pair .str (.pair .str (.int .i64)))) (.pair (.int .i64) (.pair (.int .i64) .bool))), .val (.box (some 190) (.box none .str))], [.val (.pair (.sl true (.pair .str (.pair .str (.int .i64)))) (.pair (.int .i64) (.pair (.int .i64) .bool))), .val (.int .i64)]⟩
noncomputable def impl_step_Create_1.ctr : Ctr := ⟨impl_step_Create_1.sig, fun x => impl_step_Create_1.f x.1 x.2⟩
noncomputable def impl_step_Create_1.env : Env := [(49, [impl_DiskOk.ctr]), (51, [impl_copyDisk.ctr]), (190, [impl_Create_1.ctr])]
def impl_step_Create_1.ann : Ann := ⟨[], [], [(7, [(.normal, [(1, .val (.box (some 190) (.box none .str))), (4, .ptr (.pair (.sl true (.pair .str (.pair .str (.int .i64)))) (.pair (.int .i64) (.pair (.int .i64) .bool)))), (6, .ptr (.pair (.sl true (.pair .str (.pair .str (.int .i64)))) (.pair (.int .i64) (.pair (.int .i64) .bool))))])])]⟩
theorem impl_step_Create_1.ok : CtrOk Try.prog 159 impl_step_Create_1.ctr := fn_sound (A := impl_step_Create_1.ann) tabOk (EnvOk.cons (ctrs_cons impl_DiskOk.ok ctrs_nil) (EnvOk.cons (ctrs_cons impl_copyDisk.ok ctrs_nil) (EnvOk.cons (ctrs_cons impl_Create_1.ok ctrs_nil) EnvOk.nil))) mixed (fn := Try.f159) (body := bodyOf Try.f159) Try.func159 (by kernel_rfl) (by kernel_rfl) (fun x => by kernel_rfl)

def impl_Create.sig : Sig := ⟨[.val (.pair (.sl false (.pair .str (.pair .str (.int .i64)))) (.pair (.int .i64) (.pair (.int .i64) .bool))), .val .str], [.val (.pair (.sl true (.pair .str (.pair .str (.int .i64)))) (.pair (.int .i64) (.pair (.int .i64) .bool))), .val (.int .i64)]⟩
noncomputable def impl_Create.ctr : Ctr := ⟨impl_Create.sig, fun x => impl_Create.f x.1 x.2⟩
noncomputable def impl_Create.env : Env := [(159, [impl_step_Create_1.ctr])]
def impl_Create.ann : Ann := ⟨[], [], []⟩
theorem impl_Create.ok : CtrOk Try.prog 180 impl_Create.ctr := fn_sound (A := impl_Create.ann) tabOk (EnvOk.cons (ctrs_cons impl_step_Create_1.ok ctrs_nil) EnvOk.nil) mixed (fn := Try.f180) (body := bodyOf Try.f180) Try.func180 (by kernel_rfl) (by kernel_rfl) (fun x => by kernel_rfl)

def impl_worker_create.sig : Sig := ⟨[.ptr (.pair (.pair (.sl true (.pair .str (.pair .str (.int .i64)))) (.pair (.int .i64) (.pair (.int .i64) .bool))) (.int .i64)), .val .str], []⟩
noncomputable def impl_worker_create.ctr : Ctr := ⟨impl_worker_create.sig, fun x => impl_worker_create.f x.1 x.2⟩
noncomputable def impl_worker_create.env : Env := [(135, [impl_worker_took_o.ctr]), (180, [impl_Create.ctr])]
def impl_worker_create.ann : Ann := ⟨[], [], []⟩
theorem impl_worker_create.ok : CtrOk Try.prog 151 impl_worker_create.ctr := fn_sound (A := impl_worker_create.ann) tabOk (EnvOk.cons (ctrs_cons impl_worker_took_o.ok ctrs_nil) (EnvOk.cons (ctrs_cons impl_Create.ok ctrs_nil) EnvOk.nil)) mixed (fn := Try.f151) (body := bodyOf Try.f151) Try.func151 (by kernel_rfl) (by kernel_rfl) (fun x => by kernel_rfl)

def impl_worker_anew.sig : Sig := ⟨[.ptr (.pair (.pair (.sl true (.pair .str (.pair .str (.int .i64)))) (.pair (.int .i64) (.pair (.int .i64) .bool))) (.int .i64)), .val .str], []⟩
noncomputable def impl_worker_anew.ctr : Ctr := ⟨impl_worker_anew.sig, fun x => impl_worker_anew.f x.1 x.2⟩
noncomputable def impl_worker_anew.env : Env := [(150, [impl_worker_gone.ctr]), (151, [impl_worker_create.ctr])]
def impl_worker_anew.ann : Ann := ⟨[], [], []⟩
theorem impl_worker_anew.ok : CtrOk Try.prog 130 impl_worker_anew.ctr := fn_sound (A := impl_worker_anew.ann) tabOk (EnvOk.cons (ctrs_cons impl_worker_gone.ok ctrs_nil) (EnvOk.cons (ctrs_cons impl_worker_create.ok ctrs_nil) EnvOk.nil)) mixed (fn := Try.f130) (body := bodyOf Try.f130) Try.func130 (by kernel_rfl) (by kernel_rfl) (fun x => by kernel_rfl)

def impl_used.sig : Sig := ⟨[.val (.pair (.sl false (.pair .str (.pair .str (.int .i64)))) (.pair (.int .i64) (.pair (.int .i64) .bool)))], [.val (.int .i64)]⟩
noncomputable def impl_used.ctr : Ctr := ⟨impl_used.sig, fun x => impl_used.f x⟩
noncomputable def impl_used.env : Env := []
def impl_used.ann : Ann := ⟨[(0, ([(3, .val (.int .i64)), (7, .val (.sl false (.pair .str (.pair .str (.int .i64))))), (8, .val (.int .i64)), (9, .val (.int .i64))], [(.exit 0, [(3, .val (.int .i64))])]))], [], []⟩
theorem impl_used.ok : CtrOk Try.prog 182 impl_used.ctr := fn_sound (A := impl_used.ann) tabOk EnvOk.nil mixed (fn := Try.f182) (body := bodyOf Try.f182) Try.func182 (by kernel_rfl) (by kernel_rfl) (fun x => by kernel_rfl)

def impl_Append_1.sig : Sig := ⟨[.ptr (.pair (.sl true (.pair .str (.pair .str (.int .i64)))) (.pair (.int .i64) (.pair (.int .i64) .bool))), .val (.box none .str), .val (.box none .str)], [.val (.int .i64)]⟩
noncomputable def impl_Append_1.ctr : Ctr := ⟨impl_Append_1.sig, fun x => impl_Append_1.f x.1 x.2.1 x.2.2⟩
noncomputable def impl_Append_1.env : Env := [(161, [impl_fileAt.ctr]), (182, [impl_used.ctr])]
def impl_Append_1.ann : Ann := ⟨[], [], []⟩
theorem impl_Append_1.ok : CtrOk Try.prog 181 impl_Append_1.ctr := fn_sound (A := impl_Append_1.ann) tabOk (EnvOk.cons (ctrs_cons impl_fileAt.ok ctrs_nil) (EnvOk.cons (ctrs_cons impl_used.ok ctrs_nil) EnvOk.nil)) mixed (fn := Try.f181) (body := bodyOf Try.f181) Try.func181 (by kernel_rfl) (by kernel_rfl) (fun x => by kernel_rfl)

def impl_step_Append_1.sig : Sig := ⟨[.val (.pair (.sl false (.pair .str (.pair .str (.int .i64)))) (.pair (.int .i64) (.pair (.int .i64) .bool))), .val (.box (some 181) (.pair (.box none .str) (.box none .str)))], [.val (.pair (.sl true (.pair .str (.pair .str (.int .i64)))) (.pair (.int .i64) (.pair (.int .i64) .bool))), .val (.int .i64)]⟩
noncomputable def impl_step_Append_1.ctr : Ctr := ⟨impl_step_Append_1.sig, fun x => impl_step_Append_1.f x.1 x.2⟩
noncomputable def impl_step_Append_1.env : Env := [(49, [impl_DiskOk.ctr]), (51, [impl_copyDisk.ctr]), (181, [impl_Append_1.ctr])]
def impl_step_Append_1.ann : Ann := ⟨[], [], [(7, [(.normal, [(1, .val (.box (some 181) (.pair (.box none .str) (.box none .str)))), (4, .ptr (.pair (.sl true (.pair .str (.pair .str (.int .i64)))) (.pair (.int .i64) (.pair (.int .i64) .bool)))), (6, .ptr (.pair (.sl true (.pair .str (.pair .str (.int .i64)))) (.pair (.int .i64) (.pair (.int .i64) .bool))))])])]⟩
theorem impl_step_Append_1.ok : CtrOk Try.prog 159 impl_step_Append_1.ctr := fn_sound (A := impl_step_Append_1.ann) tabOk (EnvOk.cons (ctrs_cons impl_DiskOk.ok ctrs_nil) (EnvOk.cons (ctrs_cons impl_copyDisk.ok ctrs_nil) (EnvOk.cons (ctrs_cons impl_Append_1.ok ctrs_nil) EnvOk.nil))) mixed (fn := Try.f159) (body := bodyOf Try.f159) Try.func159 (by kernel_rfl) (by kernel_rfl) (fun x => by kernel_rfl)

def impl_Append.sig : Sig := ⟨[.val (.pair (.sl false (.pair .str (.pair .str (.int .i64)))) (.pair (.int .i64) (.pair (.int .i64) .bool))), .val .str, .val .str], [.val (.pair (.sl true (.pair .str (.pair .str (.int .i64)))) (.pair (.int .i64) (.pair (.int .i64) .bool))), .val (.int .i64)]⟩
noncomputable def impl_Append.ctr : Ctr := ⟨impl_Append.sig, fun x => impl_Append.f x.1 x.2.1 x.2.2⟩
noncomputable def impl_Append.env : Env := [(159, [impl_step_Append_1.ctr])]
def impl_Append.ann : Ann := ⟨[], [], []⟩
theorem impl_Append.ok : CtrOk Try.prog 152 impl_Append.ctr := fn_sound (A := impl_Append.ann) tabOk (EnvOk.cons (ctrs_cons impl_step_Append_1.ok ctrs_nil) EnvOk.nil) mixed (fn := Try.f152) (body := bodyOf Try.f152) Try.func152 (by kernel_rfl) (by kernel_rfl) (fun x => by kernel_rfl)

def impl_worker_put.sig : Sig := ⟨[.ptr (.pair (.pair (.sl true (.pair .str (.pair .str (.int .i64)))) (.pair (.int .i64) (.pair (.int .i64) .bool))) (.int .i64)), .val .str, .val .str], []⟩
noncomputable def impl_worker_put.ctr : Ctr := ⟨impl_worker_put.sig, fun x => impl_worker_put.f x.1 x.2.1 x.2.2⟩
noncomputable def impl_worker_put.env : Env := [(135, [impl_worker_took_o.ctr]), (152, [impl_Append.ctr])]
def impl_worker_put.ann : Ann := ⟨[], [], []⟩
theorem impl_worker_put.ok : CtrOk Try.prog 131 impl_worker_put.ctr := fn_sound (A := impl_worker_put.ann) tabOk (EnvOk.cons (ctrs_cons impl_worker_took_o.ok ctrs_nil) (EnvOk.cons (ctrs_cons impl_Append.ok ctrs_nil) EnvOk.nil)) mixed (fn := Try.f131) (body := bodyOf Try.f131) Try.func131 (by kernel_rfl) (by kernel_rfl) (fun x => by kernel_rfl)

def impl_Sync_1.sig : Sig := ⟨[.ptr (.pair (.sl true (.pair .str (.pair .str (.int .i64)))) (.pair (.int .i64) (.pair (.int .i64) .bool))), .val (.box none .str)], [.val (.int .i64)]⟩
noncomputable def impl_Sync_1.ctr : Ctr := ⟨impl_Sync_1.sig, fun x => impl_Sync_1.f x.1 x.2⟩
noncomputable def impl_Sync_1.env : Env := [(161, [impl_fileAt.ctr])]
def impl_Sync_1.ann : Ann := ⟨[], [], []⟩
theorem impl_Sync_1.ok : CtrOk Try.prog 183 impl_Sync_1.ctr := fn_sound (A := impl_Sync_1.ann) tabOk (EnvOk.cons (ctrs_cons impl_fileAt.ok ctrs_nil) EnvOk.nil) mixed (fn := Try.f183) (body := bodyOf Try.f183) Try.func183 (by kernel_rfl) (by kernel_rfl) (fun x => by kernel_rfl)

def impl_step_Sync_1.sig : Sig := ⟨[.val (.pair (.sl false (.pair .str (.pair .str (.int .i64)))) (.pair (.int .i64) (.pair (.int .i64) .bool))), .val (.box (some 183) (.box none .str))], [.val (.pair (.sl true (.pair .str (.pair .str (.int .i64)))) (.pair (.int .i64) (.pair (.int .i64) .bool))), .val (.int .i64)]⟩
noncomputable def impl_step_Sync_1.ctr : Ctr := ⟨impl_step_Sync_1.sig, fun x => impl_step_Sync_1.f x.1 x.2⟩
noncomputable def impl_step_Sync_1.env : Env := [(49, [impl_DiskOk.ctr]), (51, [impl_copyDisk.ctr]), (183, [impl_Sync_1.ctr])]
def impl_step_Sync_1.ann : Ann := ⟨[], [], [(7, [(.normal, [(1, .val (.box (some 183) (.box none .str))), (4, .ptr (.pair (.sl true (.pair .str (.pair .str (.int .i64)))) (.pair (.int .i64) (.pair (.int .i64) .bool)))), (6, .ptr (.pair (.sl true (.pair .str (.pair .str (.int .i64)))) (.pair (.int .i64) (.pair (.int .i64) .bool))))])])]⟩
theorem impl_step_Sync_1.ok : CtrOk Try.prog 159 impl_step_Sync_1.ctr := fn_sound (A := impl_step_Sync_1.ann) tabOk (EnvOk.cons (ctrs_cons impl_DiskOk.ok ctrs_nil) (EnvOk.cons (ctrs_cons impl_copyDisk.ok ctrs_nil) (EnvOk.cons (ctrs_cons impl_Sync_1.ok ctrs_nil) EnvOk.nil))) mixed (fn := Try.f159) (body := bodyOf Try.f159) Try.func159 (by kernel_rfl) (by kernel_rfl) (fun x => by kernel_rfl)

def impl_Sync.sig : Sig := ⟨[.val (.pair (.sl false (.pair .str (.pair .str (.int .i64)))) (.pair (.int .i64) (.pair (.int .i64) .bool))), .val .str], [.val (.pair (.sl true (.pair .str (.pair .str (.int .i64)))) (.pair (.int .i64) (.pair (.int .i64) .bool))), .val (.int .i64)]⟩
noncomputable def impl_Sync.ctr : Ctr := ⟨impl_Sync.sig, fun x => impl_Sync.f x.1 x.2⟩
noncomputable def impl_Sync.env : Env := [(159, [impl_step_Sync_1.ctr])]
def impl_Sync.ann : Ann := ⟨[], [], []⟩
theorem impl_Sync.ok : CtrOk Try.prog 153 impl_Sync.ctr := fn_sound (A := impl_Sync.ann) tabOk (EnvOk.cons (ctrs_cons impl_step_Sync_1.ok ctrs_nil) EnvOk.nil) mixed (fn := Try.f153) (body := bodyOf Try.f153) Try.func153 (by kernel_rfl) (by kernel_rfl) (fun x => by kernel_rfl)

def impl_worker_sync.sig : Sig := ⟨[.ptr (.pair (.pair (.sl true (.pair .str (.pair .str (.int .i64)))) (.pair (.int .i64) (.pair (.int .i64) .bool))) (.int .i64)), .val .str], []⟩
noncomputable def impl_worker_sync.ctr : Ctr := ⟨impl_worker_sync.sig, fun x => impl_worker_sync.f x.1 x.2⟩
noncomputable def impl_worker_sync.env : Env := [(135, [impl_worker_took_o.ctr]), (153, [impl_Sync.ctr])]
def impl_worker_sync.ann : Ann := ⟨[], [], []⟩
theorem impl_worker_sync.ok : CtrOk Try.prog 132 impl_worker_sync.ctr := fn_sound (A := impl_worker_sync.ann) tabOk (EnvOk.cons (ctrs_cons impl_worker_took_o.ok ctrs_nil) (EnvOk.cons (ctrs_cons impl_Sync.ok ctrs_nil) EnvOk.nil)) mixed (fn := Try.f132) (body := bodyOf Try.f132) Try.func132 (by kernel_rfl) (by kernel_rfl) (fun x => by kernel_rfl)

def impl_worker_fileOf.sig : Sig := ⟨[.ptr (.pair (.pair (.sl true (.pair .str (.pair .str (.int .i64)))) (.pair (.int .i64) (.pair (.int .i64) .bool))) (.int .i64)), .val .str, .val .str], []⟩
noncomputable def impl_worker_fileOf.ctr : Ctr := ⟨impl_worker_fileOf.sig, fun x => impl_worker_fileOf.f x.1 x.2.1 x.2.2⟩
noncomputable def impl_worker_fileOf.env : Env := [(130, [impl_worker_anew.ctr]), (131, [impl_worker_put.ctr]), (132, [impl_worker_sync.ctr])]
def impl_worker_fileOf.ann : Ann := ⟨[], [], []⟩
theorem impl_worker_fileOf.ok : CtrOk Try.prog 101 impl_worker_fileOf.ctr := fn_sound (A := impl_worker_fileOf.ann) tabOk (EnvOk.cons (ctrs_cons impl_worker_anew.ok ctrs_nil) (EnvOk.cons (ctrs_cons impl_worker_put.ok ctrs_nil) (EnvOk.cons (ctrs_cons impl_worker_sync.ok ctrs_nil) EnvOk.nil))) mixed (fn := Try.f101) (body := bodyOf Try.f101) Try.func101 (by kernel_rfl) (by kernel_rfl) (fun x => by kernel_rfl)

def impl_Var.sig : Sig := ⟨[.val (.int .i64)], [.val .str]⟩
noncomputable def impl_Var.ctr : Ctr := ⟨impl_Var.sig, fun x => impl_Var.f x⟩
noncomputable def impl_Var.env : Env := [(99, [impl_in.ctr])]
def impl_Var.ann : Ann := ⟨[(0, ([(0, .val (.int .i64)), (3, .val (.sl true (.int .u8)))], [(.exit 0, [(0, .val (.int .i64)), (3, .val (.sl true (.int .u8)))])]))], [], []⟩
theorem impl_Var.ok : CtrOk Try.prog 157 impl_Var.ctr := fn_sound (A := impl_Var.ann) tabOk (EnvOk.cons (ctrs_cons impl_in.ok ctrs_nil) EnvOk.nil) mixed (fn := Try.f157) (body := bodyOf Try.f157) Try.func157 (by kernel_rfl) (by kernel_rfl) (fun x => by kernel_rfl)

def impl_textOf.sig : Sig := ⟨[.val .str], [.val .str]⟩
noncomputable def impl_textOf.ctr : Ctr := ⟨impl_textOf.sig, fun x => impl_textOf.f x⟩
noncomputable def impl_textOf.env : Env := [(157, [impl_Var.ctr])]
def impl_textOf.ann : Ann := ⟨[], [], []⟩
theorem impl_textOf.ok : CtrOk Try.prog 154 impl_textOf.ctr := fn_sound (A := impl_textOf.ann) tabOk (EnvOk.cons (ctrs_cons impl_Var.ok ctrs_nil) EnvOk.nil) mixed (fn := Try.f154) (body := bodyOf Try.f154) Try.func154 (by kernel_rfl) (by kernel_rfl) (fun x => by kernel_rfl)

def impl_Fixed.sig : Sig := ⟨[.val (.int .i64), .val (.int .i64)], [.val .str]⟩
noncomputable def impl_Fixed.ctr : Ctr := ⟨impl_Fixed.sig, fun x => impl_Fixed.f x.1 x.2⟩
noncomputable def impl_Fixed.env : Env := [(99, [impl_in.ctr])]
def impl_Fixed.ann : Ann := ⟨[(0, ([(0, .val (.int .i64)), (5, .val (.sl true (.int .u8))), (6, .val (.int .i64))], [(.exit 0, [(5, .val (.sl true (.int .u8)))])]))], [], []⟩
theorem impl_Fixed.ok : CtrOk Try.prog 155 impl_Fixed.ctr := fn_sound (A := impl_Fixed.ann) tabOk (EnvOk.cons (ctrs_cons impl_in.ok ctrs_nil) EnvOk.nil) mixed (fn := Try.f155) (body := bodyOf Try.f155) Try.func155 (by kernel_rfl) (by kernel_rfl) (fun x => by kernel_rfl)

def impl_Crc.sig : Sig := ⟨[.val .str], [.val (.int .i64)]⟩
noncomputable def impl_Crc.ctr : Ctr := ⟨impl_Crc.sig, fun x => impl_Crc.f x⟩
noncomputable def impl_Crc.env : Env := []
def impl_Crc.ann : Ann := ⟨[(2, ([(0, .val .str), (3, .val (.int .u32)), (4, .val (.int .i64)), (18, .val (.int .i64))], [(.exit 2, [(0, .val .str), (3, .val (.int .u32)), (4, .val (.int .i64))])])), (0, ([(0, .val .str), (3, .val (.int .u32)), (4, .val (.int .i64))], [(.exit 0, [(3, .val (.int .u32))])]))], [], [(10, [(.normal, [(0, .val .str), (3, .val (.int .u32)), (4, .val (.int .i64)), (18, .val (.int .i64))])])]⟩
theorem impl_Crc.ok : CtrOk Try.prog 156 impl_Crc.ctr := fn_sound (A := impl_Crc.ann) tabOk EnvOk.nil mixed (fn := Try.f156) (body := bodyOf Try.f156) Try.func156 (by kernel_rfl) (by kernel_rfl) (fun x => by kernel_rfl)

def impl_Frame.sig : Sig := ⟨[.val .str], [.val .str]⟩
noncomputable def impl_Frame.ctr : Ctr := ⟨impl_Frame.sig, fun x => impl_Frame.f x⟩
noncomputable def impl_Frame.env : Env := [(154, [impl_textOf.ctr]), (155, [impl_Fixed.ctr]), (156, [impl_Crc.ctr])]
def impl_Frame.ann : Ann := ⟨[], [], []⟩
theorem impl_Frame.ok : CtrOk Try.prog 133 impl_Frame.ctr := fn_sound (A := impl_Frame.ann) tabOk (EnvOk.cons (ctrs_cons impl_textOf.ok ctrs_nil) (EnvOk.cons (ctrs_cons impl_Fixed.ok ctrs_nil) (EnvOk.cons (ctrs_cons impl_Crc.ok ctrs_nil) EnvOk.nil))) mixed (fn := Try.f133) (body := bodyOf Try.f133) Try.func133 (by kernel_rfl) (by kernel_rfl) (fun x => by kernel_rfl)

def impl_vars.sig : Sig := ⟨[.val (.sl false (.int .i64))], [.val .str]⟩
noncomputable def impl_vars.ctr : Ctr := ⟨impl_vars.sig, fun x => impl_vars.f x⟩
noncomputable def impl_vars.env : Env := [(157, [impl_Var.ctr])]
def impl_vars.ann : Ann := ⟨[(0, ([(3, .val .str), (6, .val (.sl false (.int .i64))), (7, .val (.int .i64)), (8, .val (.int .i64))], [(.exit 0, [(3, .val .str)])]))], [], []⟩
theorem impl_vars.ok : CtrOk Try.prog 134 impl_vars.ctr := fn_sound (A := impl_vars.ann) tabOk (EnvOk.cons (ctrs_cons impl_Var.ok ctrs_nil) EnvOk.nil) mixed (fn := Try.f134) (body := bodyOf Try.f134) Try.func134 (by kernel_rfl) (by kernel_rfl) (fun x => by kernel_rfl)

def impl_ShowLive.sig : Sig := ⟨[.val (.pair (.int .i64) (.sl false (.int .i64)))], [.val .str]⟩
noncomputable def impl_ShowLive.ctr : Ctr := ⟨impl_ShowLive.sig, fun x => impl_ShowLive.f x⟩
noncomputable def impl_ShowLive.env : Env := [(50, [impl_LiveOk.ctr]), (133, [impl_Frame.ctr]), (134, [impl_vars.ctr])]
def impl_ShowLive.ann : Ann := ⟨[], [], []⟩
theorem impl_ShowLive.ok : CtrOk Try.prog 102 impl_ShowLive.ctr := fn_sound (A := impl_ShowLive.ann) tabOk (EnvOk.cons (ctrs_cons impl_LiveOk.ok ctrs_nil) (EnvOk.cons (ctrs_cons impl_Frame.ok ctrs_nil) (EnvOk.cons (ctrs_cons impl_vars.ok ctrs_nil) EnvOk.nil))) mixed (fn := Try.f102) (body := bodyOf Try.f102) Try.func102 (by kernel_rfl) (by kernel_rfl) (fun x => by kernel_rfl)

def impl_Rename_1.sig : Sig := ⟨[.ptr (.pair (.sl true (.pair .str (.pair .str (.int .i64)))) (.pair (.int .i64) (.pair (.int .i64) .bool))), .val (.box none .str), .val (.box none .str)], [.val (.int .i64)]⟩
noncomputable def impl_Rename_1.ctr : Ctr := ⟨impl_Rename_1.sig, fun x => impl_Rename_1.f x.1 x.2.1 x.2.2⟩
noncomputable def impl_Rename_1.env : Env := [(100, [impl_NameOk.ctr]), (161, [impl_fileAt.ctr]), (162, [impl_Disk_drop.ctr]), (163, [impl_Disk_put.ctr])]
def impl_Rename_1.ann : Ann := ⟨[], [], []⟩
theorem impl_Rename_1.ok : CtrOk Try.prog 160 impl_Rename_1.ctr := fn_sound (A := impl_Rename_1.ann) tabOk (EnvOk.cons (ctrs_cons impl_NameOk.ok ctrs_nil) (EnvOk.cons (ctrs_cons impl_fileAt.ok ctrs_nil) (EnvOk.cons (ctrs_cons impl_Disk_drop.ok ctrs_nil) (EnvOk.cons (ctrs_cons impl_Disk_put.ok ctrs_nil) EnvOk.nil)))) mixed (fn := Try.f160) (body := bodyOf Try.f160) Try.func160 (by kernel_rfl) (by kernel_rfl) (fun x => by kernel_rfl)

def impl_step_Rename_1.sig : Sig := ⟨[.val (.pair (.sl false (.pair .str (.pair .str (.int .i64)))) (.pair (.int .i64) (.pair (.int .i64) .bool))), .val (.box (some 160) (.pair (.box none .str) (.box none .str)))], [.val (.pair (.sl true (.pair .str (.pair .str (.int .i64)))) (.pair (.int .i64) (.pair (.int .i64) .bool))), .val (.int .i64)]⟩
noncomputable def impl_step_Rename_1.ctr : Ctr := ⟨impl_step_Rename_1.sig, fun x => impl_step_Rename_1.f x.1 x.2⟩
noncomputable def impl_step_Rename_1.env : Env := [(49, [impl_DiskOk.ctr]), (51, [impl_copyDisk.ctr]), (160, [impl_Rename_1.ctr])]
def impl_step_Rename_1.ann : Ann := ⟨[], [], [(7, [(.normal, [(1, .val (.box (some 160) (.pair (.box none .str) (.box none .str)))), (4, .ptr (.pair (.sl true (.pair .str (.pair .str (.int .i64)))) (.pair (.int .i64) (.pair (.int .i64) .bool)))), (6, .ptr (.pair (.sl true (.pair .str (.pair .str (.int .i64)))) (.pair (.int .i64) (.pair (.int .i64) .bool))))])])]⟩
theorem impl_step_Rename_1.ok : CtrOk Try.prog 159 impl_step_Rename_1.ctr := fn_sound (A := impl_step_Rename_1.ann) tabOk (EnvOk.cons (ctrs_cons impl_DiskOk.ok ctrs_nil) (EnvOk.cons (ctrs_cons impl_copyDisk.ok ctrs_nil) (EnvOk.cons (ctrs_cons impl_Rename_1.ok ctrs_nil) EnvOk.nil))) mixed (fn := Try.f159) (body := bodyOf Try.f159) Try.func159 (by kernel_rfl) (by kernel_rfl) (fun x => by kernel_rfl)

def impl_Rename.sig : Sig := ⟨[.val (.pair (.sl false (.pair .str (.pair .str (.int .i64)))) (.pair (.int .i64) (.pair (.int .i64) .bool))), .val .str, .val .str], [.val (.pair (.sl true (.pair .str (.pair .str (.int .i64)))) (.pair (.int .i64) (.pair (.int .i64) .bool))), .val (.int .i64)]⟩
noncomputable def impl_Rename.ctr : Ctr := ⟨impl_Rename.sig, fun x => impl_Rename.f x.1 x.2.1 x.2.2⟩
noncomputable def impl_Rename.env : Env := [(159, [impl_step_Rename_1.ctr])]
def impl_Rename.ann : Ann := ⟨[], [], []⟩
theorem impl_Rename.ok : CtrOk Try.prog 136 impl_Rename.ctr := fn_sound (A := impl_Rename.ann) tabOk (EnvOk.cons (ctrs_cons impl_step_Rename_1.ok ctrs_nil) EnvOk.nil) mixed (fn := Try.f136) (body := bodyOf Try.f136) Try.func136 (by kernel_rfl) (by kernel_rfl) (fun x => by kernel_rfl)

def impl_worker_rename.sig : Sig := ⟨[.ptr (.pair (.pair (.sl true (.pair .str (.pair .str (.int .i64)))) (.pair (.int .i64) (.pair (.int .i64) .bool))) (.int .i64)), .val .str, .val .str], []⟩
noncomputable def impl_worker_rename.ctr : Ctr := ⟨impl_worker_rename.sig, fun x => impl_worker_rename.f x.1 x.2.1 x.2.2⟩
noncomputable def impl_worker_rename.env : Env := [(135, [impl_worker_took_o.ctr]), (136, [impl_Rename.ctr])]
def impl_worker_rename.ann : Ann := ⟨[], [], []⟩
theorem impl_worker_rename.ok : CtrOk Try.prog 103 impl_worker_rename.ctr := fn_sound (A := impl_worker_rename.ann) tabOk (EnvOk.cons (ctrs_cons impl_worker_took_o.ok ctrs_nil) (EnvOk.cons (ctrs_cons impl_Rename.ok ctrs_nil) EnvOk.nil)) mixed (fn := Try.f103) (body := bodyOf Try.f103) Try.func103 (by kernel_rfl) (by kernel_rfl) (fun x => by kernel_rfl)

def impl_worker_putLive.sig : Sig := ⟨[.ptr (.pair (.pair (.sl true (.pair .str (.pair .str (.int .i64)))) (.pair (.int .i64) (.pair (.int .i64) .bool))) (.int .i64)), .val (.pair (.int .i64) (.sl false (.int .i64)))], []⟩
noncomputable def impl_worker_putLive.ctr : Ctr := ⟨impl_worker_putLive.sig, fun x => impl_worker_putLive.f x.1 x.2⟩
noncomputable def impl_worker_putLive.env : Env := [(101, [impl_worker_fileOf.ctr]), (102, [impl_ShowLive.ctr]), (103, [impl_worker_rename.ctr])]
def impl_worker_putLive.ann : Ann := ⟨[], [], []⟩
theorem impl_worker_putLive.ok : CtrOk Try.prog 52 impl_worker_putLive.ctr := fn_sound (A := impl_worker_putLive.ann) tabOk (EnvOk.cons (ctrs_cons impl_worker_fileOf.ok ctrs_nil) (EnvOk.cons (ctrs_cons impl_ShowLive.ok ctrs_nil) (EnvOk.cons (ctrs_cons impl_worker_rename.ok ctrs_nil) EnvOk.nil))) mixed (fn := Try.f52) (body := bodyOf Try.f52) Try.func52 (by kernel_rfl) (by kernel_rfl) (fun x => by kernel_rfl)

def impl_PutLive.sig : Sig := ⟨[.val (.pair (.sl false (.pair .str (.pair .str (.int .i64)))) (.pair (.int .i64) (.pair (.int .i64) .bool))), .val (.pair (.int .i64) (.sl false (.int .i64)))], [.val (.pair (.sl true (.pair .str (.pair .str (.int .i64)))) (.pair (.int .i64) (.pair (.int .i64) .bool))), .val (.int .i64)]⟩
noncomputable def impl_PutLive.ctr : Ctr := ⟨impl_PutLive.sig, fun x => impl_PutLive.f x.1 x.2⟩
noncomputable def impl_PutLive.env : Env := [(49, [impl_DiskOk.ctr]), (50, [impl_LiveOk.ctr]), (51, [impl_copyDisk.ctr]), (52, [impl_worker_putLive.ctr])]
def impl_PutLive.ann : Ann := ⟨[], [], []⟩
theorem impl_PutLive.ok : CtrOk Try.prog 11 impl_PutLive.ctr := fn_sound (A := impl_PutLive.ann) tabOk (EnvOk.cons (ctrs_cons impl_DiskOk.ok ctrs_nil) (EnvOk.cons (ctrs_cons impl_LiveOk.ok ctrs_nil) (EnvOk.cons (ctrs_cons impl_copyDisk.ok ctrs_nil) (EnvOk.cons (ctrs_cons impl_worker_putLive.ok ctrs_nil) EnvOk.nil)))) mixed (fn := Try.f11) (body := bodyOf Try.f11) Try.func11 (by kernel_rfl) (by kernel_rfl) (fun x => by kernel_rfl)

def laws_eqFile.sig : Sig := ⟨[.val (.pair .str (.pair .str (.int .i64))), .val (.pair .str (.pair .str (.int .i64)))], [.val .bool]⟩
noncomputable def laws_eqFile.ctr : Ctr := ⟨laws_eqFile.sig, fun x => laws_eqFile.f x.1 x.2⟩
noncomputable def laws_eqFile.env : Env := []
def laws_eqFile.ann : Ann := ⟨[], [], []⟩
theorem laws_eqFile.ok : CtrOk Try.prog 104 laws_eqFile.ctr := fn_sound (A := laws_eqFile.ann) tabOk EnvOk.nil mixed (fn := Try.f104) (body := bodyOf Try.f104) Try.func104 (by kernel_rfl) (by kernel_rfl) (fun x => by kernel_rfl)

def laws_eqFileS.sig : Sig := ⟨[.val (.sl false (.pair .str (.pair .str (.int .i64)))), .val (.sl false (.pair .str (.pair .str (.int .i64))))], [.val .bool]⟩
noncomputable def laws_eqFileS.ctr : Ctr := ⟨laws_eqFileS.sig, fun x => laws_eqFileS.f x.1 x.2⟩
noncomputable def laws_eqFileS.env : Env := [(104, [laws_eqFile.ctr])]
def laws_eqFileS.ann : Ann := ⟨[(0, ([(0, .val (.sl false (.pair .str (.pair .str (.int .i64))))), (1, .val (.sl false (.pair .str (.pair .str (.int .i64))))), (5, .val (.int .i64))], [(.exit 0, []), (.ret, [(4, .val .bool)])]))], [], []⟩
theorem laws_eqFileS.ok : CtrOk Try.prog 53 laws_eqFileS.ctr := fn_sound (A := laws_eqFileS.ann) tabOk (EnvOk.cons (ctrs_cons laws_eqFile.ok ctrs_nil) EnvOk.nil) mixed (fn := Try.f53) (body := bodyOf Try.f53) Try.func53 (by kernel_rfl) (by kernel_rfl) (fun x => by kernel_rfl)

def laws_eqDisk.sig : Sig := ⟨[.val (.pair (.sl false (.pair .str (.pair .str (.int .i64)))) (.pair (.int .i64) (.pair (.int .i64) .bool))), .val (.pair (.sl false (.pair .str (.pair .str (.int .i64)))) (.pair (.int .i64) (.pair (.int .i64) .bool)))], [.val .bool]⟩
noncomputable def laws_eqDisk.ctr : Ctr := ⟨laws_eqDisk.sig, fun x => laws_eqDisk.f x.1 x.2⟩
noncomputable def laws_eqDisk.env : Env := [(53, [laws_eqFileS.ctr])]
def laws_eqDisk.ann : Ann := ⟨[], [], []⟩
theorem laws_eqDisk.ok : CtrOk Try.prog 12 laws_eqDisk.ctr := fn_sound (A := laws_eqDisk.ann) tabOk (EnvOk.cons (ctrs_cons laws_eqFileS.ok ctrs_nil) EnvOk.nil) mixed (fn := Try.f12) (body := bodyOf Try.f12) Try.func12 (by kernel_rfl) (by kernel_rfl) (fun x => by kernel_rfl)

def laws_eqIntS.sig : Sig := ⟨[.val (.sl false (.int .i64)), .val (.sl false (.int .i64))], [.val .bool]⟩
noncomputable def laws_eqIntS.ctr : Ctr := ⟨laws_eqIntS.sig, fun x => laws_eqIntS.f x.1 x.2⟩
noncomputable def laws_eqIntS.env : Env := []
def laws_eqIntS.ann : Ann := ⟨[(0, ([(0, .val (.sl false (.int .i64))), (1, .val (.sl false (.int .i64))), (5, .val (.int .i64))], [(.exit 0, []), (.ret, [(4, .val .bool)])]))], [], []⟩
theorem laws_eqIntS.ok : CtrOk Try.prog 54 laws_eqIntS.ctr := fn_sound (A := laws_eqIntS.ann) tabOk EnvOk.nil mixed (fn := Try.f54) (body := bodyOf Try.f54) Try.func54 (by kernel_rfl) (by kernel_rfl) (fun x => by kernel_rfl)

def laws_eqLive.sig : Sig := ⟨[.val (.pair (.int .i64) (.sl false (.int .i64))), .val (.pair (.int .i64) (.sl false (.int .i64)))], [.val .bool]⟩
noncomputable def laws_eqLive.ctr : Ctr := ⟨laws_eqLive.sig, fun x => laws_eqLive.f x.1 x.2⟩
noncomputable def laws_eqLive.env : Env := [(54, [laws_eqIntS.ctr])]
def laws_eqLive.ann : Ann := ⟨[], [], []⟩
theorem laws_eqLive.ok : CtrOk Try.prog 13 laws_eqLive.ctr := fn_sound (A := laws_eqLive.ann) tabOk (EnvOk.cons (ctrs_cons laws_eqIntS.ok ctrs_nil) EnvOk.nil) mixed (fn := Try.f13) (body := bodyOf Try.f13) Try.func13 (by kernel_rfl) (by kernel_rfl) (fun x => by kernel_rfl)

def laws_markText.sig : Sig := ⟨[.val (.int .i64)], [.val .str]⟩
noncomputable def laws_markText.ctr : Ctr := ⟨laws_markText.sig, fun x => laws_markText.f x⟩
noncomputable def laws_markText.env : Env := []
def laws_markText.ann : Ann := ⟨[(0, ([(0, .val (.int .i64)), (3, .val .str)], [(.exit 0, [(3, .val .str)])]))], [], []⟩
theorem laws_markText.ok : CtrOk Try.prog 64 laws_markText.ctr := fn_sound (A := laws_markText.ann) tabOk EnvOk.nil mixed (fn := Try.f64) (body := bodyOf Try.f64) Try.func64 (by kernel_rfl) (by kernel_rfl) (fun x => by kernel_rfl)

def laws_markFileS.sig : Sig := ⟨[.io (.sl true (.pair .str (.pair .str (.int .i64)))), .val (.int .i64)], [.val (.int .i64)]⟩
noncomputable def laws_markFileS.ctr : Ctr := ⟨laws_markFileS.sig, fun x => laws_markFileS.f x.1 x.2⟩
noncomputable def laws_markFileS.env : Env := [(64, [laws_markText.ctr])]
def laws_markFileS.ann : Ann := ⟨[(0, ([(0, .val (.sl true (.pair .str (.pair .str (.int .i64))))), (1, .val (.int .i64)), (5, .val (.int .i64))], [(.exit 0, [(0, .val (.sl true (.pair .str (.pair .str (.int .i64))))), (1, .val (.int .i64))])]))], [], []⟩
theorem laws_markFileS.ok : CtrOk Try.prog 55 laws_markFileS.ctr := fn_sound (A := laws_markFileS.ann) tabOk (EnvOk.cons (ctrs_cons laws_markText.ok ctrs_nil) EnvOk.nil) mixed (fn := Try.f55) (body := bodyOf Try.f55) Try.func55 (by kernel_rfl) (by kernel_rfl) (fun x => by kernel_rfl)

def laws_markDisk.sig : Sig := ⟨[.io (.pair (.sl true (.pair .str (.pair .str (.int .i64)))) (.pair (.int .i64) (.pair (.int .i64) .bool))), .val (.int .i64)], [.val (.int .i64)]⟩
noncomputable def laws_markDisk.ctr : Ctr := ⟨laws_markDisk.sig, fun x => laws_markDisk.f x.1 x.2⟩
noncomputable def laws_markDisk.env : Env := [(55, [laws_markFileS.ctr])]
def laws_markDisk.ann : Ann := ⟨[], [], []⟩
theorem laws_markDisk.ok : CtrOk Try.prog 14 laws_markDisk.ctr := fn_sound (A := laws_markDisk.ann) tabOk (EnvOk.cons (ctrs_cons laws_markFileS.ok ctrs_nil) EnvOk.nil) mixed (fn := Try.f14) (body := bodyOf Try.f14) Try.func14 (by kernel_rfl) (by kernel_rfl) (fun x => by kernel_rfl)

def laws_markIntS.sig : Sig := ⟨[.io (.sl true (.int .i64)), .val (.int .i64)], [.val (.int .i64)]⟩
noncomputable def laws_markIntS.ctr : Ctr := ⟨laws_markIntS.sig, fun x => laws_markIntS.f x.1 x.2⟩
noncomputable def laws_markIntS.env : Env := []
def laws_markIntS.ann : Ann := ⟨[(0, ([(0, .val (.sl true (.int .i64))), (1, .val (.int .i64)), (5, .val (.int .i64))], [(.exit 0, [(0, .val (.sl true (.int .i64))), (1, .val (.int .i64))])]))], [], []⟩
theorem laws_markIntS.ok : CtrOk Try.prog 56 laws_markIntS.ctr := fn_sound (A := laws_markIntS.ann) tabOk EnvOk.nil mixed (fn := Try.f56) (body := bodyOf Try.f56) Try.func56 (by kernel_rfl) (by kernel_rfl) (fun x => by kernel_rfl)

def laws_markLive.sig : Sig := ⟨[.io (.pair (.int .i64) (.sl true (.int .i64))), .val (.int .i64)], [.val (.int .i64)]⟩
noncomputable def laws_markLive.ctr : Ctr := ⟨laws_markLive.sig, fun x => laws_markLive.f x.1 x.2⟩
noncomputable def laws_markLive.env : Env := [(56, [laws_markIntS.ctr])]
def laws_markLive.ann : Ann := ⟨[], [], []⟩
theorem laws_markLive.ok : CtrOk Try.prog 15 laws_markLive.ctr := fn_sound (A := laws_markLive.ann) tabOk (EnvOk.cons (ctrs_cons laws_markIntS.ok ctrs_nil) EnvOk.nil) mixed (fn := Try.f15) (body := bodyOf Try.f15) Try.func15 (by kernel_rfl) (by kernel_rfl) (fun x => by kernel_rfl)

def laws_heldFileS.sig : Sig := ⟨[.val (.sl false (.pair .str (.pair .str (.int .i64)))), .val (.int .i64)], [.val (.int .i64)]⟩
noncomputable def laws_heldFileS.ctr : Ctr := ⟨laws_heldFileS.sig, fun x => laws_heldFileS.f x.1 x.2⟩
noncomputable def laws_heldFileS.env : Env := [(64, [laws_markText.ctr])]
def laws_heldFileS.ann : Ann := ⟨[(0, ([(0, .val (.sl false (.pair .str (.pair .str (.int .i64))))), (1, .val (.int .i64)), (5, .val (.int .i64))], [(.exit 0, [(1, .val (.int .i64))]), (.ret, [(4, .val (.int .i64))])]))], [], []⟩
theorem laws_heldFileS.ok : CtrOk Try.prog 57 laws_heldFileS.ctr := fn_sound (A := laws_heldFileS.ann) tabOk (EnvOk.cons (ctrs_cons laws_markText.ok ctrs_nil) EnvOk.nil) mixed (fn := Try.f57) (body := bodyOf Try.f57) Try.func57 (by kernel_rfl) (by kernel_rfl) (fun x => by kernel_rfl)

def laws_heldDisk.sig : Sig := ⟨[.val (.pair (.sl false (.pair .str (.pair .str (.int .i64)))) (.pair (.int .i64) (.pair (.int .i64) .bool))), .val (.int .i64)], [.val (.int .i64)]⟩
noncomputable def laws_heldDisk.ctr : Ctr := ⟨laws_heldDisk.sig, fun x => laws_heldDisk.f x.1 x.2⟩
noncomputable def laws_heldDisk.env : Env := [(57, [laws_heldFileS.ctr])]
def laws_heldDisk.ann : Ann := ⟨[], [], []⟩
theorem laws_heldDisk.ok : CtrOk Try.prog 16 laws_heldDisk.ctr := fn_sound (A := laws_heldDisk.ann) tabOk (EnvOk.cons (ctrs_cons laws_heldFileS.ok ctrs_nil) EnvOk.nil) mixed (fn := Try.f16) (body := bodyOf Try.f16) Try.func16 (by kernel_rfl) (by kernel_rfl) (fun x => by kernel_rfl)

def laws_FnExactPutLive.sig : Sig := ⟨[.val (.pair (.sl false (.pair .str (.pair .str (.int .i64)))) (.pair (.int .i64) (.pair (.int .i64) .bool))), .val (.pair (.int .i64) (.sl false (.int .i64)))], [.val .bool]⟩
noncomputable def laws_FnExactPutLive.ctr : Ctr := ⟨laws_FnExactPutLive.sig, fun x => laws_FnExactPutLive.f x.1 x.2⟩
noncomputable def laws_FnExactPutLive.env : Env := [(6, [laws_szDisk.ctr]), (7, [laws_szLive.ctr]), (8, [spec_PutLive.ctr]), (9, [laws_toDisk.ctr]), (10, [laws_toLive.ctr]), (11, [impl_PutLive.ctr]), (12, [laws_eqDisk.ctr]), (13, [laws_eqLive.ctr]), (14, [laws_markDisk.ctr]), (15, [laws_markLive.ctr]), (16, [laws_heldDisk.ctr])]
def laws_FnExactPutLive.ann : Ann := ⟨[], [], []⟩
theorem laws_FnExactPutLive.ok : CtrOk Try.prog 3 laws_FnExactPutLive.ctr := fn_sound (A := laws_FnExactPutLive.ann) tabOk (EnvOk.cons (ctrs_cons laws_szDisk.ok ctrs_nil) (EnvOk.cons (ctrs_cons laws_szLive.ok ctrs_nil) (EnvOk.cons (ctrs_cons spec_PutLive.ok ctrs_nil) (EnvOk.cons (ctrs_cons laws_toDisk.ok ctrs_nil) (EnvOk.cons (ctrs_cons laws_toLive.ok ctrs_nil) (EnvOk.cons (ctrs_cons impl_PutLive.ok ctrs_nil) (EnvOk.cons (ctrs_cons laws_eqDisk.ok ctrs_nil) (EnvOk.cons (ctrs_cons laws_eqLive.ok ctrs_nil) (EnvOk.cons (ctrs_cons laws_markDisk.ok ctrs_nil) (EnvOk.cons (ctrs_cons laws_markLive.ok ctrs_nil) (EnvOk.cons (ctrs_cons laws_heldDisk.ok ctrs_nil) EnvOk.nil))))))))))) mixed (fn := Try.f3) (body := bodyOf Try.f3) Try.func3 (by kernel_rfl) (by kernel_rfl) (fun x => by kernel_rfl)

end Go.Proofs.Ytlnfdijlnfmkfaa
