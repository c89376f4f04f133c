/- Each function of the program that FnExactDump reaches comes to its plain function. -/
import Derived.Test.YtljiidpfgfkhcaaGreatDoorShelf
import Derived.Lib.AppendIntMem
import Derived.Test.YtljiidpfgfkhcaaGreatDoorRf5
import Derived.Test.YtljiidpfgfkhcaaGreatDoorXDumpFns
import Derived.Test.YtljiidpfgfkhcaaGreatDoorProg
namespace Go.Proofs.YtljiidpfgfkhcaaGreatDoor
open Go Go.Rf Go.Rf.G Go.Proofs Go.Lib
set_option maxRecDepth 100000
def bodyOf (f : Func) : Code := f.body.getD .skip
def tab : Tab := [(3, ⟨(.int .i64), false, [], none, 8, false⟩),
  (4, ⟨.bool, false, [], none, 1, false⟩),
  (5, ⟨(.int .u8), false, [], none, 1, false⟩),
  (9, ⟨.str, false, [], none, 16, false⟩),
  (22, ⟨(.sl true (.int .i64)), false, [], some 3, 24, false⟩),
  (24, ⟨(.pair (.int .i64) (.sl true (.int .i64))), true, [(0, 1, false), (1, 1, false)], none, 32, false⟩),
  (25, ⟨(.sl true (.pair .str (.pair (.int .i64) (.pair (.int .i64) (.pair (.int .i64) (.int .i64)))))), false, [], some 104, 24, false⟩),
  (27, ⟨(.pair (.pair (.int .i64) (.sl true (.int .i64))) (.pair (.sl true (.pair .str (.pair (.int .i64) (.pair (.int .i64) (.pair (.int .i64) (.int .i64)))))) (.pair (.int .i64) (.pair (.int .i64) (.int .i64))))), true, [(0, 2, true), (2, 1, false), (3, 1, false), (4, 1, false), (5, 1, false)], none, 80, false⟩),
  (28, ⟨(.sl true (.pair .str (.pair .str (.int .i64)))), false, [], some 107, 24, false⟩),
  (30, ⟨(.pair (.sl true (.pair .str (.pair .str (.int .i64)))) (.pair (.int .i64) (.pair (.int .i64) .bool))), true, [(0, 1, false), (1, 1, false), (2, 1, false), (3, 1, false)], none, 48, false⟩),
  (33, ⟨(.sl true (.pair .str (.pair .str (.int .i64)))), false, [], some 66, 24, false⟩),
  (36, ⟨(.pair (.int .i64) (.sl true (.int .i64))), true, [(0, 1, false), (1, 1, false)], none, 32, false⟩),
  (37, ⟨(.sl true (.pair .str (.pair (.int .i64) (.pair (.int .i64) (.pair (.int .i64) (.int .i64)))))), false, [], some 70, 24, false⟩),
  (39, ⟨(.pair (.pair (.int .i64) (.sl true (.int .i64))) (.pair (.sl true (.pair .str (.pair (.int .i64) (.pair (.int .i64) (.pair (.int .i64) (.int .i64)))))) (.pair (.int .i64) (.pair (.int .i64) (.int .i64))))), true, [(0, 2, true), (2, 1, false), (3, 1, false), (4, 1, false), (5, 1, false)], none, 80, false⟩),
  (41, ⟨(.sl true (.pair .str (.pair .str (.int .i64)))), false, [], some 118, 24, false⟩),
  (43, ⟨(.pair (.sl true (.pair .str (.pair .str (.int .i64)))) (.pair (.int .i64) (.pair (.int .i64) .bool))), true, [(0, 1, false), (1, 1, false), (2, 1, false), (3, 1, false)], none, 48, false⟩),
  (66, ⟨(.pair .str (.pair .str (.int .i64))), true, [(0, 1, false), (1, 1, false), (2, 1, false)], none, 40, true⟩),
  (70, ⟨(.pair .str (.pair (.int .i64) (.pair (.int .i64) (.pair (.int .i64) (.int .i64))))), true, [(0, 1, false), (1, 1, false), (2, 1, false), (3, 1, false), (4, 1, false)], none, 48, true⟩),
  (74, ⟨(.sl true .str), false, [], some 9, 24, false⟩),
  (104, ⟨(.pair .str (.pair (.int .i64) (.pair (.int .i64) (.pair (.int .i64) (.int .i64))))), true, [(0, 1, false), (1, 1, false), (2, 1, false), (3, 1, false), (4, 1, false)], none, 48, true⟩),
  (107, ⟨(.pair .str (.pair .str (.int .i64))), true, [(0, 1, false), (1, 1, false), (2, 1, false)], none, 40, true⟩),
  (113, ⟨(.pair (.int .i64) (.pair (.int .i64) (.pair .str (.pair .str (.pair (.int .i64) (.int .i64)))))), true, [(0, 1, false), (1, 1, false), (2, 1, false), (3, 1, false), (4, 1, false), (5, 1, false)], none, 64, true⟩),
  (118, ⟨(.pair .str (.pair .str (.int .i64))), true, [(0, 1, false), (1, 1, false), (2, 1, false)], none, 40, true⟩),
  (123, ⟨(.sl true (.int .u8)), false, [], some 5, 24, false⟩),
  (197, ⟨(.pair .str .bool), true, [(0, 1, false), (1, 1, false)], none, 24, true⟩),
  (211, ⟨(.int .u32), false, [], none, 4, false⟩)]
theorem tabOk : TabOk Tryz.prog tab := Rf.tabOk (by kernel_rfl)
theorem mixed : Tryz.prog.follows .mixedOrders = true := by kernel_rfl
instance laid : Laid := tabLaid Tryz.prog "internal/strconv.uint64pow10" .u64 Lib.pow10Tab
def laws_szIntS.sig : Sig := ⟨[.val (.sl false (.int .i64)), .val (.int .i64)], [.val (.int .i64)]⟩
noncomputable def laws_szIntS.ctr : Ctr := ⟨laws_szIntS.sig, fun x => laws_szIntS.f x.1 x.2⟩
noncomputable def laws_szIntS.env : Env := []
def laws_szIntS.ann : Ann := ⟨[], [], []⟩
theorem laws_szIntS.ok : CtrOk Tryz.prog 71 laws_szIntS.ctr := fn_sound (A := laws_szIntS.ann) tabOk EnvOk.nil mixed (fn := Tryz.f71) (body := bodyOf Tryz.f71) Tryz.func71 (by kernel_rfl) (by kernel_rfl) (fun x => by kernel_rfl)

def laws_szLive.sig : Sig := ⟨[.val (.pair (.int .i64) (.sl false (.int .i64))), .val (.int .i64)], [.val (.int .i64)]⟩
noncomputable def laws_szLive.ctr : Ctr := ⟨laws_szLive.sig, fun x => laws_szLive.f x.1 x.2⟩
noncomputable def laws_szLive.env : Env := [(71, [laws_szIntS.ctr])]
def laws_szLive.ann : Ann := ⟨[], [], []⟩
theorem laws_szLive.ok : CtrOk Tryz.prog 32 laws_szLive.ctr := fn_sound (A := laws_szLive.ann) tabOk (EnvOk.cons (ctrs_cons laws_szIntS.ok ctrs_nil) EnvOk.nil) mixed (fn := Tryz.f32) (body := bodyOf Tryz.f32) Tryz.func32 (by kernel_rfl) (by kernel_rfl) (fun x => by kernel_rfl)

def laws_szEntry.sig : Sig := ⟨[.val (.pair .str (.pair (.int .i64) (.pair (.int .i64) (.pair (.int .i64) (.int .i64))))), .val (.int .i64)], [.val (.int .i64)]⟩
noncomputable def laws_szEntry.ctr : Ctr := ⟨laws_szEntry.sig, fun x => laws_szEntry.f x.1 x.2⟩
noncomputable def laws_szEntry.env : Env := []
def laws_szEntry.ann : Ann := ⟨[], [], []⟩
theorem laws_szEntry.ok : CtrOk Tryz.prog 72 laws_szEntry.ctr := fn_sound (A := laws_szEntry.ann) tabOk EnvOk.nil mixed (fn := Tryz.f72) (body := bodyOf Tryz.f72) Tryz.func72 (by kernel_rfl) (by kernel_rfl) (fun x => by kernel_rfl)

def laws_szEntryS.sig : Sig := ⟨[.val (.sl false (.pair .str (.pair (.int .i64) (.pair (.int .i64) (.pair (.int .i64) (.int .i64)))))), .val (.int .i64)], [.val (.int .i64)]⟩
noncomputable def laws_szEntryS.ctr : Ctr := ⟨laws_szEntryS.sig, fun x => laws_szEntryS.f x.1 x.2⟩
noncomputable def laws_szEntryS.env : Env := [(72, [laws_szEntry.ctr])]
def laws_szEntryS.ann : Ann := ⟨[(0, ([(0, .val (.sl false (.pair .str (.pair (.int .i64) (.pair (.int .i64) (.pair (.int .i64) (.int .i64))))))), (1, .val (.int .i64)), (5, .val (.int .i64))], [(.exit 0, [(1, .val (.int .i64))]), (.ret, [(4, .val (.int .i64))])]))], [], []⟩
theorem laws_szEntryS.ok : CtrOk Tryz.prog 33 laws_szEntryS.ctr := fn_sound (A := laws_szEntryS.ann) tabOk (EnvOk.cons (ctrs_cons laws_szEntry.ok ctrs_nil) EnvOk.nil) mixed (fn := Tryz.f33) (body := bodyOf Tryz.f33) Tryz.func33 (by kernel_rfl) (by kernel_rfl) (fun x => by kernel_rfl)

def laws_szStore.sig : Sig := ⟨[.val (.pair (.pair (.int .i64) (.sl false (.int .i64))) (.pair (.sl false (.pair .str (.pair (.int .i64) (.pair (.int .i64) (.pair (.int .i64) (.int .i64)))))) (.pair (.int .i64) (.pair (.int .i64) (.int .i64))))), .val (.int .i64)], [.val (.int .i64)]⟩
noncomputable def laws_szStore.ctr : Ctr := ⟨laws_szStore.sig, fun x => laws_szStore.f x.1 x.2⟩
noncomputable def laws_szStore.env : Env := [(32, [laws_szLive.ctr]), (33, [laws_szEntryS.ctr])]
def laws_szStore.ann : Ann := ⟨[], [], []⟩
theorem laws_szStore.ok : CtrOk Tryz.prog 7 laws_szStore.ctr := fn_sound (A := laws_szStore.ann) tabOk (EnvOk.cons (ctrs_cons laws_szLive.ok ctrs_nil) (EnvOk.cons (ctrs_cons laws_szEntryS.ok ctrs_nil) EnvOk.nil)) mixed (fn := Tryz.f7) (body := bodyOf Tryz.f7) Tryz.func7 (by kernel_rfl) (by kernel_rfl) (fun x => by kernel_rfl)

def laws_szFile.sig : Sig := ⟨[.val (.pair .str (.pair .str (.int .i64))), .val (.int .i64)], [.val (.int .i64)]⟩
noncomputable def laws_szFile.ctr : Ctr := ⟨laws_szFile.sig, fun x => laws_szFile.f x.1 x.2⟩
noncomputable def laws_szFile.env : Env := []
def laws_szFile.ann : Ann := ⟨[], [], []⟩
theorem laws_szFile.ok : CtrOk Tryz.prog 73 laws_szFile.ctr := fn_sound (A := laws_szFile.ann) tabOk EnvOk.nil mixed (fn := Tryz.f73) (body := bodyOf Tryz.f73) Tryz.func73 (by kernel_rfl) (by kernel_rfl) (fun x => by kernel_rfl)

def laws_szFileS.sig : Sig := ⟨[.val (.sl false (.pair .str (.pair .str (.int .i64)))), .val (.int .i64)], [.val (.int .i64)]⟩
noncomputable def laws_szFileS.ctr : Ctr := ⟨laws_szFileS.sig, fun x => laws_szFileS.f x.1 x.2⟩
noncomputable def laws_szFileS.env : Env := [(73, [laws_szFile.ctr])]
def laws_szFileS.ann : Ann := ⟨[(0, ([(0, .val (.sl false (.pair .str (.pair .str (.int .i64))))), (1, .val (.int .i64)), (5, .val (.int .i64))], [(.exit 0, [(1, .val (.int .i64))]), (.ret, [(4, .val (.int .i64))])]))], [], []⟩
theorem laws_szFileS.ok : CtrOk Tryz.prog 34 laws_szFileS.ctr := fn_sound (A := laws_szFileS.ann) tabOk (EnvOk.cons (ctrs_cons laws_szFile.ok ctrs_nil) EnvOk.nil) mixed (fn := Tryz.f34) (body := bodyOf Tryz.f34) Tryz.func34 (by kernel_rfl) (by kernel_rfl) (fun x => by kernel_rfl)

def laws_szDisk.sig : Sig := ⟨[.val (.pair (.sl false (.pair .str (.pair .str (.int .i64)))) (.pair (.int .i64) (.pair (.int .i64) .bool))), .val (.int .i64)], [.val (.int .i64)]⟩
noncomputable def laws_szDisk.ctr : Ctr := ⟨laws_szDisk.sig, fun x => laws_szDisk.f x.1 x.2⟩
noncomputable def laws_szDisk.env : Env := [(34, [laws_szFileS.ctr])]
def laws_szDisk.ann : Ann := ⟨[], [], []⟩
theorem laws_szDisk.ok : CtrOk Tryz.prog 8 laws_szDisk.ctr := fn_sound (A := laws_szDisk.ann) tabOk (EnvOk.cons (ctrs_cons laws_szFileS.ok ctrs_nil) EnvOk.nil) mixed (fn := Tryz.f8) (body := bodyOf Tryz.f8) Tryz.func8 (by kernel_rfl) (by kernel_rfl) (fun x => by kernel_rfl)

def spec_DirGet.sig : Sig := ⟨[.val (.sl false (.pair .str (.pair (.int .i64) (.pair (.int .i64) (.pair (.int .i64) (.int .i64)))))), .val .str], [.val (.pair .str (.pair (.int .i64) (.pair (.int .i64) (.pair (.int .i64) (.int .i64))))), .val .bool]⟩
noncomputable def spec_DirGet.ctr : Ctr := ⟨spec_DirGet.sig, fun x => spec_DirGet.f x.1 x.2⟩
noncomputable def spec_DirGet.env : Env := []
def spec_DirGet.ann : Ann := ⟨[(0, ([(0, .val (.sl false (.pair .str (.pair (.int .i64) (.pair (.int .i64) (.pair (.int .i64) (.int .i64))))))), (1, .val .str), (4, .ptr (.pair .str (.pair (.int .i64) (.pair (.int .i64) (.pair (.int .i64) (.int .i64)))))), (6, .val (.int .i64))], [(.exit 0, [(4, .ptr (.pair .str (.pair (.int .i64) (.pair (.int .i64) (.pair (.int .i64) (.int .i64))))))]), (.ret, [(4, .ptr (.pair .str (.pair (.int .i64) (.pair (.int .i64) (.pair (.int .i64) (.int .i64)))))), (5, .val .bool)])]))], [], []⟩
theorem spec_DirGet.ok : CtrOk Tryz.prog 74 spec_DirGet.ctr := fn_sound (A := spec_DirGet.ann) tabOk EnvOk.nil mixed (fn := Tryz.f74) (body := bodyOf Tryz.f74) Tryz.func74 (by kernel_rfl) (by kernel_rfl) (fun x => by kernel_rfl)

def spec_l1In.sig : Sig := ⟨[.val (.int .i64), .val (.int .i64), .val (.int .i64)], [.val .bool]⟩
noncomputable def spec_l1In.ctr : Ctr := ⟨spec_l1In.sig, fun x => spec_l1In.f x.1 x.2.1 x.2.2⟩
noncomputable def spec_l1In.env : Env := []
def spec_l1In.ann : Ann := ⟨[], [], []⟩
theorem spec_l1In.ok : CtrOk Tryz.prog 92 spec_l1In.ctr := fn_sound (A := spec_l1In.ann) tabOk EnvOk.nil mixed (fn := Tryz.f92) (body := bodyOf Tryz.f92) Tryz.func92 (by kernel_rfl) (by kernel_rfl) (fun x => by kernel_rfl)

def spec_l3Used.sig : Sig := ⟨[.val (.pair (.sl false (.pair .str (.pair .str (.int .i64)))) (.pair (.int .i64) (.pair (.int .i64) .bool)))], [.val (.int .i64)]⟩
noncomputable def spec_l3Used.ctr : Ctr := ⟨spec_l3Used.sig, fun x => spec_l3Used.f x⟩
noncomputable def spec_l3Used.env : Env := []
def spec_l3Used.ann : Ann := ⟨[(0, ([(1, .ptr (.pair (.sl false (.pair .str (.pair .str (.int .i64)))) (.pair (.int .i64) (.pair (.int .i64) .bool)))), (3, .val (.int .i64)), (4, .val (.int .i64))], [(.exit 0, [(3, .val (.int .i64))])]))], [], []⟩
theorem spec_l3Used.ok : CtrOk Tryz.prog 142 spec_l3Used.ctr := fn_sound (A := spec_l3Used.ann) tabOk EnvOk.nil mixed (fn := Tryz.f142) (body := bodyOf Tryz.f142) Tryz.func142 (by kernel_rfl) (by kernel_rfl) (fun x => by kernel_rfl)

def spec_NameOk.sig : Sig := ⟨[.val .str], [.val .bool]⟩
noncomputable def spec_NameOk.ctr : Ctr := ⟨spec_NameOk.sig, fun x => spec_NameOk.f x⟩
noncomputable def spec_NameOk.env : Env := [(92, [spec_l1In.ctr])]
def spec_NameOk.ann : Ann := ⟨[(0, ([(0, .val .str), (3, .val (.int .i64))], [(.exit 0, [(0, .val .str)]), (.ret, [(2, .val .bool)])]))], [], [(4, [(.normal, [(0, .val .str), (3, .val (.int .i64))]), (.ret, [(2, .val .bool)])])]⟩
theorem spec_NameOk.ok : CtrOk Tryz.prog 143 spec_NameOk.ctr := fn_sound (A := spec_NameOk.ann) tabOk (EnvOk.cons (ctrs_cons spec_l1In.ok ctrs_nil) EnvOk.nil) mixed (fn := Tryz.f143) (body := bodyOf Tryz.f143) Tryz.func143 (by kernel_rfl) (by kernel_rfl) (fun x => by kernel_rfl)

def spec_DiskOk.sig : Sig := ⟨[.val (.pair (.sl false (.pair .str (.pair .str (.int .i64)))) (.pair (.int .i64) (.pair (.int .i64) .bool)))], [.val .bool]⟩
noncomputable def spec_DiskOk.ctr : Ctr := ⟨spec_DiskOk.sig, fun x => spec_DiskOk.f x⟩
noncomputable def spec_DiskOk.env : Env := [(92, [spec_l1In.ctr]), (142, [spec_l3Used.ctr]), (143, [spec_NameOk.ctr])]
def spec_DiskOk.ann : Ann := ⟨[(0, ([(1, .ptr (.pair (.sl false (.pair .str (.pair .str (.int .i64)))) (.pair (.int .i64) (.pair (.int .i64) .bool)))), (3, .val (.int .i64))], [(.exit 0, []), (.ret, [(2, .val .bool)])]))], [], [(6, [(.normal, [(1, .ptr (.pair (.sl false (.pair .str (.pair .str (.int .i64)))) (.pair (.int .i64) (.pair (.int .i64) .bool)))), (3, .val (.int .i64))]), (.ret, [(2, .val .bool)])])]⟩
theorem spec_DiskOk.ok : CtrOk Tryz.prog 89 spec_DiskOk.ctr := fn_sound (A := spec_DiskOk.ann) tabOk (EnvOk.cons (ctrs_cons spec_l1In.ok ctrs_nil) (EnvOk.cons (ctrs_cons spec_l3Used.ok ctrs_nil) (EnvOk.cons (ctrs_cons spec_NameOk.ok ctrs_nil) EnvOk.nil))) mixed (fn := Tryz.f89) (body := bodyOf Tryz.f89) Tryz.func89 (by kernel_rfl) (by kernel_rfl) (fun x => by kernel_rfl)

def spec_l3Find.sig : Sig := ⟨[.val (.pair (.sl false (.pair .str (.pair .str (.int .i64)))) (.pair (.int .i64) (.pair (.int .i64) .bool))), .val .str], [.val (.int .i64)]⟩
noncomputable def spec_l3Find.ctr : Ctr := ⟨spec_l3Find.sig, fun x => spec_l3Find.f x.1 x.2⟩
noncomputable def spec_l3Find.env : Env := []
def spec_l3Find.ann : Ann := ⟨[(0, ([(1, .val .str), (2, .ptr (.pair (.sl false (.pair .str (.pair .str (.int .i64)))) (.pair (.int .i64) (.pair (.int .i64) .bool)))), (5, .val (.int .i64))], [(.exit 0, []), (.ret, [(4, .val (.int .i64))])]))], [], []⟩
theorem spec_l3Find.ok : CtrOk Tryz.prog 134 spec_l3Find.ctr := fn_sound (A := spec_l3Find.ann) tabOk EnvOk.nil mixed (fn := Tryz.f134) (body := bodyOf Tryz.f134) Tryz.func134 (by kernel_rfl) (by kernel_rfl) (fun x => by kernel_rfl)

def spec_FileText.sig : Sig := ⟨[.val (.pair (.sl false (.pair .str (.pair .str (.int .i64)))) (.pair (.int .i64) (.pair (.int .i64) .bool))), .val .str], [.val .str, .val .bool]⟩
noncomputable def spec_FileText.ctr : Ctr := ⟨spec_FileText.sig, fun x => spec_FileText.f x.1 x.2⟩
noncomputable def spec_FileText.env : Env := [(89, [spec_DiskOk.ctr]), (134, [spec_l3Find.ctr])]
def spec_FileText.ann : Ann := ⟨[], [], []⟩
theorem spec_FileText.ok : CtrOk Tryz.prog 75 spec_FileText.ctr := fn_sound (A := spec_FileText.ann) tabOk (EnvOk.cons (ctrs_cons spec_DiskOk.ok ctrs_nil) (EnvOk.cons (ctrs_cons spec_l3Find.ok ctrs_nil) EnvOk.nil)) mixed (fn := Tryz.f75) (body := bodyOf Tryz.f75) Tryz.func75 (by kernel_rfl) (by kernel_rfl) (fun x => by kernel_rfl)

def spec_Dec.sig : Sig := ⟨[.val (.int .i64)], [.val .str]⟩
noncomputable def spec_Dec.ctr : Ctr := ⟨spec_Dec.sig, fun x => spec_Dec.f x⟩
noncomputable def spec_Dec.env : Env := []
def spec_Dec.ann : Ann := ⟨[(0, ([(0, .val (.int .i64)), (3, .val .str), (4, .val .bool)], [(.exit 0, [(3, .val .str), (4, .val .bool)])]))], [], [(7, [(.normal, [(0, .val (.int .i64)), (3, .val .str), (4, .val .bool), (5, .val (.int .i64))])])]⟩
theorem spec_Dec.ok : CtrOk Tryz.prog 135 spec_Dec.ctr := fn_sound (A := spec_Dec.ann) tabOk EnvOk.nil mixed (fn := Tryz.f135) (body := bodyOf Tryz.f135) Tryz.func135 (by kernel_rfl) (by kernel_rfl) (fun x => by kernel_rfl)

def spec_SegName.sig : Sig := ⟨[.val (.int .i64)], [.val .str]⟩
noncomputable def spec_SegName.ctr : Ctr := ⟨spec_SegName.sig, fun x => spec_SegName.f x⟩
noncomputable def spec_SegName.env : Env := [(92, [spec_l1In.ctr]), (135, [spec_Dec.ctr])]
def spec_SegName.ann : Ann := ⟨[], [], []⟩
theorem spec_SegName.ok : CtrOk Tryz.prog 76 spec_SegName.ctr := fn_sound (A := spec_SegName.ann) tabOk (EnvOk.cons (ctrs_cons spec_l1In.ok ctrs_nil) (EnvOk.cons (ctrs_cons spec_Dec.ok ctrs_nil) EnvOk.nil)) mixed (fn := Tryz.f76) (body := bodyOf Tryz.f76) Tryz.func76 (by kernel_rfl) (by kernel_rfl) (fun x => by kernel_rfl)

def spec_Var.sig : Sig := ⟨[.val (.int .i64)], [.val .str]⟩
noncomputable def spec_Var.ctr : Ctr := ⟨spec_Var.sig, fun x => spec_Var.f x⟩
noncomputable def spec_Var.env : Env := [(92, [spec_l1In.ctr])]
def spec_Var.ann : Ann := ⟨[(0, ([(0, .val (.int .i64)), (3, .val (.sl true (.int .u8)))], [(.exit 0, [(0, .val (.int .i64)), (3, .val (.sl true (.int .u8)))])]))], [], []⟩
theorem spec_Var.ok : CtrOk Tryz.prog 169 spec_Var.ctr := fn_sound (A := spec_Var.ann) tabOk (EnvOk.cons (ctrs_cons spec_l1In.ok ctrs_nil) EnvOk.nil) mixed (fn := Tryz.f169) (body := bodyOf Tryz.f169) Tryz.func169 (by kernel_rfl) (by kernel_rfl) (fun x => by kernel_rfl)

def spec_Fixed.sig : Sig := ⟨[.val (.int .i64), .val (.int .i64)], [.val .str]⟩
noncomputable def spec_Fixed.ctr : Ctr := ⟨spec_Fixed.sig, fun x => spec_Fixed.f x.1 x.2⟩
noncomputable def spec_Fixed.env : Env := [(92, [spec_l1In.ctr])]
def spec_Fixed.ann : Ann := ⟨[(0, ([(0, .val (.int .i64)), (1, .val (.int .i64)), (5, .val .str), (6, .val (.int .i64))], [(.exit 0, [(0, .val (.int .i64)), (5, .val .str)])]))], [], []⟩
theorem spec_Fixed.ok : CtrOk Tryz.prog 170 spec_Fixed.ctr := fn_sound (A := spec_Fixed.ann) tabOk (EnvOk.cons (ctrs_cons spec_l1In.ok ctrs_nil) EnvOk.nil) mixed (fn := Tryz.f170) (body := bodyOf Tryz.f170) Tryz.func170 (by kernel_rfl) (by kernel_rfl) (fun x => by kernel_rfl)

def spec_Crc.sig : Sig := ⟨[.val .str], [.val (.int .i64)]⟩
noncomputable def spec_Crc.ctr : Ctr := ⟨spec_Crc.sig, fun x => spec_Crc.f x⟩
noncomputable def spec_Crc.env : Env := []
def spec_Crc.ann : Ann := ⟨[(2, ([(0, .val .str), (3, .val (.int .i64)), (4, .val (.int .i64)), (5, .val (.int .i64))], [(.exit 2, [(0, .val .str), (3, .val (.int .i64)), (4, .val (.int .i64))])])), (0, ([(0, .val .str), (3, .val (.int .i64)), (4, .val (.int .i64))], [(.exit 0, [(3, .val (.int .i64))])]))], [], [(11, [(.normal, [(0, .val .str), (3, .val (.int .i64)), (4, .val (.int .i64)), (5, .val (.int .i64))])])]⟩
theorem spec_Crc.ok : CtrOk Tryz.prog 171 spec_Crc.ctr := fn_sound (A := spec_Crc.ann) tabOk EnvOk.nil mixed (fn := Tryz.f171) (body := bodyOf Tryz.f171) Tryz.func171 (by kernel_rfl) (by kernel_rfl) (fun x => by kernel_rfl)

def spec_Frame.sig : Sig := ⟨[.val .str], [.val .str]⟩
noncomputable def spec_Frame.ctr : Ctr := ⟨spec_Frame.sig, fun x => spec_Frame.f x⟩
noncomputable def spec_Frame.env : Env := [(169, [spec_Var.ctr]), (170, [spec_Fixed.ctr]), (171, [spec_Crc.ctr])]
def spec_Frame.ann : Ann := ⟨[], [], []⟩
theorem spec_Frame.ok : CtrOk Tryz.prog 157 spec_Frame.ctr := fn_sound (A := spec_Frame.ann) tabOk (EnvOk.cons (ctrs_cons spec_Var.ok ctrs_nil) (EnvOk.cons (ctrs_cons spec_Fixed.ok ctrs_nil) (EnvOk.cons (ctrs_cons spec_Crc.ok ctrs_nil) EnvOk.nil))) mixed (fn := Tryz.f157) (body := bodyOf Tryz.f157) Tryz.func157 (by kernel_rfl) (by kernel_rfl) (fun x => by kernel_rfl)

def spec_ReadVar.sig : Sig := ⟨[.val .str], [.val (.int .i64), .val (.int .i64)]⟩
noncomputable def spec_ReadVar.ctr : Ctr := ⟨spec_ReadVar.sig, fun x => spec_ReadVar.f x⟩
noncomputable def spec_ReadVar.env : Env := [(169, [spec_Var.ctr])]
def spec_ReadVar.ann : Ann := ⟨[(2, ([(0, .val .str), (4, .val (.int .i64)), (5, .val (.int .i64)), (6, .val (.int .i64))], [(.exit 2, [(0, .val .str), (4, .val (.int .i64)), (5, .val (.int .i64))])])), (0, ([(0, .val .str), (4, .val (.int .i64))], [(.exit 0, []), (.ret, [(2, .val (.int .i64)), (3, .val (.int .i64))])]))], [], []⟩
theorem spec_ReadVar.ok : CtrOk Tryz.prog 175 spec_ReadVar.ctr := fn_sound (A := spec_ReadVar.ann) tabOk (EnvOk.cons (ctrs_cons spec_Var.ok ctrs_nil) EnvOk.nil) mixed (fn := Tryz.f175) (body := bodyOf Tryz.f175) Tryz.func175 (by kernel_rfl) (by kernel_rfl) (fun x => by kernel_rfl)

def spec_Unframe.sig : Sig := ⟨[.val .str], [.val .str, .val (.int .i64)]⟩
noncomputable def spec_Unframe.ctr : Ctr := ⟨spec_Unframe.sig, fun x => spec_Unframe.f x⟩
noncomputable def spec_Unframe.env : Env := [(157, [spec_Frame.ctr]), (175, [spec_ReadVar.ctr])]
def spec_Unframe.ann : Ann := ⟨[], [], []⟩
theorem spec_Unframe.ok : CtrOk Tryz.prog 136 spec_Unframe.ctr := fn_sound (A := spec_Unframe.ann) tabOk (EnvOk.cons (ctrs_cons spec_Frame.ok ctrs_nil) (EnvOk.cons (ctrs_cons spec_ReadVar.ok ctrs_nil) EnvOk.nil)) mixed (fn := Tryz.f136) (body := bodyOf Tryz.f136) Tryz.func136 (by kernel_rfl) (by kernel_rfl) (fun x => by kernel_rfl)

def spec_KeyOk.sig : Sig := ⟨[.val .str], [.val .bool]⟩
noncomputable def spec_KeyOk.ctr : Ctr := ⟨spec_KeyOk.sig, fun x => spec_KeyOk.f x⟩
noncomputable def spec_KeyOk.env : Env := [(92, [spec_l1In.ctr])]
def spec_KeyOk.ann : Ann := ⟨[], [], []⟩
theorem spec_KeyOk.ok : CtrOk Tryz.prog 113 spec_KeyOk.ctr := fn_sound (A := spec_KeyOk.ann) tabOk (EnvOk.cons (ctrs_cons spec_l1In.ok ctrs_nil) EnvOk.nil) mixed (fn := Tryz.f113) (body := bodyOf Tryz.f113) Tryz.func113 (by kernel_rfl) (by kernel_rfl) (fun x => by kernel_rfl)

def spec_RecOk.sig : Sig := ⟨[.val (.pair (.int .i64) (.pair (.int .i64) (.pair .str (.pair .str (.pair (.int .i64) (.int .i64))))))], [.val .bool]⟩
noncomputable def spec_RecOk.ctr : Ctr := ⟨spec_RecOk.sig, fun x => spec_RecOk.f x⟩
noncomputable def spec_RecOk.env : Env := [(92, [spec_l1In.ctr]), (113, [spec_KeyOk.ctr])]
def spec_RecOk.ann : Ann := ⟨[], [], [(1, [(.normal, [(1, .ptr (.pair (.int .i64) (.pair (.int .i64) (.pair .str (.pair .str (.pair (.int .i64) (.int .i64)))))))]), (.ret, [(2, .val .bool)])]), (4, [(.normal, [(1, .ptr (.pair (.int .i64) (.pair (.int .i64) (.pair .str (.pair .str (.pair (.int .i64) (.int .i64))))))), (18, .val (.int .i64)), (19, .val .bool)])])]⟩
theorem spec_RecOk.ok : CtrOk Tryz.prog 193 spec_RecOk.ctr := fn_sound (A := spec_RecOk.ann) tabOk (EnvOk.cons (ctrs_cons spec_l1In.ok ctrs_nil) (EnvOk.cons (ctrs_cons spec_KeyOk.ok ctrs_nil) EnvOk.nil)) mixed (fn := Tryz.f193) (body := bodyOf Tryz.f193) Tryz.func193 (by kernel_rfl) (by kernel_rfl) (fun x => by kernel_rfl)

def spec_ShowRec.sig : Sig := ⟨[.val (.pair (.int .i64) (.pair (.int .i64) (.pair .str (.pair .str (.pair (.int .i64) (.int .i64))))))], [.val .str]⟩
noncomputable def spec_ShowRec.ctr : Ctr := ⟨spec_ShowRec.sig, fun x => spec_ShowRec.f x⟩
noncomputable def spec_ShowRec.env : Env := [(169, [spec_Var.ctr]), (170, [spec_Fixed.ctr]), (193, [spec_RecOk.ctr])]
def spec_ShowRec.ann : Ann := ⟨[], [], [(5, [(.normal, [(1, .ptr (.pair (.int .i64) (.pair (.int .i64) (.pair .str (.pair .str (.pair (.int .i64) (.int .i64))))))), (3, .val .str), (15, .val (.int .i64)), (16, .val .bool)])])]⟩
theorem spec_ShowRec.ok : CtrOk Tryz.prog 158 spec_ShowRec.ctr := fn_sound (A := spec_ShowRec.ann) tabOk (EnvOk.cons (ctrs_cons spec_Var.ok ctrs_nil) (EnvOk.cons (ctrs_cons spec_Fixed.ok ctrs_nil) (EnvOk.cons (ctrs_cons spec_RecOk.ok ctrs_nil) EnvOk.nil))) mixed (fn := Tryz.f158) (body := bodyOf Tryz.f158) Tryz.func158 (by kernel_rfl) (by kernel_rfl) (fun x => by kernel_rfl)

def spec_l5Text.sig : Sig := ⟨[.val .str], [.val .str, .val .str, .val .bool]⟩
noncomputable def spec_l5Text.ctr : Ctr := ⟨spec_l5Text.sig, fun x => spec_l5Text.f x⟩
noncomputable def spec_l5Text.env : Env := [(175, [spec_ReadVar.ctr])]
def spec_l5Text.ann : Ann := ⟨[], [], []⟩
theorem spec_l5Text.ok : CtrOk Tryz.prog 176 spec_l5Text.ctr := fn_sound (A := spec_l5Text.ann) tabOk (EnvOk.cons (ctrs_cons spec_ReadVar.ok ctrs_nil) EnvOk.nil) mixed (fn := Tryz.f176) (body := bodyOf Tryz.f176) Tryz.func176 (by kernel_rfl) (by kernel_rfl) (fun x => by kernel_rfl)

def spec_ReadFixed.sig : Sig := ⟨[.val .str, .val (.int .i64)], [.val (.int .i64), .val .bool]⟩
noncomputable def spec_ReadFixed.ctr : Ctr := ⟨spec_ReadFixed.sig, fun x => spec_ReadFixed.f x.1 x.2⟩
noncomputable def spec_ReadFixed.env : Env := [(92, [spec_l1In.ctr])]
def spec_ReadFixed.ann : Ann := ⟨[(0, ([(0, .val .str), (1, .val (.int .i64)), (6, .val (.int .i64)), (7, .val (.int .i64))], [(.exit 0, [(6, .val (.int .i64))])]))], [], []⟩
theorem spec_ReadFixed.ok : CtrOk Tryz.prog 177 spec_ReadFixed.ctr := fn_sound (A := spec_ReadFixed.ann) tabOk (EnvOk.cons (ctrs_cons spec_l1In.ok ctrs_nil) EnvOk.nil) mixed (fn := Tryz.f177) (body := bodyOf Tryz.f177) Tryz.func177 (by kernel_rfl) (by kernel_rfl) (fun x => by kernel_rfl)

def spec_ReadRec.sig : Sig := ⟨[.val .str], [.val (.pair (.int .i64) (.pair (.int .i64) (.pair .str (.pair .str (.pair (.int .i64) (.int .i64)))))), .val .bool]⟩
noncomputable def spec_ReadRec.ctr : Ctr := ⟨spec_ReadRec.sig, fun x => spec_ReadRec.f x⟩
noncomputable def spec_ReadRec.env : Env := [(158, [spec_ShowRec.ctr]), (175, [spec_ReadVar.ctr]), (176, [spec_l5Text.ctr]), (177, [spec_ReadFixed.ctr])]
def spec_ReadRec.ann : Ann := ⟨[], [(0, [(.normal, [(0, .val .str), (2, .ptr (.pair (.int .i64) (.pair (.int .i64) (.pair .str (.pair .str (.pair (.int .i64) (.int .i64))))))), (8, .ptr (.pair (.int .i64) (.pair (.int .i64) (.pair .str (.pair .str (.pair (.int .i64) (.int .i64)))))))])])], [(12, [(.normal, [(0, .val .str), (2, .ptr (.pair (.int .i64) (.pair (.int .i64) (.pair .str (.pair .str (.pair (.int .i64) (.int .i64))))))), (8, .ptr (.pair (.int .i64) (.pair (.int .i64) (.pair .str (.pair .str (.pair (.int .i64) (.int .i64))))))), (9, .val .str), (50, .val (.int .i64)), (67, .val .bool)])]), (18, [(.normal, [(0, .val .str), (2, .ptr (.pair (.int .i64) (.pair (.int .i64) (.pair .str (.pair .str (.pair (.int .i64) (.int .i64))))))), (8, .ptr (.pair (.int .i64) (.pair (.int .i64) (.pair .str (.pair .str (.pair (.int .i64) (.int .i64)))))))])])]⟩
theorem spec_ReadRec.ok : CtrOk Tryz.prog 137 spec_ReadRec.ctr := fn_sound (A := spec_ReadRec.ann) tabOk (EnvOk.cons (ctrs_cons spec_ShowRec.ok ctrs_nil) (EnvOk.cons (ctrs_cons spec_ReadVar.ok ctrs_nil) (EnvOk.cons (ctrs_cons spec_l5Text.ok ctrs_nil) (EnvOk.cons (ctrs_cons spec_ReadFixed.ok ctrs_nil) EnvOk.nil)))) mixed (fn := Tryz.f137) (body := bodyOf Tryz.f137) Tryz.func137 (by kernel_rfl) (by kernel_rfl) (fun x => by kernel_rfl)

def spec_RecAt.sig : Sig := ⟨[.val .str, .val (.int .i64), .val (.int .i64)], [.val (.pair (.int .i64) (.pair (.int .i64) (.pair .str (.pair .str (.pair (.int .i64) (.int .i64)))))), .val .bool]⟩
noncomputable def spec_RecAt.ctr : Ctr := ⟨spec_RecAt.sig, fun x => spec_RecAt.f x.1 x.2.1 x.2.2⟩
noncomputable def spec_RecAt.env : Env := [(92, [spec_l1In.ctr]), (136, [spec_Unframe.ctr]), (137, [spec_ReadRec.ctr])]
def spec_RecAt.ann : Ann := ⟨[], [], []⟩
theorem spec_RecAt.ok : CtrOk Tryz.prog 77 spec_RecAt.ctr := fn_sound (A := spec_RecAt.ann) tabOk (EnvOk.cons (ctrs_cons spec_l1In.ok ctrs_nil) (EnvOk.cons (ctrs_cons spec_Unframe.ok ctrs_nil) (EnvOk.cons (ctrs_cons spec_ReadRec.ok ctrs_nil) EnvOk.nil))) mixed (fn := Tryz.f77) (body := bodyOf Tryz.f77) Tryz.func77 (by kernel_rfl) (by kernel_rfl) (fun x => by kernel_rfl)

def spec_Get.sig : Sig := ⟨[.val (.pair (.pair (.int .i64) (.sl false (.int .i64))) (.pair (.sl false (.pair .str (.pair (.int .i64) (.pair (.int .i64) (.pair (.int .i64) (.int .i64)))))) (.pair (.int .i64) (.pair (.int .i64) (.int .i64))))), .val (.pair (.sl false (.pair .str (.pair .str (.int .i64)))) (.pair (.int .i64) (.pair (.int .i64) .bool))), .val .str], [.val (.pair .str (.pair .str (.int .i64))), .val (.int .i64)]⟩
noncomputable def spec_Get.ctr : Ctr := ⟨spec_Get.sig, fun x => spec_Get.f x.1 x.2.1 x.2.2⟩
noncomputable def spec_Get.env : Env := [(74, [spec_DirGet.ctr]), (75, [spec_FileText.ctr]), (76, [spec_SegName.ctr]), (77, [spec_RecAt.ctr])]
def spec_Get.ann : Ann := ⟨[], [], []⟩
theorem spec_Get.ok : CtrOk Tryz.prog 35 spec_Get.ctr := fn_sound (A := spec_Get.ann) tabOk (EnvOk.cons (ctrs_cons spec_DirGet.ok ctrs_nil) (EnvOk.cons (ctrs_cons spec_FileText.ok ctrs_nil) (EnvOk.cons (ctrs_cons spec_SegName.ok ctrs_nil) (EnvOk.cons (ctrs_cons spec_RecAt.ok ctrs_nil) EnvOk.nil)))) mixed (fn := Tryz.f35) (body := bodyOf Tryz.f35) Tryz.func35 (by kernel_rfl) (by kernel_rfl) (fun x => by kernel_rfl)

def spec_Dump.sig : Sig := ⟨[.val (.pair (.pair (.int .i64) (.sl false (.int .i64))) (.pair (.sl false (.pair .str (.pair (.int .i64) (.pair (.int .i64) (.pair (.int .i64) (.int .i64)))))) (.pair (.int .i64) (.pair (.int .i64) (.int .i64))))), .val (.pair (.sl false (.pair .str (.pair .str (.int .i64)))) (.pair (.int .i64) (.pair (.int .i64) .bool)))], [.val (.sl true (.pair .str (.pair .str (.int .i64)))), .val (.int .i64)]⟩
noncomputable def spec_Dump.ctr : Ctr := ⟨spec_Dump.sig, fun x => spec_Dump.f x.1 x.2⟩
noncomputable def spec_Dump.env : Env := [(35, [spec_Get.ctr])]
def spec_Dump.ann : Ann := ⟨[(0, ([(2, .ptr (.pair (.pair (.int .i64) (.sl false (.int .i64))) (.pair (.sl false (.pair .str (.pair (.int .i64) (.pair (.int .i64) (.pair (.int .i64) (.int .i64)))))) (.pair (.int .i64) (.pair (.int .i64) (.int .i64)))))), (3, .ptr (.pair (.sl false (.pair .str (.pair .str (.int .i64)))) (.pair (.int .i64) (.pair (.int .i64) .bool)))), (6, .val (.sl true (.pair .str (.pair .str (.int .i64))))), (7, .val (.int .i64))], [(.exit 0, [(6, .val (.sl true (.pair .str (.pair .str (.int .i64)))))]), (.ret, [(4, .val (.sl true (.pair .str (.pair .str (.int .i64))))), (5, .val (.int .i64))])]))], [], []⟩
theorem spec_Dump.ok : CtrOk Tryz.prog 9 spec_Dump.ctr := fn_sound (A := spec_Dump.ann) tabOk (EnvOk.cons (ctrs_cons spec_Get.ok ctrs_nil) EnvOk.nil) mixed (fn := Tryz.f9) (body := bodyOf Tryz.f9) Tryz.func9 (by kernel_rfl) (by kernel_rfl) (fun x => by kernel_rfl)

def laws_toIntS.sig : Sig := ⟨[.val (.sl false (.int .i64))], [.val (.sl true (.int .i64))]⟩
noncomputable def laws_toIntS.ctr : Ctr := ⟨laws_toIntS.sig, fun x => laws_toIntS.f x⟩
noncomputable def laws_toIntS.env : Env := []
def laws_toIntS.ann : Ann := ⟨[(0, ([(0, .val (.sl false (.int .i64))), (3, .val (.sl true (.int .i64))), (4, .val (.int .i64))], [(.exit 0, [(3, .val (.sl true (.int .i64)))])]))], [], []⟩
theorem laws_toIntS.ok : CtrOk Tryz.prog 78 laws_toIntS.ctr := fn_sound (A := laws_toIntS.ann) tabOk EnvOk.nil mixed (fn := Tryz.f78) (body := bodyOf Tryz.f78) Tryz.func78 (by kernel_rfl) (by kernel_rfl) (fun x => by kernel_rfl)

def laws_toLive.sig : Sig := ⟨[.val (.pair (.int .i64) (.sl false (.int .i64)))], [.val (.pair (.int .i64) (.sl true (.int .i64)))]⟩
noncomputable def laws_toLive.ctr : Ctr := ⟨laws_toLive.sig, fun x => laws_toLive.f x⟩
noncomputable def laws_toLive.env : Env := [(78, [laws_toIntS.ctr])]
def laws_toLive.ann : Ann := ⟨[], [], []⟩
theorem laws_toLive.ok : CtrOk Tryz.prog 36 laws_toLive.ctr := fn_sound (A := laws_toLive.ann) tabOk (EnvOk.cons (ctrs_cons laws_toIntS.ok ctrs_nil) EnvOk.nil) mixed (fn := Tryz.f36) (body := bodyOf Tryz.f36) Tryz.func36 (by kernel_rfl) (by kernel_rfl) (fun x => by kernel_rfl)

def laws_toEntry.sig : Sig := ⟨[.val (.pair .str (.pair (.int .i64) (.pair (.int .i64) (.pair (.int .i64) (.int .i64)))))], [.val (.pair .str (.pair (.int .i64) (.pair (.int .i64) (.pair (.int .i64) (.int .i64)))))]⟩
noncomputable def laws_toEntry.ctr : Ctr := ⟨laws_toEntry.sig, fun x => laws_toEntry.f x⟩
noncomputable def laws_toEntry.env : Env := []
def laws_toEntry.ann : Ann := ⟨[], [], []⟩
theorem laws_toEntry.ok : CtrOk Tryz.prog 79 laws_toEntry.ctr := fn_sound (A := laws_toEntry.ann) tabOk EnvOk.nil mixed (fn := Tryz.f79) (body := bodyOf Tryz.f79) Tryz.func79 (by kernel_rfl) (by kernel_rfl) (fun x => by kernel_rfl)

def laws_toEntryS.sig : Sig := ⟨[.val (.sl false (.pair .str (.pair (.int .i64) (.pair (.int .i64) (.pair (.int .i64) (.int .i64))))))], [.val (.sl true (.pair .str (.pair (.int .i64) (.pair (.int .i64) (.pair (.int .i64) (.int .i64))))))]⟩
noncomputable def laws_toEntryS.ctr : Ctr := ⟨laws_toEntryS.sig, fun x => laws_toEntryS.f x⟩
noncomputable def laws_toEntryS.env : Env := [(79, [laws_toEntry.ctr])]
def laws_toEntryS.ann : Ann := ⟨[(0, ([(0, .val (.sl false (.pair .str (.pair (.int .i64) (.pair (.int .i64) (.pair (.int .i64) (.int .i64))))))), (3, .val (.sl true (.pair .str (.pair (.int .i64) (.pair (.int .i64) (.pair (.int .i64) (.int .i64))))))), (4, .val (.int .i64))], [(.exit 0, [(3, .val (.sl true (.pair .str (.pair (.int .i64) (.pair (.int .i64) (.pair (.int .i64) (.int .i64)))))))])]))], [], []⟩
theorem laws_toEntryS.ok : CtrOk Tryz.prog 37 laws_toEntryS.ctr := fn_sound (A := laws_toEntryS.ann) tabOk (EnvOk.cons (ctrs_cons laws_toEntry.ok ctrs_nil) EnvOk.nil) mixed (fn := Tryz.f37) (body := bodyOf Tryz.f37) Tryz.func37 (by kernel_rfl) (by kernel_rfl) (fun x => by kernel_rfl)

def laws_toStore.sig : Sig := ⟨[.val (.pair (.pair (.int .i64) (.sl false (.int .i64))) (.pair (.sl false (.pair .str (.pair (.int .i64) (.pair (.int .i64) (.pair (.int .i64) (.int .i64)))))) (.pair (.int .i64) (.pair (.int .i64) (.int .i64)))))], [.val (.pair (.pair (.int .i64) (.sl true (.int .i64))) (.pair (.sl true (.pair .str (.pair (.int .i64) (.pair (.int .i64) (.pair (.int .i64) (.int .i64)))))) (.pair (.int .i64) (.pair (.int .i64) (.int .i64)))))]⟩
noncomputable def laws_toStore.ctr : Ctr := ⟨laws_toStore.sig, fun x => laws_toStore.f x⟩
noncomputable def laws_toStore.env : Env := [(36, [laws_toLive.ctr]), (37, [laws_toEntryS.ctr])]
def laws_toStore.ann : Ann := ⟨[], [], []⟩
theorem laws_toStore.ok : CtrOk Tryz.prog 10 laws_toStore.ctr := fn_sound (A := laws_toStore.ann) tabOk (EnvOk.cons (ctrs_cons laws_toLive.ok ctrs_nil) (EnvOk.cons (ctrs_cons laws_toEntryS.ok ctrs_nil) EnvOk.nil)) mixed (fn := Tryz.f10) (body := bodyOf Tryz.f10) Tryz.func10 (by kernel_rfl) (by kernel_rfl) (fun x => by kernel_rfl)

def laws_toFile.sig : Sig := ⟨[.val (.pair .str (.pair .str (.int .i64)))], [.val (.pair .str (.pair .str (.int .i64)))]⟩
noncomputable def laws_toFile.ctr : Ctr := ⟨laws_toFile.sig, fun x => laws_toFile.f x⟩
noncomputable def laws_toFile.env : Env := []
def laws_toFile.ann : Ann := ⟨[], [], []⟩
theorem laws_toFile.ok : CtrOk Tryz.prog 80 laws_toFile.ctr := fn_sound (A := laws_toFile.ann) tabOk EnvOk.nil mixed (fn := Tryz.f80) (body := bodyOf Tryz.f80) Tryz.func80 (by kernel_rfl) (by kernel_rfl) (fun x => by kernel_rfl)

def laws_toFileS.sig : Sig := ⟨[.val (.sl false (.pair .str (.pair .str (.int .i64))))], [.val (.sl true (.pair .str (.pair .str (.int .i64))))]⟩
noncomputable def laws_toFileS.ctr : Ctr := ⟨laws_toFileS.sig, fun x => laws_toFileS.f x⟩
noncomputable def laws_toFileS.env : Env := [(80, [laws_toFile.ctr])]
def laws_toFileS.ann : Ann := ⟨[(0, ([(0, .val (.sl false (.pair .str (.pair .str (.int .i64))))), (3, .val (.sl true (.pair .str (.pair .str (.int .i64))))), (4, .val (.int .i64))], [(.exit 0, [(3, .val (.sl true (.pair .str (.pair .str (.int .i64)))))])]))], [], []⟩
theorem laws_toFileS.ok : CtrOk Tryz.prog 38 laws_toFileS.ctr := fn_sound (A := laws_toFileS.ann) tabOk (EnvOk.cons (ctrs_cons laws_toFile.ok ctrs_nil) EnvOk.nil) mixed (fn := Tryz.f38) (body := bodyOf Tryz.f38) Tryz.func38 (by kernel_rfl) (by kernel_rfl) (fun x => by kernel_rfl)

def laws_toDisk.sig : Sig := ⟨[.val (.pair (.sl false (.pair .str (.pair .str (.int .i64)))) (.pair (.int .i64) (.pair (.int .i64) .bool)))], [.val (.pair (.sl true (.pair .str (.pair .str (.int .i64)))) (.pair (.int .i64) (.pair (.int .i64) .bool)))]⟩
noncomputable def laws_toDisk.ctr : Ctr := ⟨laws_toDisk.sig, fun x => laws_toDisk.f x⟩
noncomputable def laws_toDisk.env : Env := [(38, [laws_toFileS.ctr])]
def laws_toDisk.ann : Ann := ⟨[], [], []⟩
theorem laws_toDisk.ok : CtrOk Tryz.prog 11 laws_toDisk.ctr := fn_sound (A := laws_toDisk.ann) tabOk (EnvOk.cons (ctrs_cons laws_toFileS.ok ctrs_nil) EnvOk.nil) mixed (fn := Tryz.f11) (body := bodyOf Tryz.f11) Tryz.func11 (by kernel_rfl) (by kernel_rfl) (fun x => by kernel_rfl)

def impl_DirKeys.sig : Sig := ⟨[.val (.sl false (.pair .str (.pair (.int .i64) (.pair (.int .i64) (.pair (.int .i64) (.int .i64))))))], [.val (.sl true .str)]⟩
noncomputable def impl_DirKeys.ctr : Ctr := ⟨impl_DirKeys.sig, fun x => impl_DirKeys.f x⟩
noncomputable def impl_DirKeys.env : Env := []
def impl_DirKeys.ann : Ann := ⟨[(0, ([(3, .val (.sl true .str)), (6, .val (.sl false (.pair .str (.pair (.int .i64) (.pair (.int .i64) (.pair (.int .i64) (.int .i64))))))), (7, .val (.int .i64)), (8, .val (.int .i64))], [(.exit 0, [(3, .val (.sl true .str))])]))], [], []⟩
theorem impl_DirKeys.ok : CtrOk Tryz.prog 39 impl_DirKeys.ctr := fn_sound (A := impl_DirKeys.ann) tabOk EnvOk.nil mixed (fn := Tryz.f39) (body := bodyOf Tryz.f39) Tryz.func39 (by kernel_rfl) (by kernel_rfl) (fun x => by kernel_rfl)

def impl_DirGet.sig : Sig := ⟨[.val (.sl false (.pair .str (.pair (.int .i64) (.pair (.int .i64) (.pair (.int .i64) (.int .i64)))))), .val .str], [.val (.pair .str (.pair (.int .i64) (.pair (.int .i64) (.pair (.int .i64) (.int .i64))))), .val .bool]⟩
noncomputable def impl_DirGet.ctr : Ctr := ⟨impl_DirGet.sig, fun x => impl_DirGet.f x.1 x.2⟩
noncomputable def impl_DirGet.env : Env := []
def impl_DirGet.ann : Ann := ⟨[(0, ([(1, .val .str), (4, .ptr (.pair .str (.pair (.int .i64) (.pair (.int .i64) (.pair (.int .i64) (.int .i64)))))), (8, .val (.sl false (.pair .str (.pair (.int .i64) (.pair (.int .i64) (.pair (.int .i64) (.int .i64))))))), (9, .val (.int .i64)), (10, .val (.int .i64))], [(.exit 0, [(4, .ptr (.pair .str (.pair (.int .i64) (.pair (.int .i64) (.pair (.int .i64) (.int .i64))))))]), (.ret, [(4, .ptr (.pair .str (.pair (.int .i64) (.pair (.int .i64) (.pair (.int .i64) (.int .i64)))))), (5, .val .bool)])]))], [], []⟩
theorem impl_DirGet.ok : CtrOk Tryz.prog 81 impl_DirGet.ctr := fn_sound (A := impl_DirGet.ann) tabOk EnvOk.nil mixed (fn := Tryz.f81) (body := bodyOf Tryz.f81) Tryz.func81 (by kernel_rfl) (by kernel_rfl) (fun x => by kernel_rfl)

def impl_in.sig : Sig := ⟨[.val (.int .i64), .val (.int .i64), .val (.int .i64)], [.val .bool]⟩
noncomputable def impl_in.ctr : Ctr := ⟨impl_in.sig, fun x => impl_in.f x.1 x.2.1 x.2.2⟩
noncomputable def impl_in.env : Env := []
def impl_in.ann : Ann := ⟨[], [], []⟩
theorem impl_in.ok : CtrOk Tryz.prog 105 impl_in.ctr := fn_sound (A := impl_in.ann) tabOk EnvOk.nil mixed (fn := Tryz.f105) (body := bodyOf Tryz.f105) Tryz.func105 (by kernel_rfl) (by kernel_rfl) (fun x => by kernel_rfl)

def impl_NameOk.sig : Sig := ⟨[.val .str], [.val .bool]⟩
noncomputable def impl_NameOk.ctr : Ctr := ⟨impl_NameOk.sig, fun x => impl_NameOk.f x⟩
noncomputable def impl_NameOk.env : Env := [(105, [impl_in.ctr])]
def impl_NameOk.ann : Ann := ⟨[(0, ([(0, .val .str), (3, .val (.int .i64))], [(.exit 0, [(0, .val .str)]), (.ret, [(2, .val .bool)])]))], [], [(4, [(.normal, [(0, .val .str), (3, .val (.int .i64))]), (.ret, [(2, .val .bool)])])]⟩
theorem impl_NameOk.ok : CtrOk Tryz.prog 149 impl_NameOk.ctr := fn_sound (A := impl_NameOk.ann) tabOk (EnvOk.cons (ctrs_cons impl_in.ok ctrs_nil) EnvOk.nil) mixed (fn := Tryz.f149) (body := bodyOf Tryz.f149) Tryz.func149 (by kernel_rfl) (by kernel_rfl) (fun x => by kernel_rfl)

def impl_DiskOk.sig : Sig := ⟨[.val (.pair (.sl false (.pair .str (.pair .str (.int .i64)))) (.pair (.int .i64) (.pair (.int .i64) .bool)))], [.val .bool]⟩
noncomputable def impl_DiskOk.ctr : Ctr := ⟨impl_DiskOk.sig, fun x => impl_DiskOk.f x⟩
noncomputable def impl_DiskOk.env : Env := [(105, [impl_in.ctr]), (149, [impl_NameOk.ctr])]
def impl_DiskOk.ann : Ann := ⟨[(0, ([(1, .ptr (.pair (.sl false (.pair .str (.pair .str (.int .i64)))) (.pair (.int .i64) (.pair (.int .i64) .bool)))), (3, .val (.int .i64)), (23, .val (.sl false (.pair .str (.pair .str (.int .i64))))), (24, .val (.int .i64)), (25, .val (.int .i64))], [(.exit 0, [(1, .ptr (.pair (.sl false (.pair .str (.pair .str (.int .i64)))) (.pair (.int .i64) (.pair (.int .i64) .bool)))), (3, .val (.int .i64))]), (.ret, [(2, .val .bool)])]))], [], [(7, [(.normal, [(1, .ptr (.pair (.sl false (.pair .str (.pair .str (.int .i64)))) (.pair (.int .i64) (.pair (.int .i64) .bool)))), (3, .val (.int .i64)), (5, .ptr (.pair .str (.pair .str (.int .i64)))), (23, .val (.sl false (.pair .str (.pair .str (.int .i64))))), (24, .val (.int .i64)), (25, .val (.int .i64))]), (.ret, [(2, .val .bool)])])]⟩
theorem impl_DiskOk.ok : CtrOk Tryz.prog 102 impl_DiskOk.ctr := fn_sound (A := impl_DiskOk.ann) tabOk (EnvOk.cons (ctrs_cons impl_in.ok ctrs_nil) (EnvOk.cons (ctrs_cons impl_NameOk.ok ctrs_nil) EnvOk.nil)) mixed (fn := Tryz.f102) (body := bodyOf Tryz.f102) Tryz.func102 (by kernel_rfl) (by kernel_rfl) (fun x => by kernel_rfl)

def impl_fileAt.sig : Sig := ⟨[.val (.pair (.sl false (.pair .str (.pair .str (.int .i64)))) (.pair (.int .i64) (.pair (.int .i64) .bool))), .val .str], [.val (.int .i64)]⟩
noncomputable def impl_fileAt.ctr : Ctr := ⟨impl_fileAt.sig, fun x => impl_fileAt.f x.1 x.2⟩
noncomputable def impl_fileAt.env : Env := []
def impl_fileAt.ann : Ann := ⟨[(0, ([(1, .val .str), (8, .val (.sl false (.pair .str (.pair .str (.int .i64))))), (9, .val (.int .i64)), (10, .val (.int .i64))], [(.exit 0, []), (.ret, [(4, .val (.int .i64))])]))], [], []⟩
theorem impl_fileAt.ok : CtrOk Tryz.prog 138 impl_fileAt.ctr := fn_sound (A := impl_fileAt.ann) tabOk EnvOk.nil mixed (fn := Tryz.f138) (body := bodyOf Tryz.f138) Tryz.func138 (by kernel_rfl) (by kernel_rfl) (fun x => by kernel_rfl)

def impl_FileText.sig : Sig := ⟨[.val (.pair (.sl false (.pair .str (.pair .str (.int .i64)))) (.pair (.int .i64) (.pair (.int .i64) .bool))), .val .str], [.val .str, .val .bool]⟩
noncomputable def impl_FileText.ctr : Ctr := ⟨impl_FileText.sig, fun x => impl_FileText.f x.1 x.2⟩
noncomputable def impl_FileText.env : Env := [(102, [impl_DiskOk.ctr]), (138, [impl_fileAt.ctr])]
def impl_FileText.ann : Ann := ⟨[], [], []⟩
theorem impl_FileText.ok : CtrOk Tryz.prog 82 impl_FileText.ctr := fn_sound (A := impl_FileText.ann) tabOk (EnvOk.cons (ctrs_cons impl_DiskOk.ok ctrs_nil) (EnvOk.cons (ctrs_cons impl_fileAt.ok ctrs_nil) EnvOk.nil)) mixed (fn := Tryz.f82) (body := bodyOf Tryz.f82) Tryz.func82 (by kernel_rfl) (by kernel_rfl) (fun x => by kernel_rfl)

noncomputable def strconv_Itoa.ctr : Ctr := itoaCtr
theorem strconv_Itoa.ok : CtrOk Tryz.prog 204 strconv_Itoa.ctr := itoa_ok Tryz.func204 (by kernel_rfl) (by kernel_rfl) fun n h0 h1 w hL => (Tryz.strconv_Itoa n h0 h1 w hL).mono fun e w' ⟨he, k, os, hw⟩ => ⟨he, hw ▸ below_grow _ w (Nat.le_refl _) k os⟩

def impl_Dec.sig : Sig := ⟨[.val (.int .i64)], [.val .str]⟩
noncomputable def impl_Dec.ctr : Ctr := ⟨impl_Dec.sig, fun x => impl_Dec.f x⟩
noncomputable def impl_Dec.env : Env := [(204, [strconv_Itoa.ctr])]
def impl_Dec.ann : Ann := ⟨[], [], []⟩
theorem impl_Dec.ok : CtrOk Tryz.prog 178 impl_Dec.ctr := fn_sound (A := impl_Dec.ann) tabOk (EnvOk.cons (ctrs_cons strconv_Itoa.ok ctrs_nil) EnvOk.nil) mixed (fn := Tryz.f178) (body := bodyOf Tryz.f178) Tryz.func178 (by kernel_rfl) (by kernel_rfl) (fun x => by kernel_rfl)

def impl_named.sig : Sig := ⟨[.val .str, .val (.int .i64)], [.val .str]⟩
noncomputable def impl_named.ctr : Ctr := ⟨impl_named.sig, fun x => impl_named.f x.1 x.2⟩
noncomputable def impl_named.env : Env := [(105, [impl_in.ctr]), (178, [impl_Dec.ctr])]
def impl_named.ann : Ann := ⟨[], [], []⟩
theorem impl_named.ok : CtrOk Tryz.prog 139 impl_named.ctr := fn_sound (A := impl_named.ann) tabOk (EnvOk.cons (ctrs_cons impl_in.ok ctrs_nil) (EnvOk.cons (ctrs_cons impl_Dec.ok ctrs_nil) EnvOk.nil)) mixed (fn := Tryz.f139) (body := bodyOf Tryz.f139) Tryz.func139 (by kernel_rfl) (by kernel_rfl) (fun x => by kernel_rfl)

def impl_SegName.sig : Sig := ⟨[.val (.int .i64)], [.val .str]⟩
noncomputable def impl_SegName.ctr : Ctr := ⟨impl_SegName.sig, fun x => impl_SegName.f x⟩
noncomputable def impl_SegName.env : Env := [(139, [impl_named.ctr])]
def impl_SegName.ann : Ann := ⟨[], [], []⟩
theorem impl_SegName.ok : CtrOk Tryz.prog 83 impl_SegName.ctr := fn_sound (A := impl_SegName.ann) tabOk (EnvOk.cons (ctrs_cons impl_named.ok ctrs_nil) EnvOk.nil) mixed (fn := Tryz.f83) (body := bodyOf Tryz.f83) Tryz.func83 (by kernel_rfl) (by kernel_rfl) (fun x => by kernel_rfl)

def impl_Crc.sig : Sig := ⟨[.val .str], [.val (.int .i64)]⟩
noncomputable def impl_Crc.ctr : Ctr := ⟨impl_Crc.sig, fun x => impl_Crc.f x⟩
noncomputable def impl_Crc.env : Env := []
def impl_Crc.ann : Ann := ⟨[(2, ([(0, .val .str), (3, .val (.int .u32)), (4, .val (.int .i64)), (18, .val (.int .i64))], [(.exit 2, [(0, .val .str), (3, .val (.int .u32)), (4, .val (.int .i64))])])), (0, ([(0, .val .str), (3, .val (.int .u32)), (4, .val (.int .i64))], [(.exit 0, [(3, .val (.int .u32))])]))], [], [(10, [(.normal, [(0, .val .str), (3, .val (.int .u32)), (4, .val (.int .i64)), (18, .val (.int .i64))])])]⟩
theorem impl_Crc.ok : CtrOk Tryz.prog 194 impl_Crc.ctr := fn_sound (A := impl_Crc.ann) tabOk EnvOk.nil mixed (fn := Tryz.f194) (body := bodyOf Tryz.f194) Tryz.func194 (by kernel_rfl) (by kernel_rfl) (fun x => by kernel_rfl)

def impl_Var.sig : Sig := ⟨[.val (.int .i64)], [.val .str]⟩
noncomputable def impl_Var.ctr : Ctr := ⟨impl_Var.sig, fun x => impl_Var.f x⟩
noncomputable def impl_Var.env : Env := [(105, [impl_in.ctr])]
def impl_Var.ann : Ann := ⟨[(0, ([(0, .val (.int .i64)), (3, .val (.sl true (.int .u8)))], [(.exit 0, [(0, .val (.int .i64)), (3, .val (.sl true (.int .u8)))])]))], [], []⟩
theorem impl_Var.ok : CtrOk Tryz.prog 197 impl_Var.ctr := fn_sound (A := impl_Var.ann) tabOk (EnvOk.cons (ctrs_cons impl_in.ok ctrs_nil) EnvOk.nil) mixed (fn := Tryz.f197) (body := bodyOf Tryz.f197) Tryz.func197 (by kernel_rfl) (by kernel_rfl) (fun x => by kernel_rfl)

def impl_textOf.sig : Sig := ⟨[.val .str], [.val .str]⟩
noncomputable def impl_textOf.ctr : Ctr := ⟨impl_textOf.sig, fun x => impl_textOf.f x⟩
noncomputable def impl_textOf.env : Env := [(197, [impl_Var.ctr])]
def impl_textOf.ann : Ann := ⟨[], [], []⟩
theorem impl_textOf.ok : CtrOk Tryz.prog 195 impl_textOf.ctr := fn_sound (A := impl_textOf.ann) tabOk (EnvOk.cons (ctrs_cons impl_Var.ok ctrs_nil) EnvOk.nil) mixed (fn := Tryz.f195) (body := bodyOf Tryz.f195) Tryz.func195 (by kernel_rfl) (by kernel_rfl) (fun x => by kernel_rfl)

def impl_Fixed.sig : Sig := ⟨[.val (.int .i64), .val (.int .i64)], [.val .str]⟩
noncomputable def impl_Fixed.ctr : Ctr := ⟨impl_Fixed.sig, fun x => impl_Fixed.f x.1 x.2⟩
noncomputable def impl_Fixed.env : Env := [(105, [impl_in.ctr])]
def impl_Fixed.ann : Ann := ⟨[(0, ([(0, .val (.int .i64)), (5, .val (.sl true (.int .u8))), (6, .val (.int .i64))], [(.exit 0, [(5, .val (.sl true (.int .u8)))])]))], [], []⟩
theorem impl_Fixed.ok : CtrOk Tryz.prog 196 impl_Fixed.ctr := fn_sound (A := impl_Fixed.ann) tabOk (EnvOk.cons (ctrs_cons impl_in.ok ctrs_nil) EnvOk.nil) mixed (fn := Tryz.f196) (body := bodyOf Tryz.f196) Tryz.func196 (by kernel_rfl) (by kernel_rfl) (fun x => by kernel_rfl)

def impl_Frame.sig : Sig := ⟨[.val .str], [.val .str]⟩
noncomputable def impl_Frame.ctr : Ctr := ⟨impl_Frame.sig, fun x => impl_Frame.f x⟩
noncomputable def impl_Frame.env : Env := [(194, [impl_Crc.ctr]), (195, [impl_textOf.ctr]), (196, [impl_Fixed.ctr])]
def impl_Frame.ann : Ann := ⟨[], [], []⟩
theorem impl_Frame.ok : CtrOk Tryz.prog 164 impl_Frame.ctr := fn_sound (A := impl_Frame.ann) tabOk (EnvOk.cons (ctrs_cons impl_Crc.ok ctrs_nil) (EnvOk.cons (ctrs_cons impl_textOf.ok ctrs_nil) (EnvOk.cons (ctrs_cons impl_Fixed.ok ctrs_nil) EnvOk.nil))) mixed (fn := Tryz.f164) (body := bodyOf Tryz.f164) Tryz.func164 (by kernel_rfl) (by kernel_rfl) (fun x => by kernel_rfl)

def impl_ReadVar.sig : Sig := ⟨[.val .str], [.val (.int .i64), .val (.int .i64)]⟩
noncomputable def impl_ReadVar.ctr : Ctr := ⟨impl_ReadVar.sig, fun x => impl_ReadVar.f x⟩
noncomputable def impl_ReadVar.env : Env := []
def impl_ReadVar.ann : Ann := ⟨[(0, ([(0, .val .str), (4, .val (.int .i64)), (5, .val (.int .i64))], [(.exit 0, []), (.ret, [(2, .val (.int .i64)), (3, .val (.int .i64))])]))], [], [(8, [(.normal, [(4, .val (.int .i64)), (5, .val (.int .i64))]), (.ret, [(2, .val (.int .i64)), (3, .val (.int .i64))])])]⟩
theorem impl_ReadVar.ok : CtrOk Tryz.prog 179 impl_ReadVar.ctr := fn_sound (A := impl_ReadVar.ann) tabOk EnvOk.nil mixed (fn := Tryz.f179) (body := bodyOf Tryz.f179) Tryz.func179 (by kernel_rfl) (by kernel_rfl) (fun x => by kernel_rfl)

def impl_Unframe.sig : Sig := ⟨[.val .str], [.val .str, .val (.int .i64)]⟩
noncomputable def impl_Unframe.ctr : Ctr := ⟨impl_Unframe.sig, fun x => impl_Unframe.f x⟩
noncomputable def impl_Unframe.env : Env := [(164, [impl_Frame.ctr]), (179, [impl_ReadVar.ctr])]
def impl_Unframe.ann : Ann := ⟨[], [], []⟩
theorem impl_Unframe.ok : CtrOk Tryz.prog 140 impl_Unframe.ctr := fn_sound (A := impl_Unframe.ann) tabOk (EnvOk.cons (ctrs_cons impl_Frame.ok ctrs_nil) (EnvOk.cons (ctrs_cons impl_ReadVar.ok ctrs_nil) EnvOk.nil)) mixed (fn := Tryz.f140) (body := bodyOf Tryz.f140) Tryz.func140 (by kernel_rfl) (by kernel_rfl) (fun x => by kernel_rfl)

def impl_scanner_num.sig : Sig := ⟨[.ptr (.pair .str .bool)], [.val (.int .i64)]⟩
noncomputable def impl_scanner_num.ctr : Ctr := ⟨impl_scanner_num.sig, fun x => impl_scanner_num.f x⟩
noncomputable def impl_scanner_num.env : Env := [(179, [impl_ReadVar.ctr])]
def impl_scanner_num.ann : Ann := ⟨[], [], []⟩
theorem impl_scanner_num.ok : CtrOk Tryz.prog 180 impl_scanner_num.ctr := fn_sound (A := impl_scanner_num.ann) tabOk (EnvOk.cons (ctrs_cons impl_ReadVar.ok ctrs_nil) EnvOk.nil) mixed (fn := Tryz.f180) (body := bodyOf Tryz.f180) Tryz.func180 (by kernel_rfl) (by kernel_rfl) (fun x => by kernel_rfl)

def impl_scanner_bytes.sig : Sig := ⟨[.ptr (.pair .str .bool), .val (.int .i64)], [.val .str]⟩
noncomputable def impl_scanner_bytes.ctr : Ctr := ⟨impl_scanner_bytes.sig, fun x => impl_scanner_bytes.f x.1 x.2⟩
noncomputable def impl_scanner_bytes.env : Env := []
def impl_scanner_bytes.ann : Ann := ⟨[], [], []⟩
theorem impl_scanner_bytes.ok : CtrOk Tryz.prog 183 impl_scanner_bytes.ctr := fn_sound (A := impl_scanner_bytes.ann) tabOk EnvOk.nil mixed (fn := Tryz.f183) (body := bodyOf Tryz.f183) Tryz.func183 (by kernel_rfl) (by kernel_rfl) (fun x => by kernel_rfl)

def impl_scanner_text.sig : Sig := ⟨[.ptr (.pair .str .bool)], [.val .str]⟩
noncomputable def impl_scanner_text.ctr : Ctr := ⟨impl_scanner_text.sig, fun x => impl_scanner_text.f x⟩
noncomputable def impl_scanner_text.env : Env := [(180, [impl_scanner_num.ctr]), (183, [impl_scanner_bytes.ctr])]
def impl_scanner_text.ann : Ann := ⟨[], [], []⟩
theorem impl_scanner_text.ok : CtrOk Tryz.prog 181 impl_scanner_text.ctr := fn_sound (A := impl_scanner_text.ann) tabOk (EnvOk.cons (ctrs_cons impl_scanner_num.ok ctrs_nil) (EnvOk.cons (ctrs_cons impl_scanner_bytes.ok ctrs_nil) EnvOk.nil)) mixed (fn := Tryz.f181) (body := bodyOf Tryz.f181) Tryz.func181 (by kernel_rfl) (by kernel_rfl) (fun x => by kernel_rfl)

def impl_ReadFixed.sig : Sig := ⟨[.val .str, .val (.int .i64)], [.val (.int .i64), .val .bool]⟩
noncomputable def impl_ReadFixed.ctr : Ctr := ⟨impl_ReadFixed.sig, fun x => impl_ReadFixed.f x.1 x.2⟩
noncomputable def impl_ReadFixed.env : Env := [(105, [impl_in.ctr])]
def impl_ReadFixed.ann : Ann := ⟨[(0, ([(0, .val .str), (6, .val (.int .i64)), (17, .val (.int .i64)), (18, .val (.int .i64))], [(.exit 0, [(6, .val (.int .i64))])]))], [], []⟩
theorem impl_ReadFixed.ok : CtrOk Tryz.prog 182 impl_ReadFixed.ctr := fn_sound (A := impl_ReadFixed.ann) tabOk (EnvOk.cons (ctrs_cons impl_in.ok ctrs_nil) EnvOk.nil) mixed (fn := Tryz.f182) (body := bodyOf Tryz.f182) Tryz.func182 (by kernel_rfl) (by kernel_rfl) (fun x => by kernel_rfl)

def impl_KeyOk.sig : Sig := ⟨[.val .str], [.val .bool]⟩
noncomputable def impl_KeyOk.ctr : Ctr := ⟨impl_KeyOk.sig, fun x => impl_KeyOk.f x⟩
noncomputable def impl_KeyOk.env : Env := [(105, [impl_in.ctr])]
def impl_KeyOk.ann : Ann := ⟨[], [], []⟩
theorem impl_KeyOk.ok : CtrOk Tryz.prog 150 impl_KeyOk.ctr := fn_sound (A := impl_KeyOk.ann) tabOk (EnvOk.cons (ctrs_cons impl_in.ok ctrs_nil) EnvOk.nil) mixed (fn := Tryz.f150) (body := bodyOf Tryz.f150) Tryz.func150 (by kernel_rfl) (by kernel_rfl) (fun x => by kernel_rfl)

def impl_RecOk.sig : Sig := ⟨[.val (.pair (.int .i64) (.pair (.int .i64) (.pair .str (.pair .str (.pair (.int .i64) (.int .i64))))))], [.val .bool]⟩
noncomputable def impl_RecOk.ctr : Ctr := ⟨impl_RecOk.sig, fun x => impl_RecOk.f x⟩
noncomputable def impl_RecOk.env : Env := [(105, [impl_in.ctr]), (150, [impl_KeyOk.ctr])]
def impl_RecOk.ann : Ann := ⟨[], [], [(4, [(.normal, [(1, .ptr (.pair (.int .i64) (.pair (.int .i64) (.pair .str (.pair .str (.pair (.int .i64) (.int .i64))))))), (3, .ptr (.pair (.int .i64) (.pair (.int .i64) (.pair .str (.pair .str (.pair (.int .i64) (.int .i64))))))), (4, .val .bool), (5, .val (.int .i64)), (12, .val (.int .i64)), (13, .val .bool)])])]⟩
theorem impl_RecOk.ok : CtrOk Tryz.prog 184 impl_RecOk.ctr := fn_sound (A := impl_RecOk.ann) tabOk (EnvOk.cons (ctrs_cons impl_in.ok ctrs_nil) (EnvOk.cons (ctrs_cons impl_KeyOk.ok ctrs_nil) EnvOk.nil)) mixed (fn := Tryz.f184) (body := bodyOf Tryz.f184) Tryz.func184 (by kernel_rfl) (by kernel_rfl) (fun x => by kernel_rfl)

def impl_ReadRec.sig : Sig := ⟨[.val .str], [.val (.pair (.int .i64) (.pair (.int .i64) (.pair .str (.pair .str (.pair (.int .i64) (.int .i64)))))), .val .bool]⟩
noncomputable def impl_ReadRec.ctr : Ctr := ⟨impl_ReadRec.sig, fun x => impl_ReadRec.f x⟩
noncomputable def impl_ReadRec.env : Env := [(180, [impl_scanner_num.ctr]), (181, [impl_scanner_text.ctr]), (182, [impl_ReadFixed.ctr]), (183, [impl_scanner_bytes.ctr]), (184, [impl_RecOk.ctr])]
def impl_ReadRec.ann : Ann := ⟨[], [(0, [(.normal, [(2, .ptr (.pair (.int .i64) (.pair (.int .i64) (.pair .str (.pair .str (.pair (.int .i64) (.int .i64))))))), (4, .ptr (.pair .str .bool)), (5, .ptr (.pair (.int .i64) (.pair (.int .i64) (.pair .str (.pair .str (.pair (.int .i64) (.int .i64)))))))])])], [(8, [(.normal, [(2, .ptr (.pair (.int .i64) (.pair (.int .i64) (.pair .str (.pair .str (.pair (.int .i64) (.int .i64))))))), (4, .ptr (.pair .str .bool)), (5, .ptr (.pair (.int .i64) (.pair (.int .i64) (.pair .str (.pair .str (.pair (.int .i64) (.int .i64))))))), (16, .val (.int .i64)), (27, .val .bool)])]), (12, [(.normal, [(2, .ptr (.pair (.int .i64) (.pair (.int .i64) (.pair .str (.pair .str (.pair (.int .i64) (.int .i64))))))), (4, .ptr (.pair .str .bool)), (5, .ptr (.pair (.int .i64) (.pair (.int .i64) (.pair .str (.pair .str (.pair (.int .i64) (.int .i64)))))))])])]⟩
theorem impl_ReadRec.ok : CtrOk Tryz.prog 141 impl_ReadRec.ctr := fn_sound (A := impl_ReadRec.ann) tabOk (EnvOk.cons (ctrs_cons impl_scanner_num.ok ctrs_nil) (EnvOk.cons (ctrs_cons impl_scanner_text.ok ctrs_nil) (EnvOk.cons (ctrs_cons impl_ReadFixed.ok ctrs_nil) (EnvOk.cons (ctrs_cons impl_scanner_bytes.ok ctrs_nil) (EnvOk.cons (ctrs_cons impl_RecOk.ok ctrs_nil) EnvOk.nil))))) mixed (fn := Tryz.f141) (body := bodyOf Tryz.f141) Tryz.func141 (by kernel_rfl) (by kernel_rfl) (fun x => by kernel_rfl)

def impl_RecAt.sig : Sig := ⟨[.val .str, .val (.int .i64), .val (.int .i64)], [.val (.pair (.int .i64) (.pair (.int .i64) (.pair .str (.pair .str (.pair (.int .i64) (.int .i64)))))), .val .bool]⟩
noncomputable def impl_RecAt.ctr : Ctr := ⟨impl_RecAt.sig, fun x => impl_RecAt.f x.1 x.2.1 x.2.2⟩
noncomputable def impl_RecAt.env : Env := [(105, [impl_in.ctr]), (140, [impl_Unframe.ctr]), (141, [impl_ReadRec.ctr])]
def impl_RecAt.ann : Ann := ⟨[], [], []⟩
theorem impl_RecAt.ok : CtrOk Tryz.prog 84 impl_RecAt.ctr := fn_sound (A := impl_RecAt.ann) tabOk (EnvOk.cons (ctrs_cons impl_in.ok ctrs_nil) (EnvOk.cons (ctrs_cons impl_Unframe.ok ctrs_nil) (EnvOk.cons (ctrs_cons impl_ReadRec.ok ctrs_nil) EnvOk.nil))) mixed (fn := Tryz.f84) (body := bodyOf Tryz.f84) Tryz.func84 (by kernel_rfl) (by kernel_rfl) (fun x => by kernel_rfl)

def impl_Get.sig : Sig := ⟨[.val (.pair (.pair (.int .i64) (.sl false (.int .i64))) (.pair (.sl false (.pair .str (.pair (.int .i64) (.pair (.int .i64) (.pair (.int .i64) (.int .i64)))))) (.pair (.int .i64) (.pair (.int .i64) (.int .i64))))), .val (.pair (.sl false (.pair .str (.pair .str (.int .i64)))) (.pair (.int .i64) (.pair (.int .i64) .bool))), .val .str], [.val (.pair .str (.pair .str (.int .i64))), .val (.int .i64)]⟩
noncomputable def impl_Get.ctr : Ctr := ⟨impl_Get.sig, fun x => impl_Get.f x.1 x.2.1 x.2.2⟩
noncomputable def impl_Get.env : Env := [(81, [impl_DirGet.ctr]), (82, [impl_FileText.ctr]), (83, [impl_SegName.ctr]), (84, [impl_RecAt.ctr])]
def impl_Get.ann : Ann := ⟨[], [], []⟩
theorem impl_Get.ok : CtrOk Tryz.prog 40 impl_Get.ctr := fn_sound (A := impl_Get.ann) tabOk (EnvOk.cons (ctrs_cons impl_DirGet.ok ctrs_nil) (EnvOk.cons (ctrs_cons impl_FileText.ok ctrs_nil) (EnvOk.cons (ctrs_cons impl_SegName.ok ctrs_nil) (EnvOk.cons (ctrs_cons impl_RecAt.ok ctrs_nil) EnvOk.nil)))) mixed (fn := Tryz.f40) (body := bodyOf Tryz.f40) Tryz.func40 (by kernel_rfl) (by kernel_rfl) (fun x => by kernel_rfl)

def impl_Dump.sig : Sig := ⟨[.val (.pair (.pair (.int .i64) (.sl false (.int .i64))) (.pair (.sl false (.pair .str (.pair (.int .i64) (.pair (.int .i64) (.pair (.int .i64) (.int .i64)))))) (.pair (.int .i64) (.pair (.int .i64) (.int .i64))))), .val (.pair (.sl false (.pair .str (.pair .str (.int .i64)))) (.pair (.int .i64) (.pair (.int .i64) .bool)))], [.val (.sl true (.pair .str (.pair .str (.int .i64)))), .val (.int .i64)]⟩
noncomputable def impl_Dump.ctr : Ctr := ⟨impl_Dump.sig, fun x => impl_Dump.f x.1 x.2⟩
noncomputable def impl_Dump.env : Env := [(39, [impl_DirKeys.ctr]), (40, [impl_Get.ctr])]
def impl_Dump.ann : Ann := ⟨[(0, ([(2, .ptr (.pair (.pair (.int .i64) (.sl false (.int .i64))) (.pair (.sl false (.pair .str (.pair (.int .i64) (.pair (.int .i64) (.pair (.int .i64) (.int .i64)))))) (.pair (.int .i64) (.pair (.int .i64) (.int .i64)))))), (3, .ptr (.pair (.sl false (.pair .str (.pair .str (.int .i64)))) (.pair (.int .i64) (.pair (.int .i64) .bool)))), (6, .val (.sl true (.pair .str (.pair .str (.int .i64))))), (13, .val (.sl true .str)), (14, .val (.int .i64)), (15, .val (.int .i64))], [(.exit 0, [(6, .val (.sl true (.pair .str (.pair .str (.int .i64)))))]), (.ret, [(4, .val (.sl true (.pair .str (.pair .str (.int .i64))))), (5, .val (.int .i64))])]))], [], []⟩
theorem impl_Dump.ok : CtrOk Tryz.prog 12 impl_Dump.ctr := fn_sound (A := impl_Dump.ann) tabOk (EnvOk.cons (ctrs_cons impl_DirKeys.ok ctrs_nil) (EnvOk.cons (ctrs_cons impl_Get.ok ctrs_nil) EnvOk.nil)) mixed (fn := Tryz.f12) (body := bodyOf Tryz.f12) Tryz.func12 (by kernel_rfl) (by kernel_rfl) (fun x => by kernel_rfl)

def laws_eqPair.sig : Sig := ⟨[.val (.pair .str (.pair .str (.int .i64))), .val (.pair .str (.pair .str (.int .i64)))], [.val .bool]⟩
noncomputable def laws_eqPair.ctr : Ctr := ⟨laws_eqPair.sig, fun x => laws_eqPair.f x.1 x.2⟩
noncomputable def laws_eqPair.env : Env := []
def laws_eqPair.ann : Ann := ⟨[], [], []⟩
theorem laws_eqPair.ok : CtrOk Tryz.prog 41 laws_eqPair.ctr := fn_sound (A := laws_eqPair.ann) tabOk EnvOk.nil mixed (fn := Tryz.f41) (body := bodyOf Tryz.f41) Tryz.func41 (by kernel_rfl) (by kernel_rfl) (fun x => by kernel_rfl)

def laws_eqPairS.sig : Sig := ⟨[.val (.sl false (.pair .str (.pair .str (.int .i64)))), .val (.sl false (.pair .str (.pair .str (.int .i64))))], [.val .bool]⟩
noncomputable def laws_eqPairS.ctr : Ctr := ⟨laws_eqPairS.sig, fun x => laws_eqPairS.f x.1 x.2⟩
noncomputable def laws_eqPairS.env : Env := [(41, [laws_eqPair.ctr])]
def laws_eqPairS.ann : Ann := ⟨[(0, ([(0, .val (.sl false (.pair .str (.pair .str (.int .i64))))), (1, .val (.sl false (.pair .str (.pair .str (.int .i64))))), (5, .val (.int .i64))], [(.exit 0, []), (.ret, [(4, .val .bool)])]))], [], []⟩
theorem laws_eqPairS.ok : CtrOk Tryz.prog 13 laws_eqPairS.ctr := fn_sound (A := laws_eqPairS.ann) tabOk (EnvOk.cons (ctrs_cons laws_eqPair.ok ctrs_nil) EnvOk.nil) mixed (fn := Tryz.f13) (body := bodyOf Tryz.f13) Tryz.func13 (by kernel_rfl) (by kernel_rfl) (fun x => by kernel_rfl)

def laws_eqIntS.sig : Sig := ⟨[.val (.sl false (.int .i64)), .val (.sl false (.int .i64))], [.val .bool]⟩
noncomputable def laws_eqIntS.ctr : Ctr := ⟨laws_eqIntS.sig, fun x => laws_eqIntS.f x.1 x.2⟩
noncomputable def laws_eqIntS.env : Env := []
def laws_eqIntS.ann : Ann := ⟨[(0, ([(0, .val (.sl false (.int .i64))), (1, .val (.sl false (.int .i64))), (5, .val (.int .i64))], [(.exit 0, []), (.ret, [(4, .val .bool)])]))], [], []⟩
theorem laws_eqIntS.ok : CtrOk Tryz.prog 85 laws_eqIntS.ctr := fn_sound (A := laws_eqIntS.ann) tabOk EnvOk.nil mixed (fn := Tryz.f85) (body := bodyOf Tryz.f85) Tryz.func85 (by kernel_rfl) (by kernel_rfl) (fun x => by kernel_rfl)

def laws_eqLive.sig : Sig := ⟨[.val (.pair (.int .i64) (.sl false (.int .i64))), .val (.pair (.int .i64) (.sl false (.int .i64)))], [.val .bool]⟩
noncomputable def laws_eqLive.ctr : Ctr := ⟨laws_eqLive.sig, fun x => laws_eqLive.f x.1 x.2⟩
noncomputable def laws_eqLive.env : Env := [(85, [laws_eqIntS.ctr])]
def laws_eqLive.ann : Ann := ⟨[], [], []⟩
theorem laws_eqLive.ok : CtrOk Tryz.prog 42 laws_eqLive.ctr := fn_sound (A := laws_eqLive.ann) tabOk (EnvOk.cons (ctrs_cons laws_eqIntS.ok ctrs_nil) EnvOk.nil) mixed (fn := Tryz.f42) (body := bodyOf Tryz.f42) Tryz.func42 (by kernel_rfl) (by kernel_rfl) (fun x => by kernel_rfl)

def laws_eqEntry.sig : Sig := ⟨[.val (.pair .str (.pair (.int .i64) (.pair (.int .i64) (.pair (.int .i64) (.int .i64))))), .val (.pair .str (.pair (.int .i64) (.pair (.int .i64) (.pair (.int .i64) (.int .i64)))))], [.val .bool]⟩
noncomputable def laws_eqEntry.ctr : Ctr := ⟨laws_eqEntry.sig, fun x => laws_eqEntry.f x.1 x.2⟩
noncomputable def laws_eqEntry.env : Env := []
def laws_eqEntry.ann : Ann := ⟨[], [], []⟩
theorem laws_eqEntry.ok : CtrOk Tryz.prog 86 laws_eqEntry.ctr := fn_sound (A := laws_eqEntry.ann) tabOk EnvOk.nil mixed (fn := Tryz.f86) (body := bodyOf Tryz.f86) Tryz.func86 (by kernel_rfl) (by kernel_rfl) (fun x => by kernel_rfl)

def laws_eqEntryS.sig : Sig := ⟨[.val (.sl false (.pair .str (.pair (.int .i64) (.pair (.int .i64) (.pair (.int .i64) (.int .i64)))))), .val (.sl false (.pair .str (.pair (.int .i64) (.pair (.int .i64) (.pair (.int .i64) (.int .i64))))))], [.val .bool]⟩
noncomputable def laws_eqEntryS.ctr : Ctr := ⟨laws_eqEntryS.sig, fun x => laws_eqEntryS.f x.1 x.2⟩
noncomputable def laws_eqEntryS.env : Env := [(86, [laws_eqEntry.ctr])]
def laws_eqEntryS.ann : Ann := ⟨[(0, ([(0, .val (.sl false (.pair .str (.pair (.int .i64) (.pair (.int .i64) (.pair (.int .i64) (.int .i64))))))), (1, .val (.sl false (.pair .str (.pair (.int .i64) (.pair (.int .i64) (.pair (.int .i64) (.int .i64))))))), (5, .val (.int .i64))], [(.exit 0, []), (.ret, [(4, .val .bool)])]))], [], []⟩
theorem laws_eqEntryS.ok : CtrOk Tryz.prog 43 laws_eqEntryS.ctr := fn_sound (A := laws_eqEntryS.ann) tabOk (EnvOk.cons (ctrs_cons laws_eqEntry.ok ctrs_nil) EnvOk.nil) mixed (fn := Tryz.f43) (body := bodyOf Tryz.f43) Tryz.func43 (by kernel_rfl) (by kernel_rfl) (fun x => by kernel_rfl)

def laws_eqStore.sig : Sig := ⟨[.val (.pair (.pair (.int .i64) (.sl false (.int .i64))) (.pair (.sl false (.pair .str (.pair (.int .i64) (.pair (.int .i64) (.pair (.int .i64) (.int .i64)))))) (.pair (.int .i64) (.pair (.int .i64) (.int .i64))))), .val (.pair (.pair (.int .i64) (.sl false (.int .i64))) (.pair (.sl false (.pair .str (.pair (.int .i64) (.pair (.int .i64) (.pair (.int .i64) (.int .i64)))))) (.pair (.int .i64) (.pair (.int .i64) (.int .i64)))))], [.val .bool]⟩
noncomputable def laws_eqStore.ctr : Ctr := ⟨laws_eqStore.sig, fun x => laws_eqStore.f x.1 x.2⟩
noncomputable def laws_eqStore.env : Env := [(42, [laws_eqLive.ctr]), (43, [laws_eqEntryS.ctr])]
def laws_eqStore.ann : Ann := ⟨[], [], []⟩
theorem laws_eqStore.ok : CtrOk Tryz.prog 14 laws_eqStore.ctr := fn_sound (A := laws_eqStore.ann) tabOk (EnvOk.cons (ctrs_cons laws_eqLive.ok ctrs_nil) (EnvOk.cons (ctrs_cons laws_eqEntryS.ok ctrs_nil) EnvOk.nil)) mixed (fn := Tryz.f14) (body := bodyOf Tryz.f14) Tryz.func14 (by kernel_rfl) (by kernel_rfl) (fun x => by kernel_rfl)

def laws_eqFile.sig : Sig := ⟨[.val (.pair .str (.pair .str (.int .i64))), .val (.pair .str (.pair .str (.int .i64)))], [.val .bool]⟩
noncomputable def laws_eqFile.ctr : Ctr := ⟨laws_eqFile.sig, fun x => laws_eqFile.f x.1 x.2⟩
noncomputable def laws_eqFile.env : Env := []
def laws_eqFile.ann : Ann := ⟨[], [], []⟩
theorem laws_eqFile.ok : CtrOk Tryz.prog 87 laws_eqFile.ctr := fn_sound (A := laws_eqFile.ann) tabOk EnvOk.nil mixed (fn := Tryz.f87) (body := bodyOf Tryz.f87) Tryz.func87 (by kernel_rfl) (by kernel_rfl) (fun x => by kernel_rfl)

def laws_eqFileS.sig : Sig := ⟨[.val (.sl false (.pair .str (.pair .str (.int .i64)))), .val (.sl false (.pair .str (.pair .str (.int .i64))))], [.val .bool]⟩
noncomputable def laws_eqFileS.ctr : Ctr := ⟨laws_eqFileS.sig, fun x => laws_eqFileS.f x.1 x.2⟩
noncomputable def laws_eqFileS.env : Env := [(87, [laws_eqFile.ctr])]
def laws_eqFileS.ann : Ann := ⟨[(0, ([(0, .val (.sl false (.pair .str (.pair .str (.int .i64))))), (1, .val (.sl false (.pair .str (.pair .str (.int .i64))))), (5, .val (.int .i64))], [(.exit 0, []), (.ret, [(4, .val .bool)])]))], [], []⟩
theorem laws_eqFileS.ok : CtrOk Tryz.prog 44 laws_eqFileS.ctr := fn_sound (A := laws_eqFileS.ann) tabOk (EnvOk.cons (ctrs_cons laws_eqFile.ok ctrs_nil) EnvOk.nil) mixed (fn := Tryz.f44) (body := bodyOf Tryz.f44) Tryz.func44 (by kernel_rfl) (by kernel_rfl) (fun x => by kernel_rfl)

def laws_eqDisk.sig : Sig := ⟨[.val (.pair (.sl false (.pair .str (.pair .str (.int .i64)))) (.pair (.int .i64) (.pair (.int .i64) .bool))), .val (.pair (.sl false (.pair .str (.pair .str (.int .i64)))) (.pair (.int .i64) (.pair (.int .i64) .bool)))], [.val .bool]⟩
noncomputable def laws_eqDisk.ctr : Ctr := ⟨laws_eqDisk.sig, fun x => laws_eqDisk.f x.1 x.2⟩
noncomputable def laws_eqDisk.env : Env := [(44, [laws_eqFileS.ctr])]
def laws_eqDisk.ann : Ann := ⟨[], [], []⟩
theorem laws_eqDisk.ok : CtrOk Tryz.prog 15 laws_eqDisk.ctr := fn_sound (A := laws_eqDisk.ann) tabOk (EnvOk.cons (ctrs_cons laws_eqFileS.ok ctrs_nil) EnvOk.nil) mixed (fn := Tryz.f15) (body := bodyOf Tryz.f15) Tryz.func15 (by kernel_rfl) (by kernel_rfl) (fun x => by kernel_rfl)

def laws_markIntS.sig : Sig := ⟨[.io (.sl true (.int .i64)), .val (.int .i64)], [.val (.int .i64)]⟩
noncomputable def laws_markIntS.ctr : Ctr := ⟨laws_markIntS.sig, fun x => laws_markIntS.f x.1 x.2⟩
noncomputable def laws_markIntS.env : Env := []
def laws_markIntS.ann : Ann := ⟨[(0, ([(0, .val (.sl true (.int .i64))), (1, .val (.int .i64)), (5, .val (.int .i64))], [(.exit 0, [(0, .val (.sl true (.int .i64))), (1, .val (.int .i64))])]))], [], []⟩
theorem laws_markIntS.ok : CtrOk Tryz.prog 88 laws_markIntS.ctr := fn_sound (A := laws_markIntS.ann) tabOk EnvOk.nil mixed (fn := Tryz.f88) (body := bodyOf Tryz.f88) Tryz.func88 (by kernel_rfl) (by kernel_rfl) (fun x => by kernel_rfl)

def laws_markLive.sig : Sig := ⟨[.io (.pair (.int .i64) (.sl true (.int .i64))), .val (.int .i64)], [.val (.int .i64)]⟩
noncomputable def laws_markLive.ctr : Ctr := ⟨laws_markLive.sig, fun x => laws_markLive.f x.1 x.2⟩
noncomputable def laws_markLive.env : Env := [(88, [laws_markIntS.ctr])]
def laws_markLive.ann : Ann := ⟨[], [], []⟩
theorem laws_markLive.ok : CtrOk Tryz.prog 45 laws_markLive.ctr := fn_sound (A := laws_markLive.ann) tabOk (EnvOk.cons (ctrs_cons laws_markIntS.ok ctrs_nil) EnvOk.nil) mixed (fn := Tryz.f45) (body := bodyOf Tryz.f45) Tryz.func45 (by kernel_rfl) (by kernel_rfl) (fun x => by kernel_rfl)

def laws_markText.sig : Sig := ⟨[.val (.int .i64)], [.val .str]⟩
noncomputable def laws_markText.ctr : Ctr := ⟨laws_markText.sig, fun x => laws_markText.f x⟩
noncomputable def laws_markText.env : Env := []
def laws_markText.ann : Ann := ⟨[(0, ([(0, .val (.int .i64)), (3, .val .str)], [(.exit 0, [(3, .val .str)])]))], [], []⟩
theorem laws_markText.ok : CtrOk Tryz.prog 48 laws_markText.ctr := fn_sound (A := laws_markText.ann) tabOk EnvOk.nil mixed (fn := Tryz.f48) (body := bodyOf Tryz.f48) Tryz.func48 (by kernel_rfl) (by kernel_rfl) (fun x => by kernel_rfl)

def laws_markEntryS.sig : Sig := ⟨[.io (.sl true (.pair .str (.pair (.int .i64) (.pair (.int .i64) (.pair (.int .i64) (.int .i64)))))), .val (.int .i64)], [.val (.int .i64)]⟩
noncomputable def laws_markEntryS.ctr : Ctr := ⟨laws_markEntryS.sig, fun x => laws_markEntryS.f x.1 x.2⟩
noncomputable def laws_markEntryS.env : Env := [(48, [laws_markText.ctr])]
def laws_markEntryS.ann : Ann := ⟨[(0, ([(0, .val (.sl true (.pair .str (.pair (.int .i64) (.pair (.int .i64) (.pair (.int .i64) (.int .i64))))))), (1, .val (.int .i64)), (5, .val (.int .i64))], [(.exit 0, [(0, .val (.sl true (.pair .str (.pair (.int .i64) (.pair (.int .i64) (.pair (.int .i64) (.int .i64))))))), (1, .val (.int .i64))])]))], [], []⟩
theorem laws_markEntryS.ok : CtrOk Tryz.prog 46 laws_markEntryS.ctr := fn_sound (A := laws_markEntryS.ann) tabOk (EnvOk.cons (ctrs_cons laws_markText.ok ctrs_nil) EnvOk.nil) mixed (fn := Tryz.f46) (body := bodyOf Tryz.f46) Tryz.func46 (by kernel_rfl) (by kernel_rfl) (fun x => by kernel_rfl)

def laws_markStore.sig : Sig := ⟨[.io (.pair (.pair (.int .i64) (.sl true (.int .i64))) (.pair (.sl true (.pair .str (.pair (.int .i64) (.pair (.int .i64) (.pair (.int .i64) (.int .i64)))))) (.pair (.int .i64) (.pair (.int .i64) (.int .i64))))), .val (.int .i64)], [.val (.int .i64)]⟩
noncomputable def laws_markStore.ctr : Ctr := ⟨laws_markStore.sig, fun x => laws_markStore.f x.1 x.2⟩
noncomputable def laws_markStore.env : Env := [(45, [laws_markLive.ctr]), (46, [laws_markEntryS.ctr])]
def laws_markStore.ann : Ann := ⟨[], [], []⟩
theorem laws_markStore.ok : CtrOk Tryz.prog 16 laws_markStore.ctr := fn_sound (A := laws_markStore.ann) tabOk (EnvOk.cons (ctrs_cons laws_markLive.ok ctrs_nil) (EnvOk.cons (ctrs_cons laws_markEntryS.ok ctrs_nil) EnvOk.nil)) mixed (fn := Tryz.f16) (body := bodyOf Tryz.f16) Tryz.func16 (by kernel_rfl) (by kernel_rfl) (fun x => by kernel_rfl)

def laws_markFileS.sig : Sig := ⟨[.io (.sl true (.pair .str (.pair .str (.int .i64)))), .val (.int .i64)], [.val (.int .i64)]⟩
noncomputable def laws_markFileS.ctr : Ctr := ⟨laws_markFileS.sig, fun x => laws_markFileS.f x.1 x.2⟩
noncomputable def laws_markFileS.env : Env := [(48, [laws_markText.ctr])]
def laws_markFileS.ann : Ann := ⟨[(0, ([(0, .val (.sl true (.pair .str (.pair .str (.int .i64))))), (1, .val (.int .i64)), (5, .val (.int .i64))], [(.exit 0, [(0, .val (.sl true (.pair .str (.pair .str (.int .i64))))), (1, .val (.int .i64))])]))], [], []⟩
theorem laws_markFileS.ok : CtrOk Tryz.prog 47 laws_markFileS.ctr := fn_sound (A := laws_markFileS.ann) tabOk (EnvOk.cons (ctrs_cons laws_markText.ok ctrs_nil) EnvOk.nil) mixed (fn := Tryz.f47) (body := bodyOf Tryz.f47) Tryz.func47 (by kernel_rfl) (by kernel_rfl) (fun x => by kernel_rfl)

def laws_markDisk.sig : Sig := ⟨[.io (.pair (.sl true (.pair .str (.pair .str (.int .i64)))) (.pair (.int .i64) (.pair (.int .i64) .bool))), .val (.int .i64)], [.val (.int .i64)]⟩
noncomputable def laws_markDisk.ctr : Ctr := ⟨laws_markDisk.sig, fun x => laws_markDisk.f x.1 x.2⟩
noncomputable def laws_markDisk.env : Env := [(47, [laws_markFileS.ctr])]
def laws_markDisk.ann : Ann := ⟨[], [], []⟩
theorem laws_markDisk.ok : CtrOk Tryz.prog 17 laws_markDisk.ctr := fn_sound (A := laws_markDisk.ann) tabOk (EnvOk.cons (ctrs_cons laws_markFileS.ok ctrs_nil) EnvOk.nil) mixed (fn := Tryz.f17) (body := bodyOf Tryz.f17) Tryz.func17 (by kernel_rfl) (by kernel_rfl) (fun x => by kernel_rfl)

def laws_markPairS.sig : Sig := ⟨[.io (.sl true (.pair .str (.pair .str (.int .i64)))), .val (.int .i64)], [.val (.int .i64)]⟩
noncomputable def laws_markPairS.ctr : Ctr := ⟨laws_markPairS.sig, fun x => laws_markPairS.f x.1 x.2⟩
noncomputable def laws_markPairS.env : Env := [(48, [laws_markText.ctr])]
def laws_markPairS.ann : Ann := ⟨[(0, ([(0, .val (.sl true (.pair .str (.pair .str (.int .i64))))), (1, .val (.int .i64)), (5, .val (.int .i64))], [(.exit 0, [(0, .val (.sl true (.pair .str (.pair .str (.int .i64))))), (1, .val (.int .i64))])]))], [], []⟩
theorem laws_markPairS.ok : CtrOk Tryz.prog 18 laws_markPairS.ctr := fn_sound (A := laws_markPairS.ann) tabOk (EnvOk.cons (ctrs_cons laws_markText.ok ctrs_nil) EnvOk.nil) mixed (fn := Tryz.f18) (body := bodyOf Tryz.f18) Tryz.func18 (by kernel_rfl) (by kernel_rfl) (fun x => by kernel_rfl)

def laws_heldPairS.sig : Sig := ⟨[.val (.sl false (.pair .str (.pair .str (.int .i64)))), .val (.int .i64)], [.val (.int .i64)]⟩
noncomputable def laws_heldPairS.ctr : Ctr := ⟨laws_heldPairS.sig, fun x => laws_heldPairS.f x.1 x.2⟩
noncomputable def laws_heldPairS.env : Env := [(48, [laws_markText.ctr])]
def laws_heldPairS.ann : Ann := ⟨[(0, ([(0, .val (.sl false (.pair .str (.pair .str (.int .i64))))), (1, .val (.int .i64)), (5, .val (.int .i64))], [(.exit 0, [(1, .val (.int .i64))]), (.ret, [(4, .val (.int .i64))])]))], [], []⟩
theorem laws_heldPairS.ok : CtrOk Tryz.prog 19 laws_heldPairS.ctr := fn_sound (A := laws_heldPairS.ann) tabOk (EnvOk.cons (ctrs_cons laws_markText.ok ctrs_nil) EnvOk.nil) mixed (fn := Tryz.f19) (body := bodyOf Tryz.f19) Tryz.func19 (by kernel_rfl) (by kernel_rfl) (fun x => by kernel_rfl)

def laws_FnExactDump.sig : Sig := ⟨[.val (.pair (.pair (.int .i64) (.sl false (.int .i64))) (.pair (.sl false (.pair .str (.pair (.int .i64) (.pair (.int .i64) (.pair (.int .i64) (.int .i64)))))) (.pair (.int .i64) (.pair (.int .i64) (.int .i64))))), .val (.pair (.sl false (.pair .str (.pair .str (.int .i64)))) (.pair (.int .i64) (.pair (.int .i64) .bool)))], [.val .bool]⟩
noncomputable def laws_FnExactDump.ctr : Ctr := ⟨laws_FnExactDump.sig, fun x => laws_FnExactDump.f x.1 x.2⟩
noncomputable def laws_FnExactDump.env : Env := [(7, [laws_szStore.ctr]), (8, [laws_szDisk.ctr]), (9, [spec_Dump.ctr]), (10, [laws_toStore.ctr]), (11, [laws_toDisk.ctr]), (12, [impl_Dump.ctr]), (13, [laws_eqPairS.ctr]), (14, [laws_eqStore.ctr]), (15, [laws_eqDisk.ctr]), (16, [laws_markStore.ctr]), (17, [laws_markDisk.ctr]), (18, [laws_markPairS.ctr]), (19, [laws_heldPairS.ctr])]
def laws_FnExactDump.ann : Ann := ⟨[], [], []⟩
theorem laws_FnExactDump.ok : CtrOk Tryz.prog 3 laws_FnExactDump.ctr := fn_sound (A := laws_FnExactDump.ann) tabOk (EnvOk.cons (ctrs_cons laws_szStore.ok ctrs_nil) (EnvOk.cons (ctrs_cons laws_szDisk.ok ctrs_nil) (EnvOk.cons (ctrs_cons spec_Dump.ok ctrs_nil) (EnvOk.cons (ctrs_cons laws_toStore.ok ctrs_nil) (EnvOk.cons (ctrs_cons laws_toDisk.ok ctrs_nil) (EnvOk.cons (ctrs_cons impl_Dump.ok ctrs_nil) (EnvOk.cons (ctrs_cons laws_eqPairS.ok ctrs_nil) (EnvOk.cons (ctrs_cons laws_eqStore.ok ctrs_nil) (EnvOk.cons (ctrs_cons laws_eqDisk.ok ctrs_nil) (EnvOk.cons (ctrs_cons laws_markStore.ok ctrs_nil) (EnvOk.cons (ctrs_cons laws_markDisk.ok ctrs_nil) (EnvOk.cons (ctrs_cons laws_markPairS.ok ctrs_nil) (EnvOk.cons (ctrs_cons laws_heldPairS.ok ctrs_nil) EnvOk.nil))))))))))))) mixed (fn := Tryz.f3) (body := bodyOf Tryz.f3) Tryz.func3 (by kernel_rfl) (by kernel_rfl) (fun x => by kernel_rfl)

end Go.Proofs.YtljiidpfgfkhcaaGreatDoor
