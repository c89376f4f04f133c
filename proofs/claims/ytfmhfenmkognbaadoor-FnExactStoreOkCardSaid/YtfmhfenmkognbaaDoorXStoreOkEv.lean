/- Each function of the program that FnExactStoreOk reaches comes to its plain function. -/
import Derived.Test.YtfmhfenmkognbaaDoorShelf
import Derived.Lib.AppendIntMem
import Derived.Test.YtfmhfenmkognbaaDoorRf5
import Derived.Test.YtfmhfenmkognbaaDoorXStoreOkFns
import Derived.Test.YtfmhfenmkognbaaDoorProg
namespace Go.Proofs.YtfmhfenmkognbaaDoor
open Go Go.Rf Go.Rf.G Go.Proofs Go.Lib
set_option maxRecDepth 100000
def bodyOf (f : Func) : Code := f.body.getD .skip
def tab : Tab := [(3, ⟨(.int .i64), false, [], none, 8, false⟩),
  (4, ⟨.bool, false, [], none, 1, false⟩),
  (5, ⟨(.int .u8), false, [], none, 1, false⟩),
  (9, ⟨.str, false, [], none, 16, false⟩),
  (22, ⟨(.sl true (.int .i64)), false, [], some 3, 24, false⟩),
  (24, ⟨(.pair (.int .i64) (.sl true (.int .i64))), true, [(0, 1, false), (1, 1, false)], none, 32, false⟩),
  (25, ⟨(.sl true (.pair .str (.pair (.int .i64) (.pair (.int .i64) (.pair (.int .i64) (.int .i64)))))), false, [], some 73, 24, false⟩),
  (27, ⟨(.pair (.pair (.int .i64) (.sl true (.int .i64))) (.pair (.sl true (.pair .str (.pair (.int .i64) (.pair (.int .i64) (.pair (.int .i64) (.int .i64)))))) (.pair (.int .i64) (.pair (.int .i64) (.int .i64))))), true, [(0, 2, true), (2, 1, false), (3, 1, false), (4, 1, false), (5, 1, false)], none, 80, false⟩),
  (28, ⟨(.sl true (.pair .str (.pair .str (.int .i64)))), false, [], some 76, 24, false⟩),
  (30, ⟨(.pair (.sl true (.pair .str (.pair .str (.int .i64)))) (.pair (.int .i64) (.pair (.int .i64) .bool))), true, [(0, 1, false), (1, 1, false), (2, 1, false), (3, 1, false)], none, 48, false⟩),
  (34, ⟨(.pair (.int .i64) (.sl true (.int .i64))), true, [(0, 1, false), (1, 1, false)], none, 32, false⟩),
  (35, ⟨(.sl true (.pair .str (.pair (.int .i64) (.pair (.int .i64) (.pair (.int .i64) (.int .i64)))))), false, [], some 60, 24, false⟩),
  (37, ⟨(.pair (.pair (.int .i64) (.sl true (.int .i64))) (.pair (.sl true (.pair .str (.pair (.int .i64) (.pair (.int .i64) (.pair (.int .i64) (.int .i64)))))) (.pair (.int .i64) (.pair (.int .i64) (.int .i64))))), true, [(0, 2, true), (2, 1, false), (3, 1, false), (4, 1, false), (5, 1, false)], none, 80, false⟩),
  (39, ⟨(.sl true (.pair .str (.pair .str (.int .i64)))), false, [], some 79, 24, false⟩),
  (41, ⟨(.pair (.sl true (.pair .str (.pair .str (.int .i64)))) (.pair (.int .i64) (.pair (.int .i64) .bool))), true, [(0, 1, false), (1, 1, false), (2, 1, false), (3, 1, false)], none, 48, false⟩),
  (56, ⟨(.sl true (.pair (.int .i64) (.pair (.int .i64) (.pair (.int .i64) (.pair (.int .i64) (.pair .str (.pair .str (.pair (.int .i64) (.int .i64))))))))), false, [], some 85, 24, false⟩),
  (60, ⟨(.pair .str (.pair (.int .i64) (.pair (.int .i64) (.pair (.int .i64) (.int .i64))))), true, [(0, 1, false), (1, 1, false), (2, 1, false), (3, 1, false), (4, 1, false)], none, 48, true⟩),
  (62, ⟨(.pair (.int .i64) (.pair (.int .i64) (.pair .str (.pair .str (.pair (.int .i64) (.int .i64)))))), true, [(0, 1, false), (1, 1, false), (2, 1, false), (3, 1, false), (4, 1, false), (5, 1, false)], none, 64, true⟩),
  (73, ⟨(.pair .str (.pair (.int .i64) (.pair (.int .i64) (.pair (.int .i64) (.int .i64))))), true, [(0, 1, false), (1, 1, false), (2, 1, false), (3, 1, false), (4, 1, false)], none, 48, true⟩),
  (76, ⟨(.pair .str (.pair .str (.int .i64))), true, [(0, 1, false), (1, 1, false), (2, 1, false)], none, 40, true⟩),
  (79, ⟨(.pair .str (.pair .str (.int .i64))), true, [(0, 1, false), (1, 1, false), (2, 1, false)], none, 40, true⟩),
  (85, ⟨(.pair (.int .i64) (.pair (.int .i64) (.pair (.int .i64) (.pair (.int .i64) (.pair .str (.pair .str (.pair (.int .i64) (.int .i64)))))))), true, [(0, 1, false), (1, 1, false), (2, 6, true)], none, 80, true⟩),
  (93, ⟨(.sl true (.int .u8)), false, [], some 5, 24, false⟩),
  (104, ⟨(.pair .str .bool), true, [(0, 1, false), (1, 1, false)], none, 24, true⟩),
  (111, ⟨(.int .u32), false, [], none, 4, false⟩)]
theorem tabOk : TabOk Tryd.prog tab := Rf.tabOk (by kernel_rfl)
theorem mixed : Tryd.prog.follows .mixedOrders = true := by kernel_rfl
instance laid : Laid := tabLaid Tryd.prog "internal/strconv.uint64pow10" .u64 Lib.pow10Tab
def laws_szIntS.sig : Sig := ⟨[.val (.sl false (.int .i64)), .val (.int .i64)], [.val (.int .i64)]⟩
noncomputable def laws_szIntS.ctr : Ctr := ⟨laws_szIntS.sig, fun x => laws_szIntS.f x.1 x.2⟩
noncomputable def laws_szIntS.env : Env := []
def laws_szIntS.ann : Ann := ⟨[], [], []⟩
theorem laws_szIntS.ok : CtrOk Tryd.prog 37 laws_szIntS.ctr := fn_sound (A := laws_szIntS.ann) tabOk EnvOk.nil mixed (fn := Tryd.f37) (body := bodyOf Tryd.f37) Tryd.func37 (by kernel_rfl) (by kernel_rfl) (fun x => by kernel_rfl)

def laws_szLive.sig : Sig := ⟨[.val (.pair (.int .i64) (.sl false (.int .i64))), .val (.int .i64)], [.val (.int .i64)]⟩
noncomputable def laws_szLive.ctr : Ctr := ⟨laws_szLive.sig, fun x => laws_szLive.f x.1 x.2⟩
noncomputable def laws_szLive.env : Env := [(37, [laws_szIntS.ctr])]
def laws_szLive.ann : Ann := ⟨[], [], []⟩
theorem laws_szLive.ok : CtrOk Tryd.prog 12 laws_szLive.ctr := fn_sound (A := laws_szLive.ann) tabOk (EnvOk.cons (ctrs_cons laws_szIntS.ok ctrs_nil) EnvOk.nil) mixed (fn := Tryd.f12) (body := bodyOf Tryd.f12) Tryd.func12 (by kernel_rfl) (by kernel_rfl) (fun x => by kernel_rfl)

def laws_szEntry.sig : Sig := ⟨[.val (.pair .str (.pair (.int .i64) (.pair (.int .i64) (.pair (.int .i64) (.int .i64))))), .val (.int .i64)], [.val (.int .i64)]⟩
noncomputable def laws_szEntry.ctr : Ctr := ⟨laws_szEntry.sig, fun x => laws_szEntry.f x.1 x.2⟩
noncomputable def laws_szEntry.env : Env := []
def laws_szEntry.ann : Ann := ⟨[], [], []⟩
theorem laws_szEntry.ok : CtrOk Tryd.prog 38 laws_szEntry.ctr := fn_sound (A := laws_szEntry.ann) tabOk EnvOk.nil mixed (fn := Tryd.f38) (body := bodyOf Tryd.f38) Tryd.func38 (by kernel_rfl) (by kernel_rfl) (fun x => by kernel_rfl)

def laws_szEntryS.sig : Sig := ⟨[.val (.sl false (.pair .str (.pair (.int .i64) (.pair (.int .i64) (.pair (.int .i64) (.int .i64)))))), .val (.int .i64)], [.val (.int .i64)]⟩
noncomputable def laws_szEntryS.ctr : Ctr := ⟨laws_szEntryS.sig, fun x => laws_szEntryS.f x.1 x.2⟩
noncomputable def laws_szEntryS.env : Env := [(38, [laws_szEntry.ctr])]
def laws_szEntryS.ann : Ann := ⟨[(0, ([(0, .val (.sl false (.pair .str (.pair (.int .i64) (.pair (.int .i64) (.pair (.int .i64) (.int .i64))))))), (1, .val (.int .i64)), (5, .val (.int .i64))], [(.exit 0, [(1, .val (.int .i64))]), (.ret, [(4, .val (.int .i64))])]))], [], []⟩
theorem laws_szEntryS.ok : CtrOk Tryd.prog 13 laws_szEntryS.ctr := fn_sound (A := laws_szEntryS.ann) tabOk (EnvOk.cons (ctrs_cons laws_szEntry.ok ctrs_nil) EnvOk.nil) mixed (fn := Tryd.f13) (body := bodyOf Tryd.f13) Tryd.func13 (by kernel_rfl) (by kernel_rfl) (fun x => by kernel_rfl)

def laws_szStore.sig : Sig := ⟨[.val (.pair (.pair (.int .i64) (.sl false (.int .i64))) (.pair (.sl false (.pair .str (.pair (.int .i64) (.pair (.int .i64) (.pair (.int .i64) (.int .i64)))))) (.pair (.int .i64) (.pair (.int .i64) (.int .i64))))), .val (.int .i64)], [.val (.int .i64)]⟩
noncomputable def laws_szStore.ctr : Ctr := ⟨laws_szStore.sig, fun x => laws_szStore.f x.1 x.2⟩
noncomputable def laws_szStore.env : Env := [(12, [laws_szLive.ctr]), (13, [laws_szEntryS.ctr])]
def laws_szStore.ann : Ann := ⟨[], [], []⟩
theorem laws_szStore.ok : CtrOk Tryd.prog 4 laws_szStore.ctr := fn_sound (A := laws_szStore.ann) tabOk (EnvOk.cons (ctrs_cons laws_szLive.ok ctrs_nil) (EnvOk.cons (ctrs_cons laws_szEntryS.ok ctrs_nil) EnvOk.nil)) mixed (fn := Tryd.f4) (body := bodyOf Tryd.f4) Tryd.func4 (by kernel_rfl) (by kernel_rfl) (fun x => by kernel_rfl)

def laws_szFile.sig : Sig := ⟨[.val (.pair .str (.pair .str (.int .i64))), .val (.int .i64)], [.val (.int .i64)]⟩
noncomputable def laws_szFile.ctr : Ctr := ⟨laws_szFile.sig, fun x => laws_szFile.f x.1 x.2⟩
noncomputable def laws_szFile.env : Env := []
def laws_szFile.ann : Ann := ⟨[], [], []⟩
theorem laws_szFile.ok : CtrOk Tryd.prog 39 laws_szFile.ctr := fn_sound (A := laws_szFile.ann) tabOk EnvOk.nil mixed (fn := Tryd.f39) (body := bodyOf Tryd.f39) Tryd.func39 (by kernel_rfl) (by kernel_rfl) (fun x => by kernel_rfl)

def laws_szFileS.sig : Sig := ⟨[.val (.sl false (.pair .str (.pair .str (.int .i64)))), .val (.int .i64)], [.val (.int .i64)]⟩
noncomputable def laws_szFileS.ctr : Ctr := ⟨laws_szFileS.sig, fun x => laws_szFileS.f x.1 x.2⟩
noncomputable def laws_szFileS.env : Env := [(39, [laws_szFile.ctr])]
def laws_szFileS.ann : Ann := ⟨[(0, ([(0, .val (.sl false (.pair .str (.pair .str (.int .i64))))), (1, .val (.int .i64)), (5, .val (.int .i64))], [(.exit 0, [(1, .val (.int .i64))]), (.ret, [(4, .val (.int .i64))])]))], [], []⟩
theorem laws_szFileS.ok : CtrOk Tryd.prog 14 laws_szFileS.ctr := fn_sound (A := laws_szFileS.ann) tabOk (EnvOk.cons (ctrs_cons laws_szFile.ok ctrs_nil) EnvOk.nil) mixed (fn := Tryd.f14) (body := bodyOf Tryd.f14) Tryd.func14 (by kernel_rfl) (by kernel_rfl) (fun x => by kernel_rfl)

def laws_szDisk.sig : Sig := ⟨[.val (.pair (.sl false (.pair .str (.pair .str (.int .i64)))) (.pair (.int .i64) (.pair (.int .i64) .bool))), .val (.int .i64)], [.val (.int .i64)]⟩
noncomputable def laws_szDisk.ctr : Ctr := ⟨laws_szDisk.sig, fun x => laws_szDisk.f x.1 x.2⟩
noncomputable def laws_szDisk.env : Env := [(14, [laws_szFileS.ctr])]
def laws_szDisk.ann : Ann := ⟨[], [], []⟩
theorem laws_szDisk.ok : CtrOk Tryd.prog 5 laws_szDisk.ctr := fn_sound (A := laws_szDisk.ann) tabOk (EnvOk.cons (ctrs_cons laws_szFileS.ok ctrs_nil) EnvOk.nil) mixed (fn := Tryd.f5) (body := bodyOf Tryd.f5) Tryd.func5 (by kernel_rfl) (by kernel_rfl) (fun x => by kernel_rfl)

def spec_l1In.sig : Sig := ⟨[.val (.int .i64), .val (.int .i64), .val (.int .i64)], [.val .bool]⟩
noncomputable def spec_l1In.ctr : Ctr := ⟨spec_l1In.sig, fun x => spec_l1In.f x.1 x.2.1 x.2.2⟩
noncomputable def spec_l1In.env : Env := []
def spec_l1In.ann : Ann := ⟨[], [], []⟩
theorem spec_l1In.ok : CtrOk Tryd.prog 18 spec_l1In.ctr := fn_sound (A := spec_l1In.ann) tabOk EnvOk.nil mixed (fn := Tryd.f18) (body := bodyOf Tryd.f18) Tryd.func18 (by kernel_rfl) (by kernel_rfl) (fun x => by kernel_rfl)

def spec_l3Used.sig : Sig := ⟨[.val (.pair (.sl false (.pair .str (.pair .str (.int .i64)))) (.pair (.int .i64) (.pair (.int .i64) .bool)))], [.val (.int .i64)]⟩
noncomputable def spec_l3Used.ctr : Ctr := ⟨spec_l3Used.sig, fun x => spec_l3Used.f x⟩
noncomputable def spec_l3Used.env : Env := []
def spec_l3Used.ann : Ann := ⟨[(0, ([(1, .ptr (.pair (.sl false (.pair .str (.pair .str (.int .i64)))) (.pair (.int .i64) (.pair (.int .i64) .bool)))), (3, .val (.int .i64)), (4, .val (.int .i64))], [(.exit 0, [(3, .val (.int .i64))])]))], [], []⟩
theorem spec_l3Used.ok : CtrOk Tryd.prog 40 spec_l3Used.ctr := fn_sound (A := spec_l3Used.ann) tabOk EnvOk.nil mixed (fn := Tryd.f40) (body := bodyOf Tryd.f40) Tryd.func40 (by kernel_rfl) (by kernel_rfl) (fun x => by kernel_rfl)

def spec_NameOk.sig : Sig := ⟨[.val .str], [.val .bool]⟩
noncomputable def spec_NameOk.ctr : Ctr := ⟨spec_NameOk.sig, fun x => spec_NameOk.f x⟩
noncomputable def spec_NameOk.env : Env := [(18, [spec_l1In.ctr])]
def spec_NameOk.ann : Ann := ⟨[(0, ([(0, .val .str), (3, .val (.int .i64))], [(.exit 0, [(0, .val .str)]), (.ret, [(2, .val .bool)])]))], [], [(4, [(.normal, [(0, .val .str), (3, .val (.int .i64))]), (.ret, [(2, .val .bool)])])]⟩
theorem spec_NameOk.ok : CtrOk Tryd.prog 41 spec_NameOk.ctr := fn_sound (A := spec_NameOk.ann) tabOk (EnvOk.cons (ctrs_cons spec_l1In.ok ctrs_nil) EnvOk.nil) mixed (fn := Tryd.f41) (body := bodyOf Tryd.f41) Tryd.func41 (by kernel_rfl) (by kernel_rfl) (fun x => by kernel_rfl)

def spec_DiskOk.sig : Sig := ⟨[.val (.pair (.sl false (.pair .str (.pair .str (.int .i64)))) (.pair (.int .i64) (.pair (.int .i64) .bool)))], [.val .bool]⟩
noncomputable def spec_DiskOk.ctr : Ctr := ⟨spec_DiskOk.sig, fun x => spec_DiskOk.f x⟩
noncomputable def spec_DiskOk.env : Env := [(18, [spec_l1In.ctr]), (40, [spec_l3Used.ctr]), (41, [spec_NameOk.ctr])]
def spec_DiskOk.ann : Ann := ⟨[(0, ([(1, .ptr (.pair (.sl false (.pair .str (.pair .str (.int .i64)))) (.pair (.int .i64) (.pair (.int .i64) .bool)))), (3, .val (.int .i64))], [(.exit 0, []), (.ret, [(2, .val .bool)])]))], [], [(6, [(.normal, [(1, .ptr (.pair (.sl false (.pair .str (.pair .str (.int .i64)))) (.pair (.int .i64) (.pair (.int .i64) .bool)))), (3, .val (.int .i64))]), (.ret, [(2, .val .bool)])])]⟩
theorem spec_DiskOk.ok : CtrOk Tryd.prog 15 spec_DiskOk.ctr := fn_sound (A := spec_DiskOk.ann) tabOk (EnvOk.cons (ctrs_cons spec_l1In.ok ctrs_nil) (EnvOk.cons (ctrs_cons spec_l3Used.ok ctrs_nil) (EnvOk.cons (ctrs_cons spec_NameOk.ok ctrs_nil) EnvOk.nil))) mixed (fn := Tryd.f15) (body := bodyOf Tryd.f15) Tryd.func15 (by kernel_rfl) (by kernel_rfl) (fun x => by kernel_rfl)

def spec_LiveOk.sig : Sig := ⟨[.val (.pair (.int .i64) (.sl false (.int .i64)))], [.val .bool]⟩
noncomputable def spec_LiveOk.ctr : Ctr := ⟨spec_LiveOk.sig, fun x => spec_LiveOk.f x⟩
noncomputable def spec_LiveOk.env : Env := [(18, [spec_l1In.ctr])]
def spec_LiveOk.ann : Ann := ⟨[(0, ([(1, .ptr (.pair (.int .i64) (.sl false (.int .i64)))), (3, .val (.int .i64))], [(.exit 0, []), (.ret, [(2, .val .bool)])]))], [], [(6, [(.normal, [(1, .ptr (.pair (.int .i64) (.sl false (.int .i64)))), (3, .val (.int .i64))]), (.ret, [(2, .val .bool)])])]⟩
theorem spec_LiveOk.ok : CtrOk Tryd.prog 16 spec_LiveOk.ctr := fn_sound (A := spec_LiveOk.ann) tabOk (EnvOk.cons (ctrs_cons spec_l1In.ok ctrs_nil) EnvOk.nil) mixed (fn := Tryd.f16) (body := bodyOf Tryd.f16) Tryd.func16 (by kernel_rfl) (by kernel_rfl) (fun x => by kernel_rfl)

def spec_KeyOk.sig : Sig := ⟨[.val .str], [.val .bool]⟩
noncomputable def spec_KeyOk.ctr : Ctr := ⟨spec_KeyOk.sig, fun x => spec_KeyOk.f x⟩
noncomputable def spec_KeyOk.env : Env := [(18, [spec_l1In.ctr])]
def spec_KeyOk.ann : Ann := ⟨[], [], []⟩
theorem spec_KeyOk.ok : CtrOk Tryd.prog 42 spec_KeyOk.ctr := fn_sound (A := spec_KeyOk.ann) tabOk (EnvOk.cons (ctrs_cons spec_l1In.ok ctrs_nil) EnvOk.nil) mixed (fn := Tryd.f42) (body := bodyOf Tryd.f42) Tryd.func42 (by kernel_rfl) (by kernel_rfl) (fun x => by kernel_rfl)

def spec_DirOk.sig : Sig := ⟨[.val (.sl false (.pair .str (.pair (.int .i64) (.pair (.int .i64) (.pair (.int .i64) (.int .i64))))))], [.val .bool]⟩
noncomputable def spec_DirOk.ctr : Ctr := ⟨spec_DirOk.sig, fun x => spec_DirOk.f x⟩
noncomputable def spec_DirOk.env : Env := [(18, [spec_l1In.ctr]), (42, [spec_KeyOk.ctr])]
def spec_DirOk.ann : Ann := ⟨[(0, ([(0, .val (.sl false (.pair .str (.pair (.int .i64) (.pair (.int .i64) (.pair (.int .i64) (.int .i64))))))), (3, .val (.int .i64))], [(.exit 0, []), (.ret, [(2, .val .bool)])]))], [], [(7, [(.normal, [(0, .val (.sl false (.pair .str (.pair (.int .i64) (.pair (.int .i64) (.pair (.int .i64) (.int .i64))))))), (3, .val (.int .i64))]), (.ret, [(2, .val .bool)])])]⟩
theorem spec_DirOk.ok : CtrOk Tryd.prog 17 spec_DirOk.ctr := fn_sound (A := spec_DirOk.ann) tabOk (EnvOk.cons (ctrs_cons spec_l1In.ok ctrs_nil) (EnvOk.cons (ctrs_cons spec_KeyOk.ok ctrs_nil) EnvOk.nil)) mixed (fn := Tryd.f17) (body := bodyOf Tryd.f17) Tryd.func17 (by kernel_rfl) (by kernel_rfl) (fun x => by kernel_rfl)

def spec_l3Find.sig : Sig := ⟨[.val (.pair (.sl false (.pair .str (.pair .str (.int .i64)))) (.pair (.int .i64) (.pair (.int .i64) .bool))), .val .str], [.val (.int .i64)]⟩
noncomputable def spec_l3Find.ctr : Ctr := ⟨spec_l3Find.sig, fun x => spec_l3Find.f x.1 x.2⟩
noncomputable def spec_l3Find.env : Env := []
def spec_l3Find.ann : Ann := ⟨[(0, ([(1, .val .str), (2, .ptr (.pair (.sl false (.pair .str (.pair .str (.int .i64)))) (.pair (.int .i64) (.pair (.int .i64) .bool)))), (5, .val (.int .i64))], [(.exit 0, []), (.ret, [(4, .val (.int .i64))])]))], [], []⟩
theorem spec_l3Find.ok : CtrOk Tryd.prog 43 spec_l3Find.ctr := fn_sound (A := spec_l3Find.ann) tabOk EnvOk.nil mixed (fn := Tryd.f43) (body := bodyOf Tryd.f43) Tryd.func43 (by kernel_rfl) (by kernel_rfl) (fun x => by kernel_rfl)

def spec_FileText.sig : Sig := ⟨[.val (.pair (.sl false (.pair .str (.pair .str (.int .i64)))) (.pair (.int .i64) (.pair (.int .i64) .bool))), .val .str], [.val .str, .val .bool]⟩
noncomputable def spec_FileText.ctr : Ctr := ⟨spec_FileText.sig, fun x => spec_FileText.f x.1 x.2⟩
noncomputable def spec_FileText.env : Env := [(15, [spec_DiskOk.ctr]), (43, [spec_l3Find.ctr])]
def spec_FileText.ann : Ann := ⟨[], [], []⟩
theorem spec_FileText.ok : CtrOk Tryd.prog 19 spec_FileText.ctr := fn_sound (A := spec_FileText.ann) tabOk (EnvOk.cons (ctrs_cons spec_DiskOk.ok ctrs_nil) (EnvOk.cons (ctrs_cons spec_l3Find.ok ctrs_nil) EnvOk.nil)) mixed (fn := Tryd.f19) (body := bodyOf Tryd.f19) Tryd.func19 (by kernel_rfl) (by kernel_rfl) (fun x => by kernel_rfl)

def spec_Dec.sig : Sig := ⟨[.val (.int .i64)], [.val .str]⟩
noncomputable def spec_Dec.ctr : Ctr := ⟨spec_Dec.sig, fun x => spec_Dec.f x⟩
noncomputable def spec_Dec.env : Env := []
def spec_Dec.ann : Ann := ⟨[(0, ([(0, .val (.int .i64)), (3, .val .str), (4, .val .bool)], [(.exit 0, [(3, .val .str), (4, .val .bool)])]))], [], [(7, [(.normal, [(0, .val (.int .i64)), (3, .val .str), (4, .val .bool), (5, .val (.int .i64))])])]⟩
theorem spec_Dec.ok : CtrOk Tryd.prog 44 spec_Dec.ctr := fn_sound (A := spec_Dec.ann) tabOk EnvOk.nil mixed (fn := Tryd.f44) (body := bodyOf Tryd.f44) Tryd.func44 (by kernel_rfl) (by kernel_rfl) (fun x => by kernel_rfl)

def spec_SegName.sig : Sig := ⟨[.val (.int .i64)], [.val .str]⟩
noncomputable def spec_SegName.ctr : Ctr := ⟨spec_SegName.sig, fun x => spec_SegName.f x⟩
noncomputable def spec_SegName.env : Env := [(18, [spec_l1In.ctr]), (44, [spec_Dec.ctr])]
def spec_SegName.ann : Ann := ⟨[], [], []⟩
theorem spec_SegName.ok : CtrOk Tryd.prog 20 spec_SegName.ctr := fn_sound (A := spec_SegName.ann) tabOk (EnvOk.cons (ctrs_cons spec_l1In.ok ctrs_nil) (EnvOk.cons (ctrs_cons spec_Dec.ok ctrs_nil) EnvOk.nil)) mixed (fn := Tryd.f20) (body := bodyOf Tryd.f20) Tryd.func20 (by kernel_rfl) (by kernel_rfl) (fun x => by kernel_rfl)

def spec_Var.sig : Sig := ⟨[.val (.int .i64)], [.val .str]⟩
noncomputable def spec_Var.ctr : Ctr := ⟨spec_Var.sig, fun x => spec_Var.f x⟩
noncomputable def spec_Var.env : Env := [(18, [spec_l1In.ctr])]
def spec_Var.ann : Ann := ⟨[(0, ([(0, .val (.int .i64)), (3, .val (.sl true (.int .u8)))], [(.exit 0, [(0, .val (.int .i64)), (3, .val (.sl true (.int .u8)))])]))], [], []⟩
theorem spec_Var.ok : CtrOk Tryd.prog 72 spec_Var.ctr := fn_sound (A := spec_Var.ann) tabOk (EnvOk.cons (ctrs_cons spec_l1In.ok ctrs_nil) EnvOk.nil) mixed (fn := Tryd.f72) (body := bodyOf Tryd.f72) Tryd.func72 (by kernel_rfl) (by kernel_rfl) (fun x => by kernel_rfl)

def spec_ReadVar.sig : Sig := ⟨[.val .str], [.val (.int .i64), .val (.int .i64)]⟩
noncomputable def spec_ReadVar.ctr : Ctr := ⟨spec_ReadVar.sig, fun x => spec_ReadVar.f x⟩
noncomputable def spec_ReadVar.env : Env := [(72, [spec_Var.ctr])]
def spec_ReadVar.ann : Ann := ⟨[(2, ([(0, .val .str), (4, .val (.int .i64)), (5, .val (.int .i64)), (6, .val (.int .i64))], [(.exit 2, [(0, .val .str), (4, .val (.int .i64)), (5, .val (.int .i64))])])), (0, ([(0, .val .str), (4, .val (.int .i64))], [(.exit 0, []), (.ret, [(2, .val (.int .i64)), (3, .val (.int .i64))])]))], [], []⟩
theorem spec_ReadVar.ok : CtrOk Tryd.prog 59 spec_ReadVar.ctr := fn_sound (A := spec_ReadVar.ann) tabOk (EnvOk.cons (ctrs_cons spec_Var.ok ctrs_nil) EnvOk.nil) mixed (fn := Tryd.f59) (body := bodyOf Tryd.f59) Tryd.func59 (by kernel_rfl) (by kernel_rfl) (fun x => by kernel_rfl)

def spec_Fixed.sig : Sig := ⟨[.val (.int .i64), .val (.int .i64)], [.val .str]⟩
noncomputable def spec_Fixed.ctr : Ctr := ⟨spec_Fixed.sig, fun x => spec_Fixed.f x.1 x.2⟩
noncomputable def spec_Fixed.env : Env := [(18, [spec_l1In.ctr])]
def spec_Fixed.ann : Ann := ⟨[(0, ([(0, .val (.int .i64)), (1, .val (.int .i64)), (5, .val .str), (6, .val (.int .i64))], [(.exit 0, [(0, .val (.int .i64)), (5, .val .str)])]))], [], []⟩
theorem spec_Fixed.ok : CtrOk Tryd.prog 73 spec_Fixed.ctr := fn_sound (A := spec_Fixed.ann) tabOk (EnvOk.cons (ctrs_cons spec_l1In.ok ctrs_nil) EnvOk.nil) mixed (fn := Tryd.f73) (body := bodyOf Tryd.f73) Tryd.func73 (by kernel_rfl) (by kernel_rfl) (fun x => by kernel_rfl)

def spec_Crc.sig : Sig := ⟨[.val .str], [.val (.int .i64)]⟩
noncomputable def spec_Crc.ctr : Ctr := ⟨spec_Crc.sig, fun x => spec_Crc.f x⟩
noncomputable def spec_Crc.env : Env := []
def spec_Crc.ann : Ann := ⟨[(2, ([(0, .val .str), (3, .val (.int .i64)), (4, .val (.int .i64)), (5, .val (.int .i64))], [(.exit 2, [(0, .val .str), (3, .val (.int .i64)), (4, .val (.int .i64))])])), (0, ([(0, .val .str), (3, .val (.int .i64)), (4, .val (.int .i64))], [(.exit 0, [(3, .val (.int .i64))])]))], [], [(11, [(.normal, [(0, .val .str), (3, .val (.int .i64)), (4, .val (.int .i64)), (5, .val (.int .i64))])])]⟩
theorem spec_Crc.ok : CtrOk Tryd.prog 74 spec_Crc.ctr := fn_sound (A := spec_Crc.ann) tabOk EnvOk.nil mixed (fn := Tryd.f74) (body := bodyOf Tryd.f74) Tryd.func74 (by kernel_rfl) (by kernel_rfl) (fun x => by kernel_rfl)

def spec_Frame.sig : Sig := ⟨[.val .str], [.val .str]⟩
noncomputable def spec_Frame.ctr : Ctr := ⟨spec_Frame.sig, fun x => spec_Frame.f x⟩
noncomputable def spec_Frame.env : Env := [(72, [spec_Var.ctr]), (73, [spec_Fixed.ctr]), (74, [spec_Crc.ctr])]
def spec_Frame.ann : Ann := ⟨[], [], []⟩
theorem spec_Frame.ok : CtrOk Tryd.prog 60 spec_Frame.ctr := fn_sound (A := spec_Frame.ann) tabOk (EnvOk.cons (ctrs_cons spec_Var.ok ctrs_nil) (EnvOk.cons (ctrs_cons spec_Fixed.ok ctrs_nil) (EnvOk.cons (ctrs_cons spec_Crc.ok ctrs_nil) EnvOk.nil))) mixed (fn := Tryd.f60) (body := bodyOf Tryd.f60) Tryd.func60 (by kernel_rfl) (by kernel_rfl) (fun x => by kernel_rfl)

def spec_Unframe.sig : Sig := ⟨[.val .str], [.val .str, .val (.int .i64)]⟩
noncomputable def spec_Unframe.ctr : Ctr := ⟨spec_Unframe.sig, fun x => spec_Unframe.f x⟩
noncomputable def spec_Unframe.env : Env := [(59, [spec_ReadVar.ctr]), (60, [spec_Frame.ctr])]
def spec_Unframe.ann : Ann := ⟨[], [], []⟩
theorem spec_Unframe.ok : CtrOk Tryd.prog 45 spec_Unframe.ctr := fn_sound (A := spec_Unframe.ann) tabOk (EnvOk.cons (ctrs_cons spec_ReadVar.ok ctrs_nil) (EnvOk.cons (ctrs_cons spec_Frame.ok ctrs_nil) EnvOk.nil)) mixed (fn := Tryd.f45) (body := bodyOf Tryd.f45) Tryd.func45 (by kernel_rfl) (by kernel_rfl) (fun x => by kernel_rfl)

def spec_l5Text.sig : Sig := ⟨[.val .str], [.val .str, .val .str, .val .bool]⟩
noncomputable def spec_l5Text.ctr : Ctr := ⟨spec_l5Text.sig, fun x => spec_l5Text.f x⟩
noncomputable def spec_l5Text.env : Env := [(59, [spec_ReadVar.ctr])]
def spec_l5Text.ann : Ann := ⟨[], [], []⟩
theorem spec_l5Text.ok : CtrOk Tryd.prog 61 spec_l5Text.ctr := fn_sound (A := spec_l5Text.ann) tabOk (EnvOk.cons (ctrs_cons spec_ReadVar.ok ctrs_nil) EnvOk.nil) mixed (fn := Tryd.f61) (body := bodyOf Tryd.f61) Tryd.func61 (by kernel_rfl) (by kernel_rfl) (fun x => by kernel_rfl)

def spec_ReadFixed.sig : Sig := ⟨[.val .str, .val (.int .i64)], [.val (.int .i64), .val .bool]⟩
noncomputable def spec_ReadFixed.ctr : Ctr := ⟨spec_ReadFixed.sig, fun x => spec_ReadFixed.f x.1 x.2⟩
noncomputable def spec_ReadFixed.env : Env := [(18, [spec_l1In.ctr])]
def spec_ReadFixed.ann : Ann := ⟨[(0, ([(0, .val .str), (1, .val (.int .i64)), (6, .val (.int .i64)), (7, .val (.int .i64))], [(.exit 0, [(6, .val (.int .i64))])]))], [], []⟩
theorem spec_ReadFixed.ok : CtrOk Tryd.prog 62 spec_ReadFixed.ctr := fn_sound (A := spec_ReadFixed.ann) tabOk (EnvOk.cons (ctrs_cons spec_l1In.ok ctrs_nil) EnvOk.nil) mixed (fn := Tryd.f62) (body := bodyOf Tryd.f62) Tryd.func62 (by kernel_rfl) (by kernel_rfl) (fun x => by kernel_rfl)

def spec_RecOk.sig : Sig := ⟨[.val (.pair (.int .i64) (.pair (.int .i64) (.pair .str (.pair .str (.pair (.int .i64) (.int .i64))))))], [.val .bool]⟩
noncomputable def spec_RecOk.ctr : Ctr := ⟨spec_RecOk.sig, fun x => spec_RecOk.f x⟩
noncomputable def spec_RecOk.env : Env := [(18, [spec_l1In.ctr]), (42, [spec_KeyOk.ctr])]
def spec_RecOk.ann : Ann := ⟨[], [], [(1, [(.normal, [(1, .ptr (.pair (.int .i64) (.pair (.int .i64) (.pair .str (.pair .str (.pair (.int .i64) (.int .i64)))))))]), (.ret, [(2, .val .bool)])]), (4, [(.normal, [(1, .ptr (.pair (.int .i64) (.pair (.int .i64) (.pair .str (.pair .str (.pair (.int .i64) (.int .i64))))))), (18, .val (.int .i64)), (19, .val .bool)])])]⟩
theorem spec_RecOk.ok : CtrOk Tryd.prog 75 spec_RecOk.ctr := fn_sound (A := spec_RecOk.ann) tabOk (EnvOk.cons (ctrs_cons spec_l1In.ok ctrs_nil) (EnvOk.cons (ctrs_cons spec_KeyOk.ok ctrs_nil) EnvOk.nil)) mixed (fn := Tryd.f75) (body := bodyOf Tryd.f75) Tryd.func75 (by kernel_rfl) (by kernel_rfl) (fun x => by kernel_rfl)

def spec_ShowRec.sig : Sig := ⟨[.val (.pair (.int .i64) (.pair (.int .i64) (.pair .str (.pair .str (.pair (.int .i64) (.int .i64))))))], [.val .str]⟩
noncomputable def spec_ShowRec.ctr : Ctr := ⟨spec_ShowRec.sig, fun x => spec_ShowRec.f x⟩
noncomputable def spec_ShowRec.env : Env := [(72, [spec_Var.ctr]), (73, [spec_Fixed.ctr]), (75, [spec_RecOk.ctr])]
def spec_ShowRec.ann : Ann := ⟨[], [], [(5, [(.normal, [(1, .ptr (.pair (.int .i64) (.pair (.int .i64) (.pair .str (.pair .str (.pair (.int .i64) (.int .i64))))))), (3, .val .str), (15, .val (.int .i64)), (16, .val .bool)])])]⟩
theorem spec_ShowRec.ok : CtrOk Tryd.prog 63 spec_ShowRec.ctr := fn_sound (A := spec_ShowRec.ann) tabOk (EnvOk.cons (ctrs_cons spec_Var.ok ctrs_nil) (EnvOk.cons (ctrs_cons spec_Fixed.ok ctrs_nil) (EnvOk.cons (ctrs_cons spec_RecOk.ok ctrs_nil) EnvOk.nil))) mixed (fn := Tryd.f63) (body := bodyOf Tryd.f63) Tryd.func63 (by kernel_rfl) (by kernel_rfl) (fun x => by kernel_rfl)

def spec_ReadRec.sig : Sig := ⟨[.val .str], [.val (.pair (.int .i64) (.pair (.int .i64) (.pair .str (.pair .str (.pair (.int .i64) (.int .i64)))))), .val .bool]⟩
noncomputable def spec_ReadRec.ctr : Ctr := ⟨spec_ReadRec.sig, fun x => spec_ReadRec.f x⟩
noncomputable def spec_ReadRec.env : Env := [(59, [spec_ReadVar.ctr]), (61, [spec_l5Text.ctr]), (62, [spec_ReadFixed.ctr]), (63, [spec_ShowRec.ctr])]
def spec_ReadRec.ann : Ann := ⟨[], [(0, [(.normal, [(0, .val .str), (2, .ptr (.pair (.int .i64) (.pair (.int .i64) (.pair .str (.pair .str (.pair (.int .i64) (.int .i64))))))), (8, .ptr (.pair (.int .i64) (.pair (.int .i64) (.pair .str (.pair .str (.pair (.int .i64) (.int .i64)))))))])])], [(12, [(.normal, [(0, .val .str), (2, .ptr (.pair (.int .i64) (.pair (.int .i64) (.pair .str (.pair .str (.pair (.int .i64) (.int .i64))))))), (8, .ptr (.pair (.int .i64) (.pair (.int .i64) (.pair .str (.pair .str (.pair (.int .i64) (.int .i64))))))), (9, .val .str), (50, .val (.int .i64)), (67, .val .bool)])]), (18, [(.normal, [(0, .val .str), (2, .ptr (.pair (.int .i64) (.pair (.int .i64) (.pair .str (.pair .str (.pair (.int .i64) (.int .i64))))))), (8, .ptr (.pair (.int .i64) (.pair (.int .i64) (.pair .str (.pair .str (.pair (.int .i64) (.int .i64)))))))])])]⟩
theorem spec_ReadRec.ok : CtrOk Tryd.prog 46 spec_ReadRec.ctr := fn_sound (A := spec_ReadRec.ann) tabOk (EnvOk.cons (ctrs_cons spec_ReadVar.ok ctrs_nil) (EnvOk.cons (ctrs_cons spec_l5Text.ok ctrs_nil) (EnvOk.cons (ctrs_cons spec_ReadFixed.ok ctrs_nil) (EnvOk.cons (ctrs_cons spec_ShowRec.ok ctrs_nil) EnvOk.nil)))) mixed (fn := Tryd.f46) (body := bodyOf Tryd.f46) Tryd.func46 (by kernel_rfl) (by kernel_rfl) (fun x => by kernel_rfl)

def spec_ScanRecs.sig : Sig := ⟨[.val .str], [.val (.sl true (.pair (.int .i64) (.pair (.int .i64) (.pair (.int .i64) (.pair (.int .i64) (.pair .str (.pair .str (.pair (.int .i64) (.int .i64))))))))), .val (.int .i64)]⟩
noncomputable def spec_ScanRecs.ctr : Ctr := ⟨spec_ScanRecs.sig, fun x => spec_ScanRecs.f x⟩
noncomputable def spec_ScanRecs.env : Env := [(45, [spec_Unframe.ctr]), (46, [spec_ReadRec.ctr])]
def spec_ScanRecs.ann : Ann := ⟨[(0, ([(0, .val .str), (4, .val (.sl true (.pair (.int .i64) (.pair (.int .i64) (.pair (.int .i64) (.pair (.int .i64) (.pair .str (.pair .str (.pair (.int .i64) (.int .i64)))))))))), (5, .val (.int .i64))], [(.exit 0, [(4, .val (.sl true (.pair (.int .i64) (.pair (.int .i64) (.pair (.int .i64) (.pair (.int .i64) (.pair .str (.pair .str (.pair (.int .i64) (.int .i64)))))))))), (5, .val (.int .i64))]), (.ret, [(2, .val (.sl true (.pair (.int .i64) (.pair (.int .i64) (.pair (.int .i64) (.pair (.int .i64) (.pair .str (.pair .str (.pair (.int .i64) (.int .i64)))))))))), (3, .val (.int .i64))])]))], [], []⟩
theorem spec_ScanRecs.ok : CtrOk Tryd.prog 21 spec_ScanRecs.ctr := fn_sound (A := spec_ScanRecs.ann) tabOk (EnvOk.cons (ctrs_cons spec_Unframe.ok ctrs_nil) (EnvOk.cons (ctrs_cons spec_ReadRec.ok ctrs_nil) EnvOk.nil)) mixed (fn := Tryd.f21) (body := bodyOf Tryd.f21) Tryd.func21 (by kernel_rfl) (by kernel_rfl) (fun x => by kernel_rfl)

def spec_RecAt.sig : Sig := ⟨[.val .str, .val (.int .i64), .val (.int .i64)], [.val (.pair (.int .i64) (.pair (.int .i64) (.pair .str (.pair .str (.pair (.int .i64) (.int .i64)))))), .val .bool]⟩
noncomputable def spec_RecAt.ctr : Ctr := ⟨spec_RecAt.sig, fun x => spec_RecAt.f x.1 x.2.1 x.2.2⟩
noncomputable def spec_RecAt.env : Env := [(18, [spec_l1In.ctr]), (45, [spec_Unframe.ctr]), (46, [spec_ReadRec.ctr])]
def spec_RecAt.ann : Ann := ⟨[], [], []⟩
theorem spec_RecAt.ok : CtrOk Tryd.prog 22 spec_RecAt.ctr := fn_sound (A := spec_RecAt.ann) tabOk (EnvOk.cons (ctrs_cons spec_l1In.ok ctrs_nil) (EnvOk.cons (ctrs_cons spec_Unframe.ok ctrs_nil) (EnvOk.cons (ctrs_cons spec_ReadRec.ok ctrs_nil) EnvOk.nil))) mixed (fn := Tryd.f22) (body := bodyOf Tryd.f22) Tryd.func22 (by kernel_rfl) (by kernel_rfl) (fun x => by kernel_rfl)

def spec_StoreOk.sig : Sig := ⟨[.val (.pair (.pair (.int .i64) (.sl false (.int .i64))) (.pair (.sl false (.pair .str (.pair (.int .i64) (.pair (.int .i64) (.pair (.int .i64) (.int .i64)))))) (.pair (.int .i64) (.pair (.int .i64) (.int .i64))))), .val (.pair (.sl false (.pair .str (.pair .str (.int .i64)))) (.pair (.int .i64) (.pair (.int .i64) .bool)))], [.val .bool]⟩
noncomputable def spec_StoreOk.ctr : Ctr := ⟨spec_StoreOk.sig, fun x => spec_StoreOk.f x.1 x.2⟩
noncomputable def spec_StoreOk.env : Env := [(15, [spec_DiskOk.ctr]), (16, [spec_LiveOk.ctr]), (17, [spec_DirOk.ctr]), (18, [spec_l1In.ctr]), (19, [spec_FileText.ctr]), (20, [spec_SegName.ctr]), (21, [spec_ScanRecs.ctr]), (22, [spec_RecAt.ctr])]
def spec_StoreOk.ann : Ann := ⟨[(0, ([(2, .ptr (.pair (.pair (.int .i64) (.sl false (.int .i64))) (.pair (.sl false (.pair .str (.pair (.int .i64) (.pair (.int .i64) (.pair (.int .i64) (.int .i64)))))) (.pair (.int .i64) (.pair (.int .i64) (.int .i64)))))), (3, .ptr (.pair (.sl false (.pair .str (.pair .str (.int .i64)))) (.pair (.int .i64) (.pair (.int .i64) .bool)))), (5, .val (.int .i64))], [(.exit 0, [(2, .ptr (.pair (.pair (.int .i64) (.sl false (.int .i64))) (.pair (.sl false (.pair .str (.pair (.int .i64) (.pair (.int .i64) (.pair (.int .i64) (.int .i64)))))) (.pair (.int .i64) (.pair (.int .i64) (.int .i64)))))), (3, .ptr (.pair (.sl false (.pair .str (.pair .str (.int .i64)))) (.pair (.int .i64) (.pair (.int .i64) .bool))))]), (.ret, [(4, .val .bool)])])), (2, ([(2, .ptr (.pair (.pair (.int .i64) (.sl false (.int .i64))) (.pair (.sl false (.pair .str (.pair (.int .i64) (.pair (.int .i64) (.pair (.int .i64) (.int .i64)))))) (.pair (.int .i64) (.pair (.int .i64) (.int .i64)))))), (3, .ptr (.pair (.sl false (.pair .str (.pair .str (.int .i64)))) (.pair (.int .i64) (.pair (.int .i64) .bool)))), (10, .val (.int .i64))], [(.exit 2, []), (.ret, [(4, .val .bool)])]))], [], [(8, [(.normal, [(2, .ptr (.pair (.pair (.int .i64) (.sl false (.int .i64))) (.pair (.sl false (.pair .str (.pair (.int .i64) (.pair (.int .i64) (.pair (.int .i64) (.int .i64)))))) (.pair (.int .i64) (.pair (.int .i64) (.int .i64)))))), (3, .ptr (.pair (.sl false (.pair .str (.pair .str (.int .i64)))) (.pair (.int .i64) (.pair (.int .i64) .bool)))), (5, .val (.int .i64))]), (.ret, [(4, .val .bool)])]), (16, [(.normal, [(2, .ptr (.pair (.pair (.int .i64) (.sl false (.int .i64))) (.pair (.sl false (.pair .str (.pair (.int .i64) (.pair (.int .i64) (.pair (.int .i64) (.int .i64)))))) (.pair (.int .i64) (.pair (.int .i64) (.int .i64)))))), (3, .ptr (.pair (.sl false (.pair .str (.pair .str (.int .i64)))) (.pair (.int .i64) (.pair (.int .i64) .bool)))), (10, .val (.int .i64))]), (.ret, [(4, .val .bool)])])]⟩
theorem spec_StoreOk.ok : CtrOk Tryd.prog 6 spec_StoreOk.ctr := fn_sound (A := spec_StoreOk.ann) tabOk (EnvOk.cons (ctrs_cons spec_DiskOk.ok ctrs_nil) (EnvOk.cons (ctrs_cons spec_LiveOk.ok ctrs_nil) (EnvOk.cons (ctrs_cons spec_DirOk.ok ctrs_nil) (EnvOk.cons (ctrs_cons spec_l1In.ok ctrs_nil) (EnvOk.cons (ctrs_cons spec_FileText.ok ctrs_nil) (EnvOk.cons (ctrs_cons spec_SegName.ok ctrs_nil) (EnvOk.cons (ctrs_cons spec_ScanRecs.ok ctrs_nil) (EnvOk.cons (ctrs_cons spec_RecAt.ok ctrs_nil) EnvOk.nil)))))))) mixed (fn := Tryd.f6) (body := bodyOf Tryd.f6) Tryd.func6 (by kernel_rfl) (by kernel_rfl) (fun x => by kernel_rfl)

def laws_toIntS.sig : Sig := ⟨[.val (.sl false (.int .i64))], [.val (.sl true (.int .i64))]⟩
noncomputable def laws_toIntS.ctr : Ctr := ⟨laws_toIntS.sig, fun x => laws_toIntS.f x⟩
noncomputable def laws_toIntS.env : Env := []
def laws_toIntS.ann : Ann := ⟨[(0, ([(0, .val (.sl false (.int .i64))), (3, .val (.sl true (.int .i64))), (4, .val (.int .i64))], [(.exit 0, [(3, .val (.sl true (.int .i64)))])]))], [], []⟩
theorem laws_toIntS.ok : CtrOk Tryd.prog 47 laws_toIntS.ctr := fn_sound (A := laws_toIntS.ann) tabOk EnvOk.nil mixed (fn := Tryd.f47) (body := bodyOf Tryd.f47) Tryd.func47 (by kernel_rfl) (by kernel_rfl) (fun x => by kernel_rfl)

def laws_toLive.sig : Sig := ⟨[.val (.pair (.int .i64) (.sl false (.int .i64)))], [.val (.pair (.int .i64) (.sl true (.int .i64)))]⟩
noncomputable def laws_toLive.ctr : Ctr := ⟨laws_toLive.sig, fun x => laws_toLive.f x⟩
noncomputable def laws_toLive.env : Env := [(47, [laws_toIntS.ctr])]
def laws_toLive.ann : Ann := ⟨[], [], []⟩
theorem laws_toLive.ok : CtrOk Tryd.prog 23 laws_toLive.ctr := fn_sound (A := laws_toLive.ann) tabOk (EnvOk.cons (ctrs_cons laws_toIntS.ok ctrs_nil) EnvOk.nil) mixed (fn := Tryd.f23) (body := bodyOf Tryd.f23) Tryd.func23 (by kernel_rfl) (by kernel_rfl) (fun x => by kernel_rfl)

def laws_toEntry.sig : Sig := ⟨[.val (.pair .str (.pair (.int .i64) (.pair (.int .i64) (.pair (.int .i64) (.int .i64)))))], [.val (.pair .str (.pair (.int .i64) (.pair (.int .i64) (.pair (.int .i64) (.int .i64)))))]⟩
noncomputable def laws_toEntry.ctr : Ctr := ⟨laws_toEntry.sig, fun x => laws_toEntry.f x⟩
noncomputable def laws_toEntry.env : Env := []
def laws_toEntry.ann : Ann := ⟨[], [], []⟩
theorem laws_toEntry.ok : CtrOk Tryd.prog 48 laws_toEntry.ctr := fn_sound (A := laws_toEntry.ann) tabOk EnvOk.nil mixed (fn := Tryd.f48) (body := bodyOf Tryd.f48) Tryd.func48 (by kernel_rfl) (by kernel_rfl) (fun x => by kernel_rfl)

def laws_toEntryS.sig : Sig := ⟨[.val (.sl false (.pair .str (.pair (.int .i64) (.pair (.int .i64) (.pair (.int .i64) (.int .i64))))))], [.val (.sl true (.pair .str (.pair (.int .i64) (.pair (.int .i64) (.pair (.int .i64) (.int .i64))))))]⟩
noncomputable def laws_toEntryS.ctr : Ctr := ⟨laws_toEntryS.sig, fun x => laws_toEntryS.f x⟩
noncomputable def laws_toEntryS.env : Env := [(48, [laws_toEntry.ctr])]
def laws_toEntryS.ann : Ann := ⟨[(0, ([(0, .val (.sl false (.pair .str (.pair (.int .i64) (.pair (.int .i64) (.pair (.int .i64) (.int .i64))))))), (3, .val (.sl true (.pair .str (.pair (.int .i64) (.pair (.int .i64) (.pair (.int .i64) (.int .i64))))))), (4, .val (.int .i64))], [(.exit 0, [(3, .val (.sl true (.pair .str (.pair (.int .i64) (.pair (.int .i64) (.pair (.int .i64) (.int .i64)))))))])]))], [], []⟩
theorem laws_toEntryS.ok : CtrOk Tryd.prog 24 laws_toEntryS.ctr := fn_sound (A := laws_toEntryS.ann) tabOk (EnvOk.cons (ctrs_cons laws_toEntry.ok ctrs_nil) EnvOk.nil) mixed (fn := Tryd.f24) (body := bodyOf Tryd.f24) Tryd.func24 (by kernel_rfl) (by kernel_rfl) (fun x => by kernel_rfl)

def laws_toStore.sig : Sig := ⟨[.val (.pair (.pair (.int .i64) (.sl false (.int .i64))) (.pair (.sl false (.pair .str (.pair (.int .i64) (.pair (.int .i64) (.pair (.int .i64) (.int .i64)))))) (.pair (.int .i64) (.pair (.int .i64) (.int .i64)))))], [.val (.pair (.pair (.int .i64) (.sl true (.int .i64))) (.pair (.sl true (.pair .str (.pair (.int .i64) (.pair (.int .i64) (.pair (.int .i64) (.int .i64)))))) (.pair (.int .i64) (.pair (.int .i64) (.int .i64)))))]⟩
noncomputable def laws_toStore.ctr : Ctr := ⟨laws_toStore.sig, fun x => laws_toStore.f x⟩
noncomputable def laws_toStore.env : Env := [(23, [laws_toLive.ctr]), (24, [laws_toEntryS.ctr])]
def laws_toStore.ann : Ann := ⟨[], [], []⟩
theorem laws_toStore.ok : CtrOk Tryd.prog 7 laws_toStore.ctr := fn_sound (A := laws_toStore.ann) tabOk (EnvOk.cons (ctrs_cons laws_toLive.ok ctrs_nil) (EnvOk.cons (ctrs_cons laws_toEntryS.ok ctrs_nil) EnvOk.nil)) mixed (fn := Tryd.f7) (body := bodyOf Tryd.f7) Tryd.func7 (by kernel_rfl) (by kernel_rfl) (fun x => by kernel_rfl)

def laws_toFile.sig : Sig := ⟨[.val (.pair .str (.pair .str (.int .i64)))], [.val (.pair .str (.pair .str (.int .i64)))]⟩
noncomputable def laws_toFile.ctr : Ctr := ⟨laws_toFile.sig, fun x => laws_toFile.f x⟩
noncomputable def laws_toFile.env : Env := []
def laws_toFile.ann : Ann := ⟨[], [], []⟩
theorem laws_toFile.ok : CtrOk Tryd.prog 49 laws_toFile.ctr := fn_sound (A := laws_toFile.ann) tabOk EnvOk.nil mixed (fn := Tryd.f49) (body := bodyOf Tryd.f49) Tryd.func49 (by kernel_rfl) (by kernel_rfl) (fun x => by kernel_rfl)

def laws_toFileS.sig : Sig := ⟨[.val (.sl false (.pair .str (.pair .str (.int .i64))))], [.val (.sl true (.pair .str (.pair .str (.int .i64))))]⟩
noncomputable def laws_toFileS.ctr : Ctr := ⟨laws_toFileS.sig, fun x => laws_toFileS.f x⟩
noncomputable def laws_toFileS.env : Env := [(49, [laws_toFile.ctr])]
def laws_toFileS.ann : Ann := ⟨[(0, ([(0, .val (.sl false (.pair .str (.pair .str (.int .i64))))), (3, .val (.sl true (.pair .str (.pair .str (.int .i64))))), (4, .val (.int .i64))], [(.exit 0, [(3, .val (.sl true (.pair .str (.pair .str (.int .i64)))))])]))], [], []⟩
theorem laws_toFileS.ok : CtrOk Tryd.prog 25 laws_toFileS.ctr := fn_sound (A := laws_toFileS.ann) tabOk (EnvOk.cons (ctrs_cons laws_toFile.ok ctrs_nil) EnvOk.nil) mixed (fn := Tryd.f25) (body := bodyOf Tryd.f25) Tryd.func25 (by kernel_rfl) (by kernel_rfl) (fun x => by kernel_rfl)

def laws_toDisk.sig : Sig := ⟨[.val (.pair (.sl false (.pair .str (.pair .str (.int .i64)))) (.pair (.int .i64) (.pair (.int .i64) .bool)))], [.val (.pair (.sl true (.pair .str (.pair .str (.int .i64)))) (.pair (.int .i64) (.pair (.int .i64) .bool)))]⟩
noncomputable def laws_toDisk.ctr : Ctr := ⟨laws_toDisk.sig, fun x => laws_toDisk.f x⟩
noncomputable def laws_toDisk.env : Env := [(25, [laws_toFileS.ctr])]
def laws_toDisk.ann : Ann := ⟨[], [], []⟩
theorem laws_toDisk.ok : CtrOk Tryd.prog 8 laws_toDisk.ctr := fn_sound (A := laws_toDisk.ann) tabOk (EnvOk.cons (ctrs_cons laws_toFileS.ok ctrs_nil) EnvOk.nil) mixed (fn := Tryd.f8) (body := bodyOf Tryd.f8) Tryd.func8 (by kernel_rfl) (by kernel_rfl) (fun x => by kernel_rfl)

def impl_in.sig : Sig := ⟨[.val (.int .i64), .val (.int .i64), .val (.int .i64)], [.val .bool]⟩
noncomputable def impl_in.ctr : Ctr := ⟨impl_in.sig, fun x => impl_in.f x.1 x.2.1 x.2.2⟩
noncomputable def impl_in.env : Env := []
def impl_in.ann : Ann := ⟨[], [], []⟩
theorem impl_in.ok : CtrOk Tryd.prog 29 impl_in.ctr := fn_sound (A := impl_in.ann) tabOk EnvOk.nil mixed (fn := Tryd.f29) (body := bodyOf Tryd.f29) Tryd.func29 (by kernel_rfl) (by kernel_rfl) (fun x => by kernel_rfl)

def impl_NameOk.sig : Sig := ⟨[.val .str], [.val .bool]⟩
noncomputable def impl_NameOk.ctr : Ctr := ⟨impl_NameOk.sig, fun x => impl_NameOk.f x⟩
noncomputable def impl_NameOk.env : Env := [(29, [impl_in.ctr])]
def impl_NameOk.ann : Ann := ⟨[(0, ([(0, .val .str), (3, .val (.int .i64))], [(.exit 0, [(0, .val .str)]), (.ret, [(2, .val .bool)])]))], [], [(4, [(.normal, [(0, .val .str), (3, .val (.int .i64))]), (.ret, [(2, .val .bool)])])]⟩
theorem impl_NameOk.ok : CtrOk Tryd.prog 50 impl_NameOk.ctr := fn_sound (A := impl_NameOk.ann) tabOk (EnvOk.cons (ctrs_cons impl_in.ok ctrs_nil) EnvOk.nil) mixed (fn := Tryd.f50) (body := bodyOf Tryd.f50) Tryd.func50 (by kernel_rfl) (by kernel_rfl) (fun x => by kernel_rfl)

def impl_DiskOk.sig : Sig := ⟨[.val (.pair (.sl false (.pair .str (.pair .str (.int .i64)))) (.pair (.int .i64) (.pair (.int .i64) .bool)))], [.val .bool]⟩
noncomputable def impl_DiskOk.ctr : Ctr := ⟨impl_DiskOk.sig, fun x => impl_DiskOk.f x⟩
noncomputable def impl_DiskOk.env : Env := [(29, [impl_in.ctr]), (50, [impl_NameOk.ctr])]
def impl_DiskOk.ann : Ann := ⟨[(0, ([(1, .ptr (.pair (.sl false (.pair .str (.pair .str (.int .i64)))) (.pair (.int .i64) (.pair (.int .i64) .bool)))), (3, .val (.int .i64)), (23, .val (.sl false (.pair .str (.pair .str (.int .i64))))), (24, .val (.int .i64)), (25, .val (.int .i64))], [(.exit 0, [(1, .ptr (.pair (.sl false (.pair .str (.pair .str (.int .i64)))) (.pair (.int .i64) (.pair (.int .i64) .bool)))), (3, .val (.int .i64))]), (.ret, [(2, .val .bool)])]))], [], [(7, [(.normal, [(1, .ptr (.pair (.sl false (.pair .str (.pair .str (.int .i64)))) (.pair (.int .i64) (.pair (.int .i64) .bool)))), (3, .val (.int .i64)), (5, .ptr (.pair .str (.pair .str (.int .i64)))), (23, .val (.sl false (.pair .str (.pair .str (.int .i64))))), (24, .val (.int .i64)), (25, .val (.int .i64))]), (.ret, [(2, .val .bool)])])]⟩
theorem impl_DiskOk.ok : CtrOk Tryd.prog 26 impl_DiskOk.ctr := fn_sound (A := impl_DiskOk.ann) tabOk (EnvOk.cons (ctrs_cons impl_in.ok ctrs_nil) (EnvOk.cons (ctrs_cons impl_NameOk.ok ctrs_nil) EnvOk.nil)) mixed (fn := Tryd.f26) (body := bodyOf Tryd.f26) Tryd.func26 (by kernel_rfl) (by kernel_rfl) (fun x => by kernel_rfl)

def impl_LiveOk.sig : Sig := ⟨[.val (.pair (.int .i64) (.sl false (.int .i64)))], [.val .bool]⟩
noncomputable def impl_LiveOk.ctr : Ctr := ⟨impl_LiveOk.sig, fun x => impl_LiveOk.f x⟩
noncomputable def impl_LiveOk.env : Env := [(29, [impl_in.ctr])]
def impl_LiveOk.ann : Ann := ⟨[(0, ([(1, .ptr (.pair (.int .i64) (.sl false (.int .i64)))), (6, .val (.sl false (.int .i64))), (7, .val (.int .i64)), (8, .val (.int .i64))], [(.exit 0, [(1, .ptr (.pair (.int .i64) (.sl false (.int .i64))))]), (.ret, [(2, .val .bool)])]))], [], [(4, [(.normal, [(1, .ptr (.pair (.int .i64) (.sl false (.int .i64)))), (6, .val (.sl false (.int .i64))), (7, .val (.int .i64)), (8, .val (.int .i64))]), (.ret, [(2, .val .bool)])])]⟩
theorem impl_LiveOk.ok : CtrOk Tryd.prog 27 impl_LiveOk.ctr := fn_sound (A := impl_LiveOk.ann) tabOk (EnvOk.cons (ctrs_cons impl_in.ok ctrs_nil) EnvOk.nil) mixed (fn := Tryd.f27) (body := bodyOf Tryd.f27) Tryd.func27 (by kernel_rfl) (by kernel_rfl) (fun x => by kernel_rfl)

def impl_KeyOk.sig : Sig := ⟨[.val .str], [.val .bool]⟩
noncomputable def impl_KeyOk.ctr : Ctr := ⟨impl_KeyOk.sig, fun x => impl_KeyOk.f x⟩
noncomputable def impl_KeyOk.env : Env := [(29, [impl_in.ctr])]
def impl_KeyOk.ann : Ann := ⟨[], [], []⟩
theorem impl_KeyOk.ok : CtrOk Tryd.prog 51 impl_KeyOk.ctr := fn_sound (A := impl_KeyOk.ann) tabOk (EnvOk.cons (ctrs_cons impl_in.ok ctrs_nil) EnvOk.nil) mixed (fn := Tryd.f51) (body := bodyOf Tryd.f51) Tryd.func51 (by kernel_rfl) (by kernel_rfl) (fun x => by kernel_rfl)

def impl_DirOk.sig : Sig := ⟨[.val (.sl false (.pair .str (.pair (.int .i64) (.pair (.int .i64) (.pair (.int .i64) (.int .i64))))))], [.val .bool]⟩
noncomputable def impl_DirOk.ctr : Ctr := ⟨impl_DirOk.sig, fun x => impl_DirOk.f x⟩
noncomputable def impl_DirOk.env : Env := [(29, [impl_in.ctr]), (51, [impl_KeyOk.ctr])]
def impl_DirOk.ann : Ann := ⟨[(0, ([(0, .val (.sl false (.pair .str (.pair (.int .i64) (.pair (.int .i64) (.pair (.int .i64) (.int .i64))))))), (5, .val (.sl false (.pair .str (.pair (.int .i64) (.pair (.int .i64) (.pair (.int .i64) (.int .i64))))))), (6, .val (.int .i64)), (7, .val (.int .i64))], [(.exit 0, [(0, .val (.sl false (.pair .str (.pair (.int .i64) (.pair (.int .i64) (.pair (.int .i64) (.int .i64)))))))]), (.ret, [(2, .val .bool)])]))], [], [(4, [(.normal, [(0, .val (.sl false (.pair .str (.pair (.int .i64) (.pair (.int .i64) (.pair (.int .i64) (.int .i64))))))), (5, .val (.sl false (.pair .str (.pair (.int .i64) (.pair (.int .i64) (.pair (.int .i64) (.int .i64))))))), (6, .val (.int .i64)), (7, .val (.int .i64))]), (.ret, [(2, .val .bool)])])]⟩
theorem impl_DirOk.ok : CtrOk Tryd.prog 28 impl_DirOk.ctr := fn_sound (A := impl_DirOk.ann) tabOk (EnvOk.cons (ctrs_cons impl_in.ok ctrs_nil) (EnvOk.cons (ctrs_cons impl_KeyOk.ok ctrs_nil) EnvOk.nil)) mixed (fn := Tryd.f28) (body := bodyOf Tryd.f28) Tryd.func28 (by kernel_rfl) (by kernel_rfl) (fun x => by kernel_rfl)

def impl_fileAt.sig : Sig := ⟨[.val (.pair (.sl false (.pair .str (.pair .str (.int .i64)))) (.pair (.int .i64) (.pair (.int .i64) .bool))), .val .str], [.val (.int .i64)]⟩
noncomputable def impl_fileAt.ctr : Ctr := ⟨impl_fileAt.sig, fun x => impl_fileAt.f x.1 x.2⟩
noncomputable def impl_fileAt.env : Env := []
def impl_fileAt.ann : Ann := ⟨[(0, ([(1, .val .str), (8, .val (.sl false (.pair .str (.pair .str (.int .i64))))), (9, .val (.int .i64)), (10, .val (.int .i64))], [(.exit 0, []), (.ret, [(4, .val (.int .i64))])]))], [], []⟩
theorem impl_fileAt.ok : CtrOk Tryd.prog 52 impl_fileAt.ctr := fn_sound (A := impl_fileAt.ann) tabOk EnvOk.nil mixed (fn := Tryd.f52) (body := bodyOf Tryd.f52) Tryd.func52 (by kernel_rfl) (by kernel_rfl) (fun x => by kernel_rfl)

def impl_FileText.sig : Sig := ⟨[.val (.pair (.sl false (.pair .str (.pair .str (.int .i64)))) (.pair (.int .i64) (.pair (.int .i64) .bool))), .val .str], [.val .str, .val .bool]⟩
noncomputable def impl_FileText.ctr : Ctr := ⟨impl_FileText.sig, fun x => impl_FileText.f x.1 x.2⟩
noncomputable def impl_FileText.env : Env := [(26, [impl_DiskOk.ctr]), (52, [impl_fileAt.ctr])]
def impl_FileText.ann : Ann := ⟨[], [], []⟩
theorem impl_FileText.ok : CtrOk Tryd.prog 30 impl_FileText.ctr := fn_sound (A := impl_FileText.ann) tabOk (EnvOk.cons (ctrs_cons impl_DiskOk.ok ctrs_nil) (EnvOk.cons (ctrs_cons impl_fileAt.ok ctrs_nil) EnvOk.nil)) mixed (fn := Tryd.f30) (body := bodyOf Tryd.f30) Tryd.func30 (by kernel_rfl) (by kernel_rfl) (fun x => by kernel_rfl)

noncomputable def strconv_Itoa.ctr : Ctr := itoaCtr
theorem strconv_Itoa.ok : CtrOk Tryd.prog 76 strconv_Itoa.ctr := itoa_ok Tryd.func76 (by kernel_rfl) (by kernel_rfl) fun n h0 h1 w hL => (Tryd.strconv_Itoa n h0 h1 w hL).mono fun e w' ⟨he, k, os, hw⟩ => ⟨he, hw ▸ below_grow _ w (Nat.le_refl _) k os⟩

def impl_Dec.sig : Sig := ⟨[.val (.int .i64)], [.val .str]⟩
noncomputable def impl_Dec.ctr : Ctr := ⟨impl_Dec.sig, fun x => impl_Dec.f x⟩
noncomputable def impl_Dec.env : Env := [(76, [strconv_Itoa.ctr])]
def impl_Dec.ann : Ann := ⟨[], [], []⟩
theorem impl_Dec.ok : CtrOk Tryd.prog 64 impl_Dec.ctr := fn_sound (A := impl_Dec.ann) tabOk (EnvOk.cons (ctrs_cons strconv_Itoa.ok ctrs_nil) EnvOk.nil) mixed (fn := Tryd.f64) (body := bodyOf Tryd.f64) Tryd.func64 (by kernel_rfl) (by kernel_rfl) (fun x => by kernel_rfl)

def impl_named.sig : Sig := ⟨[.val .str, .val (.int .i64)], [.val .str]⟩
noncomputable def impl_named.ctr : Ctr := ⟨impl_named.sig, fun x => impl_named.f x.1 x.2⟩
noncomputable def impl_named.env : Env := [(29, [impl_in.ctr]), (64, [impl_Dec.ctr])]
def impl_named.ann : Ann := ⟨[], [], []⟩
theorem impl_named.ok : CtrOk Tryd.prog 53 impl_named.ctr := fn_sound (A := impl_named.ann) tabOk (EnvOk.cons (ctrs_cons impl_in.ok ctrs_nil) (EnvOk.cons (ctrs_cons impl_Dec.ok ctrs_nil) EnvOk.nil)) mixed (fn := Tryd.f53) (body := bodyOf Tryd.f53) Tryd.func53 (by kernel_rfl) (by kernel_rfl) (fun x => by kernel_rfl)

def impl_SegName.sig : Sig := ⟨[.val (.int .i64)], [.val .str]⟩
noncomputable def impl_SegName.ctr : Ctr := ⟨impl_SegName.sig, fun x => impl_SegName.f x⟩
noncomputable def impl_SegName.env : Env := [(53, [impl_named.ctr])]
def impl_SegName.ann : Ann := ⟨[], [], []⟩
theorem impl_SegName.ok : CtrOk Tryd.prog 31 impl_SegName.ctr := fn_sound (A := impl_SegName.ann) tabOk (EnvOk.cons (ctrs_cons impl_named.ok ctrs_nil) EnvOk.nil) mixed (fn := Tryd.f31) (body := bodyOf Tryd.f31) Tryd.func31 (by kernel_rfl) (by kernel_rfl) (fun x => by kernel_rfl)

def impl_ReadVar.sig : Sig := ⟨[.val .str], [.val (.int .i64), .val (.int .i64)]⟩
noncomputable def impl_ReadVar.ctr : Ctr := ⟨impl_ReadVar.sig, fun x => impl_ReadVar.f x⟩
noncomputable def impl_ReadVar.env : Env := []
def impl_ReadVar.ann : Ann := ⟨[(0, ([(0, .val .str), (4, .val (.int .i64)), (5, .val (.int .i64))], [(.exit 0, []), (.ret, [(2, .val (.int .i64)), (3, .val (.int .i64))])]))], [], [(8, [(.normal, [(4, .val (.int .i64)), (5, .val (.int .i64))]), (.ret, [(2, .val (.int .i64)), (3, .val (.int .i64))])])]⟩
theorem impl_ReadVar.ok : CtrOk Tryd.prog 65 impl_ReadVar.ctr := fn_sound (A := impl_ReadVar.ann) tabOk EnvOk.nil mixed (fn := Tryd.f65) (body := bodyOf Tryd.f65) Tryd.func65 (by kernel_rfl) (by kernel_rfl) (fun x => by kernel_rfl)

def impl_Var.sig : Sig := ⟨[.val (.int .i64)], [.val .str]⟩
noncomputable def impl_Var.ctr : Ctr := ⟨impl_Var.sig, fun x => impl_Var.f x⟩
noncomputable def impl_Var.env : Env := [(29, [impl_in.ctr])]
def impl_Var.ann : Ann := ⟨[(0, ([(0, .val (.int .i64)), (3, .val (.sl true (.int .u8)))], [(.exit 0, [(0, .val (.int .i64)), (3, .val (.sl true (.int .u8)))])]))], [], []⟩
theorem impl_Var.ok : CtrOk Tryd.prog 81 impl_Var.ctr := fn_sound (A := impl_Var.ann) tabOk (EnvOk.cons (ctrs_cons impl_in.ok ctrs_nil) EnvOk.nil) mixed (fn := Tryd.f81) (body := bodyOf Tryd.f81) Tryd.func81 (by kernel_rfl) (by kernel_rfl) (fun x => by kernel_rfl)

def impl_textOf.sig : Sig := ⟨[.val .str], [.val .str]⟩
noncomputable def impl_textOf.ctr : Ctr := ⟨impl_textOf.sig, fun x => impl_textOf.f x⟩
noncomputable def impl_textOf.env : Env := [(81, [impl_Var.ctr])]
def impl_textOf.ann : Ann := ⟨[], [], []⟩
theorem impl_textOf.ok : CtrOk Tryd.prog 77 impl_textOf.ctr := fn_sound (A := impl_textOf.ann) tabOk (EnvOk.cons (ctrs_cons impl_Var.ok ctrs_nil) EnvOk.nil) mixed (fn := Tryd.f77) (body := bodyOf Tryd.f77) Tryd.func77 (by kernel_rfl) (by kernel_rfl) (fun x => by kernel_rfl)

def impl_Fixed.sig : Sig := ⟨[.val (.int .i64), .val (.int .i64)], [.val .str]⟩
noncomputable def impl_Fixed.ctr : Ctr := ⟨impl_Fixed.sig, fun x => impl_Fixed.f x.1 x.2⟩
noncomputable def impl_Fixed.env : Env := [(29, [impl_in.ctr])]
def impl_Fixed.ann : Ann := ⟨[(0, ([(0, .val (.int .i64)), (5, .val (.sl true (.int .u8))), (6, .val (.int .i64))], [(.exit 0, [(5, .val (.sl true (.int .u8)))])]))], [], []⟩
theorem impl_Fixed.ok : CtrOk Tryd.prog 78 impl_Fixed.ctr := fn_sound (A := impl_Fixed.ann) tabOk (EnvOk.cons (ctrs_cons impl_in.ok ctrs_nil) EnvOk.nil) mixed (fn := Tryd.f78) (body := bodyOf Tryd.f78) Tryd.func78 (by kernel_rfl) (by kernel_rfl) (fun x => by kernel_rfl)

def impl_Crc.sig : Sig := ⟨[.val .str], [.val (.int .i64)]⟩
noncomputable def impl_Crc.ctr : Ctr := ⟨impl_Crc.sig, fun x => impl_Crc.f x⟩
noncomputable def impl_Crc.env : Env := []
def impl_Crc.ann : Ann := ⟨[(2, ([(0, .val .str), (3, .val (.int .u32)), (4, .val (.int .i64)), (18, .val (.int .i64))], [(.exit 2, [(0, .val .str), (3, .val (.int .u32)), (4, .val (.int .i64))])])), (0, ([(0, .val .str), (3, .val (.int .u32)), (4, .val (.int .i64))], [(.exit 0, [(3, .val (.int .u32))])]))], [], [(10, [(.normal, [(0, .val .str), (3, .val (.int .u32)), (4, .val (.int .i64)), (18, .val (.int .i64))])])]⟩
theorem impl_Crc.ok : CtrOk Tryd.prog 79 impl_Crc.ctr := fn_sound (A := impl_Crc.ann) tabOk EnvOk.nil mixed (fn := Tryd.f79) (body := bodyOf Tryd.f79) Tryd.func79 (by kernel_rfl) (by kernel_rfl) (fun x => by kernel_rfl)

def impl_Frame.sig : Sig := ⟨[.val .str], [.val .str]⟩
noncomputable def impl_Frame.ctr : Ctr := ⟨impl_Frame.sig, fun x => impl_Frame.f x⟩
noncomputable def impl_Frame.env : Env := [(77, [impl_textOf.ctr]), (78, [impl_Fixed.ctr]), (79, [impl_Crc.ctr])]
def impl_Frame.ann : Ann := ⟨[], [], []⟩
theorem impl_Frame.ok : CtrOk Tryd.prog 66 impl_Frame.ctr := fn_sound (A := impl_Frame.ann) tabOk (EnvOk.cons (ctrs_cons impl_textOf.ok ctrs_nil) (EnvOk.cons (ctrs_cons impl_Fixed.ok ctrs_nil) (EnvOk.cons (ctrs_cons impl_Crc.ok ctrs_nil) EnvOk.nil))) mixed (fn := Tryd.f66) (body := bodyOf Tryd.f66) Tryd.func66 (by kernel_rfl) (by kernel_rfl) (fun x => by kernel_rfl)

def impl_Unframe.sig : Sig := ⟨[.val .str], [.val .str, .val (.int .i64)]⟩
noncomputable def impl_Unframe.ctr : Ctr := ⟨impl_Unframe.sig, fun x => impl_Unframe.f x⟩
noncomputable def impl_Unframe.env : Env := [(65, [impl_ReadVar.ctr]), (66, [impl_Frame.ctr])]
def impl_Unframe.ann : Ann := ⟨[], [], []⟩
theorem impl_Unframe.ok : CtrOk Tryd.prog 54 impl_Unframe.ctr := fn_sound (A := impl_Unframe.ann) tabOk (EnvOk.cons (ctrs_cons impl_ReadVar.ok ctrs_nil) (EnvOk.cons (ctrs_cons impl_Frame.ok ctrs_nil) EnvOk.nil)) mixed (fn := Tryd.f54) (body := bodyOf Tryd.f54) Tryd.func54 (by kernel_rfl) (by kernel_rfl) (fun x => by kernel_rfl)

def impl_scanner_num.sig : Sig := ⟨[.ptr (.pair .str .bool)], [.val (.int .i64)]⟩
noncomputable def impl_scanner_num.ctr : Ctr := ⟨impl_scanner_num.sig, fun x => impl_scanner_num.f x⟩
noncomputable def impl_scanner_num.env : Env := [(65, [impl_ReadVar.ctr])]
def impl_scanner_num.ann : Ann := ⟨[], [], []⟩
theorem impl_scanner_num.ok : CtrOk Tryd.prog 67 impl_scanner_num.ctr := fn_sound (A := impl_scanner_num.ann) tabOk (EnvOk.cons (ctrs_cons impl_ReadVar.ok ctrs_nil) EnvOk.nil) mixed (fn := Tryd.f67) (body := bodyOf Tryd.f67) Tryd.func67 (by kernel_rfl) (by kernel_rfl) (fun x => by kernel_rfl)

def impl_scanner_bytes.sig : Sig := ⟨[.ptr (.pair .str .bool), .val (.int .i64)], [.val .str]⟩
noncomputable def impl_scanner_bytes.ctr : Ctr := ⟨impl_scanner_bytes.sig, fun x => impl_scanner_bytes.f x.1 x.2⟩
noncomputable def impl_scanner_bytes.env : Env := []
def impl_scanner_bytes.ann : Ann := ⟨[], [], []⟩
theorem impl_scanner_bytes.ok : CtrOk Tryd.prog 70 impl_scanner_bytes.ctr := fn_sound (A := impl_scanner_bytes.ann) tabOk EnvOk.nil mixed (fn := Tryd.f70) (body := bodyOf Tryd.f70) Tryd.func70 (by kernel_rfl) (by kernel_rfl) (fun x => by kernel_rfl)

def impl_scanner_text.sig : Sig := ⟨[.ptr (.pair .str .bool)], [.val .str]⟩
noncomputable def impl_scanner_text.ctr : Ctr := ⟨impl_scanner_text.sig, fun x => impl_scanner_text.f x⟩
noncomputable def impl_scanner_text.env : Env := [(67, [impl_scanner_num.ctr]), (70, [impl_scanner_bytes.ctr])]
def impl_scanner_text.ann : Ann := ⟨[], [], []⟩
theorem impl_scanner_text.ok : CtrOk Tryd.prog 68 impl_scanner_text.ctr := fn_sound (A := impl_scanner_text.ann) tabOk (EnvOk.cons (ctrs_cons impl_scanner_num.ok ctrs_nil) (EnvOk.cons (ctrs_cons impl_scanner_bytes.ok ctrs_nil) EnvOk.nil)) mixed (fn := Tryd.f68) (body := bodyOf Tryd.f68) Tryd.func68 (by kernel_rfl) (by kernel_rfl) (fun x => by kernel_rfl)

def impl_ReadFixed.sig : Sig := ⟨[.val .str, .val (.int .i64)], [.val (.int .i64), .val .bool]⟩
noncomputable def impl_ReadFixed.ctr : Ctr := ⟨impl_ReadFixed.sig, fun x => impl_ReadFixed.f x.1 x.2⟩
noncomputable def impl_ReadFixed.env : Env := [(29, [impl_in.ctr])]
def impl_ReadFixed.ann : Ann := ⟨[(0, ([(0, .val .str), (6, .val (.int .i64)), (17, .val (.int .i64)), (18, .val (.int .i64))], [(.exit 0, [(6, .val (.int .i64))])]))], [], []⟩
theorem impl_ReadFixed.ok : CtrOk Tryd.prog 69 impl_ReadFixed.ctr := fn_sound (A := impl_ReadFixed.ann) tabOk (EnvOk.cons (ctrs_cons impl_in.ok ctrs_nil) EnvOk.nil) mixed (fn := Tryd.f69) (body := bodyOf Tryd.f69) Tryd.func69 (by kernel_rfl) (by kernel_rfl) (fun x => by kernel_rfl)

def impl_RecOk.sig : Sig := ⟨[.val (.pair (.int .i64) (.pair (.int .i64) (.pair .str (.pair .str (.pair (.int .i64) (.int .i64))))))], [.val .bool]⟩
noncomputable def impl_RecOk.ctr : Ctr := ⟨impl_RecOk.sig, fun x => impl_RecOk.f x⟩
noncomputable def impl_RecOk.env : Env := [(29, [impl_in.ctr]), (51, [impl_KeyOk.ctr])]
def impl_RecOk.ann : Ann := ⟨[], [], [(4, [(.normal, [(1, .ptr (.pair (.int .i64) (.pair (.int .i64) (.pair .str (.pair .str (.pair (.int .i64) (.int .i64))))))), (3, .ptr (.pair (.int .i64) (.pair (.int .i64) (.pair .str (.pair .str (.pair (.int .i64) (.int .i64))))))), (4, .val .bool), (5, .val (.int .i64)), (12, .val (.int .i64)), (13, .val .bool)])])]⟩
theorem impl_RecOk.ok : CtrOk Tryd.prog 71 impl_RecOk.ctr := fn_sound (A := impl_RecOk.ann) tabOk (EnvOk.cons (ctrs_cons impl_in.ok ctrs_nil) (EnvOk.cons (ctrs_cons impl_KeyOk.ok ctrs_nil) EnvOk.nil)) mixed (fn := Tryd.f71) (body := bodyOf Tryd.f71) Tryd.func71 (by kernel_rfl) (by kernel_rfl) (fun x => by kernel_rfl)

def impl_ReadRec.sig : Sig := ⟨[.val .str], [.val (.pair (.int .i64) (.pair (.int .i64) (.pair .str (.pair .str (.pair (.int .i64) (.int .i64)))))), .val .bool]⟩
noncomputable def impl_ReadRec.ctr : Ctr := ⟨impl_ReadRec.sig, fun x => impl_ReadRec.f x⟩
noncomputable def impl_ReadRec.env : Env := [(67, [impl_scanner_num.ctr]), (68, [impl_scanner_text.ctr]), (69, [impl_ReadFixed.ctr]), (70, [impl_scanner_bytes.ctr]), (71, [impl_RecOk.ctr])]
def impl_ReadRec.ann : Ann := ⟨[], [(0, [(.normal, [(2, .ptr (.pair (.int .i64) (.pair (.int .i64) (.pair .str (.pair .str (.pair (.int .i64) (.int .i64))))))), (4, .ptr (.pair .str .bool)), (5, .ptr (.pair (.int .i64) (.pair (.int .i64) (.pair .str (.pair .str (.pair (.int .i64) (.int .i64)))))))])])], [(8, [(.normal, [(2, .ptr (.pair (.int .i64) (.pair (.int .i64) (.pair .str (.pair .str (.pair (.int .i64) (.int .i64))))))), (4, .ptr (.pair .str .bool)), (5, .ptr (.pair (.int .i64) (.pair (.int .i64) (.pair .str (.pair .str (.pair (.int .i64) (.int .i64))))))), (16, .val (.int .i64)), (27, .val .bool)])]), (12, [(.normal, [(2, .ptr (.pair (.int .i64) (.pair (.int .i64) (.pair .str (.pair .str (.pair (.int .i64) (.int .i64))))))), (4, .ptr (.pair .str .bool)), (5, .ptr (.pair (.int .i64) (.pair (.int .i64) (.pair .str (.pair .str (.pair (.int .i64) (.int .i64)))))))])])]⟩
theorem impl_ReadRec.ok : CtrOk Tryd.prog 55 impl_ReadRec.ctr := fn_sound (A := impl_ReadRec.ann) tabOk (EnvOk.cons (ctrs_cons impl_scanner_num.ok ctrs_nil) (EnvOk.cons (ctrs_cons impl_scanner_text.ok ctrs_nil) (EnvOk.cons (ctrs_cons impl_ReadFixed.ok ctrs_nil) (EnvOk.cons (ctrs_cons impl_scanner_bytes.ok ctrs_nil) (EnvOk.cons (ctrs_cons impl_RecOk.ok ctrs_nil) EnvOk.nil))))) mixed (fn := Tryd.f55) (body := bodyOf Tryd.f55) Tryd.func55 (by kernel_rfl) (by kernel_rfl) (fun x => by kernel_rfl)

def impl_ScanRecs.sig : Sig := ⟨[.val .str], [.val (.sl true (.pair (.int .i64) (.pair (.int .i64) (.pair (.int .i64) (.pair (.int .i64) (.pair .str (.pair .str (.pair (.int .i64) (.int .i64))))))))), .val (.int .i64)]⟩
noncomputable def impl_ScanRecs.ctr : Ctr := ⟨impl_ScanRecs.sig, fun x => impl_ScanRecs.f x⟩
noncomputable def impl_ScanRecs.env : Env := [(54, [impl_Unframe.ctr]), (55, [impl_ReadRec.ctr])]
def impl_ScanRecs.ann : Ann := ⟨[(0, ([(0, .val .str), (4, .val (.sl true (.pair (.int .i64) (.pair (.int .i64) (.pair (.int .i64) (.pair (.int .i64) (.pair .str (.pair .str (.pair (.int .i64) (.int .i64)))))))))), (5, .val (.int .i64))], [(.ret, [(2, .val (.sl true (.pair (.int .i64) (.pair (.int .i64) (.pair (.int .i64) (.pair (.int .i64) (.pair .str (.pair .str (.pair (.int .i64) (.int .i64)))))))))), (3, .val (.int .i64))])]))], [], []⟩
theorem impl_ScanRecs.ok : CtrOk Tryd.prog 32 impl_ScanRecs.ctr := fn_sound (A := impl_ScanRecs.ann) tabOk (EnvOk.cons (ctrs_cons impl_Unframe.ok ctrs_nil) (EnvOk.cons (ctrs_cons impl_ReadRec.ok ctrs_nil) EnvOk.nil)) mixed (fn := Tryd.f32) (body := bodyOf Tryd.f32) Tryd.func32 (by kernel_rfl) (by kernel_rfl) (fun x => by kernel_rfl)

def impl_RecAt.sig : Sig := ⟨[.val .str, .val (.int .i64), .val (.int .i64)], [.val (.pair (.int .i64) (.pair (.int .i64) (.pair .str (.pair .str (.pair (.int .i64) (.int .i64)))))), .val .bool]⟩
noncomputable def impl_RecAt.ctr : Ctr := ⟨impl_RecAt.sig, fun x => impl_RecAt.f x.1 x.2.1 x.2.2⟩
noncomputable def impl_RecAt.env : Env := [(29, [impl_in.ctr]), (54, [impl_Unframe.ctr]), (55, [impl_ReadRec.ctr])]
def impl_RecAt.ann : Ann := ⟨[], [], []⟩
theorem impl_RecAt.ok : CtrOk Tryd.prog 33 impl_RecAt.ctr := fn_sound (A := impl_RecAt.ann) tabOk (EnvOk.cons (ctrs_cons impl_in.ok ctrs_nil) (EnvOk.cons (ctrs_cons impl_Unframe.ok ctrs_nil) (EnvOk.cons (ctrs_cons impl_ReadRec.ok ctrs_nil) EnvOk.nil))) mixed (fn := Tryd.f33) (body := bodyOf Tryd.f33) Tryd.func33 (by kernel_rfl) (by kernel_rfl) (fun x => by kernel_rfl)

def impl_StoreOk.sig : Sig := ⟨[.val (.pair (.pair (.int .i64) (.sl false (.int .i64))) (.pair (.sl false (.pair .str (.pair (.int .i64) (.pair (.int .i64) (.pair (.int .i64) (.int .i64)))))) (.pair (.int .i64) (.pair (.int .i64) (.int .i64))))), .val (.pair (.sl false (.pair .str (.pair .str (.int .i64)))) (.pair (.int .i64) (.pair (.int .i64) .bool)))], [.val .bool]⟩
noncomputable def impl_StoreOk.ctr : Ctr := ⟨impl_StoreOk.sig, fun x => impl_StoreOk.f x.1 x.2⟩
noncomputable def impl_StoreOk.env : Env := [(26, [impl_DiskOk.ctr]), (27, [impl_LiveOk.ctr]), (28, [impl_DirOk.ctr]), (29, [impl_in.ctr]), (30, [impl_FileText.ctr]), (31, [impl_SegName.ctr]), (32, [impl_ScanRecs.ctr]), (33, [impl_RecAt.ctr])]
def impl_StoreOk.ann : Ann := ⟨[(0, ([(2, .ptr (.pair (.pair (.int .i64) (.sl false (.int .i64))) (.pair (.sl false (.pair .str (.pair (.int .i64) (.pair (.int .i64) (.pair (.int .i64) (.int .i64)))))) (.pair (.int .i64) (.pair (.int .i64) (.int .i64)))))), (3, .ptr (.pair (.sl false (.pair .str (.pair .str (.int .i64)))) (.pair (.int .i64) (.pair (.int .i64) .bool)))), (40, .val (.sl false (.int .i64))), (41, .val (.int .i64)), (42, .val (.int .i64))], [(.exit 0, [(2, .ptr (.pair (.pair (.int .i64) (.sl false (.int .i64))) (.pair (.sl false (.pair .str (.pair (.int .i64) (.pair (.int .i64) (.pair (.int .i64) (.int .i64)))))) (.pair (.int .i64) (.pair (.int .i64) (.int .i64)))))), (3, .ptr (.pair (.sl false (.pair .str (.pair .str (.int .i64)))) (.pair (.int .i64) (.pair (.int .i64) .bool))))]), (.ret, [(4, .val .bool)])])), (2, ([(2, .ptr (.pair (.pair (.int .i64) (.sl false (.int .i64))) (.pair (.sl false (.pair .str (.pair (.int .i64) (.pair (.int .i64) (.pair (.int .i64) (.int .i64)))))) (.pair (.int .i64) (.pair (.int .i64) (.int .i64)))))), (3, .ptr (.pair (.sl false (.pair .str (.pair .str (.int .i64)))) (.pair (.int .i64) (.pair (.int .i64) .bool)))), (84, .val (.sl false (.pair .str (.pair (.int .i64) (.pair (.int .i64) (.pair (.int .i64) (.int .i64))))))), (85, .val (.int .i64)), (86, .val (.int .i64))], [(.exit 2, []), (.ret, [(4, .val .bool)])]))], [], [(8, [(.normal, [(2, .ptr (.pair (.pair (.int .i64) (.sl false (.int .i64))) (.pair (.sl false (.pair .str (.pair (.int .i64) (.pair (.int .i64) (.pair (.int .i64) (.int .i64)))))) (.pair (.int .i64) (.pair (.int .i64) (.int .i64)))))), (3, .ptr (.pair (.sl false (.pair .str (.pair .str (.int .i64)))) (.pair (.int .i64) (.pair (.int .i64) .bool)))), (40, .val (.sl false (.int .i64))), (41, .val (.int .i64)), (42, .val (.int .i64))]), (.ret, [(4, .val .bool)])]), (16, [(.normal, [(2, .ptr (.pair (.pair (.int .i64) (.sl false (.int .i64))) (.pair (.sl false (.pair .str (.pair (.int .i64) (.pair (.int .i64) (.pair (.int .i64) (.int .i64)))))) (.pair (.int .i64) (.pair (.int .i64) (.int .i64)))))), (3, .ptr (.pair (.sl false (.pair .str (.pair .str (.int .i64)))) (.pair (.int .i64) (.pair (.int .i64) .bool)))), (84, .val (.sl false (.pair .str (.pair (.int .i64) (.pair (.int .i64) (.pair (.int .i64) (.int .i64))))))), (85, .val (.int .i64)), (86, .val (.int .i64))]), (.ret, [(4, .val .bool)])])]⟩
theorem impl_StoreOk.ok : CtrOk Tryd.prog 9 impl_StoreOk.ctr := fn_sound (A := impl_StoreOk.ann) tabOk (EnvOk.cons (ctrs_cons impl_DiskOk.ok ctrs_nil) (EnvOk.cons (ctrs_cons impl_LiveOk.ok ctrs_nil) (EnvOk.cons (ctrs_cons impl_DirOk.ok ctrs_nil) (EnvOk.cons (ctrs_cons impl_in.ok ctrs_nil) (EnvOk.cons (ctrs_cons impl_FileText.ok ctrs_nil) (EnvOk.cons (ctrs_cons impl_SegName.ok ctrs_nil) (EnvOk.cons (ctrs_cons impl_ScanRecs.ok ctrs_nil) (EnvOk.cons (ctrs_cons impl_RecAt.ok ctrs_nil) EnvOk.nil)))))))) mixed (fn := Tryd.f9) (body := bodyOf Tryd.f9) Tryd.func9 (by kernel_rfl) (by kernel_rfl) (fun x => by kernel_rfl)

def laws_eqIntS.sig : Sig := ⟨[.val (.sl false (.int .i64)), .val (.sl false (.int .i64))], [.val .bool]⟩
noncomputable def laws_eqIntS.ctr : Ctr := ⟨laws_eqIntS.sig, fun x => laws_eqIntS.f x.1 x.2⟩
noncomputable def laws_eqIntS.env : Env := []
def laws_eqIntS.ann : Ann := ⟨[(0, ([(0, .val (.sl false (.int .i64))), (1, .val (.sl false (.int .i64))), (5, .val (.int .i64))], [(.exit 0, []), (.ret, [(4, .val .bool)])]))], [], []⟩
theorem laws_eqIntS.ok : CtrOk Tryd.prog 56 laws_eqIntS.ctr := fn_sound (A := laws_eqIntS.ann) tabOk EnvOk.nil mixed (fn := Tryd.f56) (body := bodyOf Tryd.f56) Tryd.func56 (by kernel_rfl) (by kernel_rfl) (fun x => by kernel_rfl)

def laws_eqLive.sig : Sig := ⟨[.val (.pair (.int .i64) (.sl false (.int .i64))), .val (.pair (.int .i64) (.sl false (.int .i64)))], [.val .bool]⟩
noncomputable def laws_eqLive.ctr : Ctr := ⟨laws_eqLive.sig, fun x => laws_eqLive.f x.1 x.2⟩
noncomputable def laws_eqLive.env : Env := [(56, [laws_eqIntS.ctr])]
def laws_eqLive.ann : Ann := ⟨[], [], []⟩
theorem laws_eqLive.ok : CtrOk Tryd.prog 34 laws_eqLive.ctr := fn_sound (A := laws_eqLive.ann) tabOk (EnvOk.cons (ctrs_cons laws_eqIntS.ok ctrs_nil) EnvOk.nil) mixed (fn := Tryd.f34) (body := bodyOf Tryd.f34) Tryd.func34 (by kernel_rfl) (by kernel_rfl) (fun x => by kernel_rfl)

def laws_eqEntry.sig : Sig := ⟨[.val (.pair .str (.pair (.int .i64) (.pair (.int .i64) (.pair (.int .i64) (.int .i64))))), .val (.pair .str (.pair (.int .i64) (.pair (.int .i64) (.pair (.int .i64) (.int .i64)))))], [.val .bool]⟩
noncomputable def laws_eqEntry.ctr : Ctr := ⟨laws_eqEntry.sig, fun x => laws_eqEntry.f x.1 x.2⟩
noncomputable def laws_eqEntry.env : Env := []
def laws_eqEntry.ann : Ann := ⟨[], [], []⟩
theorem laws_eqEntry.ok : CtrOk Tryd.prog 57 laws_eqEntry.ctr := fn_sound (A := laws_eqEntry.ann) tabOk EnvOk.nil mixed (fn := Tryd.f57) (body := bodyOf Tryd.f57) Tryd.func57 (by kernel_rfl) (by kernel_rfl) (fun x => by kernel_rfl)

def laws_eqEntryS.sig : Sig := ⟨[.val (.sl false (.pair .str (.pair (.int .i64) (.pair (.int .i64) (.pair (.int .i64) (.int .i64)))))), .val (.sl false (.pair .str (.pair (.int .i64) (.pair (.int .i64) (.pair (.int .i64) (.int .i64))))))], [.val .bool]⟩
noncomputable def laws_eqEntryS.ctr : Ctr := ⟨laws_eqEntryS.sig, fun x => laws_eqEntryS.f x.1 x.2⟩
noncomputable def laws_eqEntryS.env : Env := [(57, [laws_eqEntry.ctr])]
def laws_eqEntryS.ann : Ann := ⟨[(0, ([(0, .val (.sl false (.pair .str (.pair (.int .i64) (.pair (.int .i64) (.pair (.int .i64) (.int .i64))))))), (1, .val (.sl false (.pair .str (.pair (.int .i64) (.pair (.int .i64) (.pair (.int .i64) (.int .i64))))))), (5, .val (.int .i64))], [(.exit 0, []), (.ret, [(4, .val .bool)])]))], [], []⟩
theorem laws_eqEntryS.ok : CtrOk Tryd.prog 35 laws_eqEntryS.ctr := fn_sound (A := laws_eqEntryS.ann) tabOk (EnvOk.cons (ctrs_cons laws_eqEntry.ok ctrs_nil) EnvOk.nil) mixed (fn := Tryd.f35) (body := bodyOf Tryd.f35) Tryd.func35 (by kernel_rfl) (by kernel_rfl) (fun x => by kernel_rfl)

def laws_eqStore.sig : Sig := ⟨[.val (.pair (.pair (.int .i64) (.sl false (.int .i64))) (.pair (.sl false (.pair .str (.pair (.int .i64) (.pair (.int .i64) (.pair (.int .i64) (.int .i64)))))) (.pair (.int .i64) (.pair (.int .i64) (.int .i64))))), .val (.pair (.pair (.int .i64) (.sl false (.int .i64))) (.pair (.sl false (.pair .str (.pair (.int .i64) (.pair (.int .i64) (.pair (.int .i64) (.int .i64)))))) (.pair (.int .i64) (.pair (.int .i64) (.int .i64)))))], [.val .bool]⟩
noncomputable def laws_eqStore.ctr : Ctr := ⟨laws_eqStore.sig, fun x => laws_eqStore.f x.1 x.2⟩
noncomputable def laws_eqStore.env : Env := [(34, [laws_eqLive.ctr]), (35, [laws_eqEntryS.ctr])]
def laws_eqStore.ann : Ann := ⟨[], [], []⟩
theorem laws_eqStore.ok : CtrOk Tryd.prog 10 laws_eqStore.ctr := fn_sound (A := laws_eqStore.ann) tabOk (EnvOk.cons (ctrs_cons laws_eqLive.ok ctrs_nil) (EnvOk.cons (ctrs_cons laws_eqEntryS.ok ctrs_nil) EnvOk.nil)) mixed (fn := Tryd.f10) (body := bodyOf Tryd.f10) Tryd.func10 (by kernel_rfl) (by kernel_rfl) (fun x => by kernel_rfl)

def laws_eqFile.sig : Sig := ⟨[.val (.pair .str (.pair .str (.int .i64))), .val (.pair .str (.pair .str (.int .i64)))], [.val .bool]⟩
noncomputable def laws_eqFile.ctr : Ctr := ⟨laws_eqFile.sig, fun x => laws_eqFile.f x.1 x.2⟩
noncomputable def laws_eqFile.env : Env := []
def laws_eqFile.ann : Ann := ⟨[], [], []⟩
theorem laws_eqFile.ok : CtrOk Tryd.prog 58 laws_eqFile.ctr := fn_sound (A := laws_eqFile.ann) tabOk EnvOk.nil mixed (fn := Tryd.f58) (body := bodyOf Tryd.f58) Tryd.func58 (by kernel_rfl) (by kernel_rfl) (fun x => by kernel_rfl)

def laws_eqFileS.sig : Sig := ⟨[.val (.sl false (.pair .str (.pair .str (.int .i64)))), .val (.sl false (.pair .str (.pair .str (.int .i64))))], [.val .bool]⟩
noncomputable def laws_eqFileS.ctr : Ctr := ⟨laws_eqFileS.sig, fun x => laws_eqFileS.f x.1 x.2⟩
noncomputable def laws_eqFileS.env : Env := [(58, [laws_eqFile.ctr])]
def laws_eqFileS.ann : Ann := ⟨[(0, ([(0, .val (.sl false (.pair .str (.pair .str (.int .i64))))), (1, .val (.sl false (.pair .str (.pair .str (.int .i64))))), (5, .val (.int .i64))], [(.exit 0, []), (.ret, [(4, .val .bool)])]))], [], []⟩
theorem laws_eqFileS.ok : CtrOk Tryd.prog 36 laws_eqFileS.ctr := fn_sound (A := laws_eqFileS.ann) tabOk (EnvOk.cons (ctrs_cons laws_eqFile.ok ctrs_nil) EnvOk.nil) mixed (fn := Tryd.f36) (body := bodyOf Tryd.f36) Tryd.func36 (by kernel_rfl) (by kernel_rfl) (fun x => by kernel_rfl)

def laws_eqDisk.sig : Sig := ⟨[.val (.pair (.sl false (.pair .str (.pair .str (.int .i64)))) (.pair (.int .i64) (.pair (.int .i64) .bool))), .val (.pair (.sl false (.pair .str (.pair .str (.int .i64)))) (.pair (.int .i64) (.pair (.int .i64) .bool)))], [.val .bool]⟩
noncomputable def laws_eqDisk.ctr : Ctr := ⟨laws_eqDisk.sig, fun x => laws_eqDisk.f x.1 x.2⟩
noncomputable def laws_eqDisk.env : Env := [(36, [laws_eqFileS.ctr])]
def laws_eqDisk.ann : Ann := ⟨[], [], []⟩
theorem laws_eqDisk.ok : CtrOk Tryd.prog 11 laws_eqDisk.ctr := fn_sound (A := laws_eqDisk.ann) tabOk (EnvOk.cons (ctrs_cons laws_eqFileS.ok ctrs_nil) EnvOk.nil) mixed (fn := Tryd.f11) (body := bodyOf Tryd.f11) Tryd.func11 (by kernel_rfl) (by kernel_rfl) (fun x => by kernel_rfl)

def laws_FnExactStoreOk.sig : Sig := ⟨[.val (.pair (.pair (.int .i64) (.sl false (.int .i64))) (.pair (.sl false (.pair .str (.pair (.int .i64) (.pair (.int .i64) (.pair (.int .i64) (.int .i64)))))) (.pair (.int .i64) (.pair (.int .i64) (.int .i64))))), .val (.pair (.sl false (.pair .str (.pair .str (.int .i64)))) (.pair (.int .i64) (.pair (.int .i64) .bool)))], [.val .bool]⟩
noncomputable def laws_FnExactStoreOk.ctr : Ctr := ⟨laws_FnExactStoreOk.sig, fun x => laws_FnExactStoreOk.f x.1 x.2⟩
noncomputable def laws_FnExactStoreOk.env : Env := [(4, [laws_szStore.ctr]), (5, [laws_szDisk.ctr]), (6, [spec_StoreOk.ctr]), (7, [laws_toStore.ctr]), (8, [laws_toDisk.ctr]), (9, [impl_StoreOk.ctr]), (10, [laws_eqStore.ctr]), (11, [laws_eqDisk.ctr])]
def laws_FnExactStoreOk.ann : Ann := ⟨[], [], []⟩
theorem laws_FnExactStoreOk.ok : CtrOk Tryd.prog 3 laws_FnExactStoreOk.ctr := fn_sound (A := laws_FnExactStoreOk.ann) tabOk (EnvOk.cons (ctrs_cons laws_szStore.ok ctrs_nil) (EnvOk.cons (ctrs_cons laws_szDisk.ok ctrs_nil) (EnvOk.cons (ctrs_cons spec_StoreOk.ok ctrs_nil) (EnvOk.cons (ctrs_cons laws_toStore.ok ctrs_nil) (EnvOk.cons (ctrs_cons laws_toDisk.ok ctrs_nil) (EnvOk.cons (ctrs_cons impl_StoreOk.ok ctrs_nil) (EnvOk.cons (ctrs_cons laws_eqStore.ok ctrs_nil) (EnvOk.cons (ctrs_cons laws_eqDisk.ok ctrs_nil) EnvOk.nil)))))))) mixed (fn := Tryd.f3) (body := bodyOf Tryd.f3) Tryd.func3 (by kernel_rfl) (by kernel_rfl) (fun x => by kernel_rfl)

end Go.Proofs.YtfmhfenmkognbaaDoor
