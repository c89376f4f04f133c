/- Each function of the program that FnExactMerge reaches comes to its plain function. -/
import Derived.Test.YtljiidpfgfkhcaaGreatDoorShelf
import Derived.Lib.AppendIntMem
import Derived.Test.YtljiidpfgfkhcaaGreatDoorRf5
import Derived.Test.YtljiidpfgfkhcaaGreatDoorXMergeFns
import Derived.Test.YtljiidpfgfkhcaaGreatDoorProg
namespace Go.Proofs.YtljiidpfgfkhcaaGreatDoor
open Go Go.Rf Go.Rf.G Go.Proofs Go.Lib
set_option maxRecDepth 100000
def bodyOf (f : Func) : Code := f.body.getD .skip
def tab : Tab := [(3, ⟨(.int .i64), false, [], none, 8, false⟩),
  (4, ⟨.bool, false, [], none, 1, false⟩),
  (5, ⟨(.int .u8), false, [], none, 1, false⟩),
  (9, ⟨.str, false, [], none, 16, false⟩),
  (22, ⟨(.sl true (.int .i64)), false, [], some 3, 24, false⟩),
  (24, ⟨(.pair (.int .i64) (.sl true (.int .i64))), true, [(0, 1, false), (1, 1, false)], none, 32, false⟩),
  (25, ⟨(.sl true (.pair .str (.pair (.int .i64) (.pair (.int .i64) (.pair (.int .i64) (.int .i64)))))), false, [], some 104, 24, false⟩),
  (27, ⟨(.pair (.pair (.int .i64) (.sl true (.int .i64))) (.pair (.sl true (.pair .str (.pair (.int .i64) (.pair (.int .i64) (.pair (.int .i64) (.int .i64)))))) (.pair (.int .i64) (.pair (.int .i64) (.int .i64))))), true, [(0, 2, true), (2, 1, false), (3, 1, false), (4, 1, false), (5, 1, false)], none, 80, false⟩),
  (28, ⟨(.sl true (.pair .str (.pair .str (.int .i64)))), false, [], some 107, 24, false⟩),
  (30, ⟨(.pair (.sl true (.pair .str (.pair .str (.int .i64)))) (.pair (.int .i64) (.pair (.int .i64) .bool))), true, [(0, 1, false), (1, 1, false), (2, 1, false), (3, 1, false)], none, 48, false⟩),
  (33, ⟨(.sl true (.pair .str (.pair .str (.int .i64)))), false, [], some 66, 24, false⟩),
  (36, ⟨(.pair (.int .i64) (.sl true (.int .i64))), true, [(0, 1, false), (1, 1, false)], none, 32, false⟩),
  (37, ⟨(.sl true (.pair .str (.pair (.int .i64) (.pair (.int .i64) (.pair (.int .i64) (.int .i64)))))), false, [], some 70, 24, false⟩),
  (39, ⟨(.pair (.pair (.int .i64) (.sl true (.int .i64))) (.pair (.sl true (.pair .str (.pair (.int .i64) (.pair (.int .i64) (.pair (.int .i64) (.int .i64)))))) (.pair (.int .i64) (.pair (.int .i64) (.int .i64))))), true, [(0, 2, true), (2, 1, false), (3, 1, false), (4, 1, false), (5, 1, false)], none, 80, false⟩),
  (41, ⟨(.sl true (.pair .str (.pair .str (.int .i64)))), false, [], some 118, 24, false⟩),
  (43, ⟨(.pair (.sl true (.pair .str (.pair .str (.int .i64)))) (.pair (.int .i64) (.pair (.int .i64) .bool))), true, [(0, 1, false), (1, 1, false), (2, 1, false), (3, 1, false)], none, 48, false⟩),
  (66, ⟨(.pair .str (.pair .str (.int .i64))), true, [(0, 1, false), (1, 1, false), (2, 1, false)], none, 40, true⟩),
  (70, ⟨(.pair .str (.pair (.int .i64) (.pair (.int .i64) (.pair (.int .i64) (.int .i64))))), true, [(0, 1, false), (1, 1, false), (2, 1, false), (3, 1, false), (4, 1, false)], none, 48, true⟩),
  (74, ⟨(.sl true .str), false, [], some 9, 24, false⟩),
  (89, ⟨(.pair (.pair (.sl true (.pair .str (.pair .str (.int .i64)))) (.pair (.int .i64) (.pair (.int .i64) .bool))) (.int .i64)), true, [(0, 4, true), (4, 1, false)], none, 56, false⟩),
  (104, ⟨(.pair .str (.pair (.int .i64) (.pair (.int .i64) (.pair (.int .i64) (.int .i64))))), true, [(0, 1, false), (1, 1, false), (2, 1, false), (3, 1, false), (4, 1, false)], none, 48, true⟩),
  (107, ⟨(.pair .str (.pair .str (.int .i64))), true, [(0, 1, false), (1, 1, false), (2, 1, false)], none, 40, true⟩),
  (113, ⟨(.pair (.int .i64) (.pair (.int .i64) (.pair .str (.pair .str (.pair (.int .i64) (.int .i64)))))), true, [(0, 1, false), (1, 1, false), (2, 1, false), (3, 1, false), (4, 1, false), (5, 1, false)], none, 64, true⟩),
  (118, ⟨(.pair .str (.pair .str (.int .i64))), true, [(0, 1, false), (1, 1, false), (2, 1, false)], none, 40, true⟩),
  (123, ⟨(.sl true (.int .u8)), false, [], some 5, 24, false⟩),
  (128, ⟨(.sl true (.pair (.int .i64) (.pair (.int .i64) (.pair (.int .i64) (.pair (.int .i64) (.pair .str (.pair .str (.pair (.int .i64) (.int .i64))))))))), false, [], some 177, 24, false⟩),
  (147, ⟨(.sl true (.pair (.int .i64) (.pair (.int .i64) (.pair .str (.pair .str (.pair (.int .i64) (.int .i64))))))), false, [], some 113, 24, false⟩),
  (149, ⟨(.pair (.int .i64) (.pair (.int .i64) (.pair (.int .i64) (.pair (.int .i64) (.pair (.int .i64) (.pair .str (.pair .str (.pair (.int .i64) (.int .i64))))))))), true, [(0, 1, false), (1, 1, false), (2, 1, false), (3, 6, true)], none, 88, true⟩),
  (162, ⟨(.pair (.int .i64) (.pair (.int .i64) (.sl true (.pair .str (.pair (.int .i64) (.pair (.int .i64) (.pair (.int .i64) (.int .i64)))))))), true, [(0, 1, false), (1, 1, false), (2, 1, false)], none, 40, false⟩),
  (177, ⟨(.pair (.int .i64) (.pair (.int .i64) (.pair (.int .i64) (.pair (.int .i64) (.pair .str (.pair .str (.pair (.int .i64) (.int .i64)))))))), true, [(0, 1, false), (1, 1, false), (2, 6, true)], none, 80, true⟩),
  (197, ⟨(.pair .str .bool), true, [(0, 1, false), (1, 1, false)], none, 24, true⟩),
  (207, ⟨(.sl true (.pair (.int .i64) (.pair (.int .i64) (.pair (.int .i64) (.pair (.int .i64) (.pair (.int .i64) (.pair .str (.pair .str (.pair (.int .i64) (.int .i64)))))))))), false, [], some 149, 24, false⟩),
  (211, ⟨(.int .u32), false, [], none, 4, false⟩)]
theorem tabOk : TabOk Tryz.prog tab := Rf.tabOk (by kernel_rfl)
theorem mixed : Tryz.prog.follows .mixedOrders = true := by kernel_rfl
instance laid : Laid := tabLaid Tryz.prog "internal/strconv.uint64pow10" .u64 Lib.pow10Tab
def laws_szIntS.sig : Sig := ⟨[.val (.sl false (.int .i64)), .val (.int .i64)], [.val (.int .i64)]⟩
noncomputable def laws_szIntS.ctr : Ctr := ⟨laws_szIntS.sig, fun x => laws_szIntS.f x.1 x.2⟩
noncomputable def laws_szIntS.env : Env := []
def laws_szIntS.ann : Ann := ⟨[], [], []⟩
theorem laws_szIntS.ok : CtrOk Tryz.prog 71 laws_szIntS.ctr := fn_sound (A := laws_szIntS.ann) tabOk EnvOk.nil mixed (fn := Tryz.f71) (body := bodyOf Tryz.f71) Tryz.func71 (by kernel_rfl) (by kernel_rfl) (fun x => by kernel_rfl)

def laws_szLive.sig : Sig := ⟨[.val (.pair (.int .i64) (.sl false (.int .i64))), .val (.int .i64)], [.val (.int .i64)]⟩
noncomputable def laws_szLive.ctr : Ctr := ⟨laws_szLive.sig, fun x => laws_szLive.f x.1 x.2⟩
noncomputable def laws_szLive.env : Env := [(71, [laws_szIntS.ctr])]
def laws_szLive.ann : Ann := ⟨[], [], []⟩
theorem laws_szLive.ok : CtrOk Tryz.prog 32 laws_szLive.ctr := fn_sound (A := laws_szLive.ann) tabOk (EnvOk.cons (ctrs_cons laws_szIntS.ok ctrs_nil) EnvOk.nil) mixed (fn := Tryz.f32) (body := bodyOf Tryz.f32) Tryz.func32 (by kernel_rfl) (by kernel_rfl) (fun x => by kernel_rfl)

def laws_szEntry.sig : Sig := ⟨[.val (.pair .str (.pair (.int .i64) (.pair (.int .i64) (.pair (.int .i64) (.int .i64))))), .val (.int .i64)], [.val (.int .i64)]⟩
noncomputable def laws_szEntry.ctr : Ctr := ⟨laws_szEntry.sig, fun x => laws_szEntry.f x.1 x.2⟩
noncomputable def laws_szEntry.env : Env := []
def laws_szEntry.ann : Ann := ⟨[], [], []⟩
theorem laws_szEntry.ok : CtrOk Tryz.prog 72 laws_szEntry.ctr := fn_sound (A := laws_szEntry.ann) tabOk EnvOk.nil mixed (fn := Tryz.f72) (body := bodyOf Tryz.f72) Tryz.func72 (by kernel_rfl) (by kernel_rfl) (fun x => by kernel_rfl)

def laws_szEntryS.sig : Sig := ⟨[.val (.sl false (.pair .str (.pair (.int .i64) (.pair (.int .i64) (.pair (.int .i64) (.int .i64)))))), .val (.int .i64)], [.val (.int .i64)]⟩
noncomputable def laws_szEntryS.ctr : Ctr := ⟨laws_szEntryS.sig, fun x => laws_szEntryS.f x.1 x.2⟩
noncomputable def laws_szEntryS.env : Env := [(72, [laws_szEntry.ctr])]
def laws_szEntryS.ann : Ann := ⟨[(0, ([(0, .val (.sl false (.pair .str (.pair (.int .i64) (.pair (.int .i64) (.pair (.int .i64) (.int .i64))))))), (1, .val (.int .i64)), (5, .val (.int .i64))], [(.exit 0, [(1, .val (.int .i64))]), (.ret, [(4, .val (.int .i64))])]))], [], []⟩
theorem laws_szEntryS.ok : CtrOk Tryz.prog 33 laws_szEntryS.ctr := fn_sound (A := laws_szEntryS.ann) tabOk (EnvOk.cons (ctrs_cons laws_szEntry.ok ctrs_nil) EnvOk.nil) mixed (fn := Tryz.f33) (body := bodyOf Tryz.f33) Tryz.func33 (by kernel_rfl) (by kernel_rfl) (fun x => by kernel_rfl)

def laws_szStore.sig : Sig := ⟨[.val (.pair (.pair (.int .i64) (.sl false (.int .i64))) (.pair (.sl false (.pair .str (.pair (.int .i64) (.pair (.int .i64) (.pair (.int .i64) (.int .i64)))))) (.pair (.int .i64) (.pair (.int .i64) (.int .i64))))), .val (.int .i64)], [.val (.int .i64)]⟩
noncomputable def laws_szStore.ctr : Ctr := ⟨laws_szStore.sig, fun x => laws_szStore.f x.1 x.2⟩
noncomputable def laws_szStore.env : Env := [(32, [laws_szLive.ctr]), (33, [laws_szEntryS.ctr])]
def laws_szStore.ann : Ann := ⟨[], [], []⟩
theorem laws_szStore.ok : CtrOk Tryz.prog 7 laws_szStore.ctr := fn_sound (A := laws_szStore.ann) tabOk (EnvOk.cons (ctrs_cons laws_szLive.ok ctrs_nil) (EnvOk.cons (ctrs_cons laws_szEntryS.ok ctrs_nil) EnvOk.nil)) mixed (fn := Tryz.f7) (body := bodyOf Tryz.f7) Tryz.func7 (by kernel_rfl) (by kernel_rfl) (fun x => by kernel_rfl)

def laws_szFile.sig : Sig := ⟨[.val (.pair .str (.pair .str (.int .i64))), .val (.int .i64)], [.val (.int .i64)]⟩
noncomputable def laws_szFile.ctr : Ctr := ⟨laws_szFile.sig, fun x => laws_szFile.f x.1 x.2⟩
noncomputable def laws_szFile.env : Env := []
def laws_szFile.ann : Ann := ⟨[], [], []⟩
theorem laws_szFile.ok : CtrOk Tryz.prog 73 laws_szFile.ctr := fn_sound (A := laws_szFile.ann) tabOk EnvOk.nil mixed (fn := Tryz.f73) (body := bodyOf Tryz.f73) Tryz.func73 (by kernel_rfl) (by kernel_rfl) (fun x => by kernel_rfl)

def laws_szFileS.sig : Sig := ⟨[.val (.sl false (.pair .str (.pair .str (.int .i64)))), .val (.int .i64)], [.val (.int .i64)]⟩
noncomputable def laws_szFileS.ctr : Ctr := ⟨laws_szFileS.sig, fun x => laws_szFileS.f x.1 x.2⟩
noncomputable def laws_szFileS.env : Env := [(73, [laws_szFile.ctr])]
def laws_szFileS.ann : Ann := ⟨[(0, ([(0, .val (.sl false (.pair .str (.pair .str (.int .i64))))), (1, .val (.int .i64)), (5, .val (.int .i64))], [(.exit 0, [(1, .val (.int .i64))]), (.ret, [(4, .val (.int .i64))])]))], [], []⟩
theorem laws_szFileS.ok : CtrOk Tryz.prog 34 laws_szFileS.ctr := fn_sound (A := laws_szFileS.ann) tabOk (EnvOk.cons (ctrs_cons laws_szFile.ok ctrs_nil) EnvOk.nil) mixed (fn := Tryz.f34) (body := bodyOf Tryz.f34) Tryz.func34 (by kernel_rfl) (by kernel_rfl) (fun x => by kernel_rfl)

def laws_szDisk.sig : Sig := ⟨[.val (.pair (.sl false (.pair .str (.pair .str (.int .i64)))) (.pair (.int .i64) (.pair (.int .i64) .bool))), .val (.int .i64)], [.val (.int .i64)]⟩
noncomputable def laws_szDisk.ctr : Ctr := ⟨laws_szDisk.sig, fun x => laws_szDisk.f x.1 x.2⟩
noncomputable def laws_szDisk.env : Env := [(34, [laws_szFileS.ctr])]
def laws_szDisk.ann : Ann := ⟨[], [], []⟩
theorem laws_szDisk.ok : CtrOk Tryz.prog 8 laws_szDisk.ctr := fn_sound (A := laws_szDisk.ann) tabOk (EnvOk.cons (ctrs_cons laws_szFileS.ok ctrs_nil) EnvOk.nil) mixed (fn := Tryz.f8) (body := bodyOf Tryz.f8) Tryz.func8 (by kernel_rfl) (by kernel_rfl) (fun x => by kernel_rfl)

def laws_toIntS.sig : Sig := ⟨[.val (.sl false (.int .i64))], [.val (.sl true (.int .i64))]⟩
noncomputable def laws_toIntS.ctr : Ctr := ⟨laws_toIntS.sig, fun x => laws_toIntS.f x⟩
noncomputable def laws_toIntS.env : Env := []
def laws_toIntS.ann : Ann := ⟨[(0, ([(0, .val (.sl false (.int .i64))), (3, .val (.sl true (.int .i64))), (4, .val (.int .i64))], [(.exit 0, [(3, .val (.sl true (.int .i64)))])]))], [], []⟩
theorem laws_toIntS.ok : CtrOk Tryz.prog 78 laws_toIntS.ctr := fn_sound (A := laws_toIntS.ann) tabOk EnvOk.nil mixed (fn := Tryz.f78) (body := bodyOf Tryz.f78) Tryz.func78 (by kernel_rfl) (by kernel_rfl) (fun x => by kernel_rfl)

def laws_toLive.sig : Sig := ⟨[.val (.pair (.int .i64) (.sl false (.int .i64)))], [.val (.pair (.int .i64) (.sl true (.int .i64)))]⟩
noncomputable def laws_toLive.ctr : Ctr := ⟨laws_toLive.sig, fun x => laws_toLive.f x⟩
noncomputable def laws_toLive.env : Env := [(78, [laws_toIntS.ctr])]
def laws_toLive.ann : Ann := ⟨[], [], []⟩
theorem laws_toLive.ok : CtrOk Tryz.prog 36 laws_toLive.ctr := fn_sound (A := laws_toLive.ann) tabOk (EnvOk.cons (ctrs_cons laws_toIntS.ok ctrs_nil) EnvOk.nil) mixed (fn := Tryz.f36) (body := bodyOf Tryz.f36) Tryz.func36 (by kernel_rfl) (by kernel_rfl) (fun x => by kernel_rfl)

def laws_toEntry.sig : Sig := ⟨[.val (.pair .str (.pair (.int .i64) (.pair (.int .i64) (.pair (.int .i64) (.int .i64)))))], [.val (.pair .str (.pair (.int .i64) (.pair (.int .i64) (.pair (.int .i64) (.int .i64)))))]⟩
noncomputable def laws_toEntry.ctr : Ctr := ⟨laws_toEntry.sig, fun x => laws_toEntry.f x⟩
noncomputable def laws_toEntry.env : Env := []
def laws_toEntry.ann : Ann := ⟨[], [], []⟩
theorem laws_toEntry.ok : CtrOk Tryz.prog 79 laws_toEntry.ctr := fn_sound (A := laws_toEntry.ann) tabOk EnvOk.nil mixed (fn := Tryz.f79) (body := bodyOf Tryz.f79) Tryz.func79 (by kernel_rfl) (by kernel_rfl) (fun x => by kernel_rfl)

def laws_toEntryS.sig : Sig := ⟨[.val (.sl false (.pair .str (.pair (.int .i64) (.pair (.int .i64) (.pair (.int .i64) (.int .i64))))))], [.val (.sl true (.pair .str (.pair (.int .i64) (.pair (.int .i64) (.pair (.int .i64) (.int .i64))))))]⟩
noncomputable def laws_toEntryS.ctr : Ctr := ⟨laws_toEntryS.sig, fun x => laws_toEntryS.f x⟩
noncomputable def laws_toEntryS.env : Env := [(79, [laws_toEntry.ctr])]
def laws_toEntryS.ann : Ann := ⟨[(0, ([(0, .val (.sl false (.pair .str (.pair (.int .i64) (.pair (.int .i64) (.pair (.int .i64) (.int .i64))))))), (3, .val (.sl true (.pair .str (.pair (.int .i64) (.pair (.int .i64) (.pair (.int .i64) (.int .i64))))))), (4, .val (.int .i64))], [(.exit 0, [(3, .val (.sl true (.pair .str (.pair (.int .i64) (.pair (.int .i64) (.pair (.int .i64) (.int .i64)))))))])]))], [], []⟩
theorem laws_toEntryS.ok : CtrOk Tryz.prog 37 laws_toEntryS.ctr := fn_sound (A := laws_toEntryS.ann) tabOk (EnvOk.cons (ctrs_cons laws_toEntry.ok ctrs_nil) EnvOk.nil) mixed (fn := Tryz.f37) (body := bodyOf Tryz.f37) Tryz.func37 (by kernel_rfl) (by kernel_rfl) (fun x => by kernel_rfl)

def laws_toStore.sig : Sig := ⟨[.val (.pair (.pair (.int .i64) (.sl false (.int .i64))) (.pair (.sl false (.pair .str (.pair (.int .i64) (.pair (.int .i64) (.pair (.int .i64) (.int .i64)))))) (.pair (.int .i64) (.pair (.int .i64) (.int .i64)))))], [.val (.pair (.pair (.int .i64) (.sl true (.int .i64))) (.pair (.sl true (.pair .str (.pair (.int .i64) (.pair (.int .i64) (.pair (.int .i64) (.int .i64)))))) (.pair (.int .i64) (.pair (.int .i64) (.int .i64)))))]⟩
noncomputable def laws_toStore.ctr : Ctr := ⟨laws_toStore.sig, fun x => laws_toStore.f x⟩
noncomputable def laws_toStore.env : Env := [(36, [laws_toLive.ctr]), (37, [laws_toEntryS.ctr])]
def laws_toStore.ann : Ann := ⟨[], [], []⟩
theorem laws_toStore.ok : CtrOk Tryz.prog 10 laws_toStore.ctr := fn_sound (A := laws_toStore.ann) tabOk (EnvOk.cons (ctrs_cons laws_toLive.ok ctrs_nil) (EnvOk.cons (ctrs_cons laws_toEntryS.ok ctrs_nil) EnvOk.nil)) mixed (fn := Tryz.f10) (body := bodyOf Tryz.f10) Tryz.func10 (by kernel_rfl) (by kernel_rfl) (fun x => by kernel_rfl)

def laws_toFile.sig : Sig := ⟨[.val (.pair .str (.pair .str (.int .i64)))], [.val (.pair .str (.pair .str (.int .i64)))]⟩
noncomputable def laws_toFile.ctr : Ctr := ⟨laws_toFile.sig, fun x => laws_toFile.f x⟩
noncomputable def laws_toFile.env : Env := []
def laws_toFile.ann : Ann := ⟨[], [], []⟩
theorem laws_toFile.ok : CtrOk Tryz.prog 80 laws_toFile.ctr := fn_sound (A := laws_toFile.ann) tabOk EnvOk.nil mixed (fn := Tryz.f80) (body := bodyOf Tryz.f80) Tryz.func80 (by kernel_rfl) (by kernel_rfl) (fun x => by kernel_rfl)

def laws_toFileS.sig : Sig := ⟨[.val (.sl false (.pair .str (.pair .str (.int .i64))))], [.val (.sl true (.pair .str (.pair .str (.int .i64))))]⟩
noncomputable def laws_toFileS.ctr : Ctr := ⟨laws_toFileS.sig, fun x => laws_toFileS.f x⟩
noncomputable def laws_toFileS.env : Env := [(80, [laws_toFile.ctr])]
def laws_toFileS.ann : Ann := ⟨[(0, ([(0, .val (.sl false (.pair .str (.pair .str (.int .i64))))), (3, .val (.sl true (.pair .str (.pair .str (.int .i64))))), (4, .val (.int .i64))], [(.exit 0, [(3, .val (.sl true (.pair .str (.pair .str (.int .i64)))))])]))], [], []⟩
theorem laws_toFileS.ok : CtrOk Tryz.prog 38 laws_toFileS.ctr := fn_sound (A := laws_toFileS.ann) tabOk (EnvOk.cons (ctrs_cons laws_toFile.ok ctrs_nil) EnvOk.nil) mixed (fn := Tryz.f38) (body := bodyOf Tryz.f38) Tryz.func38 (by kernel_rfl) (by kernel_rfl) (fun x => by kernel_rfl)

def laws_toDisk.sig : Sig := ⟨[.val (.pair (.sl false (.pair .str (.pair .str (.int .i64)))) (.pair (.int .i64) (.pair (.int .i64) .bool)))], [.val (.pair (.sl true (.pair .str (.pair .str (.int .i64)))) (.pair (.int .i64) (.pair (.int .i64) .bool)))]⟩
noncomputable def laws_toDisk.ctr : Ctr := ⟨laws_toDisk.sig, fun x => laws_toDisk.f x⟩
noncomputable def laws_toDisk.env : Env := [(38, [laws_toFileS.ctr])]
def laws_toDisk.ann : Ann := ⟨[], [], []⟩
theorem laws_toDisk.ok : CtrOk Tryz.prog 11 laws_toDisk.ctr := fn_sound (A := laws_toDisk.ann) tabOk (EnvOk.cons (ctrs_cons laws_toFileS.ok ctrs_nil) EnvOk.nil) mixed (fn := Tryz.f11) (body := bodyOf Tryz.f11) Tryz.func11 (by kernel_rfl) (by kernel_rfl) (fun x => by kernel_rfl)

def laws_eqIntS.sig : Sig := ⟨[.val (.sl false (.int .i64)), .val (.sl false (.int .i64))], [.val .bool]⟩
noncomputable def laws_eqIntS.ctr : Ctr := ⟨laws_eqIntS.sig, fun x => laws_eqIntS.f x.1 x.2⟩
noncomputable def laws_eqIntS.env : Env := []
def laws_eqIntS.ann : Ann := ⟨[(0, ([(0, .val (.sl false (.int .i64))), (1, .val (.sl false (.int .i64))), (5, .val (.int .i64))], [(.exit 0, []), (.ret, [(4, .val .bool)])]))], [], []⟩
theorem laws_eqIntS.ok : CtrOk Tryz.prog 85 laws_eqIntS.ctr := fn_sound (A := laws_eqIntS.ann) tabOk EnvOk.nil mixed (fn := Tryz.f85) (body := bodyOf Tryz.f85) Tryz.func85 (by kernel_rfl) (by kernel_rfl) (fun x => by kernel_rfl)

def laws_eqLive.sig : Sig := ⟨[.val (.pair (.int .i64) (.sl false (.int .i64))), .val (.pair (.int .i64) (.sl false (.int .i64)))], [.val .bool]⟩
noncomputable def laws_eqLive.ctr : Ctr := ⟨laws_eqLive.sig, fun x => laws_eqLive.f x.1 x.2⟩
noncomputable def laws_eqLive.env : Env := [(85, [laws_eqIntS.ctr])]
def laws_eqLive.ann : Ann := ⟨[], [], []⟩
theorem laws_eqLive.ok : CtrOk Tryz.prog 42 laws_eqLive.ctr := fn_sound (A := laws_eqLive.ann) tabOk (EnvOk.cons (ctrs_cons laws_eqIntS.ok ctrs_nil) EnvOk.nil) mixed (fn := Tryz.f42) (body := bodyOf Tryz.f42) Tryz.func42 (by kernel_rfl) (by kernel_rfl) (fun x => by kernel_rfl)

def laws_eqEntry.sig : Sig := ⟨[.val (.pair .str (.pair (.int .i64) (.pair (.int .i64) (.pair (.int .i64) (.int .i64))))), .val (.pair .str (.pair (.int .i64) (.pair (.int .i64) (.pair (.int .i64) (.int .i64)))))], [.val .bool]⟩
noncomputable def laws_eqEntry.ctr : Ctr := ⟨laws_eqEntry.sig, fun x => laws_eqEntry.f x.1 x.2⟩
noncomputable def laws_eqEntry.env : Env := []
def laws_eqEntry.ann : Ann := ⟨[], [], []⟩
theorem laws_eqEntry.ok : CtrOk Tryz.prog 86 laws_eqEntry.ctr := fn_sound (A := laws_eqEntry.ann) tabOk EnvOk.nil mixed (fn := Tryz.f86) (body := bodyOf Tryz.f86) Tryz.func86 (by kernel_rfl) (by kernel_rfl) (fun x => by kernel_rfl)

def laws_eqEntryS.sig : Sig := ⟨[.val (.sl false (.pair .str (.pair (.int .i64) (.pair (.int .i64) (.pair (.int .i64) (.int .i64)))))), .val (.sl false (.pair .str (.pair (.int .i64) (.pair (.int .i64) (.pair (.int .i64) (.int .i64))))))], [.val .bool]⟩
noncomputable def laws_eqEntryS.ctr : Ctr := ⟨laws_eqEntryS.sig, fun x => laws_eqEntryS.f x.1 x.2⟩
noncomputable def laws_eqEntryS.env : Env := [(86, [laws_eqEntry.ctr])]
def laws_eqEntryS.ann : Ann := ⟨[(0, ([(0, .val (.sl false (.pair .str (.pair (.int .i64) (.pair (.int .i64) (.pair (.int .i64) (.int .i64))))))), (1, .val (.sl false (.pair .str (.pair (.int .i64) (.pair (.int .i64) (.pair (.int .i64) (.int .i64))))))), (5, .val (.int .i64))], [(.exit 0, []), (.ret, [(4, .val .bool)])]))], [], []⟩
theorem laws_eqEntryS.ok : CtrOk Tryz.prog 43 laws_eqEntryS.ctr := fn_sound (A := laws_eqEntryS.ann) tabOk (EnvOk.cons (ctrs_cons laws_eqEntry.ok ctrs_nil) EnvOk.nil) mixed (fn := Tryz.f43) (body := bodyOf Tryz.f43) Tryz.func43 (by kernel_rfl) (by kernel_rfl) (fun x => by kernel_rfl)

def laws_eqStore.sig : Sig := ⟨[.val (.pair (.pair (.int .i64) (.sl false (.int .i64))) (.pair (.sl false (.pair .str (.pair (.int .i64) (.pair (.int .i64) (.pair (.int .i64) (.int .i64)))))) (.pair (.int .i64) (.pair (.int .i64) (.int .i64))))), .val (.pair (.pair (.int .i64) (.sl false (.int .i64))) (.pair (.sl false (.pair .str (.pair (.int .i64) (.pair (.int .i64) (.pair (.int .i64) (.int .i64)))))) (.pair (.int .i64) (.pair (.int .i64) (.int .i64)))))], [.val .bool]⟩
noncomputable def laws_eqStore.ctr : Ctr := ⟨laws_eqStore.sig, fun x => laws_eqStore.f x.1 x.2⟩
noncomputable def laws_eqStore.env : Env := [(42, [laws_eqLive.ctr]), (43, [laws_eqEntryS.ctr])]
def laws_eqStore.ann : Ann := ⟨[], [], []⟩
theorem laws_eqStore.ok : CtrOk Tryz.prog 14 laws_eqStore.ctr := fn_sound (A := laws_eqStore.ann) tabOk (EnvOk.cons (ctrs_cons laws_eqLive.ok ctrs_nil) (EnvOk.cons (ctrs_cons laws_eqEntryS.ok ctrs_nil) EnvOk.nil)) mixed (fn := Tryz.f14) (body := bodyOf Tryz.f14) Tryz.func14 (by kernel_rfl) (by kernel_rfl) (fun x => by kernel_rfl)

def laws_eqFile.sig : Sig := ⟨[.val (.pair .str (.pair .str (.int .i64))), .val (.pair .str (.pair .str (.int .i64)))], [.val .bool]⟩
noncomputable def laws_eqFile.ctr : Ctr := ⟨laws_eqFile.sig, fun x => laws_eqFile.f x.1 x.2⟩
noncomputable def laws_eqFile.env : Env := []
def laws_eqFile.ann : Ann := ⟨[], [], []⟩
theorem laws_eqFile.ok : CtrOk Tryz.prog 87 laws_eqFile.ctr := fn_sound (A := laws_eqFile.ann) tabOk EnvOk.nil mixed (fn := Tryz.f87) (body := bodyOf Tryz.f87) Tryz.func87 (by kernel_rfl) (by kernel_rfl) (fun x => by kernel_rfl)

def laws_eqFileS.sig : Sig := ⟨[.val (.sl false (.pair .str (.pair .str (.int .i64)))), .val (.sl false (.pair .str (.pair .str (.int .i64))))], [.val .bool]⟩
noncomputable def laws_eqFileS.ctr : Ctr := ⟨laws_eqFileS.sig, fun x => laws_eqFileS.f x.1 x.2⟩
noncomputable def laws_eqFileS.env : Env := [(87, [laws_eqFile.ctr])]
def laws_eqFileS.ann : Ann := ⟨[(0, ([(0, .val (.sl false (.pair .str (.pair .str (.int .i64))))), (1, .val (.sl false (.pair .str (.pair .str (.int .i64))))), (5, .val (.int .i64))], [(.exit 0, []), (.ret, [(4, .val .bool)])]))], [], []⟩
theorem laws_eqFileS.ok : CtrOk Tryz.prog 44 laws_eqFileS.ctr := fn_sound (A := laws_eqFileS.ann) tabOk (EnvOk.cons (ctrs_cons laws_eqFile.ok ctrs_nil) EnvOk.nil) mixed (fn := Tryz.f44) (body := bodyOf Tryz.f44) Tryz.func44 (by kernel_rfl) (by kernel_rfl) (fun x => by kernel_rfl)

def laws_eqDisk.sig : Sig := ⟨[.val (.pair (.sl false (.pair .str (.pair .str (.int .i64)))) (.pair (.int .i64) (.pair (.int .i64) .bool))), .val (.pair (.sl false (.pair .str (.pair .str (.int .i64)))) (.pair (.int .i64) (.pair (.int .i64) .bool)))], [.val .bool]⟩
noncomputable def laws_eqDisk.ctr : Ctr := ⟨laws_eqDisk.sig, fun x => laws_eqDisk.f x.1 x.2⟩
noncomputable def laws_eqDisk.env : Env := [(44, [laws_eqFileS.ctr])]
def laws_eqDisk.ann : Ann := ⟨[], [], []⟩
theorem laws_eqDisk.ok : CtrOk Tryz.prog 15 laws_eqDisk.ctr := fn_sound (A := laws_eqDisk.ann) tabOk (EnvOk.cons (ctrs_cons laws_eqFileS.ok ctrs_nil) EnvOk.nil) mixed (fn := Tryz.f15) (body := bodyOf Tryz.f15) Tryz.func15 (by kernel_rfl) (by kernel_rfl) (fun x => by kernel_rfl)

def laws_markIntS.sig : Sig := ⟨[.io (.sl true (.int .i64)), .val (.int .i64)], [.val (.int .i64)]⟩
noncomputable def laws_markIntS.ctr : Ctr := ⟨laws_markIntS.sig, fun x => laws_markIntS.f x.1 x.2⟩
noncomputable def laws_markIntS.env : Env := []
def laws_markIntS.ann : Ann := ⟨[(0, ([(0, .val (.sl true (.int .i64))), (1, .val (.int .i64)), (5, .val (.int .i64))], [(.exit 0, [(0, .val (.sl true (.int .i64))), (1, .val (.int .i64))])]))], [], []⟩
theorem laws_markIntS.ok : CtrOk Tryz.prog 88 laws_markIntS.ctr := fn_sound (A := laws_markIntS.ann) tabOk EnvOk.nil mixed (fn := Tryz.f88) (body := bodyOf Tryz.f88) Tryz.func88 (by kernel_rfl) (by kernel_rfl) (fun x => by kernel_rfl)

def laws_markLive.sig : Sig := ⟨[.io (.pair (.int .i64) (.sl true (.int .i64))), .val (.int .i64)], [.val (.int .i64)]⟩
noncomputable def laws_markLive.ctr : Ctr := ⟨laws_markLive.sig, fun x => laws_markLive.f x.1 x.2⟩
noncomputable def laws_markLive.env : Env := [(88, [laws_markIntS.ctr])]
def laws_markLive.ann : Ann := ⟨[], [], []⟩
theorem laws_markLive.ok : CtrOk Tryz.prog 45 laws_markLive.ctr := fn_sound (A := laws_markLive.ann) tabOk (EnvOk.cons (ctrs_cons laws_markIntS.ok ctrs_nil) EnvOk.nil) mixed (fn := Tryz.f45) (body := bodyOf Tryz.f45) Tryz.func45 (by kernel_rfl) (by kernel_rfl) (fun x => by kernel_rfl)

def laws_markText.sig : Sig := ⟨[.val (.int .i64)], [.val .str]⟩
noncomputable def laws_markText.ctr : Ctr := ⟨laws_markText.sig, fun x => laws_markText.f x⟩
noncomputable def laws_markText.env : Env := []
def laws_markText.ann : Ann := ⟨[(0, ([(0, .val (.int .i64)), (3, .val .str)], [(.exit 0, [(3, .val .str)])]))], [], []⟩
theorem laws_markText.ok : CtrOk Tryz.prog 48 laws_markText.ctr := fn_sound (A := laws_markText.ann) tabOk EnvOk.nil mixed (fn := Tryz.f48) (body := bodyOf Tryz.f48) Tryz.func48 (by kernel_rfl) (by kernel_rfl) (fun x => by kernel_rfl)

def laws_markEntryS.sig : Sig := ⟨[.io (.sl true (.pair .str (.pair (.int .i64) (.pair (.int .i64) (.pair (.int .i64) (.int .i64)))))), .val (.int .i64)], [.val (.int .i64)]⟩
noncomputable def laws_markEntryS.ctr : Ctr := ⟨laws_markEntryS.sig, fun x => laws_markEntryS.f x.1 x.2⟩
noncomputable def laws_markEntryS.env : Env := [(48, [laws_markText.ctr])]
def laws_markEntryS.ann : Ann := ⟨[(0, ([(0, .val (.sl true (.pair .str (.pair (.int .i64) (.pair (.int .i64) (.pair (.int .i64) (.int .i64))))))), (1, .val (.int .i64)), (5, .val (.int .i64))], [(.exit 0, [(0, .val (.sl true (.pair .str (.pair (.int .i64) (.pair (.int .i64) (.pair (.int .i64) (.int .i64))))))), (1, .val (.int .i64))])]))], [], []⟩
theorem laws_markEntryS.ok : CtrOk Tryz.prog 46 laws_markEntryS.ctr := fn_sound (A := laws_markEntryS.ann) tabOk (EnvOk.cons (ctrs_cons laws_markText.ok ctrs_nil) EnvOk.nil) mixed (fn := Tryz.f46) (body := bodyOf Tryz.f46) Tryz.func46 (by kernel_rfl) (by kernel_rfl) (fun x => by kernel_rfl)

def laws_markStore.sig : Sig := ⟨[.io (.pair (.pair (.int .i64) (.sl true (.int .i64))) (.pair (.sl true (.pair .str (.pair (.int .i64) (.pair (.int .i64) (.pair (.int .i64) (.int .i64)))))) (.pair (.int .i64) (.pair (.int .i64) (.int .i64))))), .val (.int .i64)], [.val (.int .i64)]⟩
noncomputable def laws_markStore.ctr : Ctr := ⟨laws_markStore.sig, fun x => laws_markStore.f x.1 x.2⟩
noncomputable def laws_markStore.env : Env := [(45, [laws_markLive.ctr]), (46, [laws_markEntryS.ctr])]
def laws_markStore.ann : Ann := ⟨[], [], []⟩
theorem laws_markStore.ok : CtrOk Tryz.prog 16 laws_markStore.ctr := fn_sound (A := laws_markStore.ann) tabOk (EnvOk.cons (ctrs_cons laws_markLive.ok ctrs_nil) (EnvOk.cons (ctrs_cons laws_markEntryS.ok ctrs_nil) EnvOk.nil)) mixed (fn := Tryz.f16) (body := bodyOf Tryz.f16) Tryz.func16 (by kernel_rfl) (by kernel_rfl) (fun x => by kernel_rfl)

def laws_markFileS.sig : Sig := ⟨[.io (.sl true (.pair .str (.pair .str (.int .i64)))), .val (.int .i64)], [.val (.int .i64)]⟩
noncomputable def laws_markFileS.ctr : Ctr := ⟨laws_markFileS.sig, fun x => laws_markFileS.f x.1 x.2⟩
noncomputable def laws_markFileS.env : Env := [(48, [laws_markText.ctr])]
def laws_markFileS.ann : Ann := ⟨[(0, ([(0, .val (.sl true (.pair .str (.pair .str (.int .i64))))), (1, .val (.int .i64)), (5, .val (.int .i64))], [(.exit 0, [(0, .val (.sl true (.pair .str (.pair .str (.int .i64))))), (1, .val (.int .i64))])]))], [], []⟩
theorem laws_markFileS.ok : CtrOk Tryz.prog 47 laws_markFileS.ctr := fn_sound (A := laws_markFileS.ann) tabOk (EnvOk.cons (ctrs_cons laws_markText.ok ctrs_nil) EnvOk.nil) mixed (fn := Tryz.f47) (body := bodyOf Tryz.f47) Tryz.func47 (by kernel_rfl) (by kernel_rfl) (fun x => by kernel_rfl)

def laws_markDisk.sig : Sig := ⟨[.io (.pair (.sl true (.pair .str (.pair .str (.int .i64)))) (.pair (.int .i64) (.pair (.int .i64) .bool))), .val (.int .i64)], [.val (.int .i64)]⟩
noncomputable def laws_markDisk.ctr : Ctr := ⟨laws_markDisk.sig, fun x => laws_markDisk.f x.1 x.2⟩
noncomputable def laws_markDisk.env : Env := [(47, [laws_markFileS.ctr])]
def laws_markDisk.ann : Ann := ⟨[], [], []⟩
theorem laws_markDisk.ok : CtrOk Tryz.prog 17 laws_markDisk.ctr := fn_sound (A := laws_markDisk.ann) tabOk (EnvOk.cons (ctrs_cons laws_markFileS.ok ctrs_nil) EnvOk.nil) mixed (fn := Tryz.f17) (body := bodyOf Tryz.f17) Tryz.func17 (by kernel_rfl) (by kernel_rfl) (fun x => by kernel_rfl)

def laws_heldIntS.sig : Sig := ⟨[.val (.sl false (.int .i64)), .val (.int .i64)], [.val (.int .i64)]⟩
noncomputable def laws_heldIntS.ctr : Ctr := ⟨laws_heldIntS.sig, fun x => laws_heldIntS.f x.1 x.2⟩
noncomputable def laws_heldIntS.env : Env := []
def laws_heldIntS.ann : Ann := ⟨[(0, ([(0, .val (.sl false (.int .i64))), (1, .val (.int .i64)), (5, .val (.int .i64))], [(.exit 0, [(1, .val (.int .i64))]), (.ret, [(4, .val (.int .i64))])]))], [], []⟩
theorem laws_heldIntS.ok : CtrOk Tryz.prog 112 laws_heldIntS.ctr := fn_sound (A := laws_heldIntS.ann) tabOk EnvOk.nil mixed (fn := Tryz.f112) (body := bodyOf Tryz.f112) Tryz.func112 (by kernel_rfl) (by kernel_rfl) (fun x => by kernel_rfl)

def laws_heldLive.sig : Sig := ⟨[.val (.pair (.int .i64) (.sl false (.int .i64))), .val (.int .i64)], [.val (.int .i64)]⟩
noncomputable def laws_heldLive.ctr : Ctr := ⟨laws_heldLive.sig, fun x => laws_heldLive.f x.1 x.2⟩
noncomputable def laws_heldLive.env : Env := [(112, [laws_heldIntS.ctr])]
def laws_heldLive.ann : Ann := ⟨[], [], []⟩
theorem laws_heldLive.ok : CtrOk Tryz.prog 57 laws_heldLive.ctr := fn_sound (A := laws_heldLive.ann) tabOk (EnvOk.cons (ctrs_cons laws_heldIntS.ok ctrs_nil) EnvOk.nil) mixed (fn := Tryz.f57) (body := bodyOf Tryz.f57) Tryz.func57 (by kernel_rfl) (by kernel_rfl) (fun x => by kernel_rfl)

def laws_heldEntryS.sig : Sig := ⟨[.val (.sl false (.pair .str (.pair (.int .i64) (.pair (.int .i64) (.pair (.int .i64) (.int .i64)))))), .val (.int .i64)], [.val (.int .i64)]⟩
noncomputable def laws_heldEntryS.ctr : Ctr := ⟨laws_heldEntryS.sig, fun x => laws_heldEntryS.f x.1 x.2⟩
noncomputable def laws_heldEntryS.env : Env := [(48, [laws_markText.ctr])]
def laws_heldEntryS.ann : Ann := ⟨[(0, ([(0, .val (.sl false (.pair .str (.pair (.int .i64) (.pair (.int .i64) (.pair (.int .i64) (.int .i64))))))), (1, .val (.int .i64)), (5, .val (.int .i64))], [(.exit 0, [(1, .val (.int .i64))]), (.ret, [(4, .val (.int .i64))])]))], [], []⟩
theorem laws_heldEntryS.ok : CtrOk Tryz.prog 58 laws_heldEntryS.ctr := fn_sound (A := laws_heldEntryS.ann) tabOk (EnvOk.cons (ctrs_cons laws_markText.ok ctrs_nil) EnvOk.nil) mixed (fn := Tryz.f58) (body := bodyOf Tryz.f58) Tryz.func58 (by kernel_rfl) (by kernel_rfl) (fun x => by kernel_rfl)

def laws_heldStore.sig : Sig := ⟨[.val (.pair (.pair (.int .i64) (.sl false (.int .i64))) (.pair (.sl false (.pair .str (.pair (.int .i64) (.pair (.int .i64) (.pair (.int .i64) (.int .i64)))))) (.pair (.int .i64) (.pair (.int .i64) (.int .i64))))), .val (.int .i64)], [.val (.int .i64)]⟩
noncomputable def laws_heldStore.ctr : Ctr := ⟨laws_heldStore.sig, fun x => laws_heldStore.f x.1 x.2⟩
noncomputable def laws_heldStore.env : Env := [(57, [laws_heldLive.ctr]), (58, [laws_heldEntryS.ctr])]
def laws_heldStore.ann : Ann := ⟨[], [], []⟩
theorem laws_heldStore.ok : CtrOk Tryz.prog 22 laws_heldStore.ctr := fn_sound (A := laws_heldStore.ann) tabOk (EnvOk.cons (ctrs_cons laws_heldLive.ok ctrs_nil) (EnvOk.cons (ctrs_cons laws_heldEntryS.ok ctrs_nil) EnvOk.nil)) mixed (fn := Tryz.f22) (body := bodyOf Tryz.f22) Tryz.func22 (by kernel_rfl) (by kernel_rfl) (fun x => by kernel_rfl)

def laws_heldFileS.sig : Sig := ⟨[.val (.sl false (.pair .str (.pair .str (.int .i64)))), .val (.int .i64)], [.val (.int .i64)]⟩
noncomputable def laws_heldFileS.ctr : Ctr := ⟨laws_heldFileS.sig, fun x => laws_heldFileS.f x.1 x.2⟩
noncomputable def laws_heldFileS.env : Env := [(48, [laws_markText.ctr])]
def laws_heldFileS.ann : Ann := ⟨[(0, ([(0, .val (.sl false (.pair .str (.pair .str (.int .i64))))), (1, .val (.int .i64)), (5, .val (.int .i64))], [(.exit 0, [(1, .val (.int .i64))]), (.ret, [(4, .val (.int .i64))])]))], [], []⟩
theorem laws_heldFileS.ok : CtrOk Tryz.prog 59 laws_heldFileS.ctr := fn_sound (A := laws_heldFileS.ann) tabOk (EnvOk.cons (ctrs_cons laws_markText.ok ctrs_nil) EnvOk.nil) mixed (fn := Tryz.f59) (body := bodyOf Tryz.f59) Tryz.func59 (by kernel_rfl) (by kernel_rfl) (fun x => by kernel_rfl)

def laws_heldDisk.sig : Sig := ⟨[.val (.pair (.sl false (.pair .str (.pair .str (.int .i64)))) (.pair (.int .i64) (.pair (.int .i64) .bool))), .val (.int .i64)], [.val (.int .i64)]⟩
noncomputable def laws_heldDisk.ctr : Ctr := ⟨laws_heldDisk.sig, fun x => laws_heldDisk.f x.1 x.2⟩
noncomputable def laws_heldDisk.env : Env := [(59, [laws_heldFileS.ctr])]
def laws_heldDisk.ann : Ann := ⟨[], [], []⟩
theorem laws_heldDisk.ok : CtrOk Tryz.prog 23 laws_heldDisk.ctr := fn_sound (A := laws_heldDisk.ann) tabOk (EnvOk.cons (ctrs_cons laws_heldFileS.ok ctrs_nil) EnvOk.nil) mixed (fn := Tryz.f23) (body := bodyOf Tryz.f23) Tryz.func23 (by kernel_rfl) (by kernel_rfl) (fun x => by kernel_rfl)

def spec_DirGet.sig : Sig := ⟨[.val (.sl false (.pair .str (.pair (.int .i64) (.pair (.int .i64) (.pair (.int .i64) (.int .i64)))))), .val .str], [.val (.pair .str (.pair (.int .i64) (.pair (.int .i64) (.pair (.int .i64) (.int .i64))))), .val .bool]⟩
noncomputable def spec_DirGet.ctr : Ctr := ⟨spec_DirGet.sig, fun x => spec_DirGet.f x.1 x.2⟩
noncomputable def spec_DirGet.env : Env := []
def spec_DirGet.ann : Ann := ⟨[(0, ([(0, .val (.sl false (.pair .str (.pair (.int .i64) (.pair (.int .i64) (.pair (.int .i64) (.int .i64))))))), (1, .val .str), (4, .ptr (.pair .str (.pair (.int .i64) (.pair (.int .i64) (.pair (.int .i64) (.int .i64)))))), (6, .val (.int .i64))], [(.exit 0, [(4, .ptr (.pair .str (.pair (.int .i64) (.pair (.int .i64) (.pair (.int .i64) (.int .i64))))))]), (.ret, [(4, .ptr (.pair .str (.pair (.int .i64) (.pair (.int .i64) (.pair (.int .i64) (.int .i64)))))), (5, .val .bool)])]))], [], []⟩
theorem spec_DirGet.ok : CtrOk Tryz.prog 74 spec_DirGet.ctr := fn_sound (A := spec_DirGet.ann) tabOk EnvOk.nil mixed (fn := Tryz.f74) (body := bodyOf Tryz.f74) Tryz.func74 (by kernel_rfl) (by kernel_rfl) (fun x => by kernel_rfl)

def spec_l1In.sig : Sig := ⟨[.val (.int .i64), .val (.int .i64), .val (.int .i64)], [.val .bool]⟩
noncomputable def spec_l1In.ctr : Ctr := ⟨spec_l1In.sig, fun x => spec_l1In.f x.1 x.2.1 x.2.2⟩
noncomputable def spec_l1In.env : Env := []
def spec_l1In.ann : Ann := ⟨[], [], []⟩
theorem spec_l1In.ok : CtrOk Tryz.prog 92 spec_l1In.ctr := fn_sound (A := spec_l1In.ann) tabOk EnvOk.nil mixed (fn := Tryz.f92) (body := bodyOf Tryz.f92) Tryz.func92 (by kernel_rfl) (by kernel_rfl) (fun x => by kernel_rfl)

def spec_l3Used.sig : Sig := ⟨[.val (.pair (.sl false (.pair .str (.pair .str (.int .i64)))) (.pair (.int .i64) (.pair (.int .i64) .bool)))], [.val (.int .i64)]⟩
noncomputable def spec_l3Used.ctr : Ctr := ⟨spec_l3Used.sig, fun x => spec_l3Used.f x⟩
noncomputable def spec_l3Used.env : Env := []
def spec_l3Used.ann : Ann := ⟨[(0, ([(1, .ptr (.pair (.sl false (.pair .str (.pair .str (.int .i64)))) (.pair (.int .i64) (.pair (.int .i64) .bool)))), (3, .val (.int .i64)), (4, .val (.int .i64))], [(.exit 0, [(3, .val (.int .i64))])]))], [], []⟩
theorem spec_l3Used.ok : CtrOk Tryz.prog 142 spec_l3Used.ctr := fn_sound (A := spec_l3Used.ann) tabOk EnvOk.nil mixed (fn := Tryz.f142) (body := bodyOf Tryz.f142) Tryz.func142 (by kernel_rfl) (by kernel_rfl) (fun x => by kernel_rfl)

def spec_NameOk.sig : Sig := ⟨[.val .str], [.val .bool]⟩
noncomputable def spec_NameOk.ctr : Ctr := ⟨spec_NameOk.sig, fun x => spec_NameOk.f x⟩
noncomputable def spec_NameOk.env : Env := [(92, [spec_l1In.ctr])]
def spec_NameOk.ann : Ann := ⟨[(0, ([(0, .val .str), (3, .val (.int .i64))], [(.exit 0, [(0, .val .str)]), (.ret, [(2, .val .bool)])]))], [], [(4, [(.normal, [(0, .val .str), (3, .val (.int .i64))]), (.ret, [(2, .val .bool)])])]⟩
theorem spec_NameOk.ok : CtrOk Tryz.prog 143 spec_NameOk.ctr := fn_sound (A := spec_NameOk.ann) tabOk (EnvOk.cons (ctrs_cons spec_l1In.ok ctrs_nil) EnvOk.nil) mixed (fn := Tryz.f143) (body := bodyOf Tryz.f143) Tryz.func143 (by kernel_rfl) (by kernel_rfl) (fun x => by kernel_rfl)

def spec_DiskOk.sig : Sig := ⟨[.val (.pair (.sl false (.pair .str (.pair .str (.int .i64)))) (.pair (.int .i64) (.pair (.int .i64) .bool)))], [.val .bool]⟩
noncomputable def spec_DiskOk.ctr : Ctr := ⟨spec_DiskOk.sig, fun x => spec_DiskOk.f x⟩
noncomputable def spec_DiskOk.env : Env := [(92, [spec_l1In.ctr]), (142, [spec_l3Used.ctr]), (143, [spec_NameOk.ctr])]
def spec_DiskOk.ann : Ann := ⟨[(0, ([(1, .ptr (.pair (.sl false (.pair .str (.pair .str (.int .i64)))) (.pair (.int .i64) (.pair (.int .i64) .bool)))), (3, .val (.int .i64))], [(.exit 0, []), (.ret, [(2, .val .bool)])]))], [], [(6, [(.normal, [(1, .ptr (.pair (.sl false (.pair .str (.pair .str (.int .i64)))) (.pair (.int .i64) (.pair (.int .i64) .bool)))), (3, .val (.int .i64))]), (.ret, [(2, .val .bool)])])]⟩
theorem spec_DiskOk.ok : CtrOk Tryz.prog 89 spec_DiskOk.ctr := fn_sound (A := spec_DiskOk.ann) tabOk (EnvOk.cons (ctrs_cons spec_l1In.ok ctrs_nil) (EnvOk.cons (ctrs_cons spec_l3Used.ok ctrs_nil) (EnvOk.cons (ctrs_cons spec_NameOk.ok ctrs_nil) EnvOk.nil))) mixed (fn := Tryz.f89) (body := bodyOf Tryz.f89) Tryz.func89 (by kernel_rfl) (by kernel_rfl) (fun x => by kernel_rfl)

def spec_l3Find.sig : Sig := ⟨[.val (.pair (.sl false (.pair .str (.pair .str (.int .i64)))) (.pair (.int .i64) (.pair (.int .i64) .bool))), .val .str], [.val (.int .i64)]⟩
noncomputable def spec_l3Find.ctr : Ctr := ⟨spec_l3Find.sig, fun x => spec_l3Find.f x.1 x.2⟩
noncomputable def spec_l3Find.env : Env := []
def spec_l3Find.ann : Ann := ⟨[(0, ([(1, .val .str), (2, .ptr (.pair (.sl false (.pair .str (.pair .str (.int .i64)))) (.pair (.int .i64) (.pair (.int .i64) .bool)))), (5, .val (.int .i64))], [(.exit 0, []), (.ret, [(4, .val (.int .i64))])]))], [], []⟩
theorem spec_l3Find.ok : CtrOk Tryz.prog 134 spec_l3Find.ctr := fn_sound (A := spec_l3Find.ann) tabOk EnvOk.nil mixed (fn := Tryz.f134) (body := bodyOf Tryz.f134) Tryz.func134 (by kernel_rfl) (by kernel_rfl) (fun x => by kernel_rfl)

def spec_FileText.sig : Sig := ⟨[.val (.pair (.sl false (.pair .str (.pair .str (.int .i64)))) (.pair (.int .i64) (.pair (.int .i64) .bool))), .val .str], [.val .str, .val .bool]⟩
noncomputable def spec_FileText.ctr : Ctr := ⟨spec_FileText.sig, fun x => spec_FileText.f x.1 x.2⟩
noncomputable def spec_FileText.env : Env := [(89, [spec_DiskOk.ctr]), (134, [spec_l3Find.ctr])]
def spec_FileText.ann : Ann := ⟨[], [], []⟩
theorem spec_FileText.ok : CtrOk Tryz.prog 75 spec_FileText.ctr := fn_sound (A := spec_FileText.ann) tabOk (EnvOk.cons (ctrs_cons spec_DiskOk.ok ctrs_nil) (EnvOk.cons (ctrs_cons spec_l3Find.ok ctrs_nil) EnvOk.nil)) mixed (fn := Tryz.f75) (body := bodyOf Tryz.f75) Tryz.func75 (by kernel_rfl) (by kernel_rfl) (fun x => by kernel_rfl)

def spec_Dec.sig : Sig := ⟨[.val (.int .i64)], [.val .str]⟩
noncomputable def spec_Dec.ctr : Ctr := ⟨spec_Dec.sig, fun x => spec_Dec.f x⟩
noncomputable def spec_Dec.env : Env := []
def spec_Dec.ann : Ann := ⟨[(0, ([(0, .val (.int .i64)), (3, .val .str), (4, .val .bool)], [(.exit 0, [(3, .val .str), (4, .val .bool)])]))], [], [(7, [(.normal, [(0, .val (.int .i64)), (3, .val .str), (4, .val .bool), (5, .val (.int .i64))])])]⟩
theorem spec_Dec.ok : CtrOk Tryz.prog 135 spec_Dec.ctr := fn_sound (A := spec_Dec.ann) tabOk EnvOk.nil mixed (fn := Tryz.f135) (body := bodyOf Tryz.f135) Tryz.func135 (by kernel_rfl) (by kernel_rfl) (fun x => by kernel_rfl)

def spec_SegName.sig : Sig := ⟨[.val (.int .i64)], [.val .str]⟩
noncomputable def spec_SegName.ctr : Ctr := ⟨spec_SegName.sig, fun x => spec_SegName.f x⟩
noncomputable def spec_SegName.env : Env := [(92, [spec_l1In.ctr]), (135, [spec_Dec.ctr])]
def spec_SegName.ann : Ann := ⟨[], [], []⟩
theorem spec_SegName.ok : CtrOk Tryz.prog 76 spec_SegName.ctr := fn_sound (A := spec_SegName.ann) tabOk (EnvOk.cons (ctrs_cons spec_l1In.ok ctrs_nil) (EnvOk.cons (ctrs_cons spec_Dec.ok ctrs_nil) EnvOk.nil)) mixed (fn := Tryz.f76) (body := bodyOf Tryz.f76) Tryz.func76 (by kernel_rfl) (by kernel_rfl) (fun x => by kernel_rfl)

def spec_Var.sig : Sig := ⟨[.val (.int .i64)], [.val .str]⟩
noncomputable def spec_Var.ctr : Ctr := ⟨spec_Var.sig, fun x => spec_Var.f x⟩
noncomputable def spec_Var.env : Env := [(92, [spec_l1In.ctr])]
def spec_Var.ann : Ann := ⟨[(0, ([(0, .val (.int .i64)), (3, .val (.sl true (.int .u8)))], [(.exit 0, [(0, .val (.int .i64)), (3, .val (.sl true (.int .u8)))])]))], [], []⟩
theorem spec_Var.ok : CtrOk Tryz.prog 169 spec_Var.ctr := fn_sound (A := spec_Var.ann) tabOk (EnvOk.cons (ctrs_cons spec_l1In.ok ctrs_nil) EnvOk.nil) mixed (fn := Tryz.f169) (body := bodyOf Tryz.f169) Tryz.func169 (by kernel_rfl) (by kernel_rfl) (fun x => by kernel_rfl)

def spec_Fixed.sig : Sig := ⟨[.val (.int .i64), .val (.int .i64)], [.val .str]⟩
noncomputable def spec_Fixed.ctr : Ctr := ⟨spec_Fixed.sig, fun x => spec_Fixed.f x.1 x.2⟩
noncomputable def spec_Fixed.env : Env := [(92, [spec_l1In.ctr])]
def spec_Fixed.ann : Ann := ⟨[(0, ([(0, .val (.int .i64)), (1, .val (.int .i64)), (5, .val .str), (6, .val (.int .i64))], [(.exit 0, [(0, .val (.int .i64)), (5, .val .str)])]))], [], []⟩
theorem spec_Fixed.ok : CtrOk Tryz.prog 170 spec_Fixed.ctr := fn_sound (A := spec_Fixed.ann) tabOk (EnvOk.cons (ctrs_cons spec_l1In.ok ctrs_nil) EnvOk.nil) mixed (fn := Tryz.f170) (body := bodyOf Tryz.f170) Tryz.func170 (by kernel_rfl) (by kernel_rfl) (fun x => by kernel_rfl)

def spec_Crc.sig : Sig := ⟨[.val .str], [.val (.int .i64)]⟩
noncomputable def spec_Crc.ctr : Ctr := ⟨spec_Crc.sig, fun x => spec_Crc.f x⟩
noncomputable def spec_Crc.env : Env := []
def spec_Crc.ann : Ann := ⟨[(2, ([(0, .val .str), (3, .val (.int .i64)), (4, .val (.int .i64)), (5, .val (.int .i64))], [(.exit 2, [(0, .val .str), (3, .val (.int .i64)), (4, .val (.int .i64))])])), (0, ([(0, .val .str), (3, .val (.int .i64)), (4, .val (.int .i64))], [(.exit 0, [(3, .val (.int .i64))])]))], [], [(11, [(.normal, [(0, .val .str), (3, .val (.int .i64)), (4, .val (.int .i64)), (5, .val (.int .i64))])])]⟩
theorem spec_Crc.ok : CtrOk Tryz.prog 171 spec_Crc.ctr := fn_sound (A := spec_Crc.ann) tabOk EnvOk.nil mixed (fn := Tryz.f171) (body := bodyOf Tryz.f171) Tryz.func171 (by kernel_rfl) (by kernel_rfl) (fun x => by kernel_rfl)

def spec_Frame.sig : Sig := ⟨[.val .str], [.val .str]⟩
noncomputable def spec_Frame.ctr : Ctr := ⟨spec_Frame.sig, fun x => spec_Frame.f x⟩
noncomputable def spec_Frame.env : Env := [(169, [spec_Var.ctr]), (170, [spec_Fixed.ctr]), (171, [spec_Crc.ctr])]
def spec_Frame.ann : Ann := ⟨[], [], []⟩
theorem spec_Frame.ok : CtrOk Tryz.prog 157 spec_Frame.ctr := fn_sound (A := spec_Frame.ann) tabOk (EnvOk.cons (ctrs_cons spec_Var.ok ctrs_nil) (EnvOk.cons (ctrs_cons spec_Fixed.ok ctrs_nil) (EnvOk.cons (ctrs_cons spec_Crc.ok ctrs_nil) EnvOk.nil))) mixed (fn := Tryz.f157) (body := bodyOf Tryz.f157) Tryz.func157 (by kernel_rfl) (by kernel_rfl) (fun x => by kernel_rfl)

def spec_ReadVar.sig : Sig := ⟨[.val .str], [.val (.int .i64), .val (.int .i64)]⟩
noncomputable def spec_ReadVar.ctr : Ctr := ⟨spec_ReadVar.sig, fun x => spec_ReadVar.f x⟩
noncomputable def spec_ReadVar.env : Env := [(169, [spec_Var.ctr])]
def spec_ReadVar.ann : Ann := ⟨[(2, ([(0, .val .str), (4, .val (.int .i64)), (5, .val (.int .i64)), (6, .val (.int .i64))], [(.exit 2, [(0, .val .str), (4, .val (.int .i64)), (5, .val (.int .i64))])])), (0, ([(0, .val .str), (4, .val (.int .i64))], [(.exit 0, []), (.ret, [(2, .val (.int .i64)), (3, .val (.int .i64))])]))], [], []⟩
theorem spec_ReadVar.ok : CtrOk Tryz.prog 175 spec_ReadVar.ctr := fn_sound (A := spec_ReadVar.ann) tabOk (EnvOk.cons (ctrs_cons spec_Var.ok ctrs_nil) EnvOk.nil) mixed (fn := Tryz.f175) (body := bodyOf Tryz.f175) Tryz.func175 (by kernel_rfl) (by kernel_rfl) (fun x => by kernel_rfl)

def spec_Unframe.sig : Sig := ⟨[.val .str], [.val .str, .val (.int .i64)]⟩
noncomputable def spec_Unframe.ctr : Ctr := ⟨spec_Unframe.sig, fun x => spec_Unframe.f x⟩
noncomputable def spec_Unframe.env : Env := [(157, [spec_Frame.ctr]), (175, [spec_ReadVar.ctr])]
def spec_Unframe.ann : Ann := ⟨[], [], []⟩
theorem spec_Unframe.ok : CtrOk Tryz.prog 136 spec_Unframe.ctr := fn_sound (A := spec_Unframe.ann) tabOk (EnvOk.cons (ctrs_cons spec_Frame.ok ctrs_nil) (EnvOk.cons (ctrs_cons spec_ReadVar.ok ctrs_nil) EnvOk.nil)) mixed (fn := Tryz.f136) (body := bodyOf Tryz.f136) Tryz.func136 (by kernel_rfl) (by kernel_rfl) (fun x => by kernel_rfl)

def spec_KeyOk.sig : Sig := ⟨[.val .str], [.val .bool]⟩
noncomputable def spec_KeyOk.ctr : Ctr := ⟨spec_KeyOk.sig, fun x => spec_KeyOk.f x⟩
noncomputable def spec_KeyOk.env : Env := [(92, [spec_l1In.ctr])]
def spec_KeyOk.ann : Ann := ⟨[], [], []⟩
theorem spec_KeyOk.ok : CtrOk Tryz.prog 113 spec_KeyOk.ctr := fn_sound (A := spec_KeyOk.ann) tabOk (EnvOk.cons (ctrs_cons spec_l1In.ok ctrs_nil) EnvOk.nil) mixed (fn := Tryz.f113) (body := bodyOf Tryz.f113) Tryz.func113 (by kernel_rfl) (by kernel_rfl) (fun x => by kernel_rfl)

def spec_RecOk.sig : Sig := ⟨[.val (.pair (.int .i64) (.pair (.int .i64) (.pair .str (.pair .str (.pair (.int .i64) (.int .i64))))))], [.val .bool]⟩
noncomputable def spec_RecOk.ctr : Ctr := ⟨spec_RecOk.sig, fun x => spec_RecOk.f x⟩
noncomputable def spec_RecOk.env : Env := [(92, [spec_l1In.ctr]), (113, [spec_KeyOk.ctr])]
def spec_RecOk.ann : Ann := ⟨[], [], [(1, [(.normal, [(1, .ptr (.pair (.int .i64) (.pair (.int .i64) (.pair .str (.pair .str (.pair (.int .i64) (.int .i64)))))))]), (.ret, [(2, .val .bool)])]), (4, [(.normal, [(1, .ptr (.pair (.int .i64) (.pair (.int .i64) (.pair .str (.pair .str (.pair (.int .i64) (.int .i64))))))), (18, .val (.int .i64)), (19, .val .bool)])])]⟩
theorem spec_RecOk.ok : CtrOk Tryz.prog 193 spec_RecOk.ctr := fn_sound (A := spec_RecOk.ann) tabOk (EnvOk.cons (ctrs_cons spec_l1In.ok ctrs_nil) (EnvOk.cons (ctrs_cons spec_KeyOk.ok ctrs_nil) EnvOk.nil)) mixed (fn := Tryz.f193) (body := bodyOf Tryz.f193) Tryz.func193 (by kernel_rfl) (by kernel_rfl) (fun x => by kernel_rfl)

def spec_ShowRec.sig : Sig := ⟨[.val (.pair (.int .i64) (.pair (.int .i64) (.pair .str (.pair .str (.pair (.int .i64) (.int .i64))))))], [.val .str]⟩
noncomputable def spec_ShowRec.ctr : Ctr := ⟨spec_ShowRec.sig, fun x => spec_ShowRec.f x⟩
noncomputable def spec_ShowRec.env : Env := [(169, [spec_Var.ctr]), (170, [spec_Fixed.ctr]), (193, [spec_RecOk.ctr])]
def spec_ShowRec.ann : Ann := ⟨[], [], [(5, [(.normal, [(1, .ptr (.pair (.int .i64) (.pair (.int .i64) (.pair .str (.pair .str (.pair (.int .i64) (.int .i64))))))), (3, .val .str), (15, .val (.int .i64)), (16, .val .bool)])])]⟩
theorem spec_ShowRec.ok : CtrOk Tryz.prog 158 spec_ShowRec.ctr := fn_sound (A := spec_ShowRec.ann) tabOk (EnvOk.cons (ctrs_cons spec_Var.ok ctrs_nil) (EnvOk.cons (ctrs_cons spec_Fixed.ok ctrs_nil) (EnvOk.cons (ctrs_cons spec_RecOk.ok ctrs_nil) EnvOk.nil))) mixed (fn := Tryz.f158) (body := bodyOf Tryz.f158) Tryz.func158 (by kernel_rfl) (by kernel_rfl) (fun x => by kernel_rfl)

def spec_l5Text.sig : Sig := ⟨[.val .str], [.val .str, .val .str, .val .bool]⟩
noncomputable def spec_l5Text.ctr : Ctr := ⟨spec_l5Text.sig, fun x => spec_l5Text.f x⟩
noncomputable def spec_l5Text.env : Env := [(175, [spec_ReadVar.ctr])]
def spec_l5Text.ann : Ann := ⟨[], [], []⟩
theorem spec_l5Text.ok : CtrOk Tryz.prog 176 spec_l5Text.ctr := fn_sound (A := spec_l5Text.ann) tabOk (EnvOk.cons (ctrs_cons spec_ReadVar.ok ctrs_nil) EnvOk.nil) mixed (fn := Tryz.f176) (body := bodyOf Tryz.f176) Tryz.func176 (by kernel_rfl) (by kernel_rfl) (fun x => by kernel_rfl)

def spec_ReadFixed.sig : Sig := ⟨[.val .str, .val (.int .i64)], [.val (.int .i64), .val .bool]⟩
noncomputable def spec_ReadFixed.ctr : Ctr := ⟨spec_ReadFixed.sig, fun x => spec_ReadFixed.f x.1 x.2⟩
noncomputable def spec_ReadFixed.env : Env := [(92, [spec_l1In.ctr])]
def spec_ReadFixed.ann : Ann := ⟨[(0, ([(0, .val .str), (1, .val (.int .i64)), (6, .val (.int .i64)), (7, .val (.int .i64))], [(.exit 0, [(6, .val (.int .i64))])]))], [], []⟩
theorem spec_ReadFixed.ok : CtrOk Tryz.prog 177 spec_ReadFixed.ctr := fn_sound (A := spec_ReadFixed.ann) tabOk (EnvOk.cons (ctrs_cons spec_l1In.ok ctrs_nil) EnvOk.nil) mixed (fn := Tryz.f177) (body := bodyOf Tryz.f177) Tryz.func177 (by kernel_rfl) (by kernel_rfl) (fun x => by kernel_rfl)

def spec_ReadRec.sig : Sig := ⟨[.val .str], [.val (.pair (.int .i64) (.pair (.int .i64) (.pair .str (.pair .str (.pair (.int .i64) (.int .i64)))))), .val .bool]⟩
noncomputable def spec_ReadRec.ctr : Ctr := ⟨spec_ReadRec.sig, fun x => spec_ReadRec.f x⟩
noncomputable def spec_ReadRec.env : Env := [(158, [spec_ShowRec.ctr]), (175, [spec_ReadVar.ctr]), (176, [spec_l5Text.ctr]), (177, [spec_ReadFixed.ctr])]
def spec_ReadRec.ann : Ann := ⟨[], [(0, [(.normal, [(0, .val .str), (2, .ptr (.pair (.int .i64) (.pair (.int .i64) (.pair .str (.pair .str (.pair (.int .i64) (.int .i64))))))), (8, .ptr (.pair (.int .i64) (.pair (.int .i64) (.pair .str (.pair .str (.pair (.int .i64) (.int .i64)))))))])])], [(12, [(.normal, [(0, .val .str), (2, .ptr (.pair (.int .i64) (.pair (.int .i64) (.pair .str (.pair .str (.pair (.int .i64) (.int .i64))))))), (8, .ptr (.pair (.int .i64) (.pair (.int .i64) (.pair .str (.pair .str (.pair (.int .i64) (.int .i64))))))), (9, .val .str), (50, .val (.int .i64)), (67, .val .bool)])]), (18, [(.normal, [(0, .val .str), (2, .ptr (.pair (.int .i64) (.pair (.int .i64) (.pair .str (.pair .str (.pair (.int .i64) (.int .i64))))))), (8, .ptr (.pair (.int .i64) (.pair (.int .i64) (.pair .str (.pair .str (.pair (.int .i64) (.int .i64)))))))])])]⟩
theorem spec_ReadRec.ok : CtrOk Tryz.prog 137 spec_ReadRec.ctr := fn_sound (A := spec_ReadRec.ann) tabOk (EnvOk.cons (ctrs_cons spec_ShowRec.ok ctrs_nil) (EnvOk.cons (ctrs_cons spec_ReadVar.ok ctrs_nil) (EnvOk.cons (ctrs_cons spec_l5Text.ok ctrs_nil) (EnvOk.cons (ctrs_cons spec_ReadFixed.ok ctrs_nil) EnvOk.nil)))) mixed (fn := Tryz.f137) (body := bodyOf Tryz.f137) Tryz.func137 (by kernel_rfl) (by kernel_rfl) (fun x => by kernel_rfl)

def spec_RecAt.sig : Sig := ⟨[.val .str, .val (.int .i64), .val (.int .i64)], [.val (.pair (.int .i64) (.pair (.int .i64) (.pair .str (.pair .str (.pair (.int .i64) (.int .i64)))))), .val .bool]⟩
noncomputable def spec_RecAt.ctr : Ctr := ⟨spec_RecAt.sig, fun x => spec_RecAt.f x.1 x.2.1 x.2.2⟩
noncomputable def spec_RecAt.env : Env := [(92, [spec_l1In.ctr]), (136, [spec_Unframe.ctr]), (137, [spec_ReadRec.ctr])]
def spec_RecAt.ann : Ann := ⟨[], [], []⟩
theorem spec_RecAt.ok : CtrOk Tryz.prog 77 spec_RecAt.ctr := fn_sound (A := spec_RecAt.ann) tabOk (EnvOk.cons (ctrs_cons spec_l1In.ok ctrs_nil) (EnvOk.cons (ctrs_cons spec_Unframe.ok ctrs_nil) (EnvOk.cons (ctrs_cons spec_ReadRec.ok ctrs_nil) EnvOk.nil))) mixed (fn := Tryz.f77) (body := bodyOf Tryz.f77) Tryz.func77 (by kernel_rfl) (by kernel_rfl) (fun x => by kernel_rfl)

def spec_Get.sig : Sig := ⟨[.val (.pair (.pair (.int .i64) (.sl false (.int .i64))) (.pair (.sl false (.pair .str (.pair (.int .i64) (.pair (.int .i64) (.pair (.int .i64) (.int .i64)))))) (.pair (.int .i64) (.pair (.int .i64) (.int .i64))))), .val (.pair (.sl false (.pair .str (.pair .str (.int .i64)))) (.pair (.int .i64) (.pair (.int .i64) .bool))), .val .str], [.val (.pair .str (.pair .str (.int .i64))), .val (.int .i64)]⟩
noncomputable def spec_Get.ctr : Ctr := ⟨spec_Get.sig, fun x => spec_Get.f x.1 x.2.1 x.2.2⟩
noncomputable def spec_Get.env : Env := [(74, [spec_DirGet.ctr]), (75, [spec_FileText.ctr]), (76, [spec_SegName.ctr]), (77, [spec_RecAt.ctr])]
def spec_Get.ann : Ann := ⟨[], [], []⟩
theorem spec_Get.ok : CtrOk Tryz.prog 35 spec_Get.ctr := fn_sound (A := spec_Get.ann) tabOk (EnvOk.cons (ctrs_cons spec_DirGet.ok ctrs_nil) (EnvOk.cons (ctrs_cons spec_FileText.ok ctrs_nil) (EnvOk.cons (ctrs_cons spec_SegName.ok ctrs_nil) (EnvOk.cons (ctrs_cons spec_RecAt.ok ctrs_nil) EnvOk.nil)))) mixed (fn := Tryz.f35) (body := bodyOf Tryz.f35) Tryz.func35 (by kernel_rfl) (by kernel_rfl) (fun x => by kernel_rfl)

def spec_Dump.sig : Sig := ⟨[.val (.pair (.pair (.int .i64) (.sl false (.int .i64))) (.pair (.sl false (.pair .str (.pair (.int .i64) (.pair (.int .i64) (.pair (.int .i64) (.int .i64)))))) (.pair (.int .i64) (.pair (.int .i64) (.int .i64))))), .val (.pair (.sl false (.pair .str (.pair .str (.int .i64)))) (.pair (.int .i64) (.pair (.int .i64) .bool)))], [.val (.sl true (.pair .str (.pair .str (.int .i64)))), .val (.int .i64)]⟩
noncomputable def spec_Dump.ctr : Ctr := ⟨spec_Dump.sig, fun x => spec_Dump.f x.1 x.2⟩
noncomputable def spec_Dump.env : Env := [(35, [spec_Get.ctr])]
def spec_Dump.ann : Ann := ⟨[(0, ([(2, .ptr (.pair (.pair (.int .i64) (.sl false (.int .i64))) (.pair (.sl false (.pair .str (.pair (.int .i64) (.pair (.int .i64) (.pair (.int .i64) (.int .i64)))))) (.pair (.int .i64) (.pair (.int .i64) (.int .i64)))))), (3, .ptr (.pair (.sl false (.pair .str (.pair .str (.int .i64)))) (.pair (.int .i64) (.pair (.int .i64) .bool)))), (6, .val (.sl true (.pair .str (.pair .str (.int .i64))))), (7, .val (.int .i64))], [(.exit 0, [(6, .val (.sl true (.pair .str (.pair .str (.int .i64)))))]), (.ret, [(4, .val (.sl true (.pair .str (.pair .str (.int .i64))))), (5, .val (.int .i64))])]))], [], []⟩
theorem spec_Dump.ok : CtrOk Tryz.prog 9 spec_Dump.ctr := fn_sound (A := spec_Dump.ann) tabOk (EnvOk.cons (ctrs_cons spec_Get.ok ctrs_nil) EnvOk.nil) mixed (fn := Tryz.f9) (body := bodyOf Tryz.f9) Tryz.func9 (by kernel_rfl) (by kernel_rfl) (fun x => by kernel_rfl)

def spec_LiveOk.sig : Sig := ⟨[.val (.pair (.int .i64) (.sl false (.int .i64)))], [.val .bool]⟩
noncomputable def spec_LiveOk.ctr : Ctr := ⟨spec_LiveOk.sig, fun x => spec_LiveOk.f x⟩
noncomputable def spec_LiveOk.env : Env := [(92, [spec_l1In.ctr])]
def spec_LiveOk.ann : Ann := ⟨[(0, ([(1, .ptr (.pair (.int .i64) (.sl false (.int .i64)))), (3, .val (.int .i64))], [(.exit 0, []), (.ret, [(2, .val .bool)])]))], [], [(6, [(.normal, [(1, .ptr (.pair (.int .i64) (.sl false (.int .i64)))), (3, .val (.int .i64))]), (.ret, [(2, .val .bool)])])]⟩
theorem spec_LiveOk.ok : CtrOk Tryz.prog 90 spec_LiveOk.ctr := fn_sound (A := spec_LiveOk.ann) tabOk (EnvOk.cons (ctrs_cons spec_l1In.ok ctrs_nil) EnvOk.nil) mixed (fn := Tryz.f90) (body := bodyOf Tryz.f90) Tryz.func90 (by kernel_rfl) (by kernel_rfl) (fun x => by kernel_rfl)

def spec_DirOk.sig : Sig := ⟨[.val (.sl false (.pair .str (.pair (.int .i64) (.pair (.int .i64) (.pair (.int .i64) (.int .i64))))))], [.val .bool]⟩
noncomputable def spec_DirOk.ctr : Ctr := ⟨spec_DirOk.sig, fun x => spec_DirOk.f x⟩
noncomputable def spec_DirOk.env : Env := [(92, [spec_l1In.ctr]), (113, [spec_KeyOk.ctr])]
def spec_DirOk.ann : Ann := ⟨[(0, ([(0, .val (.sl false (.pair .str (.pair (.int .i64) (.pair (.int .i64) (.pair (.int .i64) (.int .i64))))))), (3, .val (.int .i64))], [(.exit 0, []), (.ret, [(2, .val .bool)])]))], [], [(7, [(.normal, [(0, .val (.sl false (.pair .str (.pair (.int .i64) (.pair (.int .i64) (.pair (.int .i64) (.int .i64))))))), (3, .val (.int .i64))]), (.ret, [(2, .val .bool)])])]⟩
theorem spec_DirOk.ok : CtrOk Tryz.prog 91 spec_DirOk.ctr := fn_sound (A := spec_DirOk.ann) tabOk (EnvOk.cons (ctrs_cons spec_l1In.ok ctrs_nil) (EnvOk.cons (ctrs_cons spec_KeyOk.ok ctrs_nil) EnvOk.nil)) mixed (fn := Tryz.f91) (body := bodyOf Tryz.f91) Tryz.func91 (by kernel_rfl) (by kernel_rfl) (fun x => by kernel_rfl)

def spec_ScanRecs.sig : Sig := ⟨[.val .str], [.val (.sl true (.pair (.int .i64) (.pair (.int .i64) (.pair (.int .i64) (.pair (.int .i64) (.pair .str (.pair .str (.pair (.int .i64) (.int .i64))))))))), .val (.int .i64)]⟩
noncomputable def spec_ScanRecs.ctr : Ctr := ⟨spec_ScanRecs.sig, fun x => spec_ScanRecs.f x⟩
noncomputable def spec_ScanRecs.env : Env := [(136, [spec_Unframe.ctr]), (137, [spec_ReadRec.ctr])]
def spec_ScanRecs.ann : Ann := ⟨[(0, ([(0, .val .str), (4, .val (.sl true (.pair (.int .i64) (.pair (.int .i64) (.pair (.int .i64) (.pair (.int .i64) (.pair .str (.pair .str (.pair (.int .i64) (.int .i64)))))))))), (5, .val (.int .i64))], [(.exit 0, [(4, .val (.sl true (.pair (.int .i64) (.pair (.int .i64) (.pair (.int .i64) (.pair (.int .i64) (.pair .str (.pair .str (.pair (.int .i64) (.int .i64)))))))))), (5, .val (.int .i64))]), (.ret, [(2, .val (.sl true (.pair (.int .i64) (.pair (.int .i64) (.pair (.int .i64) (.pair (.int .i64) (.pair .str (.pair .str (.pair (.int .i64) (.int .i64)))))))))), (3, .val (.int .i64))])]))], [], []⟩
theorem spec_ScanRecs.ok : CtrOk Tryz.prog 93 spec_ScanRecs.ctr := fn_sound (A := spec_ScanRecs.ann) tabOk (EnvOk.cons (ctrs_cons spec_Unframe.ok ctrs_nil) (EnvOk.cons (ctrs_cons spec_ReadRec.ok ctrs_nil) EnvOk.nil)) mixed (fn := Tryz.f93) (body := bodyOf Tryz.f93) Tryz.func93 (by kernel_rfl) (by kernel_rfl) (fun x => by kernel_rfl)

def spec_StoreOk.sig : Sig := ⟨[.val (.pair (.pair (.int .i64) (.sl false (.int .i64))) (.pair (.sl false (.pair .str (.pair (.int .i64) (.pair (.int .i64) (.pair (.int .i64) (.int .i64)))))) (.pair (.int .i64) (.pair (.int .i64) (.int .i64))))), .val (.pair (.sl false (.pair .str (.pair .str (.int .i64)))) (.pair (.int .i64) (.pair (.int .i64) .bool)))], [.val .bool]⟩
noncomputable def spec_StoreOk.ctr : Ctr := ⟨spec_StoreOk.sig, fun x => spec_StoreOk.f x.1 x.2⟩
noncomputable def spec_StoreOk.env : Env := [(75, [spec_FileText.ctr]), (76, [spec_SegName.ctr]), (77, [spec_RecAt.ctr]), (89, [spec_DiskOk.ctr]), (90, [spec_LiveOk.ctr]), (91, [spec_DirOk.ctr]), (92, [spec_l1In.ctr]), (93, [spec_ScanRecs.ctr])]
def spec_StoreOk.ann : Ann := ⟨[(0, ([(2, .ptr (.pair (.pair (.int .i64) (.sl false (.int .i64))) (.pair (.sl false (.pair .str (.pair (.int .i64) (.pair (.int .i64) (.pair (.int .i64) (.int .i64)))))) (.pair (.int .i64) (.pair (.int .i64) (.int .i64)))))), (3, .ptr (.pair (.sl false (.pair .str (.pair .str (.int .i64)))) (.pair (.int .i64) (.pair (.int .i64) .bool)))), (5, .val (.int .i64))], [(.exit 0, [(2, .ptr (.pair (.pair (.int .i64) (.sl false (.int .i64))) (.pair (.sl false (.pair .str (.pair (.int .i64) (.pair (.int .i64) (.pair (.int .i64) (.int .i64)))))) (.pair (.int .i64) (.pair (.int .i64) (.int .i64)))))), (3, .ptr (.pair (.sl false (.pair .str (.pair .str (.int .i64)))) (.pair (.int .i64) (.pair (.int .i64) .bool))))]), (.ret, [(4, .val .bool)])])), (2, ([(2, .ptr (.pair (.pair (.int .i64) (.sl false (.int .i64))) (.pair (.sl false (.pair .str (.pair (.int .i64) (.pair (.int .i64) (.pair (.int .i64) (.int .i64)))))) (.pair (.int .i64) (.pair (.int .i64) (.int .i64)))))), (3, .ptr (.pair (.sl false (.pair .str (.pair .str (.int .i64)))) (.pair (.int .i64) (.pair (.int .i64) .bool)))), (10, .val (.int .i64))], [(.exit 2, []), (.ret, [(4, .val .bool)])]))], [], [(8, [(.normal, [(2, .ptr (.pair (.pair (.int .i64) (.sl false (.int .i64))) (.pair (.sl false (.pair .str (.pair (.int .i64) (.pair (.int .i64) (.pair (.int .i64) (.int .i64)))))) (.pair (.int .i64) (.pair (.int .i64) (.int .i64)))))), (3, .ptr (.pair (.sl false (.pair .str (.pair .str (.int .i64)))) (.pair (.int .i64) (.pair (.int .i64) .bool)))), (5, .val (.int .i64))]), (.ret, [(4, .val .bool)])]), (16, [(.normal, [(2, .ptr (.pair (.pair (.int .i64) (.sl false (.int .i64))) (.pair (.sl false (.pair .str (.pair (.int .i64) (.pair (.int .i64) (.pair (.int .i64) (.int .i64)))))) (.pair (.int .i64) (.pair (.int .i64) (.int .i64)))))), (3, .ptr (.pair (.sl false (.pair .str (.pair .str (.int .i64)))) (.pair (.int .i64) (.pair (.int .i64) .bool)))), (10, .val (.int .i64))]), (.ret, [(4, .val .bool)])])]⟩
theorem spec_StoreOk.ok : CtrOk Tryz.prog 49 spec_StoreOk.ctr := fn_sound (A := spec_StoreOk.ann) tabOk (EnvOk.cons (ctrs_cons spec_FileText.ok ctrs_nil) (EnvOk.cons (ctrs_cons spec_SegName.ok ctrs_nil) (EnvOk.cons (ctrs_cons spec_RecAt.ok ctrs_nil) (EnvOk.cons (ctrs_cons spec_DiskOk.ok ctrs_nil) (EnvOk.cons (ctrs_cons spec_LiveOk.ok ctrs_nil) (EnvOk.cons (ctrs_cons spec_DirOk.ok ctrs_nil) (EnvOk.cons (ctrs_cons spec_l1In.ok ctrs_nil) (EnvOk.cons (ctrs_cons spec_ScanRecs.ok ctrs_nil) EnvOk.nil)))))))) mixed (fn := Tryz.f49) (body := bodyOf Tryz.f49) Tryz.func49 (by kernel_rfl) (by kernel_rfl) (fun x => by kernel_rfl)

def spec_l12Copy.sig : Sig := ⟨[.val (.pair (.pair (.int .i64) (.sl false (.int .i64))) (.pair (.sl false (.pair .str (.pair (.int .i64) (.pair (.int .i64) (.pair (.int .i64) (.int .i64)))))) (.pair (.int .i64) (.pair (.int .i64) (.int .i64)))))], [.val (.pair (.pair (.int .i64) (.sl true (.int .i64))) (.pair (.sl true (.pair .str (.pair (.int .i64) (.pair (.int .i64) (.pair (.int .i64) (.int .i64)))))) (.pair (.int .i64) (.pair (.int .i64) (.int .i64)))))]⟩
noncomputable def spec_l12Copy.ctr : Ctr := ⟨spec_l12Copy.sig, fun x => spec_l12Copy.f x⟩
noncomputable def spec_l12Copy.env : Env := []
def spec_l12Copy.ann : Ann := ⟨[], [], []⟩
theorem spec_l12Copy.ok : CtrOk Tryz.prog 50 spec_l12Copy.ctr := fn_sound (A := spec_l12Copy.ann) tabOk EnvOk.nil mixed (fn := Tryz.f50) (body := bodyOf Tryz.f50) Tryz.func50 (by kernel_rfl) (by kernel_rfl) (fun x => by kernel_rfl)

def spec_l3Copy.sig : Sig := ⟨[.val (.pair (.sl false (.pair .str (.pair .str (.int .i64)))) (.pair (.int .i64) (.pair (.int .i64) .bool)))], [.val (.pair (.sl true (.pair .str (.pair .str (.int .i64)))) (.pair (.int .i64) (.pair (.int .i64) .bool)))]⟩
noncomputable def spec_l3Copy.ctr : Ctr := ⟨spec_l3Copy.sig, fun x => spec_l3Copy.f x⟩
noncomputable def spec_l3Copy.env : Env := []
def spec_l3Copy.ann : Ann := ⟨[], [], []⟩
theorem spec_l3Copy.ok : CtrOk Tryz.prog 51 spec_l3Copy.ctr := fn_sound (A := spec_l3Copy.ann) tabOk EnvOk.nil mixed (fn := Tryz.f51) (body := bodyOf Tryz.f51) Tryz.func51 (by kernel_rfl) (by kernel_rfl) (fun x => by kernel_rfl)

def spec_l11Code.sig : Sig := ⟨[.val (.int .i64)], [.val (.int .i64)]⟩
noncomputable def spec_l11Code.ctr : Ctr := ⟨spec_l11Code.sig, fun x => spec_l11Code.f x⟩
noncomputable def spec_l11Code.env : Env := []
def spec_l11Code.ann : Ann := ⟨[], [], []⟩
theorem spec_l11Code.ok : CtrOk Tryz.prog 96 spec_l11Code.ctr := fn_sound (A := spec_l11Code.ann) tabOk EnvOk.nil mixed (fn := Tryz.f96) (body := bodyOf Tryz.f96) Tryz.func96 (by kernel_rfl) (by kernel_rfl) (fun x => by kernel_rfl)

def spec_l3Begin.sig : Sig := ⟨[.val (.pair (.sl false (.pair .str (.pair .str (.int .i64)))) (.pair (.int .i64) (.pair (.int .i64) .bool)))], [.val (.pair (.sl true (.pair .str (.pair .str (.int .i64)))) (.pair (.int .i64) (.pair (.int .i64) .bool))), .val (.int .i64)]⟩
noncomputable def spec_l3Begin.ctr : Ctr := ⟨spec_l3Begin.sig, fun x => spec_l3Begin.f x⟩
noncomputable def spec_l3Begin.env : Env := [(51, [spec_l3Copy.ctr]), (89, [spec_DiskOk.ctr])]
def spec_l3Begin.ann : Ann := ⟨[], [], []⟩
theorem spec_l3Begin.ok : CtrOk Tryz.prog 144 spec_l3Begin.ctr := fn_sound (A := spec_l3Begin.ann) tabOk (EnvOk.cons (ctrs_cons spec_l3Copy.ok ctrs_nil) (EnvOk.cons (ctrs_cons spec_DiskOk.ok ctrs_nil) EnvOk.nil)) mixed (fn := Tryz.f144) (body := bodyOf Tryz.f144) Tryz.func144 (by kernel_rfl) (by kernel_rfl) (fun x => by kernel_rfl)

def spec_l3Without.sig : Sig := ⟨[.val (.sl false (.pair .str (.pair .str (.int .i64)))), .val (.int .i64)], [.val (.sl true (.pair .str (.pair .str (.int .i64))))]⟩
noncomputable def spec_l3Without.ctr : Ctr := ⟨spec_l3Without.sig, fun x => spec_l3Without.f x.1 x.2⟩
noncomputable def spec_l3Without.env : Env := []
def spec_l3Without.ann : Ann := ⟨[], [], []⟩
theorem spec_l3Without.ok : CtrOk Tryz.prog 185 spec_l3Without.ctr := fn_sound (A := spec_l3Without.ann) tabOk EnvOk.nil mixed (fn := Tryz.f185) (body := bodyOf Tryz.f185) Tryz.func185 (by kernel_rfl) (by kernel_rfl) (fun x => by kernel_rfl)

def spec_Remove.sig : Sig := ⟨[.val (.pair (.sl false (.pair .str (.pair .str (.int .i64)))) (.pair (.int .i64) (.pair (.int .i64) .bool))), .val .str], [.val (.pair (.sl true (.pair .str (.pair .str (.int .i64)))) (.pair (.int .i64) (.pair (.int .i64) .bool))), .val (.int .i64)]⟩
noncomputable def spec_Remove.ctr : Ctr := ⟨spec_Remove.sig, fun x => spec_Remove.f x.1 x.2⟩
noncomputable def spec_Remove.env : Env := [(134, [spec_l3Find.ctr]), (144, [spec_l3Begin.ctr]), (185, [spec_l3Without.ctr])]
def spec_Remove.ann : Ann := ⟨[], [], []⟩
theorem spec_Remove.ok : CtrOk Tryz.prog 145 spec_Remove.ctr := fn_sound (A := spec_Remove.ann) tabOk (EnvOk.cons (ctrs_cons spec_l3Find.ok ctrs_nil) (EnvOk.cons (ctrs_cons spec_l3Begin.ok ctrs_nil) (EnvOk.cons (ctrs_cons spec_l3Without.ok ctrs_nil) EnvOk.nil))) mixed (fn := Tryz.f145) (body := bodyOf Tryz.f145) Tryz.func145 (by kernel_rfl) (by kernel_rfl) (fun x => by kernel_rfl)

def spec_l3Insert.sig : Sig := ⟨[.val (.sl false (.pair .str (.pair .str (.int .i64)))), .val (.pair .str (.pair .str (.int .i64)))], [.val (.sl true (.pair .str (.pair .str (.int .i64))))]⟩
noncomputable def spec_l3Insert.ctr : Ctr := ⟨spec_l3Insert.sig, fun x => spec_l3Insert.f x.1 x.2⟩
noncomputable def spec_l3Insert.env : Env := []
def spec_l3Insert.ann : Ann := ⟨[(0, ([(0, .val (.sl false (.pair .str (.pair .str (.int .i64))))), (3, .ptr (.pair .str (.pair .str (.int .i64)))), (5, .val (.sl true (.pair .str (.pair .str (.int .i64))))), (6, .val .bool), (7, .val (.int .i64))], [(.exit 0, [(3, .ptr (.pair .str (.pair .str (.int .i64)))), (5, .val (.sl true (.pair .str (.pair .str (.int .i64))))), (6, .val .bool)])]))], [], [(6, [(.normal, [(0, .val (.sl false (.pair .str (.pair .str (.int .i64))))), (3, .ptr (.pair .str (.pair .str (.int .i64)))), (5, .val (.sl true (.pair .str (.pair .str (.int .i64))))), (6, .val .bool), (7, .val (.int .i64))])])]⟩
theorem spec_l3Insert.ok : CtrOk Tryz.prog 186 spec_l3Insert.ctr := fn_sound (A := spec_l3Insert.ann) tabOk EnvOk.nil mixed (fn := Tryz.f186) (body := bodyOf Tryz.f186) Tryz.func186 (by kernel_rfl) (by kernel_rfl) (fun x => by kernel_rfl)

def spec_Create.sig : Sig := ⟨[.val (.pair (.sl false (.pair .str (.pair .str (.int .i64)))) (.pair (.int .i64) (.pair (.int .i64) .bool))), .val .str], [.val (.pair (.sl true (.pair .str (.pair .str (.int .i64)))) (.pair (.int .i64) (.pair (.int .i64) .bool))), .val (.int .i64)]⟩
noncomputable def spec_Create.ctr : Ctr := ⟨spec_Create.sig, fun x => spec_Create.f x.1 x.2⟩
noncomputable def spec_Create.env : Env := [(134, [spec_l3Find.ctr]), (143, [spec_NameOk.ctr]), (144, [spec_l3Begin.ctr]), (186, [spec_l3Insert.ctr])]
def spec_Create.ann : Ann := ⟨[], [], []⟩
theorem spec_Create.ok : CtrOk Tryz.prog 146 spec_Create.ctr := fn_sound (A := spec_Create.ann) tabOk (EnvOk.cons (ctrs_cons spec_l3Find.ok ctrs_nil) (EnvOk.cons (ctrs_cons spec_NameOk.ok ctrs_nil) (EnvOk.cons (ctrs_cons spec_l3Begin.ok ctrs_nil) (EnvOk.cons (ctrs_cons spec_l3Insert.ok ctrs_nil) EnvOk.nil)))) mixed (fn := Tryz.f146) (body := bodyOf Tryz.f146) Tryz.func146 (by kernel_rfl) (by kernel_rfl) (fun x => by kernel_rfl)

def spec_l11Fresh.sig : Sig := ⟨[.val (.pair (.sl false (.pair .str (.pair .str (.int .i64)))) (.pair (.int .i64) (.pair (.int .i64) .bool))), .val .str], [.val (.pair (.sl true (.pair .str (.pair .str (.int .i64)))) (.pair (.int .i64) (.pair (.int .i64) .bool))), .val (.int .i64)]⟩
noncomputable def spec_l11Fresh.ctr : Ctr := ⟨spec_l11Fresh.sig, fun x => spec_l11Fresh.f x.1 x.2⟩
noncomputable def spec_l11Fresh.env : Env := [(134, [spec_l3Find.ctr]), (145, [spec_Remove.ctr]), (146, [spec_Create.ctr])]
def spec_l11Fresh.ann : Ann := ⟨[], [], [(1, [(.normal, [(1, .val .str), (2, .ptr (.pair (.sl false (.pair .str (.pair .str (.int .i64)))) (.pair (.int .i64) (.pair (.int .i64) .bool)))), (4, .ptr (.pair (.sl true (.pair .str (.pair .str (.int .i64)))) (.pair (.int .i64) (.pair (.int .i64) .bool))))]), (.ret, [(4, .ptr (.pair (.sl true (.pair .str (.pair .str (.int .i64)))) (.pair (.int .i64) (.pair (.int .i64) .bool)))), (5, .val (.int .i64))])])]⟩
theorem spec_l11Fresh.ok : CtrOk Tryz.prog 97 spec_l11Fresh.ctr := fn_sound (A := spec_l11Fresh.ann) tabOk (EnvOk.cons (ctrs_cons spec_l3Find.ok ctrs_nil) (EnvOk.cons (ctrs_cons spec_Remove.ok ctrs_nil) (EnvOk.cons (ctrs_cons spec_Create.ok ctrs_nil) EnvOk.nil))) mixed (fn := Tryz.f97) (body := bodyOf Tryz.f97) Tryz.func97 (by kernel_rfl) (by kernel_rfl) (fun x => by kernel_rfl)

def spec_Sync.sig : Sig := ⟨[.val (.pair (.sl false (.pair .str (.pair .str (.int .i64)))) (.pair (.int .i64) (.pair (.int .i64) .bool))), .val .str], [.val (.pair (.sl true (.pair .str (.pair .str (.int .i64)))) (.pair (.int .i64) (.pair (.int .i64) .bool))), .val (.int .i64)]⟩
noncomputable def spec_Sync.ctr : Ctr := ⟨spec_Sync.sig, fun x => spec_Sync.f x.1 x.2⟩
noncomputable def spec_Sync.env : Env := [(134, [spec_l3Find.ctr]), (144, [spec_l3Begin.ctr])]
def spec_Sync.ann : Ann := ⟨[], [], []⟩
theorem spec_Sync.ok : CtrOk Tryz.prog 94 spec_Sync.ctr := fn_sound (A := spec_Sync.ann) tabOk (EnvOk.cons (ctrs_cons spec_l3Find.ok ctrs_nil) (EnvOk.cons (ctrs_cons spec_l3Begin.ok ctrs_nil) EnvOk.nil)) mixed (fn := Tryz.f94) (body := bodyOf Tryz.f94) Tryz.func94 (by kernel_rfl) (by kernel_rfl) (fun x => by kernel_rfl)

def spec_Append.sig : Sig := ⟨[.val (.pair (.sl false (.pair .str (.pair .str (.int .i64)))) (.pair (.int .i64) (.pair (.int .i64) .bool))), .val .str, .val .str], [.val (.pair (.sl true (.pair .str (.pair .str (.int .i64)))) (.pair (.int .i64) (.pair (.int .i64) .bool))), .val (.int .i64)]⟩
noncomputable def spec_Append.ctr : Ctr := ⟨spec_Append.sig, fun x => spec_Append.f x.1 x.2.1 x.2.2⟩
noncomputable def spec_Append.env : Env := [(134, [spec_l3Find.ctr]), (142, [spec_l3Used.ctr]), (144, [spec_l3Begin.ctr])]
def spec_Append.ann : Ann := ⟨[], [], []⟩
theorem spec_Append.ok : CtrOk Tryz.prog 159 spec_Append.ctr := fn_sound (A := spec_Append.ann) tabOk (EnvOk.cons (ctrs_cons spec_l3Find.ok ctrs_nil) (EnvOk.cons (ctrs_cons spec_l3Used.ok ctrs_nil) (EnvOk.cons (ctrs_cons spec_l3Begin.ok ctrs_nil) EnvOk.nil))) mixed (fn := Tryz.f159) (body := bodyOf Tryz.f159) Tryz.func159 (by kernel_rfl) (by kernel_rfl) (fun x => by kernel_rfl)

def spec_l11File.sig : Sig := ⟨[.val (.pair (.sl false (.pair .str (.pair .str (.int .i64)))) (.pair (.int .i64) (.pair (.int .i64) .bool))), .val .str, .val .str], [.val (.pair (.sl true (.pair .str (.pair .str (.int .i64)))) (.pair (.int .i64) (.pair (.int .i64) .bool))), .val (.int .i64)]⟩
noncomputable def spec_l11File.ctr : Ctr := ⟨spec_l11File.sig, fun x => spec_l11File.f x.1 x.2.1 x.2.2⟩
noncomputable def spec_l11File.env : Env := [(94, [spec_Sync.ctr]), (97, [spec_l11Fresh.ctr]), (159, [spec_Append.ctr])]
def spec_l11File.ann : Ann := ⟨[], [], [(2, [(.normal, [(1, .val .str), (6, .ptr (.pair (.sl true (.pair .str (.pair .str (.int .i64)))) (.pair (.int .i64) (.pair (.int .i64) .bool)))), (8, .ptr (.pair (.sl true (.pair .str (.pair .str (.int .i64)))) (.pair (.int .i64) (.pair (.int .i64) .bool)))), (9, .val (.int .i64))])])]⟩
theorem spec_l11File.ok : CtrOk Tryz.prog 126 spec_l11File.ctr := fn_sound (A := spec_l11File.ann) tabOk (EnvOk.cons (ctrs_cons spec_Sync.ok ctrs_nil) (EnvOk.cons (ctrs_cons spec_l11Fresh.ok ctrs_nil) (EnvOk.cons (ctrs_cons spec_Append.ok ctrs_nil) EnvOk.nil))) mixed (fn := Tryz.f126) (body := bodyOf Tryz.f126) Tryz.func126 (by kernel_rfl) (by kernel_rfl) (fun x => by kernel_rfl)

def spec_ShowLive.sig : Sig := ⟨[.val (.pair (.int .i64) (.sl false (.int .i64)))], [.val .str]⟩
noncomputable def spec_ShowLive.ctr : Ctr := ⟨spec_ShowLive.sig, fun x => spec_ShowLive.f x⟩
noncomputable def spec_ShowLive.env : Env := [(90, [spec_LiveOk.ctr]), (157, [spec_Frame.ctr]), (169, [spec_Var.ctr])]
def spec_ShowLive.ann : Ann := ⟨[(0, ([(1, .ptr (.pair (.int .i64) (.sl false (.int .i64)))), (3, .val .str), (4, .val (.int .i64))], [(.exit 0, [(3, .val .str)])]))], [], []⟩
theorem spec_ShowLive.ok : CtrOk Tryz.prog 147 spec_ShowLive.ctr := fn_sound (A := spec_ShowLive.ann) tabOk (EnvOk.cons (ctrs_cons spec_LiveOk.ok ctrs_nil) (EnvOk.cons (ctrs_cons spec_Frame.ok ctrs_nil) (EnvOk.cons (ctrs_cons spec_Var.ok ctrs_nil) EnvOk.nil))) mixed (fn := Tryz.f147) (body := bodyOf Tryz.f147) Tryz.func147 (by kernel_rfl) (by kernel_rfl) (fun x => by kernel_rfl)

def spec_Rename.sig : Sig := ⟨[.val (.pair (.sl false (.pair .str (.pair .str (.int .i64)))) (.pair (.int .i64) (.pair (.int .i64) .bool))), .val .str, .val .str], [.val (.pair (.sl true (.pair .str (.pair .str (.int .i64)))) (.pair (.int .i64) (.pair (.int .i64) .bool))), .val (.int .i64)]⟩
noncomputable def spec_Rename.ctr : Ctr := ⟨spec_Rename.sig, fun x => spec_Rename.f x.1 x.2.1 x.2.2⟩
noncomputable def spec_Rename.env : Env := [(134, [spec_l3Find.ctr]), (143, [spec_NameOk.ctr]), (144, [spec_l3Begin.ctr]), (185, [spec_l3Without.ctr]), (186, [spec_l3Insert.ctr])]
def spec_Rename.ann : Ann := ⟨[], [], [(15, [(.normal, [(6, .ptr (.pair (.sl true (.pair .str (.pair .str (.int .i64)))) (.pair (.int .i64) (.pair (.int .i64) .bool)))), (8, .ptr (.pair (.sl true (.pair .str (.pair .str (.int .i64)))) (.pair (.int .i64) (.pair (.int .i64) .bool)))), (11, .ptr (.pair .str (.pair .str (.int .i64))))])])]⟩
theorem spec_Rename.ok : CtrOk Tryz.prog 148 spec_Rename.ctr := fn_sound (A := spec_Rename.ann) tabOk (EnvOk.cons (ctrs_cons spec_l3Find.ok ctrs_nil) (EnvOk.cons (ctrs_cons spec_NameOk.ok ctrs_nil) (EnvOk.cons (ctrs_cons spec_l3Begin.ok ctrs_nil) (EnvOk.cons (ctrs_cons spec_l3Without.ok ctrs_nil) (EnvOk.cons (ctrs_cons spec_l3Insert.ok ctrs_nil) EnvOk.nil))))) mixed (fn := Tryz.f148) (body := bodyOf Tryz.f148) Tryz.func148 (by kernel_rfl) (by kernel_rfl) (fun x => by kernel_rfl)

def spec_PutLive.sig : Sig := ⟨[.val (.pair (.sl false (.pair .str (.pair .str (.int .i64)))) (.pair (.int .i64) (.pair (.int .i64) .bool))), .val (.pair (.int .i64) (.sl false (.int .i64)))], [.val (.pair (.sl true (.pair .str (.pair .str (.int .i64)))) (.pair (.int .i64) (.pair (.int .i64) .bool))), .val (.int .i64)]⟩
noncomputable def spec_PutLive.ctr : Ctr := ⟨spec_PutLive.sig, fun x => spec_PutLive.f x.1 x.2⟩
noncomputable def spec_PutLive.env : Env := [(51, [spec_l3Copy.ctr]), (89, [spec_DiskOk.ctr]), (90, [spec_LiveOk.ctr]), (96, [spec_l11Code.ctr]), (126, [spec_l11File.ctr]), (147, [spec_ShowLive.ctr]), (148, [spec_Rename.ctr])]
def spec_PutLive.ann : Ann := ⟨[], [], [(4, [(.normal, [(4, .ptr (.pair (.sl true (.pair .str (.pair .str (.int .i64)))) (.pair (.int .i64) (.pair (.int .i64) .bool)))), (6, .ptr (.pair (.sl true (.pair .str (.pair .str (.int .i64)))) (.pair (.int .i64) (.pair (.int .i64) .bool)))), (7, .val (.int .i64))])])]⟩
theorem spec_PutLive.ok : CtrOk Tryz.prog 98 spec_PutLive.ctr := fn_sound (A := spec_PutLive.ann) tabOk (EnvOk.cons (ctrs_cons spec_l3Copy.ok ctrs_nil) (EnvOk.cons (ctrs_cons spec_DiskOk.ok ctrs_nil) (EnvOk.cons (ctrs_cons spec_LiveOk.ok ctrs_nil) (EnvOk.cons (ctrs_cons spec_l11Code.ok ctrs_nil) (EnvOk.cons (ctrs_cons spec_l11File.ok ctrs_nil) (EnvOk.cons (ctrs_cons spec_ShowLive.ok ctrs_nil) (EnvOk.cons (ctrs_cons spec_Rename.ok ctrs_nil) EnvOk.nil))))))) mixed (fn := Tryz.f98) (body := bodyOf Tryz.f98) Tryz.func98 (by kernel_rfl) (by kernel_rfl) (fun x => by kernel_rfl)

def spec_l14Drop.sig : Sig := ⟨[.val (.pair (.sl false (.pair .str (.pair .str (.int .i64)))) (.pair (.int .i64) (.pair (.int .i64) .bool))), .val (.sl false .str)], [.val (.pair (.sl false (.pair .str (.pair .str (.int .i64)))) (.pair (.int .i64) (.pair (.int .i64) .bool))), .val (.int .i64)]⟩
noncomputable def spec_l14Drop.ctr : Ctr := ⟨spec_l14Drop.sig, fun x => spec_l14Drop.f x.1 x.2⟩
noncomputable def spec_l14Drop.env : Env := [(134, [spec_l3Find.ctr]), (145, [spec_Remove.ctr])]
def spec_l14Drop.ann : Ann := ⟨[(0, ([(1, .val (.sl false .str)), (2, .ptr (.pair (.sl false (.pair .str (.pair .str (.int .i64)))) (.pair (.int .i64) (.pair (.int .i64) .bool)))), (4, .ptr (.pair (.sl true (.pair .str (.pair .str (.int .i64)))) (.pair (.int .i64) (.pair (.int .i64) .bool)))), (6, .val (.int .i64))], [(.exit 0, [(2, .ptr (.pair (.sl false (.pair .str (.pair .str (.int .i64)))) (.pair (.int .i64) (.pair (.int .i64) .bool)))), (4, .ptr (.pair (.sl true (.pair .str (.pair .str (.int .i64)))) (.pair (.int .i64) (.pair (.int .i64) .bool))))]), (.ret, [(4, .ptr (.pair (.sl true (.pair .str (.pair .str (.int .i64)))) (.pair (.int .i64) (.pair (.int .i64) .bool)))), (5, .val (.int .i64))])]))], [(1, [(.normal, [(1, .val (.sl false .str)), (2, .ptr (.pair (.sl false (.pair .str (.pair .str (.int .i64)))) (.pair (.int .i64) (.pair (.int .i64) .bool)))), (4, .ptr (.pair (.sl true (.pair .str (.pair .str (.int .i64)))) (.pair (.int .i64) (.pair (.int .i64) .bool)))), (6, .val (.int .i64))]), (.ret, [(4, .ptr (.pair (.sl true (.pair .str (.pair .str (.int .i64)))) (.pair (.int .i64) (.pair (.int .i64) .bool)))), (5, .val (.int .i64))])])], []⟩
theorem spec_l14Drop.ok : CtrOk Tryz.prog 99 spec_l14Drop.ctr := fn_sound (A := spec_l14Drop.ann) tabOk (EnvOk.cons (ctrs_cons spec_l3Find.ok ctrs_nil) (EnvOk.cons (ctrs_cons spec_Remove.ok ctrs_nil) EnvOk.nil)) mixed (fn := Tryz.f99) (body := bodyOf Tryz.f99) Tryz.func99 (by kernel_rfl) (by kernel_rfl) (fun x => by kernel_rfl)

def spec_SumOf.sig : Sig := ⟨[.val (.sl false (.pair (.int .i64) (.pair (.int .i64) (.pair .str (.pair .str (.pair (.int .i64) (.int .i64)))))))], [.val (.int .i64)]⟩
noncomputable def spec_SumOf.ctr : Ctr := ⟨spec_SumOf.sig, fun x => spec_SumOf.f x⟩
noncomputable def spec_SumOf.env : Env := [(158, [spec_ShowRec.ctr]), (171, [spec_Crc.ctr])]
def spec_SumOf.ann : Ann := ⟨[(0, ([(0, .val (.sl false (.pair (.int .i64) (.pair (.int .i64) (.pair .str (.pair .str (.pair (.int .i64) (.int .i64)))))))), (3, .val .str), (4, .val (.int .i64))], [(.exit 0, [(3, .val .str)])]))], [], []⟩
theorem spec_SumOf.ok : CtrOk Tryz.prog 160 spec_SumOf.ctr := fn_sound (A := spec_SumOf.ann) tabOk (EnvOk.cons (ctrs_cons spec_ShowRec.ok ctrs_nil) (EnvOk.cons (ctrs_cons spec_Crc.ok ctrs_nil) EnvOk.nil)) mixed (fn := Tryz.f160) (body := bodyOf Tryz.f160) Tryz.func160 (by kernel_rfl) (by kernel_rfl) (fun x => by kernel_rfl)

def spec_l9Seal.sig : Sig := ⟨[.val (.sl false (.pair (.int .i64) (.pair (.int .i64) (.pair .str (.pair .str (.pair (.int .i64) (.int .i64))))))), .val (.int .i64), .val (.int .i64)], [.val (.pair (.int .i64) (.pair (.int .i64) (.pair .str (.pair .str (.pair (.int .i64) (.int .i64))))))]⟩
noncomputable def spec_l9Seal.ctr : Ctr := ⟨spec_l9Seal.sig, fun x => spec_l9Seal.f x.1 x.2.1 x.2.2⟩
noncomputable def spec_l9Seal.env : Env := [(160, [spec_SumOf.ctr])]
def spec_l9Seal.ann : Ann := ⟨[], [], []⟩
theorem spec_l9Seal.ok : CtrOk Tryz.prog 118 spec_l9Seal.ctr := fn_sound (A := spec_l9Seal.ann) tabOk (EnvOk.cons (ctrs_cons spec_SumOf.ok ctrs_nil) EnvOk.nil) mixed (fn := Tryz.f118) (body := bodyOf Tryz.f118) Tryz.func118 (by kernel_rfl) (by kernel_rfl) (fun x => by kernel_rfl)

def spec_l14Keep.sig : Sig := ⟨[.val (.pair .str (.pair .str (.int .i64)))], [.val (.pair (.int .i64) (.pair (.int .i64) (.pair .str (.pair .str (.pair (.int .i64) (.int .i64))))))]⟩
noncomputable def spec_l14Keep.ctr : Ctr := ⟨spec_l14Keep.sig, fun x => spec_l14Keep.f x⟩
noncomputable def spec_l14Keep.env : Env := []
def spec_l14Keep.ann : Ann := ⟨[], [], []⟩
theorem spec_l14Keep.ok : CtrOk Tryz.prog 167 spec_l14Keep.ctr := fn_sound (A := spec_l14Keep.ann) tabOk EnvOk.nil mixed (fn := Tryz.f167) (body := bodyOf Tryz.f167) Tryz.func167 (by kernel_rfl) (by kernel_rfl) (fun x => by kernel_rfl)

def spec_l14Write.sig : Sig := ⟨[.val (.pair (.sl false (.pair .str (.pair .str (.int .i64)))) (.pair (.int .i64) (.pair (.int .i64) .bool))), .val (.int .i64), .val (.sl false (.pair .str (.pair .str (.int .i64)))), .val (.int .i64)], [.val (.pair (.sl true (.pair .str (.pair .str (.int .i64)))) (.pair (.int .i64) (.pair (.int .i64) .bool))), .val (.sl true (.pair .str (.pair (.int .i64) (.pair (.int .i64) (.pair (.int .i64) (.int .i64)))))), .val (.int .i64)]⟩
noncomputable def spec_l14Write.ctr : Ctr := ⟨spec_l14Write.sig, fun x => spec_l14Write.f x.1 x.2.1 x.2.2.1 x.2.2.2⟩
noncomputable def spec_l14Write.env : Env := [(76, [spec_SegName.ctr]), (94, [spec_Sync.ctr]), (96, [spec_l11Code.ctr]), (97, [spec_l11Fresh.ctr]), (118, [spec_l9Seal.ctr]), (157, [spec_Frame.ctr]), (158, [spec_ShowRec.ctr]), (159, [spec_Append.ctr]), (167, [spec_l14Keep.ctr])]
def spec_l14Write.ann : Ann := ⟨[(0, ([(1, .val (.int .i64)), (2, .val (.sl false (.pair .str (.pair .str (.int .i64))))), (3, .val (.int .i64)), (8, .ptr (.pair (.sl true (.pair .str (.pair .str (.int .i64)))) (.pair (.int .i64) (.pair (.int .i64) .bool)))), (11, .val (.sl true (.pair .str (.pair (.int .i64) (.pair (.int .i64) (.pair (.int .i64) (.int .i64))))))), (12, .ptr (.pair (.sl true (.pair .str (.pair .str (.int .i64)))) (.pair (.int .i64) (.pair (.int .i64) .bool)))), (13, .val (.int .i64)), (14, .val (.sl true (.pair (.int .i64) (.pair (.int .i64) (.pair .str (.pair .str (.pair (.int .i64) (.int .i64)))))))), (15, .val (.int .i64)), (16, .val (.int .i64))], [(.exit 0, [(1, .val (.int .i64)), (3, .val (.int .i64)), (8, .ptr (.pair (.sl true (.pair .str (.pair .str (.int .i64)))) (.pair (.int .i64) (.pair (.int .i64) .bool)))), (11, .val (.sl true (.pair .str (.pair (.int .i64) (.pair (.int .i64) (.pair (.int .i64) (.int .i64))))))), (12, .ptr (.pair (.sl true (.pair .str (.pair .str (.int .i64)))) (.pair (.int .i64) (.pair (.int .i64) .bool)))), (13, .val (.int .i64)), (14, .val (.sl true (.pair (.int .i64) (.pair (.int .i64) (.pair .str (.pair .str (.pair (.int .i64) (.int .i64))))))))])]))], [], [(14, [(.normal, [(1, .val (.int .i64)), (8, .ptr (.pair (.sl true (.pair .str (.pair .str (.int .i64)))) (.pair (.int .i64) (.pair (.int .i64) .bool)))), (11, .val (.sl true (.pair .str (.pair (.int .i64) (.pair (.int .i64) (.pair (.int .i64) (.int .i64))))))), (12, .ptr (.pair (.sl true (.pair .str (.pair .str (.int .i64)))) (.pair (.int .i64) (.pair (.int .i64) .bool)))), (13, .val (.int .i64))])]), (16, [(.normal, [(8, .ptr (.pair (.sl true (.pair .str (.pair .str (.int .i64)))) (.pair (.int .i64) (.pair (.int .i64) .bool)))), (11, .val (.sl true (.pair .str (.pair (.int .i64) (.pair (.int .i64) (.pair (.int .i64) (.int .i64))))))), (12, .ptr (.pair (.sl true (.pair .str (.pair .str (.int .i64)))) (.pair (.int .i64) (.pair (.int .i64) .bool)))), (13, .val (.int .i64))])])]⟩
theorem spec_l14Write.ok : CtrOk Tryz.prog 123 spec_l14Write.ctr := fn_sound (A := spec_l14Write.ann) tabOk (EnvOk.cons (ctrs_cons spec_SegName.ok ctrs_nil) (EnvOk.cons (ctrs_cons spec_Sync.ok ctrs_nil) (EnvOk.cons (ctrs_cons spec_l11Code.ok ctrs_nil) (EnvOk.cons (ctrs_cons spec_l11Fresh.ok ctrs_nil) (EnvOk.cons (ctrs_cons spec_l9Seal.ok ctrs_nil) (EnvOk.cons (ctrs_cons spec_Frame.ok ctrs_nil) (EnvOk.cons (ctrs_cons spec_ShowRec.ok ctrs_nil) (EnvOk.cons (ctrs_cons spec_Append.ok ctrs_nil) (EnvOk.cons (ctrs_cons spec_l14Keep.ok ctrs_nil) EnvOk.nil))))))))) mixed (fn := Tryz.f123) (body := bodyOf Tryz.f123) Tryz.func123 (by kernel_rfl) (by kernel_rfl) (fun x => by kernel_rfl)

def spec_HintName.sig : Sig := ⟨[.val (.int .i64)], [.val .str]⟩
noncomputable def spec_HintName.ctr : Ctr := ⟨spec_HintName.sig, fun x => spec_HintName.f x⟩
noncomputable def spec_HintName.env : Env := [(92, [spec_l1In.ctr]), (135, [spec_Dec.ctr])]
def spec_HintName.ann : Ann := ⟨[], [], []⟩
theorem spec_HintName.ok : CtrOk Tryz.prog 127 spec_HintName.ctr := fn_sound (A := spec_HintName.ann) tabOk (EnvOk.cons (ctrs_cons spec_l1In.ok ctrs_nil) (EnvOk.cons (ctrs_cons spec_Dec.ok ctrs_nil) EnvOk.nil)) mixed (fn := Tryz.f127) (body := bodyOf Tryz.f127) Tryz.func127 (by kernel_rfl) (by kernel_rfl) (fun x => by kernel_rfl)

def spec_l14Fail.sig : Sig := ⟨[.val (.pair (.pair (.int .i64) (.sl false (.int .i64))) (.pair (.sl false (.pair .str (.pair (.int .i64) (.pair (.int .i64) (.pair (.int .i64) (.int .i64)))))) (.pair (.int .i64) (.pair (.int .i64) (.int .i64))))), .val (.pair (.sl false (.pair .str (.pair .str (.int .i64)))) (.pair (.int .i64) (.pair (.int .i64) .bool))), .val (.int .i64), .val (.int .i64)], [.val (.pair (.pair (.int .i64) (.sl false (.int .i64))) (.pair (.sl false (.pair .str (.pair (.int .i64) (.pair (.int .i64) (.pair (.int .i64) (.int .i64)))))) (.pair (.int .i64) (.pair (.int .i64) (.int .i64))))), .val (.pair (.sl false (.pair .str (.pair .str (.int .i64)))) (.pair (.int .i64) (.pair (.int .i64) .bool))), .val (.int .i64)]⟩
noncomputable def spec_l14Fail.ctr : Ctr := ⟨spec_l14Fail.sig, fun x => spec_l14Fail.f x.1 x.2.1 x.2.2.1 x.2.2.2⟩
noncomputable def spec_l14Fail.env : Env := [(76, [spec_SegName.ctr]), (96, [spec_l11Code.ctr]), (99, [spec_l14Drop.ctr]), (127, [spec_HintName.ctr])]
def spec_l14Fail.ann : Ann := ⟨[], [], []⟩
theorem spec_l14Fail.ok : CtrOk Tryz.prog 124 spec_l14Fail.ctr := fn_sound (A := spec_l14Fail.ann) tabOk (EnvOk.cons (ctrs_cons spec_SegName.ok ctrs_nil) (EnvOk.cons (ctrs_cons spec_l11Code.ok ctrs_nil) (EnvOk.cons (ctrs_cons spec_l14Drop.ok ctrs_nil) (EnvOk.cons (ctrs_cons spec_HintName.ok ctrs_nil) EnvOk.nil)))) mixed (fn := Tryz.f124) (body := bodyOf Tryz.f124) Tryz.func124 (by kernel_rfl) (by kernel_rfl) (fun x => by kernel_rfl)

def spec_HintOf.sig : Sig := ⟨[.val (.int .i64), .val .str], [.val (.pair (.int .i64) (.pair (.int .i64) (.sl true (.pair .str (.pair (.int .i64) (.pair (.int .i64) (.pair (.int .i64) (.int .i64)))))))), .val .bool]⟩
noncomputable def spec_HintOf.ctr : Ctr := ⟨spec_HintOf.sig, fun x => spec_HintOf.f x.1 x.2⟩
noncomputable def spec_HintOf.env : Env := [(76, [spec_SegName.ctr]), (93, [spec_ScanRecs.ctr]), (160, [spec_SumOf.ctr])]
def spec_HintOf.ann : Ann := ⟨[(0, ([(0, .val (.int .i64)), (4, .ptr (.pair (.int .i64) (.pair (.int .i64) (.sl true (.pair .str (.pair (.int .i64) (.pair (.int .i64) (.pair (.int .i64) (.int .i64))))))))), (6, .val (.sl true (.pair (.int .i64) (.pair (.int .i64) (.pair (.int .i64) (.pair (.int .i64) (.pair .str (.pair .str (.pair (.int .i64) (.int .i64)))))))))), (8, .ptr (.pair (.int .i64) (.pair (.int .i64) (.sl true (.pair .str (.pair (.int .i64) (.pair (.int .i64) (.pair (.int .i64) (.int .i64))))))))), (9, .val (.sl true (.pair (.int .i64) (.pair (.int .i64) (.pair .str (.pair .str (.pair (.int .i64) (.int .i64)))))))), (10, .val (.int .i64))], [(.exit 0, [(4, .ptr (.pair (.int .i64) (.pair (.int .i64) (.sl true (.pair .str (.pair (.int .i64) (.pair (.int .i64) (.pair (.int .i64) (.int .i64))))))))), (6, .val (.sl true (.pair (.int .i64) (.pair (.int .i64) (.pair (.int .i64) (.pair (.int .i64) (.pair .str (.pair .str (.pair (.int .i64) (.int .i64)))))))))), (8, .ptr (.pair (.int .i64) (.pair (.int .i64) (.sl true (.pair .str (.pair (.int .i64) (.pair (.int .i64) (.pair (.int .i64) (.int .i64))))))))), (9, .val (.sl true (.pair (.int .i64) (.pair (.int .i64) (.pair .str (.pair .str (.pair (.int .i64) (.int .i64))))))))]), (.ret, [(4, .ptr (.pair (.int .i64) (.pair (.int .i64) (.sl true (.pair .str (.pair (.int .i64) (.pair (.int .i64) (.pair (.int .i64) (.int .i64))))))))), (5, .val .bool)])]))], [], [(10, [(.normal, [(0, .val (.int .i64)), (4, .ptr (.pair (.int .i64) (.pair (.int .i64) (.sl true (.pair .str (.pair (.int .i64) (.pair (.int .i64) (.pair (.int .i64) (.int .i64))))))))), (6, .val (.sl true (.pair (.int .i64) (.pair (.int .i64) (.pair (.int .i64) (.pair (.int .i64) (.pair .str (.pair .str (.pair (.int .i64) (.int .i64)))))))))), (8, .ptr (.pair (.int .i64) (.pair (.int .i64) (.sl true (.pair .str (.pair (.int .i64) (.pair (.int .i64) (.pair (.int .i64) (.int .i64))))))))), (9, .val (.sl true (.pair (.int .i64) (.pair (.int .i64) (.pair .str (.pair .str (.pair (.int .i64) (.int .i64)))))))), (10, .val (.int .i64)), (11, .ptr (.pair (.int .i64) (.pair (.int .i64) (.pair .str (.pair .str (.pair (.int .i64) (.int .i64)))))))]), (.ret, [(4, .ptr (.pair (.int .i64) (.pair (.int .i64) (.sl true (.pair .str (.pair (.int .i64) (.pair (.int .i64) (.pair (.int .i64) (.int .i64))))))))), (5, .val .bool)])])]⟩
theorem spec_HintOf.ok : CtrOk Tryz.prog 125 spec_HintOf.ctr := fn_sound (A := spec_HintOf.ann) tabOk (EnvOk.cons (ctrs_cons spec_SegName.ok ctrs_nil) (EnvOk.cons (ctrs_cons spec_ScanRecs.ok ctrs_nil) (EnvOk.cons (ctrs_cons spec_SumOf.ok ctrs_nil) EnvOk.nil))) mixed (fn := Tryz.f125) (body := bodyOf Tryz.f125) Tryz.func125 (by kernel_rfl) (by kernel_rfl) (fun x => by kernel_rfl)

def spec_l10Ok.sig : Sig := ⟨[.val (.pair (.int .i64) (.pair (.int .i64) (.sl false (.pair .str (.pair (.int .i64) (.pair (.int .i64) (.pair (.int .i64) (.int .i64))))))))], [.val .bool]⟩
noncomputable def spec_l10Ok.ctr : Ctr := ⟨spec_l10Ok.sig, fun x => spec_l10Ok.f x⟩
noncomputable def spec_l10Ok.env : Env := [(91, [spec_DirOk.ctr]), (92, [spec_l1In.ctr])]
def spec_l10Ok.ann : Ann := ⟨[(0, ([(1, .ptr (.pair (.int .i64) (.pair (.int .i64) (.sl false (.pair .str (.pair (.int .i64) (.pair (.int .i64) (.pair (.int .i64) (.int .i64))))))))), (3, .val (.int .i64))], [(.exit 0, []), (.ret, [(2, .val .bool)])]))], [], []⟩
theorem spec_l10Ok.ok : CtrOk Tryz.prog 168 spec_l10Ok.ctr := fn_sound (A := spec_l10Ok.ann) tabOk (EnvOk.cons (ctrs_cons spec_DirOk.ok ctrs_nil) (EnvOk.cons (ctrs_cons spec_l1In.ok ctrs_nil) EnvOk.nil)) mixed (fn := Tryz.f168) (body := bodyOf Tryz.f168) Tryz.func168 (by kernel_rfl) (by kernel_rfl) (fun x => by kernel_rfl)

def spec_ShowHint.sig : Sig := ⟨[.val (.pair (.int .i64) (.pair (.int .i64) (.sl false (.pair .str (.pair (.int .i64) (.pair (.int .i64) (.pair (.int .i64) (.int .i64))))))))], [.val .str]⟩
noncomputable def spec_ShowHint.ctr : Ctr := ⟨spec_ShowHint.sig, fun x => spec_ShowHint.f x⟩
noncomputable def spec_ShowHint.env : Env := [(168, [spec_l10Ok.ctr]), (169, [spec_Var.ctr]), (170, [spec_Fixed.ctr]), (171, [spec_Crc.ctr])]
def spec_ShowHint.ann : Ann := ⟨[(0, ([(1, .ptr (.pair (.int .i64) (.pair (.int .i64) (.sl false (.pair .str (.pair (.int .i64) (.pair (.int .i64) (.pair (.int .i64) (.int .i64))))))))), (3, .val .str), (4, .val (.int .i64))], [(.exit 0, [(3, .val .str)])]))], [], []⟩
theorem spec_ShowHint.ok : CtrOk Tryz.prog 128 spec_ShowHint.ctr := fn_sound (A := spec_ShowHint.ann) tabOk (EnvOk.cons (ctrs_cons spec_l10Ok.ok ctrs_nil) (EnvOk.cons (ctrs_cons spec_Var.ok ctrs_nil) (EnvOk.cons (ctrs_cons spec_Fixed.ok ctrs_nil) (EnvOk.cons (ctrs_cons spec_Crc.ok ctrs_nil) EnvOk.nil)))) mixed (fn := Tryz.f128) (body := bodyOf Tryz.f128) Tryz.func128 (by kernel_rfl) (by kernel_rfl) (fun x => by kernel_rfl)

def spec_l14Merge.sig : Sig := ⟨[.val (.pair (.pair (.int .i64) (.sl false (.int .i64))) (.pair (.sl false (.pair .str (.pair (.int .i64) (.pair (.int .i64) (.pair (.int .i64) (.int .i64)))))) (.pair (.int .i64) (.pair (.int .i64) (.int .i64))))), .val (.pair (.sl false (.pair .str (.pair .str (.int .i64)))) (.pair (.int .i64) (.pair (.int .i64) .bool))), .val (.sl false (.pair .str (.pair .str (.int .i64))))], [.val (.pair (.pair (.int .i64) (.sl false (.int .i64))) (.pair (.sl false (.pair .str (.pair (.int .i64) (.pair (.int .i64) (.pair (.int .i64) (.int .i64)))))) (.pair (.int .i64) (.pair (.int .i64) (.int .i64))))), .val (.pair (.sl false (.pair .str (.pair .str (.int .i64)))) (.pair (.int .i64) (.pair (.int .i64) .bool))), .val (.int .i64)]⟩
noncomputable def spec_l14Merge.ctr : Ctr := ⟨spec_l14Merge.sig, fun x => spec_l14Merge.f x.1 x.2.1 x.2.2⟩
noncomputable def spec_l14Merge.env : Env := [(75, [spec_FileText.ctr]), (76, [spec_SegName.ctr]), (96, [spec_l11Code.ctr]), (97, [spec_l11Fresh.ctr]), (98, [spec_PutLive.ctr]), (99, [spec_l14Drop.ctr]), (123, [spec_l14Write.ctr]), (124, [spec_l14Fail.ctr]), (125, [spec_HintOf.ctr]), (126, [spec_l11File.ctr]), (127, [spec_HintName.ctr]), (128, [spec_ShowHint.ctr])]
def spec_l14Merge.ann : Ann := ⟨[(0, ([(3, .ptr (.pair (.pair (.int .i64) (.sl true (.int .i64))) (.pair (.sl true (.pair .str (.pair (.int .i64) (.pair (.int .i64) (.pair (.int .i64) (.int .i64)))))) (.pair (.int .i64) (.pair (.int .i64) (.int .i64)))))), (6, .ptr (.pair (.pair (.int .i64) (.sl true (.int .i64))) (.pair (.sl true (.pair .str (.pair (.int .i64) (.pair (.int .i64) (.pair (.int .i64) (.int .i64)))))) (.pair (.int .i64) (.pair (.int .i64) (.int .i64)))))), (7, .ptr (.pair (.sl true (.pair .str (.pair .str (.int .i64)))) (.pair (.int .i64) (.pair (.int .i64) .bool)))), (10, .ptr (.pair (.sl false (.pair .str (.pair .str (.int .i64)))) (.pair (.int .i64) (.pair (.int .i64) .bool)))), (18, .val (.sl true (.int .i64))), (20, .val (.int .i64))], [(.exit 0, [(3, .ptr (.pair (.pair (.int .i64) (.sl true (.int .i64))) (.pair (.sl true (.pair .str (.pair (.int .i64) (.pair (.int .i64) (.pair (.int .i64) (.int .i64)))))) (.pair (.int .i64) (.pair (.int .i64) (.int .i64)))))), (6, .ptr (.pair (.pair (.int .i64) (.sl true (.int .i64))) (.pair (.sl true (.pair .str (.pair (.int .i64) (.pair (.int .i64) (.pair (.int .i64) (.int .i64)))))) (.pair (.int .i64) (.pair (.int .i64) (.int .i64)))))), (7, .ptr (.pair (.sl true (.pair .str (.pair .str (.int .i64)))) (.pair (.int .i64) (.pair (.int .i64) .bool)))), (10, .ptr (.pair (.sl false (.pair .str (.pair .str (.int .i64)))) (.pair (.int .i64) (.pair (.int .i64) .bool))))]), (.ret, [(6, .ptr (.pair (.pair (.int .i64) (.sl true (.int .i64))) (.pair (.sl true (.pair .str (.pair (.int .i64) (.pair (.int .i64) (.pair (.int .i64) (.int .i64)))))) (.pair (.int .i64) (.pair (.int .i64) (.int .i64)))))), (7, .ptr (.pair (.sl false (.pair .str (.pair .str (.int .i64)))) (.pair (.int .i64) (.pair (.int .i64) .bool)))), (8, .val (.int .i64))])]))], [], [(12, [(.normal, [(3, .ptr (.pair (.pair (.int .i64) (.sl false (.int .i64))) (.pair (.sl false (.pair .str (.pair (.int .i64) (.pair (.int .i64) (.pair (.int .i64) (.int .i64)))))) (.pair (.int .i64) (.pair (.int .i64) (.int .i64)))))), (6, .ptr (.pair (.pair (.int .i64) (.sl true (.int .i64))) (.pair (.sl true (.pair .str (.pair (.int .i64) (.pair (.int .i64) (.pair (.int .i64) (.int .i64)))))) (.pair (.int .i64) (.pair (.int .i64) (.int .i64)))))), (7, .ptr (.pair (.sl true (.pair .str (.pair .str (.int .i64)))) (.pair (.int .i64) (.pair (.int .i64) .bool)))), (9, .val (.int .i64)), (10, .ptr (.pair (.sl false (.pair .str (.pair .str (.int .i64)))) (.pair (.int .i64) (.pair (.int .i64) .bool)))), (11, .val (.sl true (.pair .str (.pair (.int .i64) (.pair (.int .i64) (.pair (.int .i64) (.int .i64))))))), (13, .val (.int .i64))])])]⟩
theorem spec_l14Merge.ok : CtrOk Tryz.prog 69 spec_l14Merge.ctr := fn_sound (A := spec_l14Merge.ann) tabOk (EnvOk.cons (ctrs_cons spec_FileText.ok ctrs_nil) (EnvOk.cons (ctrs_cons spec_SegName.ok ctrs_nil) (EnvOk.cons (ctrs_cons spec_l11Code.ok ctrs_nil) (EnvOk.cons (ctrs_cons spec_l11Fresh.ok ctrs_nil) (EnvOk.cons (ctrs_cons spec_PutLive.ok ctrs_nil) (EnvOk.cons (ctrs_cons spec_l14Drop.ok ctrs_nil) (EnvOk.cons (ctrs_cons spec_l14Write.ok ctrs_nil) (EnvOk.cons (ctrs_cons spec_l14Fail.ok ctrs_nil) (EnvOk.cons (ctrs_cons spec_HintOf.ok ctrs_nil) (EnvOk.cons (ctrs_cons spec_l11File.ok ctrs_nil) (EnvOk.cons (ctrs_cons spec_HintName.ok ctrs_nil) (EnvOk.cons (ctrs_cons spec_ShowHint.ok ctrs_nil) EnvOk.nil)))))))))))) mixed (fn := Tryz.f69) (body := bodyOf Tryz.f69) Tryz.func69 (by kernel_rfl) (by kernel_rfl) (fun x => by kernel_rfl)

def spec_Merge.sig : Sig := ⟨[.val (.pair (.pair (.int .i64) (.sl false (.int .i64))) (.pair (.sl false (.pair .str (.pair (.int .i64) (.pair (.int .i64) (.pair (.int .i64) (.int .i64)))))) (.pair (.int .i64) (.pair (.int .i64) (.int .i64))))), .val (.pair (.sl false (.pair .str (.pair .str (.int .i64)))) (.pair (.int .i64) (.pair (.int .i64) .bool)))], [.val (.pair (.pair (.int .i64) (.sl false (.int .i64))) (.pair (.sl false (.pair .str (.pair (.int .i64) (.pair (.int .i64) (.pair (.int .i64) (.int .i64)))))) (.pair (.int .i64) (.pair (.int .i64) (.int .i64))))), .val (.pair (.sl false (.pair .str (.pair .str (.int .i64)))) (.pair (.int .i64) (.pair (.int .i64) .bool))), .val (.int .i64)]⟩
noncomputable def spec_Merge.ctr : Ctr := ⟨spec_Merge.sig, fun x => spec_Merge.f x.1 x.2⟩
noncomputable def spec_Merge.env : Env := [(9, [spec_Dump.ctr]), (49, [spec_StoreOk.ctr]), (50, [spec_l12Copy.ctr]), (51, [spec_l3Copy.ctr]), (69, [spec_l14Merge.ctr])]
def spec_Merge.ann : Ann := ⟨[], [], []⟩
theorem spec_Merge.ok : CtrOk Tryz.prog 30 spec_Merge.ctr := fn_sound (A := spec_Merge.ann) tabOk (EnvOk.cons (ctrs_cons spec_Dump.ok ctrs_nil) (EnvOk.cons (ctrs_cons spec_StoreOk.ok ctrs_nil) (EnvOk.cons (ctrs_cons spec_l12Copy.ok ctrs_nil) (EnvOk.cons (ctrs_cons spec_l3Copy.ok ctrs_nil) (EnvOk.cons (ctrs_cons spec_l14Merge.ok ctrs_nil) EnvOk.nil))))) mixed (fn := Tryz.f30) (body := bodyOf Tryz.f30) Tryz.func30 (by kernel_rfl) (by kernel_rfl) (fun x => by kernel_rfl)

def impl_DirKeys.sig : Sig := ⟨[.val (.sl false (.pair .str (.pair (.int .i64) (.pair (.int .i64) (.pair (.int .i64) (.int .i64))))))], [.val (.sl true .str)]⟩
noncomputable def impl_DirKeys.ctr : Ctr := ⟨impl_DirKeys.sig, fun x => impl_DirKeys.f x⟩
noncomputable def impl_DirKeys.env : Env := []
def impl_DirKeys.ann : Ann := ⟨[(0, ([(3, .val (.sl true .str)), (6, .val (.sl false (.pair .str (.pair (.int .i64) (.pair (.int .i64) (.pair (.int .i64) (.int .i64))))))), (7, .val (.int .i64)), (8, .val (.int .i64))], [(.exit 0, [(3, .val (.sl true .str))])]))], [], []⟩
theorem impl_DirKeys.ok : CtrOk Tryz.prog 39 impl_DirKeys.ctr := fn_sound (A := impl_DirKeys.ann) tabOk EnvOk.nil mixed (fn := Tryz.f39) (body := bodyOf Tryz.f39) Tryz.func39 (by kernel_rfl) (by kernel_rfl) (fun x => by kernel_rfl)

def impl_DirGet.sig : Sig := ⟨[.val (.sl false (.pair .str (.pair (.int .i64) (.pair (.int .i64) (.pair (.int .i64) (.int .i64)))))), .val .str], [.val (.pair .str (.pair (.int .i64) (.pair (.int .i64) (.pair (.int .i64) (.int .i64))))), .val .bool]⟩
noncomputable def impl_DirGet.ctr : Ctr := ⟨impl_DirGet.sig, fun x => impl_DirGet.f x.1 x.2⟩
noncomputable def impl_DirGet.env : Env := []
def impl_DirGet.ann : Ann := ⟨[(0, ([(1, .val .str), (4, .ptr (.pair .str (.pair (.int .i64) (.pair (.int .i64) (.pair (.int .i64) (.int .i64)))))), (8, .val (.sl false (.pair .str (.pair (.int .i64) (.pair (.int .i64) (.pair (.int .i64) (.int .i64))))))), (9, .val (.int .i64)), (10, .val (.int .i64))], [(.exit 0, [(4, .ptr (.pair .str (.pair (.int .i64) (.pair (.int .i64) (.pair (.int .i64) (.int .i64))))))]), (.ret, [(4, .ptr (.pair .str (.pair (.int .i64) (.pair (.int .i64) (.pair (.int .i64) (.int .i64)))))), (5, .val .bool)])]))], [], []⟩
theorem impl_DirGet.ok : CtrOk Tryz.prog 81 impl_DirGet.ctr := fn_sound (A := impl_DirGet.ann) tabOk EnvOk.nil mixed (fn := Tryz.f81) (body := bodyOf Tryz.f81) Tryz.func81 (by kernel_rfl) (by kernel_rfl) (fun x => by kernel_rfl)

def impl_in.sig : Sig := ⟨[.val (.int .i64), .val (.int .i64), .val (.int .i64)], [.val .bool]⟩
noncomputable def impl_in.ctr : Ctr := ⟨impl_in.sig, fun x => impl_in.f x.1 x.2.1 x.2.2⟩
noncomputable def impl_in.env : Env := []
def impl_in.ann : Ann := ⟨[], [], []⟩
theorem impl_in.ok : CtrOk Tryz.prog 105 impl_in.ctr := fn_sound (A := impl_in.ann) tabOk EnvOk.nil mixed (fn := Tryz.f105) (body := bodyOf Tryz.f105) Tryz.func105 (by kernel_rfl) (by kernel_rfl) (fun x => by kernel_rfl)

def impl_NameOk.sig : Sig := ⟨[.val .str], [.val .bool]⟩
noncomputable def impl_NameOk.ctr : Ctr := ⟨impl_NameOk.sig, fun x => impl_NameOk.f x⟩
noncomputable def impl_NameOk.env : Env := [(105, [impl_in.ctr])]
def impl_NameOk.ann : Ann := ⟨[(0, ([(0, .val .str), (3, .val (.int .i64))], [(.exit 0, [(0, .val .str)]), (.ret, [(2, .val .bool)])]))], [], [(4, [(.normal, [(0, .val .str), (3, .val (.int .i64))]), (.ret, [(2, .val .bool)])])]⟩
theorem impl_NameOk.ok : CtrOk Tryz.prog 149 impl_NameOk.ctr := fn_sound (A := impl_NameOk.ann) tabOk (EnvOk.cons (ctrs_cons impl_in.ok ctrs_nil) EnvOk.nil) mixed (fn := Tryz.f149) (body := bodyOf Tryz.f149) Tryz.func149 (by kernel_rfl) (by kernel_rfl) (fun x => by kernel_rfl)

def impl_DiskOk.sig : Sig := ⟨[.val (.pair (.sl false (.pair .str (.pair .str (.int .i64)))) (.pair (.int .i64) (.pair (.int .i64) .bool)))], [.val .bool]⟩
noncomputable def impl_DiskOk.ctr : Ctr := ⟨impl_DiskOk.sig, fun x => impl_DiskOk.f x⟩
noncomputable def impl_DiskOk.env : Env := [(105, [impl_in.ctr]), (149, [impl_NameOk.ctr])]
def impl_DiskOk.ann : Ann := ⟨[(0, ([(1, .ptr (.pair (.sl false (.pair .str (.pair .str (.int .i64)))) (.pair (.int .i64) (.pair (.int .i64) .bool)))), (3, .val (.int .i64)), (23, .val (.sl false (.pair .str (.pair .str (.int .i64))))), (24, .val (.int .i64)), (25, .val (.int .i64))], [(.exit 0, [(1, .ptr (.pair (.sl false (.pair .str (.pair .str (.int .i64)))) (.pair (.int .i64) (.pair (.int .i64) .bool)))), (3, .val (.int .i64))]), (.ret, [(2, .val .bool)])]))], [], [(7, [(.normal, [(1, .ptr (.pair (.sl false (.pair .str (.pair .str (.int .i64)))) (.pair (.int .i64) (.pair (.int .i64) .bool)))), (3, .val (.int .i64)), (5, .ptr (.pair .str (.pair .str (.int .i64)))), (23, .val (.sl false (.pair .str (.pair .str (.int .i64))))), (24, .val (.int .i64)), (25, .val (.int .i64))]), (.ret, [(2, .val .bool)])])]⟩
theorem impl_DiskOk.ok : CtrOk Tryz.prog 102 impl_DiskOk.ctr := fn_sound (A := impl_DiskOk.ann) tabOk (EnvOk.cons (ctrs_cons impl_in.ok ctrs_nil) (EnvOk.cons (ctrs_cons impl_NameOk.ok ctrs_nil) EnvOk.nil)) mixed (fn := Tryz.f102) (body := bodyOf Tryz.f102) Tryz.func102 (by kernel_rfl) (by kernel_rfl) (fun x => by kernel_rfl)

def impl_fileAt.sig : Sig := ⟨[.val (.pair (.sl false (.pair .str (.pair .str (.int .i64)))) (.pair (.int .i64) (.pair (.int .i64) .bool))), .val .str], [.val (.int .i64)]⟩
noncomputable def impl_fileAt.ctr : Ctr := ⟨impl_fileAt.sig, fun x => impl_fileAt.f x.1 x.2⟩
noncomputable def impl_fileAt.env : Env := []
def impl_fileAt.ann : Ann := ⟨[(0, ([(1, .val .str), (8, .val (.sl false (.pair .str (.pair .str (.int .i64))))), (9, .val (.int .i64)), (10, .val (.int .i64))], [(.exit 0, []), (.ret, [(4, .val (.int .i64))])]))], [], []⟩
theorem impl_fileAt.ok : CtrOk Tryz.prog 138 impl_fileAt.ctr := fn_sound (A := impl_fileAt.ann) tabOk EnvOk.nil mixed (fn := Tryz.f138) (body := bodyOf Tryz.f138) Tryz.func138 (by kernel_rfl) (by kernel_rfl) (fun x => by kernel_rfl)

def impl_FileText.sig : Sig := ⟨[.val (.pair (.sl false (.pair .str (.pair .str (.int .i64)))) (.pair (.int .i64) (.pair (.int .i64) .bool))), .val .str], [.val .str, .val .bool]⟩
noncomputable def impl_FileText.ctr : Ctr := ⟨impl_FileText.sig, fun x => impl_FileText.f x.1 x.2⟩
noncomputable def impl_FileText.env : Env := [(102, [impl_DiskOk.ctr]), (138, [impl_fileAt.ctr])]
def impl_FileText.ann : Ann := ⟨[], [], []⟩
theorem impl_FileText.ok : CtrOk Tryz.prog 82 impl_FileText.ctr := fn_sound (A := impl_FileText.ann) tabOk (EnvOk.cons (ctrs_cons impl_DiskOk.ok ctrs_nil) (EnvOk.cons (ctrs_cons impl_fileAt.ok ctrs_nil) EnvOk.nil)) mixed (fn := Tryz.f82) (body := bodyOf Tryz.f82) Tryz.func82 (by kernel_rfl) (by kernel_rfl) (fun x => by kernel_rfl)

noncomputable def strconv_Itoa.ctr : Ctr := itoaCtr
theorem strconv_Itoa.ok : CtrOk Tryz.prog 204 strconv_Itoa.ctr := itoa_ok Tryz.func204 (by kernel_rfl) (by kernel_rfl) fun n h0 h1 w hL => (Tryz.strconv_Itoa n h0 h1 w hL).mono fun e w' ⟨he, k, os, hw⟩ => ⟨he, hw ▸ below_grow _ w (Nat.le_refl _) k os⟩

def impl_Dec.sig : Sig := ⟨[.val (.int .i64)], [.val .str]⟩
noncomputable def impl_Dec.ctr : Ctr := ⟨impl_Dec.sig, fun x => impl_Dec.f x⟩
noncomputable def impl_Dec.env : Env := [(204, [strconv_Itoa.ctr])]
def impl_Dec.ann : Ann := ⟨[], [], []⟩
theorem impl_Dec.ok : CtrOk Tryz.prog 178 impl_Dec.ctr := fn_sound (A := impl_Dec.ann) tabOk (EnvOk.cons (ctrs_cons strconv_Itoa.ok ctrs_nil) EnvOk.nil) mixed (fn := Tryz.f178) (body := bodyOf Tryz.f178) Tryz.func178 (by kernel_rfl) (by kernel_rfl) (fun x => by kernel_rfl)

def impl_named.sig : Sig := ⟨[.val .str, .val (.int .i64)], [.val .str]⟩
noncomputable def impl_named.ctr : Ctr := ⟨impl_named.sig, fun x => impl_named.f x.1 x.2⟩
noncomputable def impl_named.env : Env := [(105, [impl_in.ctr]), (178, [impl_Dec.ctr])]
def impl_named.ann : Ann := ⟨[], [], []⟩
theorem impl_named.ok : CtrOk Tryz.prog 139 impl_named.ctr := fn_sound (A := impl_named.ann) tabOk (EnvOk.cons (ctrs_cons impl_in.ok ctrs_nil) (EnvOk.cons (ctrs_cons impl_Dec.ok ctrs_nil) EnvOk.nil)) mixed (fn := Tryz.f139) (body := bodyOf Tryz.f139) Tryz.func139 (by kernel_rfl) (by kernel_rfl) (fun x => by kernel_rfl)

def impl_SegName.sig : Sig := ⟨[.val (.int .i64)], [.val .str]⟩
noncomputable def impl_SegName.ctr : Ctr := ⟨impl_SegName.sig, fun x => impl_SegName.f x⟩
noncomputable def impl_SegName.env : Env := [(139, [impl_named.ctr])]
def impl_SegName.ann : Ann := ⟨[], [], []⟩
theorem impl_SegName.ok : CtrOk Tryz.prog 83 impl_SegName.ctr := fn_sound (A := impl_SegName.ann) tabOk (EnvOk.cons (ctrs_cons impl_named.ok ctrs_nil) EnvOk.nil) mixed (fn := Tryz.f83) (body := bodyOf Tryz.f83) Tryz.func83 (by kernel_rfl) (by kernel_rfl) (fun x => by kernel_rfl)

def impl_Crc.sig : Sig := ⟨[.val .str], [.val (.int .i64)]⟩
noncomputable def impl_Crc.ctr : Ctr := ⟨impl_Crc.sig, fun x => impl_Crc.f x⟩
noncomputable def impl_Crc.env : Env := []
def impl_Crc.ann : Ann := ⟨[(2, ([(0, .val .str), (3, .val (.int .u32)), (4, .val (.int .i64)), (18, .val (.int .i64))], [(.exit 2, [(0, .val .str), (3, .val (.int .u32)), (4, .val (.int .i64))])])), (0, ([(0, .val .str), (3, .val (.int .u32)), (4, .val (.int .i64))], [(.exit 0, [(3, .val (.int .u32))])]))], [], [(10, [(.normal, [(0, .val .str), (3, .val (.int .u32)), (4, .val (.int .i64)), (18, .val (.int .i64))])])]⟩
theorem impl_Crc.ok : CtrOk Tryz.prog 194 impl_Crc.ctr := fn_sound (A := impl_Crc.ann) tabOk EnvOk.nil mixed (fn := Tryz.f194) (body := bodyOf Tryz.f194) Tryz.func194 (by kernel_rfl) (by kernel_rfl) (fun x => by kernel_rfl)

def impl_Var.sig : Sig := ⟨[.val (.int .i64)], [.val .str]⟩
noncomputable def impl_Var.ctr : Ctr := ⟨impl_Var.sig, fun x => impl_Var.f x⟩
noncomputable def impl_Var.env : Env := [(105, [impl_in.ctr])]
def impl_Var.ann : Ann := ⟨[(0, ([(0, .val (.int .i64)), (3, .val (.sl true (.int .u8)))], [(.exit 0, [(0, .val (.int .i64)), (3, .val (.sl true (.int .u8)))])]))], [], []⟩
theorem impl_Var.ok : CtrOk Tryz.prog 197 impl_Var.ctr := fn_sound (A := impl_Var.ann) tabOk (EnvOk.cons (ctrs_cons impl_in.ok ctrs_nil) EnvOk.nil) mixed (fn := Tryz.f197) (body := bodyOf Tryz.f197) Tryz.func197 (by kernel_rfl) (by kernel_rfl) (fun x => by kernel_rfl)

def impl_textOf.sig : Sig := ⟨[.val .str], [.val .str]⟩
noncomputable def impl_textOf.ctr : Ctr := ⟨impl_textOf.sig, fun x => impl_textOf.f x⟩
noncomputable def impl_textOf.env : Env := [(197, [impl_Var.ctr])]
def impl_textOf.ann : Ann := ⟨[], [], []⟩
theorem impl_textOf.ok : CtrOk Tryz.prog 195 impl_textOf.ctr := fn_sound (A := impl_textOf.ann) tabOk (EnvOk.cons (ctrs_cons impl_Var.ok ctrs_nil) EnvOk.nil) mixed (fn := Tryz.f195) (body := bodyOf Tryz.f195) Tryz.func195 (by kernel_rfl) (by kernel_rfl) (fun x => by kernel_rfl)

def impl_Fixed.sig : Sig := ⟨[.val (.int .i64), .val (.int .i64)], [.val .str]⟩
noncomputable def impl_Fixed.ctr : Ctr := ⟨impl_Fixed.sig, fun x => impl_Fixed.f x.1 x.2⟩
noncomputable def impl_Fixed.env : Env := [(105, [impl_in.ctr])]
def impl_Fixed.ann : Ann := ⟨[(0, ([(0, .val (.int .i64)), (5, .val (.sl true (.int .u8))), (6, .val (.int .i64))], [(.exit 0, [(5, .val (.sl true (.int .u8)))])]))], [], []⟩
theorem impl_Fixed.ok : CtrOk Tryz.prog 196 impl_Fixed.ctr := fn_sound (A := impl_Fixed.ann) tabOk (EnvOk.cons (ctrs_cons impl_in.ok ctrs_nil) EnvOk.nil) mixed (fn := Tryz.f196) (body := bodyOf Tryz.f196) Tryz.func196 (by kernel_rfl) (by kernel_rfl) (fun x => by kernel_rfl)

def impl_Frame.sig : Sig := ⟨[.val .str], [.val .str]⟩
noncomputable def impl_Frame.ctr : Ctr := ⟨impl_Frame.sig, fun x => impl_Frame.f x⟩
noncomputable def impl_Frame.env : Env := [(194, [impl_Crc.ctr]), (195, [impl_textOf.ctr]), (196, [impl_Fixed.ctr])]
def impl_Frame.ann : Ann := ⟨[], [], []⟩
theorem impl_Frame.ok : CtrOk Tryz.prog 164 impl_Frame.ctr := fn_sound (A := impl_Frame.ann) tabOk (EnvOk.cons (ctrs_cons impl_Crc.ok ctrs_nil) (EnvOk.cons (ctrs_cons impl_textOf.ok ctrs_nil) (EnvOk.cons (ctrs_cons impl_Fixed.ok ctrs_nil) EnvOk.nil))) mixed (fn := Tryz.f164) (body := bodyOf Tryz.f164) Tryz.func164 (by kernel_rfl) (by kernel_rfl) (fun x => by kernel_rfl)

def impl_ReadVar.sig : Sig := ⟨[.val .str], [.val (.int .i64), .val (.int .i64)]⟩
noncomputable def impl_ReadVar.ctr : Ctr := ⟨impl_ReadVar.sig, fun x => impl_ReadVar.f x⟩
noncomputable def impl_ReadVar.env : Env := []
def impl_ReadVar.ann : Ann := ⟨[(0, ([(0, .val .str), (4, .val (.int .i64)), (5, .val (.int .i64))], [(.exit 0, []), (.ret, [(2, .val (.int .i64)), (3, .val (.int .i64))])]))], [], [(8, [(.normal, [(4, .val (.int .i64)), (5, .val (.int .i64))]), (.ret, [(2, .val (.int .i64)), (3, .val (.int .i64))])])]⟩
theorem impl_ReadVar.ok : CtrOk Tryz.prog 179 impl_ReadVar.ctr := fn_sound (A := impl_ReadVar.ann) tabOk EnvOk.nil mixed (fn := Tryz.f179) (body := bodyOf Tryz.f179) Tryz.func179 (by kernel_rfl) (by kernel_rfl) (fun x => by kernel_rfl)

def impl_Unframe.sig : Sig := ⟨[.val .str], [.val .str, .val (.int .i64)]⟩
noncomputable def impl_Unframe.ctr : Ctr := ⟨impl_Unframe.sig, fun x => impl_Unframe.f x⟩
noncomputable def impl_Unframe.env : Env := [(164, [impl_Frame.ctr]), (179, [impl_ReadVar.ctr])]
def impl_Unframe.ann : Ann := ⟨[], [], []⟩
theorem impl_Unframe.ok : CtrOk Tryz.prog 140 impl_Unframe.ctr := fn_sound (A := impl_Unframe.ann) tabOk (EnvOk.cons (ctrs_cons impl_Frame.ok ctrs_nil) (EnvOk.cons (ctrs_cons impl_ReadVar.ok ctrs_nil) EnvOk.nil)) mixed (fn := Tryz.f140) (body := bodyOf Tryz.f140) Tryz.func140 (by kernel_rfl) (by kernel_rfl) (fun x => by kernel_rfl)

def impl_scanner_num.sig : Sig := ⟨[.ptr (.pair .str .bool)], [.val (.int .i64)]⟩
noncomputable def impl_scanner_num.ctr : Ctr := ⟨impl_scanner_num.sig, fun x => impl_scanner_num.f x⟩
noncomputable def impl_scanner_num.env : Env := [(179, [impl_ReadVar.ctr])]
def impl_scanner_num.ann : Ann := ⟨[], [], []⟩
theorem impl_scanner_num.ok : CtrOk Tryz.prog 180 impl_scanner_num.ctr := fn_sound (A := impl_scanner_num.ann) tabOk (EnvOk.cons (ctrs_cons impl_ReadVar.ok ctrs_nil) EnvOk.nil) mixed (fn := Tryz.f180) (body := bodyOf Tryz.f180) Tryz.func180 (by kernel_rfl) (by kernel_rfl) (fun x => by kernel_rfl)

def impl_scanner_bytes.sig : Sig := ⟨[.ptr (.pair .str .bool), .val (.int .i64)], [.val .str]⟩
noncomputable def impl_scanner_bytes.ctr : Ctr := ⟨impl_scanner_bytes.sig, fun x => impl_scanner_bytes.f x.1 x.2⟩
noncomputable def impl_scanner_bytes.env : Env := []
def impl_scanner_bytes.ann : Ann := ⟨[], [], []⟩
theorem impl_scanner_bytes.ok : CtrOk Tryz.prog 183 impl_scanner_bytes.ctr := fn_sound (A := impl_scanner_bytes.ann) tabOk EnvOk.nil mixed (fn := Tryz.f183) (body := bodyOf Tryz.f183) Tryz.func183 (by kernel_rfl) (by kernel_rfl) (fun x => by kernel_rfl)

def impl_scanner_text.sig : Sig := ⟨[.ptr (.pair .str .bool)], [.val .str]⟩
noncomputable def impl_scanner_text.ctr : Ctr := ⟨impl_scanner_text.sig, fun x => impl_scanner_text.f x⟩
noncomputable def impl_scanner_text.env : Env := [(180, [impl_scanner_num.ctr]), (183, [impl_scanner_bytes.ctr])]
def impl_scanner_text.ann : Ann := ⟨[], [], []⟩
theorem impl_scanner_text.ok : CtrOk Tryz.prog 181 impl_scanner_text.ctr := fn_sound (A := impl_scanner_text.ann) tabOk (EnvOk.cons (ctrs_cons impl_scanner_num.ok ctrs_nil) (EnvOk.cons (ctrs_cons impl_scanner_bytes.ok ctrs_nil) EnvOk.nil)) mixed (fn := Tryz.f181) (body := bodyOf Tryz.f181) Tryz.func181 (by kernel_rfl) (by kernel_rfl) (fun x => by kernel_rfl)

def impl_ReadFixed.sig : Sig := ⟨[.val .str, .val (.int .i64)], [.val (.int .i64), .val .bool]⟩
noncomputable def impl_ReadFixed.ctr : Ctr := ⟨impl_ReadFixed.sig, fun x => impl_ReadFixed.f x.1 x.2⟩
noncomputable def impl_ReadFixed.env : Env := [(105, [impl_in.ctr])]
def impl_ReadFixed.ann : Ann := ⟨[(0, ([(0, .val .str), (6, .val (.int .i64)), (17, .val (.int .i64)), (18, .val (.int .i64))], [(.exit 0, [(6, .val (.int .i64))])]))], [], []⟩
theorem impl_ReadFixed.ok : CtrOk Tryz.prog 182 impl_ReadFixed.ctr := fn_sound (A := impl_ReadFixed.ann) tabOk (EnvOk.cons (ctrs_cons impl_in.ok ctrs_nil) EnvOk.nil) mixed (fn := Tryz.f182) (body := bodyOf Tryz.f182) Tryz.func182 (by kernel_rfl) (by kernel_rfl) (fun x => by kernel_rfl)

def impl_KeyOk.sig : Sig := ⟨[.val .str], [.val .bool]⟩
noncomputable def impl_KeyOk.ctr : Ctr := ⟨impl_KeyOk.sig, fun x => impl_KeyOk.f x⟩
noncomputable def impl_KeyOk.env : Env := [(105, [impl_in.ctr])]
def impl_KeyOk.ann : Ann := ⟨[], [], []⟩
theorem impl_KeyOk.ok : CtrOk Tryz.prog 150 impl_KeyOk.ctr := fn_sound (A := impl_KeyOk.ann) tabOk (EnvOk.cons (ctrs_cons impl_in.ok ctrs_nil) EnvOk.nil) mixed (fn := Tryz.f150) (body := bodyOf Tryz.f150) Tryz.func150 (by kernel_rfl) (by kernel_rfl) (fun x => by kernel_rfl)

def impl_RecOk.sig : Sig := ⟨[.val (.pair (.int .i64) (.pair (.int .i64) (.pair .str (.pair .str (.pair (.int .i64) (.int .i64))))))], [.val .bool]⟩
noncomputable def impl_RecOk.ctr : Ctr := ⟨impl_RecOk.sig, fun x => impl_RecOk.f x⟩
noncomputable def impl_RecOk.env : Env := [(105, [impl_in.ctr]), (150, [impl_KeyOk.ctr])]
def impl_RecOk.ann : Ann := ⟨[], [], [(4, [(.normal, [(1, .ptr (.pair (.int .i64) (.pair (.int .i64) (.pair .str (.pair .str (.pair (.int .i64) (.int .i64))))))), (3, .ptr (.pair (.int .i64) (.pair (.int .i64) (.pair .str (.pair .str (.pair (.int .i64) (.int .i64))))))), (4, .val .bool), (5, .val (.int .i64)), (12, .val (.int .i64)), (13, .val .bool)])])]⟩
theorem impl_RecOk.ok : CtrOk Tryz.prog 184 impl_RecOk.ctr := fn_sound (A := impl_RecOk.ann) tabOk (EnvOk.cons (ctrs_cons impl_in.ok ctrs_nil) (EnvOk.cons (ctrs_cons impl_KeyOk.ok ctrs_nil) EnvOk.nil)) mixed (fn := Tryz.f184) (body := bodyOf Tryz.f184) Tryz.func184 (by kernel_rfl) (by kernel_rfl) (fun x => by kernel_rfl)

def impl_ReadRec.sig : Sig := ⟨[.val .str], [.val (.pair (.int .i64) (.pair (.int .i64) (.pair .str (.pair .str (.pair (.int .i64) (.int .i64)))))), .val .bool]⟩
noncomputable def impl_ReadRec.ctr : Ctr := ⟨impl_ReadRec.sig, fun x => impl_ReadRec.f x⟩
noncomputable def impl_ReadRec.env : Env := [(180, [impl_scanner_num.ctr]), (181, [impl_scanner_text.ctr]), (182, [impl_ReadFixed.ctr]), (183, [impl_scanner_bytes.ctr]), (184, [impl_RecOk.ctr])]
def impl_ReadRec.ann : Ann := ⟨[], [(0, [(.normal, [(2, .ptr (.pair (.int .i64) (.pair (.int .i64) (.pair .str (.pair .str (.pair (.int .i64) (.int .i64))))))), (4, .ptr (.pair .str .bool)), (5, .ptr (.pair (.int .i64) (.pair (.int .i64) (.pair .str (.pair .str (.pair (.int .i64) (.int .i64)))))))])])], [(8, [(.normal, [(2, .ptr (.pair (.int .i64) (.pair (.int .i64) (.pair .str (.pair .str (.pair (.int .i64) (.int .i64))))))), (4, .ptr (.pair .str .bool)), (5, .ptr (.pair (.int .i64) (.pair (.int .i64) (.pair .str (.pair .str (.pair (.int .i64) (.int .i64))))))), (16, .val (.int .i64)), (27, .val .bool)])]), (12, [(.normal, [(2, .ptr (.pair (.int .i64) (.pair (.int .i64) (.pair .str (.pair .str (.pair (.int .i64) (.int .i64))))))), (4, .ptr (.pair .str .bool)), (5, .ptr (.pair (.int .i64) (.pair (.int .i64) (.pair .str (.pair .str (.pair (.int .i64) (.int .i64)))))))])])]⟩
theorem impl_ReadRec.ok : CtrOk Tryz.prog 141 impl_ReadRec.ctr := fn_sound (A := impl_ReadRec.ann) tabOk (EnvOk.cons (ctrs_cons impl_scanner_num.ok ctrs_nil) (EnvOk.cons (ctrs_cons impl_scanner_text.ok ctrs_nil) (EnvOk.cons (ctrs_cons impl_ReadFixed.ok ctrs_nil) (EnvOk.cons (ctrs_cons impl_scanner_bytes.ok ctrs_nil) (EnvOk.cons (ctrs_cons impl_RecOk.ok ctrs_nil) EnvOk.nil))))) mixed (fn := Tryz.f141) (body := bodyOf Tryz.f141) Tryz.func141 (by kernel_rfl) (by kernel_rfl) (fun x => by kernel_rfl)

def impl_RecAt.sig : Sig := ⟨[.val .str, .val (.int .i64), .val (.int .i64)], [.val (.pair (.int .i64) (.pair (.int .i64) (.pair .str (.pair .str (.pair (.int .i64) (.int .i64)))))), .val .bool]⟩
noncomputable def impl_RecAt.ctr : Ctr := ⟨impl_RecAt.sig, fun x => impl_RecAt.f x.1 x.2.1 x.2.2⟩
noncomputable def impl_RecAt.env : Env := [(105, [impl_in.ctr]), (140, [impl_Unframe.ctr]), (141, [impl_ReadRec.ctr])]
def impl_RecAt.ann : Ann := ⟨[], [], []⟩
theorem impl_RecAt.ok : CtrOk Tryz.prog 84 impl_RecAt.ctr := fn_sound (A := impl_RecAt.ann) tabOk (EnvOk.cons (ctrs_cons impl_in.ok ctrs_nil) (EnvOk.cons (ctrs_cons impl_Unframe.ok ctrs_nil) (EnvOk.cons (ctrs_cons impl_ReadRec.ok ctrs_nil) EnvOk.nil))) mixed (fn := Tryz.f84) (body := bodyOf Tryz.f84) Tryz.func84 (by kernel_rfl) (by kernel_rfl) (fun x => by kernel_rfl)

def impl_Get.sig : Sig := ⟨[.val (.pair (.pair (.int .i64) (.sl false (.int .i64))) (.pair (.sl false (.pair .str (.pair (.int .i64) (.pair (.int .i64) (.pair (.int .i64) (.int .i64)))))) (.pair (.int .i64) (.pair (.int .i64) (.int .i64))))), .val (.pair (.sl false (.pair .str (.pair .str (.int .i64)))) (.pair (.int .i64) (.pair (.int .i64) .bool))), .val .str], [.val (.pair .str (.pair .str (.int .i64))), .val (.int .i64)]⟩
noncomputable def impl_Get.ctr : Ctr := ⟨impl_Get.sig, fun x => impl_Get.f x.1 x.2.1 x.2.2⟩
noncomputable def impl_Get.env : Env := [(81, [impl_DirGet.ctr]), (82, [impl_FileText.ctr]), (83, [impl_SegName.ctr]), (84, [impl_RecAt.ctr])]
def impl_Get.ann : Ann := ⟨[], [], []⟩
theorem impl_Get.ok : CtrOk Tryz.prog 40 impl_Get.ctr := fn_sound (A := impl_Get.ann) tabOk (EnvOk.cons (ctrs_cons impl_DirGet.ok ctrs_nil) (EnvOk.cons (ctrs_cons impl_FileText.ok ctrs_nil) (EnvOk.cons (ctrs_cons impl_SegName.ok ctrs_nil) (EnvOk.cons (ctrs_cons impl_RecAt.ok ctrs_nil) EnvOk.nil)))) mixed (fn := Tryz.f40) (body := bodyOf Tryz.f40) Tryz.func40 (by kernel_rfl) (by kernel_rfl) (fun x => by kernel_rfl)

def impl_Dump.sig : Sig := ⟨[.val (.pair (.pair (.int .i64) (.sl false (.int .i64))) (.pair (.sl false (.pair .str (.pair (.int .i64) (.pair (.int .i64) (.pair (.int .i64) (.int .i64)))))) (.pair (.int .i64) (.pair (.int .i64) (.int .i64))))), .val (.pair (.sl false (.pair .str (.pair .str (.int .i64)))) (.pair (.int .i64) (.pair (.int .i64) .bool)))], [.val (.sl true (.pair .str (.pair .str (.int .i64)))), .val (.int .i64)]⟩
noncomputable def impl_Dump.ctr : Ctr := ⟨impl_Dump.sig, fun x => impl_Dump.f x.1 x.2⟩
noncomputable def impl_Dump.env : Env := [(39, [impl_DirKeys.ctr]), (40, [impl_Get.ctr])]
def impl_Dump.ann : Ann := ⟨[(0, ([(2, .ptr (.pair (.pair (.int .i64) (.sl false (.int .i64))) (.pair (.sl false (.pair .str (.pair (.int .i64) (.pair (.int .i64) (.pair (.int .i64) (.int .i64)))))) (.pair (.int .i64) (.pair (.int .i64) (.int .i64)))))), (3, .ptr (.pair (.sl false (.pair .str (.pair .str (.int .i64)))) (.pair (.int .i64) (.pair (.int .i64) .bool)))), (6, .val (.sl true (.pair .str (.pair .str (.int .i64))))), (13, .val (.sl true .str)), (14, .val (.int .i64)), (15, .val (.int .i64))], [(.exit 0, [(6, .val (.sl true (.pair .str (.pair .str (.int .i64)))))]), (.ret, [(4, .val (.sl true (.pair .str (.pair .str (.int .i64))))), (5, .val (.int .i64))])]))], [], []⟩
theorem impl_Dump.ok : CtrOk Tryz.prog 12 impl_Dump.ctr := fn_sound (A := impl_Dump.ann) tabOk (EnvOk.cons (ctrs_cons impl_DirKeys.ok ctrs_nil) (EnvOk.cons (ctrs_cons impl_Get.ok ctrs_nil) EnvOk.nil)) mixed (fn := Tryz.f12) (body := bodyOf Tryz.f12) Tryz.func12 (by kernel_rfl) (by kernel_rfl) (fun x => by kernel_rfl)

def impl_copyLive.sig : Sig := ⟨[.val (.pair (.int .i64) (.sl false (.int .i64)))], [.val (.pair (.int .i64) (.sl true (.int .i64)))]⟩
noncomputable def impl_copyLive.ctr : Ctr := ⟨impl_copyLive.sig, fun x => impl_copyLive.f x⟩
noncomputable def impl_copyLive.env : Env := []
def impl_copyLive.ann : Ann := ⟨[], [], []⟩
theorem impl_copyLive.ok : CtrOk Tryz.prog 100 impl_copyLive.ctr := fn_sound (A := impl_copyLive.ann) tabOk EnvOk.nil mixed (fn := Tryz.f100) (body := bodyOf Tryz.f100) Tryz.func100 (by kernel_rfl) (by kernel_rfl) (fun x => by kernel_rfl)

def impl_copyDir.sig : Sig := ⟨[.val (.sl false (.pair .str (.pair (.int .i64) (.pair (.int .i64) (.pair (.int .i64) (.int .i64))))))], [.val (.sl true (.pair .str (.pair (.int .i64) (.pair (.int .i64) (.pair (.int .i64) (.int .i64))))))]⟩
noncomputable def impl_copyDir.ctr : Ctr := ⟨impl_copyDir.sig, fun x => impl_copyDir.f x⟩
noncomputable def impl_copyDir.env : Env := []
def impl_copyDir.ann : Ann := ⟨[], [], []⟩
theorem impl_copyDir.ok : CtrOk Tryz.prog 101 impl_copyDir.ctr := fn_sound (A := impl_copyDir.ann) tabOk EnvOk.nil mixed (fn := Tryz.f101) (body := bodyOf Tryz.f101) Tryz.func101 (by kernel_rfl) (by kernel_rfl) (fun x => by kernel_rfl)

def impl_copyStore.sig : Sig := ⟨[.val (.pair (.pair (.int .i64) (.sl false (.int .i64))) (.pair (.sl false (.pair .str (.pair (.int .i64) (.pair (.int .i64) (.pair (.int .i64) (.int .i64)))))) (.pair (.int .i64) (.pair (.int .i64) (.int .i64)))))], [.val (.pair (.pair (.int .i64) (.sl true (.int .i64))) (.pair (.sl true (.pair .str (.pair (.int .i64) (.pair (.int .i64) (.pair (.int .i64) (.int .i64)))))) (.pair (.int .i64) (.pair (.int .i64) (.int .i64)))))]⟩
noncomputable def impl_copyStore.ctr : Ctr := ⟨impl_copyStore.sig, fun x => impl_copyStore.f x⟩
noncomputable def impl_copyStore.env : Env := [(100, [impl_copyLive.ctr]), (101, [impl_copyDir.ctr])]
def impl_copyStore.ann : Ann := ⟨[], [], []⟩
theorem impl_copyStore.ok : CtrOk Tryz.prog 53 impl_copyStore.ctr := fn_sound (A := impl_copyStore.ann) tabOk (EnvOk.cons (ctrs_cons impl_copyLive.ok ctrs_nil) (EnvOk.cons (ctrs_cons impl_copyDir.ok ctrs_nil) EnvOk.nil)) mixed (fn := Tryz.f53) (body := bodyOf Tryz.f53) Tryz.func53 (by kernel_rfl) (by kernel_rfl) (fun x => by kernel_rfl)

def impl_copyDisk.sig : Sig := ⟨[.val (.pair (.sl false (.pair .str (.pair .str (.int .i64)))) (.pair (.int .i64) (.pair (.int .i64) .bool)))], [.val (.pair (.sl true (.pair .str (.pair .str (.int .i64)))) (.pair (.int .i64) (.pair (.int .i64) .bool)))]⟩
noncomputable def impl_copyDisk.ctr : Ctr := ⟨impl_copyDisk.sig, fun x => impl_copyDisk.f x⟩
noncomputable def impl_copyDisk.env : Env := []
def impl_copyDisk.ann : Ann := ⟨[], [], []⟩
theorem impl_copyDisk.ok : CtrOk Tryz.prog 54 impl_copyDisk.ctr := fn_sound (A := impl_copyDisk.ann) tabOk EnvOk.nil mixed (fn := Tryz.f54) (body := bodyOf Tryz.f54) Tryz.func54 (by kernel_rfl) (by kernel_rfl) (fun x => by kernel_rfl)

def impl_LiveOk.sig : Sig := ⟨[.val (.pair (.int .i64) (.sl false (.int .i64)))], [.val .bool]⟩
noncomputable def impl_LiveOk.ctr : Ctr := ⟨impl_LiveOk.sig, fun x => impl_LiveOk.f x⟩
noncomputable def impl_LiveOk.env : Env := [(105, [impl_in.ctr])]
def impl_LiveOk.ann : Ann := ⟨[(0, ([(1, .ptr (.pair (.int .i64) (.sl false (.int .i64)))), (6, .val (.sl false (.int .i64))), (7, .val (.int .i64)), (8, .val (.int .i64))], [(.exit 0, [(1, .ptr (.pair (.int .i64) (.sl false (.int .i64))))]), (.ret, [(2, .val .bool)])]))], [], [(4, [(.normal, [(1, .ptr (.pair (.int .i64) (.sl false (.int .i64)))), (6, .val (.sl false (.int .i64))), (7, .val (.int .i64)), (8, .val (.int .i64))]), (.ret, [(2, .val .bool)])])]⟩
theorem impl_LiveOk.ok : CtrOk Tryz.prog 103 impl_LiveOk.ctr := fn_sound (A := impl_LiveOk.ann) tabOk (EnvOk.cons (ctrs_cons impl_in.ok ctrs_nil) EnvOk.nil) mixed (fn := Tryz.f103) (body := bodyOf Tryz.f103) Tryz.func103 (by kernel_rfl) (by kernel_rfl) (fun x => by kernel_rfl)

def impl_DirOk.sig : Sig := ⟨[.val (.sl false (.pair .str (.pair (.int .i64) (.pair (.int .i64) (.pair (.int .i64) (.int .i64))))))], [.val .bool]⟩
noncomputable def impl_DirOk.ctr : Ctr := ⟨impl_DirOk.sig, fun x => impl_DirOk.f x⟩
noncomputable def impl_DirOk.env : Env := [(105, [impl_in.ctr]), (150, [impl_KeyOk.ctr])]
def impl_DirOk.ann : Ann := ⟨[(0, ([(0, .val (.sl false (.pair .str (.pair (.int .i64) (.pair (.int .i64) (.pair (.int .i64) (.int .i64))))))), (5, .val (.sl false (.pair .str (.pair (.int .i64) (.pair (.int .i64) (.pair (.int .i64) (.int .i64))))))), (6, .val (.int .i64)), (7, .val (.int .i64))], [(.exit 0, [(0, .val (.sl false (.pair .str (.pair (.int .i64) (.pair (.int .i64) (.pair (.int .i64) (.int .i64)))))))]), (.ret, [(2, .val .bool)])]))], [], [(4, [(.normal, [(0, .val (.sl false (.pair .str (.pair (.int .i64) (.pair (.int .i64) (.pair (.int .i64) (.int .i64))))))), (5, .val (.sl false (.pair .str (.pair (.int .i64) (.pair (.int .i64) (.pair (.int .i64) (.int .i64))))))), (6, .val (.int .i64)), (7, .val (.int .i64))]), (.ret, [(2, .val .bool)])])]⟩
theorem impl_DirOk.ok : CtrOk Tryz.prog 104 impl_DirOk.ctr := fn_sound (A := impl_DirOk.ann) tabOk (EnvOk.cons (ctrs_cons impl_in.ok ctrs_nil) (EnvOk.cons (ctrs_cons impl_KeyOk.ok ctrs_nil) EnvOk.nil)) mixed (fn := Tryz.f104) (body := bodyOf Tryz.f104) Tryz.func104 (by kernel_rfl) (by kernel_rfl) (fun x => by kernel_rfl)

def impl_ScanRecs.sig : Sig := ⟨[.val .str], [.val (.sl false (.pair (.int .i64) (.pair (.int .i64) (.pair (.int .i64) (.pair (.int .i64) (.pair .str (.pair .str (.pair (.int .i64) (.int .i64))))))))), .val (.int .i64)]⟩
noncomputable def impl_ScanRecs.ctr : Ctr := ⟨impl_ScanRecs.sig, fun x => impl_ScanRecs.f x⟩
noncomputable def impl_ScanRecs.env : Env := [(140, [impl_Unframe.ctr]), (141, [impl_ReadRec.ctr])]
def impl_ScanRecs.ann : Ann := ⟨[(0, ([(0, .val .str), (4, .val (.sl true (.pair (.int .i64) (.pair (.int .i64) (.pair (.int .i64) (.pair (.int .i64) (.pair .str (.pair .str (.pair (.int .i64) (.int .i64)))))))))), (5, .val (.int .i64))], [(.ret, [(2, .val (.sl true (.pair (.int .i64) (.pair (.int .i64) (.pair (.int .i64) (.pair (.int .i64) (.pair .str (.pair .str (.pair (.int .i64) (.int .i64)))))))))), (3, .val (.int .i64))])]))], [], []⟩
theorem impl_ScanRecs.ok : CtrOk Tryz.prog 106 impl_ScanRecs.ctr := fn_sound (A := impl_ScanRecs.ann) tabOk (EnvOk.cons (ctrs_cons impl_Unframe.ok ctrs_nil) (EnvOk.cons (ctrs_cons impl_ReadRec.ok ctrs_nil) EnvOk.nil)) mixed (fn := Tryz.f106) (body := bodyOf Tryz.f106) Tryz.func106 (by kernel_rfl) (by kernel_rfl) (fun x => by kernel_rfl)

def impl_StoreOk.sig : Sig := ⟨[.val (.pair (.pair (.int .i64) (.sl false (.int .i64))) (.pair (.sl false (.pair .str (.pair (.int .i64) (.pair (.int .i64) (.pair (.int .i64) (.int .i64)))))) (.pair (.int .i64) (.pair (.int .i64) (.int .i64))))), .val (.pair (.sl false (.pair .str (.pair .str (.int .i64)))) (.pair (.int .i64) (.pair (.int .i64) .bool)))], [.val .bool]⟩
noncomputable def impl_StoreOk.ctr : Ctr := ⟨impl_StoreOk.sig, fun x => impl_StoreOk.f x.1 x.2⟩
noncomputable def impl_StoreOk.env : Env := [(82, [impl_FileText.ctr]), (83, [impl_SegName.ctr]), (84, [impl_RecAt.ctr]), (102, [impl_DiskOk.ctr]), (103, [impl_LiveOk.ctr]), (104, [impl_DirOk.ctr]), (105, [impl_in.ctr]), (106, [impl_ScanRecs.ctr])]
def impl_StoreOk.ann : Ann := ⟨[(0, ([(2, .ptr (.pair (.pair (.int .i64) (.sl false (.int .i64))) (.pair (.sl false (.pair .str (.pair (.int .i64) (.pair (.int .i64) (.pair (.int .i64) (.int .i64)))))) (.pair (.int .i64) (.pair (.int .i64) (.int .i64)))))), (3, .ptr (.pair (.sl false (.pair .str (.pair .str (.int .i64)))) (.pair (.int .i64) (.pair (.int .i64) .bool)))), (40, .val (.sl false (.int .i64))), (41, .val (.int .i64)), (42, .val (.int .i64))], [(.exit 0, [(2, .ptr (.pair (.pair (.int .i64) (.sl false (.int .i64))) (.pair (.sl false (.pair .str (.pair (.int .i64) (.pair (.int .i64) (.pair (.int .i64) (.int .i64)))))) (.pair (.int .i64) (.pair (.int .i64) (.int .i64)))))), (3, .ptr (.pair (.sl false (.pair .str (.pair .str (.int .i64)))) (.pair (.int .i64) (.pair (.int .i64) .bool))))]), (.ret, [(4, .val .bool)])])), (2, ([(2, .ptr (.pair (.pair (.int .i64) (.sl false (.int .i64))) (.pair (.sl false (.pair .str (.pair (.int .i64) (.pair (.int .i64) (.pair (.int .i64) (.int .i64)))))) (.pair (.int .i64) (.pair (.int .i64) (.int .i64)))))), (3, .ptr (.pair (.sl false (.pair .str (.pair .str (.int .i64)))) (.pair (.int .i64) (.pair (.int .i64) .bool)))), (84, .val (.sl false (.pair .str (.pair (.int .i64) (.pair (.int .i64) (.pair (.int .i64) (.int .i64))))))), (85, .val (.int .i64)), (86, .val (.int .i64))], [(.exit 2, []), (.ret, [(4, .val .bool)])]))], [], [(8, [(.normal, [(2, .ptr (.pair (.pair (.int .i64) (.sl false (.int .i64))) (.pair (.sl false (.pair .str (.pair (.int .i64) (.pair (.int .i64) (.pair (.int .i64) (.int .i64)))))) (.pair (.int .i64) (.pair (.int .i64) (.int .i64)))))), (3, .ptr (.pair (.sl false (.pair .str (.pair .str (.int .i64)))) (.pair (.int .i64) (.pair (.int .i64) .bool)))), (40, .val (.sl false (.int .i64))), (41, .val (.int .i64)), (42, .val (.int .i64))]), (.ret, [(4, .val .bool)])]), (16, [(.normal, [(2, .ptr (.pair (.pair (.int .i64) (.sl false (.int .i64))) (.pair (.sl false (.pair .str (.pair (.int .i64) (.pair (.int .i64) (.pair (.int .i64) (.int .i64)))))) (.pair (.int .i64) (.pair (.int .i64) (.int .i64)))))), (3, .ptr (.pair (.sl false (.pair .str (.pair .str (.int .i64)))) (.pair (.int .i64) (.pair (.int .i64) .bool)))), (84, .val (.sl false (.pair .str (.pair (.int .i64) (.pair (.int .i64) (.pair (.int .i64) (.int .i64))))))), (85, .val (.int .i64)), (86, .val (.int .i64))]), (.ret, [(4, .val .bool)])])]⟩
theorem impl_StoreOk.ok : CtrOk Tryz.prog 55 impl_StoreOk.ctr := fn_sound (A := impl_StoreOk.ann) tabOk (EnvOk.cons (ctrs_cons impl_FileText.ok ctrs_nil) (EnvOk.cons (ctrs_cons impl_SegName.ok ctrs_nil) (EnvOk.cons (ctrs_cons impl_RecAt.ok ctrs_nil) (EnvOk.cons (ctrs_cons impl_DiskOk.ok ctrs_nil) (EnvOk.cons (ctrs_cons impl_LiveOk.ok ctrs_nil) (EnvOk.cons (ctrs_cons impl_DirOk.ok ctrs_nil) (EnvOk.cons (ctrs_cons impl_in.ok ctrs_nil) (EnvOk.cons (ctrs_cons impl_ScanRecs.ok ctrs_nil) EnvOk.nil)))))))) mixed (fn := Tryz.f55) (body := bodyOf Tryz.f55) Tryz.func55 (by kernel_rfl) (by kernel_rfl) (fun x => by kernel_rfl)

def impl_told.sig : Sig := ⟨[.val (.int .i64)], [.val (.int .i64)]⟩
noncomputable def impl_told.ctr : Ctr := ⟨impl_told.sig, fun x => impl_told.f x⟩
noncomputable def impl_told.env : Env := []
def impl_told.ann : Ann := ⟨[], [], []⟩
theorem impl_told.ok : CtrOk Tryz.prog 187 impl_told.ctr := fn_sound (A := impl_told.ann) tabOk EnvOk.nil mixed (fn := Tryz.f187) (body := bodyOf Tryz.f187) Tryz.func187 (by kernel_rfl) (by kernel_rfl) (fun x => by kernel_rfl)

def impl_worker_took_o.sig : Sig := ⟨[.ptr (.pair (.pair (.sl true (.pair .str (.pair .str (.int .i64)))) (.pair (.int .i64) (.pair (.int .i64) .bool))) (.int .i64)), .val (.pair (.sl true (.pair .str (.pair .str (.int .i64)))) (.pair (.int .i64) (.pair (.int .i64) .bool))), .val (.int .i64)], []⟩
noncomputable def impl_worker_took_o.ctr : Ctr := ⟨impl_worker_took_o.sig, fun x => impl_worker_took_o.f x.1 x.2.1 x.2.2⟩
noncomputable def impl_worker_took_o.env : Env := [(187, [impl_told.ctr])]
def impl_worker_took_o.ann : Ann := ⟨[], [], []⟩
theorem impl_worker_took_o.ok : CtrOk Tryz.prog 151 impl_worker_took_o.ctr := fn_sound (A := impl_worker_took_o.ann) tabOk (EnvOk.cons (ctrs_cons impl_told.ok ctrs_nil) EnvOk.nil) mixed (fn := Tryz.f151) (body := bodyOf Tryz.f151) Tryz.func151 (by kernel_rfl) (by kernel_rfl) (fun x => by kernel_rfl)

def impl_Sync_1.sig : Sig := ⟨[.ptr (.pair (.sl true (.pair .str (.pair .str (.int .i64)))) (.pair (.int .i64) (.pair (.int .i64) .bool))), .val (.box none .str)], [.val (.int .i64)]⟩
noncomputable def impl_Sync_1.ctr : Ctr := ⟨impl_Sync_1.sig, fun x => impl_Sync_1.f x.1 x.2⟩
noncomputable def impl_Sync_1.env : Env := [(138, [impl_fileAt.ctr])]
def impl_Sync_1.ann : Ann := ⟨[], [], []⟩
theorem impl_Sync_1.ok : CtrOk Tryz.prog 189 impl_Sync_1.ctr := fn_sound (A := impl_Sync_1.ann) tabOk (EnvOk.cons (ctrs_cons impl_fileAt.ok ctrs_nil) EnvOk.nil) mixed (fn := Tryz.f189) (body := bodyOf Tryz.f189) Tryz.func189 (by kernel_rfl) (by kernel_rfl) (fun x => by kernel_rfl)

def impl_step_Sync_1.sig : Sig := ⟨[.val (.pair (.sl false (.pair .str (.pair .str (.int .i64)))) (.pair (.int .i64) (.pair (.int .i64) .bool))), .val (.box (some 189) (.box none .str))], [.val (.pair (.sl true (.pair .str (.pair .str (.int .i64)))) (.pair (.int .i64) (.pair (.int .i64) .bool))), .val (.int .i64)]⟩
noncomputable def impl_step_Sync_1.ctr : Ctr := ⟨impl_step_Sync_1.sig, fun x => impl_step_Sync_1.f x.1 x.2⟩
noncomputable def impl_step_Sync_1.env : Env := [(54, [impl_copyDisk.ctr]), (102, [impl_DiskOk.ctr]), (189, [impl_Sync_1.ctr])]
def impl_step_Sync_1.ann : Ann := ⟨[], [], [(7, [(.normal, [(1, .val (.box (some 189) (.box none .str))), (4, .ptr (.pair (.sl true (.pair .str (.pair .str (.int .i64)))) (.pair (.int .i64) (.pair (.int .i64) .bool)))), (6, .ptr (.pair (.sl true (.pair .str (.pair .str (.int .i64)))) (.pair (.int .i64) (.pair (.int .i64) .bool))))])])]⟩
theorem impl_step_Sync_1.ok : CtrOk Tryz.prog 188 impl_step_Sync_1.ctr := fn_sound (A := impl_step_Sync_1.ann) tabOk (EnvOk.cons (ctrs_cons impl_copyDisk.ok ctrs_nil) (EnvOk.cons (ctrs_cons impl_DiskOk.ok ctrs_nil) (EnvOk.cons (ctrs_cons impl_Sync_1.ok ctrs_nil) EnvOk.nil))) mixed (fn := Tryz.f188) (body := bodyOf Tryz.f188) Tryz.func188 (by kernel_rfl) (by kernel_rfl) (fun x => by kernel_rfl)

def impl_Sync.sig : Sig := ⟨[.val (.pair (.sl false (.pair .str (.pair .str (.int .i64)))) (.pair (.int .i64) (.pair (.int .i64) .bool))), .val .str], [.val (.pair (.sl true (.pair .str (.pair .str (.int .i64)))) (.pair (.int .i64) (.pair (.int .i64) .bool))), .val (.int .i64)]⟩
noncomputable def impl_Sync.ctr : Ctr := ⟨impl_Sync.sig, fun x => impl_Sync.f x.1 x.2⟩
noncomputable def impl_Sync.env : Env := [(188, [impl_step_Sync_1.ctr])]
def impl_Sync.ann : Ann := ⟨[], [], []⟩
theorem impl_Sync.ok : CtrOk Tryz.prog 152 impl_Sync.ctr := fn_sound (A := impl_Sync.ann) tabOk (EnvOk.cons (ctrs_cons impl_step_Sync_1.ok ctrs_nil) EnvOk.nil) mixed (fn := Tryz.f152) (body := bodyOf Tryz.f152) Tryz.func152 (by kernel_rfl) (by kernel_rfl) (fun x => by kernel_rfl)

def impl_worker_sync.sig : Sig := ⟨[.ptr (.pair (.pair (.sl true (.pair .str (.pair .str (.int .i64)))) (.pair (.int .i64) (.pair (.int .i64) .bool))) (.int .i64)), .val .str], []⟩
noncomputable def impl_worker_sync.ctr : Ctr := ⟨impl_worker_sync.sig, fun x => impl_worker_sync.f x.1 x.2⟩
noncomputable def impl_worker_sync.env : Env := [(151, [impl_worker_took_o.ctr]), (152, [impl_Sync.ctr])]
def impl_worker_sync.ann : Ann := ⟨[], [], []⟩
theorem impl_worker_sync.ok : CtrOk Tryz.prog 107 impl_worker_sync.ctr := fn_sound (A := impl_worker_sync.ann) tabOk (EnvOk.cons (ctrs_cons impl_worker_took_o.ok ctrs_nil) (EnvOk.cons (ctrs_cons impl_Sync.ok ctrs_nil) EnvOk.nil)) mixed (fn := Tryz.f107) (body := bodyOf Tryz.f107) Tryz.func107 (by kernel_rfl) (by kernel_rfl) (fun x => by kernel_rfl)

def impl_Disk_drop.sig : Sig := ⟨[.ptr (.pair (.sl true (.pair .str (.pair .str (.int .i64)))) (.pair (.int .i64) (.pair (.int .i64) .bool))), .val .str], []⟩
noncomputable def impl_Disk_drop.ctr : Ctr := ⟨impl_Disk_drop.sig, fun x => impl_Disk_drop.f x.1 x.2⟩
noncomputable def impl_Disk_drop.env : Env := [(138, [impl_fileAt.ctr])]
def impl_Disk_drop.ann : Ann := ⟨[], [], []⟩
theorem impl_Disk_drop.ok : CtrOk Tryz.prog 203 impl_Disk_drop.ctr := fn_sound (A := impl_Disk_drop.ann) tabOk (EnvOk.cons (ctrs_cons impl_fileAt.ok ctrs_nil) EnvOk.nil) mixed (fn := Tryz.f203) (body := bodyOf Tryz.f203) Tryz.func203 (by kernel_rfl) (by kernel_rfl) (fun x => by kernel_rfl)

def impl_Remove_1.sig : Sig := ⟨[.ptr (.pair (.sl true (.pair .str (.pair .str (.int .i64)))) (.pair (.int .i64) (.pair (.int .i64) .bool))), .val (.box none .str)], [.val (.int .i64)]⟩
noncomputable def impl_Remove_1.ctr : Ctr := ⟨impl_Remove_1.sig, fun x => impl_Remove_1.f x.1 x.2⟩
noncomputable def impl_Remove_1.env : Env := [(138, [impl_fileAt.ctr]), (203, [impl_Disk_drop.ctr])]
def impl_Remove_1.ann : Ann := ⟨[], [], []⟩
theorem impl_Remove_1.ok : CtrOk Tryz.prog 202 impl_Remove_1.ctr := fn_sound (A := impl_Remove_1.ann) tabOk (EnvOk.cons (ctrs_cons impl_fileAt.ok ctrs_nil) (EnvOk.cons (ctrs_cons impl_Disk_drop.ok ctrs_nil) EnvOk.nil)) mixed (fn := Tryz.f202) (body := bodyOf Tryz.f202) Tryz.func202 (by kernel_rfl) (by kernel_rfl) (fun x => by kernel_rfl)

def impl_step_Remove_1.sig : Sig := ⟨[.val (.pair (.sl false (.pair .str (.pair .str (.int .i64)))) (.pair (.int .i64) (.pair (.int .i64) .bool))), .val (.box (some 202) (.box none .str))], [.val (.pair (.sl true (.pair .str (.pair .str (.int .i64)))) (.pair (.int .i64) (.pair (.int .i64) .bool))), .val (.int .i64)]⟩
noncomputable def impl_step_Remove_1.ctr : Ctr := ⟨impl_step_Remove_1.sig, fun x => impl_step_Remove_1.f x.1 x.2⟩
noncomputable def impl_step_Remove_1.env : Env := [(54, [impl_copyDisk.ctr]), (102, [impl_DiskOk.ctr]), (202, [impl_Remove_1.ctr])]
def impl_step_Remove_1.ann : Ann := ⟨[], [], [(7, [(.normal, [(1, .val (.box (some 202) (.box none .str))), (4, .ptr (.pair (.sl true (.pair .str (.pair .str (.int .i64)))) (.pair (.int .i64) (.pair (.int .i64) .bool)))), (6, .ptr (.pair (.sl true (.pair .str (.pair .str (.int .i64)))) (.pair (.int .i64) (.pair (.int .i64) .bool))))])])]⟩
theorem impl_step_Remove_1.ok : CtrOk Tryz.prog 188 impl_step_Remove_1.ctr := fn_sound (A := impl_step_Remove_1.ann) tabOk (EnvOk.cons (ctrs_cons impl_copyDisk.ok ctrs_nil) (EnvOk.cons (ctrs_cons impl_DiskOk.ok ctrs_nil) (EnvOk.cons (ctrs_cons impl_Remove_1.ok ctrs_nil) EnvOk.nil))) mixed (fn := Tryz.f188) (body := bodyOf Tryz.f188) Tryz.func188 (by kernel_rfl) (by kernel_rfl) (fun x => by kernel_rfl)

def impl_Remove.sig : Sig := ⟨[.val (.pair (.sl false (.pair .str (.pair .str (.int .i64)))) (.pair (.int .i64) (.pair (.int .i64) .bool))), .val .str], [.val (.pair (.sl true (.pair .str (.pair .str (.int .i64)))) (.pair (.int .i64) (.pair (.int .i64) .bool))), .val (.int .i64)]⟩
noncomputable def impl_Remove.ctr : Ctr := ⟨impl_Remove.sig, fun x => impl_Remove.f x.1 x.2⟩
noncomputable def impl_Remove.env : Env := [(188, [impl_step_Remove_1.ctr])]
def impl_Remove.ann : Ann := ⟨[], [], []⟩
theorem impl_Remove.ok : CtrOk Tryz.prog 174 impl_Remove.ctr := fn_sound (A := impl_Remove.ann) tabOk (EnvOk.cons (ctrs_cons impl_step_Remove_1.ok ctrs_nil) EnvOk.nil) mixed (fn := Tryz.f174) (body := bodyOf Tryz.f174) Tryz.func174 (by kernel_rfl) (by kernel_rfl) (fun x => by kernel_rfl)

def impl_worker_gone.sig : Sig := ⟨[.ptr (.pair (.pair (.sl true (.pair .str (.pair .str (.int .i64)))) (.pair (.int .i64) (.pair (.int .i64) .bool))) (.int .i64)), .val .str], []⟩
noncomputable def impl_worker_gone.ctr : Ctr := ⟨impl_worker_gone.sig, fun x => impl_worker_gone.f x.1 x.2⟩
noncomputable def impl_worker_gone.env : Env := [(138, [impl_fileAt.ctr]), (151, [impl_worker_took_o.ctr]), (174, [impl_Remove.ctr])]
def impl_worker_gone.ann : Ann := ⟨[], [], []⟩
theorem impl_worker_gone.ok : CtrOk Tryz.prog 133 impl_worker_gone.ctr := fn_sound (A := impl_worker_gone.ann) tabOk (EnvOk.cons (ctrs_cons impl_fileAt.ok ctrs_nil) (EnvOk.cons (ctrs_cons impl_worker_took_o.ok ctrs_nil) (EnvOk.cons (ctrs_cons impl_Remove.ok ctrs_nil) EnvOk.nil))) mixed (fn := Tryz.f133) (body := bodyOf Tryz.f133) Tryz.func133 (by kernel_rfl) (by kernel_rfl) (fun x => by kernel_rfl)

def impl_Disk_put.sig : Sig := ⟨[.ptr (.pair (.sl true (.pair .str (.pair .str (.int .i64)))) (.pair (.int .i64) (.pair (.int .i64) .bool))), .val (.pair .str (.pair .str (.int .i64)))], []⟩
noncomputable def impl_Disk_put.ctr : Ctr := ⟨impl_Disk_put.sig, fun x => impl_Disk_put.f x.1 x.2⟩
noncomputable def impl_Disk_put.env : Env := []
def impl_Disk_put.ann : Ann := ⟨[(0, ([(0, .ptr (.pair (.sl true (.pair .str (.pair .str (.int .i64)))) (.pair (.int .i64) (.pair (.int .i64) .bool)))), (3, .ptr (.pair .str (.pair .str (.int .i64)))), (4, .val (.int .i64))], [(.exit 0, [(0, .ptr (.pair (.sl true (.pair .str (.pair .str (.int .i64)))) (.pair (.int .i64) (.pair (.int .i64) .bool)))), (3, .ptr (.pair .str (.pair .str (.int .i64)))), (4, .val (.int .i64))])]))], [], []⟩
theorem impl_Disk_put.ok : CtrOk Tryz.prog 206 impl_Disk_put.ctr := fn_sound (A := impl_Disk_put.ann) tabOk EnvOk.nil mixed (fn := Tryz.f206) (body := bodyOf Tryz.f206) Tryz.func206 (by kernel_rfl) (by kernel_rfl) (fun x => by kernel_rfl)

def impl_Create_1.sig : Sig := ⟨[.ptr (.pair (.sl true (.pair .str (.pair .str (.int .i64)))) (.pair (.int .i64) (.pair (.int .i64) .bool))), .val (.box none .str)], [.val (.int .i64)]⟩
noncomputable def impl_Create_1.ctr : Ctr := ⟨impl_Create_1.sig, fun x => impl_Create_1.f x.1 x.2⟩
noncomputable def impl_Create_1.env : Env := [(138, [impl_fileAt.ctr]), (149, [impl_NameOk.ctr]), (206, [impl_Disk_put.ctr])]
def impl_Create_1.ann : Ann := ⟨[], [], []⟩
theorem impl_Create_1.ok : CtrOk Tryz.prog 205 impl_Create_1.ctr := fn_sound (A := impl_Create_1.ann) tabOk (EnvOk.cons (ctrs_cons impl_fileAt.ok ctrs_nil) (EnvOk.cons (ctrs_cons impl_NameOk.ok ctrs_nil) (EnvOk.cons (ctrs_cons impl_Disk_put.ok ctrs_nil) EnvOk.nil))) mixed (fn := Tryz.f205) (body := bodyOf Tryz.f205) Tryz.func205 (by kernel_rfl) (by kernel_rfl) (fun x => by kernel_rfl)

def impl_step_Create_1.sig : Sig := ⟨[.val (.pair (.sl false (.pair .str (.pair .str (.int .i64)))) (.pair (.int .i64) (.pair (.int .i64) .bool))), .val (.box (some 205) (.box none .str))], [.val (.pair (.sl true (.pair .str (.pair .str (.int .i64)))) (.pair (.int .i64) (.pair (.int .i64) .bool))), .val (.int .i64)]⟩
noncomputable def impl_step_Create_1.ctr : Ctr := ⟨impl_step_Create_1.sig, fun x => impl_step_Create_1.f x.1 x.2⟩
noncomputable def impl_step_Create_1.env : Env := [(54, [impl_copyDisk.ctr]), (102, [impl_DiskOk.ctr]), (205, [impl_Create_1.ctr])]
def impl_step_Create_1.ann : Ann := ⟨[], [], [(7, [(.normal, [(1, .val (.box (some 205) (.box none .str))), (4, .ptr (.pair (.sl true (.pair .str (.pair .str (.int .i64)))) (.pair (.int .i64) (.pair (.int .i64) .bool)))), (6, .ptr (.pair (.sl true (.pair .str (.pair .str (.int .i64)))) (.pair (.int .i64) (.pair (.int .i64) .bool))))])])]⟩
theorem impl_step_Create_1.ok : CtrOk Tryz.prog 188 impl_step_Create_1.ctr := fn_sound (A := impl_step_Create_1.ann) tabOk (EnvOk.cons (ctrs_cons impl_copyDisk.ok ctrs_nil) (EnvOk.cons (ctrs_cons impl_DiskOk.ok ctrs_nil) (EnvOk.cons (ctrs_cons impl_Create_1.ok ctrs_nil) EnvOk.nil))) mixed (fn := Tryz.f188) (body := bodyOf Tryz.f188) Tryz.func188 (by kernel_rfl) (by kernel_rfl) (fun x => by kernel_rfl)

def impl_Create.sig : Sig := ⟨[.val (.pair (.sl false (.pair .str (.pair .str (.int .i64)))) (.pair (.int .i64) (.pair (.int .i64) .bool))), .val .str], [.val (.pair (.sl true (.pair .str (.pair .str (.int .i64)))) (.pair (.int .i64) (.pair (.int .i64) .bool))), .val (.int .i64)]⟩
noncomputable def impl_Create.ctr : Ctr := ⟨impl_Create.sig, fun x => impl_Create.f x.1 x.2⟩
noncomputable def impl_Create.env : Env := [(188, [impl_step_Create_1.ctr])]
def impl_Create.ann : Ann := ⟨[], [], []⟩
theorem impl_Create.ok : CtrOk Tryz.prog 190 impl_Create.ctr := fn_sound (A := impl_Create.ann) tabOk (EnvOk.cons (ctrs_cons impl_step_Create_1.ok ctrs_nil) EnvOk.nil) mixed (fn := Tryz.f190) (body := bodyOf Tryz.f190) Tryz.func190 (by kernel_rfl) (by kernel_rfl) (fun x => by kernel_rfl)

def impl_worker_create.sig : Sig := ⟨[.ptr (.pair (.pair (.sl true (.pair .str (.pair .str (.int .i64)))) (.pair (.int .i64) (.pair (.int .i64) .bool))) (.int .i64)), .val .str], []⟩
noncomputable def impl_worker_create.ctr : Ctr := ⟨impl_worker_create.sig, fun x => impl_worker_create.f x.1 x.2⟩
noncomputable def impl_worker_create.env : Env := [(151, [impl_worker_took_o.ctr]), (190, [impl_Create.ctr])]
def impl_worker_create.ann : Ann := ⟨[], [], []⟩
theorem impl_worker_create.ok : CtrOk Tryz.prog 153 impl_worker_create.ctr := fn_sound (A := impl_worker_create.ann) tabOk (EnvOk.cons (ctrs_cons impl_worker_took_o.ok ctrs_nil) (EnvOk.cons (ctrs_cons impl_Create.ok ctrs_nil) EnvOk.nil)) mixed (fn := Tryz.f153) (body := bodyOf Tryz.f153) Tryz.func153 (by kernel_rfl) (by kernel_rfl) (fun x => by kernel_rfl)

def impl_worker_anew.sig : Sig := ⟨[.ptr (.pair (.pair (.sl true (.pair .str (.pair .str (.int .i64)))) (.pair (.int .i64) (.pair (.int .i64) .bool))) (.int .i64)), .val .str], []⟩
noncomputable def impl_worker_anew.ctr : Ctr := ⟨impl_worker_anew.sig, fun x => impl_worker_anew.f x.1 x.2⟩
noncomputable def impl_worker_anew.env : Env := [(133, [impl_worker_gone.ctr]), (153, [impl_worker_create.ctr])]
def impl_worker_anew.ann : Ann := ⟨[], [], []⟩
theorem impl_worker_anew.ok : CtrOk Tryz.prog 109 impl_worker_anew.ctr := fn_sound (A := impl_worker_anew.ann) tabOk (EnvOk.cons (ctrs_cons impl_worker_gone.ok ctrs_nil) (EnvOk.cons (ctrs_cons impl_worker_create.ok ctrs_nil) EnvOk.nil)) mixed (fn := Tryz.f109) (body := bodyOf Tryz.f109) Tryz.func109 (by kernel_rfl) (by kernel_rfl) (fun x => by kernel_rfl)

def impl_used.sig : Sig := ⟨[.val (.pair (.sl false (.pair .str (.pair .str (.int .i64)))) (.pair (.int .i64) (.pair (.int .i64) .bool)))], [.val (.int .i64)]⟩
noncomputable def impl_used.ctr : Ctr := ⟨impl_used.sig, fun x => impl_used.f x⟩
noncomputable def impl_used.env : Env := []
def impl_used.ann : Ann := ⟨[(0, ([(3, .val (.int .i64)), (7, .val (.sl false (.pair .str (.pair .str (.int .i64))))), (8, .val (.int .i64)), (9, .val (.int .i64))], [(.exit 0, [(3, .val (.int .i64))])]))], [], []⟩
theorem impl_used.ok : CtrOk Tryz.prog 209 impl_used.ctr := fn_sound (A := impl_used.ann) tabOk EnvOk.nil mixed (fn := Tryz.f209) (body := bodyOf Tryz.f209) Tryz.func209 (by kernel_rfl) (by kernel_rfl) (fun x => by kernel_rfl)

def impl_Append_1.sig : Sig := ⟨[.ptr (.pair (.sl true (.pair .str (.pair .str (.int .i64)))) (.pair (.int .i64) (.pair (.int .i64) .bool))), .val (.box none .str), .val (.box none .str)], [.val (.int .i64)]⟩
noncomputable def impl_Append_1.ctr : Ctr := ⟨impl_Append_1.sig, fun x => impl_Append_1.f x.1 x.2.1 x.2.2⟩
noncomputable def impl_Append_1.env : Env := [(138, [impl_fileAt.ctr]), (209, [impl_used.ctr])]
def impl_Append_1.ann : Ann := ⟨[], [], []⟩
theorem impl_Append_1.ok : CtrOk Tryz.prog 208 impl_Append_1.ctr := fn_sound (A := impl_Append_1.ann) tabOk (EnvOk.cons (ctrs_cons impl_fileAt.ok ctrs_nil) (EnvOk.cons (ctrs_cons impl_used.ok ctrs_nil) EnvOk.nil)) mixed (fn := Tryz.f208) (body := bodyOf Tryz.f208) Tryz.func208 (by kernel_rfl) (by kernel_rfl) (fun x => by kernel_rfl)

def impl_step_Append_1.sig : Sig := ⟨[.val (.pair (.sl false (.pair .str (.pair .str (.int .i64)))) (.pair (.int .i64) (.pair (.int .i64) .bool))), .val (.box (some 208) (.pair (.box none .str) (.box none .str)))], [.val (.pair (.sl true (.pair .str (.pair .str (.int .i64)))) (.pair (.int .i64) (.pair (.int .i64) .bool))), .val (.int .i64)]⟩
noncomputable def impl_step_Append_1.ctr : Ctr := ⟨impl_step_Append_1.sig, fun x => impl_step_Append_1.f x.1 x.2⟩
noncomputable def impl_step_Append_1.env : Env := [(54, [impl_copyDisk.ctr]), (102, [impl_DiskOk.ctr]), (208, [impl_Append_1.ctr])]
def impl_step_Append_1.ann : Ann := ⟨[], [], [(7, [(.normal, [(1, .val (.box (some 208) (.pair (.box none .str) (.box none .str)))), (4, .ptr (.pair (.sl true (.pair .str (.pair .str (.int .i64)))) (.pair (.int .i64) (.pair (.int .i64) .bool)))), (6, .ptr (.pair (.sl true (.pair .str (.pair .str (.int .i64)))) (.pair (.int .i64) (.pair (.int .i64) .bool))))])])]⟩
theorem impl_step_Append_1.ok : CtrOk Tryz.prog 188 impl_step_Append_1.ctr := fn_sound (A := impl_step_Append_1.ann) tabOk (EnvOk.cons (ctrs_cons impl_copyDisk.ok ctrs_nil) (EnvOk.cons (ctrs_cons impl_DiskOk.ok ctrs_nil) (EnvOk.cons (ctrs_cons impl_Append_1.ok ctrs_nil) EnvOk.nil))) mixed (fn := Tryz.f188) (body := bodyOf Tryz.f188) Tryz.func188 (by kernel_rfl) (by kernel_rfl) (fun x => by kernel_rfl)

def impl_Append.sig : Sig := ⟨[.val (.pair (.sl false (.pair .str (.pair .str (.int .i64)))) (.pair (.int .i64) (.pair (.int .i64) .bool))), .val .str, .val .str], [.val (.pair (.sl true (.pair .str (.pair .str (.int .i64)))) (.pair (.int .i64) (.pair (.int .i64) .bool))), .val (.int .i64)]⟩
noncomputable def impl_Append.ctr : Ctr := ⟨impl_Append.sig, fun x => impl_Append.f x.1 x.2.1 x.2.2⟩
noncomputable def impl_Append.env : Env := [(188, [impl_step_Append_1.ctr])]
def impl_Append.ann : Ann := ⟨[], [], []⟩
theorem impl_Append.ok : CtrOk Tryz.prog 198 impl_Append.ctr := fn_sound (A := impl_Append.ann) tabOk (EnvOk.cons (ctrs_cons impl_step_Append_1.ok ctrs_nil) EnvOk.nil) mixed (fn := Tryz.f198) (body := bodyOf Tryz.f198) Tryz.func198 (by kernel_rfl) (by kernel_rfl) (fun x => by kernel_rfl)

def impl_worker_put.sig : Sig := ⟨[.ptr (.pair (.pair (.sl true (.pair .str (.pair .str (.int .i64)))) (.pair (.int .i64) (.pair (.int .i64) .bool))) (.int .i64)), .val .str, .val .str], []⟩
noncomputable def impl_worker_put.ctr : Ctr := ⟨impl_worker_put.sig, fun x => impl_worker_put.f x.1 x.2.1 x.2.2⟩
noncomputable def impl_worker_put.env : Env := [(151, [impl_worker_took_o.ctr]), (198, [impl_Append.ctr])]
def impl_worker_put.ann : Ann := ⟨[], [], []⟩
theorem impl_worker_put.ok : CtrOk Tryz.prog 166 impl_worker_put.ctr := fn_sound (A := impl_worker_put.ann) tabOk (EnvOk.cons (ctrs_cons impl_worker_took_o.ok ctrs_nil) (EnvOk.cons (ctrs_cons impl_Append.ok ctrs_nil) EnvOk.nil)) mixed (fn := Tryz.f166) (body := bodyOf Tryz.f166) Tryz.func166 (by kernel_rfl) (by kernel_rfl) (fun x => by kernel_rfl)

def impl_worker_fileOf.sig : Sig := ⟨[.ptr (.pair (.pair (.sl true (.pair .str (.pair .str (.int .i64)))) (.pair (.int .i64) (.pair (.int .i64) .bool))) (.int .i64)), .val .str, .val .str], []⟩
noncomputable def impl_worker_fileOf.ctr : Ctr := ⟨impl_worker_fileOf.sig, fun x => impl_worker_fileOf.f x.1 x.2.1 x.2.2⟩
noncomputable def impl_worker_fileOf.env : Env := [(107, [impl_worker_sync.ctr]), (109, [impl_worker_anew.ctr]), (166, [impl_worker_put.ctr])]
def impl_worker_fileOf.ann : Ann := ⟨[], [], []⟩
theorem impl_worker_fileOf.ok : CtrOk Tryz.prog 154 impl_worker_fileOf.ctr := fn_sound (A := impl_worker_fileOf.ann) tabOk (EnvOk.cons (ctrs_cons impl_worker_sync.ok ctrs_nil) (EnvOk.cons (ctrs_cons impl_worker_anew.ok ctrs_nil) (EnvOk.cons (ctrs_cons impl_worker_put.ok ctrs_nil) EnvOk.nil))) mixed (fn := Tryz.f154) (body := bodyOf Tryz.f154) Tryz.func154 (by kernel_rfl) (by kernel_rfl) (fun x => by kernel_rfl)

def impl_vars.sig : Sig := ⟨[.val (.sl false (.int .i64))], [.val .str]⟩
noncomputable def impl_vars.ctr : Ctr := ⟨impl_vars.sig, fun x => impl_vars.f x⟩
noncomputable def impl_vars.env : Env := [(197, [impl_Var.ctr])]
def impl_vars.ann : Ann := ⟨[(0, ([(3, .val .str), (6, .val (.sl false (.int .i64))), (7, .val (.int .i64)), (8, .val (.int .i64))], [(.exit 0, [(3, .val .str)])]))], [], []⟩
theorem impl_vars.ok : CtrOk Tryz.prog 191 impl_vars.ctr := fn_sound (A := impl_vars.ann) tabOk (EnvOk.cons (ctrs_cons impl_Var.ok ctrs_nil) EnvOk.nil) mixed (fn := Tryz.f191) (body := bodyOf Tryz.f191) Tryz.func191 (by kernel_rfl) (by kernel_rfl) (fun x => by kernel_rfl)

def impl_ShowLive.sig : Sig := ⟨[.val (.pair (.int .i64) (.sl false (.int .i64)))], [.val .str]⟩
noncomputable def impl_ShowLive.ctr : Ctr := ⟨impl_ShowLive.sig, fun x => impl_ShowLive.f x⟩
noncomputable def impl_ShowLive.env : Env := [(103, [impl_LiveOk.ctr]), (164, [impl_Frame.ctr]), (191, [impl_vars.ctr])]
def impl_ShowLive.ann : Ann := ⟨[], [], []⟩
theorem impl_ShowLive.ok : CtrOk Tryz.prog 155 impl_ShowLive.ctr := fn_sound (A := impl_ShowLive.ann) tabOk (EnvOk.cons (ctrs_cons impl_LiveOk.ok ctrs_nil) (EnvOk.cons (ctrs_cons impl_Frame.ok ctrs_nil) (EnvOk.cons (ctrs_cons impl_vars.ok ctrs_nil) EnvOk.nil))) mixed (fn := Tryz.f155) (body := bodyOf Tryz.f155) Tryz.func155 (by kernel_rfl) (by kernel_rfl) (fun x => by kernel_rfl)

def impl_Rename_1.sig : Sig := ⟨[.ptr (.pair (.sl true (.pair .str (.pair .str (.int .i64)))) (.pair (.int .i64) (.pair (.int .i64) .bool))), .val (.box none .str), .val (.box none .str)], [.val (.int .i64)]⟩
noncomputable def impl_Rename_1.ctr : Ctr := ⟨impl_Rename_1.sig, fun x => impl_Rename_1.f x.1 x.2.1 x.2.2⟩
noncomputable def impl_Rename_1.env : Env := [(138, [impl_fileAt.ctr]), (149, [impl_NameOk.ctr]), (203, [impl_Disk_drop.ctr]), (206, [impl_Disk_put.ctr])]
def impl_Rename_1.ann : Ann := ⟨[], [], []⟩
theorem impl_Rename_1.ok : CtrOk Tryz.prog 207 impl_Rename_1.ctr := fn_sound (A := impl_Rename_1.ann) tabOk (EnvOk.cons (ctrs_cons impl_fileAt.ok ctrs_nil) (EnvOk.cons (ctrs_cons impl_NameOk.ok ctrs_nil) (EnvOk.cons (ctrs_cons impl_Disk_drop.ok ctrs_nil) (EnvOk.cons (ctrs_cons impl_Disk_put.ok ctrs_nil) EnvOk.nil)))) mixed (fn := Tryz.f207) (body := bodyOf Tryz.f207) Tryz.func207 (by kernel_rfl) (by kernel_rfl) (fun x => by kernel_rfl)

def impl_step_Rename_1.sig : Sig := ⟨[.val (.pair (.sl false (.pair .str (.pair .str (.int .i64)))) (.pair (.int .i64) (.pair (.int .i64) .bool))), .val (.box (some 207) (.pair (.box none .str) (.box none .str)))], [.val (.pair (.sl true (.pair .str (.pair .str (.int .i64)))) (.pair (.int .i64) (.pair (.int .i64) .bool))), .val (.int .i64)]⟩
noncomputable def impl_step_Rename_1.ctr : Ctr := ⟨impl_step_Rename_1.sig, fun x => impl_step_Rename_1.f x.1 x.2⟩
noncomputable def impl_step_Rename_1.env : Env := [(54, [impl_copyDisk.ctr]), (102, [impl_DiskOk.ctr]), (207, [impl_Rename_1.ctr])]
def impl_step_Rename_1.ann : Ann := ⟨[], [], [(7, [(.normal, [(1, .val (.box (some 207) (.pair (.box none .str) (.box none .str)))), (4, .ptr (.pair (.sl true (.pair .str (.pair .str (.int .i64)))) (.pair (.int .i64) (.pair (.int .i64) .bool)))), (6, .ptr (.pair (.sl true (.pair .str (.pair .str (.int .i64)))) (.pair (.int .i64) (.pair (.int .i64) .bool))))])])]⟩
theorem impl_step_Rename_1.ok : CtrOk Tryz.prog 188 impl_step_Rename_1.ctr := fn_sound (A := impl_step_Rename_1.ann) tabOk (EnvOk.cons (ctrs_cons impl_copyDisk.ok ctrs_nil) (EnvOk.cons (ctrs_cons impl_DiskOk.ok ctrs_nil) (EnvOk.cons (ctrs_cons impl_Rename_1.ok ctrs_nil) EnvOk.nil))) mixed (fn := Tryz.f188) (body := bodyOf Tryz.f188) Tryz.func188 (by kernel_rfl) (by kernel_rfl) (fun x => by kernel_rfl)

def impl_Rename.sig : Sig := ⟨[.val (.pair (.sl false (.pair .str (.pair .str (.int .i64)))) (.pair (.int .i64) (.pair (.int .i64) .bool))), .val .str, .val .str], [.val (.pair (.sl true (.pair .str (.pair .str (.int .i64)))) (.pair (.int .i64) (.pair (.int .i64) .bool))), .val (.int .i64)]⟩
noncomputable def impl_Rename.ctr : Ctr := ⟨impl_Rename.sig, fun x => impl_Rename.f x.1 x.2.1 x.2.2⟩
noncomputable def impl_Rename.env : Env := [(188, [impl_step_Rename_1.ctr])]
def impl_Rename.ann : Ann := ⟨[], [], []⟩
theorem impl_Rename.ok : CtrOk Tryz.prog 192 impl_Rename.ctr := fn_sound (A := impl_Rename.ann) tabOk (EnvOk.cons (ctrs_cons impl_step_Rename_1.ok ctrs_nil) EnvOk.nil) mixed (fn := Tryz.f192) (body := bodyOf Tryz.f192) Tryz.func192 (by kernel_rfl) (by kernel_rfl) (fun x => by kernel_rfl)

def impl_worker_rename.sig : Sig := ⟨[.ptr (.pair (.pair (.sl true (.pair .str (.pair .str (.int .i64)))) (.pair (.int .i64) (.pair (.int .i64) .bool))) (.int .i64)), .val .str, .val .str], []⟩
noncomputable def impl_worker_rename.ctr : Ctr := ⟨impl_worker_rename.sig, fun x => impl_worker_rename.f x.1 x.2.1 x.2.2⟩
noncomputable def impl_worker_rename.env : Env := [(151, [impl_worker_took_o.ctr]), (192, [impl_Rename.ctr])]
def impl_worker_rename.ann : Ann := ⟨[], [], []⟩
theorem impl_worker_rename.ok : CtrOk Tryz.prog 156 impl_worker_rename.ctr := fn_sound (A := impl_worker_rename.ann) tabOk (EnvOk.cons (ctrs_cons impl_worker_took_o.ok ctrs_nil) (EnvOk.cons (ctrs_cons impl_Rename.ok ctrs_nil) EnvOk.nil)) mixed (fn := Tryz.f156) (body := bodyOf Tryz.f156) Tryz.func156 (by kernel_rfl) (by kernel_rfl) (fun x => by kernel_rfl)

def impl_worker_putLive.sig : Sig := ⟨[.ptr (.pair (.pair (.sl true (.pair .str (.pair .str (.int .i64)))) (.pair (.int .i64) (.pair (.int .i64) .bool))) (.int .i64)), .val (.pair (.int .i64) (.sl false (.int .i64)))], []⟩
noncomputable def impl_worker_putLive.ctr : Ctr := ⟨impl_worker_putLive.sig, fun x => impl_worker_putLive.f x.1 x.2⟩
noncomputable def impl_worker_putLive.env : Env := [(154, [impl_worker_fileOf.ctr]), (155, [impl_ShowLive.ctr]), (156, [impl_worker_rename.ctr])]
def impl_worker_putLive.ann : Ann := ⟨[], [], []⟩
theorem impl_worker_putLive.ok : CtrOk Tryz.prog 110 impl_worker_putLive.ctr := fn_sound (A := impl_worker_putLive.ann) tabOk (EnvOk.cons (ctrs_cons impl_worker_fileOf.ok ctrs_nil) (EnvOk.cons (ctrs_cons impl_ShowLive.ok ctrs_nil) (EnvOk.cons (ctrs_cons impl_worker_rename.ok ctrs_nil) EnvOk.nil))) mixed (fn := Tryz.f110) (body := bodyOf Tryz.f110) Tryz.func110 (by kernel_rfl) (by kernel_rfl) (fun x => by kernel_rfl)

def impl_worker_clean.sig : Sig := ⟨[.ptr (.pair (.pair (.sl true (.pair .str (.pair .str (.int .i64)))) (.pair (.int .i64) (.pair (.int .i64) .bool))) (.int .i64)), .val (.sl false .str)], []⟩
noncomputable def impl_worker_clean.ctr : Ctr := ⟨impl_worker_clean.sig, fun x => impl_worker_clean.f x.1 x.2⟩
noncomputable def impl_worker_clean.env : Env := [(133, [impl_worker_gone.ctr])]
def impl_worker_clean.ann : Ann := ⟨[(0, ([(0, .ptw (.pair (.pair (.sl true (.pair .str (.pair .str (.int .i64)))) (.pair (.int .i64) (.pair (.int .i64) .bool))) (.int .i64))), (4, .ptr (.pair (.pair (.sl true (.pair .str (.pair .str (.int .i64)))) (.pair (.int .i64) (.pair (.int .i64) .bool))) (.int .i64))), (18, .val (.sl false .str)), (19, .val (.int .i64)), (20, .val (.int .i64))], [(.exit 0, [(0, .ptw (.pair (.pair (.sl true (.pair .str (.pair .str (.int .i64)))) (.pair (.int .i64) (.pair (.int .i64) .bool))) (.int .i64))), (4, .ptr (.pair (.pair (.sl true (.pair .str (.pair .str (.int .i64)))) (.pair (.int .i64) (.pair (.int .i64) .bool))) (.int .i64)))])]))], [], []⟩
theorem impl_worker_clean.ok : CtrOk Tryz.prog 111 impl_worker_clean.ctr := fn_sound (A := impl_worker_clean.ann) tabOk (EnvOk.cons (ctrs_cons impl_worker_gone.ok ctrs_nil) EnvOk.nil) mixed (fn := Tryz.f111) (body := bodyOf Tryz.f111) Tryz.func111 (by kernel_rfl) (by kernel_rfl) (fun x => by kernel_rfl)

def impl_ShowRec.sig : Sig := ⟨[.val (.pair (.int .i64) (.pair (.int .i64) (.pair .str (.pair .str (.pair (.int .i64) (.int .i64))))))], [.val .str]⟩
noncomputable def impl_ShowRec.ctr : Ctr := ⟨impl_ShowRec.sig, fun x => impl_ShowRec.f x⟩
noncomputable def impl_ShowRec.env : Env := [(184, [impl_RecOk.ctr]), (191, [impl_vars.ctr]), (195, [impl_textOf.ctr]), (196, [impl_Fixed.ctr]), (197, [impl_Var.ctr])]
def impl_ShowRec.ann : Ann := ⟨[], [], [(5, [(.normal, [(1, .ptr (.pair (.int .i64) (.pair (.int .i64) (.pair .str (.pair .str (.pair (.int .i64) (.int .i64))))))), (3, .val .str), (14, .val (.int .i64)), (15, .val .bool)])])]⟩
theorem impl_ShowRec.ok : CtrOk Tryz.prog 165 impl_ShowRec.ctr := fn_sound (A := impl_ShowRec.ann) tabOk (EnvOk.cons (ctrs_cons impl_RecOk.ok ctrs_nil) (EnvOk.cons (ctrs_cons impl_vars.ok ctrs_nil) (EnvOk.cons (ctrs_cons impl_textOf.ok ctrs_nil) (EnvOk.cons (ctrs_cons impl_Fixed.ok ctrs_nil) (EnvOk.cons (ctrs_cons impl_Var.ok ctrs_nil) EnvOk.nil))))) mixed (fn := Tryz.f165) (body := bodyOf Tryz.f165) Tryz.func165 (by kernel_rfl) (by kernel_rfl) (fun x => by kernel_rfl)

def impl_worker_writeMerged.sig : Sig := ⟨[.ptr (.pair (.pair (.sl true (.pair .str (.pair .str (.int .i64)))) (.pair (.int .i64) (.pair (.int .i64) .bool))) (.int .i64)), .val (.int .i64), .val (.sl false (.pair (.int .i64) (.pair (.int .i64) (.pair .str (.pair .str (.pair (.int .i64) (.int .i64)))))))], [.val (.sl true (.pair .str (.pair (.int .i64) (.pair (.int .i64) (.pair (.int .i64) (.int .i64))))))]⟩
noncomputable def impl_worker_writeMerged.ctr : Ctr := ⟨impl_worker_writeMerged.sig, fun x => impl_worker_writeMerged.f x.1 x.2.1 x.2.2⟩
noncomputable def impl_worker_writeMerged.env : Env := [(83, [impl_SegName.ctr]), (107, [impl_worker_sync.ctr]), (109, [impl_worker_anew.ctr]), (164, [impl_Frame.ctr]), (165, [impl_ShowRec.ctr]), (166, [impl_worker_put.ctr])]
def impl_worker_writeMerged.ann : Ann := ⟨[(0, ([(0, .ptr (.pair (.pair (.sl true (.pair .str (.pair .str (.int .i64)))) (.pair (.int .i64) (.pair (.int .i64) .bool))) (.int .i64))), (1, .val (.int .i64)), (7, .val (.sl true (.pair .str (.pair (.int .i64) (.pair (.int .i64) (.pair (.int .i64) (.int .i64))))))), (8, .val (.int .i64)), (16, .val (.sl false (.pair (.int .i64) (.pair (.int .i64) (.pair .str (.pair .str (.pair (.int .i64) (.int .i64)))))))), (17, .val (.int .i64)), (18, .val (.int .i64))], [(.exit 0, [(0, .ptr (.pair (.pair (.sl true (.pair .str (.pair .str (.int .i64)))) (.pair (.int .i64) (.pair (.int .i64) .bool))) (.int .i64))), (1, .val (.int .i64)), (7, .val (.sl true (.pair .str (.pair (.int .i64) (.pair (.int .i64) (.pair (.int .i64) (.int .i64)))))))])]))], [], [(9, [(.normal, [(0, .ptr (.pair (.pair (.sl true (.pair .str (.pair .str (.int .i64)))) (.pair (.int .i64) (.pair (.int .i64) .bool))) (.int .i64))), (1, .val (.int .i64)), (7, .val (.sl true (.pair .str (.pair (.int .i64) (.pair (.int .i64) (.pair (.int .i64) (.int .i64))))))), (8, .val (.int .i64)), (11, .val .str), (16, .val (.sl false (.pair (.int .i64) (.pair (.int .i64) (.pair .str (.pair .str (.pair (.int .i64) (.int .i64)))))))), (17, .val (.int .i64)), (18, .val (.int .i64))])])]⟩
theorem impl_worker_writeMerged.ok : CtrOk Tryz.prog 129 impl_worker_writeMerged.ctr := fn_sound (A := impl_worker_writeMerged.ann) tabOk (EnvOk.cons (ctrs_cons impl_SegName.ok ctrs_nil) (EnvOk.cons (ctrs_cons impl_worker_sync.ok ctrs_nil) (EnvOk.cons (ctrs_cons impl_worker_anew.ok ctrs_nil) (EnvOk.cons (ctrs_cons impl_Frame.ok ctrs_nil) (EnvOk.cons (ctrs_cons impl_ShowRec.ok ctrs_nil) (EnvOk.cons (ctrs_cons impl_worker_put.ok ctrs_nil) EnvOk.nil)))))) mixed (fn := Tryz.f129) (body := bodyOf Tryz.f129) Tryz.func129 (by kernel_rfl) (by kernel_rfl) (fun x => by kernel_rfl)

def impl_SumOf.sig : Sig := ⟨[.val (.sl false (.pair (.int .i64) (.pair (.int .i64) (.pair .str (.pair .str (.pair (.int .i64) (.int .i64)))))))], [.val (.int .i64)]⟩
noncomputable def impl_SumOf.ctr : Ctr := ⟨impl_SumOf.sig, fun x => impl_SumOf.f x⟩
noncomputable def impl_SumOf.env : Env := [(165, [impl_ShowRec.ctr]), (194, [impl_Crc.ctr])]
def impl_SumOf.ann : Ann := ⟨[(0, ([(3, .val .str), (6, .val (.sl false (.pair (.int .i64) (.pair (.int .i64) (.pair .str (.pair .str (.pair (.int .i64) (.int .i64)))))))), (7, .val (.int .i64)), (8, .val (.int .i64))], [(.exit 0, [(3, .val .str)])]))], [], []⟩
theorem impl_SumOf.ok : CtrOk Tryz.prog 163 impl_SumOf.ctr := fn_sound (A := impl_SumOf.ann) tabOk (EnvOk.cons (ctrs_cons impl_ShowRec.ok ctrs_nil) (EnvOk.cons (ctrs_cons impl_Crc.ok ctrs_nil) EnvOk.nil)) mixed (fn := Tryz.f163) (body := bodyOf Tryz.f163) Tryz.func163 (by kernel_rfl) (by kernel_rfl) (fun x => by kernel_rfl)

def impl_keeps.sig : Sig := ⟨[.val (.sl false (.pair .str (.pair .str (.int .i64)))), .val (.int .i64)], [.val (.sl true (.pair (.int .i64) (.pair (.int .i64) (.pair .str (.pair .str (.pair (.int .i64) (.int .i64)))))))]⟩
noncomputable def impl_keeps.ctr : Ctr := ⟨impl_keeps.sig, fun x => impl_keeps.f x.1 x.2⟩
noncomputable def impl_keeps.env : Env := [(163, [impl_SumOf.ctr])]
def impl_keeps.ann : Ann := ⟨[(0, ([(0, .val (.sl false (.pair .str (.pair .str (.int .i64))))), (1, .val (.int .i64)), (5, .val (.sl true (.pair (.int .i64) (.pair (.int .i64) (.pair .str (.pair .str (.pair (.int .i64) (.int .i64)))))))), (8, .val (.sl false (.pair .str (.pair .str (.int .i64))))), (9, .val (.int .i64)), (10, .val (.int .i64))], [(.exit 0, [(0, .val (.sl false (.pair .str (.pair .str (.int .i64))))), (1, .val (.int .i64)), (5, .val (.sl true (.pair (.int .i64) (.pair (.int .i64) (.pair .str (.pair .str (.pair (.int .i64) (.int .i64))))))))])]))], [], []⟩
theorem impl_keeps.ok : CtrOk Tryz.prog 130 impl_keeps.ctr := fn_sound (A := impl_keeps.ann) tabOk (EnvOk.cons (ctrs_cons impl_SumOf.ok ctrs_nil) EnvOk.nil) mixed (fn := Tryz.f130) (body := bodyOf Tryz.f130) Tryz.func130 (by kernel_rfl) (by kernel_rfl) (fun x => by kernel_rfl)

def impl_HintName.sig : Sig := ⟨[.val (.int .i64)], [.val .str]⟩
noncomputable def impl_HintName.ctr : Ctr := ⟨impl_HintName.sig, fun x => impl_HintName.f x⟩
noncomputable def impl_HintName.env : Env := [(139, [impl_named.ctr])]
def impl_HintName.ann : Ann := ⟨[], [], []⟩
theorem impl_HintName.ok : CtrOk Tryz.prog 132 impl_HintName.ctr := fn_sound (A := impl_HintName.ann) tabOk (EnvOk.cons (ctrs_cons impl_named.ok ctrs_nil) EnvOk.nil) mixed (fn := Tryz.f132) (body := bodyOf Tryz.f132) Tryz.func132 (by kernel_rfl) (by kernel_rfl) (fun x => by kernel_rfl)

def impl_fits.sig : Sig := ⟨[.val (.pair (.int .i64) (.pair (.int .i64) (.pair .str (.pair .str (.pair (.int .i64) (.int .i64)))))), .val (.sl false (.pair (.int .i64) (.pair (.int .i64) (.pair (.int .i64) (.pair (.int .i64) (.pair (.int .i64) (.pair .str (.pair .str (.pair (.int .i64) (.int .i64))))))))))], [.val .bool]⟩
noncomputable def impl_fits.ctr : Ctr := ⟨impl_fits.sig, fun x => impl_fits.f x.1 x.2⟩
noncomputable def impl_fits.env : Env := [(163, [impl_SumOf.ctr])]
def impl_fits.ann : Ann := ⟨[(0, ([(2, .ptr (.pair (.int .i64) (.pair (.int .i64) (.pair .str (.pair .str (.pair (.int .i64) (.int .i64))))))), (5, .val (.sl true (.pair (.int .i64) (.pair (.int .i64) (.pair .str (.pair .str (.pair (.int .i64) (.int .i64)))))))), (8, .val (.sl false (.pair (.int .i64) (.pair (.int .i64) (.pair (.int .i64) (.pair (.int .i64) (.pair (.int .i64) (.pair .str (.pair .str (.pair (.int .i64) (.int .i64))))))))))), (9, .val (.int .i64)), (10, .val (.int .i64))], [(.exit 0, [(2, .ptr (.pair (.int .i64) (.pair (.int .i64) (.pair .str (.pair .str (.pair (.int .i64) (.int .i64))))))), (5, .val (.sl true (.pair (.int .i64) (.pair (.int .i64) (.pair .str (.pair .str (.pair (.int .i64) (.int .i64))))))))])]))], [], []⟩
theorem impl_fits.ok : CtrOk Tryz.prog 199 impl_fits.ctr := fn_sound (A := impl_fits.ann) tabOk (EnvOk.cons (ctrs_cons impl_SumOf.ok ctrs_nil) EnvOk.nil) mixed (fn := Tryz.f199) (body := bodyOf Tryz.f199) Tryz.func199 (by kernel_rfl) (by kernel_rfl) (fun x => by kernel_rfl)

def impl_placed.sig : Sig := ⟨[.val (.int .i64), .val (.sl false (.pair (.int .i64) (.pair (.int .i64) (.pair (.int .i64) (.pair (.int .i64) (.pair .str (.pair .str (.pair (.int .i64) (.int .i64)))))))))], [.val (.sl true (.pair (.int .i64) (.pair (.int .i64) (.pair (.int .i64) (.pair (.int .i64) (.pair (.int .i64) (.pair .str (.pair .str (.pair (.int .i64) (.int .i64))))))))))]⟩
noncomputable def impl_placed.ctr : Ctr := ⟨impl_placed.sig, fun x => impl_placed.f x.1 x.2⟩
noncomputable def impl_placed.env : Env := []
def impl_placed.ann : Ann := ⟨[(0, ([(0, .val (.int .i64)), (5, .val (.sl true (.pair (.int .i64) (.pair (.int .i64) (.pair (.int .i64) (.pair (.int .i64) (.pair (.int .i64) (.pair .str (.pair .str (.pair (.int .i64) (.int .i64))))))))))), (8, .val (.sl false (.pair (.int .i64) (.pair (.int .i64) (.pair (.int .i64) (.pair (.int .i64) (.pair .str (.pair .str (.pair (.int .i64) (.int .i64)))))))))), (9, .val (.int .i64)), (10, .val (.int .i64))], [(.exit 0, [(5, .val (.sl true (.pair (.int .i64) (.pair (.int .i64) (.pair (.int .i64) (.pair (.int .i64) (.pair (.int .i64) (.pair .str (.pair .str (.pair (.int .i64) (.int .i64)))))))))))])]))], [], []⟩
theorem impl_placed.ok : CtrOk Tryz.prog 200 impl_placed.ctr := fn_sound (A := impl_placed.ann) tabOk EnvOk.nil mixed (fn := Tryz.f200) (body := bodyOf Tryz.f200) Tryz.func200 (by kernel_rfl) (by kernel_rfl) (fun x => by kernel_rfl)

def impl_HintOf.sig : Sig := ⟨[.val (.int .i64), .val .str], [.val (.pair (.int .i64) (.pair (.int .i64) (.sl true (.pair .str (.pair (.int .i64) (.pair (.int .i64) (.pair (.int .i64) (.int .i64)))))))), .val .bool]⟩
noncomputable def impl_HintOf.ctr : Ctr := ⟨impl_HintOf.sig, fun x => impl_HintOf.f x.1 x.2⟩
noncomputable def impl_HintOf.env : Env := [(105, [impl_in.ctr]), (106, [impl_ScanRecs.ctr]), (199, [impl_fits.ctr]), (200, [impl_placed.ctr])]
def impl_HintOf.ann : Ann := ⟨[(0, ([(0, .val (.int .i64)), (4, .ptr (.pair (.int .i64) (.pair (.int .i64) (.sl true (.pair .str (.pair (.int .i64) (.pair (.int .i64) (.pair (.int .i64) (.int .i64))))))))), (6, .val (.sl false (.pair (.int .i64) (.pair (.int .i64) (.pair (.int .i64) (.pair (.int .i64) (.pair .str (.pair .str (.pair (.int .i64) (.int .i64)))))))))), (9, .ptr (.pair (.int .i64) (.pair (.int .i64) (.sl true (.pair .str (.pair (.int .i64) (.pair (.int .i64) (.pair (.int .i64) (.int .i64))))))))), (67, .val (.sl false (.pair (.int .i64) (.pair (.int .i64) (.pair (.int .i64) (.pair (.int .i64) (.pair .str (.pair .str (.pair (.int .i64) (.int .i64)))))))))), (68, .val (.int .i64)), (69, .val (.int .i64))], [(.exit 0, [(4, .ptr (.pair (.int .i64) (.pair (.int .i64) (.sl true (.pair .str (.pair (.int .i64) (.pair (.int .i64) (.pair (.int .i64) (.int .i64))))))))), (9, .ptr (.pair (.int .i64) (.pair (.int .i64) (.sl true (.pair .str (.pair (.int .i64) (.pair (.int .i64) (.pair (.int .i64) (.int .i64)))))))))]), (.ret, [(4, .ptr (.pair (.int .i64) (.pair (.int .i64) (.sl true (.pair .str (.pair (.int .i64) (.pair (.int .i64) (.pair (.int .i64) (.int .i64))))))))), (5, .val .bool)])]))], [], [(9, [(.normal, [(0, .val (.int .i64)), (4, .ptr (.pair (.int .i64) (.pair (.int .i64) (.sl true (.pair .str (.pair (.int .i64) (.pair (.int .i64) (.pair (.int .i64) (.int .i64))))))))), (6, .val (.sl false (.pair (.int .i64) (.pair (.int .i64) (.pair (.int .i64) (.pair (.int .i64) (.pair .str (.pair .str (.pair (.int .i64) (.int .i64)))))))))), (9, .ptr (.pair (.int .i64) (.pair (.int .i64) (.sl true (.pair .str (.pair (.int .i64) (.pair (.int .i64) (.pair (.int .i64) (.int .i64))))))))), (11, .ptr (.pair (.int .i64) (.pair (.int .i64) (.pair (.int .i64) (.pair (.int .i64) (.pair .str (.pair .str (.pair (.int .i64) (.int .i64))))))))), (67, .val (.sl false (.pair (.int .i64) (.pair (.int .i64) (.pair (.int .i64) (.pair (.int .i64) (.pair .str (.pair .str (.pair (.int .i64) (.int .i64)))))))))), (68, .val (.int .i64)), (69, .val (.int .i64))]), (.ret, [(4, .ptr (.pair (.int .i64) (.pair (.int .i64) (.sl true (.pair .str (.pair (.int .i64) (.pair (.int .i64) (.pair (.int .i64) (.int .i64))))))))), (5, .val .bool)])])]⟩
theorem impl_HintOf.ok : CtrOk Tryz.prog 172 impl_HintOf.ctr := fn_sound (A := impl_HintOf.ann) tabOk (EnvOk.cons (ctrs_cons impl_in.ok ctrs_nil) (EnvOk.cons (ctrs_cons impl_ScanRecs.ok ctrs_nil) (EnvOk.cons (ctrs_cons impl_fits.ok ctrs_nil) (EnvOk.cons (ctrs_cons impl_placed.ok ctrs_nil) EnvOk.nil)))) mixed (fn := Tryz.f172) (body := bodyOf Tryz.f172) Tryz.func172 (by kernel_rfl) (by kernel_rfl) (fun x => by kernel_rfl)

def impl_hintOk.sig : Sig := ⟨[.val (.pair (.int .i64) (.pair (.int .i64) (.sl false (.pair .str (.pair (.int .i64) (.pair (.int .i64) (.pair (.int .i64) (.int .i64))))))))], [.val .bool]⟩
noncomputable def impl_hintOk.ctr : Ctr := ⟨impl_hintOk.sig, fun x => impl_hintOk.f x⟩
noncomputable def impl_hintOk.env : Env := [(104, [impl_DirOk.ctr]), (105, [impl_in.ctr])]
def impl_hintOk.ann : Ann := ⟨[(0, ([(1, .ptr (.pair (.int .i64) (.pair (.int .i64) (.sl false (.pair .str (.pair (.int .i64) (.pair (.int .i64) (.pair (.int .i64) (.int .i64))))))))), (6, .val (.sl false (.pair .str (.pair (.int .i64) (.pair (.int .i64) (.pair (.int .i64) (.int .i64))))))), (7, .val (.int .i64)), (8, .val (.int .i64))], [(.exit 0, [(1, .ptr (.pair (.int .i64) (.pair (.int .i64) (.sl false (.pair .str (.pair (.int .i64) (.pair (.int .i64) (.pair (.int .i64) (.int .i64)))))))))]), (.ret, [(2, .val .bool)])]))], [], []⟩
theorem impl_hintOk.ok : CtrOk Tryz.prog 201 impl_hintOk.ctr := fn_sound (A := impl_hintOk.ann) tabOk (EnvOk.cons (ctrs_cons impl_DirOk.ok ctrs_nil) (EnvOk.cons (ctrs_cons impl_in.ok ctrs_nil) EnvOk.nil)) mixed (fn := Tryz.f201) (body := bodyOf Tryz.f201) Tryz.func201 (by kernel_rfl) (by kernel_rfl) (fun x => by kernel_rfl)

def impl_ShowHint.sig : Sig := ⟨[.val (.pair (.int .i64) (.pair (.int .i64) (.sl false (.pair .str (.pair (.int .i64) (.pair (.int .i64) (.pair (.int .i64) (.int .i64))))))))], [.val .str]⟩
noncomputable def impl_ShowHint.ctr : Ctr := ⟨impl_ShowHint.sig, fun x => impl_ShowHint.f x⟩
noncomputable def impl_ShowHint.env : Env := [(191, [impl_vars.ctr]), (194, [impl_Crc.ctr]), (195, [impl_textOf.ctr]), (196, [impl_Fixed.ctr]), (201, [impl_hintOk.ctr])]
def impl_ShowHint.ann : Ann := ⟨[(0, ([(3, .val .str), (19, .val (.sl false (.pair .str (.pair (.int .i64) (.pair (.int .i64) (.pair (.int .i64) (.int .i64))))))), (20, .val (.int .i64)), (21, .val (.int .i64))], [(.exit 0, [(3, .val .str)])]))], [], []⟩
theorem impl_ShowHint.ok : CtrOk Tryz.prog 173 impl_ShowHint.ctr := fn_sound (A := impl_ShowHint.ann) tabOk (EnvOk.cons (ctrs_cons impl_vars.ok ctrs_nil) (EnvOk.cons (ctrs_cons impl_Crc.ok ctrs_nil) (EnvOk.cons (ctrs_cons impl_textOf.ok ctrs_nil) (EnvOk.cons (ctrs_cons impl_Fixed.ok ctrs_nil) (EnvOk.cons (ctrs_cons impl_hintOk.ok ctrs_nil) EnvOk.nil))))) mixed (fn := Tryz.f173) (body := bodyOf Tryz.f173) Tryz.func173 (by kernel_rfl) (by kernel_rfl) (fun x => by kernel_rfl)

def impl_worker_writeHint.sig : Sig := ⟨[.ptr (.pair (.pair (.sl true (.pair .str (.pair .str (.int .i64)))) (.pair (.int .i64) (.pair (.int .i64) .bool))) (.int .i64)), .val (.int .i64)], []⟩
noncomputable def impl_worker_writeHint.ctr : Ctr := ⟨impl_worker_writeHint.sig, fun x => impl_worker_writeHint.f x.1 x.2⟩
noncomputable def impl_worker_writeHint.env : Env := [(82, [impl_FileText.ctr]), (83, [impl_SegName.ctr]), (132, [impl_HintName.ctr]), (133, [impl_worker_gone.ctr]), (154, [impl_worker_fileOf.ctr]), (172, [impl_HintOf.ctr]), (173, [impl_ShowHint.ctr])]
def impl_worker_writeHint.ann : Ann := ⟨[], [], []⟩
theorem impl_worker_writeHint.ok : CtrOk Tryz.prog 131 impl_worker_writeHint.ctr := fn_sound (A := impl_worker_writeHint.ann) tabOk (EnvOk.cons (ctrs_cons impl_FileText.ok ctrs_nil) (EnvOk.cons (ctrs_cons impl_SegName.ok ctrs_nil) (EnvOk.cons (ctrs_cons impl_HintName.ok ctrs_nil) (EnvOk.cons (ctrs_cons impl_worker_gone.ok ctrs_nil) (EnvOk.cons (ctrs_cons impl_worker_fileOf.ok ctrs_nil) (EnvOk.cons (ctrs_cons impl_HintOf.ok ctrs_nil) (EnvOk.cons (ctrs_cons impl_ShowHint.ok ctrs_nil) EnvOk.nil))))))) mixed (fn := Tryz.f131) (body := bodyOf Tryz.f131) Tryz.func131 (by kernel_rfl) (by kernel_rfl) (fun x => by kernel_rfl)

def impl_Store_merge.sig : Sig := ⟨[.ptr (.pair (.pair (.int .i64) (.sl true (.int .i64))) (.pair (.sl true (.pair .str (.pair (.int .i64) (.pair (.int .i64) (.pair (.int .i64) (.int .i64)))))) (.pair (.int .i64) (.pair (.int .i64) (.int .i64))))), .ptr (.pair (.pair (.sl true (.pair .str (.pair .str (.int .i64)))) (.pair (.int .i64) (.pair (.int .i64) .bool))) (.int .i64)), .val (.sl false (.pair .str (.pair .str (.int .i64))))], []⟩
noncomputable def impl_Store_merge.ctr : Ctr := ⟨impl_Store_merge.sig, fun x => impl_Store_merge.f x.1 x.2.1 x.2.2⟩
noncomputable def impl_Store_merge.env : Env := [(83, [impl_SegName.ctr]), (110, [impl_worker_putLive.ctr]), (111, [impl_worker_clean.ctr]), (129, [impl_worker_writeMerged.ctr]), (130, [impl_keeps.ctr]), (131, [impl_worker_writeHint.ctr]), (132, [impl_HintName.ctr]), (133, [impl_worker_gone.ctr])]
def impl_Store_merge.ann : Ann := ⟨[(0, ([(0, .ptr (.pair (.pair (.int .i64) (.sl true (.int .i64))) (.pair (.sl true (.pair .str (.pair (.int .i64) (.pair (.int .i64) (.pair (.int .i64) (.int .i64)))))) (.pair (.int .i64) (.pair (.int .i64) (.int .i64)))))), (1, .ptr (.pair (.pair (.sl true (.pair .str (.pair .str (.int .i64)))) (.pair (.int .i64) (.pair (.int .i64) .bool))) (.int .i64))), (85, .val (.sl true (.int .i64))), (86, .val (.int .i64)), (87, .val (.int .i64))], [(.exit 0, [(0, .ptr (.pair (.pair (.int .i64) (.sl true (.int .i64))) (.pair (.sl true (.pair .str (.pair (.int .i64) (.pair (.int .i64) (.pair (.int .i64) (.int .i64)))))) (.pair (.int .i64) (.pair (.int .i64) (.int .i64)))))), (1, .ptr (.pair (.pair (.sl true (.pair .str (.pair .str (.int .i64)))) (.pair (.int .i64) (.pair (.int .i64) .bool))) (.int .i64)))])]))], [], [(5, [(.normal, [(0, .ptr (.pair (.pair (.int .i64) (.sl true (.int .i64))) (.pair (.sl true (.pair .str (.pair (.int .i64) (.pair (.int .i64) (.pair (.int .i64) (.int .i64)))))) (.pair (.int .i64) (.pair (.int .i64) (.int .i64)))))), (1, .ptr (.pair (.pair (.sl true (.pair .str (.pair .str (.int .i64)))) (.pair (.int .i64) (.pair (.int .i64) .bool))) (.int .i64))), (6, .val (.int .i64)), (7, .val (.sl true (.pair .str (.pair (.int .i64) (.pair (.int .i64) (.pair (.int .i64) (.int .i64))))))), (8, .ptr (.pair (.int .i64) (.sl true (.int .i64))))])])]⟩
theorem impl_Store_merge.ok : CtrOk Tryz.prog 70 impl_Store_merge.ctr := fn_sound (A := impl_Store_merge.ann) tabOk (EnvOk.cons (ctrs_cons impl_SegName.ok ctrs_nil) (EnvOk.cons (ctrs_cons impl_worker_putLive.ok ctrs_nil) (EnvOk.cons (ctrs_cons impl_worker_clean.ok ctrs_nil) (EnvOk.cons (ctrs_cons impl_worker_writeMerged.ok ctrs_nil) (EnvOk.cons (ctrs_cons impl_keeps.ok ctrs_nil) (EnvOk.cons (ctrs_cons impl_worker_writeHint.ok ctrs_nil) (EnvOk.cons (ctrs_cons impl_HintName.ok ctrs_nil) (EnvOk.cons (ctrs_cons impl_worker_gone.ok ctrs_nil) EnvOk.nil)))))))) mixed (fn := Tryz.f70) (body := bodyOf Tryz.f70) Tryz.func70 (by kernel_rfl) (by kernel_rfl) (fun x => by kernel_rfl)

def impl_Merge.sig : Sig := ⟨[.val (.pair (.pair (.int .i64) (.sl false (.int .i64))) (.pair (.sl false (.pair .str (.pair (.int .i64) (.pair (.int .i64) (.pair (.int .i64) (.int .i64)))))) (.pair (.int .i64) (.pair (.int .i64) (.int .i64))))), .val (.pair (.sl false (.pair .str (.pair .str (.int .i64)))) (.pair (.int .i64) (.pair (.int .i64) .bool)))], [.val (.pair (.pair (.int .i64) (.sl true (.int .i64))) (.pair (.sl true (.pair .str (.pair (.int .i64) (.pair (.int .i64) (.pair (.int .i64) (.int .i64)))))) (.pair (.int .i64) (.pair (.int .i64) (.int .i64))))), .val (.pair (.sl true (.pair .str (.pair .str (.int .i64)))) (.pair (.int .i64) (.pair (.int .i64) .bool))), .val (.int .i64)]⟩
noncomputable def impl_Merge.ctr : Ctr := ⟨impl_Merge.sig, fun x => impl_Merge.f x.1 x.2⟩
noncomputable def impl_Merge.env : Env := [(12, [impl_Dump.ctr]), (53, [impl_copyStore.ctr]), (54, [impl_copyDisk.ctr]), (55, [impl_StoreOk.ctr]), (70, [impl_Store_merge.ctr])]
def impl_Merge.ann : Ann := ⟨[], [], []⟩
theorem impl_Merge.ok : CtrOk Tryz.prog 31 impl_Merge.ctr := fn_sound (A := impl_Merge.ann) tabOk (EnvOk.cons (ctrs_cons impl_Dump.ok ctrs_nil) (EnvOk.cons (ctrs_cons impl_copyStore.ok ctrs_nil) (EnvOk.cons (ctrs_cons impl_copyDisk.ok ctrs_nil) (EnvOk.cons (ctrs_cons impl_StoreOk.ok ctrs_nil) (EnvOk.cons (ctrs_cons impl_Store_merge.ok ctrs_nil) EnvOk.nil))))) mixed (fn := Tryz.f31) (body := bodyOf Tryz.f31) Tryz.func31 (by kernel_rfl) (by kernel_rfl) (fun x => by kernel_rfl)

def laws_FnExactMerge.sig : Sig := ⟨[.val (.pair (.pair (.int .i64) (.sl false (.int .i64))) (.pair (.sl false (.pair .str (.pair (.int .i64) (.pair (.int .i64) (.pair (.int .i64) (.int .i64)))))) (.pair (.int .i64) (.pair (.int .i64) (.int .i64))))), .val (.pair (.sl false (.pair .str (.pair .str (.int .i64)))) (.pair (.int .i64) (.pair (.int .i64) .bool)))], [.val .bool]⟩
noncomputable def laws_FnExactMerge.ctr : Ctr := ⟨laws_FnExactMerge.sig, fun x => laws_FnExactMerge.f x.1 x.2⟩
noncomputable def laws_FnExactMerge.env : Env := [(7, [laws_szStore.ctr]), (8, [laws_szDisk.ctr]), (10, [laws_toStore.ctr]), (11, [laws_toDisk.ctr]), (14, [laws_eqStore.ctr]), (15, [laws_eqDisk.ctr]), (16, [laws_markStore.ctr]), (17, [laws_markDisk.ctr]), (22, [laws_heldStore.ctr]), (23, [laws_heldDisk.ctr]), (30, [spec_Merge.ctr]), (31, [impl_Merge.ctr])]
def laws_FnExactMerge.ann : Ann := ⟨[], [], []⟩
theorem laws_FnExactMerge.ok : CtrOk Tryz.prog 6 laws_FnExactMerge.ctr := fn_sound (A := laws_FnExactMerge.ann) tabOk (EnvOk.cons (ctrs_cons laws_szStore.ok ctrs_nil) (EnvOk.cons (ctrs_cons laws_szDisk.ok ctrs_nil) (EnvOk.cons (ctrs_cons laws_toStore.ok ctrs_nil) (EnvOk.cons (ctrs_cons laws_toDisk.ok ctrs_nil) (EnvOk.cons (ctrs_cons laws_eqStore.ok ctrs_nil) (EnvOk.cons (ctrs_cons laws_eqDisk.ok ctrs_nil) (EnvOk.cons (ctrs_cons laws_markStore.ok ctrs_nil) (EnvOk.cons (ctrs_cons laws_markDisk.ok ctrs_nil) (EnvOk.cons (ctrs_cons laws_heldStore.ok ctrs_nil) (EnvOk.cons (ctrs_cons laws_heldDisk.ok ctrs_nil) (EnvOk.cons (ctrs_cons spec_Merge.ok ctrs_nil) (EnvOk.cons (ctrs_cons impl_Merge.ok ctrs_nil) EnvOk.nil)))))))))))) mixed (fn := Tryz.f6) (body := bodyOf Tryz.f6) Tryz.func6 (by kernel_rfl) (by kernel_rfl) (fun x => by kernel_rfl)

end Go.Proofs.YtljiidpfgfkhcaaGreatDoor
