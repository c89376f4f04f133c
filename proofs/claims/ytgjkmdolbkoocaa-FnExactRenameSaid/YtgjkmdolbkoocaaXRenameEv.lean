/- Each function of the program that FnExactRename reaches comes to its plain function. -/
import Derived.Test.YtgjkmdolbkoocaaRfZg
import Derived.Test.YtgjkmdolbkoocaaFns
import Derived.Test.YtgjkmdolbkoocaaProg
namespace Go.Proofs.Ytgjkmdolbkoocaa
open Go Go.Rf Go.Rf.G Go.Proofs
set_option maxRecDepth 100000
def bodyOf (f : Func) : Code := f.body.getD .skip
def tab : Tab := [(3, ⟨(.int .i64), false, [], none, 8, false⟩),
  (4, ⟨.bool, false, [], none, 1, false⟩),
  (5, ⟨(.int .u8), false, [], none, 1, false⟩),
  (9, ⟨.str, false, [], none, 16, false⟩),
  (22, ⟨(.sl true (.pair .str (.pair .str (.int .i64)))), false, [], some 158, 24, false⟩),
  (24, ⟨(.pair (.sl true (.pair .str (.pair .str (.int .i64)))) (.pair (.int .i64) (.pair (.int .i64) .bool))), true, [(0, 1, false), (1, 1, false), (2, 1, false), (3, 1, false)], none, 48, false⟩),
  (26, ⟨(.sl true (.pair .str (.pair .str (.int .i64)))), false, [], some 97, 24, false⟩),
  (28, ⟨(.pair (.sl true (.pair .str (.pair .str (.int .i64)))) (.pair (.int .i64) (.pair (.int .i64) .bool))), true, [(0, 1, false), (1, 1, false), (2, 1, false), (3, 1, false)], none, 48, false⟩),
  (35, ⟨(.sl true (.int .u8)), false, [], some 5, 24, false⟩),
  (97, ⟨(.pair .str (.pair .str (.int .i64))), true, [(0, 1, false), (1, 1, false), (2, 1, false)], none, 40, true⟩),
  (158, ⟨(.pair .str (.pair .str (.int .i64))), true, [(0, 1, false), (1, 1, false), (2, 1, false)], none, 40, true⟩)]
theorem tabOk : TabOk Try.prog tab := Rf.tabOk (by kernel_rfl)
theorem mixed : Try.prog.follows .mixedOrders = true := by kernel_rfl
def laws_szFile.sig : Sig := ⟨[.val (.pair .str (.pair .str (.int .i64))), .val (.int .i64)], [.val (.int .i64)]⟩
noncomputable def laws_szFile.ctr : Ctr := ⟨laws_szFile.sig, fun x => laws_szFile.f x.1 x.2⟩
noncomputable def laws_szFile.env : Env := []
def laws_szFile.ann : Ann := ⟨[], [], []⟩
theorem laws_szFile.ok : CtrOk Try.prog 136 laws_szFile.ctr := fn_sound (A := laws_szFile.ann) tabOk EnvOk.nil mixed (fn := Try.f136) (body := bodyOf Try.f136) Try.func136 (by kernel_rfl) (by kernel_rfl) (fun x => by kernel_rfl)

def laws_szFileS.sig : Sig := ⟨[.val (.sl false (.pair .str (.pair .str (.int .i64)))), .val (.int .i64)], [.val (.int .i64)]⟩
noncomputable def laws_szFileS.ctr : Ctr := ⟨laws_szFileS.sig, fun x => laws_szFileS.f x.1 x.2⟩
noncomputable def laws_szFileS.env : Env := [(136, [laws_szFile.ctr])]
def laws_szFileS.ann : Ann := ⟨[(0, ([(0, .val (.sl false (.pair .str (.pair .str (.int .i64))))), (1, .val (.int .i64)), (5, .val (.int .i64))], [(.exit 0, [(1, .val (.int .i64))]), (.ret, [(4, .val (.int .i64))])]))], [], []⟩
theorem laws_szFileS.ok : CtrOk Try.prog 70 laws_szFileS.ctr := fn_sound (A := laws_szFileS.ann) tabOk (EnvOk.cons (ctrs_cons laws_szFile.ok ctrs_nil) EnvOk.nil) mixed (fn := Try.f70) (body := bodyOf Try.f70) Try.func70 (by kernel_rfl) (by kernel_rfl) (fun x => by kernel_rfl)

def laws_szDisk.sig : Sig := ⟨[.val (.pair (.sl false (.pair .str (.pair .str (.int .i64)))) (.pair (.int .i64) (.pair (.int .i64) .bool))), .val (.int .i64)], [.val (.int .i64)]⟩
noncomputable def laws_szDisk.ctr : Ctr := ⟨laws_szDisk.sig, fun x => laws_szDisk.f x.1 x.2⟩
noncomputable def laws_szDisk.env : Env := [(70, [laws_szFileS.ctr])]
def laws_szDisk.ann : Ann := ⟨[], [], []⟩
theorem laws_szDisk.ok : CtrOk Try.prog 15 laws_szDisk.ctr := fn_sound (A := laws_szDisk.ann) tabOk (EnvOk.cons (ctrs_cons laws_szFileS.ok ctrs_nil) EnvOk.nil) mixed (fn := Try.f15) (body := bodyOf Try.f15) Try.func15 (by kernel_rfl) (by kernel_rfl) (fun x => by kernel_rfl)

def laws_toFile.sig : Sig := ⟨[.val (.pair .str (.pair .str (.int .i64)))], [.val (.pair .str (.pair .str (.int .i64)))]⟩
noncomputable def laws_toFile.ctr : Ctr := ⟨laws_toFile.sig, fun x => laws_toFile.f x⟩
noncomputable def laws_toFile.env : Env := []
def laws_toFile.ann : Ann := ⟨[], [], []⟩
theorem laws_toFile.ok : CtrOk Try.prog 138 laws_toFile.ctr := fn_sound (A := laws_toFile.ann) tabOk EnvOk.nil mixed (fn := Try.f138) (body := bodyOf Try.f138) Try.func138 (by kernel_rfl) (by kernel_rfl) (fun x => by kernel_rfl)

def laws_toFileS.sig : Sig := ⟨[.val (.sl false (.pair .str (.pair .str (.int .i64))))], [.val (.sl true (.pair .str (.pair .str (.int .i64))))]⟩
noncomputable def laws_toFileS.ctr : Ctr := ⟨laws_toFileS.sig, fun x => laws_toFileS.f x⟩
noncomputable def laws_toFileS.env : Env := [(138, [laws_toFile.ctr])]
def laws_toFileS.ann : Ann := ⟨[(0, ([(0, .val (.sl false (.pair .str (.pair .str (.int .i64))))), (3, .val (.sl true (.pair .str (.pair .str (.int .i64))))), (4, .val (.int .i64))], [(.exit 0, [(3, .val (.sl true (.pair .str (.pair .str (.int .i64)))))])]))], [], []⟩
theorem laws_toFileS.ok : CtrOk Try.prog 73 laws_toFileS.ctr := fn_sound (A := laws_toFileS.ann) tabOk (EnvOk.cons (ctrs_cons laws_toFile.ok ctrs_nil) EnvOk.nil) mixed (fn := Try.f73) (body := bodyOf Try.f73) Try.func73 (by kernel_rfl) (by kernel_rfl) (fun x => by kernel_rfl)

def laws_toDisk.sig : Sig := ⟨[.val (.pair (.sl false (.pair .str (.pair .str (.int .i64)))) (.pair (.int .i64) (.pair (.int .i64) .bool)))], [.val (.pair (.sl true (.pair .str (.pair .str (.int .i64)))) (.pair (.int .i64) (.pair (.int .i64) .bool)))]⟩
noncomputable def laws_toDisk.ctr : Ctr := ⟨laws_toDisk.sig, fun x => laws_toDisk.f x⟩
noncomputable def laws_toDisk.env : Env := [(73, [laws_toFileS.ctr])]
def laws_toDisk.ann : Ann := ⟨[], [], []⟩
theorem laws_toDisk.ok : CtrOk Try.prog 17 laws_toDisk.ctr := fn_sound (A := laws_toDisk.ann) tabOk (EnvOk.cons (ctrs_cons laws_toFileS.ok ctrs_nil) EnvOk.nil) mixed (fn := Try.f17) (body := bodyOf Try.f17) Try.func17 (by kernel_rfl) (by kernel_rfl) (fun x => by kernel_rfl)

def laws_eqFile.sig : Sig := ⟨[.val (.pair .str (.pair .str (.int .i64))), .val (.pair .str (.pair .str (.int .i64)))], [.val .bool]⟩
noncomputable def laws_eqFile.ctr : Ctr := ⟨laws_eqFile.sig, fun x => laws_eqFile.f x.1 x.2⟩
noncomputable def laws_eqFile.env : Env := []
def laws_eqFile.ann : Ann := ⟨[], [], []⟩
theorem laws_eqFile.ok : CtrOk Try.prog 140 laws_eqFile.ctr := fn_sound (A := laws_eqFile.ann) tabOk EnvOk.nil mixed (fn := Try.f140) (body := bodyOf Try.f140) Try.func140 (by kernel_rfl) (by kernel_rfl) (fun x => by kernel_rfl)

def laws_eqFileS.sig : Sig := ⟨[.val (.sl false (.pair .str (.pair .str (.int .i64)))), .val (.sl false (.pair .str (.pair .str (.int .i64))))], [.val .bool]⟩
noncomputable def laws_eqFileS.ctr : Ctr := ⟨laws_eqFileS.sig, fun x => laws_eqFileS.f x.1 x.2⟩
noncomputable def laws_eqFileS.env : Env := [(140, [laws_eqFile.ctr])]
def laws_eqFileS.ann : Ann := ⟨[(0, ([(0, .val (.sl false (.pair .str (.pair .str (.int .i64))))), (1, .val (.sl false (.pair .str (.pair .str (.int .i64))))), (5, .val (.int .i64))], [(.exit 0, []), (.ret, [(4, .val .bool)])]))], [], []⟩
theorem laws_eqFileS.ok : CtrOk Try.prog 77 laws_eqFileS.ctr := fn_sound (A := laws_eqFileS.ann) tabOk (EnvOk.cons (ctrs_cons laws_eqFile.ok ctrs_nil) EnvOk.nil) mixed (fn := Try.f77) (body := bodyOf Try.f77) Try.func77 (by kernel_rfl) (by kernel_rfl) (fun x => by kernel_rfl)

def laws_eqDisk.sig : Sig := ⟨[.val (.pair (.sl false (.pair .str (.pair .str (.int .i64)))) (.pair (.int .i64) (.pair (.int .i64) .bool))), .val (.pair (.sl false (.pair .str (.pair .str (.int .i64)))) (.pair (.int .i64) (.pair (.int .i64) .bool)))], [.val .bool]⟩
noncomputable def laws_eqDisk.ctr : Ctr := ⟨laws_eqDisk.sig, fun x => laws_eqDisk.f x.1 x.2⟩
noncomputable def laws_eqDisk.env : Env := [(77, [laws_eqFileS.ctr])]
def laws_eqDisk.ann : Ann := ⟨[], [], []⟩
theorem laws_eqDisk.ok : CtrOk Try.prog 19 laws_eqDisk.ctr := fn_sound (A := laws_eqDisk.ann) tabOk (EnvOk.cons (ctrs_cons laws_eqFileS.ok ctrs_nil) EnvOk.nil) mixed (fn := Try.f19) (body := bodyOf Try.f19) Try.func19 (by kernel_rfl) (by kernel_rfl) (fun x => by kernel_rfl)

def laws_markText.sig : Sig := ⟨[.val (.int .i64)], [.val .str]⟩
noncomputable def laws_markText.ctr : Ctr := ⟨laws_markText.sig, fun x => laws_markText.f x⟩
noncomputable def laws_markText.env : Env := []
def laws_markText.ann : Ann := ⟨[(0, ([(0, .val (.int .i64)), (3, .val .str)], [(.exit 0, [(3, .val .str)])]))], [], []⟩
theorem laws_markText.ok : CtrOk Try.prog 128 laws_markText.ctr := fn_sound (A := laws_markText.ann) tabOk EnvOk.nil mixed (fn := Try.f128) (body := bodyOf Try.f128) Try.func128 (by kernel_rfl) (by kernel_rfl) (fun x => by kernel_rfl)

def laws_markFileS.sig : Sig := ⟨[.io (.sl true (.pair .str (.pair .str (.int .i64)))), .val (.int .i64)], [.val (.int .i64)]⟩
noncomputable def laws_markFileS.ctr : Ctr := ⟨laws_markFileS.sig, fun x => laws_markFileS.f x.1 x.2⟩
noncomputable def laws_markFileS.env : Env := [(128, [laws_markText.ctr])]
def laws_markFileS.ann : Ann := ⟨[(0, ([(0, .val (.sl true (.pair .str (.pair .str (.int .i64))))), (1, .val (.int .i64)), (5, .val (.int .i64))], [(.exit 0, [(0, .val (.sl true (.pair .str (.pair .str (.int .i64))))), (1, .val (.int .i64))])]))], [], []⟩
theorem laws_markFileS.ok : CtrOk Try.prog 78 laws_markFileS.ctr := fn_sound (A := laws_markFileS.ann) tabOk (EnvOk.cons (ctrs_cons laws_markText.ok ctrs_nil) EnvOk.nil) mixed (fn := Try.f78) (body := bodyOf Try.f78) Try.func78 (by kernel_rfl) (by kernel_rfl) (fun x => by kernel_rfl)

def laws_markDisk.sig : Sig := ⟨[.io (.pair (.sl true (.pair .str (.pair .str (.int .i64)))) (.pair (.int .i64) (.pair (.int .i64) .bool))), .val (.int .i64)], [.val (.int .i64)]⟩
noncomputable def laws_markDisk.ctr : Ctr := ⟨laws_markDisk.sig, fun x => laws_markDisk.f x.1 x.2⟩
noncomputable def laws_markDisk.env : Env := [(78, [laws_markFileS.ctr])]
def laws_markDisk.ann : Ann := ⟨[], [], []⟩
theorem laws_markDisk.ok : CtrOk Try.prog 20 laws_markDisk.ctr := fn_sound (A := laws_markDisk.ann) tabOk (EnvOk.cons (ctrs_cons laws_markFileS.ok ctrs_nil) EnvOk.nil) mixed (fn := Try.f20) (body := bodyOf Try.f20) Try.func20 (by kernel_rfl) (by kernel_rfl) (fun x => by kernel_rfl)

def laws_heldFileS.sig : Sig := ⟨[.val (.sl false (.pair .str (.pair .str (.int .i64)))), .val (.int .i64)], [.val (.int .i64)]⟩
noncomputable def laws_heldFileS.ctr : Ctr := ⟨laws_heldFileS.sig, fun x => laws_heldFileS.f x.1 x.2⟩
noncomputable def laws_heldFileS.env : Env := [(128, [laws_markText.ctr])]
def laws_heldFileS.ann : Ann := ⟨[(0, ([(0, .val (.sl false (.pair .str (.pair .str (.int .i64))))), (1, .val (.int .i64)), (5, .val (.int .i64))], [(.exit 0, [(1, .val (.int .i64))]), (.ret, [(4, .val (.int .i64))])]))], [], []⟩
theorem laws_heldFileS.ok : CtrOk Try.prog 79 laws_heldFileS.ctr := fn_sound (A := laws_heldFileS.ann) tabOk (EnvOk.cons (ctrs_cons laws_markText.ok ctrs_nil) EnvOk.nil) mixed (fn := Try.f79) (body := bodyOf Try.f79) Try.func79 (by kernel_rfl) (by kernel_rfl) (fun x => by kernel_rfl)

def laws_heldDisk.sig : Sig := ⟨[.val (.pair (.sl false (.pair .str (.pair .str (.int .i64)))) (.pair (.int .i64) (.pair (.int .i64) .bool))), .val (.int .i64)], [.val (.int .i64)]⟩
noncomputable def laws_heldDisk.ctr : Ctr := ⟨laws_heldDisk.sig, fun x => laws_heldDisk.f x.1 x.2⟩
noncomputable def laws_heldDisk.env : Env := [(79, [laws_heldFileS.ctr])]
def laws_heldDisk.ann : Ann := ⟨[], [], []⟩
theorem laws_heldDisk.ok : CtrOk Try.prog 21 laws_heldDisk.ctr := fn_sound (A := laws_heldDisk.ann) tabOk (EnvOk.cons (ctrs_cons laws_heldFileS.ok ctrs_nil) EnvOk.nil) mixed (fn := Try.f21) (body := bodyOf Try.f21) Try.func21 (by kernel_rfl) (by kernel_rfl) (fun x => by kernel_rfl)

def spec_l1In.sig : Sig := ⟨[.val (.int .i64), .val (.int .i64), .val (.int .i64)], [.val .bool]⟩
noncomputable def spec_l1In.ctr : Ctr := ⟨spec_l1In.sig, fun x => spec_l1In.f x.1 x.2.1 x.2.2⟩
noncomputable def spec_l1In.env : Env := []
def spec_l1In.ann : Ann := ⟨[], [], []⟩
theorem spec_l1In.ok : CtrOk Try.prog 100 spec_l1In.ctr := fn_sound (A := spec_l1In.ann) tabOk EnvOk.nil mixed (fn := Try.f100) (body := bodyOf Try.f100) Try.func100 (by kernel_rfl) (by kernel_rfl) (fun x => by kernel_rfl)

def spec_l3Used.sig : Sig := ⟨[.val (.pair (.sl false (.pair .str (.pair .str (.int .i64)))) (.pair (.int .i64) (.pair (.int .i64) .bool)))], [.val (.int .i64)]⟩
noncomputable def spec_l3Used.ctr : Ctr := ⟨spec_l3Used.sig, fun x => spec_l3Used.f x⟩
noncomputable def spec_l3Used.env : Env := []
def spec_l3Used.ann : Ann := ⟨[(0, ([(1, .ptr (.pair (.sl false (.pair .str (.pair .str (.int .i64)))) (.pair (.int .i64) (.pair (.int .i64) .bool)))), (3, .val (.int .i64)), (4, .val (.int .i64))], [(.exit 0, [(3, .val (.int .i64))])]))], [], []⟩
theorem spec_l3Used.ok : CtrOk Try.prog 117 spec_l3Used.ctr := fn_sound (A := spec_l3Used.ann) tabOk EnvOk.nil mixed (fn := Try.f117) (body := bodyOf Try.f117) Try.func117 (by kernel_rfl) (by kernel_rfl) (fun x => by kernel_rfl)

def spec_NameOk.sig : Sig := ⟨[.val .str], [.val .bool]⟩
noncomputable def spec_NameOk.ctr : Ctr := ⟨spec_NameOk.sig, fun x => spec_NameOk.f x⟩
noncomputable def spec_NameOk.env : Env := [(100, [spec_l1In.ctr])]
def spec_NameOk.ann : Ann := ⟨[(0, ([(0, .val .str), (3, .val (.int .i64))], [(.exit 0, [(0, .val .str)]), (.ret, [(2, .val .bool)])]))], [], [(4, [(.normal, [(0, .val .str), (3, .val (.int .i64))]), (.ret, [(2, .val .bool)])])]⟩
theorem spec_NameOk.ok : CtrOk Try.prog 120 spec_NameOk.ctr := fn_sound (A := spec_NameOk.ann) tabOk (EnvOk.cons (ctrs_cons spec_l1In.ok ctrs_nil) EnvOk.nil) mixed (fn := Try.f120) (body := bodyOf Try.f120) Try.func120 (by kernel_rfl) (by kernel_rfl) (fun x => by kernel_rfl)

def spec_DiskOk.sig : Sig := ⟨[.val (.pair (.sl false (.pair .str (.pair .str (.int .i64)))) (.pair (.int .i64) (.pair (.int .i64) .bool)))], [.val .bool]⟩
noncomputable def spec_DiskOk.ctr : Ctr := ⟨spec_DiskOk.sig, fun x => spec_DiskOk.f x⟩
noncomputable def spec_DiskOk.env : Env := [(100, [spec_l1In.ctr]), (117, [spec_l3Used.ctr]), (120, [spec_NameOk.ctr])]
def spec_DiskOk.ann : Ann := ⟨[(0, ([(1, .ptr (.pair (.sl false (.pair .str (.pair .str (.int .i64)))) (.pair (.int .i64) (.pair (.int .i64) .bool)))), (3, .val (.int .i64))], [(.exit 0, []), (.ret, [(2, .val .bool)])]))], [], [(6, [(.normal, [(1, .ptr (.pair (.sl false (.pair .str (.pair .str (.int .i64)))) (.pair (.int .i64) (.pair (.int .i64) .bool)))), (3, .val (.int .i64))]), (.ret, [(2, .val .bool)])])]⟩
theorem spec_DiskOk.ok : CtrOk Try.prog 66 spec_DiskOk.ctr := fn_sound (A := spec_DiskOk.ann) tabOk (EnvOk.cons (ctrs_cons spec_l1In.ok ctrs_nil) (EnvOk.cons (ctrs_cons spec_l3Used.ok ctrs_nil) (EnvOk.cons (ctrs_cons spec_NameOk.ok ctrs_nil) EnvOk.nil))) mixed (fn := Try.f66) (body := bodyOf Try.f66) Try.func66 (by kernel_rfl) (by kernel_rfl) (fun x => by kernel_rfl)

def spec_l3Copy.sig : Sig := ⟨[.val (.pair (.sl false (.pair .str (.pair .str (.int .i64)))) (.pair (.int .i64) (.pair (.int .i64) .bool)))], [.val (.pair (.sl true (.pair .str (.pair .str (.int .i64)))) (.pair (.int .i64) (.pair (.int .i64) .bool)))]⟩
noncomputable def spec_l3Copy.ctr : Ctr := ⟨spec_l3Copy.sig, fun x => spec_l3Copy.f x⟩
noncomputable def spec_l3Copy.env : Env := []
def spec_l3Copy.ann : Ann := ⟨[], [], []⟩
theorem spec_l3Copy.ok : CtrOk Try.prog 137 spec_l3Copy.ctr := fn_sound (A := spec_l3Copy.ann) tabOk EnvOk.nil mixed (fn := Try.f137) (body := bodyOf Try.f137) Try.func137 (by kernel_rfl) (by kernel_rfl) (fun x => by kernel_rfl)

def spec_l3Begin.sig : Sig := ⟨[.val (.pair (.sl false (.pair .str (.pair .str (.int .i64)))) (.pair (.int .i64) (.pair (.int .i64) .bool)))], [.val (.pair (.sl true (.pair .str (.pair .str (.int .i64)))) (.pair (.int .i64) (.pair (.int .i64) .bool))), .val (.int .i64)]⟩
noncomputable def spec_l3Begin.ctr : Ctr := ⟨spec_l3Begin.sig, fun x => spec_l3Begin.f x⟩
noncomputable def spec_l3Begin.env : Env := [(66, [spec_DiskOk.ctr]), (137, [spec_l3Copy.ctr])]
def spec_l3Begin.ann : Ann := ⟨[], [], []⟩
theorem spec_l3Begin.ok : CtrOk Try.prog 71 spec_l3Begin.ctr := fn_sound (A := spec_l3Begin.ann) tabOk (EnvOk.cons (ctrs_cons spec_DiskOk.ok ctrs_nil) (EnvOk.cons (ctrs_cons spec_l3Copy.ok ctrs_nil) EnvOk.nil)) mixed (fn := Try.f71) (body := bodyOf Try.f71) Try.func71 (by kernel_rfl) (by kernel_rfl) (fun x => by kernel_rfl)

def spec_l3Find.sig : Sig := ⟨[.val (.pair (.sl false (.pair .str (.pair .str (.int .i64)))) (.pair (.int .i64) (.pair (.int .i64) .bool))), .val .str], [.val (.int .i64)]⟩
noncomputable def spec_l3Find.ctr : Ctr := ⟨spec_l3Find.sig, fun x => spec_l3Find.f x.1 x.2⟩
noncomputable def spec_l3Find.env : Env := []
def spec_l3Find.ann : Ann := ⟨[(0, ([(1, .val .str), (2, .ptr (.pair (.sl false (.pair .str (.pair .str (.int .i64)))) (.pair (.int .i64) (.pair (.int .i64) .bool)))), (5, .val (.int .i64))], [(.exit 0, []), (.ret, [(4, .val (.int .i64))])]))], [], []⟩
theorem spec_l3Find.ok : CtrOk Try.prog 72 spec_l3Find.ctr := fn_sound (A := spec_l3Find.ann) tabOk EnvOk.nil mixed (fn := Try.f72) (body := bodyOf Try.f72) Try.func72 (by kernel_rfl) (by kernel_rfl) (fun x => by kernel_rfl)

def spec_l3Without.sig : Sig := ⟨[.val (.sl false (.pair .str (.pair .str (.int .i64)))), .val (.int .i64)], [.val (.sl true (.pair .str (.pair .str (.int .i64))))]⟩
noncomputable def spec_l3Without.ctr : Ctr := ⟨spec_l3Without.sig, fun x => spec_l3Without.f x.1 x.2⟩
noncomputable def spec_l3Without.env : Env := []
def spec_l3Without.ann : Ann := ⟨[], [], []⟩
theorem spec_l3Without.ok : CtrOk Try.prog 97 spec_l3Without.ctr := fn_sound (A := spec_l3Without.ann) tabOk EnvOk.nil mixed (fn := Try.f97) (body := bodyOf Try.f97) Try.func97 (by kernel_rfl) (by kernel_rfl) (fun x => by kernel_rfl)

def spec_l3Insert.sig : Sig := ⟨[.val (.sl false (.pair .str (.pair .str (.int .i64)))), .val (.pair .str (.pair .str (.int .i64)))], [.val (.sl true (.pair .str (.pair .str (.int .i64))))]⟩
noncomputable def spec_l3Insert.ctr : Ctr := ⟨spec_l3Insert.sig, fun x => spec_l3Insert.f x.1 x.2⟩
noncomputable def spec_l3Insert.env : Env := []
def spec_l3Insert.ann : Ann := ⟨[(0, ([(0, .val (.sl false (.pair .str (.pair .str (.int .i64))))), (3, .ptr (.pair .str (.pair .str (.int .i64)))), (5, .val (.sl true (.pair .str (.pair .str (.int .i64))))), (6, .val .bool), (7, .val (.int .i64))], [(.exit 0, [(3, .ptr (.pair .str (.pair .str (.int .i64)))), (5, .val (.sl true (.pair .str (.pair .str (.int .i64))))), (6, .val .bool)])]))], [], [(6, [(.normal, [(0, .val (.sl false (.pair .str (.pair .str (.int .i64))))), (3, .ptr (.pair .str (.pair .str (.int .i64)))), (5, .val (.sl true (.pair .str (.pair .str (.int .i64))))), (6, .val .bool), (7, .val (.int .i64))])])]⟩
theorem spec_l3Insert.ok : CtrOk Try.prog 121 spec_l3Insert.ctr := fn_sound (A := spec_l3Insert.ann) tabOk EnvOk.nil mixed (fn := Try.f121) (body := bodyOf Try.f121) Try.func121 (by kernel_rfl) (by kernel_rfl) (fun x => by kernel_rfl)

def spec_Rename.sig : Sig := ⟨[.val (.pair (.sl false (.pair .str (.pair .str (.int .i64)))) (.pair (.int .i64) (.pair (.int .i64) .bool))), .val .str, .val .str], [.val (.pair (.sl true (.pair .str (.pair .str (.int .i64)))) (.pair (.int .i64) (.pair (.int .i64) .bool))), .val (.int .i64)]⟩
noncomputable def spec_Rename.ctr : Ctr := ⟨spec_Rename.sig, fun x => spec_Rename.f x.1 x.2.1 x.2.2⟩
noncomputable def spec_Rename.env : Env := [(71, [spec_l3Begin.ctr]), (72, [spec_l3Find.ctr]), (97, [spec_l3Without.ctr]), (120, [spec_NameOk.ctr]), (121, [spec_l3Insert.ctr])]
def spec_Rename.ann : Ann := ⟨[], [], [(15, [(.normal, [(6, .ptr (.pair (.sl true (.pair .str (.pair .str (.int .i64)))) (.pair (.int .i64) (.pair (.int .i64) .bool)))), (8, .ptr (.pair (.sl true (.pair .str (.pair .str (.int .i64)))) (.pair (.int .i64) (.pair (.int .i64) .bool)))), (11, .ptr (.pair .str (.pair .str (.int .i64))))])])]⟩
theorem spec_Rename.ok : CtrOk Try.prog 62 spec_Rename.ctr := fn_sound (A := spec_Rename.ann) tabOk (EnvOk.cons (ctrs_cons spec_l3Begin.ok ctrs_nil) (EnvOk.cons (ctrs_cons spec_l3Find.ok ctrs_nil) (EnvOk.cons (ctrs_cons spec_l3Without.ok ctrs_nil) (EnvOk.cons (ctrs_cons spec_NameOk.ok ctrs_nil) (EnvOk.cons (ctrs_cons spec_l3Insert.ok ctrs_nil) EnvOk.nil))))) mixed (fn := Try.f62) (body := bodyOf Try.f62) Try.func62 (by kernel_rfl) (by kernel_rfl) (fun x => by kernel_rfl)

def impl_fileAt.sig : Sig := ⟨[.val (.pair (.sl false (.pair .str (.pair .str (.int .i64)))) (.pair (.int .i64) (.pair (.int .i64) .bool))), .val .str], [.val (.int .i64)]⟩
noncomputable def impl_fileAt.ctr : Ctr := ⟨impl_fileAt.sig, fun x => impl_fileAt.f x.1 x.2⟩
noncomputable def impl_fileAt.env : Env := []
def impl_fileAt.ann : Ann := ⟨[(0, ([(1, .val .str), (8, .val (.sl false (.pair .str (.pair .str (.int .i64))))), (9, .val (.int .i64)), (10, .val (.int .i64))], [(.exit 0, []), (.ret, [(4, .val (.int .i64))])]))], [], []⟩
theorem impl_fileAt.ok : CtrOk Try.prog 76 impl_fileAt.ctr := fn_sound (A := impl_fileAt.ann) tabOk EnvOk.nil mixed (fn := Try.f76) (body := bodyOf Try.f76) Try.func76 (by kernel_rfl) (by kernel_rfl) (fun x => by kernel_rfl)

def impl_Disk_drop.sig : Sig := ⟨[.ptr (.pair (.sl true (.pair .str (.pair .str (.int .i64)))) (.pair (.int .i64) (.pair (.int .i64) .bool))), .val .str], []⟩
noncomputable def impl_Disk_drop.ctr : Ctr := ⟨impl_Disk_drop.sig, fun x => impl_Disk_drop.f x.1 x.2⟩
noncomputable def impl_Disk_drop.env : Env := [(76, [impl_fileAt.ctr])]
def impl_Disk_drop.ann : Ann := ⟨[], [], []⟩
theorem impl_Disk_drop.ok : CtrOk Try.prog 99 impl_Disk_drop.ctr := fn_sound (A := impl_Disk_drop.ann) tabOk (EnvOk.cons (ctrs_cons impl_fileAt.ok ctrs_nil) EnvOk.nil) mixed (fn := Try.f99) (body := bodyOf Try.f99) Try.func99 (by kernel_rfl) (by kernel_rfl) (fun x => by kernel_rfl)

def impl_in.sig : Sig := ⟨[.val (.int .i64), .val (.int .i64), .val (.int .i64)], [.val .bool]⟩
noncomputable def impl_in.ctr : Ctr := ⟨impl_in.sig, fun x => impl_in.f x.1 x.2.1 x.2.2⟩
noncomputable def impl_in.env : Env := []
def impl_in.ann : Ann := ⟨[], [], []⟩
theorem impl_in.ok : CtrOk Try.prog 102 impl_in.ctr := fn_sound (A := impl_in.ann) tabOk EnvOk.nil mixed (fn := Try.f102) (body := bodyOf Try.f102) Try.func102 (by kernel_rfl) (by kernel_rfl) (fun x => by kernel_rfl)

def impl_NameOk.sig : Sig := ⟨[.val .str], [.val .bool]⟩
noncomputable def impl_NameOk.ctr : Ctr := ⟨impl_NameOk.sig, fun x => impl_NameOk.f x⟩
noncomputable def impl_NameOk.env : Env := [(102, [impl_in.ctr])]
def impl_NameOk.ann : Ann := ⟨[(0, ([(0, .val .str), (3, .val (.int .i64))], [(.exit 0, [(0, .val .str)]), (.ret, [(2, .val .bool)])]))], [], [(4, [(.normal, [(0, .val .str), (3, .val (.int .i64))]), (.ret, [(2, .val .bool)])])]⟩
theorem impl_NameOk.ok : CtrOk Try.prog 123 impl_NameOk.ctr := fn_sound (A := impl_NameOk.ann) tabOk (EnvOk.cons (ctrs_cons impl_in.ok ctrs_nil) EnvOk.nil) mixed (fn := Try.f123) (body := bodyOf Try.f123) Try.func123 (by kernel_rfl) (by kernel_rfl) (fun x => by kernel_rfl)

def impl_Disk_put.sig : Sig := ⟨[.ptr (.pair (.sl true (.pair .str (.pair .str (.int .i64)))) (.pair (.int .i64) (.pair (.int .i64) .bool))), .val (.pair .str (.pair .str (.int .i64)))], []⟩
noncomputable def impl_Disk_put.ctr : Ctr := ⟨impl_Disk_put.sig, fun x => impl_Disk_put.f x.1 x.2⟩
noncomputable def impl_Disk_put.env : Env := []
def impl_Disk_put.ann : Ann := ⟨[(0, ([(0, .ptr (.pair (.sl true (.pair .str (.pair .str (.int .i64)))) (.pair (.int .i64) (.pair (.int .i64) .bool)))), (3, .ptr (.pair .str (.pair .str (.int .i64)))), (4, .val (.int .i64))], [(.exit 0, [(0, .ptr (.pair (.sl true (.pair .str (.pair .str (.int .i64)))) (.pair (.int .i64) (.pair (.int .i64) .bool)))), (3, .ptr (.pair .str (.pair .str (.int .i64)))), (4, .val (.int .i64))])]))], [], []⟩
theorem impl_Disk_put.ok : CtrOk Try.prog 124 impl_Disk_put.ctr := fn_sound (A := impl_Disk_put.ann) tabOk EnvOk.nil mixed (fn := Try.f124) (body := bodyOf Try.f124) Try.func124 (by kernel_rfl) (by kernel_rfl) (fun x => by kernel_rfl)

def impl_Rename_1.sig : Sig := ⟨[.ptr (.pair (.sl true (.pair .str (.pair .str (.int .i64)))) (.pair (.int .i64) (.pair (.int .i64) .bool))), .val (.box none .str), .val (.box none .str)], [.val (.int .i64)]⟩
noncomputable def impl_Rename_1.ctr : Ctr := ⟨impl_Rename_1.sig, fun x => impl_Rename_1.f x.1 x.2.1 x.2.2⟩
noncomputable def impl_Rename_1.env : Env := [(76, [impl_fileAt.ctr]), (99, [impl_Disk_drop.ctr]), (123, [impl_NameOk.ctr]), (124, [impl_Disk_put.ctr])]
def impl_Rename_1.ann : Ann := ⟨[], [], []⟩
theorem impl_Rename_1.ok : CtrOk Try.prog 131 impl_Rename_1.ctr := fn_sound (A := impl_Rename_1.ann) tabOk (EnvOk.cons (ctrs_cons impl_fileAt.ok ctrs_nil) (EnvOk.cons (ctrs_cons impl_Disk_drop.ok ctrs_nil) (EnvOk.cons (ctrs_cons impl_NameOk.ok ctrs_nil) (EnvOk.cons (ctrs_cons impl_Disk_put.ok ctrs_nil) EnvOk.nil)))) mixed (fn := Try.f131) (body := bodyOf Try.f131) Try.func131 (by kernel_rfl) (by kernel_rfl) (fun x => by kernel_rfl)

def impl_DiskOk.sig : Sig := ⟨[.val (.pair (.sl false (.pair .str (.pair .str (.int .i64)))) (.pair (.int .i64) (.pair (.int .i64) .bool)))], [.val .bool]⟩
noncomputable def impl_DiskOk.ctr : Ctr := ⟨impl_DiskOk.sig, fun x => impl_DiskOk.f x⟩
noncomputable def impl_DiskOk.env : Env := [(102, [impl_in.ctr]), (123, [impl_NameOk.ctr])]
def impl_DiskOk.ann : Ann := ⟨[(0, ([(1, .ptr (.pair (.sl false (.pair .str (.pair .str (.int .i64)))) (.pair (.int .i64) (.pair (.int .i64) .bool)))), (3, .val (.int .i64)), (23, .val (.sl false (.pair .str (.pair .str (.int .i64))))), (24, .val (.int .i64)), (25, .val (.int .i64))], [(.exit 0, [(1, .ptr (.pair (.sl false (.pair .str (.pair .str (.int .i64)))) (.pair (.int .i64) (.pair (.int .i64) .bool)))), (3, .val (.int .i64))]), (.ret, [(2, .val .bool)])]))], [], [(7, [(.normal, [(1, .ptr (.pair (.sl false (.pair .str (.pair .str (.int .i64)))) (.pair (.int .i64) (.pair (.int .i64) .bool)))), (3, .val (.int .i64)), (5, .ptr (.pair .str (.pair .str (.int .i64)))), (23, .val (.sl false (.pair .str (.pair .str (.int .i64))))), (24, .val (.int .i64)), (25, .val (.int .i64))]), (.ret, [(2, .val .bool)])])]⟩
theorem impl_DiskOk.ok : CtrOk Try.prog 135 impl_DiskOk.ctr := fn_sound (A := impl_DiskOk.ann) tabOk (EnvOk.cons (ctrs_cons impl_in.ok ctrs_nil) (EnvOk.cons (ctrs_cons impl_NameOk.ok ctrs_nil) EnvOk.nil)) mixed (fn := Try.f135) (body := bodyOf Try.f135) Try.func135 (by kernel_rfl) (by kernel_rfl) (fun x => by kernel_rfl)

def impl_copyDisk.sig : Sig := ⟨[.val (.pair (.sl false (.pair .str (.pair .str (.int .i64)))) (.pair (.int .i64) (.pair (.int .i64) .bool)))], [.val (.pair (.sl true (.pair .str (.pair .str (.int .i64)))) (.pair (.int .i64) (.pair (.int .i64) .bool)))]⟩
noncomputable def impl_copyDisk.ctr : Ctr := ⟨impl_copyDisk.sig, fun x => impl_copyDisk.f x⟩
noncomputable def impl_copyDisk.env : Env := []
def impl_copyDisk.ann : Ann := ⟨[], [], []⟩
theorem impl_copyDisk.ok : CtrOk Try.prog 139 impl_copyDisk.ctr := fn_sound (A := impl_copyDisk.ann) tabOk EnvOk.nil mixed (fn := Try.f139) (body := bodyOf Try.f139) Try.func139 (by kernel_rfl) (by kernel_rfl) (fun x => by kernel_rfl)

def impl_step_Rename_1.sig : Sig := ⟨[.val (.pair (.sl false (.pair .str (.pair .str (.int .i64)))) (.pair (.int .i64) (.pair (.int .i64) .bool))), .val (.box (some 131) (.pair (.box none .str) (.box none .str)))], [.val (.pair (.sl true (.pair .str (.pair .str (.int .i64)))) (.pair (.int .i64) (.pair (.int .i64) .bool))), .val (.int .i64)]⟩
noncomputable def impl_step_Rename_1.ctr : Ctr := ⟨impl_step_Rename_1.sig, fun x => impl_step_Rename_1.f x.1 x.2⟩
noncomputable def impl_step_Rename_1.env : Env := [(131, [impl_Rename_1.ctr]), (135, [impl_DiskOk.ctr]), (139, [impl_copyDisk.ctr])]
def impl_step_Rename_1.ann : Ann := ⟨[], [], [(7, [(.normal, [(1, .val (.box (some 131) (.pair (.box none .str) (.box none .str)))), (4, .ptr (.pair (.sl true (.pair .str (.pair .str (.int .i64)))) (.pair (.int .i64) (.pair (.int .i64) .bool)))), (6, .ptr (.pair (.sl true (.pair .str (.pair .str (.int .i64)))) (.pair (.int .i64) (.pair (.int .i64) .bool))))])])]⟩
theorem impl_step_Rename_1.ok : CtrOk Try.prog 74 impl_step_Rename_1.ctr := fn_sound (A := impl_step_Rename_1.ann) tabOk (EnvOk.cons (ctrs_cons impl_Rename_1.ok ctrs_nil) (EnvOk.cons (ctrs_cons impl_DiskOk.ok ctrs_nil) (EnvOk.cons (ctrs_cons impl_copyDisk.ok ctrs_nil) EnvOk.nil))) mixed (fn := Try.f74) (body := bodyOf Try.f74) Try.func74 (by kernel_rfl) (by kernel_rfl) (fun x => by kernel_rfl)

def impl_Rename.sig : Sig := ⟨[.val (.pair (.sl false (.pair .str (.pair .str (.int .i64)))) (.pair (.int .i64) (.pair (.int .i64) .bool))), .val .str, .val .str], [.val (.pair (.sl true (.pair .str (.pair .str (.int .i64)))) (.pair (.int .i64) (.pair (.int .i64) .bool))), .val (.int .i64)]⟩
noncomputable def impl_Rename.ctr : Ctr := ⟨impl_Rename.sig, fun x => impl_Rename.f x.1 x.2.1 x.2.2⟩
noncomputable def impl_Rename.env : Env := [(74, [impl_step_Rename_1.ctr])]
def impl_Rename.ann : Ann := ⟨[], [], []⟩
theorem impl_Rename.ok : CtrOk Try.prog 63 impl_Rename.ctr := fn_sound (A := impl_Rename.ann) tabOk (EnvOk.cons (ctrs_cons impl_step_Rename_1.ok ctrs_nil) EnvOk.nil) mixed (fn := Try.f63) (body := bodyOf Try.f63) Try.func63 (by kernel_rfl) (by kernel_rfl) (fun x => by kernel_rfl)

def laws_FnExactRename.sig : Sig := ⟨[.val (.pair (.sl false (.pair .str (.pair .str (.int .i64)))) (.pair (.int .i64) (.pair (.int .i64) .bool))), .val .str, .val .str], [.val .bool]⟩
noncomputable def laws_FnExactRename.ctr : Ctr := ⟨laws_FnExactRename.sig, fun x => laws_FnExactRename.f x.1 x.2.1 x.2.2⟩
noncomputable def laws_FnExactRename.env : Env := [(15, [laws_szDisk.ctr]), (17, [laws_toDisk.ctr]), (19, [laws_eqDisk.ctr]), (20, [laws_markDisk.ctr]), (21, [laws_heldDisk.ctr]), (62, [spec_Rename.ctr]), (63, [impl_Rename.ctr])]
def laws_FnExactRename.ann : Ann := ⟨[], [], []⟩
theorem laws_FnExactRename.ok : CtrOk Try.prog 13 laws_FnExactRename.ctr := fn_sound (A := laws_FnExactRename.ann) tabOk (EnvOk.cons (ctrs_cons laws_szDisk.ok ctrs_nil) (EnvOk.cons (ctrs_cons laws_toDisk.ok ctrs_nil) (EnvOk.cons (ctrs_cons laws_eqDisk.ok ctrs_nil) (EnvOk.cons (ctrs_cons laws_markDisk.ok ctrs_nil) (EnvOk.cons (ctrs_cons laws_heldDisk.ok ctrs_nil) (EnvOk.cons (ctrs_cons spec_Rename.ok ctrs_nil) (EnvOk.cons (ctrs_cons impl_Rename.ok ctrs_nil) EnvOk.nil))))))) mixed (fn := Try.f13) (body := bodyOf Try.f13) Try.func13 (by kernel_rfl) (by kernel_rfl) (fun x => by kernel_rfl)

end Go.Proofs.Ytgjkmdolbkoocaa
