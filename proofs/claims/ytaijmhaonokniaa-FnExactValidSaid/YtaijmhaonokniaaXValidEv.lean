/- Each function of the program that FnExactValid reaches comes to its plain function. -/
import Derived.Test.YtaijmhaonokniaaRfZg
import Derived.Test.YtaijmhaonokniaaFns
import Derived.Test.YtaijmhaonokniaaProg
namespace Go.Proofs.Ytaijmhaonokniaa
open Go Go.Rf Go.Rf.G Go.Proofs
set_option maxRecDepth 100000
def bodyOf (f : Func) : Code := f.body.getD .skip
def tab : Tab := [(3, ⟨(.int .i64), false, [], none, 8, false⟩),
  (4, ⟨.bool, false, [], none, 1, false⟩),
  (9, ⟨.str, false, [], none, 16, false⟩),
  (28, ⟨(.sl true (.pair .str (.pair .bool .str))), false, [], some 109, 24, false⟩),
  (31, ⟨(.sl true (.pair .str (.pair .bool .str))), false, [], some 48, 24, false⟩),
  (48, ⟨(.pair .str (.pair .bool .str)), true, [(0, 1, false), (1, 1, false), (2, 1, false)], none, 40, true⟩),
  (55, ⟨(.sl true (.pair .str (.int .i64))), false, [], some 167, 24, false⟩),
  (57, ⟨(.pair .bool (.pair (.sl true (.pair .str (.int .i64))) (.sl true (.pair .str (.pair .bool .str))))), true, [(0, 1, false), (1, 1, false), (2, 1, false)], none, 56, false⟩),
  (61, ⟨(.sl true (.pair .str (.int .i64))), false, [], some 135, 24, false⟩),
  (63, ⟨(.pair .bool (.pair (.sl true (.pair .str (.int .i64))) (.sl true (.pair .str (.pair .bool .str))))), true, [(0, 1, false), (1, 1, false), (2, 1, false)], none, 56, false⟩),
  (97, ⟨(.sl true (.pair .str (.pair (.int .i64) (.pair (.int .i64) (.pair (.int .i64) (.int .i64)))))), false, [], some 152, 24, false⟩),
  (100, ⟨(.sl true (.pair .str (.pair (.int .i64) (.pair (.int .i64) (.pair (.int .i64) (.int .i64)))))), false, [], some 153, 24, false⟩),
  (109, ⟨(.pair .str (.pair .bool .str)), true, [(0, 1, false), (1, 1, false), (2, 1, false)], none, 40, true⟩),
  (135, ⟨(.pair .str (.int .i64)), true, [(0, 1, false), (1, 1, false)], none, 24, true⟩),
  (152, ⟨(.pair .str (.pair (.int .i64) (.pair (.int .i64) (.pair (.int .i64) (.int .i64))))), true, [(0, 1, false), (1, 1, false), (2, 1, false), (3, 1, false), (4, 1, false)], none, 48, true⟩),
  (153, ⟨(.pair .str (.pair (.int .i64) (.pair (.int .i64) (.pair (.int .i64) (.int .i64))))), true, [(0, 1, false), (1, 1, false), (2, 1, false), (3, 1, false), (4, 1, false)], none, 48, true⟩),
  (167, ⟨(.pair .str (.int .i64)), true, [(0, 1, false), (1, 1, false)], none, 24, true⟩)]
theorem tabOk : TabOk Try.prog tab := Rf.tabOk (by kernel_rfl)
theorem mixed : Try.prog.follows .mixedOrders = true := by kernel_rfl
def laws_szPut.sig : Sig := ⟨[.val (.pair .str (.pair .bool .str)), .val (.int .i64)], [.val (.int .i64)]⟩
noncomputable def laws_szPut.ctr : Ctr := ⟨laws_szPut.sig, fun x => laws_szPut.f x.1 x.2⟩
noncomputable def laws_szPut.env : Env := []
def laws_szPut.ann : Ann := ⟨[], [], []⟩
theorem laws_szPut.ok : CtrOk Try.prog 71 laws_szPut.ctr := fn_sound (A := laws_szPut.ann) tabOk EnvOk.nil mixed (fn := Try.f71) (body := bodyOf Try.f71) Try.func71 (by kernel_rfl) (by kernel_rfl) (fun x => by kernel_rfl)

def laws_szPutS.sig : Sig := ⟨[.val (.sl false (.pair .str (.pair .bool .str))), .val (.int .i64)], [.val (.int .i64)]⟩
noncomputable def laws_szPutS.ctr : Ctr := ⟨laws_szPutS.sig, fun x => laws_szPutS.f x.1 x.2⟩
noncomputable def laws_szPutS.env : Env := [(71, [laws_szPut.ctr])]
def laws_szPutS.ann : Ann := ⟨[(0, ([(0, .val (.sl false (.pair .str (.pair .bool .str)))), (1, .val (.int .i64)), (5, .val (.int .i64))], [(.exit 0, [(1, .val (.int .i64))]), (.ret, [(4, .val (.int .i64))])]))], [], []⟩
theorem laws_szPutS.ok : CtrOk Try.prog 19 laws_szPutS.ctr := fn_sound (A := laws_szPutS.ann) tabOk (EnvOk.cons (ctrs_cons laws_szPut.ok ctrs_nil) EnvOk.nil) mixed (fn := Try.f19) (body := bodyOf Try.f19) Try.func19 (by kernel_rfl) (by kernel_rfl) (fun x => by kernel_rfl)

def laws_szReadRow.sig : Sig := ⟨[.val (.pair .str (.int .i64)), .val (.int .i64)], [.val (.int .i64)]⟩
noncomputable def laws_szReadRow.ctr : Ctr := ⟨laws_szReadRow.sig, fun x => laws_szReadRow.f x.1 x.2⟩
noncomputable def laws_szReadRow.env : Env := []
def laws_szReadRow.ann : Ann := ⟨[], [], []⟩
theorem laws_szReadRow.ok : CtrOk Try.prog 122 laws_szReadRow.ctr := fn_sound (A := laws_szReadRow.ann) tabOk EnvOk.nil mixed (fn := Try.f122) (body := bodyOf Try.f122) Try.func122 (by kernel_rfl) (by kernel_rfl) (fun x => by kernel_rfl)

def laws_szReadRowS.sig : Sig := ⟨[.val (.sl false (.pair .str (.int .i64))), .val (.int .i64)], [.val (.int .i64)]⟩
noncomputable def laws_szReadRowS.ctr : Ctr := ⟨laws_szReadRowS.sig, fun x => laws_szReadRowS.f x.1 x.2⟩
noncomputable def laws_szReadRowS.env : Env := [(122, [laws_szReadRow.ctr])]
def laws_szReadRowS.ann : Ann := ⟨[(0, ([(0, .val (.sl false (.pair .str (.int .i64)))), (1, .val (.int .i64)), (5, .val (.int .i64))], [(.exit 0, [(1, .val (.int .i64))]), (.ret, [(4, .val (.int .i64))])]))], [], []⟩
theorem laws_szReadRowS.ok : CtrOk Try.prog 85 laws_szReadRowS.ctr := fn_sound (A := laws_szReadRowS.ann) tabOk (EnvOk.cons (ctrs_cons laws_szReadRow.ok ctrs_nil) EnvOk.nil) mixed (fn := Try.f85) (body := bodyOf Try.f85) Try.func85 (by kernel_rfl) (by kernel_rfl) (fun x => by kernel_rfl)

def laws_szTxn.sig : Sig := ⟨[.val (.pair .bool (.pair (.sl false (.pair .str (.int .i64))) (.sl false (.pair .str (.pair .bool .str))))), .val (.int .i64)], [.val (.int .i64)]⟩
noncomputable def laws_szTxn.ctr : Ctr := ⟨laws_szTxn.sig, fun x => laws_szTxn.f x.1 x.2⟩
noncomputable def laws_szTxn.env : Env := [(19, [laws_szPutS.ctr]), (85, [laws_szReadRowS.ctr])]
def laws_szTxn.ann : Ann := ⟨[], [], []⟩
theorem laws_szTxn.ok : CtrOk Try.prog 34 laws_szTxn.ctr := fn_sound (A := laws_szTxn.ann) tabOk (EnvOk.cons (ctrs_cons laws_szPutS.ok ctrs_nil) (EnvOk.cons (ctrs_cons laws_szReadRowS.ok ctrs_nil) EnvOk.nil)) mixed (fn := Try.f34) (body := bodyOf Try.f34) Try.func34 (by kernel_rfl) (by kernel_rfl) (fun x => by kernel_rfl)

def laws_toPut.sig : Sig := ⟨[.val (.pair .str (.pair .bool .str))], [.val (.pair .str (.pair .bool .str))]⟩
noncomputable def laws_toPut.ctr : Ctr := ⟨laws_toPut.sig, fun x => laws_toPut.f x⟩
noncomputable def laws_toPut.env : Env := []
def laws_toPut.ann : Ann := ⟨[], [], []⟩
theorem laws_toPut.ok : CtrOk Try.prog 73 laws_toPut.ctr := fn_sound (A := laws_toPut.ann) tabOk EnvOk.nil mixed (fn := Try.f73) (body := bodyOf Try.f73) Try.func73 (by kernel_rfl) (by kernel_rfl) (fun x => by kernel_rfl)

def laws_toPutS.sig : Sig := ⟨[.val (.sl false (.pair .str (.pair .bool .str)))], [.val (.sl true (.pair .str (.pair .bool .str)))]⟩
noncomputable def laws_toPutS.ctr : Ctr := ⟨laws_toPutS.sig, fun x => laws_toPutS.f x⟩
noncomputable def laws_toPutS.env : Env := [(73, [laws_toPut.ctr])]
def laws_toPutS.ann : Ann := ⟨[(0, ([(0, .val (.sl false (.pair .str (.pair .bool .str)))), (3, .val (.sl true (.pair .str (.pair .bool .str)))), (4, .val (.int .i64))], [(.exit 0, [(3, .val (.sl true (.pair .str (.pair .bool .str))))])]))], [], []⟩
theorem laws_toPutS.ok : CtrOk Try.prog 21 laws_toPutS.ctr := fn_sound (A := laws_toPutS.ann) tabOk (EnvOk.cons (ctrs_cons laws_toPut.ok ctrs_nil) EnvOk.nil) mixed (fn := Try.f21) (body := bodyOf Try.f21) Try.func21 (by kernel_rfl) (by kernel_rfl) (fun x => by kernel_rfl)

def laws_toReadRow.sig : Sig := ⟨[.val (.pair .str (.int .i64))], [.val (.pair .str (.int .i64))]⟩
noncomputable def laws_toReadRow.ctr : Ctr := ⟨laws_toReadRow.sig, fun x => laws_toReadRow.f x⟩
noncomputable def laws_toReadRow.env : Env := []
def laws_toReadRow.ann : Ann := ⟨[], [], []⟩
theorem laws_toReadRow.ok : CtrOk Try.prog 123 laws_toReadRow.ctr := fn_sound (A := laws_toReadRow.ann) tabOk EnvOk.nil mixed (fn := Try.f123) (body := bodyOf Try.f123) Try.func123 (by kernel_rfl) (by kernel_rfl) (fun x => by kernel_rfl)

def laws_toReadRowS.sig : Sig := ⟨[.val (.sl false (.pair .str (.int .i64)))], [.val (.sl true (.pair .str (.int .i64)))]⟩
noncomputable def laws_toReadRowS.ctr : Ctr := ⟨laws_toReadRowS.sig, fun x => laws_toReadRowS.f x⟩
noncomputable def laws_toReadRowS.env : Env := [(123, [laws_toReadRow.ctr])]
def laws_toReadRowS.ann : Ann := ⟨[(0, ([(0, .val (.sl false (.pair .str (.int .i64)))), (3, .val (.sl true (.pair .str (.int .i64)))), (4, .val (.int .i64))], [(.exit 0, [(3, .val (.sl true (.pair .str (.int .i64))))])]))], [], []⟩
theorem laws_toReadRowS.ok : CtrOk Try.prog 86 laws_toReadRowS.ctr := fn_sound (A := laws_toReadRowS.ann) tabOk (EnvOk.cons (ctrs_cons laws_toReadRow.ok ctrs_nil) EnvOk.nil) mixed (fn := Try.f86) (body := bodyOf Try.f86) Try.func86 (by kernel_rfl) (by kernel_rfl) (fun x => by kernel_rfl)

def laws_toTxn.sig : Sig := ⟨[.val (.pair .bool (.pair (.sl false (.pair .str (.int .i64))) (.sl false (.pair .str (.pair .bool .str)))))], [.val (.pair .bool (.pair (.sl true (.pair .str (.int .i64))) (.sl true (.pair .str (.pair .bool .str)))))]⟩
noncomputable def laws_toTxn.ctr : Ctr := ⟨laws_toTxn.sig, fun x => laws_toTxn.f x⟩
noncomputable def laws_toTxn.env : Env := [(21, [laws_toPutS.ctr]), (86, [laws_toReadRowS.ctr])]
def laws_toTxn.ann : Ann := ⟨[], [], []⟩
theorem laws_toTxn.ok : CtrOk Try.prog 36 laws_toTxn.ctr := fn_sound (A := laws_toTxn.ann) tabOk (EnvOk.cons (ctrs_cons laws_toPutS.ok ctrs_nil) (EnvOk.cons (ctrs_cons laws_toReadRowS.ok ctrs_nil) EnvOk.nil)) mixed (fn := Try.f36) (body := bodyOf Try.f36) Try.func36 (by kernel_rfl) (by kernel_rfl) (fun x => by kernel_rfl)

def laws_eqPut.sig : Sig := ⟨[.val (.pair .str (.pair .bool .str)), .val (.pair .str (.pair .bool .str))], [.val .bool]⟩
noncomputable def laws_eqPut.ctr : Ctr := ⟨laws_eqPut.sig, fun x => laws_eqPut.f x.1 x.2⟩
noncomputable def laws_eqPut.env : Env := []
def laws_eqPut.ann : Ann := ⟨[], [], []⟩
theorem laws_eqPut.ok : CtrOk Try.prog 38 laws_eqPut.ctr := fn_sound (A := laws_eqPut.ann) tabOk EnvOk.nil mixed (fn := Try.f38) (body := bodyOf Try.f38) Try.func38 (by kernel_rfl) (by kernel_rfl) (fun x => by kernel_rfl)

def laws_eqPutS.sig : Sig := ⟨[.val (.sl false (.pair .str (.pair .bool .str))), .val (.sl false (.pair .str (.pair .bool .str)))], [.val .bool]⟩
noncomputable def laws_eqPutS.ctr : Ctr := ⟨laws_eqPutS.sig, fun x => laws_eqPutS.f x.1 x.2⟩
noncomputable def laws_eqPutS.env : Env := [(38, [laws_eqPut.ctr])]
def laws_eqPutS.ann : Ann := ⟨[(0, ([(0, .val (.sl false (.pair .str (.pair .bool .str)))), (1, .val (.sl false (.pair .str (.pair .bool .str)))), (5, .val (.int .i64))], [(.exit 0, []), (.ret, [(4, .val .bool)])]))], [], []⟩
theorem laws_eqPutS.ok : CtrOk Try.prog 23 laws_eqPutS.ctr := fn_sound (A := laws_eqPutS.ann) tabOk (EnvOk.cons (ctrs_cons laws_eqPut.ok ctrs_nil) EnvOk.nil) mixed (fn := Try.f23) (body := bodyOf Try.f23) Try.func23 (by kernel_rfl) (by kernel_rfl) (fun x => by kernel_rfl)

def laws_eqReadRow.sig : Sig := ⟨[.val (.pair .str (.int .i64)), .val (.pair .str (.int .i64))], [.val .bool]⟩
noncomputable def laws_eqReadRow.ctr : Ctr := ⟨laws_eqReadRow.sig, fun x => laws_eqReadRow.f x.1 x.2⟩
noncomputable def laws_eqReadRow.env : Env := []
def laws_eqReadRow.ann : Ann := ⟨[], [], []⟩
theorem laws_eqReadRow.ok : CtrOk Try.prog 124 laws_eqReadRow.ctr := fn_sound (A := laws_eqReadRow.ann) tabOk EnvOk.nil mixed (fn := Try.f124) (body := bodyOf Try.f124) Try.func124 (by kernel_rfl) (by kernel_rfl) (fun x => by kernel_rfl)

def laws_eqReadRowS.sig : Sig := ⟨[.val (.sl false (.pair .str (.int .i64))), .val (.sl false (.pair .str (.int .i64)))], [.val .bool]⟩
noncomputable def laws_eqReadRowS.ctr : Ctr := ⟨laws_eqReadRowS.sig, fun x => laws_eqReadRowS.f x.1 x.2⟩
noncomputable def laws_eqReadRowS.env : Env := [(124, [laws_eqReadRow.ctr])]
def laws_eqReadRowS.ann : Ann := ⟨[(0, ([(0, .val (.sl false (.pair .str (.int .i64)))), (1, .val (.sl false (.pair .str (.int .i64)))), (5, .val (.int .i64))], [(.exit 0, []), (.ret, [(4, .val .bool)])]))], [], []⟩
theorem laws_eqReadRowS.ok : CtrOk Try.prog 87 laws_eqReadRowS.ctr := fn_sound (A := laws_eqReadRowS.ann) tabOk (EnvOk.cons (ctrs_cons laws_eqReadRow.ok ctrs_nil) EnvOk.nil) mixed (fn := Try.f87) (body := bodyOf Try.f87) Try.func87 (by kernel_rfl) (by kernel_rfl) (fun x => by kernel_rfl)

def laws_eqTxn.sig : Sig := ⟨[.val (.pair .bool (.pair (.sl false (.pair .str (.int .i64))) (.sl false (.pair .str (.pair .bool .str))))), .val (.pair .bool (.pair (.sl false (.pair .str (.int .i64))) (.sl false (.pair .str (.pair .bool .str)))))], [.val .bool]⟩
noncomputable def laws_eqTxn.ctr : Ctr := ⟨laws_eqTxn.sig, fun x => laws_eqTxn.f x.1 x.2⟩
noncomputable def laws_eqTxn.env : Env := [(23, [laws_eqPutS.ctr]), (87, [laws_eqReadRowS.ctr])]
def laws_eqTxn.ann : Ann := ⟨[], [], []⟩
theorem laws_eqTxn.ok : CtrOk Try.prog 39 laws_eqTxn.ctr := fn_sound (A := laws_eqTxn.ann) tabOk (EnvOk.cons (ctrs_cons laws_eqPutS.ok ctrs_nil) (EnvOk.cons (ctrs_cons laws_eqReadRowS.ok ctrs_nil) EnvOk.nil)) mixed (fn := Try.f39) (body := bodyOf Try.f39) Try.func39 (by kernel_rfl) (by kernel_rfl) (fun x => by kernel_rfl)

def laws_szEntry.sig : Sig := ⟨[.val (.pair .str (.pair (.int .i64) (.pair (.int .i64) (.pair (.int .i64) (.int .i64))))), .val (.int .i64)], [.val (.int .i64)]⟩
noncomputable def laws_szEntry.ctr : Ctr := ⟨laws_szEntry.sig, fun x => laws_szEntry.f x.1 x.2⟩
noncomputable def laws_szEntry.env : Env := []
def laws_szEntry.ann : Ann := ⟨[], [], []⟩
theorem laws_szEntry.ok : CtrOk Try.prog 111 laws_szEntry.ctr := fn_sound (A := laws_szEntry.ann) tabOk EnvOk.nil mixed (fn := Try.f111) (body := bodyOf Try.f111) Try.func111 (by kernel_rfl) (by kernel_rfl) (fun x => by kernel_rfl)

def laws_szEntryS.sig : Sig := ⟨[.val (.sl false (.pair .str (.pair (.int .i64) (.pair (.int .i64) (.pair (.int .i64) (.int .i64)))))), .val (.int .i64)], [.val (.int .i64)]⟩
noncomputable def laws_szEntryS.ctr : Ctr := ⟨laws_szEntryS.sig, fun x => laws_szEntryS.f x.1 x.2⟩
noncomputable def laws_szEntryS.env : Env := [(111, [laws_szEntry.ctr])]
def laws_szEntryS.ann : Ann := ⟨[(0, ([(0, .val (.sl false (.pair .str (.pair (.int .i64) (.pair (.int .i64) (.pair (.int .i64) (.int .i64))))))), (1, .val (.int .i64)), (5, .val (.int .i64))], [(.exit 0, [(1, .val (.int .i64))]), (.ret, [(4, .val (.int .i64))])]))], [], []⟩
theorem laws_szEntryS.ok : CtrOk Try.prog 63 laws_szEntryS.ctr := fn_sound (A := laws_szEntryS.ann) tabOk (EnvOk.cons (ctrs_cons laws_szEntry.ok ctrs_nil) EnvOk.nil) mixed (fn := Try.f63) (body := bodyOf Try.f63) Try.func63 (by kernel_rfl) (by kernel_rfl) (fun x => by kernel_rfl)

def spec_DirGet.sig : Sig := ⟨[.val (.sl false (.pair .str (.pair (.int .i64) (.pair (.int .i64) (.pair (.int .i64) (.int .i64)))))), .val .str], [.val (.pair .str (.pair (.int .i64) (.pair (.int .i64) (.pair (.int .i64) (.int .i64))))), .val .bool]⟩
noncomputable def spec_DirGet.ctr : Ctr := ⟨spec_DirGet.sig, fun x => spec_DirGet.f x.1 x.2⟩
noncomputable def spec_DirGet.env : Env := []
def spec_DirGet.ann : Ann := ⟨[(0, ([(0, .val (.sl false (.pair .str (.pair (.int .i64) (.pair (.int .i64) (.pair (.int .i64) (.int .i64))))))), (1, .val .str), (4, .ptr (.pair .str (.pair (.int .i64) (.pair (.int .i64) (.pair (.int .i64) (.int .i64)))))), (6, .val (.int .i64))], [(.exit 0, [(4, .ptr (.pair .str (.pair (.int .i64) (.pair (.int .i64) (.pair (.int .i64) (.int .i64))))))]), (.ret, [(4, .ptr (.pair .str (.pair (.int .i64) (.pair (.int .i64) (.pair (.int .i64) (.int .i64)))))), (5, .val .bool)])]))], [], []⟩
theorem spec_DirGet.ok : CtrOk Try.prog 112 spec_DirGet.ctr := fn_sound (A := spec_DirGet.ann) tabOk EnvOk.nil mixed (fn := Try.f112) (body := bodyOf Try.f112) Try.func112 (by kernel_rfl) (by kernel_rfl) (fun x => by kernel_rfl)

def spec_Valid.sig : Sig := ⟨[.val (.pair .bool (.pair (.sl false (.pair .str (.int .i64))) (.sl false (.pair .str (.pair .bool .str))))), .val (.sl false (.pair .str (.pair (.int .i64) (.pair (.int .i64) (.pair (.int .i64) (.int .i64))))))], [.val .bool]⟩
noncomputable def spec_Valid.ctr : Ctr := ⟨spec_Valid.sig, fun x => spec_Valid.f x.1 x.2⟩
noncomputable def spec_Valid.env : Env := [(112, [spec_DirGet.ctr])]
def spec_Valid.ann : Ann := ⟨[(0, ([(1, .val (.sl false (.pair .str (.pair (.int .i64) (.pair (.int .i64) (.pair (.int .i64) (.int .i64))))))), (2, .ptr (.pair .bool (.pair (.sl false (.pair .str (.int .i64))) (.sl false (.pair .str (.pair .bool .str)))))), (5, .val (.int .i64))], [(.exit 0, []), (.ret, [(4, .val .bool)])]))], [], []⟩
theorem spec_Valid.ok : CtrOk Try.prog 64 spec_Valid.ctr := fn_sound (A := spec_Valid.ann) tabOk (EnvOk.cons (ctrs_cons spec_DirGet.ok ctrs_nil) EnvOk.nil) mixed (fn := Try.f64) (body := bodyOf Try.f64) Try.func64 (by kernel_rfl) (by kernel_rfl) (fun x => by kernel_rfl)

def laws_toEntry.sig : Sig := ⟨[.val (.pair .str (.pair (.int .i64) (.pair (.int .i64) (.pair (.int .i64) (.int .i64)))))], [.val (.pair .str (.pair (.int .i64) (.pair (.int .i64) (.pair (.int .i64) (.int .i64)))))]⟩
noncomputable def laws_toEntry.ctr : Ctr := ⟨laws_toEntry.sig, fun x => laws_toEntry.f x⟩
noncomputable def laws_toEntry.env : Env := []
def laws_toEntry.ann : Ann := ⟨[], [], []⟩
theorem laws_toEntry.ok : CtrOk Try.prog 113 laws_toEntry.ctr := fn_sound (A := laws_toEntry.ann) tabOk EnvOk.nil mixed (fn := Try.f113) (body := bodyOf Try.f113) Try.func113 (by kernel_rfl) (by kernel_rfl) (fun x => by kernel_rfl)

def laws_toEntryS.sig : Sig := ⟨[.val (.sl false (.pair .str (.pair (.int .i64) (.pair (.int .i64) (.pair (.int .i64) (.int .i64))))))], [.val (.sl true (.pair .str (.pair (.int .i64) (.pair (.int .i64) (.pair (.int .i64) (.int .i64))))))]⟩
noncomputable def laws_toEntryS.ctr : Ctr := ⟨laws_toEntryS.sig, fun x => laws_toEntryS.f x⟩
noncomputable def laws_toEntryS.env : Env := [(113, [laws_toEntry.ctr])]
def laws_toEntryS.ann : Ann := ⟨[(0, ([(0, .val (.sl false (.pair .str (.pair (.int .i64) (.pair (.int .i64) (.pair (.int .i64) (.int .i64))))))), (3, .val (.sl true (.pair .str (.pair (.int .i64) (.pair (.int .i64) (.pair (.int .i64) (.int .i64))))))), (4, .val (.int .i64))], [(.exit 0, [(3, .val (.sl true (.pair .str (.pair (.int .i64) (.pair (.int .i64) (.pair (.int .i64) (.int .i64)))))))])]))], [], []⟩
theorem laws_toEntryS.ok : CtrOk Try.prog 65 laws_toEntryS.ctr := fn_sound (A := laws_toEntryS.ann) tabOk (EnvOk.cons (ctrs_cons laws_toEntry.ok ctrs_nil) EnvOk.nil) mixed (fn := Try.f65) (body := bodyOf Try.f65) Try.func65 (by kernel_rfl) (by kernel_rfl) (fun x => by kernel_rfl)

def impl_DirGet.sig : Sig := ⟨[.val (.sl false (.pair .str (.pair (.int .i64) (.pair (.int .i64) (.pair (.int .i64) (.int .i64)))))), .val .str], [.val (.pair .str (.pair (.int .i64) (.pair (.int .i64) (.pair (.int .i64) (.int .i64))))), .val .bool]⟩
noncomputable def impl_DirGet.ctr : Ctr := ⟨impl_DirGet.sig, fun x => impl_DirGet.f x.1 x.2⟩
noncomputable def impl_DirGet.env : Env := []
def impl_DirGet.ann : Ann := ⟨[(0, ([(1, .val .str), (4, .ptr (.pair .str (.pair (.int .i64) (.pair (.int .i64) (.pair (.int .i64) (.int .i64)))))), (8, .val (.sl false (.pair .str (.pair (.int .i64) (.pair (.int .i64) (.pair (.int .i64) (.int .i64))))))), (9, .val (.int .i64)), (10, .val (.int .i64))], [(.exit 0, [(4, .ptr (.pair .str (.pair (.int .i64) (.pair (.int .i64) (.pair (.int .i64) (.int .i64))))))]), (.ret, [(4, .ptr (.pair .str (.pair (.int .i64) (.pair (.int .i64) (.pair (.int .i64) (.int .i64)))))), (5, .val .bool)])]))], [], []⟩
theorem impl_DirGet.ok : CtrOk Try.prog 114 impl_DirGet.ctr := fn_sound (A := impl_DirGet.ann) tabOk EnvOk.nil mixed (fn := Try.f114) (body := bodyOf Try.f114) Try.func114 (by kernel_rfl) (by kernel_rfl) (fun x => by kernel_rfl)

def impl_Valid.sig : Sig := ⟨[.val (.pair .bool (.pair (.sl false (.pair .str (.int .i64))) (.sl false (.pair .str (.pair .bool .str))))), .val (.sl false (.pair .str (.pair (.int .i64) (.pair (.int .i64) (.pair (.int .i64) (.int .i64))))))], [.val .bool]⟩
noncomputable def impl_Valid.ctr : Ctr := ⟨impl_Valid.sig, fun x => impl_Valid.f x.1 x.2⟩
noncomputable def impl_Valid.env : Env := [(114, [impl_DirGet.ctr])]
def impl_Valid.ann : Ann := ⟨[(0, ([(1, .val (.sl false (.pair .str (.pair (.int .i64) (.pair (.int .i64) (.pair (.int .i64) (.int .i64))))))), (10, .val (.sl false (.pair .str (.int .i64)))), (11, .val (.int .i64)), (12, .val (.int .i64))], [(.exit 0, []), (.ret, [(4, .val .bool)])]))], [], []⟩
theorem impl_Valid.ok : CtrOk Try.prog 66 impl_Valid.ctr := fn_sound (A := impl_Valid.ann) tabOk (EnvOk.cons (ctrs_cons impl_DirGet.ok ctrs_nil) EnvOk.nil) mixed (fn := Try.f66) (body := bodyOf Try.f66) Try.func66 (by kernel_rfl) (by kernel_rfl) (fun x => by kernel_rfl)

def laws_eqEntry.sig : Sig := ⟨[.val (.pair .str (.pair (.int .i64) (.pair (.int .i64) (.pair (.int .i64) (.int .i64))))), .val (.pair .str (.pair (.int .i64) (.pair (.int .i64) (.pair (.int .i64) (.int .i64)))))], [.val .bool]⟩
noncomputable def laws_eqEntry.ctr : Ctr := ⟨laws_eqEntry.sig, fun x => laws_eqEntry.f x.1 x.2⟩
noncomputable def laws_eqEntry.env : Env := []
def laws_eqEntry.ann : Ann := ⟨[], [], []⟩
theorem laws_eqEntry.ok : CtrOk Try.prog 115 laws_eqEntry.ctr := fn_sound (A := laws_eqEntry.ann) tabOk EnvOk.nil mixed (fn := Try.f115) (body := bodyOf Try.f115) Try.func115 (by kernel_rfl) (by kernel_rfl) (fun x => by kernel_rfl)

def laws_eqEntryS.sig : Sig := ⟨[.val (.sl false (.pair .str (.pair (.int .i64) (.pair (.int .i64) (.pair (.int .i64) (.int .i64)))))), .val (.sl false (.pair .str (.pair (.int .i64) (.pair (.int .i64) (.pair (.int .i64) (.int .i64))))))], [.val .bool]⟩
noncomputable def laws_eqEntryS.ctr : Ctr := ⟨laws_eqEntryS.sig, fun x => laws_eqEntryS.f x.1 x.2⟩
noncomputable def laws_eqEntryS.env : Env := [(115, [laws_eqEntry.ctr])]
def laws_eqEntryS.ann : Ann := ⟨[(0, ([(0, .val (.sl false (.pair .str (.pair (.int .i64) (.pair (.int .i64) (.pair (.int .i64) (.int .i64))))))), (1, .val (.sl false (.pair .str (.pair (.int .i64) (.pair (.int .i64) (.pair (.int .i64) (.int .i64))))))), (5, .val (.int .i64))], [(.exit 0, []), (.ret, [(4, .val .bool)])]))], [], []⟩
theorem laws_eqEntryS.ok : CtrOk Try.prog 67 laws_eqEntryS.ctr := fn_sound (A := laws_eqEntryS.ann) tabOk (EnvOk.cons (ctrs_cons laws_eqEntry.ok ctrs_nil) EnvOk.nil) mixed (fn := Try.f67) (body := bodyOf Try.f67) Try.func67 (by kernel_rfl) (by kernel_rfl) (fun x => by kernel_rfl)

def laws_FnExactValid.sig : Sig := ⟨[.val (.pair .bool (.pair (.sl false (.pair .str (.int .i64))) (.sl false (.pair .str (.pair .bool .str))))), .val (.sl false (.pair .str (.pair (.int .i64) (.pair (.int .i64) (.pair (.int .i64) (.int .i64))))))], [.val .bool]⟩
noncomputable def laws_FnExactValid.ctr : Ctr := ⟨laws_FnExactValid.sig, fun x => laws_FnExactValid.f x.1 x.2⟩
noncomputable def laws_FnExactValid.env : Env := [(34, [laws_szTxn.ctr]), (36, [laws_toTxn.ctr]), (39, [laws_eqTxn.ctr]), (63, [laws_szEntryS.ctr]), (64, [spec_Valid.ctr]), (65, [laws_toEntryS.ctr]), (66, [impl_Valid.ctr]), (67, [laws_eqEntryS.ctr])]
def laws_FnExactValid.ann : Ann := ⟨[], [], []⟩
theorem laws_FnExactValid.ok : CtrOk Try.prog 13 laws_FnExactValid.ctr := fn_sound (A := laws_FnExactValid.ann) tabOk (EnvOk.cons (ctrs_cons laws_szTxn.ok ctrs_nil) (EnvOk.cons (ctrs_cons laws_toTxn.ok ctrs_nil) (EnvOk.cons (ctrs_cons laws_eqTxn.ok ctrs_nil) (EnvOk.cons (ctrs_cons laws_szEntryS.ok ctrs_nil) (EnvOk.cons (ctrs_cons spec_Valid.ok ctrs_nil) (EnvOk.cons (ctrs_cons laws_toEntryS.ok ctrs_nil) (EnvOk.cons (ctrs_cons impl_Valid.ok ctrs_nil) (EnvOk.cons (ctrs_cons laws_eqEntryS.ok ctrs_nil) EnvOk.nil)))))))) mixed (fn := Try.f13) (body := bodyOf Try.f13) Try.func13 (by kernel_rfl) (by kernel_rfl) (fun x => by kernel_rfl)

end Go.Proofs.Ytaijmhaonokniaa
