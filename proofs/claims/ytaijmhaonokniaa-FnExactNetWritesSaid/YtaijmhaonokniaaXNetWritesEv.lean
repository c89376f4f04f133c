/- Each function of the program that FnExactNetWrites reaches comes to its plain function. -/
import Derived.Test.YtaijmhaonokniaaRfZg
import Derived.Test.YtaijmhaonokniaaFns
import Derived.Test.YtaijmhaonokniaaProg
namespace Go.Proofs.Ytaijmhaonokniaa
open Go Go.Rf Go.Rf.G Go.Proofs
set_option maxRecDepth 100000
def bodyOf (f : Func) : Code := f.body.getD .skip
def tab : Tab := [(3, ⟨(.int .i64), false, [], none, 8, false⟩),
  (4, ⟨.bool, false, [], none, 1, false⟩),
  (5, ⟨(.int .u8), false, [], none, 1, false⟩),
  (9, ⟨.str, false, [], none, 16, false⟩),
  (28, ⟨(.sl true (.pair .str (.pair .bool .str))), false, [], some 109, 24, false⟩),
  (31, ⟨(.sl true (.pair .str (.pair .bool .str))), false, [], some 48, 24, false⟩),
  (41, ⟨(.sl true (.int .u8)), false, [], some 5, 24, false⟩),
  (48, ⟨(.pair .str (.pair .bool .str)), true, [(0, 1, false), (1, 1, false), (2, 1, false)], none, 40, true⟩),
  (55, ⟨(.sl true (.pair .str (.int .i64))), false, [], some 167, 24, false⟩),
  (57, ⟨(.pair .bool (.pair (.sl true (.pair .str (.int .i64))) (.sl true (.pair .str (.pair .bool .str))))), true, [(0, 1, false), (1, 1, false), (2, 1, false)], none, 56, false⟩),
  (61, ⟨(.sl true (.pair .str (.int .i64))), false, [], some 135, 24, false⟩),
  (63, ⟨(.pair .bool (.pair (.sl true (.pair .str (.int .i64))) (.sl true (.pair .str (.pair .bool .str))))), true, [(0, 1, false), (1, 1, false), (2, 1, false)], none, 56, false⟩),
  (109, ⟨(.pair .str (.pair .bool .str)), true, [(0, 1, false), (1, 1, false), (2, 1, false)], none, 40, true⟩),
  (135, ⟨(.pair .str (.int .i64)), true, [(0, 1, false), (1, 1, false)], none, 24, true⟩),
  (167, ⟨(.pair .str (.int .i64)), true, [(0, 1, false), (1, 1, false)], none, 24, true⟩)]
theorem tabOk : TabOk Try.prog tab := Rf.tabOk (by kernel_rfl)
theorem mixed : Try.prog.follows .mixedOrders = true := by kernel_rfl
def laws_eqPut.sig : Sig := ⟨[.val (.pair .str (.pair .bool .str)), .val (.pair .str (.pair .bool .str))], [.val .bool]⟩
noncomputable def laws_eqPut.ctr : Ctr := ⟨laws_eqPut.sig, fun x => laws_eqPut.f x.1 x.2⟩
noncomputable def laws_eqPut.env : Env := []
def laws_eqPut.ann : Ann := ⟨[], [], []⟩
theorem laws_eqPut.ok : CtrOk Try.prog 38 laws_eqPut.ctr := fn_sound (A := laws_eqPut.ann) tabOk EnvOk.nil mixed (fn := Try.f38) (body := bodyOf Try.f38) Try.func38 (by kernel_rfl) (by kernel_rfl) (fun x => by kernel_rfl)

def laws_eqPutS.sig : Sig := ⟨[.val (.sl false (.pair .str (.pair .bool .str))), .val (.sl false (.pair .str (.pair .bool .str)))], [.val .bool]⟩
noncomputable def laws_eqPutS.ctr : Ctr := ⟨laws_eqPutS.sig, fun x => laws_eqPutS.f x.1 x.2⟩
noncomputable def laws_eqPutS.env : Env := [(38, [laws_eqPut.ctr])]
def laws_eqPutS.ann : Ann := ⟨[(0, ([(0, .val (.sl false (.pair .str (.pair .bool .str)))), (1, .val (.sl false (.pair .str (.pair .bool .str)))), (5, .val (.int .i64))], [(.exit 0, []), (.ret, [(4, .val .bool)])]))], [], []⟩
theorem laws_eqPutS.ok : CtrOk Try.prog 23 laws_eqPutS.ctr := fn_sound (A := laws_eqPutS.ann) tabOk (EnvOk.cons (ctrs_cons laws_eqPut.ok ctrs_nil) EnvOk.nil) mixed (fn := Try.f23) (body := bodyOf Try.f23) Try.func23 (by kernel_rfl) (by kernel_rfl) (fun x => by kernel_rfl)

def laws_szPut.sig : Sig := ⟨[.val (.pair .str (.pair .bool .str)), .val (.int .i64)], [.val (.int .i64)]⟩
noncomputable def laws_szPut.ctr : Ctr := ⟨laws_szPut.sig, fun x => laws_szPut.f x.1 x.2⟩
noncomputable def laws_szPut.env : Env := []
def laws_szPut.ann : Ann := ⟨[], [], []⟩
theorem laws_szPut.ok : CtrOk Try.prog 71 laws_szPut.ctr := fn_sound (A := laws_szPut.ann) tabOk EnvOk.nil mixed (fn := Try.f71) (body := bodyOf Try.f71) Try.func71 (by kernel_rfl) (by kernel_rfl) (fun x => by kernel_rfl)

def laws_szPutS.sig : Sig := ⟨[.val (.sl false (.pair .str (.pair .bool .str))), .val (.int .i64)], [.val (.int .i64)]⟩
noncomputable def laws_szPutS.ctr : Ctr := ⟨laws_szPutS.sig, fun x => laws_szPutS.f x.1 x.2⟩
noncomputable def laws_szPutS.env : Env := [(71, [laws_szPut.ctr])]
def laws_szPutS.ann : Ann := ⟨[(0, ([(0, .val (.sl false (.pair .str (.pair .bool .str)))), (1, .val (.int .i64)), (5, .val (.int .i64))], [(.exit 0, [(1, .val (.int .i64))]), (.ret, [(4, .val (.int .i64))])]))], [], []⟩
theorem laws_szPutS.ok : CtrOk Try.prog 19 laws_szPutS.ctr := fn_sound (A := laws_szPutS.ann) tabOk (EnvOk.cons (ctrs_cons laws_szPut.ok ctrs_nil) EnvOk.nil) mixed (fn := Try.f19) (body := bodyOf Try.f19) Try.func19 (by kernel_rfl) (by kernel_rfl) (fun x => by kernel_rfl)

def laws_szReadRow.sig : Sig := ⟨[.val (.pair .str (.int .i64)), .val (.int .i64)], [.val (.int .i64)]⟩
noncomputable def laws_szReadRow.ctr : Ctr := ⟨laws_szReadRow.sig, fun x => laws_szReadRow.f x.1 x.2⟩
noncomputable def laws_szReadRow.env : Env := []
def laws_szReadRow.ann : Ann := ⟨[], [], []⟩
theorem laws_szReadRow.ok : CtrOk Try.prog 122 laws_szReadRow.ctr := fn_sound (A := laws_szReadRow.ann) tabOk EnvOk.nil mixed (fn := Try.f122) (body := bodyOf Try.f122) Try.func122 (by kernel_rfl) (by kernel_rfl) (fun x => by kernel_rfl)

def laws_szReadRowS.sig : Sig := ⟨[.val (.sl false (.pair .str (.int .i64))), .val (.int .i64)], [.val (.int .i64)]⟩
noncomputable def laws_szReadRowS.ctr : Ctr := ⟨laws_szReadRowS.sig, fun x => laws_szReadRowS.f x.1 x.2⟩
noncomputable def laws_szReadRowS.env : Env := [(122, [laws_szReadRow.ctr])]
def laws_szReadRowS.ann : Ann := ⟨[(0, ([(0, .val (.sl false (.pair .str (.int .i64)))), (1, .val (.int .i64)), (5, .val (.int .i64))], [(.exit 0, [(1, .val (.int .i64))]), (.ret, [(4, .val (.int .i64))])]))], [], []⟩
theorem laws_szReadRowS.ok : CtrOk Try.prog 85 laws_szReadRowS.ctr := fn_sound (A := laws_szReadRowS.ann) tabOk (EnvOk.cons (ctrs_cons laws_szReadRow.ok ctrs_nil) EnvOk.nil) mixed (fn := Try.f85) (body := bodyOf Try.f85) Try.func85 (by kernel_rfl) (by kernel_rfl) (fun x => by kernel_rfl)

def laws_szTxn.sig : Sig := ⟨[.val (.pair .bool (.pair (.sl false (.pair .str (.int .i64))) (.sl false (.pair .str (.pair .bool .str))))), .val (.int .i64)], [.val (.int .i64)]⟩
noncomputable def laws_szTxn.ctr : Ctr := ⟨laws_szTxn.sig, fun x => laws_szTxn.f x.1 x.2⟩
noncomputable def laws_szTxn.env : Env := [(19, [laws_szPutS.ctr]), (85, [laws_szReadRowS.ctr])]
def laws_szTxn.ann : Ann := ⟨[], [], []⟩
theorem laws_szTxn.ok : CtrOk Try.prog 34 laws_szTxn.ctr := fn_sound (A := laws_szTxn.ann) tabOk (EnvOk.cons (ctrs_cons laws_szPutS.ok ctrs_nil) (EnvOk.cons (ctrs_cons laws_szReadRowS.ok ctrs_nil) EnvOk.nil)) mixed (fn := Try.f34) (body := bodyOf Try.f34) Try.func34 (by kernel_rfl) (by kernel_rfl) (fun x => by kernel_rfl)

def laws_toPut.sig : Sig := ⟨[.val (.pair .str (.pair .bool .str))], [.val (.pair .str (.pair .bool .str))]⟩
noncomputable def laws_toPut.ctr : Ctr := ⟨laws_toPut.sig, fun x => laws_toPut.f x⟩
noncomputable def laws_toPut.env : Env := []
def laws_toPut.ann : Ann := ⟨[], [], []⟩
theorem laws_toPut.ok : CtrOk Try.prog 73 laws_toPut.ctr := fn_sound (A := laws_toPut.ann) tabOk EnvOk.nil mixed (fn := Try.f73) (body := bodyOf Try.f73) Try.func73 (by kernel_rfl) (by kernel_rfl) (fun x => by kernel_rfl)

def laws_toPutS.sig : Sig := ⟨[.val (.sl false (.pair .str (.pair .bool .str)))], [.val (.sl true (.pair .str (.pair .bool .str)))]⟩
noncomputable def laws_toPutS.ctr : Ctr := ⟨laws_toPutS.sig, fun x => laws_toPutS.f x⟩
noncomputable def laws_toPutS.env : Env := [(73, [laws_toPut.ctr])]
def laws_toPutS.ann : Ann := ⟨[(0, ([(0, .val (.sl false (.pair .str (.pair .bool .str)))), (3, .val (.sl true (.pair .str (.pair .bool .str)))), (4, .val (.int .i64))], [(.exit 0, [(3, .val (.sl true (.pair .str (.pair .bool .str))))])]))], [], []⟩
theorem laws_toPutS.ok : CtrOk Try.prog 21 laws_toPutS.ctr := fn_sound (A := laws_toPutS.ann) tabOk (EnvOk.cons (ctrs_cons laws_toPut.ok ctrs_nil) EnvOk.nil) mixed (fn := Try.f21) (body := bodyOf Try.f21) Try.func21 (by kernel_rfl) (by kernel_rfl) (fun x => by kernel_rfl)

def laws_toReadRow.sig : Sig := ⟨[.val (.pair .str (.int .i64))], [.val (.pair .str (.int .i64))]⟩
noncomputable def laws_toReadRow.ctr : Ctr := ⟨laws_toReadRow.sig, fun x => laws_toReadRow.f x⟩
noncomputable def laws_toReadRow.env : Env := []
def laws_toReadRow.ann : Ann := ⟨[], [], []⟩
theorem laws_toReadRow.ok : CtrOk Try.prog 123 laws_toReadRow.ctr := fn_sound (A := laws_toReadRow.ann) tabOk EnvOk.nil mixed (fn := Try.f123) (body := bodyOf Try.f123) Try.func123 (by kernel_rfl) (by kernel_rfl) (fun x => by kernel_rfl)

def laws_toReadRowS.sig : Sig := ⟨[.val (.sl false (.pair .str (.int .i64)))], [.val (.sl true (.pair .str (.int .i64)))]⟩
noncomputable def laws_toReadRowS.ctr : Ctr := ⟨laws_toReadRowS.sig, fun x => laws_toReadRowS.f x⟩
noncomputable def laws_toReadRowS.env : Env := [(123, [laws_toReadRow.ctr])]
def laws_toReadRowS.ann : Ann := ⟨[(0, ([(0, .val (.sl false (.pair .str (.int .i64)))), (3, .val (.sl true (.pair .str (.int .i64)))), (4, .val (.int .i64))], [(.exit 0, [(3, .val (.sl true (.pair .str (.int .i64))))])]))], [], []⟩
theorem laws_toReadRowS.ok : CtrOk Try.prog 86 laws_toReadRowS.ctr := fn_sound (A := laws_toReadRowS.ann) tabOk (EnvOk.cons (ctrs_cons laws_toReadRow.ok ctrs_nil) EnvOk.nil) mixed (fn := Try.f86) (body := bodyOf Try.f86) Try.func86 (by kernel_rfl) (by kernel_rfl) (fun x => by kernel_rfl)

def laws_toTxn.sig : Sig := ⟨[.val (.pair .bool (.pair (.sl false (.pair .str (.int .i64))) (.sl false (.pair .str (.pair .bool .str)))))], [.val (.pair .bool (.pair (.sl true (.pair .str (.int .i64))) (.sl true (.pair .str (.pair .bool .str)))))]⟩
noncomputable def laws_toTxn.ctr : Ctr := ⟨laws_toTxn.sig, fun x => laws_toTxn.f x⟩
noncomputable def laws_toTxn.env : Env := [(21, [laws_toPutS.ctr]), (86, [laws_toReadRowS.ctr])]
def laws_toTxn.ann : Ann := ⟨[], [], []⟩
theorem laws_toTxn.ok : CtrOk Try.prog 36 laws_toTxn.ctr := fn_sound (A := laws_toTxn.ann) tabOk (EnvOk.cons (ctrs_cons laws_toPutS.ok ctrs_nil) (EnvOk.cons (ctrs_cons laws_toReadRowS.ok ctrs_nil) EnvOk.nil)) mixed (fn := Try.f36) (body := bodyOf Try.f36) Try.func36 (by kernel_rfl) (by kernel_rfl) (fun x => by kernel_rfl)

def laws_eqReadRow.sig : Sig := ⟨[.val (.pair .str (.int .i64)), .val (.pair .str (.int .i64))], [.val .bool]⟩
noncomputable def laws_eqReadRow.ctr : Ctr := ⟨laws_eqReadRow.sig, fun x => laws_eqReadRow.f x.1 x.2⟩
noncomputable def laws_eqReadRow.env : Env := []
def laws_eqReadRow.ann : Ann := ⟨[], [], []⟩
theorem laws_eqReadRow.ok : CtrOk Try.prog 124 laws_eqReadRow.ctr := fn_sound (A := laws_eqReadRow.ann) tabOk EnvOk.nil mixed (fn := Try.f124) (body := bodyOf Try.f124) Try.func124 (by kernel_rfl) (by kernel_rfl) (fun x => by kernel_rfl)

def laws_eqReadRowS.sig : Sig := ⟨[.val (.sl false (.pair .str (.int .i64))), .val (.sl false (.pair .str (.int .i64)))], [.val .bool]⟩
noncomputable def laws_eqReadRowS.ctr : Ctr := ⟨laws_eqReadRowS.sig, fun x => laws_eqReadRowS.f x.1 x.2⟩
noncomputable def laws_eqReadRowS.env : Env := [(124, [laws_eqReadRow.ctr])]
def laws_eqReadRowS.ann : Ann := ⟨[(0, ([(0, .val (.sl false (.pair .str (.int .i64)))), (1, .val (.sl false (.pair .str (.int .i64)))), (5, .val (.int .i64))], [(.exit 0, []), (.ret, [(4, .val .bool)])]))], [], []⟩
theorem laws_eqReadRowS.ok : CtrOk Try.prog 87 laws_eqReadRowS.ctr := fn_sound (A := laws_eqReadRowS.ann) tabOk (EnvOk.cons (ctrs_cons laws_eqReadRow.ok ctrs_nil) EnvOk.nil) mixed (fn := Try.f87) (body := bodyOf Try.f87) Try.func87 (by kernel_rfl) (by kernel_rfl) (fun x => by kernel_rfl)

def laws_eqTxn.sig : Sig := ⟨[.val (.pair .bool (.pair (.sl false (.pair .str (.int .i64))) (.sl false (.pair .str (.pair .bool .str))))), .val (.pair .bool (.pair (.sl false (.pair .str (.int .i64))) (.sl false (.pair .str (.pair .bool .str)))))], [.val .bool]⟩
noncomputable def laws_eqTxn.ctr : Ctr := ⟨laws_eqTxn.sig, fun x => laws_eqTxn.f x.1 x.2⟩
noncomputable def laws_eqTxn.env : Env := [(23, [laws_eqPutS.ctr]), (87, [laws_eqReadRowS.ctr])]
def laws_eqTxn.ann : Ann := ⟨[], [], []⟩
theorem laws_eqTxn.ok : CtrOk Try.prog 39 laws_eqTxn.ctr := fn_sound (A := laws_eqTxn.ann) tabOk (EnvOk.cons (ctrs_cons laws_eqPutS.ok ctrs_nil) (EnvOk.cons (ctrs_cons laws_eqReadRowS.ok ctrs_nil) EnvOk.nil)) mixed (fn := Try.f39) (body := bodyOf Try.f39) Try.func39 (by kernel_rfl) (by kernel_rfl) (fun x => by kernel_rfl)

def laws_markText.sig : Sig := ⟨[.val (.int .i64)], [.val .str]⟩
noncomputable def laws_markText.ctr : Ctr := ⟨laws_markText.sig, fun x => laws_markText.f x⟩
noncomputable def laws_markText.env : Env := []
def laws_markText.ann : Ann := ⟨[(0, ([(0, .val (.int .i64)), (3, .val .str)], [(.exit 0, [(3, .val .str)])]))], [], []⟩
theorem laws_markText.ok : CtrOk Try.prog 95 laws_markText.ctr := fn_sound (A := laws_markText.ann) tabOk EnvOk.nil mixed (fn := Try.f95) (body := bodyOf Try.f95) Try.func95 (by kernel_rfl) (by kernel_rfl) (fun x => by kernel_rfl)

def laws_markPutS.sig : Sig := ⟨[.io (.sl true (.pair .str (.pair .bool .str))), .val (.int .i64)], [.val (.int .i64)]⟩
noncomputable def laws_markPutS.ctr : Ctr := ⟨laws_markPutS.sig, fun x => laws_markPutS.f x.1 x.2⟩
noncomputable def laws_markPutS.env : Env := [(95, [laws_markText.ctr])]
def laws_markPutS.ann : Ann := ⟨[(0, ([(0, .val (.sl true (.pair .str (.pair .bool .str)))), (1, .val (.int .i64)), (5, .val (.int .i64))], [(.exit 0, [(0, .val (.sl true (.pair .str (.pair .bool .str)))), (1, .val (.int .i64))])]))], [], []⟩
theorem laws_markPutS.ok : CtrOk Try.prog 45 laws_markPutS.ctr := fn_sound (A := laws_markPutS.ann) tabOk (EnvOk.cons (ctrs_cons laws_markText.ok ctrs_nil) EnvOk.nil) mixed (fn := Try.f45) (body := bodyOf Try.f45) Try.func45 (by kernel_rfl) (by kernel_rfl) (fun x => by kernel_rfl)

def spec_OwnWrite.sig : Sig := ⟨[.val (.pair .bool (.pair (.sl false (.pair .str (.int .i64))) (.sl false (.pair .str (.pair .bool .str))))), .val .str], [.val (.pair .str (.pair .bool .str)), .val .bool]⟩
noncomputable def spec_OwnWrite.ctr : Ctr := ⟨spec_OwnWrite.sig, fun x => spec_OwnWrite.f x.1 x.2⟩
noncomputable def spec_OwnWrite.env : Env := []
def spec_OwnWrite.ann : Ann := ⟨[(0, ([(1, .val .str), (2, .ptr (.pair .bool (.pair (.sl false (.pair .str (.int .i64))) (.sl false (.pair .str (.pair .bool .str)))))), (4, .ptr (.pair .str (.pair .bool .str))), (6, .val (.int .i64))], [(.exit 0, [(4, .ptr (.pair .str (.pair .bool .str)))]), (.ret, [(4, .ptr (.pair .str (.pair .bool .str))), (5, .val .bool)])]))], [], []⟩
theorem spec_OwnWrite.ok : CtrOk Try.prog 35 spec_OwnWrite.ctr := fn_sound (A := spec_OwnWrite.ann) tabOk EnvOk.nil mixed (fn := Try.f35) (body := bodyOf Try.f35) Try.func35 (by kernel_rfl) (by kernel_rfl) (fun x => by kernel_rfl)

def spec_NetWrites.sig : Sig := ⟨[.val (.pair .bool (.pair (.sl false (.pair .str (.int .i64))) (.sl false (.pair .str (.pair .bool .str)))))], [.val (.sl true (.pair .str (.pair .bool .str)))]⟩
noncomputable def spec_NetWrites.ctr : Ctr := ⟨spec_NetWrites.sig, fun x => spec_NetWrites.f x⟩
noncomputable def spec_NetWrites.env : Env := [(35, [spec_OwnWrite.ctr])]
def spec_NetWrites.ann : Ann := ⟨[(2, ([(1, .ptr (.pair .bool (.pair (.sl false (.pair .str (.int .i64))) (.sl false (.pair .str (.pair .bool .str)))))), (3, .val (.sl true (.pair .str (.pair .bool .str)))), (4, .val (.int .i64)), (5, .val .bool), (6, .val (.int .i64))], [(.exit 2, [(1, .ptr (.pair .bool (.pair (.sl false (.pair .str (.int .i64))) (.sl false (.pair .str (.pair .bool .str)))))), (3, .val (.sl true (.pair .str (.pair .bool .str)))), (4, .val (.int .i64)), (5, .val .bool)])])), (0, ([(1, .ptr (.pair .bool (.pair (.sl false (.pair .str (.int .i64))) (.sl false (.pair .str (.pair .bool .str)))))), (3, .val (.sl true (.pair .str (.pair .bool .str)))), (4, .val (.int .i64))], [(.exit 0, [(3, .val (.sl true (.pair .str (.pair .bool .str))))])]))], [(3, [(.normal, [(1, .ptr (.pair .bool (.pair (.sl false (.pair .str (.int .i64))) (.sl false (.pair .str (.pair .bool .str)))))), (3, .val (.sl true (.pair .str (.pair .bool .str)))), (4, .val (.int .i64)), (5, .val .bool), (6, .val (.int .i64))])])], [(10, [(.normal, [(1, .ptr (.pair .bool (.pair (.sl false (.pair .str (.int .i64))) (.sl false (.pair .str (.pair .bool .str)))))), (3, .val (.sl true (.pair .str (.pair .bool .str)))), (4, .val (.int .i64))])])]⟩
theorem spec_NetWrites.ok : CtrOk Try.prog 54 spec_NetWrites.ctr := fn_sound (A := spec_NetWrites.ann) tabOk (EnvOk.cons (ctrs_cons spec_OwnWrite.ok ctrs_nil) EnvOk.nil) mixed (fn := Try.f54) (body := bodyOf Try.f54) Try.func54 (by kernel_rfl) (by kernel_rfl) (fun x => by kernel_rfl)

def impl_net.sig : Sig := ⟨[.val (.sl false (.pair .str (.pair .bool .str)))], [.val (.sl true (.pair .str (.pair .bool .str)))]⟩
noncomputable def impl_net.ctr : Ctr := ⟨impl_net.sig, fun x => impl_net.f x⟩
noncomputable def impl_net.env : Env := []
def impl_net.ann : Ann := ⟨[(2, ([(3, .val (.sl true (.pair .str (.pair .bool .str)))), (5, .ptr (.pair .str (.pair .bool .str))), (6, .val (.int .i64)), (9, .val (.sl false (.pair .str (.pair .bool .str)))), (10, .val (.int .i64)), (11, .val (.int .i64)), (15, .dup 3), (16, .val (.int .i64)), (17, .val (.int .i64))], [(.exit 2, [(3, .val (.sl true (.pair .str (.pair .bool .str)))), (5, .ptr (.pair .str (.pair .bool .str))), (6, .val (.int .i64)), (9, .val (.sl false (.pair .str (.pair .bool .str)))), (10, .val (.int .i64)), (11, .val (.int .i64))])])), (0, ([(3, .val (.sl true (.pair .str (.pair .bool .str)))), (9, .val (.sl false (.pair .str (.pair .bool .str)))), (10, .val (.int .i64)), (11, .val (.int .i64))], [(.exit 0, [(3, .val (.sl true (.pair .str (.pair .bool .str))))])]))], [], [(9, [(.normal, [(3, .val (.sl true (.pair .str (.pair .bool .str)))), (5, .ptr (.pair .str (.pair .bool .str))), (6, .val (.int .i64)), (9, .val (.sl false (.pair .str (.pair .bool .str)))), (10, .val (.int .i64)), (11, .val (.int .i64)), (15, .dup 3), (16, .val (.int .i64)), (17, .val (.int .i64))])]), (12, [(.normal, [(3, .val (.sl true (.pair .str (.pair .bool .str)))), (9, .val (.sl false (.pair .str (.pair .bool .str)))), (10, .val (.int .i64)), (11, .val (.int .i64))])])]⟩
theorem impl_net.ok : CtrOk Try.prog 106 impl_net.ctr := fn_sound (A := impl_net.ann) tabOk EnvOk.nil mixed (fn := Try.f106) (body := bodyOf Try.f106) Try.func106 (by kernel_rfl) (by kernel_rfl) (fun x => by kernel_rfl)

def impl_NetWrites.sig : Sig := ⟨[.val (.pair .bool (.pair (.sl false (.pair .str (.int .i64))) (.sl false (.pair .str (.pair .bool .str)))))], [.val (.sl true (.pair .str (.pair .bool .str)))]⟩
noncomputable def impl_NetWrites.ctr : Ctr := ⟨impl_NetWrites.sig, fun x => impl_NetWrites.f x⟩
noncomputable def impl_NetWrites.env : Env := [(106, [impl_net.ctr])]
def impl_NetWrites.ann : Ann := ⟨[], [], []⟩
theorem impl_NetWrites.ok : CtrOk Try.prog 55 impl_NetWrites.ctr := fn_sound (A := impl_NetWrites.ann) tabOk (EnvOk.cons (ctrs_cons impl_net.ok ctrs_nil) EnvOk.nil) mixed (fn := Try.f55) (body := bodyOf Try.f55) Try.func55 (by kernel_rfl) (by kernel_rfl) (fun x => by kernel_rfl)

def laws_markReadRowS.sig : Sig := ⟨[.io (.sl true (.pair .str (.int .i64))), .val (.int .i64)], [.val (.int .i64)]⟩
noncomputable def laws_markReadRowS.ctr : Ctr := ⟨laws_markReadRowS.sig, fun x => laws_markReadRowS.f x.1 x.2⟩
noncomputable def laws_markReadRowS.env : Env := [(95, [laws_markText.ctr])]
def laws_markReadRowS.ann : Ann := ⟨[(0, ([(0, .val (.sl true (.pair .str (.int .i64)))), (1, .val (.int .i64)), (5, .val (.int .i64))], [(.exit 0, [(0, .val (.sl true (.pair .str (.int .i64)))), (1, .val (.int .i64))])]))], [], []⟩
theorem laws_markReadRowS.ok : CtrOk Try.prog 107 laws_markReadRowS.ctr := fn_sound (A := laws_markReadRowS.ann) tabOk (EnvOk.cons (ctrs_cons laws_markText.ok ctrs_nil) EnvOk.nil) mixed (fn := Try.f107) (body := bodyOf Try.f107) Try.func107 (by kernel_rfl) (by kernel_rfl) (fun x => by kernel_rfl)

def laws_markTxn.sig : Sig := ⟨[.io (.pair .bool (.pair (.sl true (.pair .str (.int .i64))) (.sl true (.pair .str (.pair .bool .str))))), .val (.int .i64)], [.val (.int .i64)]⟩
noncomputable def laws_markTxn.ctr : Ctr := ⟨laws_markTxn.sig, fun x => laws_markTxn.f x.1 x.2⟩
noncomputable def laws_markTxn.env : Env := [(45, [laws_markPutS.ctr]), (107, [laws_markReadRowS.ctr])]
def laws_markTxn.ann : Ann := ⟨[], [], []⟩
theorem laws_markTxn.ok : CtrOk Try.prog 56 laws_markTxn.ctr := fn_sound (A := laws_markTxn.ann) tabOk (EnvOk.cons (ctrs_cons laws_markPutS.ok ctrs_nil) (EnvOk.cons (ctrs_cons laws_markReadRowS.ok ctrs_nil) EnvOk.nil)) mixed (fn := Try.f56) (body := bodyOf Try.f56) Try.func56 (by kernel_rfl) (by kernel_rfl) (fun x => by kernel_rfl)

def laws_heldPutS.sig : Sig := ⟨[.val (.sl false (.pair .str (.pair .bool .str))), .val (.int .i64)], [.val (.int .i64)]⟩
noncomputable def laws_heldPutS.ctr : Ctr := ⟨laws_heldPutS.sig, fun x => laws_heldPutS.f x.1 x.2⟩
noncomputable def laws_heldPutS.env : Env := [(95, [laws_markText.ctr])]
def laws_heldPutS.ann : Ann := ⟨[(0, ([(0, .val (.sl false (.pair .str (.pair .bool .str)))), (1, .val (.int .i64)), (5, .val (.int .i64))], [(.exit 0, [(1, .val (.int .i64))]), (.ret, [(4, .val (.int .i64))])]))], [], []⟩
theorem laws_heldPutS.ok : CtrOk Try.prog 57 laws_heldPutS.ctr := fn_sound (A := laws_heldPutS.ann) tabOk (EnvOk.cons (ctrs_cons laws_markText.ok ctrs_nil) EnvOk.nil) mixed (fn := Try.f57) (body := bodyOf Try.f57) Try.func57 (by kernel_rfl) (by kernel_rfl) (fun x => by kernel_rfl)

def laws_FnExactNetWrites.sig : Sig := ⟨[.val (.pair .bool (.pair (.sl false (.pair .str (.int .i64))) (.sl false (.pair .str (.pair .bool .str)))))], [.val .bool]⟩
noncomputable def laws_FnExactNetWrites.ctr : Ctr := ⟨laws_FnExactNetWrites.sig, fun x => laws_FnExactNetWrites.f x⟩
noncomputable def laws_FnExactNetWrites.env : Env := [(23, [laws_eqPutS.ctr]), (34, [laws_szTxn.ctr]), (36, [laws_toTxn.ctr]), (39, [laws_eqTxn.ctr]), (45, [laws_markPutS.ctr]), (54, [spec_NetWrites.ctr]), (55, [impl_NetWrites.ctr]), (56, [laws_markTxn.ctr]), (57, [laws_heldPutS.ctr])]
def laws_FnExactNetWrites.ann : Ann := ⟨[], [], []⟩
theorem laws_FnExactNetWrites.ok : CtrOk Try.prog 11 laws_FnExactNetWrites.ctr := fn_sound (A := laws_FnExactNetWrites.ann) tabOk (EnvOk.cons (ctrs_cons laws_eqPutS.ok ctrs_nil) (EnvOk.cons (ctrs_cons laws_szTxn.ok ctrs_nil) (EnvOk.cons (ctrs_cons laws_toTxn.ok ctrs_nil) (EnvOk.cons (ctrs_cons laws_eqTxn.ok ctrs_nil) (EnvOk.cons (ctrs_cons laws_markPutS.ok ctrs_nil) (EnvOk.cons (ctrs_cons spec_NetWrites.ok ctrs_nil) (EnvOk.cons (ctrs_cons impl_NetWrites.ok ctrs_nil) (EnvOk.cons (ctrs_cons laws_markTxn.ok ctrs_nil) (EnvOk.cons (ctrs_cons laws_heldPutS.ok ctrs_nil) EnvOk.nil))))))))) mixed (fn := Try.f11) (body := bodyOf Try.f11) Try.func11 (by kernel_rfl) (by kernel_rfl) (fun x => by kernel_rfl)

end Go.Proofs.Ytaijmhaonokniaa
