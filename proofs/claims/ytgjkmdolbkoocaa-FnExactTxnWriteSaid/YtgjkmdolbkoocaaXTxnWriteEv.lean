/- Each function of the program that FnExactTxnWrite reaches comes to its plain function. -/
import Derived.Test.YtgjkmdolbkoocaaRfZg
import Derived.Test.YtgjkmdolbkoocaaFns
import Derived.Test.YtgjkmdolbkoocaaProg
namespace Go.Proofs.Ytgjkmdolbkoocaa
open Go Go.Rf Go.Rf.G Go.Proofs
set_option maxRecDepth 100000
def bodyOf (f : Func) : Code := f.body.getD .skip
def tab : Tab := [(3, ⟨(.int .i64), false, [], none, 8, false⟩),
  (4, ⟨.bool, false, [], none, 1, false⟩),
  (5, ⟨(.int .u8), false, [], none, 1, false⟩),
  (9, ⟨.str, false, [], none, 16, false⟩),
  (35, ⟨(.sl true (.int .u8)), false, [], some 5, 24, false⟩),
  (37, ⟨(.sl true (.pair .str (.int .i64))), false, [], some 134, 24, false⟩),
  (38, ⟨(.sl true (.pair .str (.pair .bool .str))), false, [], some 46, 24, false⟩),
  (40, ⟨(.pair .bool (.pair (.sl true (.pair .str (.int .i64))) (.sl true (.pair .str (.pair .bool .str))))), true, [(0, 1, false), (1, 1, false), (2, 1, false)], none, 56, false⟩),
  (46, ⟨(.pair .str (.pair .bool .str)), true, [(0, 1, false), (1, 1, false), (2, 1, false)], none, 40, true⟩),
  (57, ⟨(.sl true (.pair .str (.int .i64))), false, [], some 173, 24, false⟩),
  (58, ⟨(.sl true (.pair .str (.pair .bool .str))), false, [], some 78, 24, false⟩),
  (60, ⟨(.pair .bool (.pair (.sl true (.pair .str (.int .i64))) (.sl true (.pair .str (.pair .bool .str))))), true, [(0, 1, false), (1, 1, false), (2, 1, false)], none, 56, false⟩),
  (78, ⟨(.pair .str (.pair .bool .str)), true, [(0, 1, false), (1, 1, false), (2, 1, false)], none, 40, true⟩),
  (134, ⟨(.pair .str (.int .i64)), true, [(0, 1, false), (1, 1, false)], none, 24, true⟩),
  (173, ⟨(.pair .str (.int .i64)), true, [(0, 1, false), (1, 1, false)], none, 24, true⟩)]
theorem tabOk : TabOk Try.prog tab := Rf.tabOk (by kernel_rfl)
theorem mixed : Try.prog.follows .mixedOrders = true := by kernel_rfl
def laws_szReadRow.sig : Sig := ⟨[.val (.pair .str (.int .i64)), .val (.int .i64)], [.val (.int .i64)]⟩
noncomputable def laws_szReadRow.ctr : Ctr := ⟨laws_szReadRow.sig, fun x => laws_szReadRow.f x.1 x.2⟩
noncomputable def laws_szReadRow.env : Env := []
def laws_szReadRow.ann : Ann := ⟨[], [], []⟩
theorem laws_szReadRow.ok : CtrOk Try.prog 157 laws_szReadRow.ctr := fn_sound (A := laws_szReadRow.ann) tabOk EnvOk.nil mixed (fn := Try.f157) (body := bodyOf Try.f157) Try.func157 (by kernel_rfl) (by kernel_rfl) (fun x => by kernel_rfl)

def laws_szReadRowS.sig : Sig := ⟨[.val (.sl false (.pair .str (.int .i64))), .val (.int .i64)], [.val (.int .i64)]⟩
noncomputable def laws_szReadRowS.ctr : Ctr := ⟨laws_szReadRowS.sig, fun x => laws_szReadRowS.f x.1 x.2⟩
noncomputable def laws_szReadRowS.env : Env := [(157, [laws_szReadRow.ctr])]
def laws_szReadRowS.ann : Ann := ⟨[(0, ([(0, .val (.sl false (.pair .str (.int .i64)))), (1, .val (.int .i64)), (5, .val (.int .i64))], [(.exit 0, [(1, .val (.int .i64))]), (.ret, [(4, .val (.int .i64))])]))], [], []⟩
theorem laws_szReadRowS.ok : CtrOk Try.prog 103 laws_szReadRowS.ctr := fn_sound (A := laws_szReadRowS.ann) tabOk (EnvOk.cons (ctrs_cons laws_szReadRow.ok ctrs_nil) EnvOk.nil) mixed (fn := Try.f103) (body := bodyOf Try.f103) Try.func103 (by kernel_rfl) (by kernel_rfl) (fun x => by kernel_rfl)

def laws_szPut.sig : Sig := ⟨[.val (.pair .str (.pair .bool .str)), .val (.int .i64)], [.val (.int .i64)]⟩
noncomputable def laws_szPut.ctr : Ctr := ⟨laws_szPut.sig, fun x => laws_szPut.f x.1 x.2⟩
noncomputable def laws_szPut.env : Env := []
def laws_szPut.ann : Ann := ⟨[], [], []⟩
theorem laws_szPut.ok : CtrOk Try.prog 58 laws_szPut.ctr := fn_sound (A := laws_szPut.ann) tabOk EnvOk.nil mixed (fn := Try.f58) (body := bodyOf Try.f58) Try.func58 (by kernel_rfl) (by kernel_rfl) (fun x => by kernel_rfl)

def laws_szPutS.sig : Sig := ⟨[.val (.sl false (.pair .str (.pair .bool .str))), .val (.int .i64)], [.val (.int .i64)]⟩
noncomputable def laws_szPutS.ctr : Ctr := ⟨laws_szPutS.sig, fun x => laws_szPutS.f x.1 x.2⟩
noncomputable def laws_szPutS.env : Env := [(58, [laws_szPut.ctr])]
def laws_szPutS.ann : Ann := ⟨[(0, ([(0, .val (.sl false (.pair .str (.pair .bool .str)))), (1, .val (.int .i64)), (5, .val (.int .i64))], [(.exit 0, [(1, .val (.int .i64))]), (.ret, [(4, .val (.int .i64))])]))], [], []⟩
theorem laws_szPutS.ok : CtrOk Try.prog 104 laws_szPutS.ctr := fn_sound (A := laws_szPutS.ann) tabOk (EnvOk.cons (ctrs_cons laws_szPut.ok ctrs_nil) EnvOk.nil) mixed (fn := Try.f104) (body := bodyOf Try.f104) Try.func104 (by kernel_rfl) (by kernel_rfl) (fun x => by kernel_rfl)

def laws_szTxn.sig : Sig := ⟨[.val (.pair .bool (.pair (.sl false (.pair .str (.int .i64))) (.sl false (.pair .str (.pair .bool .str))))), .val (.int .i64)], [.val (.int .i64)]⟩
noncomputable def laws_szTxn.ctr : Ctr := ⟨laws_szTxn.sig, fun x => laws_szTxn.f x.1 x.2⟩
noncomputable def laws_szTxn.env : Env := [(103, [laws_szReadRowS.ctr]), (104, [laws_szPutS.ctr])]
def laws_szTxn.ann : Ann := ⟨[], [], []⟩
theorem laws_szTxn.ok : CtrOk Try.prog 39 laws_szTxn.ctr := fn_sound (A := laws_szTxn.ann) tabOk (EnvOk.cons (ctrs_cons laws_szReadRowS.ok ctrs_nil) (EnvOk.cons (ctrs_cons laws_szPutS.ok ctrs_nil) EnvOk.nil)) mixed (fn := Try.f39) (body := bodyOf Try.f39) Try.func39 (by kernel_rfl) (by kernel_rfl) (fun x => by kernel_rfl)

def laws_toReadRow.sig : Sig := ⟨[.val (.pair .str (.int .i64))], [.val (.pair .str (.int .i64))]⟩
noncomputable def laws_toReadRow.ctr : Ctr := ⟨laws_toReadRow.sig, fun x => laws_toReadRow.f x⟩
noncomputable def laws_toReadRow.env : Env := []
def laws_toReadRow.ann : Ann := ⟨[], [], []⟩
theorem laws_toReadRow.ok : CtrOk Try.prog 158 laws_toReadRow.ctr := fn_sound (A := laws_toReadRow.ann) tabOk EnvOk.nil mixed (fn := Try.f158) (body := bodyOf Try.f158) Try.func158 (by kernel_rfl) (by kernel_rfl) (fun x => by kernel_rfl)

def laws_toReadRowS.sig : Sig := ⟨[.val (.sl false (.pair .str (.int .i64)))], [.val (.sl true (.pair .str (.int .i64)))]⟩
noncomputable def laws_toReadRowS.ctr : Ctr := ⟨laws_toReadRowS.sig, fun x => laws_toReadRowS.f x⟩
noncomputable def laws_toReadRowS.env : Env := [(158, [laws_toReadRow.ctr])]
def laws_toReadRowS.ann : Ann := ⟨[(0, ([(0, .val (.sl false (.pair .str (.int .i64)))), (3, .val (.sl true (.pair .str (.int .i64)))), (4, .val (.int .i64))], [(.exit 0, [(3, .val (.sl true (.pair .str (.int .i64))))])]))], [], []⟩
theorem laws_toReadRowS.ok : CtrOk Try.prog 107 laws_toReadRowS.ctr := fn_sound (A := laws_toReadRowS.ann) tabOk (EnvOk.cons (ctrs_cons laws_toReadRow.ok ctrs_nil) EnvOk.nil) mixed (fn := Try.f107) (body := bodyOf Try.f107) Try.func107 (by kernel_rfl) (by kernel_rfl) (fun x => by kernel_rfl)

def laws_toPut.sig : Sig := ⟨[.val (.pair .str (.pair .bool .str))], [.val (.pair .str (.pair .bool .str))]⟩
noncomputable def laws_toPut.ctr : Ctr := ⟨laws_toPut.sig, fun x => laws_toPut.f x⟩
noncomputable def laws_toPut.env : Env := []
def laws_toPut.ann : Ann := ⟨[], [], []⟩
theorem laws_toPut.ok : CtrOk Try.prog 60 laws_toPut.ctr := fn_sound (A := laws_toPut.ann) tabOk EnvOk.nil mixed (fn := Try.f60) (body := bodyOf Try.f60) Try.func60 (by kernel_rfl) (by kernel_rfl) (fun x => by kernel_rfl)

def laws_toPutS.sig : Sig := ⟨[.val (.sl false (.pair .str (.pair .bool .str)))], [.val (.sl true (.pair .str (.pair .bool .str)))]⟩
noncomputable def laws_toPutS.ctr : Ctr := ⟨laws_toPutS.sig, fun x => laws_toPutS.f x⟩
noncomputable def laws_toPutS.env : Env := [(60, [laws_toPut.ctr])]
def laws_toPutS.ann : Ann := ⟨[(0, ([(0, .val (.sl false (.pair .str (.pair .bool .str)))), (3, .val (.sl true (.pair .str (.pair .bool .str)))), (4, .val (.int .i64))], [(.exit 0, [(3, .val (.sl true (.pair .str (.pair .bool .str))))])]))], [], []⟩
theorem laws_toPutS.ok : CtrOk Try.prog 108 laws_toPutS.ctr := fn_sound (A := laws_toPutS.ann) tabOk (EnvOk.cons (ctrs_cons laws_toPut.ok ctrs_nil) EnvOk.nil) mixed (fn := Try.f108) (body := bodyOf Try.f108) Try.func108 (by kernel_rfl) (by kernel_rfl) (fun x => by kernel_rfl)

def laws_toTxn.sig : Sig := ⟨[.val (.pair .bool (.pair (.sl false (.pair .str (.int .i64))) (.sl false (.pair .str (.pair .bool .str)))))], [.val (.pair .bool (.pair (.sl true (.pair .str (.int .i64))) (.sl true (.pair .str (.pair .bool .str)))))]⟩
noncomputable def laws_toTxn.ctr : Ctr := ⟨laws_toTxn.sig, fun x => laws_toTxn.f x⟩
noncomputable def laws_toTxn.env : Env := [(107, [laws_toReadRowS.ctr]), (108, [laws_toPutS.ctr])]
def laws_toTxn.ann : Ann := ⟨[], [], []⟩
theorem laws_toTxn.ok : CtrOk Try.prog 41 laws_toTxn.ctr := fn_sound (A := laws_toTxn.ann) tabOk (EnvOk.cons (ctrs_cons laws_toReadRowS.ok ctrs_nil) (EnvOk.cons (ctrs_cons laws_toPutS.ok ctrs_nil) EnvOk.nil)) mixed (fn := Try.f41) (body := bodyOf Try.f41) Try.func41 (by kernel_rfl) (by kernel_rfl) (fun x => by kernel_rfl)

def laws_eqReadRow.sig : Sig := ⟨[.val (.pair .str (.int .i64)), .val (.pair .str (.int .i64))], [.val .bool]⟩
noncomputable def laws_eqReadRow.ctr : Ctr := ⟨laws_eqReadRow.sig, fun x => laws_eqReadRow.f x.1 x.2⟩
noncomputable def laws_eqReadRow.env : Env := []
def laws_eqReadRow.ann : Ann := ⟨[], [], []⟩
theorem laws_eqReadRow.ok : CtrOk Try.prog 160 laws_eqReadRow.ctr := fn_sound (A := laws_eqReadRow.ann) tabOk EnvOk.nil mixed (fn := Try.f160) (body := bodyOf Try.f160) Try.func160 (by kernel_rfl) (by kernel_rfl) (fun x => by kernel_rfl)

def laws_eqReadRowS.sig : Sig := ⟨[.val (.sl false (.pair .str (.int .i64))), .val (.sl false (.pair .str (.int .i64)))], [.val .bool]⟩
noncomputable def laws_eqReadRowS.ctr : Ctr := ⟨laws_eqReadRowS.sig, fun x => laws_eqReadRowS.f x.1 x.2⟩
noncomputable def laws_eqReadRowS.env : Env := [(160, [laws_eqReadRow.ctr])]
def laws_eqReadRowS.ann : Ann := ⟨[(0, ([(0, .val (.sl false (.pair .str (.int .i64)))), (1, .val (.sl false (.pair .str (.int .i64)))), (5, .val (.int .i64))], [(.exit 0, []), (.ret, [(4, .val .bool)])]))], [], []⟩
theorem laws_eqReadRowS.ok : CtrOk Try.prog 111 laws_eqReadRowS.ctr := fn_sound (A := laws_eqReadRowS.ann) tabOk (EnvOk.cons (ctrs_cons laws_eqReadRow.ok ctrs_nil) EnvOk.nil) mixed (fn := Try.f111) (body := bodyOf Try.f111) Try.func111 (by kernel_rfl) (by kernel_rfl) (fun x => by kernel_rfl)

def laws_eqPut.sig : Sig := ⟨[.val (.pair .str (.pair .bool .str)), .val (.pair .str (.pair .bool .str))], [.val .bool]⟩
noncomputable def laws_eqPut.ctr : Ctr := ⟨laws_eqPut.sig, fun x => laws_eqPut.f x.1 x.2⟩
noncomputable def laws_eqPut.env : Env := []
def laws_eqPut.ann : Ann := ⟨[], [], []⟩
theorem laws_eqPut.ok : CtrOk Try.prog 161 laws_eqPut.ctr := fn_sound (A := laws_eqPut.ann) tabOk EnvOk.nil mixed (fn := Try.f161) (body := bodyOf Try.f161) Try.func161 (by kernel_rfl) (by kernel_rfl) (fun x => by kernel_rfl)

def laws_eqPutS.sig : Sig := ⟨[.val (.sl false (.pair .str (.pair .bool .str))), .val (.sl false (.pair .str (.pair .bool .str)))], [.val .bool]⟩
noncomputable def laws_eqPutS.ctr : Ctr := ⟨laws_eqPutS.sig, fun x => laws_eqPutS.f x.1 x.2⟩
noncomputable def laws_eqPutS.env : Env := [(161, [laws_eqPut.ctr])]
def laws_eqPutS.ann : Ann := ⟨[(0, ([(0, .val (.sl false (.pair .str (.pair .bool .str)))), (1, .val (.sl false (.pair .str (.pair .bool .str)))), (5, .val (.int .i64))], [(.exit 0, []), (.ret, [(4, .val .bool)])]))], [], []⟩
theorem laws_eqPutS.ok : CtrOk Try.prog 112 laws_eqPutS.ctr := fn_sound (A := laws_eqPutS.ann) tabOk (EnvOk.cons (ctrs_cons laws_eqPut.ok ctrs_nil) EnvOk.nil) mixed (fn := Try.f112) (body := bodyOf Try.f112) Try.func112 (by kernel_rfl) (by kernel_rfl) (fun x => by kernel_rfl)

def laws_eqTxn.sig : Sig := ⟨[.val (.pair .bool (.pair (.sl false (.pair .str (.int .i64))) (.sl false (.pair .str (.pair .bool .str))))), .val (.pair .bool (.pair (.sl false (.pair .str (.int .i64))) (.sl false (.pair .str (.pair .bool .str)))))], [.val .bool]⟩
noncomputable def laws_eqTxn.ctr : Ctr := ⟨laws_eqTxn.sig, fun x => laws_eqTxn.f x.1 x.2⟩
noncomputable def laws_eqTxn.env : Env := [(111, [laws_eqReadRowS.ctr]), (112, [laws_eqPutS.ctr])]
def laws_eqTxn.ann : Ann := ⟨[], [], []⟩
theorem laws_eqTxn.ok : CtrOk Try.prog 43 laws_eqTxn.ctr := fn_sound (A := laws_eqTxn.ann) tabOk (EnvOk.cons (ctrs_cons laws_eqReadRowS.ok ctrs_nil) (EnvOk.cons (ctrs_cons laws_eqPutS.ok ctrs_nil) EnvOk.nil)) mixed (fn := Try.f43) (body := bodyOf Try.f43) Try.func43 (by kernel_rfl) (by kernel_rfl) (fun x => by kernel_rfl)

def laws_markText.sig : Sig := ⟨[.val (.int .i64)], [.val .str]⟩
noncomputable def laws_markText.ctr : Ctr := ⟨laws_markText.sig, fun x => laws_markText.f x⟩
noncomputable def laws_markText.env : Env := []
def laws_markText.ann : Ann := ⟨[(0, ([(0, .val (.int .i64)), (3, .val .str)], [(.exit 0, [(3, .val .str)])]))], [], []⟩
theorem laws_markText.ok : CtrOk Try.prog 128 laws_markText.ctr := fn_sound (A := laws_markText.ann) tabOk EnvOk.nil mixed (fn := Try.f128) (body := bodyOf Try.f128) Try.func128 (by kernel_rfl) (by kernel_rfl) (fun x => by kernel_rfl)

def laws_markReadRowS.sig : Sig := ⟨[.io (.sl true (.pair .str (.int .i64))), .val (.int .i64)], [.val (.int .i64)]⟩
noncomputable def laws_markReadRowS.ctr : Ctr := ⟨laws_markReadRowS.sig, fun x => laws_markReadRowS.f x.1 x.2⟩
noncomputable def laws_markReadRowS.env : Env := [(128, [laws_markText.ctr])]
def laws_markReadRowS.ann : Ann := ⟨[(0, ([(0, .val (.sl true (.pair .str (.int .i64)))), (1, .val (.int .i64)), (5, .val (.int .i64))], [(.exit 0, [(0, .val (.sl true (.pair .str (.int .i64)))), (1, .val (.int .i64))])]))], [], []⟩
theorem laws_markReadRowS.ok : CtrOk Try.prog 113 laws_markReadRowS.ctr := fn_sound (A := laws_markReadRowS.ann) tabOk (EnvOk.cons (ctrs_cons laws_markText.ok ctrs_nil) EnvOk.nil) mixed (fn := Try.f113) (body := bodyOf Try.f113) Try.func113 (by kernel_rfl) (by kernel_rfl) (fun x => by kernel_rfl)

def laws_markPutS.sig : Sig := ⟨[.io (.sl true (.pair .str (.pair .bool .str))), .val (.int .i64)], [.val (.int .i64)]⟩
noncomputable def laws_markPutS.ctr : Ctr := ⟨laws_markPutS.sig, fun x => laws_markPutS.f x.1 x.2⟩
noncomputable def laws_markPutS.env : Env := [(128, [laws_markText.ctr])]
def laws_markPutS.ann : Ann := ⟨[(0, ([(0, .val (.sl true (.pair .str (.pair .bool .str)))), (1, .val (.int .i64)), (5, .val (.int .i64))], [(.exit 0, [(0, .val (.sl true (.pair .str (.pair .bool .str)))), (1, .val (.int .i64))])]))], [], []⟩
theorem laws_markPutS.ok : CtrOk Try.prog 114 laws_markPutS.ctr := fn_sound (A := laws_markPutS.ann) tabOk (EnvOk.cons (ctrs_cons laws_markText.ok ctrs_nil) EnvOk.nil) mixed (fn := Try.f114) (body := bodyOf Try.f114) Try.func114 (by kernel_rfl) (by kernel_rfl) (fun x => by kernel_rfl)

def laws_markTxn.sig : Sig := ⟨[.io (.pair .bool (.pair (.sl true (.pair .str (.int .i64))) (.sl true (.pair .str (.pair .bool .str))))), .val (.int .i64)], [.val (.int .i64)]⟩
noncomputable def laws_markTxn.ctr : Ctr := ⟨laws_markTxn.sig, fun x => laws_markTxn.f x.1 x.2⟩
noncomputable def laws_markTxn.env : Env := [(113, [laws_markReadRowS.ctr]), (114, [laws_markPutS.ctr])]
def laws_markTxn.ann : Ann := ⟨[], [], []⟩
theorem laws_markTxn.ok : CtrOk Try.prog 44 laws_markTxn.ctr := fn_sound (A := laws_markTxn.ann) tabOk (EnvOk.cons (ctrs_cons laws_markReadRowS.ok ctrs_nil) (EnvOk.cons (ctrs_cons laws_markPutS.ok ctrs_nil) EnvOk.nil)) mixed (fn := Try.f44) (body := bodyOf Try.f44) Try.func44 (by kernel_rfl) (by kernel_rfl) (fun x => by kernel_rfl)

def laws_heldReadRowS.sig : Sig := ⟨[.val (.sl false (.pair .str (.int .i64))), .val (.int .i64)], [.val (.int .i64)]⟩
noncomputable def laws_heldReadRowS.ctr : Ctr := ⟨laws_heldReadRowS.sig, fun x => laws_heldReadRowS.f x.1 x.2⟩
noncomputable def laws_heldReadRowS.env : Env := [(128, [laws_markText.ctr])]
def laws_heldReadRowS.ann : Ann := ⟨[(0, ([(0, .val (.sl false (.pair .str (.int .i64)))), (1, .val (.int .i64)), (5, .val (.int .i64))], [(.exit 0, [(1, .val (.int .i64))]), (.ret, [(4, .val (.int .i64))])]))], [], []⟩
theorem laws_heldReadRowS.ok : CtrOk Try.prog 115 laws_heldReadRowS.ctr := fn_sound (A := laws_heldReadRowS.ann) tabOk (EnvOk.cons (ctrs_cons laws_markText.ok ctrs_nil) EnvOk.nil) mixed (fn := Try.f115) (body := bodyOf Try.f115) Try.func115 (by kernel_rfl) (by kernel_rfl) (fun x => by kernel_rfl)

def laws_heldPutS.sig : Sig := ⟨[.val (.sl false (.pair .str (.pair .bool .str))), .val (.int .i64)], [.val (.int .i64)]⟩
noncomputable def laws_heldPutS.ctr : Ctr := ⟨laws_heldPutS.sig, fun x => laws_heldPutS.f x.1 x.2⟩
noncomputable def laws_heldPutS.env : Env := [(128, [laws_markText.ctr])]
def laws_heldPutS.ann : Ann := ⟨[(0, ([(0, .val (.sl false (.pair .str (.pair .bool .str)))), (1, .val (.int .i64)), (5, .val (.int .i64))], [(.exit 0, [(1, .val (.int .i64))]), (.ret, [(4, .val (.int .i64))])]))], [], []⟩
theorem laws_heldPutS.ok : CtrOk Try.prog 116 laws_heldPutS.ctr := fn_sound (A := laws_heldPutS.ann) tabOk (EnvOk.cons (ctrs_cons laws_markText.ok ctrs_nil) EnvOk.nil) mixed (fn := Try.f116) (body := bodyOf Try.f116) Try.func116 (by kernel_rfl) (by kernel_rfl) (fun x => by kernel_rfl)

def laws_heldTxn.sig : Sig := ⟨[.val (.pair .bool (.pair (.sl false (.pair .str (.int .i64))) (.sl false (.pair .str (.pair .bool .str))))), .val (.int .i64)], [.val (.int .i64)]⟩
noncomputable def laws_heldTxn.ctr : Ctr := ⟨laws_heldTxn.sig, fun x => laws_heldTxn.f x.1 x.2⟩
noncomputable def laws_heldTxn.env : Env := [(115, [laws_heldReadRowS.ctr]), (116, [laws_heldPutS.ctr])]
def laws_heldTxn.ann : Ann := ⟨[], [], []⟩
theorem laws_heldTxn.ok : CtrOk Try.prog 45 laws_heldTxn.ctr := fn_sound (A := laws_heldTxn.ann) tabOk (EnvOk.cons (ctrs_cons laws_heldReadRowS.ok ctrs_nil) (EnvOk.cons (ctrs_cons laws_heldPutS.ok ctrs_nil) EnvOk.nil)) mixed (fn := Try.f45) (body := bodyOf Try.f45) Try.func45 (by kernel_rfl) (by kernel_rfl) (fun x => by kernel_rfl)

def spec_OwnWrite.sig : Sig := ⟨[.val (.pair .bool (.pair (.sl false (.pair .str (.int .i64))) (.sl false (.pair .str (.pair .bool .str))))), .val .str], [.val (.pair .str (.pair .bool .str)), .val .bool]⟩
noncomputable def spec_OwnWrite.ctr : Ctr := ⟨spec_OwnWrite.sig, fun x => spec_OwnWrite.f x.1 x.2⟩
noncomputable def spec_OwnWrite.env : Env := []
def spec_OwnWrite.ann : Ann := ⟨[(0, ([(1, .val .str), (2, .ptr (.pair .bool (.pair (.sl false (.pair .str (.int .i64))) (.sl false (.pair .str (.pair .bool .str)))))), (4, .ptr (.pair .str (.pair .bool .str))), (6, .val (.int .i64))], [(.exit 0, [(4, .ptr (.pair .str (.pair .bool .str)))]), (.ret, [(4, .ptr (.pair .str (.pair .bool .str))), (5, .val .bool)])]))], [], []⟩
theorem spec_OwnWrite.ok : CtrOk Try.prog 86 spec_OwnWrite.ctr := fn_sound (A := spec_OwnWrite.ann) tabOk EnvOk.nil mixed (fn := Try.f86) (body := bodyOf Try.f86) Try.func86 (by kernel_rfl) (by kernel_rfl) (fun x => by kernel_rfl)

def spec_NetWrites.sig : Sig := ⟨[.val (.pair .bool (.pair (.sl false (.pair .str (.int .i64))) (.sl false (.pair .str (.pair .bool .str)))))], [.val (.sl true (.pair .str (.pair .bool .str)))]⟩
noncomputable def spec_NetWrites.ctr : Ctr := ⟨spec_NetWrites.sig, fun x => spec_NetWrites.f x⟩
noncomputable def spec_NetWrites.env : Env := [(86, [spec_OwnWrite.ctr])]
def spec_NetWrites.ann : Ann := ⟨[(2, ([(1, .ptr (.pair .bool (.pair (.sl false (.pair .str (.int .i64))) (.sl false (.pair .str (.pair .bool .str)))))), (3, .val (.sl true (.pair .str (.pair .bool .str)))), (4, .val (.int .i64)), (5, .val .bool), (6, .val (.int .i64))], [(.exit 2, [(1, .ptr (.pair .bool (.pair (.sl false (.pair .str (.int .i64))) (.sl false (.pair .str (.pair .bool .str)))))), (3, .val (.sl true (.pair .str (.pair .bool .str)))), (4, .val (.int .i64)), (5, .val .bool)])])), (0, ([(1, .ptr (.pair .bool (.pair (.sl false (.pair .str (.int .i64))) (.sl false (.pair .str (.pair .bool .str)))))), (3, .val (.sl true (.pair .str (.pair .bool .str)))), (4, .val (.int .i64))], [(.exit 0, [(3, .val (.sl true (.pair .str (.pair .bool .str))))])]))], [(3, [(.normal, [(1, .ptr (.pair .bool (.pair (.sl false (.pair .str (.int .i64))) (.sl false (.pair .str (.pair .bool .str)))))), (3, .val (.sl true (.pair .str (.pair .bool .str)))), (4, .val (.int .i64)), (5, .val .bool), (6, .val (.int .i64))])])], [(10, [(.normal, [(1, .ptr (.pair .bool (.pair (.sl false (.pair .str (.int .i64))) (.sl false (.pair .str (.pair .bool .str)))))), (3, .val (.sl true (.pair .str (.pair .bool .str)))), (4, .val (.int .i64))])])]⟩
theorem spec_NetWrites.ok : CtrOk Try.prog 29 spec_NetWrites.ctr := fn_sound (A := spec_NetWrites.ann) tabOk (EnvOk.cons (ctrs_cons spec_OwnWrite.ok ctrs_nil) EnvOk.nil) mixed (fn := Try.f29) (body := bodyOf Try.f29) Try.func29 (by kernel_rfl) (by kernel_rfl) (fun x => by kernel_rfl)

def spec_l15Copy.sig : Sig := ⟨[.val (.pair .bool (.pair (.sl false (.pair .str (.int .i64))) (.sl false (.pair .str (.pair .bool .str)))))], [.val (.pair .bool (.pair (.sl true (.pair .str (.int .i64))) (.sl true (.pair .str (.pair .bool .str)))))]⟩
noncomputable def spec_l15Copy.ctr : Ctr := ⟨spec_l15Copy.sig, fun x => spec_l15Copy.f x⟩
noncomputable def spec_l15Copy.env : Env := []
def spec_l15Copy.ann : Ann := ⟨[], [], []⟩
theorem spec_l15Copy.ok : CtrOk Try.prog 105 spec_l15Copy.ctr := fn_sound (A := spec_l15Copy.ann) tabOk EnvOk.nil mixed (fn := Try.f105) (body := bodyOf Try.f105) Try.func105 (by kernel_rfl) (by kernel_rfl) (fun x => by kernel_rfl)

def spec_l1In.sig : Sig := ⟨[.val (.int .i64), .val (.int .i64), .val (.int .i64)], [.val .bool]⟩
noncomputable def spec_l1In.ctr : Ctr := ⟨spec_l1In.sig, fun x => spec_l1In.f x.1 x.2.1 x.2.2⟩
noncomputable def spec_l1In.env : Env := []
def spec_l1In.ann : Ann := ⟨[], [], []⟩
theorem spec_l1In.ok : CtrOk Try.prog 100 spec_l1In.ctr := fn_sound (A := spec_l1In.ann) tabOk EnvOk.nil mixed (fn := Try.f100) (body := bodyOf Try.f100) Try.func100 (by kernel_rfl) (by kernel_rfl) (fun x => by kernel_rfl)

def spec_KeyOk.sig : Sig := ⟨[.val .str], [.val .bool]⟩
noncomputable def spec_KeyOk.ctr : Ctr := ⟨spec_KeyOk.sig, fun x => spec_KeyOk.f x⟩
noncomputable def spec_KeyOk.env : Env := [(100, [spec_l1In.ctr])]
def spec_KeyOk.ann : Ann := ⟨[], [], []⟩
theorem spec_KeyOk.ok : CtrOk Try.prog 106 spec_KeyOk.ctr := fn_sound (A := spec_KeyOk.ann) tabOk (EnvOk.cons (ctrs_cons spec_l1In.ok ctrs_nil) EnvOk.nil) mixed (fn := Try.f106) (body := bodyOf Try.f106) Try.func106 (by kernel_rfl) (by kernel_rfl) (fun x => by kernel_rfl)

def spec_PutsOk.sig : Sig := ⟨[.val (.sl false (.pair .str (.pair .bool .str)))], [.val .bool]⟩
noncomputable def spec_PutsOk.ctr : Ctr := ⟨spec_PutsOk.sig, fun x => spec_PutsOk.f x⟩
noncomputable def spec_PutsOk.env : Env := [(106, [spec_KeyOk.ctr])]
def spec_PutsOk.ann : Ann := ⟨[(0, ([(0, .val (.sl false (.pair .str (.pair .bool .str)))), (3, .val (.int .i64))], [(.exit 0, []), (.ret, [(2, .val .bool)])]))], [], [(6, [(.normal, [(0, .val (.sl false (.pair .str (.pair .bool .str)))), (3, .val (.int .i64))]), (.ret, [(2, .val .bool)])])]⟩
theorem spec_PutsOk.ok : CtrOk Try.prog 129 spec_PutsOk.ctr := fn_sound (A := spec_PutsOk.ann) tabOk (EnvOk.cons (ctrs_cons spec_KeyOk.ok ctrs_nil) EnvOk.nil) mixed (fn := Try.f129) (body := bodyOf Try.f129) Try.func129 (by kernel_rfl) (by kernel_rfl) (fun x => by kernel_rfl)

def spec_TxnWrite.sig : Sig := ⟨[.val (.pair .bool (.pair (.sl false (.pair .str (.int .i64))) (.sl false (.pair .str (.pair .bool .str))))), .val (.pair .str (.pair .bool .str))], [.val (.pair .bool (.pair (.sl true (.pair .str (.int .i64))) (.sl true (.pair .str (.pair .bool .str))))), .val .bool]⟩
noncomputable def spec_TxnWrite.ctr : Ctr := ⟨spec_TxnWrite.sig, fun x => spec_TxnWrite.f x.1 x.2⟩
noncomputable def spec_TxnWrite.env : Env := [(29, [spec_NetWrites.ctr]), (105, [spec_l15Copy.ctr]), (129, [spec_PutsOk.ctr])]
def spec_TxnWrite.ann : Ann := ⟨[], [], []⟩
theorem spec_TxnWrite.ok : CtrOk Try.prog 59 spec_TxnWrite.ctr := fn_sound (A := spec_TxnWrite.ann) tabOk (EnvOk.cons (ctrs_cons spec_NetWrites.ok ctrs_nil) (EnvOk.cons (ctrs_cons spec_l15Copy.ok ctrs_nil) (EnvOk.cons (ctrs_cons spec_PutsOk.ok ctrs_nil) EnvOk.nil))) mixed (fn := Try.f59) (body := bodyOf Try.f59) Try.func59 (by kernel_rfl) (by kernel_rfl) (fun x => by kernel_rfl)

def impl_net.sig : Sig := ⟨[.val (.sl false (.pair .str (.pair .bool .str)))], [.val (.sl true (.pair .str (.pair .bool .str)))]⟩
noncomputable def impl_net.ctr : Ctr := ⟨impl_net.sig, fun x => impl_net.f x⟩
noncomputable def impl_net.env : Env := []
def impl_net.ann : Ann := ⟨[(2, ([(3, .val (.sl true (.pair .str (.pair .bool .str)))), (5, .ptr (.pair .str (.pair .bool .str))), (6, .val (.int .i64)), (9, .val (.sl false (.pair .str (.pair .bool .str)))), (10, .val (.int .i64)), (11, .val (.int .i64)), (15, .dup 3), (16, .val (.int .i64)), (17, .val (.int .i64))], [(.exit 2, [(3, .val (.sl true (.pair .str (.pair .bool .str)))), (5, .ptr (.pair .str (.pair .bool .str))), (6, .val (.int .i64)), (9, .val (.sl false (.pair .str (.pair .bool .str)))), (10, .val (.int .i64)), (11, .val (.int .i64))])])), (0, ([(3, .val (.sl true (.pair .str (.pair .bool .str)))), (9, .val (.sl false (.pair .str (.pair .bool .str)))), (10, .val (.int .i64)), (11, .val (.int .i64))], [(.exit 0, [(3, .val (.sl true (.pair .str (.pair .bool .str))))])]))], [], [(9, [(.normal, [(3, .val (.sl true (.pair .str (.pair .bool .str)))), (5, .ptr (.pair .str (.pair .bool .str))), (6, .val (.int .i64)), (9, .val (.sl false (.pair .str (.pair .bool .str)))), (10, .val (.int .i64)), (11, .val (.int .i64)), (15, .dup 3), (16, .val (.int .i64)), (17, .val (.int .i64))])]), (12, [(.normal, [(3, .val (.sl true (.pair .str (.pair .bool .str)))), (9, .val (.sl false (.pair .str (.pair .bool .str)))), (10, .val (.int .i64)), (11, .val (.int .i64))])])]⟩
theorem impl_net.ok : CtrOk Try.prog 82 impl_net.ctr := fn_sound (A := impl_net.ann) tabOk EnvOk.nil mixed (fn := Try.f82) (body := bodyOf Try.f82) Try.func82 (by kernel_rfl) (by kernel_rfl) (fun x => by kernel_rfl)

def impl_NetWrites.sig : Sig := ⟨[.val (.pair .bool (.pair (.sl false (.pair .str (.int .i64))) (.sl false (.pair .str (.pair .bool .str)))))], [.val (.sl true (.pair .str (.pair .bool .str)))]⟩
noncomputable def impl_NetWrites.ctr : Ctr := ⟨impl_NetWrites.sig, fun x => impl_NetWrites.f x⟩
noncomputable def impl_NetWrites.env : Env := [(82, [impl_net.ctr])]
def impl_NetWrites.ann : Ann := ⟨[], [], []⟩
theorem impl_NetWrites.ok : CtrOk Try.prog 24 impl_NetWrites.ctr := fn_sound (A := impl_NetWrites.ann) tabOk (EnvOk.cons (ctrs_cons impl_net.ok ctrs_nil) EnvOk.nil) mixed (fn := Try.f24) (body := bodyOf Try.f24) Try.func24 (by kernel_rfl) (by kernel_rfl) (fun x => by kernel_rfl)

def impl_copyPuts.sig : Sig := ⟨[.val (.sl false (.pair .str (.pair .bool .str)))], [.val (.sl true (.pair .str (.pair .bool .str)))]⟩
noncomputable def impl_copyPuts.ctr : Ctr := ⟨impl_copyPuts.sig, fun x => impl_copyPuts.f x⟩
noncomputable def impl_copyPuts.env : Env := []
def impl_copyPuts.ann : Ann := ⟨[], [], []⟩
theorem impl_copyPuts.ok : CtrOk Try.prog 159 impl_copyPuts.ctr := fn_sound (A := impl_copyPuts.ann) tabOk EnvOk.nil mixed (fn := Try.f159) (body := bodyOf Try.f159) Try.func159 (by kernel_rfl) (by kernel_rfl) (fun x => by kernel_rfl)

def impl_copyTxn.sig : Sig := ⟨[.val (.pair .bool (.pair (.sl false (.pair .str (.int .i64))) (.sl false (.pair .str (.pair .bool .str)))))], [.val (.pair .bool (.pair (.sl true (.pair .str (.int .i64))) (.sl true (.pair .str (.pair .bool .str)))))]⟩
noncomputable def impl_copyTxn.ctr : Ctr := ⟨impl_copyTxn.sig, fun x => impl_copyTxn.f x⟩
noncomputable def impl_copyTxn.env : Env := [(159, [impl_copyPuts.ctr])]
def impl_copyTxn.ann : Ann := ⟨[], [], []⟩
theorem impl_copyTxn.ok : CtrOk Try.prog 109 impl_copyTxn.ctr := fn_sound (A := impl_copyTxn.ann) tabOk (EnvOk.cons (ctrs_cons impl_copyPuts.ok ctrs_nil) EnvOk.nil) mixed (fn := Try.f109) (body := bodyOf Try.f109) Try.func109 (by kernel_rfl) (by kernel_rfl) (fun x => by kernel_rfl)

def impl_in.sig : Sig := ⟨[.val (.int .i64), .val (.int .i64), .val (.int .i64)], [.val .bool]⟩
noncomputable def impl_in.ctr : Ctr := ⟨impl_in.sig, fun x => impl_in.f x.1 x.2.1 x.2.2⟩
noncomputable def impl_in.env : Env := []
def impl_in.ann : Ann := ⟨[], [], []⟩
theorem impl_in.ok : CtrOk Try.prog 102 impl_in.ctr := fn_sound (A := impl_in.ann) tabOk EnvOk.nil mixed (fn := Try.f102) (body := bodyOf Try.f102) Try.func102 (by kernel_rfl) (by kernel_rfl) (fun x => by kernel_rfl)

def impl_KeyOk.sig : Sig := ⟨[.val .str], [.val .bool]⟩
noncomputable def impl_KeyOk.ctr : Ctr := ⟨impl_KeyOk.sig, fun x => impl_KeyOk.f x⟩
noncomputable def impl_KeyOk.env : Env := [(102, [impl_in.ctr])]
def impl_KeyOk.ann : Ann := ⟨[], [], []⟩
theorem impl_KeyOk.ok : CtrOk Try.prog 110 impl_KeyOk.ctr := fn_sound (A := impl_KeyOk.ann) tabOk (EnvOk.cons (ctrs_cons impl_in.ok ctrs_nil) EnvOk.nil) mixed (fn := Try.f110) (body := bodyOf Try.f110) Try.func110 (by kernel_rfl) (by kernel_rfl) (fun x => by kernel_rfl)

def impl_putOk.sig : Sig := ⟨[.val (.pair .str (.pair .bool .str))], [.val .bool]⟩
noncomputable def impl_putOk.ctr : Ctr := ⟨impl_putOk.sig, fun x => impl_putOk.f x⟩
noncomputable def impl_putOk.env : Env := [(110, [impl_KeyOk.ctr])]
def impl_putOk.ann : Ann := ⟨[], [], []⟩
theorem impl_putOk.ok : CtrOk Try.prog 130 impl_putOk.ctr := fn_sound (A := impl_putOk.ann) tabOk (EnvOk.cons (ctrs_cons impl_KeyOk.ok ctrs_nil) EnvOk.nil) mixed (fn := Try.f130) (body := bodyOf Try.f130) Try.func130 (by kernel_rfl) (by kernel_rfl) (fun x => by kernel_rfl)

def impl_TxnWrite.sig : Sig := ⟨[.val (.pair .bool (.pair (.sl false (.pair .str (.int .i64))) (.sl false (.pair .str (.pair .bool .str))))), .val (.pair .str (.pair .bool .str))], [.val (.pair .bool (.pair (.sl true (.pair .str (.int .i64))) (.sl true (.pair .str (.pair .bool .str))))), .val .bool]⟩
noncomputable def impl_TxnWrite.ctr : Ctr := ⟨impl_TxnWrite.sig, fun x => impl_TxnWrite.f x.1 x.2⟩
noncomputable def impl_TxnWrite.env : Env := [(24, [impl_NetWrites.ctr]), (109, [impl_copyTxn.ctr]), (130, [impl_putOk.ctr])]
def impl_TxnWrite.ann : Ann := ⟨[], [], []⟩
theorem impl_TxnWrite.ok : CtrOk Try.prog 61 impl_TxnWrite.ctr := fn_sound (A := impl_TxnWrite.ann) tabOk (EnvOk.cons (ctrs_cons impl_NetWrites.ok ctrs_nil) (EnvOk.cons (ctrs_cons impl_copyTxn.ok ctrs_nil) (EnvOk.cons (ctrs_cons impl_putOk.ok ctrs_nil) EnvOk.nil))) mixed (fn := Try.f61) (body := bodyOf Try.f61) Try.func61 (by kernel_rfl) (by kernel_rfl) (fun x => by kernel_rfl)

def laws_FnExactTxnWrite.sig : Sig := ⟨[.val (.pair .bool (.pair (.sl false (.pair .str (.int .i64))) (.sl false (.pair .str (.pair .bool .str))))), .val (.pair .str (.pair .bool .str))], [.val .bool]⟩
noncomputable def laws_FnExactTxnWrite.ctr : Ctr := ⟨laws_FnExactTxnWrite.sig, fun x => laws_FnExactTxnWrite.f x.1 x.2⟩
noncomputable def laws_FnExactTxnWrite.env : Env := [(39, [laws_szTxn.ctr]), (41, [laws_toTxn.ctr]), (43, [laws_eqTxn.ctr]), (44, [laws_markTxn.ctr]), (45, [laws_heldTxn.ctr]), (58, [laws_szPut.ctr]), (59, [spec_TxnWrite.ctr]), (60, [laws_toPut.ctr]), (61, [impl_TxnWrite.ctr])]
def laws_FnExactTxnWrite.ann : Ann := ⟨[], [], []⟩
theorem laws_FnExactTxnWrite.ok : CtrOk Try.prog 12 laws_FnExactTxnWrite.ctr := fn_sound (A := laws_FnExactTxnWrite.ann) tabOk (EnvOk.cons (ctrs_cons laws_szTxn.ok ctrs_nil) (EnvOk.cons (ctrs_cons laws_toTxn.ok ctrs_nil) (EnvOk.cons (ctrs_cons laws_eqTxn.ok ctrs_nil) (EnvOk.cons (ctrs_cons laws_markTxn.ok ctrs_nil) (EnvOk.cons (ctrs_cons laws_heldTxn.ok ctrs_nil) (EnvOk.cons (ctrs_cons laws_szPut.ok ctrs_nil) (EnvOk.cons (ctrs_cons spec_TxnWrite.ok ctrs_nil) (EnvOk.cons (ctrs_cons laws_toPut.ok ctrs_nil) (EnvOk.cons (ctrs_cons impl_TxnWrite.ok ctrs_nil) EnvOk.nil))))))))) mixed (fn := Try.f12) (body := bodyOf Try.f12) Try.func12 (by kernel_rfl) (by kernel_rfl) (fun x => by kernel_rfl)

end Go.Proofs.Ytgjkmdolbkoocaa
