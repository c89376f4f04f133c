/- Each function of the program that FnRows reaches comes to its plain function. -/
import Derived.Test.YtaijmhaonokniaaRfZg
import Derived.Test.YtaijmhaonokniaaFns
import Derived.Test.YtaijmhaonokniaaProg
namespace Go.Proofs.Ytaijmhaonokniaa
open Go Go.Rf Go.Rf.G Go.Proofs
set_option maxRecDepth 100000
def bodyOf (f : Func) : Code := f.body.getD .skip
def tab : Tab := [(3, ⟨(.int .i64), false, [], none, 8, false⟩),
  (4, ⟨.bool, false, [], none, 1, false⟩),
  (5, ⟨(.int .u8), false, [], none, 1, false⟩),
  (9, ⟨.str, false, [], none, 16, false⟩),
  (31, ⟨(.sl true (.pair .str (.pair .bool .str))), false, [], some 48, 24, false⟩),
  (41, ⟨(.sl true (.int .u8)), false, [], some 5, 24, false⟩),
  (48, ⟨(.pair .str (.pair .bool .str)), true, [(0, 1, false), (1, 1, false), (2, 1, false)], none, 40, true⟩),
  (61, ⟨(.sl true (.pair .str (.int .i64))), false, [], some 135, 24, false⟩),
  (63, ⟨(.pair .bool (.pair (.sl true (.pair .str (.int .i64))) (.sl true (.pair .str (.pair .bool .str))))), true, [(0, 1, false), (1, 1, false), (2, 1, false)], none, 56, false⟩),
  (114, ⟨(.sl true .str), false, [], some 9, 24, false⟩),
  (135, ⟨(.pair .str (.int .i64)), true, [(0, 1, false), (1, 1, false)], none, 24, true⟩),
  (163, ⟨(.pair (.sl true (.int .u8)) (.pair (.int .i64) (.int .i64))), true, [(0, 1, false), (1, 1, false), (2, 1, false)], none, 40, false⟩)]
theorem tabOk : TabOk Try.prog tab := Rf.tabOk (by kernel_rfl)
theorem mixed : Try.prog.follows .mixedOrders = true := by kernel_rfl
def laws_big.sig : Sig := ⟨[.val (.sl false (.int .u8))], [.val .bool]⟩
noncomputable def laws_big.ctr : Ctr := ⟨laws_big.sig, fun x => laws_big.f x⟩
noncomputable def laws_big.env : Env := []
def laws_big.ann : Ann := ⟨[], [], []⟩
theorem laws_big.ok : CtrOk Try.prog 29 laws_big.ctr := fn_sound (A := laws_big.ann) tabOk EnvOk.nil mixed (fn := Try.f29) (body := bodyOf Try.f29) Try.func29 (by kernel_rfl) (by kernel_rfl) (fun x => by kernel_rfl)

def spec_l1New.sig : Sig := ⟨[.val (.sl false (.int .u8))], [.ptr (.pair (.sl false (.int .u8)) (.pair (.int .i64) (.int .i64)))]⟩
noncomputable def spec_l1New.ctr : Ctr := ⟨spec_l1New.sig, fun x => spec_l1New.f x⟩
noncomputable def spec_l1New.env : Env := []
def spec_l1New.ann : Ann := ⟨[(0, ([(0, .val (.sl false (.int .u8))), (3, .val (.int .i64)), (4, .val (.int .i64))], [(.exit 0, [(0, .val (.sl false (.int .u8))), (3, .val (.int .i64))])]))], [], []⟩
theorem spec_l1New.ok : CtrOk Try.prog 79 spec_l1New.ctr := fn_sound (A := spec_l1New.ann) tabOk EnvOk.nil mixed (fn := Try.f79) (body := bodyOf Try.f79) Try.func79 (by kernel_rfl) (by kernel_rfl) (fun x => by kernel_rfl)

def spec_l1Byte.sig : Sig := ⟨[.ptr (.pair (.sl false (.int .u8)) (.pair (.int .i64) (.int .i64)))], [.val (.int .i64)]⟩
noncomputable def spec_l1Byte.ctr : Ctr := ⟨spec_l1Byte.sig, fun x => spec_l1Byte.f x⟩
noncomputable def spec_l1Byte.env : Env := []
def spec_l1Byte.ann : Ann := ⟨[], [], []⟩
theorem spec_l1Byte.ok : CtrOk Try.prog 121 spec_l1Byte.ctr := fn_sound (A := spec_l1Byte.ann) tabOk EnvOk.nil mixed (fn := Try.f121) (body := bodyOf Try.f121) Try.func121 (by kernel_rfl) (by kernel_rfl) (fun x => by kernel_rfl)

def spec_l1Below.sig : Sig := ⟨[.ptr (.pair (.sl false (.int .u8)) (.pair (.int .i64) (.int .i64))), .val (.int .i64)], [.val (.int .i64)]⟩
noncomputable def spec_l1Below.ctr : Ctr := ⟨spec_l1Below.sig, fun x => spec_l1Below.f x.1 x.2⟩
noncomputable def spec_l1Below.env : Env := [(121, [spec_l1Byte.ctr])]
def spec_l1Below.ann : Ann := ⟨[], [], []⟩
theorem spec_l1Below.ok : CtrOk Try.prog 82 spec_l1Below.ctr := fn_sound (A := spec_l1Below.ann) tabOk (EnvOk.cons (ctrs_cons spec_l1Byte.ok ctrs_nil) EnvOk.nil) mixed (fn := Try.f82) (body := bodyOf Try.f82) Try.func82 (by kernel_rfl) (by kernel_rfl) (fun x => by kernel_rfl)

def spec_l1In.sig : Sig := ⟨[.val (.int .i64), .val (.int .i64), .val (.int .i64)], [.val .bool]⟩
noncomputable def spec_l1In.ctr : Ctr := ⟨spec_l1In.sig, fun x => spec_l1In.f x.1 x.2.1 x.2.2⟩
noncomputable def spec_l1In.env : Env := []
def spec_l1In.ann : Ann := ⟨[], [], []⟩
theorem spec_l1In.ok : CtrOk Try.prog 116 spec_l1In.ctr := fn_sound (A := spec_l1In.ann) tabOk EnvOk.nil mixed (fn := Try.f116) (body := bodyOf Try.f116) Try.func116 (by kernel_rfl) (by kernel_rfl) (fun x => by kernel_rfl)

def spec_KeyOk.sig : Sig := ⟨[.val .str], [.val .bool]⟩
noncomputable def spec_KeyOk.ctr : Ctr := ⟨spec_KeyOk.sig, fun x => spec_KeyOk.f x⟩
noncomputable def spec_KeyOk.env : Env := [(116, [spec_l1In.ctr])]
def spec_KeyOk.ann : Ann := ⟨[], [], []⟩
theorem spec_KeyOk.ok : CtrOk Try.prog 72 spec_KeyOk.ctr := fn_sound (A := spec_KeyOk.ann) tabOk (EnvOk.cons (ctrs_cons spec_l1In.ok ctrs_nil) EnvOk.nil) mixed (fn := Try.f72) (body := bodyOf Try.f72) Try.func72 (by kernel_rfl) (by kernel_rfl) (fun x => by kernel_rfl)

def spec_l15Copy.sig : Sig := ⟨[.val (.pair .bool (.pair (.sl false (.pair .str (.int .i64))) (.sl false (.pair .str (.pair .bool .str)))))], [.val (.pair .bool (.pair (.sl true (.pair .str (.int .i64))) (.sl true (.pair .str (.pair .bool .str)))))]⟩
noncomputable def spec_l15Copy.ctr : Ctr := ⟨spec_l15Copy.sig, fun x => spec_l15Copy.f x⟩
noncomputable def spec_l15Copy.env : Env := []
def spec_l15Copy.ann : Ann := ⟨[], [], []⟩
theorem spec_l15Copy.ok : CtrOk Try.prog 93 spec_l15Copy.ctr := fn_sound (A := spec_l15Copy.ann) tabOk EnvOk.nil mixed (fn := Try.f93) (body := bodyOf Try.f93) Try.func93 (by kernel_rfl) (by kernel_rfl) (fun x => by kernel_rfl)

def spec_TxnRead.sig : Sig := ⟨[.val (.pair .bool (.pair (.sl false (.pair .str (.int .i64))) (.sl false (.pair .str (.pair .bool .str))))), .val .str, .val (.int .i64)], [.val (.pair .bool (.pair (.sl true (.pair .str (.int .i64))) (.sl true (.pair .str (.pair .bool .str))))), .val (.int .i64)]⟩
noncomputable def spec_TxnRead.ctr : Ctr := ⟨spec_TxnRead.sig, fun x => spec_TxnRead.f x.1 x.2.1 x.2.2⟩
noncomputable def spec_TxnRead.env : Env := [(72, [spec_KeyOk.ctr]), (93, [spec_l15Copy.ctr])]
def spec_TxnRead.ann : Ann := ⟨[(0, ([(1, .val .str), (2, .val (.int .i64)), (3, .ptr (.pair .bool (.pair (.sl false (.pair .str (.int .i64))) (.sl false (.pair .str (.pair .bool .str)))))), (6, .ptr (.pair .bool (.pair (.sl true (.pair .str (.int .i64))) (.sl true (.pair .str (.pair .bool .str)))))), (8, .ptr (.pair .bool (.pair (.sl true (.pair .str (.int .i64))) (.sl true (.pair .str (.pair .bool .str)))))), (9, .val (.int .i64))], [(.exit 0, [(1, .val .str), (2, .val (.int .i64)), (3, .ptr (.pair .bool (.pair (.sl false (.pair .str (.int .i64))) (.sl false (.pair .str (.pair .bool .str)))))), (6, .ptr (.pair .bool (.pair (.sl true (.pair .str (.int .i64))) (.sl true (.pair .str (.pair .bool .str)))))), (8, .ptr (.pair .bool (.pair (.sl true (.pair .str (.int .i64))) (.sl true (.pair .str (.pair .bool .str))))))]), (.ret, [(6, .ptr (.pair .bool (.pair (.sl true (.pair .str (.int .i64))) (.sl true (.pair .str (.pair .bool .str)))))), (7, .val (.int .i64))])]))], [], []⟩
theorem spec_TxnRead.ok : CtrOk Try.prog 42 spec_TxnRead.ctr := fn_sound (A := spec_TxnRead.ann) tabOk (EnvOk.cons (ctrs_cons spec_KeyOk.ok ctrs_nil) (EnvOk.cons (ctrs_cons spec_l15Copy.ok ctrs_nil) EnvOk.nil)) mixed (fn := Try.f42) (body := bodyOf Try.f42) Try.func42 (by kernel_rfl) (by kernel_rfl) (fun x => by kernel_rfl)

def spec_l1Pick.sig : Sig := ⟨[.ptr (.pair (.sl false (.int .u8)) (.pair (.int .i64) (.int .i64))), .val (.sl false .str)], [.val .str]⟩
noncomputable def spec_l1Pick.ctr : Ctr := ⟨spec_l1Pick.sig, fun x => spec_l1Pick.f x.1 x.2⟩
noncomputable def spec_l1Pick.env : Env := [(82, [spec_l1Below.ctr])]
def spec_l1Pick.ann : Ann := ⟨[], [], []⟩
theorem spec_l1Pick.ok : CtrOk Try.prog 127 spec_l1Pick.ctr := fn_sound (A := spec_l1Pick.ann) tabOk (EnvOk.cons (ctrs_cons spec_l1Below.ok ctrs_nil) EnvOk.nil) mixed (fn := Try.f127) (body := bodyOf Try.f127) Try.func127 (by kernel_rfl) (by kernel_rfl) (fun x => by kernel_rfl)

def spec_l5Key.sig : Sig := ⟨[.ptr (.pair (.sl false (.int .u8)) (.pair (.int .i64) (.int .i64)))], [.val .str]⟩
noncomputable def spec_l5Key.ctr : Ctr := ⟨spec_l5Key.sig, fun x => spec_l5Key.f x⟩
noncomputable def spec_l5Key.env : Env := [(127, [spec_l1Pick.ctr])]
def spec_l5Key.ann : Ann := ⟨[], [], []⟩
theorem spec_l5Key.ok : CtrOk Try.prog 89 spec_l5Key.ctr := fn_sound (A := spec_l5Key.ann) tabOk (EnvOk.cons (ctrs_cons spec_l1Pick.ok ctrs_nil) EnvOk.nil) mixed (fn := Try.f89) (body := bodyOf Try.f89) Try.func89 (by kernel_rfl) (by kernel_rfl) (fun x => by kernel_rfl)

def spec_l1Once.sig : Sig := ⟨[.ptr (.pair (.sl false (.int .u8)) (.pair (.int .i64) (.int .i64))), .val (.int .i64)], [.val .bool]⟩
noncomputable def spec_l1Once.ctr : Ctr := ⟨spec_l1Once.sig, fun x => spec_l1Once.f x.1 x.2⟩
noncomputable def spec_l1Once.env : Env := [(82, [spec_l1Below.ctr])]
def spec_l1Once.ann : Ann := ⟨[], [], []⟩
theorem spec_l1Once.ok : CtrOk Try.prog 90 spec_l1Once.ctr := fn_sound (A := spec_l1Once.ann) tabOk (EnvOk.cons (ctrs_cons spec_l1Below.ok ctrs_nil) EnvOk.nil) mixed (fn := Try.f90) (body := bodyOf Try.f90) Try.func90 (by kernel_rfl) (by kernel_rfl) (fun x => by kernel_rfl)

def spec_l1Text.sig : Sig := ⟨[.ptr (.pair (.sl false (.int .u8)) (.pair (.int .i64) (.int .i64))), .val (.int .i64)], [.val .str]⟩
noncomputable def spec_l1Text.ctr : Ctr := ⟨spec_l1Text.sig, fun x => spec_l1Text.f x.1 x.2⟩
noncomputable def spec_l1Text.env : Env := [(82, [spec_l1Below.ctr]), (121, [spec_l1Byte.ctr])]
def spec_l1Text.ann : Ann := ⟨[(0, ([(0, .ptr (.pair (.sl false (.int .u8)) (.pair (.int .i64) (.int .i64)))), (5, .val (.sl true (.int .u8))), (6, .val (.int .i64)), (7, .val (.int .i64))], [(.exit 0, [(0, .ptr (.pair (.sl false (.int .u8)) (.pair (.int .i64) (.int .i64)))), (5, .val (.sl true (.int .u8)))])]))], [], [(7, [(.normal, [(0, .ptr (.pair (.sl false (.int .u8)) (.pair (.int .i64) (.int .i64)))), (5, .val (.sl true (.int .u8))), (6, .val (.int .i64)), (7, .val (.int .i64)), (8, .val (.int .i64))])]), (9, [(.normal, [(0, .ptr (.pair (.sl false (.int .u8)) (.pair (.int .i64) (.int .i64)))), (5, .val (.sl true (.int .u8))), (6, .val (.int .i64)), (7, .val (.int .i64)), (8, .val (.int .i64))])])]⟩
theorem spec_l1Text.ok : CtrOk Try.prog 120 spec_l1Text.ctr := fn_sound (A := spec_l1Text.ann) tabOk (EnvOk.cons (ctrs_cons spec_l1Below.ok ctrs_nil) (EnvOk.cons (ctrs_cons spec_l1Byte.ok ctrs_nil) EnvOk.nil)) mixed (fn := Try.f120) (body := bodyOf Try.f120) Try.func120 (by kernel_rfl) (by kernel_rfl) (fun x => by kernel_rfl)

def spec_l12Puts.sig : Sig := ⟨[.ptr (.pair (.sl false (.int .u8)) (.pair (.int .i64) (.int .i64)))], [.val (.sl true (.pair .str (.pair .bool .str)))]⟩
noncomputable def spec_l12Puts.ctr : Ctr := ⟨spec_l12Puts.sig, fun x => spec_l12Puts.f x⟩
noncomputable def spec_l12Puts.env : Env := [(82, [spec_l1Below.ctr]), (89, [spec_l5Key.ctr]), (90, [spec_l1Once.ctr]), (120, [spec_l1Text.ctr])]
def spec_l12Puts.ann : Ann := ⟨[(0, ([(0, .ptr (.pair (.sl false (.int .u8)) (.pair (.int .i64) (.int .i64)))), (3, .val (.sl true (.pair .str (.pair .bool .str)))), (4, .val (.int .i64))], [(.exit 0, [(0, .ptr (.pair (.sl false (.int .u8)) (.pair (.int .i64) (.int .i64)))), (3, .val (.sl true (.pair .str (.pair .bool .str))))])]))], [], [(6, [(.normal, [(0, .ptr (.pair (.sl false (.int .u8)) (.pair (.int .i64) (.int .i64)))), (3, .val (.sl true (.pair .str (.pair .bool .str)))), (4, .val (.int .i64)), (5, .ptr (.pair .str (.pair .bool .str)))])])]⟩
theorem spec_l12Puts.ok : CtrOk Try.prog 81 spec_l12Puts.ctr := fn_sound (A := spec_l12Puts.ann) tabOk (EnvOk.cons (ctrs_cons spec_l1Below.ok ctrs_nil) (EnvOk.cons (ctrs_cons spec_l5Key.ok ctrs_nil) (EnvOk.cons (ctrs_cons spec_l1Once.ok ctrs_nil) (EnvOk.cons (ctrs_cons spec_l1Text.ok ctrs_nil) EnvOk.nil)))) mixed (fn := Try.f81) (body := bodyOf Try.f81) Try.func81 (by kernel_rfl) (by kernel_rfl) (fun x => by kernel_rfl)

def spec_Dec.sig : Sig := ⟨[.val (.int .i64)], [.val .str]⟩
noncomputable def spec_Dec.ctr : Ctr := ⟨spec_Dec.sig, fun x => spec_Dec.f x⟩
noncomputable def spec_Dec.env : Env := []
def spec_Dec.ann : Ann := ⟨[(0, ([(0, .val (.int .i64)), (3, .val .str), (4, .val .bool)], [(.exit 0, [(3, .val .str), (4, .val .bool)])]))], [], [(7, [(.normal, [(0, .val (.int .i64)), (3, .val .str), (4, .val .bool), (5, .val (.int .i64))])])]⟩
theorem spec_Dec.ok : CtrOk Try.prog 138 spec_Dec.ctr := fn_sound (A := spec_Dec.ann) tabOk EnvOk.nil mixed (fn := Try.f138) (body := bodyOf Try.f138) Try.func138 (by kernel_rfl) (by kernel_rfl) (fun x => by kernel_rfl)

def spec_l12AnyPuts.sig : Sig := ⟨[.ptr (.pair (.sl false (.int .u8)) (.pair (.int .i64) (.int .i64)))], [.val (.sl true (.pair .str (.pair .bool .str)))]⟩
noncomputable def spec_l12AnyPuts.ctr : Ctr := ⟨spec_l12AnyPuts.sig, fun x => spec_l12AnyPuts.f x⟩
noncomputable def spec_l12AnyPuts.env : Env := [(81, [spec_l12Puts.ctr]), (82, [spec_l1Below.ctr]), (127, [spec_l1Pick.ctr]), (138, [spec_Dec.ctr])]
def spec_l12AnyPuts.ann : Ann := ⟨[(1, ([(0, .ptr (.pair (.sl false (.int .u8)) (.pair (.int .i64) (.int .i64)))), (3, .val (.sl true (.pair .str (.pair .bool .str))))], [(.exit 1, [(0, .ptr (.pair (.sl false (.int .u8)) (.pair (.int .i64) (.int .i64)))), (3, .val (.sl true (.pair .str (.pair .bool .str))))])]))], [], []⟩
theorem spec_l12AnyPuts.ok : CtrOk Try.prog 125 spec_l12AnyPuts.ctr := fn_sound (A := spec_l12AnyPuts.ann) tabOk (EnvOk.cons (ctrs_cons spec_l12Puts.ok ctrs_nil) (EnvOk.cons (ctrs_cons spec_l1Below.ok ctrs_nil) (EnvOk.cons (ctrs_cons spec_l1Pick.ok ctrs_nil) (EnvOk.cons (ctrs_cons spec_Dec.ok ctrs_nil) EnvOk.nil)))) mixed (fn := Try.f125) (body := bodyOf Try.f125) Try.func125 (by kernel_rfl) (by kernel_rfl) (fun x => by kernel_rfl)

def spec_PutsOk.sig : Sig := ⟨[.val (.sl false (.pair .str (.pair .bool .str)))], [.val .bool]⟩
noncomputable def spec_PutsOk.ctr : Ctr := ⟨spec_PutsOk.sig, fun x => spec_PutsOk.f x⟩
noncomputable def spec_PutsOk.env : Env := [(72, [spec_KeyOk.ctr])]
def spec_PutsOk.ann : Ann := ⟨[(0, ([(0, .val (.sl false (.pair .str (.pair .bool .str)))), (3, .val (.int .i64))], [(.exit 0, []), (.ret, [(2, .val .bool)])]))], [], [(6, [(.normal, [(0, .val (.sl false (.pair .str (.pair .bool .str)))), (3, .val (.int .i64))]), (.ret, [(2, .val .bool)])])]⟩
theorem spec_PutsOk.ok : CtrOk Try.prog 20 spec_PutsOk.ctr := fn_sound (A := spec_PutsOk.ann) tabOk (EnvOk.cons (ctrs_cons spec_KeyOk.ok ctrs_nil) EnvOk.nil) mixed (fn := Try.f20) (body := bodyOf Try.f20) Try.func20 (by kernel_rfl) (by kernel_rfl) (fun x => by kernel_rfl)

def spec_OwnWrite.sig : Sig := ⟨[.val (.pair .bool (.pair (.sl false (.pair .str (.int .i64))) (.sl false (.pair .str (.pair .bool .str))))), .val .str], [.val (.pair .str (.pair .bool .str)), .val .bool]⟩
noncomputable def spec_OwnWrite.ctr : Ctr := ⟨spec_OwnWrite.sig, fun x => spec_OwnWrite.f x.1 x.2⟩
noncomputable def spec_OwnWrite.env : Env := []
def spec_OwnWrite.ann : Ann := ⟨[(0, ([(1, .val .str), (2, .ptr (.pair .bool (.pair (.sl false (.pair .str (.int .i64))) (.sl false (.pair .str (.pair .bool .str)))))), (4, .ptr (.pair .str (.pair .bool .str))), (6, .val (.int .i64))], [(.exit 0, [(4, .ptr (.pair .str (.pair .bool .str)))]), (.ret, [(4, .ptr (.pair .str (.pair .bool .str))), (5, .val .bool)])]))], [], []⟩
theorem spec_OwnWrite.ok : CtrOk Try.prog 35 spec_OwnWrite.ctr := fn_sound (A := spec_OwnWrite.ann) tabOk EnvOk.nil mixed (fn := Try.f35) (body := bodyOf Try.f35) Try.func35 (by kernel_rfl) (by kernel_rfl) (fun x => by kernel_rfl)

def spec_NetWrites.sig : Sig := ⟨[.val (.pair .bool (.pair (.sl false (.pair .str (.int .i64))) (.sl false (.pair .str (.pair .bool .str)))))], [.val (.sl true (.pair .str (.pair .bool .str)))]⟩
noncomputable def spec_NetWrites.ctr : Ctr := ⟨spec_NetWrites.sig, fun x => spec_NetWrites.f x⟩
noncomputable def spec_NetWrites.env : Env := [(35, [spec_OwnWrite.ctr])]
def spec_NetWrites.ann : Ann := ⟨[(2, ([(1, .ptr (.pair .bool (.pair (.sl false (.pair .str (.int .i64))) (.sl false (.pair .str (.pair .bool .str)))))), (3, .val (.sl true (.pair .str (.pair .bool .str)))), (4, .val (.int .i64)), (5, .val .bool), (6, .val (.int .i64))], [(.exit 2, [(1, .ptr (.pair .bool (.pair (.sl false (.pair .str (.int .i64))) (.sl false (.pair .str (.pair .bool .str)))))), (3, .val (.sl true (.pair .str (.pair .bool .str)))), (4, .val (.int .i64)), (5, .val .bool)])])), (0, ([(1, .ptr (.pair .bool (.pair (.sl false (.pair .str (.int .i64))) (.sl false (.pair .str (.pair .bool .str)))))), (3, .val (.sl true (.pair .str (.pair .bool .str)))), (4, .val (.int .i64))], [(.exit 0, [(3, .val (.sl true (.pair .str (.pair .bool .str))))])]))], [(3, [(.normal, [(1, .ptr (.pair .bool (.pair (.sl false (.pair .str (.int .i64))) (.sl false (.pair .str (.pair .bool .str)))))), (3, .val (.sl true (.pair .str (.pair .bool .str)))), (4, .val (.int .i64)), (5, .val .bool), (6, .val (.int .i64))])])], [(10, [(.normal, [(1, .ptr (.pair .bool (.pair (.sl false (.pair .str (.int .i64))) (.sl false (.pair .str (.pair .bool .str)))))), (3, .val (.sl true (.pair .str (.pair .bool .str)))), (4, .val (.int .i64))])])]⟩
theorem spec_NetWrites.ok : CtrOk Try.prog 54 spec_NetWrites.ctr := fn_sound (A := spec_NetWrites.ann) tabOk (EnvOk.cons (ctrs_cons spec_OwnWrite.ok ctrs_nil) EnvOk.nil) mixed (fn := Try.f54) (body := bodyOf Try.f54) Try.func54 (by kernel_rfl) (by kernel_rfl) (fun x => by kernel_rfl)

def spec_TxnWrite.sig : Sig := ⟨[.val (.pair .bool (.pair (.sl false (.pair .str (.int .i64))) (.sl false (.pair .str (.pair .bool .str))))), .val (.pair .str (.pair .bool .str))], [.val (.pair .bool (.pair (.sl true (.pair .str (.int .i64))) (.sl true (.pair .str (.pair .bool .str))))), .val .bool]⟩
noncomputable def spec_TxnWrite.ctr : Ctr := ⟨spec_TxnWrite.sig, fun x => spec_TxnWrite.f x.1 x.2⟩
noncomputable def spec_TxnWrite.env : Env := [(20, [spec_PutsOk.ctr]), (54, [spec_NetWrites.ctr]), (93, [spec_l15Copy.ctr])]
def spec_TxnWrite.ann : Ann := ⟨[], [], []⟩
theorem spec_TxnWrite.ok : CtrOk Try.prog 126 spec_TxnWrite.ctr := fn_sound (A := spec_TxnWrite.ann) tabOk (EnvOk.cons (ctrs_cons spec_PutsOk.ok ctrs_nil) (EnvOk.cons (ctrs_cons spec_NetWrites.ok ctrs_nil) (EnvOk.cons (ctrs_cons spec_l15Copy.ok ctrs_nil) EnvOk.nil))) mixed (fn := Try.f126) (body := bodyOf Try.f126) Try.func126 (by kernel_rfl) (by kernel_rfl) (fun x => by kernel_rfl)

def spec_l15Txn.sig : Sig := ⟨[.ptr (.pair (.sl false (.int .u8)) (.pair (.int .i64) (.int .i64)))], [.val (.pair .bool (.pair (.sl true (.pair .str (.int .i64))) (.sl true (.pair .str (.pair .bool .str)))))]⟩
noncomputable def spec_l15Txn.ctr : Ctr := ⟨spec_l15Txn.sig, fun x => spec_l15Txn.f x⟩
noncomputable def spec_l15Txn.env : Env := [(42, [spec_TxnRead.ctr]), (82, [spec_l1Below.ctr]), (89, [spec_l5Key.ctr]), (90, [spec_l1Once.ctr]), (125, [spec_l12AnyPuts.ctr]), (126, [spec_TxnWrite.ctr])]
def spec_l15Txn.ann : Ann := ⟨[(0, ([(0, .ptr (.pair (.sl false (.int .u8)) (.pair (.int .i64) (.int .i64)))), (2, .ptr (.pair .bool (.pair (.sl true (.pair .str (.int .i64))) (.sl true (.pair .str (.pair .bool .str)))))), (3, .ptr (.pair .bool (.pair (.sl true (.pair .str (.int .i64))) (.sl true (.pair .str (.pair .bool .str)))))), (4, .val (.int .i64))], [(.exit 0, [(0, .ptr (.pair (.sl false (.int .u8)) (.pair (.int .i64) (.int .i64)))), (2, .ptr (.pair .bool (.pair (.sl true (.pair .str (.int .i64))) (.sl true (.pair .str (.pair .bool .str)))))), (3, .ptr (.pair .bool (.pair (.sl true (.pair .str (.int .i64))) (.sl true (.pair .str (.pair .bool .str))))))])]))], [(1, [(.normal, [(0, .ptr (.pair (.sl false (.int .u8)) (.pair (.int .i64) (.int .i64)))), (2, .ptr (.pair .bool (.pair (.sl true (.pair .str (.int .i64))) (.sl true (.pair .str (.pair .bool .str)))))), (3, .ptr (.pair .bool (.pair (.sl true (.pair .str (.int .i64))) (.sl true (.pair .str (.pair .bool .str)))))), (4, .val (.int .i64))])])], []⟩
theorem spec_l15Txn.ok : CtrOk Try.prog 88 spec_l15Txn.ctr := fn_sound (A := spec_l15Txn.ann) tabOk (EnvOk.cons (ctrs_cons spec_TxnRead.ok ctrs_nil) (EnvOk.cons (ctrs_cons spec_l1Below.ok ctrs_nil) (EnvOk.cons (ctrs_cons spec_l5Key.ok ctrs_nil) (EnvOk.cons (ctrs_cons spec_l1Once.ok ctrs_nil) (EnvOk.cons (ctrs_cons spec_l12AnyPuts.ok ctrs_nil) (EnvOk.cons (ctrs_cons spec_TxnWrite.ok ctrs_nil) EnvOk.nil)))))) mixed (fn := Try.f88) (body := bodyOf Try.f88) Try.func88 (by kernel_rfl) (by kernel_rfl) (fun x => by kernel_rfl)

def spec_DrawTxnRead.sig : Sig := ⟨[.val (.sl false (.int .u8))], [.val (.pair .bool (.pair (.sl true (.pair .str (.int .i64))) (.sl true (.pair .str (.pair .bool .str))))), .val .str, .val (.int .i64)]⟩
noncomputable def spec_DrawTxnRead.ctr : Ctr := ⟨spec_DrawTxnRead.sig, fun x => spec_DrawTxnRead.f x⟩
noncomputable def spec_DrawTxnRead.env : Env := [(79, [spec_l1New.ctr]), (82, [spec_l1Below.ctr]), (88, [spec_l15Txn.ctr]), (89, [spec_l5Key.ctr]), (90, [spec_l1Once.ctr])]
def spec_DrawTxnRead.ann : Ann := ⟨[], [], [(4, [(.normal, [(2, .ptr (.pair .bool (.pair (.sl true (.pair .str (.int .i64))) (.sl true (.pair .str (.pair .bool .str)))))), (5, .ptr (.pair (.sl false (.int .u8)) (.pair (.int .i64) (.int .i64)))), (6, .ptr (.pair .bool (.pair (.sl true (.pair .str (.int .i64))) (.sl true (.pair .str (.pair .bool .str)))))), (7, .val .str)])])]⟩
theorem spec_DrawTxnRead.ok : CtrOk Try.prog 40 spec_DrawTxnRead.ctr := fn_sound (A := spec_DrawTxnRead.ann) tabOk (EnvOk.cons (ctrs_cons spec_l1New.ok ctrs_nil) (EnvOk.cons (ctrs_cons spec_l1Below.ok ctrs_nil) (EnvOk.cons (ctrs_cons spec_l15Txn.ok ctrs_nil) (EnvOk.cons (ctrs_cons spec_l5Key.ok ctrs_nil) (EnvOk.cons (ctrs_cons spec_l1Once.ok ctrs_nil) EnvOk.nil))))) mixed (fn := Try.f40) (body := bodyOf Try.f40) Try.func40 (by kernel_rfl) (by kernel_rfl) (fun x => by kernel_rfl)

def impl_copyPuts.sig : Sig := ⟨[.val (.sl false (.pair .str (.pair .bool .str)))], [.val (.sl true (.pair .str (.pair .bool .str)))]⟩
noncomputable def impl_copyPuts.ctr : Ctr := ⟨impl_copyPuts.sig, fun x => impl_copyPuts.f x⟩
noncomputable def impl_copyPuts.env : Env := []
def impl_copyPuts.ann : Ann := ⟨[], [], []⟩
theorem impl_copyPuts.ok : CtrOk Try.prog 128 impl_copyPuts.ctr := fn_sound (A := impl_copyPuts.ann) tabOk EnvOk.nil mixed (fn := Try.f128) (body := bodyOf Try.f128) Try.func128 (by kernel_rfl) (by kernel_rfl) (fun x => by kernel_rfl)

def impl_copyTxn.sig : Sig := ⟨[.val (.pair .bool (.pair (.sl false (.pair .str (.int .i64))) (.sl false (.pair .str (.pair .bool .str)))))], [.val (.pair .bool (.pair (.sl true (.pair .str (.int .i64))) (.sl true (.pair .str (.pair .bool .str)))))]⟩
noncomputable def impl_copyTxn.ctr : Ctr := ⟨impl_copyTxn.sig, fun x => impl_copyTxn.f x⟩
noncomputable def impl_copyTxn.env : Env := [(128, [impl_copyPuts.ctr])]
def impl_copyTxn.ann : Ann := ⟨[], [], []⟩
theorem impl_copyTxn.ok : CtrOk Try.prog 91 impl_copyTxn.ctr := fn_sound (A := impl_copyTxn.ann) tabOk (EnvOk.cons (ctrs_cons impl_copyPuts.ok ctrs_nil) EnvOk.nil) mixed (fn := Try.f91) (body := bodyOf Try.f91) Try.func91 (by kernel_rfl) (by kernel_rfl) (fun x => by kernel_rfl)

def impl_in.sig : Sig := ⟨[.val (.int .i64), .val (.int .i64), .val (.int .i64)], [.val .bool]⟩
noncomputable def impl_in.ctr : Ctr := ⟨impl_in.sig, fun x => impl_in.f x.1 x.2.1 x.2.2⟩
noncomputable def impl_in.env : Env := []
def impl_in.ann : Ann := ⟨[], [], []⟩
theorem impl_in.ok : CtrOk Try.prog 129 impl_in.ctr := fn_sound (A := impl_in.ann) tabOk EnvOk.nil mixed (fn := Try.f129) (body := bodyOf Try.f129) Try.func129 (by kernel_rfl) (by kernel_rfl) (fun x => by kernel_rfl)

def impl_KeyOk.sig : Sig := ⟨[.val .str], [.val .bool]⟩
noncomputable def impl_KeyOk.ctr : Ctr := ⟨impl_KeyOk.sig, fun x => impl_KeyOk.f x⟩
noncomputable def impl_KeyOk.env : Env := [(129, [impl_in.ctr])]
def impl_KeyOk.ann : Ann := ⟨[], [], []⟩
theorem impl_KeyOk.ok : CtrOk Try.prog 92 impl_KeyOk.ctr := fn_sound (A := impl_KeyOk.ann) tabOk (EnvOk.cons (ctrs_cons impl_in.ok ctrs_nil) EnvOk.nil) mixed (fn := Try.f92) (body := bodyOf Try.f92) Try.func92 (by kernel_rfl) (by kernel_rfl) (fun x => by kernel_rfl)

def impl_TxnRead.sig : Sig := ⟨[.val (.pair .bool (.pair (.sl false (.pair .str (.int .i64))) (.sl false (.pair .str (.pair .bool .str))))), .val .str, .val (.int .i64)], [.val (.pair .bool (.pair (.sl true (.pair .str (.int .i64))) (.sl true (.pair .str (.pair .bool .str))))), .val (.int .i64)]⟩
noncomputable def impl_TxnRead.ctr : Ctr := ⟨impl_TxnRead.sig, fun x => impl_TxnRead.f x.1 x.2.1 x.2.2⟩
noncomputable def impl_TxnRead.env : Env := [(91, [impl_copyTxn.ctr]), (92, [impl_KeyOk.ctr])]
def impl_TxnRead.ann : Ann := ⟨[(0, ([(1, .val .str), (2, .val (.int .i64)), (3, .ptr (.pair .bool (.pair (.sl false (.pair .str (.int .i64))) (.sl false (.pair .str (.pair .bool .str)))))), (6, .ptr (.pair .bool (.pair (.sl true (.pair .str (.int .i64))) (.sl true (.pair .str (.pair .bool .str)))))), (8, .ptr (.pair .bool (.pair (.sl true (.pair .str (.int .i64))) (.sl true (.pair .str (.pair .bool .str)))))), (9, .val .bool), (24, .val (.sl false (.pair .str (.int .i64)))), (25, .val (.int .i64)), (26, .val (.int .i64))], [(.exit 0, [(1, .val .str), (2, .val (.int .i64)), (3, .ptr (.pair .bool (.pair (.sl false (.pair .str (.int .i64))) (.sl false (.pair .str (.pair .bool .str)))))), (6, .ptr (.pair .bool (.pair (.sl true (.pair .str (.int .i64))) (.sl true (.pair .str (.pair .bool .str)))))), (8, .ptr (.pair .bool (.pair (.sl true (.pair .str (.int .i64))) (.sl true (.pair .str (.pair .bool .str)))))), (9, .val .bool)]), (.ret, [(6, .ptr (.pair .bool (.pair (.sl true (.pair .str (.int .i64))) (.sl true (.pair .str (.pair .bool .str)))))), (7, .val (.int .i64))])]))], [(1, [(.normal, [(1, .val .str), (2, .val (.int .i64)), (3, .ptr (.pair .bool (.pair (.sl false (.pair .str (.int .i64))) (.sl false (.pair .str (.pair .bool .str)))))), (6, .ptr (.pair .bool (.pair (.sl true (.pair .str (.int .i64))) (.sl true (.pair .str (.pair .bool .str)))))), (8, .ptr (.pair .bool (.pair (.sl true (.pair .str (.int .i64))) (.sl true (.pair .str (.pair .bool .str)))))), (9, .val .bool), (24, .val (.sl false (.pair .str (.int .i64)))), (25, .val (.int .i64)), (26, .val (.int .i64))]), (.ret, [(6, .ptr (.pair .bool (.pair (.sl true (.pair .str (.int .i64))) (.sl true (.pair .str (.pair .bool .str)))))), (7, .val (.int .i64))])])], []⟩
theorem impl_TxnRead.ok : CtrOk Try.prog 41 impl_TxnRead.ctr := fn_sound (A := impl_TxnRead.ann) tabOk (EnvOk.cons (ctrs_cons impl_copyTxn.ok ctrs_nil) (EnvOk.cons (ctrs_cons impl_KeyOk.ok ctrs_nil) EnvOk.nil)) mixed (fn := Try.f41) (body := bodyOf Try.f41) Try.func41 (by kernel_rfl) (by kernel_rfl) (fun x => by kernel_rfl)

def laws_FnRows.sig : Sig := ⟨[.val (.sl false (.int .u8))], [.val .bool]⟩
noncomputable def laws_FnRows.ctr : Ctr := ⟨laws_FnRows.sig, fun x => laws_FnRows.f x⟩
noncomputable def laws_FnRows.env : Env := [(29, [laws_big.ctr]), (40, [spec_DrawTxnRead.ctr]), (41, [impl_TxnRead.ctr]), (42, [spec_TxnRead.ctr])]
def laws_FnRows.ann : Ann := ⟨[], [], []⟩
theorem laws_FnRows.ok : CtrOk Try.prog 8 laws_FnRows.ctr := fn_sound (A := laws_FnRows.ann) tabOk (EnvOk.cons (ctrs_cons laws_big.ok ctrs_nil) (EnvOk.cons (ctrs_cons spec_DrawTxnRead.ok ctrs_nil) (EnvOk.cons (ctrs_cons impl_TxnRead.ok ctrs_nil) (EnvOk.cons (ctrs_cons spec_TxnRead.ok ctrs_nil) EnvOk.nil)))) mixed (fn := Try.f8) (body := bodyOf Try.f8) Try.func8 (by kernel_rfl) (by kernel_rfl) (fun x => by kernel_rfl)

end Go.Proofs.Ytaijmhaonokniaa
