/- Each function of the program that FnNets reaches comes to its plain function. -/
import Derived.Test.YtgjkmdolbkoocaaRf5
import Derived.Test.YtgjkmdolbkoocaaLNetsFns
import Derived.Test.YtgjkmdolbkoocaaProg
namespace Go.Proofs.Ytgjkmdolbkoocaa
open Go Go.Rf Go.Rf.G Go.Proofs
set_option maxRecDepth 100000
def bodyOf (f : Func) : Code := f.body.getD .skip
def tab : Tab := [(3, ⟨(.int .i64), false, [], none, 8, false⟩),
  (4, ⟨.bool, false, [], none, 1, false⟩),
  (5, ⟨(.int .u8), false, [], none, 1, false⟩),
  (9, ⟨.str, false, [], none, 16, false⟩),
  (35, ⟨(.sl true (.int .u8)), false, [], some 5, 24, false⟩),
  (37, ⟨(.sl true (.pair .str (.int .i64))), false, [], some 134, 24, false⟩),
  (38, ⟨(.sl true (.pair .str (.pair .bool .str))), false, [], some 46, 24, false⟩),
  (40, ⟨(.pair .bool (.pair (.sl true (.pair .str (.int .i64))) (.sl true (.pair .str (.pair .bool .str))))), true, [(0, 1, false), (1, 1, false), (2, 1, false)], none, 56, false⟩),
  (43, ⟨(.sl true (.pair .str (.pair .str (.int .i64)))), false, [], some 111, 24, false⟩),
  (46, ⟨(.pair .str (.pair .bool .str)), true, [(0, 1, false), (1, 1, false), (2, 1, false)], none, 40, true⟩),
  (86, ⟨(.sl true .str), false, [], some 9, 24, false⟩),
  (111, ⟨(.pair .str (.pair .str (.int .i64))), true, [(0, 1, false), (1, 1, false), (2, 1, false)], none, 40, true⟩),
  (134, ⟨(.pair .str (.int .i64)), true, [(0, 1, false), (1, 1, false)], none, 24, true⟩),
  (163, ⟨(.pair (.sl true (.int .u8)) (.pair (.int .i64) (.int .i64))), true, [(0, 1, false), (1, 1, false), (2, 1, false)], none, 40, false⟩)]
theorem tabOk : TabOk Try.prog tab := Rf.tabOk (by kernel_rfl)
theorem mixed : Try.prog.follows .mixedOrders = true := by kernel_rfl
def laws_big.sig : Sig := ⟨[.val (.sl false (.int .u8))], [.val .bool]⟩
noncomputable def laws_big.ctr : Ctr := ⟨laws_big.sig, fun x => laws_big.f x⟩
noncomputable def laws_big.env : Env := []
def laws_big.ann : Ann := ⟨[], [], []⟩
theorem laws_big.ok : CtrOk Try.prog 22 laws_big.ctr := fn_sound (A := laws_big.ann) tabOk EnvOk.nil mixed (fn := Try.f22) (body := bodyOf Try.f22) Try.func22 (by kernel_rfl) (by kernel_rfl) (fun x => by kernel_rfl)

def spec_l1New.sig : Sig := ⟨[.val (.sl false (.int .u8))], [.ptr (.pair (.sl false (.int .u8)) (.pair (.int .i64) (.int .i64)))]⟩
noncomputable def spec_l1New.ctr : Ctr := ⟨spec_l1New.sig, fun x => spec_l1New.f x⟩
noncomputable def spec_l1New.env : Env := []
def spec_l1New.ann : Ann := ⟨[(0, ([(0, .val (.sl false (.int .u8))), (3, .val (.int .i64)), (4, .val (.int .i64))], [(.exit 0, [(0, .val (.sl false (.int .u8))), (3, .val (.int .i64))])]))], [], []⟩
theorem spec_l1New.ok : CtrOk Try.prog 80 spec_l1New.ctr := fn_sound (A := spec_l1New.ann) tabOk EnvOk.nil mixed (fn := Try.f80) (body := bodyOf Try.f80) Try.func80 (by kernel_rfl) (by kernel_rfl) (fun x => by kernel_rfl)

def spec_l15Copy.sig : Sig := ⟨[.val (.pair .bool (.pair (.sl false (.pair .str (.int .i64))) (.sl false (.pair .str (.pair .bool .str)))))], [.val (.pair .bool (.pair (.sl true (.pair .str (.int .i64))) (.sl true (.pair .str (.pair .bool .str)))))]⟩
noncomputable def spec_l15Copy.ctr : Ctr := ⟨spec_l15Copy.sig, fun x => spec_l15Copy.f x⟩
noncomputable def spec_l15Copy.env : Env := []
def spec_l15Copy.ann : Ann := ⟨[], [], []⟩
theorem spec_l15Copy.ok : CtrOk Try.prog 105 spec_l15Copy.ctr := fn_sound (A := spec_l15Copy.ann) tabOk EnvOk.nil mixed (fn := Try.f105) (body := bodyOf Try.f105) Try.func105 (by kernel_rfl) (by kernel_rfl) (fun x => by kernel_rfl)

def spec_l1In.sig : Sig := ⟨[.val (.int .i64), .val (.int .i64), .val (.int .i64)], [.val .bool]⟩
noncomputable def spec_l1In.ctr : Ctr := ⟨spec_l1In.sig, fun x => spec_l1In.f x.1 x.2.1 x.2.2⟩
noncomputable def spec_l1In.env : Env := []
def spec_l1In.ann : Ann := ⟨[], [], []⟩
theorem spec_l1In.ok : CtrOk Try.prog 100 spec_l1In.ctr := fn_sound (A := spec_l1In.ann) tabOk EnvOk.nil mixed (fn := Try.f100) (body := bodyOf Try.f100) Try.func100 (by kernel_rfl) (by kernel_rfl) (fun x => by kernel_rfl)

def spec_KeyOk.sig : Sig := ⟨[.val .str], [.val .bool]⟩
noncomputable def spec_KeyOk.ctr : Ctr := ⟨spec_KeyOk.sig, fun x => spec_KeyOk.f x⟩
noncomputable def spec_KeyOk.env : Env := [(100, [spec_l1In.ctr])]
def spec_KeyOk.ann : Ann := ⟨[], [], []⟩
theorem spec_KeyOk.ok : CtrOk Try.prog 106 spec_KeyOk.ctr := fn_sound (A := spec_KeyOk.ann) tabOk (EnvOk.cons (ctrs_cons spec_l1In.ok ctrs_nil) EnvOk.nil) mixed (fn := Try.f106) (body := bodyOf Try.f106) Try.func106 (by kernel_rfl) (by kernel_rfl) (fun x => by kernel_rfl)

def spec_TxnRead.sig : Sig := ⟨[.val (.pair .bool (.pair (.sl false (.pair .str (.int .i64))) (.sl false (.pair .str (.pair .bool .str))))), .val .str, .val (.int .i64)], [.val (.pair .bool (.pair (.sl true (.pair .str (.int .i64))) (.sl true (.pair .str (.pair .bool .str))))), .val (.int .i64)]⟩
noncomputable def spec_TxnRead.ctr : Ctr := ⟨spec_TxnRead.sig, fun x => spec_TxnRead.f x.1 x.2.1 x.2.2⟩
noncomputable def spec_TxnRead.env : Env := [(105, [spec_l15Copy.ctr]), (106, [spec_KeyOk.ctr])]
def spec_TxnRead.ann : Ann := ⟨[(0, ([(1, .val .str), (2, .val (.int .i64)), (3, .ptr (.pair .bool (.pair (.sl false (.pair .str (.int .i64))) (.sl false (.pair .str (.pair .bool .str)))))), (6, .ptr (.pair .bool (.pair (.sl true (.pair .str (.int .i64))) (.sl true (.pair .str (.pair .bool .str)))))), (8, .ptr (.pair .bool (.pair (.sl true (.pair .str (.int .i64))) (.sl true (.pair .str (.pair .bool .str)))))), (9, .val (.int .i64))], [(.exit 0, [(1, .val .str), (2, .val (.int .i64)), (3, .ptr (.pair .bool (.pair (.sl false (.pair .str (.int .i64))) (.sl false (.pair .str (.pair .bool .str)))))), (6, .ptr (.pair .bool (.pair (.sl true (.pair .str (.int .i64))) (.sl true (.pair .str (.pair .bool .str)))))), (8, .ptr (.pair .bool (.pair (.sl true (.pair .str (.int .i64))) (.sl true (.pair .str (.pair .bool .str))))))]), (.ret, [(6, .ptr (.pair .bool (.pair (.sl true (.pair .str (.int .i64))) (.sl true (.pair .str (.pair .bool .str)))))), (7, .val (.int .i64))])]))], [], []⟩
theorem spec_TxnRead.ok : CtrOk Try.prog 40 spec_TxnRead.ctr := fn_sound (A := spec_TxnRead.ann) tabOk (EnvOk.cons (ctrs_cons spec_l15Copy.ok ctrs_nil) (EnvOk.cons (ctrs_cons spec_KeyOk.ok ctrs_nil) EnvOk.nil)) mixed (fn := Try.f40) (body := bodyOf Try.f40) Try.func40 (by kernel_rfl) (by kernel_rfl) (fun x => by kernel_rfl)

def spec_OwnWrite.sig : Sig := ⟨[.val (.pair .bool (.pair (.sl false (.pair .str (.int .i64))) (.sl false (.pair .str (.pair .bool .str))))), .val .str], [.val (.pair .str (.pair .bool .str)), .val .bool]⟩
noncomputable def spec_OwnWrite.ctr : Ctr := ⟨spec_OwnWrite.sig, fun x => spec_OwnWrite.f x.1 x.2⟩
noncomputable def spec_OwnWrite.env : Env := []
def spec_OwnWrite.ann : Ann := ⟨[(0, ([(1, .val .str), (2, .ptr (.pair .bool (.pair (.sl false (.pair .str (.int .i64))) (.sl false (.pair .str (.pair .bool .str)))))), (4, .ptr (.pair .str (.pair .bool .str))), (6, .val (.int .i64))], [(.exit 0, [(4, .ptr (.pair .str (.pair .bool .str)))]), (.ret, [(4, .ptr (.pair .str (.pair .bool .str))), (5, .val .bool)])]))], [], []⟩
theorem spec_OwnWrite.ok : CtrOk Try.prog 86 spec_OwnWrite.ctr := fn_sound (A := spec_OwnWrite.ann) tabOk EnvOk.nil mixed (fn := Try.f86) (body := bodyOf Try.f86) Try.func86 (by kernel_rfl) (by kernel_rfl) (fun x => by kernel_rfl)

def spec_NetWrites.sig : Sig := ⟨[.val (.pair .bool (.pair (.sl false (.pair .str (.int .i64))) (.sl false (.pair .str (.pair .bool .str)))))], [.val (.sl true (.pair .str (.pair .bool .str)))]⟩
noncomputable def spec_NetWrites.ctr : Ctr := ⟨spec_NetWrites.sig, fun x => spec_NetWrites.f x⟩
noncomputable def spec_NetWrites.env : Env := [(86, [spec_OwnWrite.ctr])]
def spec_NetWrites.ann : Ann := ⟨[(2, ([(1, .ptr (.pair .bool (.pair (.sl false (.pair .str (.int .i64))) (.sl false (.pair .str (.pair .bool .str)))))), (3, .val (.sl true (.pair .str (.pair .bool .str)))), (4, .val (.int .i64)), (5, .val .bool), (6, .val (.int .i64))], [(.exit 2, [(1, .ptr (.pair .bool (.pair (.sl false (.pair .str (.int .i64))) (.sl false (.pair .str (.pair .bool .str)))))), (3, .val (.sl true (.pair .str (.pair .bool .str)))), (4, .val (.int .i64)), (5, .val .bool)])])), (0, ([(1, .ptr (.pair .bool (.pair (.sl false (.pair .str (.int .i64))) (.sl false (.pair .str (.pair .bool .str)))))), (3, .val (.sl true (.pair .str (.pair .bool .str)))), (4, .val (.int .i64))], [(.exit 0, [(3, .val (.sl true (.pair .str (.pair .bool .str))))])]))], [(3, [(.normal, [(1, .ptr (.pair .bool (.pair (.sl false (.pair .str (.int .i64))) (.sl false (.pair .str (.pair .bool .str)))))), (3, .val (.sl true (.pair .str (.pair .bool .str)))), (4, .val (.int .i64)), (5, .val .bool), (6, .val (.int .i64))])])], [(10, [(.normal, [(1, .ptr (.pair .bool (.pair (.sl false (.pair .str (.int .i64))) (.sl false (.pair .str (.pair .bool .str)))))), (3, .val (.sl true (.pair .str (.pair .bool .str)))), (4, .val (.int .i64))])])]⟩
theorem spec_NetWrites.ok : CtrOk Try.prog 29 spec_NetWrites.ctr := fn_sound (A := spec_NetWrites.ann) tabOk (EnvOk.cons (ctrs_cons spec_OwnWrite.ok ctrs_nil) EnvOk.nil) mixed (fn := Try.f29) (body := bodyOf Try.f29) Try.func29 (by kernel_rfl) (by kernel_rfl) (fun x => by kernel_rfl)

def spec_PutsOk.sig : Sig := ⟨[.val (.sl false (.pair .str (.pair .bool .str)))], [.val .bool]⟩
noncomputable def spec_PutsOk.ctr : Ctr := ⟨spec_PutsOk.sig, fun x => spec_PutsOk.f x⟩
noncomputable def spec_PutsOk.env : Env := [(106, [spec_KeyOk.ctr])]
def spec_PutsOk.ann : Ann := ⟨[(0, ([(0, .val (.sl false (.pair .str (.pair .bool .str)))), (3, .val (.int .i64))], [(.exit 0, []), (.ret, [(2, .val .bool)])]))], [], [(6, [(.normal, [(0, .val (.sl false (.pair .str (.pair .bool .str)))), (3, .val (.int .i64))]), (.ret, [(2, .val .bool)])])]⟩
theorem spec_PutsOk.ok : CtrOk Try.prog 129 spec_PutsOk.ctr := fn_sound (A := spec_PutsOk.ann) tabOk (EnvOk.cons (ctrs_cons spec_KeyOk.ok ctrs_nil) EnvOk.nil) mixed (fn := Try.f129) (body := bodyOf Try.f129) Try.func129 (by kernel_rfl) (by kernel_rfl) (fun x => by kernel_rfl)

def spec_TxnWrite.sig : Sig := ⟨[.val (.pair .bool (.pair (.sl false (.pair .str (.int .i64))) (.sl false (.pair .str (.pair .bool .str))))), .val (.pair .str (.pair .bool .str))], [.val (.pair .bool (.pair (.sl true (.pair .str (.int .i64))) (.sl true (.pair .str (.pair .bool .str))))), .val .bool]⟩
noncomputable def spec_TxnWrite.ctr : Ctr := ⟨spec_TxnWrite.sig, fun x => spec_TxnWrite.f x.1 x.2⟩
noncomputable def spec_TxnWrite.env : Env := [(29, [spec_NetWrites.ctr]), (105, [spec_l15Copy.ctr]), (129, [spec_PutsOk.ctr])]
def spec_TxnWrite.ann : Ann := ⟨[], [], []⟩
theorem spec_TxnWrite.ok : CtrOk Try.prog 59 spec_TxnWrite.ctr := fn_sound (A := spec_TxnWrite.ann) tabOk (EnvOk.cons (ctrs_cons spec_NetWrites.ok ctrs_nil) (EnvOk.cons (ctrs_cons spec_l15Copy.ok ctrs_nil) (EnvOk.cons (ctrs_cons spec_PutsOk.ok ctrs_nil) EnvOk.nil))) mixed (fn := Try.f59) (body := bodyOf Try.f59) Try.func59 (by kernel_rfl) (by kernel_rfl) (fun x => by kernel_rfl)

def spec_l1Byte.sig : Sig := ⟨[.ptr (.pair (.sl false (.int .u8)) (.pair (.int .i64) (.int .i64)))], [.val (.int .i64)]⟩
noncomputable def spec_l1Byte.ctr : Ctr := ⟨spec_l1Byte.sig, fun x => spec_l1Byte.f x⟩
noncomputable def spec_l1Byte.env : Env := []
def spec_l1Byte.ann : Ann := ⟨[], [], []⟩
theorem spec_l1Byte.ok : CtrOk Try.prog 166 spec_l1Byte.ctr := fn_sound (A := spec_l1Byte.ann) tabOk EnvOk.nil mixed (fn := Try.f166) (body := bodyOf Try.f166) Try.func166 (by kernel_rfl) (by kernel_rfl) (fun x => by kernel_rfl)

def spec_l1Below.sig : Sig := ⟨[.ptr (.pair (.sl false (.int .u8)) (.pair (.int .i64) (.int .i64))), .val (.int .i64)], [.val (.int .i64)]⟩
noncomputable def spec_l1Below.ctr : Ctr := ⟨spec_l1Below.sig, fun x => spec_l1Below.f x.1 x.2⟩
noncomputable def spec_l1Below.env : Env := [(166, [spec_l1Byte.ctr])]
def spec_l1Below.ann : Ann := ⟨[], [], []⟩
theorem spec_l1Below.ok : CtrOk Try.prog 142 spec_l1Below.ctr := fn_sound (A := spec_l1Below.ann) tabOk (EnvOk.cons (ctrs_cons spec_l1Byte.ok ctrs_nil) EnvOk.nil) mixed (fn := Try.f142) (body := bodyOf Try.f142) Try.func142 (by kernel_rfl) (by kernel_rfl) (fun x => by kernel_rfl)

def spec_l1Once.sig : Sig := ⟨[.ptr (.pair (.sl false (.int .u8)) (.pair (.int .i64) (.int .i64))), .val (.int .i64)], [.val .bool]⟩
noncomputable def spec_l1Once.ctr : Ctr := ⟨spec_l1Once.sig, fun x => spec_l1Once.f x.1 x.2⟩
noncomputable def spec_l1Once.env : Env := [(142, [spec_l1Below.ctr])]
def spec_l1Once.ann : Ann := ⟨[], [], []⟩
theorem spec_l1Once.ok : CtrOk Try.prog 141 spec_l1Once.ctr := fn_sound (A := spec_l1Once.ann) tabOk (EnvOk.cons (ctrs_cons spec_l1Below.ok ctrs_nil) EnvOk.nil) mixed (fn := Try.f141) (body := bodyOf Try.f141) Try.func141 (by kernel_rfl) (by kernel_rfl) (fun x => by kernel_rfl)

def spec_l1Pick.sig : Sig := ⟨[.ptr (.pair (.sl false (.int .u8)) (.pair (.int .i64) (.int .i64))), .val (.sl false .str)], [.val .str]⟩
noncomputable def spec_l1Pick.ctr : Ctr := ⟨spec_l1Pick.sig, fun x => spec_l1Pick.f x.1 x.2⟩
noncomputable def spec_l1Pick.env : Env := [(142, [spec_l1Below.ctr])]
def spec_l1Pick.ann : Ann := ⟨[], [], []⟩
theorem spec_l1Pick.ok : CtrOk Try.prog 164 spec_l1Pick.ctr := fn_sound (A := spec_l1Pick.ann) tabOk (EnvOk.cons (ctrs_cons spec_l1Below.ok ctrs_nil) EnvOk.nil) mixed (fn := Try.f164) (body := bodyOf Try.f164) Try.func164 (by kernel_rfl) (by kernel_rfl) (fun x => by kernel_rfl)

def spec_l5Key.sig : Sig := ⟨[.ptr (.pair (.sl false (.int .u8)) (.pair (.int .i64) (.int .i64)))], [.val .str]⟩
noncomputable def spec_l5Key.ctr : Ctr := ⟨spec_l5Key.sig, fun x => spec_l5Key.f x⟩
noncomputable def spec_l5Key.env : Env := [(164, [spec_l1Pick.ctr])]
def spec_l5Key.ann : Ann := ⟨[], [], []⟩
theorem spec_l5Key.ok : CtrOk Try.prog 143 spec_l5Key.ctr := fn_sound (A := spec_l5Key.ann) tabOk (EnvOk.cons (ctrs_cons spec_l1Pick.ok ctrs_nil) EnvOk.nil) mixed (fn := Try.f143) (body := bodyOf Try.f143) Try.func143 (by kernel_rfl) (by kernel_rfl) (fun x => by kernel_rfl)

def spec_Dec.sig : Sig := ⟨[.val (.int .i64)], [.val .str]⟩
noncomputable def spec_Dec.ctr : Ctr := ⟨spec_Dec.sig, fun x => spec_Dec.f x⟩
noncomputable def spec_Dec.env : Env := []
def spec_Dec.ann : Ann := ⟨[(0, ([(0, .val (.int .i64)), (3, .val .str), (4, .val .bool)], [(.exit 0, [(3, .val .str), (4, .val .bool)])]))], [], [(7, [(.normal, [(0, .val (.int .i64)), (3, .val .str), (4, .val .bool), (5, .val (.int .i64))])])]⟩
theorem spec_Dec.ok : CtrOk Try.prog 165 spec_Dec.ctr := fn_sound (A := spec_Dec.ann) tabOk EnvOk.nil mixed (fn := Try.f165) (body := bodyOf Try.f165) Try.func165 (by kernel_rfl) (by kernel_rfl) (fun x => by kernel_rfl)

def spec_l1Text.sig : Sig := ⟨[.ptr (.pair (.sl false (.int .u8)) (.pair (.int .i64) (.int .i64))), .val (.int .i64)], [.val .str]⟩
noncomputable def spec_l1Text.ctr : Ctr := ⟨spec_l1Text.sig, fun x => spec_l1Text.f x.1 x.2⟩
noncomputable def spec_l1Text.env : Env := [(142, [spec_l1Below.ctr]), (166, [spec_l1Byte.ctr])]
def spec_l1Text.ann : Ann := ⟨[(0, ([(0, .ptr (.pair (.sl false (.int .u8)) (.pair (.int .i64) (.int .i64)))), (5, .val (.sl true (.int .u8))), (6, .val (.int .i64)), (7, .val (.int .i64))], [(.exit 0, [(0, .ptr (.pair (.sl false (.int .u8)) (.pair (.int .i64) (.int .i64)))), (5, .val (.sl true (.int .u8)))])]))], [], [(7, [(.normal, [(0, .ptr (.pair (.sl false (.int .u8)) (.pair (.int .i64) (.int .i64)))), (5, .val (.sl true (.int .u8))), (6, .val (.int .i64)), (7, .val (.int .i64)), (8, .val (.int .i64))])]), (9, [(.normal, [(0, .ptr (.pair (.sl false (.int .u8)) (.pair (.int .i64) (.int .i64)))), (5, .val (.sl true (.int .u8))), (6, .val (.int .i64)), (7, .val (.int .i64)), (8, .val (.int .i64))])])]⟩
theorem spec_l1Text.ok : CtrOk Try.prog 134 spec_l1Text.ctr := fn_sound (A := spec_l1Text.ann) tabOk (EnvOk.cons (ctrs_cons spec_l1Below.ok ctrs_nil) (EnvOk.cons (ctrs_cons spec_l1Byte.ok ctrs_nil) EnvOk.nil)) mixed (fn := Try.f134) (body := bodyOf Try.f134) Try.func134 (by kernel_rfl) (by kernel_rfl) (fun x => by kernel_rfl)

def spec_l12Puts.sig : Sig := ⟨[.ptr (.pair (.sl false (.int .u8)) (.pair (.int .i64) (.int .i64)))], [.val (.sl true (.pair .str (.pair .bool .str)))]⟩
noncomputable def spec_l12Puts.ctr : Ctr := ⟨spec_l12Puts.sig, fun x => spec_l12Puts.f x⟩
noncomputable def spec_l12Puts.env : Env := [(134, [spec_l1Text.ctr]), (141, [spec_l1Once.ctr]), (142, [spec_l1Below.ctr]), (143, [spec_l5Key.ctr])]
def spec_l12Puts.ann : Ann := ⟨[(0, ([(0, .ptr (.pair (.sl false (.int .u8)) (.pair (.int .i64) (.int .i64)))), (3, .val (.sl true (.pair .str (.pair .bool .str)))), (4, .val (.int .i64))], [(.exit 0, [(0, .ptr (.pair (.sl false (.int .u8)) (.pair (.int .i64) (.int .i64)))), (3, .val (.sl true (.pair .str (.pair .bool .str))))])]))], [], [(6, [(.normal, [(0, .ptr (.pair (.sl false (.int .u8)) (.pair (.int .i64) (.int .i64)))), (3, .val (.sl true (.pair .str (.pair .bool .str)))), (4, .val (.int .i64)), (5, .ptr (.pair .str (.pair .bool .str)))])])]⟩
theorem spec_l12Puts.ok : CtrOk Try.prog 167 spec_l12Puts.ctr := fn_sound (A := spec_l12Puts.ann) tabOk (EnvOk.cons (ctrs_cons spec_l1Text.ok ctrs_nil) (EnvOk.cons (ctrs_cons spec_l1Once.ok ctrs_nil) (EnvOk.cons (ctrs_cons spec_l1Below.ok ctrs_nil) (EnvOk.cons (ctrs_cons spec_l5Key.ok ctrs_nil) EnvOk.nil)))) mixed (fn := Try.f167) (body := bodyOf Try.f167) Try.func167 (by kernel_rfl) (by kernel_rfl) (fun x => by kernel_rfl)

def spec_l12AnyPuts.sig : Sig := ⟨[.ptr (.pair (.sl false (.int .u8)) (.pair (.int .i64) (.int .i64)))], [.val (.sl true (.pair .str (.pair .bool .str)))]⟩
noncomputable def spec_l12AnyPuts.ctr : Ctr := ⟨spec_l12AnyPuts.sig, fun x => spec_l12AnyPuts.f x⟩
noncomputable def spec_l12AnyPuts.env : Env := [(142, [spec_l1Below.ctr]), (164, [spec_l1Pick.ctr]), (165, [spec_Dec.ctr]), (167, [spec_l12Puts.ctr])]
def spec_l12AnyPuts.ann : Ann := ⟨[(1, ([(0, .ptr (.pair (.sl false (.int .u8)) (.pair (.int .i64) (.int .i64)))), (3, .val (.sl true (.pair .str (.pair .bool .str))))], [(.exit 1, [(0, .ptr (.pair (.sl false (.int .u8)) (.pair (.int .i64) (.int .i64)))), (3, .val (.sl true (.pair .str (.pair .bool .str))))])]))], [], []⟩
theorem spec_l12AnyPuts.ok : CtrOk Try.prog 144 spec_l12AnyPuts.ctr := fn_sound (A := spec_l12AnyPuts.ann) tabOk (EnvOk.cons (ctrs_cons spec_l1Below.ok ctrs_nil) (EnvOk.cons (ctrs_cons spec_l1Pick.ok ctrs_nil) (EnvOk.cons (ctrs_cons spec_Dec.ok ctrs_nil) (EnvOk.cons (ctrs_cons spec_l12Puts.ok ctrs_nil) EnvOk.nil)))) mixed (fn := Try.f144) (body := bodyOf Try.f144) Try.func144 (by kernel_rfl) (by kernel_rfl) (fun x => by kernel_rfl)

def spec_l15Txn.sig : Sig := ⟨[.ptr (.pair (.sl false (.int .u8)) (.pair (.int .i64) (.int .i64)))], [.val (.pair .bool (.pair (.sl true (.pair .str (.int .i64))) (.sl true (.pair .str (.pair .bool .str)))))]⟩
noncomputable def spec_l15Txn.ctr : Ctr := ⟨spec_l15Txn.sig, fun x => spec_l15Txn.f x⟩
noncomputable def spec_l15Txn.env : Env := [(40, [spec_TxnRead.ctr]), (59, [spec_TxnWrite.ctr]), (141, [spec_l1Once.ctr]), (142, [spec_l1Below.ctr]), (143, [spec_l5Key.ctr]), (144, [spec_l12AnyPuts.ctr])]
def spec_l15Txn.ann : Ann := ⟨[(0, ([(0, .ptr (.pair (.sl false (.int .u8)) (.pair (.int .i64) (.int .i64)))), (2, .ptr (.pair .bool (.pair (.sl true (.pair .str (.int .i64))) (.sl true (.pair .str (.pair .bool .str)))))), (3, .ptr (.pair .bool (.pair (.sl true (.pair .str (.int .i64))) (.sl true (.pair .str (.pair .bool .str)))))), (4, .val (.int .i64))], [(.exit 0, [(0, .ptr (.pair (.sl false (.int .u8)) (.pair (.int .i64) (.int .i64)))), (2, .ptr (.pair .bool (.pair (.sl true (.pair .str (.int .i64))) (.sl true (.pair .str (.pair .bool .str)))))), (3, .ptr (.pair .bool (.pair (.sl true (.pair .str (.int .i64))) (.sl true (.pair .str (.pair .bool .str))))))])]))], [(1, [(.normal, [(0, .ptr (.pair (.sl false (.int .u8)) (.pair (.int .i64) (.int .i64)))), (2, .ptr (.pair .bool (.pair (.sl true (.pair .str (.int .i64))) (.sl true (.pair .str (.pair .bool .str)))))), (3, .ptr (.pair .bool (.pair (.sl true (.pair .str (.int .i64))) (.sl true (.pair .str (.pair .bool .str)))))), (4, .val (.int .i64))])])], []⟩
theorem spec_l15Txn.ok : CtrOk Try.prog 81 spec_l15Txn.ctr := fn_sound (A := spec_l15Txn.ann) tabOk (EnvOk.cons (ctrs_cons spec_TxnRead.ok ctrs_nil) (EnvOk.cons (ctrs_cons spec_TxnWrite.ok ctrs_nil) (EnvOk.cons (ctrs_cons spec_l1Once.ok ctrs_nil) (EnvOk.cons (ctrs_cons spec_l1Below.ok ctrs_nil) (EnvOk.cons (ctrs_cons spec_l5Key.ok ctrs_nil) (EnvOk.cons (ctrs_cons spec_l12AnyPuts.ok ctrs_nil) EnvOk.nil)))))) mixed (fn := Try.f81) (body := bodyOf Try.f81) Try.func81 (by kernel_rfl) (by kernel_rfl) (fun x => by kernel_rfl)

def spec_DrawNetWrites.sig : Sig := ⟨[.val (.sl false (.int .u8))], [.val (.pair .bool (.pair (.sl true (.pair .str (.int .i64))) (.sl true (.pair .str (.pair .bool .str)))))]⟩
noncomputable def spec_DrawNetWrites.ctr : Ctr := ⟨spec_DrawNetWrites.sig, fun x => spec_DrawNetWrites.f x⟩
noncomputable def spec_DrawNetWrites.env : Env := [(80, [spec_l1New.ctr]), (81, [spec_l15Txn.ctr])]
def spec_DrawNetWrites.ann : Ann := ⟨[], [], []⟩
theorem spec_DrawNetWrites.ok : CtrOk Try.prog 23 spec_DrawNetWrites.ctr := fn_sound (A := spec_DrawNetWrites.ann) tabOk (EnvOk.cons (ctrs_cons spec_l1New.ok ctrs_nil) (EnvOk.cons (ctrs_cons spec_l15Txn.ok ctrs_nil) EnvOk.nil)) mixed (fn := Try.f23) (body := bodyOf Try.f23) Try.func23 (by kernel_rfl) (by kernel_rfl) (fun x => by kernel_rfl)

def impl_net.sig : Sig := ⟨[.val (.sl false (.pair .str (.pair .bool .str)))], [.val (.sl true (.pair .str (.pair .bool .str)))]⟩
noncomputable def impl_net.ctr : Ctr := ⟨impl_net.sig, fun x => impl_net.f x⟩
noncomputable def impl_net.env : Env := []
def impl_net.ann : Ann := ⟨[(2, ([(3, .val (.sl true (.pair .str (.pair .bool .str)))), (5, .ptr (.pair .str (.pair .bool .str))), (6, .val (.int .i64)), (9, .val (.sl false (.pair .str (.pair .bool .str)))), (10, .val (.int .i64)), (11, .val (.int .i64)), (15, .dup 3), (16, .val (.int .i64)), (17, .val (.int .i64))], [(.exit 2, [(3, .val (.sl true (.pair .str (.pair .bool .str)))), (5, .ptr (.pair .str (.pair .bool .str))), (6, .val (.int .i64)), (9, .val (.sl false (.pair .str (.pair .bool .str)))), (10, .val (.int .i64)), (11, .val (.int .i64))])])), (0, ([(3, .val (.sl true (.pair .str (.pair .bool .str)))), (9, .val (.sl false (.pair .str (.pair .bool .str)))), (10, .val (.int .i64)), (11, .val (.int .i64))], [(.exit 0, [(3, .val (.sl true (.pair .str (.pair .bool .str))))])]))], [], [(9, [(.normal, [(3, .val (.sl true (.pair .str (.pair .bool .str)))), (5, .ptr (.pair .str (.pair .bool .str))), (6, .val (.int .i64)), (9, .val (.sl false (.pair .str (.pair .bool .str)))), (10, .val (.int .i64)), (11, .val (.int .i64)), (15, .dup 3), (16, .val (.int .i64)), (17, .val (.int .i64))])]), (12, [(.normal, [(3, .val (.sl true (.pair .str (.pair .bool .str)))), (9, .val (.sl false (.pair .str (.pair .bool .str)))), (10, .val (.int .i64)), (11, .val (.int .i64))])])]⟩
theorem impl_net.ok : CtrOk Try.prog 82 impl_net.ctr := fn_sound (A := impl_net.ann) tabOk EnvOk.nil mixed (fn := Try.f82) (body := bodyOf Try.f82) Try.func82 (by kernel_rfl) (by kernel_rfl) (fun x => by kernel_rfl)

def impl_NetWrites.sig : Sig := ⟨[.val (.pair .bool (.pair (.sl false (.pair .str (.int .i64))) (.sl false (.pair .str (.pair .bool .str)))))], [.val (.sl true (.pair .str (.pair .bool .str)))]⟩
noncomputable def impl_NetWrites.ctr : Ctr := ⟨impl_NetWrites.sig, fun x => impl_NetWrites.f x⟩
noncomputable def impl_NetWrites.env : Env := [(82, [impl_net.ctr])]
def impl_NetWrites.ann : Ann := ⟨[], [], []⟩
theorem impl_NetWrites.ok : CtrOk Try.prog 24 impl_NetWrites.ctr := fn_sound (A := impl_NetWrites.ann) tabOk (EnvOk.cons (ctrs_cons impl_net.ok ctrs_nil) EnvOk.nil) mixed (fn := Try.f24) (body := bodyOf Try.f24) Try.func24 (by kernel_rfl) (by kernel_rfl) (fun x => by kernel_rfl)

def impl_copyPairs.sig : Sig := ⟨[.val (.sl false (.pair .str (.pair .str (.int .i64))))], [.val (.sl true (.pair .str (.pair .str (.int .i64))))]⟩
noncomputable def impl_copyPairs.ctr : Ctr := ⟨impl_copyPairs.sig, fun x => impl_copyPairs.f x⟩
noncomputable def impl_copyPairs.env : Env := []
def impl_copyPairs.ann : Ann := ⟨[], [], []⟩
theorem impl_copyPairs.ok : CtrOk Try.prog 83 impl_copyPairs.ctr := fn_sound (A := impl_copyPairs.ann) tabOk EnvOk.nil mixed (fn := Try.f83) (body := bodyOf Try.f83) Try.func83 (by kernel_rfl) (by kernel_rfl) (fun x => by kernel_rfl)

def impl_without.sig : Sig := ⟨[.val (.sl false (.pair .str (.pair .str (.int .i64)))), .val .str], [.val (.sl true (.pair .str (.pair .str (.int .i64))))]⟩
noncomputable def impl_without.ctr : Ctr := ⟨impl_without.sig, fun x => impl_without.f x.1 x.2⟩
noncomputable def impl_without.env : Env := []
def impl_without.ann : Ann := ⟨[(0, ([(1, .val .str), (5, .val (.sl true (.pair .str (.pair .str (.int .i64))))), (8, .val (.sl false (.pair .str (.pair .str (.int .i64))))), (9, .val (.int .i64)), (10, .val (.int .i64))], [(.exit 0, [(5, .val (.sl true (.pair .str (.pair .str (.int .i64)))))])]))], [], [(5, [(.normal, [(1, .val .str), (5, .val (.sl true (.pair .str (.pair .str (.int .i64))))), (8, .val (.sl false (.pair .str (.pair .str (.int .i64))))), (9, .val (.int .i64)), (10, .val (.int .i64))])])]⟩
theorem impl_without.ok : CtrOk Try.prog 84 impl_without.ctr := fn_sound (A := impl_without.ann) tabOk EnvOk.nil mixed (fn := Try.f84) (body := bodyOf Try.f84) Try.func84 (by kernel_rfl) (by kernel_rfl) (fun x => by kernel_rfl)

def impl_Fold.sig : Sig := ⟨[.val (.sl false (.pair .str (.pair .str (.int .i64)))), .val (.sl false (.pair .str (.pair .bool .str))), .val (.int .i64)], [.val (.sl true (.pair .str (.pair .str (.int .i64))))]⟩
noncomputable def impl_Fold.ctr : Ctr := ⟨impl_Fold.sig, fun x => impl_Fold.f x.1 x.2.1 x.2.2⟩
noncomputable def impl_Fold.env : Env := [(83, [impl_copyPairs.ctr]), (84, [impl_without.ctr])]
def impl_Fold.ann : Ann := ⟨[(2, ([(2, .val (.int .i64)), (7, .val (.sl true (.pair .str (.pair .str (.int .i64))))), (9, .ptr (.pair .str (.pair .bool .str))), (10, .val (.int .i64)), (13, .val (.sl false (.pair .str (.pair .bool .str)))), (14, .val (.int .i64)), (15, .val (.int .i64))], [(.exit 2, [(2, .val (.int .i64)), (7, .val (.sl true (.pair .str (.pair .str (.int .i64))))), (9, .ptr (.pair .str (.pair .bool .str))), (10, .val (.int .i64)), (13, .val (.sl false (.pair .str (.pair .bool .str)))), (14, .val (.int .i64)), (15, .val (.int .i64))])])), (0, ([(2, .val (.int .i64)), (7, .val (.sl true (.pair .str (.pair .str (.int .i64))))), (13, .val (.sl false (.pair .str (.pair .bool .str)))), (14, .val (.int .i64)), (15, .val (.int .i64))], [(.exit 0, [(7, .val (.sl true (.pair .str (.pair .str (.int .i64)))))])]))], [(1, [(.normal, [(2, .val (.int .i64)), (7, .val (.sl true (.pair .str (.pair .str (.int .i64))))), (13, .val (.sl false (.pair .str (.pair .bool .str)))), (14, .val (.int .i64)), (15, .val (.int .i64))])])], []⟩
theorem impl_Fold.ok : CtrOk Try.prog 25 impl_Fold.ctr := fn_sound (A := impl_Fold.ann) tabOk (EnvOk.cons (ctrs_cons impl_copyPairs.ok ctrs_nil) (EnvOk.cons (ctrs_cons impl_without.ok ctrs_nil) EnvOk.nil)) mixed (fn := Try.f25) (body := bodyOf Try.f25) Try.func25 (by kernel_rfl) (by kernel_rfl) (fun x => by kernel_rfl)

def impl_OwnWrite.sig : Sig := ⟨[.val (.pair .bool (.pair (.sl false (.pair .str (.int .i64))) (.sl false (.pair .str (.pair .bool .str))))), .val .str], [.val (.pair .str (.pair .bool .str)), .val .bool]⟩
noncomputable def impl_OwnWrite.ctr : Ctr := ⟨impl_OwnWrite.sig, fun x => impl_OwnWrite.f x.1 x.2⟩
noncomputable def impl_OwnWrite.env : Env := []
def impl_OwnWrite.ann : Ann := ⟨[(0, ([(1, .val .str), (2, .ptr (.pair .bool (.pair (.sl false (.pair .str (.int .i64))) (.sl false (.pair .str (.pair .bool .str)))))), (4, .ptr (.pair .str (.pair .bool .str))), (6, .val (.int .i64))], [(.exit 0, [(4, .ptr (.pair .str (.pair .bool .str)))]), (.ret, [(4, .ptr (.pair .str (.pair .bool .str))), (5, .val .bool)])]))], [], []⟩
theorem impl_OwnWrite.ok : CtrOk Try.prog 26 impl_OwnWrite.ctr := fn_sound (A := impl_OwnWrite.ann) tabOk EnvOk.nil mixed (fn := Try.f26) (body := bodyOf Try.f26) Try.func26 (by kernel_rfl) (by kernel_rfl) (fun x => by kernel_rfl)

def spec_SamePairs.sig : Sig := ⟨[.val (.sl false (.pair .str (.pair .str (.int .i64)))), .val (.sl false (.pair .str (.pair .str (.int .i64))))], [.val .bool]⟩
noncomputable def spec_SamePairs.ctr : Ctr := ⟨spec_SamePairs.sig, fun x => spec_SamePairs.f x.1 x.2⟩
noncomputable def spec_SamePairs.env : Env := []
def spec_SamePairs.ann : Ann := ⟨[(0, ([(0, .val (.sl false (.pair .str (.pair .str (.int .i64))))), (1, .val (.sl false (.pair .str (.pair .str (.int .i64))))), (5, .val (.int .i64))], [(.exit 0, []), (.ret, [(4, .val .bool)])]))], [], []⟩
theorem spec_SamePairs.ok : CtrOk Try.prog 27 spec_SamePairs.ctr := fn_sound (A := spec_SamePairs.ann) tabOk EnvOk.nil mixed (fn := Try.f27) (body := bodyOf Try.f27) Try.func27 (by kernel_rfl) (by kernel_rfl) (fun x => by kernel_rfl)

def spec_l13Set.sig : Sig := ⟨[.val (.sl false (.pair .str (.pair .str (.int .i64)))), .val (.pair .str (.pair .str (.int .i64))), .val .bool], [.val (.sl true (.pair .str (.pair .str (.int .i64))))]⟩
noncomputable def spec_l13Set.ctr : Ctr := ⟨spec_l13Set.sig, fun x => spec_l13Set.f x.1 x.2.1 x.2.2⟩
noncomputable def spec_l13Set.env : Env := []
def spec_l13Set.ann : Ann := ⟨[(0, ([(0, .val (.sl false (.pair .str (.pair .str (.int .i64))))), (4, .ptr (.pair .str (.pair .str (.int .i64)))), (7, .val (.sl true (.pair .str (.pair .str (.int .i64))))), (8, .val .bool), (9, .val (.int .i64))], [(.exit 0, [(4, .ptr (.pair .str (.pair .str (.int .i64)))), (7, .val (.sl true (.pair .str (.pair .str (.int .i64))))), (8, .val .bool)])]))], [(1, [(.normal, [(0, .val (.sl false (.pair .str (.pair .str (.int .i64))))), (4, .ptr (.pair .str (.pair .str (.int .i64)))), (7, .val (.sl true (.pair .str (.pair .str (.int .i64))))), (8, .val .bool), (9, .val (.int .i64))])])], [(7, [(.normal, [(0, .val (.sl false (.pair .str (.pair .str (.int .i64))))), (4, .ptr (.pair .str (.pair .str (.int .i64)))), (7, .val (.sl true (.pair .str (.pair .str (.int .i64))))), (8, .val .bool), (9, .val (.int .i64))])])]⟩
theorem spec_l13Set.ok : CtrOk Try.prog 85 spec_l13Set.ctr := fn_sound (A := spec_l13Set.ann) tabOk EnvOk.nil mixed (fn := Try.f85) (body := bodyOf Try.f85) Try.func85 (by kernel_rfl) (by kernel_rfl) (fun x => by kernel_rfl)

def spec_Fold.sig : Sig := ⟨[.val (.sl false (.pair .str (.pair .str (.int .i64)))), .val (.sl false (.pair .str (.pair .bool .str))), .val (.int .i64)], [.val (.sl true (.pair .str (.pair .str (.int .i64))))]⟩
noncomputable def spec_Fold.ctr : Ctr := ⟨spec_Fold.sig, fun x => spec_Fold.f x.1 x.2.1 x.2.2⟩
noncomputable def spec_Fold.env : Env := [(85, [spec_l13Set.ctr])]
def spec_Fold.ann : Ann := ⟨[(0, ([(1, .val (.sl false (.pair .str (.pair .bool .str)))), (2, .val (.int .i64)), (7, .val (.sl true (.pair .str (.pair .str (.int .i64))))), (8, .val (.int .i64))], [(.exit 0, [(7, .val (.sl true (.pair .str (.pair .str (.int .i64)))))])]))], [], []⟩
theorem spec_Fold.ok : CtrOk Try.prog 28 spec_Fold.ctr := fn_sound (A := spec_Fold.ann) tabOk (EnvOk.cons (ctrs_cons spec_l13Set.ok ctrs_nil) EnvOk.nil) mixed (fn := Try.f28) (body := bodyOf Try.f28) Try.func28 (by kernel_rfl) (by kernel_rfl) (fun x => by kernel_rfl)

def laws_FnNets.sig : Sig := ⟨[.val (.sl false (.int .u8))], [.val .bool]⟩
noncomputable def laws_FnNets.ctr : Ctr := ⟨laws_FnNets.sig, fun x => laws_FnNets.f x⟩
noncomputable def laws_FnNets.env : Env := [(22, [laws_big.ctr]), (23, [spec_DrawNetWrites.ctr]), (24, [impl_NetWrites.ctr]), (25, [impl_Fold.ctr]), (26, [impl_OwnWrite.ctr]), (27, [spec_SamePairs.ctr]), (28, [spec_Fold.ctr]), (29, [spec_NetWrites.ctr])]
def laws_FnNets.ann : Ann := ⟨[(2, ([(3, .ptr (.pair .bool (.pair (.sl true (.pair .str (.int .i64))) (.sl true (.pair .str (.pair .bool .str)))))), (4, .val (.sl true (.pair .str (.pair .bool .str)))), (5, .val (.sl true (.pair .str (.pair .str (.int .i64))))), (6, .val (.sl true (.pair .str (.pair .str (.int .i64))))), (7, .val (.int .i64)), (10, .val (.int .i64))], [(.exit 2, [(3, .ptr (.pair .bool (.pair (.sl true (.pair .str (.int .i64))) (.sl true (.pair .str (.pair .bool .str)))))), (4, .val (.sl true (.pair .str (.pair .bool .str)))), (5, .val (.sl true (.pair .str (.pair .str (.int .i64))))), (6, .val (.sl true (.pair .str (.pair .str (.int .i64))))), (7, .val (.int .i64))]), (.ret, [(2, .val .bool)])])), (0, ([(3, .ptr (.pair .bool (.pair (.sl true (.pair .str (.int .i64))) (.sl true (.pair .str (.pair .bool .str)))))), (4, .val (.sl true (.pair .str (.pair .bool .str)))), (5, .val (.sl true (.pair .str (.pair .str (.int .i64))))), (6, .val (.sl true (.pair .str (.pair .str (.int .i64))))), (7, .val (.int .i64))], [(.exit 0, [(3, .ptr (.pair .bool (.pair (.sl true (.pair .str (.int .i64))) (.sl true (.pair .str (.pair .bool .str)))))), (4, .val (.sl true (.pair .str (.pair .bool .str)))), (5, .val (.sl true (.pair .str (.pair .str (.int .i64))))), (6, .val (.sl true (.pair .str (.pair .str (.int .i64)))))]), (.ret, [(2, .val .bool)])]))], [], []⟩
theorem laws_FnNets.ok : CtrOk Try.prog 4 laws_FnNets.ctr := fn_sound (A := laws_FnNets.ann) tabOk (EnvOk.cons (ctrs_cons laws_big.ok ctrs_nil) (EnvOk.cons (ctrs_cons spec_DrawNetWrites.ok ctrs_nil) (EnvOk.cons (ctrs_cons impl_NetWrites.ok ctrs_nil) (EnvOk.cons (ctrs_cons impl_Fold.ok ctrs_nil) (EnvOk.cons (ctrs_cons impl_OwnWrite.ok ctrs_nil) (EnvOk.cons (ctrs_cons spec_SamePairs.ok ctrs_nil) (EnvOk.cons (ctrs_cons spec_Fold.ok ctrs_nil) (EnvOk.cons (ctrs_cons spec_NetWrites.ok ctrs_nil) EnvOk.nil)))))))) mixed (fn := Try.f4) (body := bodyOf Try.f4) Try.func4 (by kernel_rfl) (by kernel_rfl) (fun x => by kernel_rfl)

end Go.Proofs.Ytgjkmdolbkoocaa
