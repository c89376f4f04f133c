/- Each function of the program that FnExactPutsOk reaches comes to its plain function. -/
import Derived.Test.YtaijmhaonokniaaRfZg
import Derived.Test.YtaijmhaonokniaaFns
import Derived.Test.YtaijmhaonokniaaProg
namespace Go.Proofs.Ytaijmhaonokniaa
open Go Go.Rf Go.Rf.G Go.Proofs
set_option maxRecDepth 100000
def bodyOf (f : Func) : Code := f.body.getD .skip
def tab : Tab := [(3, ⟨(.int .i64), false, [], none, 8, false⟩),
  (4, ⟨.bool, false, [], none, 1, false⟩),
  (9, ⟨.str, false, [], none, 16, false⟩),
  (28, ⟨(.sl true (.pair .str (.pair .bool .str))), false, [], some 109, 24, false⟩),
  (31, ⟨(.sl true (.pair .str (.pair .bool .str))), false, [], some 48, 24, false⟩),
  (48, ⟨(.pair .str (.pair .bool .str)), true, [(0, 1, false), (1, 1, false), (2, 1, false)], none, 40, true⟩),
  (109, ⟨(.pair .str (.pair .bool .str)), true, [(0, 1, false), (1, 1, false), (2, 1, false)], none, 40, true⟩)]
theorem tabOk : TabOk Try.prog tab := Rf.tabOk (by kernel_rfl)
theorem mixed : Try.prog.follows .mixedOrders = true := by kernel_rfl
def laws_szPut.sig : Sig := ⟨[.val (.pair .str (.pair .bool .str)), .val (.int .i64)], [.val (.int .i64)]⟩
noncomputable def laws_szPut.ctr : Ctr := ⟨laws_szPut.sig, fun x => laws_szPut.f x.1 x.2⟩
noncomputable def laws_szPut.env : Env := []
def laws_szPut.ann : Ann := ⟨[], [], []⟩
theorem laws_szPut.ok : CtrOk Try.prog 71 laws_szPut.ctr := fn_sound (A := laws_szPut.ann) tabOk EnvOk.nil mixed (fn := Try.f71) (body := bodyOf Try.f71) Try.func71 (by kernel_rfl) (by kernel_rfl) (fun x => by kernel_rfl)

def laws_szPutS.sig : Sig := ⟨[.val (.sl false (.pair .str (.pair .bool .str))), .val (.int .i64)], [.val (.int .i64)]⟩
noncomputable def laws_szPutS.ctr : Ctr := ⟨laws_szPutS.sig, fun x => laws_szPutS.f x.1 x.2⟩
noncomputable def laws_szPutS.env : Env := [(71, [laws_szPut.ctr])]
def laws_szPutS.ann : Ann := ⟨[(0, ([(0, .val (.sl false (.pair .str (.pair .bool .str)))), (1, .val (.int .i64)), (5, .val (.int .i64))], [(.exit 0, [(1, .val (.int .i64))]), (.ret, [(4, .val (.int .i64))])]))], [], []⟩
theorem laws_szPutS.ok : CtrOk Try.prog 19 laws_szPutS.ctr := fn_sound (A := laws_szPutS.ann) tabOk (EnvOk.cons (ctrs_cons laws_szPut.ok ctrs_nil) EnvOk.nil) mixed (fn := Try.f19) (body := bodyOf Try.f19) Try.func19 (by kernel_rfl) (by kernel_rfl) (fun x => by kernel_rfl)

def spec_l1In.sig : Sig := ⟨[.val (.int .i64), .val (.int .i64), .val (.int .i64)], [.val .bool]⟩
noncomputable def spec_l1In.ctr : Ctr := ⟨spec_l1In.sig, fun x => spec_l1In.f x.1 x.2.1 x.2.2⟩
noncomputable def spec_l1In.env : Env := []
def spec_l1In.ann : Ann := ⟨[], [], []⟩
theorem spec_l1In.ok : CtrOk Try.prog 116 spec_l1In.ctr := fn_sound (A := spec_l1In.ann) tabOk EnvOk.nil mixed (fn := Try.f116) (body := bodyOf Try.f116) Try.func116 (by kernel_rfl) (by kernel_rfl) (fun x => by kernel_rfl)

def spec_KeyOk.sig : Sig := ⟨[.val .str], [.val .bool]⟩
noncomputable def spec_KeyOk.ctr : Ctr := ⟨spec_KeyOk.sig, fun x => spec_KeyOk.f x⟩
noncomputable def spec_KeyOk.env : Env := [(116, [spec_l1In.ctr])]
def spec_KeyOk.ann : Ann := ⟨[], [], []⟩
theorem spec_KeyOk.ok : CtrOk Try.prog 72 spec_KeyOk.ctr := fn_sound (A := spec_KeyOk.ann) tabOk (EnvOk.cons (ctrs_cons spec_l1In.ok ctrs_nil) EnvOk.nil) mixed (fn := Try.f72) (body := bodyOf Try.f72) Try.func72 (by kernel_rfl) (by kernel_rfl) (fun x => by kernel_rfl)

def spec_PutsOk.sig : Sig := ⟨[.val (.sl false (.pair .str (.pair .bool .str)))], [.val .bool]⟩
noncomputable def spec_PutsOk.ctr : Ctr := ⟨spec_PutsOk.sig, fun x => spec_PutsOk.f x⟩
noncomputable def spec_PutsOk.env : Env := [(72, [spec_KeyOk.ctr])]
def spec_PutsOk.ann : Ann := ⟨[(0, ([(0, .val (.sl false (.pair .str (.pair .bool .str)))), (3, .val (.int .i64))], [(.exit 0, []), (.ret, [(2, .val .bool)])]))], [], [(6, [(.normal, [(0, .val (.sl false (.pair .str (.pair .bool .str)))), (3, .val (.int .i64))]), (.ret, [(2, .val .bool)])])]⟩
theorem spec_PutsOk.ok : CtrOk Try.prog 20 spec_PutsOk.ctr := fn_sound (A := spec_PutsOk.ann) tabOk (EnvOk.cons (ctrs_cons spec_KeyOk.ok ctrs_nil) EnvOk.nil) mixed (fn := Try.f20) (body := bodyOf Try.f20) Try.func20 (by kernel_rfl) (by kernel_rfl) (fun x => by kernel_rfl)

def laws_toPut.sig : Sig := ⟨[.val (.pair .str (.pair .bool .str))], [.val (.pair .str (.pair .bool .str))]⟩
noncomputable def laws_toPut.ctr : Ctr := ⟨laws_toPut.sig, fun x => laws_toPut.f x⟩
noncomputable def laws_toPut.env : Env := []
def laws_toPut.ann : Ann := ⟨[], [], []⟩
theorem laws_toPut.ok : CtrOk Try.prog 73 laws_toPut.ctr := fn_sound (A := laws_toPut.ann) tabOk EnvOk.nil mixed (fn := Try.f73) (body := bodyOf Try.f73) Try.func73 (by kernel_rfl) (by kernel_rfl) (fun x => by kernel_rfl)

def laws_toPutS.sig : Sig := ⟨[.val (.sl false (.pair .str (.pair .bool .str)))], [.val (.sl true (.pair .str (.pair .bool .str)))]⟩
noncomputable def laws_toPutS.ctr : Ctr := ⟨laws_toPutS.sig, fun x => laws_toPutS.f x⟩
noncomputable def laws_toPutS.env : Env := [(73, [laws_toPut.ctr])]
def laws_toPutS.ann : Ann := ⟨[(0, ([(0, .val (.sl false (.pair .str (.pair .bool .str)))), (3, .val (.sl true (.pair .str (.pair .bool .str)))), (4, .val (.int .i64))], [(.exit 0, [(3, .val (.sl true (.pair .str (.pair .bool .str))))])]))], [], []⟩
theorem laws_toPutS.ok : CtrOk Try.prog 21 laws_toPutS.ctr := fn_sound (A := laws_toPutS.ann) tabOk (EnvOk.cons (ctrs_cons laws_toPut.ok ctrs_nil) EnvOk.nil) mixed (fn := Try.f21) (body := bodyOf Try.f21) Try.func21 (by kernel_rfl) (by kernel_rfl) (fun x => by kernel_rfl)

def impl_in.sig : Sig := ⟨[.val (.int .i64), .val (.int .i64), .val (.int .i64)], [.val .bool]⟩
noncomputable def impl_in.ctr : Ctr := ⟨impl_in.sig, fun x => impl_in.f x.1 x.2.1 x.2.2⟩
noncomputable def impl_in.env : Env := []
def impl_in.ann : Ann := ⟨[], [], []⟩
theorem impl_in.ok : CtrOk Try.prog 129 impl_in.ctr := fn_sound (A := impl_in.ann) tabOk EnvOk.nil mixed (fn := Try.f129) (body := bodyOf Try.f129) Try.func129 (by kernel_rfl) (by kernel_rfl) (fun x => by kernel_rfl)

def impl_KeyOk.sig : Sig := ⟨[.val .str], [.val .bool]⟩
noncomputable def impl_KeyOk.ctr : Ctr := ⟨impl_KeyOk.sig, fun x => impl_KeyOk.f x⟩
noncomputable def impl_KeyOk.env : Env := [(129, [impl_in.ctr])]
def impl_KeyOk.ann : Ann := ⟨[], [], []⟩
theorem impl_KeyOk.ok : CtrOk Try.prog 92 impl_KeyOk.ctr := fn_sound (A := impl_KeyOk.ann) tabOk (EnvOk.cons (ctrs_cons impl_in.ok ctrs_nil) EnvOk.nil) mixed (fn := Try.f92) (body := bodyOf Try.f92) Try.func92 (by kernel_rfl) (by kernel_rfl) (fun x => by kernel_rfl)

def impl_putOk.sig : Sig := ⟨[.val (.pair .str (.pair .bool .str))], [.val .bool]⟩
noncomputable def impl_putOk.ctr : Ctr := ⟨impl_putOk.sig, fun x => impl_putOk.f x⟩
noncomputable def impl_putOk.env : Env := [(92, [impl_KeyOk.ctr])]
def impl_putOk.ann : Ann := ⟨[], [], []⟩
theorem impl_putOk.ok : CtrOk Try.prog 74 impl_putOk.ctr := fn_sound (A := impl_putOk.ann) tabOk (EnvOk.cons (ctrs_cons impl_KeyOk.ok ctrs_nil) EnvOk.nil) mixed (fn := Try.f74) (body := bodyOf Try.f74) Try.func74 (by kernel_rfl) (by kernel_rfl) (fun x => by kernel_rfl)

def impl_PutsOk.sig : Sig := ⟨[.val (.sl false (.pair .str (.pair .bool .str)))], [.val .bool]⟩
noncomputable def impl_PutsOk.ctr : Ctr := ⟨impl_PutsOk.sig, fun x => impl_PutsOk.f x⟩
noncomputable def impl_PutsOk.env : Env := [(74, [impl_putOk.ctr])]
def impl_PutsOk.ann : Ann := ⟨[(0, ([(0, .val (.sl false (.pair .str (.pair .bool .str)))), (5, .val (.sl false (.pair .str (.pair .bool .str)))), (6, .val (.int .i64)), (7, .val (.int .i64))], [(.exit 0, [(0, .val (.sl false (.pair .str (.pair .bool .str))))]), (.ret, [(2, .val .bool)])]))], [], []⟩
theorem impl_PutsOk.ok : CtrOk Try.prog 22 impl_PutsOk.ctr := fn_sound (A := impl_PutsOk.ann) tabOk (EnvOk.cons (ctrs_cons impl_putOk.ok ctrs_nil) EnvOk.nil) mixed (fn := Try.f22) (body := bodyOf Try.f22) Try.func22 (by kernel_rfl) (by kernel_rfl) (fun x => by kernel_rfl)

def laws_eqPut.sig : Sig := ⟨[.val (.pair .str (.pair .bool .str)), .val (.pair .str (.pair .bool .str))], [.val .bool]⟩
noncomputable def laws_eqPut.ctr : Ctr := ⟨laws_eqPut.sig, fun x => laws_eqPut.f x.1 x.2⟩
noncomputable def laws_eqPut.env : Env := []
def laws_eqPut.ann : Ann := ⟨[], [], []⟩
theorem laws_eqPut.ok : CtrOk Try.prog 38 laws_eqPut.ctr := fn_sound (A := laws_eqPut.ann) tabOk EnvOk.nil mixed (fn := Try.f38) (body := bodyOf Try.f38) Try.func38 (by kernel_rfl) (by kernel_rfl) (fun x => by kernel_rfl)

def laws_eqPutS.sig : Sig := ⟨[.val (.sl false (.pair .str (.pair .bool .str))), .val (.sl false (.pair .str (.pair .bool .str)))], [.val .bool]⟩
noncomputable def laws_eqPutS.ctr : Ctr := ⟨laws_eqPutS.sig, fun x => laws_eqPutS.f x.1 x.2⟩
noncomputable def laws_eqPutS.env : Env := [(38, [laws_eqPut.ctr])]
def laws_eqPutS.ann : Ann := ⟨[(0, ([(0, .val (.sl false (.pair .str (.pair .bool .str)))), (1, .val (.sl false (.pair .str (.pair .bool .str)))), (5, .val (.int .i64))], [(.exit 0, []), (.ret, [(4, .val .bool)])]))], [], []⟩
theorem laws_eqPutS.ok : CtrOk Try.prog 23 laws_eqPutS.ctr := fn_sound (A := laws_eqPutS.ann) tabOk (EnvOk.cons (ctrs_cons laws_eqPut.ok ctrs_nil) EnvOk.nil) mixed (fn := Try.f23) (body := bodyOf Try.f23) Try.func23 (by kernel_rfl) (by kernel_rfl) (fun x => by kernel_rfl)

def laws_FnExactPutsOk.sig : Sig := ⟨[.val (.sl false (.pair .str (.pair .bool .str)))], [.val .bool]⟩
noncomputable def laws_FnExactPutsOk.ctr : Ctr := ⟨laws_FnExactPutsOk.sig, fun x => laws_FnExactPutsOk.f x⟩
noncomputable def laws_FnExactPutsOk.env : Env := [(19, [laws_szPutS.ctr]), (20, [spec_PutsOk.ctr]), (21, [laws_toPutS.ctr]), (22, [impl_PutsOk.ctr]), (23, [laws_eqPutS.ctr])]
def laws_FnExactPutsOk.ann : Ann := ⟨[], [], []⟩
theorem laws_FnExactPutsOk.ok : CtrOk Try.prog 4 laws_FnExactPutsOk.ctr := fn_sound (A := laws_FnExactPutsOk.ann) tabOk (EnvOk.cons (ctrs_cons laws_szPutS.ok ctrs_nil) (EnvOk.cons (ctrs_cons spec_PutsOk.ok ctrs_nil) (EnvOk.cons (ctrs_cons laws_toPutS.ok ctrs_nil) (EnvOk.cons (ctrs_cons impl_PutsOk.ok ctrs_nil) (EnvOk.cons (ctrs_cons laws_eqPutS.ok ctrs_nil) EnvOk.nil))))) mixed (fn := Try.f4) (body := bodyOf Try.f4) Try.func4 (by kernel_rfl) (by kernel_rfl) (fun x => by kernel_rfl)

end Go.Proofs.Ytaijmhaonokniaa
