/- Each function of the program that FnExactSameAnswers reaches comes to its plain function. -/
import Derived.Test.YtaijmhaonokniaaRfZg
import Derived.Test.YtaijmhaonokniaaFns
import Derived.Test.YtaijmhaonokniaaProg
namespace Go.Proofs.Ytaijmhaonokniaa
open Go Go.Rf Go.Rf.G Go.Proofs
set_option maxRecDepth 100000
def bodyOf (f : Func) : Code := f.body.getD .skip
def tab : Tab := [(3, ⟨(.int .i64), false, [], none, 8, false⟩),
  (4, ⟨.bool, false, [], none, 1, false⟩),
  (9, ⟨.str, false, [], none, 16, false⟩),
  (35, ⟨(.sl true (.pair (.int .i64) (.pair .str (.sl true .str)))), false, [], some 116, 24, false⟩),
  (38, ⟨(.sl true (.pair (.int .i64) (.pair .str (.sl true .str)))), false, [], some 118, 24, false⟩),
  (114, ⟨(.sl true .str), false, [], some 9, 24, false⟩),
  (116, ⟨(.pair (.int .i64) (.pair .str (.sl true .str))), true, [(0, 1, false), (1, 1, false), (2, 1, false)], none, 48, false⟩),
  (118, ⟨(.pair (.int .i64) (.pair .str (.sl true .str))), true, [(0, 1, false), (1, 1, false), (2, 1, false)], none, 48, false⟩)]
theorem tabOk : TabOk Try.prog tab := Rf.tabOk (by kernel_rfl)
theorem mixed : Try.prog.follows .mixedOrders = true := by kernel_rfl
def laws_szStringS.sig : Sig := ⟨[.val (.sl false .str), .val (.int .i64)], [.val (.int .i64)]⟩
noncomputable def laws_szStringS.ctr : Ctr := ⟨laws_szStringS.sig, fun x => laws_szStringS.f x.1 x.2⟩
noncomputable def laws_szStringS.env : Env := []
def laws_szStringS.ann : Ann := ⟨[(0, ([(0, .val (.sl false .str)), (1, .val (.int .i64)), (5, .val (.int .i64))], [(.exit 0, [(1, .val (.int .i64))]), (.ret, [(4, .val (.int .i64))])]))], [], []⟩
theorem laws_szStringS.ok : CtrOk Try.prog 117 laws_szStringS.ctr := fn_sound (A := laws_szStringS.ann) tabOk EnvOk.nil mixed (fn := Try.f117) (body := bodyOf Try.f117) Try.func117 (by kernel_rfl) (by kernel_rfl) (fun x => by kernel_rfl)

def laws_szAnswer.sig : Sig := ⟨[.val (.pair (.int .i64) (.pair .str (.sl false .str))), .val (.int .i64)], [.val (.int .i64)]⟩
noncomputable def laws_szAnswer.ctr : Ctr := ⟨laws_szAnswer.sig, fun x => laws_szAnswer.f x.1 x.2⟩
noncomputable def laws_szAnswer.env : Env := [(117, [laws_szStringS.ctr])]
def laws_szAnswer.ann : Ann := ⟨[], [], []⟩
theorem laws_szAnswer.ok : CtrOk Try.prog 75 laws_szAnswer.ctr := fn_sound (A := laws_szAnswer.ann) tabOk (EnvOk.cons (ctrs_cons laws_szStringS.ok ctrs_nil) EnvOk.nil) mixed (fn := Try.f75) (body := bodyOf Try.f75) Try.func75 (by kernel_rfl) (by kernel_rfl) (fun x => by kernel_rfl)

def laws_szAnswerS.sig : Sig := ⟨[.val (.sl false (.pair (.int .i64) (.pair .str (.sl false .str)))), .val (.int .i64)], [.val (.int .i64)]⟩
noncomputable def laws_szAnswerS.ctr : Ctr := ⟨laws_szAnswerS.sig, fun x => laws_szAnswerS.f x.1 x.2⟩
noncomputable def laws_szAnswerS.env : Env := [(75, [laws_szAnswer.ctr])]
def laws_szAnswerS.ann : Ann := ⟨[(0, ([(0, .val (.sl false (.pair (.int .i64) (.pair .str (.sl false .str))))), (1, .val (.int .i64)), (5, .val (.int .i64))], [(.exit 0, [(1, .val (.int .i64))]), (.ret, [(4, .val (.int .i64))])]))], [], []⟩
theorem laws_szAnswerS.ok : CtrOk Try.prog 24 laws_szAnswerS.ctr := fn_sound (A := laws_szAnswerS.ann) tabOk (EnvOk.cons (ctrs_cons laws_szAnswer.ok ctrs_nil) EnvOk.nil) mixed (fn := Try.f24) (body := bodyOf Try.f24) Try.func24 (by kernel_rfl) (by kernel_rfl) (fun x => by kernel_rfl)

def spec_l18Same.sig : Sig := ⟨[.val (.pair (.int .i64) (.pair .str (.sl false .str))), .val (.pair (.int .i64) (.pair .str (.sl false .str)))], [.val .bool]⟩
noncomputable def spec_l18Same.ctr : Ctr := ⟨spec_l18Same.sig, fun x => spec_l18Same.f x.1 x.2⟩
noncomputable def spec_l18Same.env : Env := []
def spec_l18Same.ann : Ann := ⟨[(0, ([(2, .ptr (.pair (.int .i64) (.pair .str (.sl false .str)))), (3, .ptr (.pair (.int .i64) (.pair .str (.sl false .str)))), (5, .val (.int .i64))], [(.exit 0, []), (.ret, [(4, .val .bool)])]))], [], []⟩
theorem spec_l18Same.ok : CtrOk Try.prog 76 spec_l18Same.ctr := fn_sound (A := spec_l18Same.ann) tabOk EnvOk.nil mixed (fn := Try.f76) (body := bodyOf Try.f76) Try.func76 (by kernel_rfl) (by kernel_rfl) (fun x => by kernel_rfl)

def spec_SameAnswers.sig : Sig := ⟨[.val (.sl false (.pair (.int .i64) (.pair .str (.sl false .str)))), .val (.sl false (.pair (.int .i64) (.pair .str (.sl false .str))))], [.val .bool]⟩
noncomputable def spec_SameAnswers.ctr : Ctr := ⟨spec_SameAnswers.sig, fun x => spec_SameAnswers.f x.1 x.2⟩
noncomputable def spec_SameAnswers.env : Env := [(76, [spec_l18Same.ctr])]
def spec_SameAnswers.ann : Ann := ⟨[(0, ([(0, .val (.sl false (.pair (.int .i64) (.pair .str (.sl false .str))))), (1, .val (.sl false (.pair (.int .i64) (.pair .str (.sl false .str))))), (5, .val (.int .i64))], [(.exit 0, []), (.ret, [(4, .val .bool)])]))], [], []⟩
theorem spec_SameAnswers.ok : CtrOk Try.prog 25 spec_SameAnswers.ctr := fn_sound (A := spec_SameAnswers.ann) tabOk (EnvOk.cons (ctrs_cons spec_l18Same.ok ctrs_nil) EnvOk.nil) mixed (fn := Try.f25) (body := bodyOf Try.f25) Try.func25 (by kernel_rfl) (by kernel_rfl) (fun x => by kernel_rfl)

def laws_toStringS.sig : Sig := ⟨[.val (.sl false .str)], [.val (.sl true .str)]⟩
noncomputable def laws_toStringS.ctr : Ctr := ⟨laws_toStringS.sig, fun x => laws_toStringS.f x⟩
noncomputable def laws_toStringS.env : Env := []
def laws_toStringS.ann : Ann := ⟨[(0, ([(0, .val (.sl false .str)), (3, .val (.sl true .str)), (4, .val (.int .i64))], [(.exit 0, [(3, .val (.sl true .str))])]))], [], []⟩
theorem laws_toStringS.ok : CtrOk Try.prog 118 laws_toStringS.ctr := fn_sound (A := laws_toStringS.ann) tabOk EnvOk.nil mixed (fn := Try.f118) (body := bodyOf Try.f118) Try.func118 (by kernel_rfl) (by kernel_rfl) (fun x => by kernel_rfl)

def laws_toAnswer.sig : Sig := ⟨[.val (.pair (.int .i64) (.pair .str (.sl false .str)))], [.val (.pair (.int .i64) (.pair .str (.sl true .str)))]⟩
noncomputable def laws_toAnswer.ctr : Ctr := ⟨laws_toAnswer.sig, fun x => laws_toAnswer.f x⟩
noncomputable def laws_toAnswer.env : Env := [(118, [laws_toStringS.ctr])]
def laws_toAnswer.ann : Ann := ⟨[], [], []⟩
theorem laws_toAnswer.ok : CtrOk Try.prog 77 laws_toAnswer.ctr := fn_sound (A := laws_toAnswer.ann) tabOk (EnvOk.cons (ctrs_cons laws_toStringS.ok ctrs_nil) EnvOk.nil) mixed (fn := Try.f77) (body := bodyOf Try.f77) Try.func77 (by kernel_rfl) (by kernel_rfl) (fun x => by kernel_rfl)

def laws_toAnswerS.sig : Sig := ⟨[.val (.sl false (.pair (.int .i64) (.pair .str (.sl false .str))))], [.val (.sl true (.pair (.int .i64) (.pair .str (.sl true .str))))]⟩
noncomputable def laws_toAnswerS.ctr : Ctr := ⟨laws_toAnswerS.sig, fun x => laws_toAnswerS.f x⟩
noncomputable def laws_toAnswerS.env : Env := [(77, [laws_toAnswer.ctr])]
def laws_toAnswerS.ann : Ann := ⟨[(0, ([(0, .val (.sl false (.pair (.int .i64) (.pair .str (.sl false .str))))), (3, .val (.sl true (.pair (.int .i64) (.pair .str (.sl true .str))))), (4, .val (.int .i64))], [(.exit 0, [(3, .val (.sl true (.pair (.int .i64) (.pair .str (.sl true .str)))))])]))], [], []⟩
theorem laws_toAnswerS.ok : CtrOk Try.prog 26 laws_toAnswerS.ctr := fn_sound (A := laws_toAnswerS.ann) tabOk (EnvOk.cons (ctrs_cons laws_toAnswer.ok ctrs_nil) EnvOk.nil) mixed (fn := Try.f26) (body := bodyOf Try.f26) Try.func26 (by kernel_rfl) (by kernel_rfl) (fun x => by kernel_rfl)

def impl_SameAnswers.sig : Sig := ⟨[.val (.sl false (.pair (.int .i64) (.pair .str (.sl false .str)))), .val (.sl false (.pair (.int .i64) (.pair .str (.sl false .str))))], [.val .bool]⟩
noncomputable def impl_SameAnswers.ctr : Ctr := ⟨impl_SameAnswers.sig, fun x => impl_SameAnswers.f x.1 x.2⟩
noncomputable def impl_SameAnswers.env : Env := []
def impl_SameAnswers.ann : Ann := ⟨[(2, ([(0, .val (.sl false (.pair (.int .i64) (.pair .str (.sl false .str))))), (1, .val (.sl false (.pair (.int .i64) (.pair .str (.sl false .str))))), (5, .val (.int .i64)), (13, .val (.int .i64)), (14, .val (.int .i64)), (61, .val (.int .i64)), (62, .val (.int .i64))], [(.exit 2, [(0, .val (.sl false (.pair (.int .i64) (.pair .str (.sl false .str))))), (1, .val (.sl false (.pair (.int .i64) (.pair .str (.sl false .str))))), (13, .val (.int .i64)), (14, .val (.int .i64))]), (.ret, [(4, .val .bool)])])), (0, ([(0, .val (.sl false (.pair (.int .i64) (.pair .str (.sl false .str))))), (1, .val (.sl false (.pair (.int .i64) (.pair .str (.sl false .str))))), (13, .val (.int .i64)), (14, .val (.int .i64))], [(.exit 0, []), (.ret, [(4, .val .bool)])]))], [], []⟩
theorem impl_SameAnswers.ok : CtrOk Try.prog 27 impl_SameAnswers.ctr := fn_sound (A := impl_SameAnswers.ann) tabOk EnvOk.nil mixed (fn := Try.f27) (body := bodyOf Try.f27) Try.func27 (by kernel_rfl) (by kernel_rfl) (fun x => by kernel_rfl)

def laws_eqStringS.sig : Sig := ⟨[.val (.sl false .str), .val (.sl false .str)], [.val .bool]⟩
noncomputable def laws_eqStringS.ctr : Ctr := ⟨laws_eqStringS.sig, fun x => laws_eqStringS.f x.1 x.2⟩
noncomputable def laws_eqStringS.env : Env := []
def laws_eqStringS.ann : Ann := ⟨[(0, ([(0, .val (.sl false .str)), (1, .val (.sl false .str)), (5, .val (.int .i64))], [(.exit 0, []), (.ret, [(4, .val .bool)])]))], [], []⟩
theorem laws_eqStringS.ok : CtrOk Try.prog 119 laws_eqStringS.ctr := fn_sound (A := laws_eqStringS.ann) tabOk EnvOk.nil mixed (fn := Try.f119) (body := bodyOf Try.f119) Try.func119 (by kernel_rfl) (by kernel_rfl) (fun x => by kernel_rfl)

def laws_eqAnswer.sig : Sig := ⟨[.val (.pair (.int .i64) (.pair .str (.sl false .str))), .val (.pair (.int .i64) (.pair .str (.sl false .str)))], [.val .bool]⟩
noncomputable def laws_eqAnswer.ctr : Ctr := ⟨laws_eqAnswer.sig, fun x => laws_eqAnswer.f x.1 x.2⟩
noncomputable def laws_eqAnswer.env : Env := [(119, [laws_eqStringS.ctr])]
def laws_eqAnswer.ann : Ann := ⟨[], [], []⟩
theorem laws_eqAnswer.ok : CtrOk Try.prog 78 laws_eqAnswer.ctr := fn_sound (A := laws_eqAnswer.ann) tabOk (EnvOk.cons (ctrs_cons laws_eqStringS.ok ctrs_nil) EnvOk.nil) mixed (fn := Try.f78) (body := bodyOf Try.f78) Try.func78 (by kernel_rfl) (by kernel_rfl) (fun x => by kernel_rfl)

def laws_eqAnswerS.sig : Sig := ⟨[.val (.sl false (.pair (.int .i64) (.pair .str (.sl false .str)))), .val (.sl false (.pair (.int .i64) (.pair .str (.sl false .str))))], [.val .bool]⟩
noncomputable def laws_eqAnswerS.ctr : Ctr := ⟨laws_eqAnswerS.sig, fun x => laws_eqAnswerS.f x.1 x.2⟩
noncomputable def laws_eqAnswerS.env : Env := [(78, [laws_eqAnswer.ctr])]
def laws_eqAnswerS.ann : Ann := ⟨[(0, ([(0, .val (.sl false (.pair (.int .i64) (.pair .str (.sl false .str))))), (1, .val (.sl false (.pair (.int .i64) (.pair .str (.sl false .str))))), (5, .val (.int .i64))], [(.exit 0, []), (.ret, [(4, .val .bool)])]))], [], []⟩
theorem laws_eqAnswerS.ok : CtrOk Try.prog 28 laws_eqAnswerS.ctr := fn_sound (A := laws_eqAnswerS.ann) tabOk (EnvOk.cons (ctrs_cons laws_eqAnswer.ok ctrs_nil) EnvOk.nil) mixed (fn := Try.f28) (body := bodyOf Try.f28) Try.func28 (by kernel_rfl) (by kernel_rfl) (fun x => by kernel_rfl)

def laws_FnExactSameAnswers.sig : Sig := ⟨[.val (.sl false (.pair (.int .i64) (.pair .str (.sl false .str)))), .val (.sl false (.pair (.int .i64) (.pair .str (.sl false .str))))], [.val .bool]⟩
noncomputable def laws_FnExactSameAnswers.ctr : Ctr := ⟨laws_FnExactSameAnswers.sig, fun x => laws_FnExactSameAnswers.f x.1 x.2⟩
noncomputable def laws_FnExactSameAnswers.env : Env := [(24, [laws_szAnswerS.ctr]), (25, [spec_SameAnswers.ctr]), (26, [laws_toAnswerS.ctr]), (27, [impl_SameAnswers.ctr]), (28, [laws_eqAnswerS.ctr])]
def laws_FnExactSameAnswers.ann : Ann := ⟨[], [], []⟩
theorem laws_FnExactSameAnswers.ok : CtrOk Try.prog 5 laws_FnExactSameAnswers.ctr := fn_sound (A := laws_FnExactSameAnswers.ann) tabOk (EnvOk.cons (ctrs_cons laws_szAnswerS.ok ctrs_nil) (EnvOk.cons (ctrs_cons spec_SameAnswers.ok ctrs_nil) (EnvOk.cons (ctrs_cons laws_toAnswerS.ok ctrs_nil) (EnvOk.cons (ctrs_cons impl_SameAnswers.ok ctrs_nil) (EnvOk.cons (ctrs_cons laws_eqAnswerS.ok ctrs_nil) EnvOk.nil))))) mixed (fn := Try.f5) (body := bodyOf Try.f5) Try.func5 (by kernel_rfl) (by kernel_rfl) (fun x => by kernel_rfl)

end Go.Proofs.Ytaijmhaonokniaa
