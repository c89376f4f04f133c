/- Each function of the program that FnExactSamePairs reaches comes to its plain function. -/
import Derived.Test.YtaijmhaonokniaaRfZg
import Derived.Test.YtaijmhaonokniaaFns
import Derived.Test.YtaijmhaonokniaaProg
namespace Go.Proofs.Ytaijmhaonokniaa
open Go Go.Rf Go.Rf.G Go.Proofs
set_option maxRecDepth 100000
def bodyOf (f : Func) : Code := f.body.getD .skip
def tab : Tab := [(3, ⟨(.int .i64), false, [], none, 8, false⟩),
  (4, ⟨.bool, false, [], none, 1, false⟩),
  (9, ⟨.str, false, [], none, 16, false⟩),
  (22, ⟨(.sl true (.pair .str (.pair .str (.int .i64)))), false, [], some 105, 24, false⟩),
  (25, ⟨(.sl true (.pair .str (.pair .str (.int .i64)))), false, [], some 50, 24, false⟩),
  (50, ⟨(.pair .str (.pair .str (.int .i64))), true, [(0, 1, false), (1, 1, false), (2, 1, false)], none, 40, true⟩),
  (105, ⟨(.pair .str (.pair .str (.int .i64))), true, [(0, 1, false), (1, 1, false), (2, 1, false)], none, 40, true⟩)]
theorem tabOk : TabOk Try.prog tab := Rf.tabOk (by kernel_rfl)
theorem mixed : Try.prog.follows .mixedOrders = true := by kernel_rfl
def laws_szPair.sig : Sig := ⟨[.val (.pair .str (.pair .str (.int .i64))), .val (.int .i64)], [.val (.int .i64)]⟩
noncomputable def laws_szPair.ctr : Ctr := ⟨laws_szPair.sig, fun x => laws_szPair.f x.1 x.2⟩
noncomputable def laws_szPair.env : Env := []
def laws_szPair.ann : Ann := ⟨[], [], []⟩
theorem laws_szPair.ok : CtrOk Try.prog 68 laws_szPair.ctr := fn_sound (A := laws_szPair.ann) tabOk EnvOk.nil mixed (fn := Try.f68) (body := bodyOf Try.f68) Try.func68 (by kernel_rfl) (by kernel_rfl) (fun x => by kernel_rfl)

def laws_szPairS.sig : Sig := ⟨[.val (.sl false (.pair .str (.pair .str (.int .i64)))), .val (.int .i64)], [.val (.int .i64)]⟩
noncomputable def laws_szPairS.ctr : Ctr := ⟨laws_szPairS.sig, fun x => laws_szPairS.f x.1 x.2⟩
noncomputable def laws_szPairS.env : Env := [(68, [laws_szPair.ctr])]
def laws_szPairS.ann : Ann := ⟨[(0, ([(0, .val (.sl false (.pair .str (.pair .str (.int .i64))))), (1, .val (.int .i64)), (5, .val (.int .i64))], [(.exit 0, [(1, .val (.int .i64))]), (.ret, [(4, .val (.int .i64))])]))], [], []⟩
theorem laws_szPairS.ok : CtrOk Try.prog 14 laws_szPairS.ctr := fn_sound (A := laws_szPairS.ann) tabOk (EnvOk.cons (ctrs_cons laws_szPair.ok ctrs_nil) EnvOk.nil) mixed (fn := Try.f14) (body := bodyOf Try.f14) Try.func14 (by kernel_rfl) (by kernel_rfl) (fun x => by kernel_rfl)

def spec_SamePairs.sig : Sig := ⟨[.val (.sl false (.pair .str (.pair .str (.int .i64)))), .val (.sl false (.pair .str (.pair .str (.int .i64))))], [.val .bool]⟩
noncomputable def spec_SamePairs.ctr : Ctr := ⟨spec_SamePairs.sig, fun x => spec_SamePairs.f x.1 x.2⟩
noncomputable def spec_SamePairs.env : Env := []
def spec_SamePairs.ann : Ann := ⟨[(0, ([(0, .val (.sl false (.pair .str (.pair .str (.int .i64))))), (1, .val (.sl false (.pair .str (.pair .str (.int .i64))))), (5, .val (.int .i64))], [(.exit 0, []), (.ret, [(4, .val .bool)])]))], [], []⟩
theorem spec_SamePairs.ok : CtrOk Try.prog 15 spec_SamePairs.ctr := fn_sound (A := spec_SamePairs.ann) tabOk EnvOk.nil mixed (fn := Try.f15) (body := bodyOf Try.f15) Try.func15 (by kernel_rfl) (by kernel_rfl) (fun x => by kernel_rfl)

def laws_toPair.sig : Sig := ⟨[.val (.pair .str (.pair .str (.int .i64)))], [.val (.pair .str (.pair .str (.int .i64)))]⟩
noncomputable def laws_toPair.ctr : Ctr := ⟨laws_toPair.sig, fun x => laws_toPair.f x⟩
noncomputable def laws_toPair.env : Env := []
def laws_toPair.ann : Ann := ⟨[], [], []⟩
theorem laws_toPair.ok : CtrOk Try.prog 69 laws_toPair.ctr := fn_sound (A := laws_toPair.ann) tabOk EnvOk.nil mixed (fn := Try.f69) (body := bodyOf Try.f69) Try.func69 (by kernel_rfl) (by kernel_rfl) (fun x => by kernel_rfl)

def laws_toPairS.sig : Sig := ⟨[.val (.sl false (.pair .str (.pair .str (.int .i64))))], [.val (.sl true (.pair .str (.pair .str (.int .i64))))]⟩
noncomputable def laws_toPairS.ctr : Ctr := ⟨laws_toPairS.sig, fun x => laws_toPairS.f x⟩
noncomputable def laws_toPairS.env : Env := [(69, [laws_toPair.ctr])]
def laws_toPairS.ann : Ann := ⟨[(0, ([(0, .val (.sl false (.pair .str (.pair .str (.int .i64))))), (3, .val (.sl true (.pair .str (.pair .str (.int .i64))))), (4, .val (.int .i64))], [(.exit 0, [(3, .val (.sl true (.pair .str (.pair .str (.int .i64)))))])]))], [], []⟩
theorem laws_toPairS.ok : CtrOk Try.prog 16 laws_toPairS.ctr := fn_sound (A := laws_toPairS.ann) tabOk (EnvOk.cons (ctrs_cons laws_toPair.ok ctrs_nil) EnvOk.nil) mixed (fn := Try.f16) (body := bodyOf Try.f16) Try.func16 (by kernel_rfl) (by kernel_rfl) (fun x => by kernel_rfl)

def impl_SamePairs.sig : Sig := ⟨[.val (.sl false (.pair .str (.pair .str (.int .i64)))), .val (.sl false (.pair .str (.pair .str (.int .i64))))], [.val .bool]⟩
noncomputable def impl_SamePairs.ctr : Ctr := ⟨impl_SamePairs.sig, fun x => impl_SamePairs.f x.1 x.2⟩
noncomputable def impl_SamePairs.env : Env := []
def impl_SamePairs.ann : Ann := ⟨[(0, ([(0, .val (.sl false (.pair .str (.pair .str (.int .i64))))), (1, .val (.sl false (.pair .str (.pair .str (.int .i64))))), (12, .val (.int .i64)), (13, .val (.int .i64))], [(.exit 0, []), (.ret, [(4, .val .bool)])]))], [], []⟩
theorem impl_SamePairs.ok : CtrOk Try.prog 17 impl_SamePairs.ctr := fn_sound (A := impl_SamePairs.ann) tabOk EnvOk.nil mixed (fn := Try.f17) (body := bodyOf Try.f17) Try.func17 (by kernel_rfl) (by kernel_rfl) (fun x => by kernel_rfl)

def laws_eqPair.sig : Sig := ⟨[.val (.pair .str (.pair .str (.int .i64))), .val (.pair .str (.pair .str (.int .i64)))], [.val .bool]⟩
noncomputable def laws_eqPair.ctr : Ctr := ⟨laws_eqPair.sig, fun x => laws_eqPair.f x.1 x.2⟩
noncomputable def laws_eqPair.env : Env := []
def laws_eqPair.ann : Ann := ⟨[], [], []⟩
theorem laws_eqPair.ok : CtrOk Try.prog 70 laws_eqPair.ctr := fn_sound (A := laws_eqPair.ann) tabOk EnvOk.nil mixed (fn := Try.f70) (body := bodyOf Try.f70) Try.func70 (by kernel_rfl) (by kernel_rfl) (fun x => by kernel_rfl)

def laws_eqPairS.sig : Sig := ⟨[.val (.sl false (.pair .str (.pair .str (.int .i64)))), .val (.sl false (.pair .str (.pair .str (.int .i64))))], [.val .bool]⟩
noncomputable def laws_eqPairS.ctr : Ctr := ⟨laws_eqPairS.sig, fun x => laws_eqPairS.f x.1 x.2⟩
noncomputable def laws_eqPairS.env : Env := [(70, [laws_eqPair.ctr])]
def laws_eqPairS.ann : Ann := ⟨[(0, ([(0, .val (.sl false (.pair .str (.pair .str (.int .i64))))), (1, .val (.sl false (.pair .str (.pair .str (.int .i64))))), (5, .val (.int .i64))], [(.exit 0, []), (.ret, [(4, .val .bool)])]))], [], []⟩
theorem laws_eqPairS.ok : CtrOk Try.prog 18 laws_eqPairS.ctr := fn_sound (A := laws_eqPairS.ann) tabOk (EnvOk.cons (ctrs_cons laws_eqPair.ok ctrs_nil) EnvOk.nil) mixed (fn := Try.f18) (body := bodyOf Try.f18) Try.func18 (by kernel_rfl) (by kernel_rfl) (fun x => by kernel_rfl)

def laws_FnExactSamePairs.sig : Sig := ⟨[.val (.sl false (.pair .str (.pair .str (.int .i64)))), .val (.sl false (.pair .str (.pair .str (.int .i64))))], [.val .bool]⟩
noncomputable def laws_FnExactSamePairs.ctr : Ctr := ⟨laws_FnExactSamePairs.sig, fun x => laws_FnExactSamePairs.f x.1 x.2⟩
noncomputable def laws_FnExactSamePairs.env : Env := [(14, [laws_szPairS.ctr]), (15, [spec_SamePairs.ctr]), (16, [laws_toPairS.ctr]), (17, [impl_SamePairs.ctr]), (18, [laws_eqPairS.ctr])]
def laws_FnExactSamePairs.ann : Ann := ⟨[], [], []⟩
theorem laws_FnExactSamePairs.ok : CtrOk Try.prog 3 laws_FnExactSamePairs.ctr := fn_sound (A := laws_FnExactSamePairs.ann) tabOk (EnvOk.cons (ctrs_cons laws_szPairS.ok ctrs_nil) (EnvOk.cons (ctrs_cons spec_SamePairs.ok ctrs_nil) (EnvOk.cons (ctrs_cons laws_toPairS.ok ctrs_nil) (EnvOk.cons (ctrs_cons impl_SamePairs.ok ctrs_nil) (EnvOk.cons (ctrs_cons laws_eqPairS.ok ctrs_nil) EnvOk.nil))))) mixed (fn := Try.f3) (body := bodyOf Try.f3) Try.func3 (by kernel_rfl) (by kernel_rfl) (fun x => by kernel_rfl)

end Go.Proofs.Ytaijmhaonokniaa
