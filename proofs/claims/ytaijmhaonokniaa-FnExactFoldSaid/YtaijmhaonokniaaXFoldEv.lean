/- Each function of the program that FnExactFold reaches comes to its plain function. -/
import Derived.Test.YtaijmhaonokniaaRfZg
import Derived.Test.YtaijmhaonokniaaFns
import Derived.Test.YtaijmhaonokniaaProg
namespace Go.Proofs.Ytaijmhaonokniaa
open Go Go.Rf Go.Rf.G Go.Proofs
set_option maxRecDepth 100000
def bodyOf (f : Func) : Code := f.body.getD .skip
def tab : Tab := [(3, ⟨(.int .i64), false, [], none, 8, false⟩),
  (4, ⟨.bool, false, [], none, 1, false⟩),
  (5, ⟨(.int .u8), false, [], none, 1, false⟩),
  (9, ⟨.str, false, [], none, 16, false⟩),
  (22, ⟨(.sl true (.pair .str (.pair .str (.int .i64)))), false, [], some 105, 24, false⟩),
  (25, ⟨(.sl true (.pair .str (.pair .str (.int .i64)))), false, [], some 50, 24, false⟩),
  (28, ⟨(.sl true (.pair .str (.pair .bool .str))), false, [], some 109, 24, false⟩),
  (31, ⟨(.sl true (.pair .str (.pair .bool .str))), false, [], some 48, 24, false⟩),
  (41, ⟨(.sl true (.int .u8)), false, [], some 5, 24, false⟩),
  (48, ⟨(.pair .str (.pair .bool .str)), true, [(0, 1, false), (1, 1, false), (2, 1, false)], none, 40, true⟩),
  (50, ⟨(.pair .str (.pair .str (.int .i64))), true, [(0, 1, false), (1, 1, false), (2, 1, false)], none, 40, true⟩),
  (105, ⟨(.pair .str (.pair .str (.int .i64))), true, [(0, 1, false), (1, 1, false), (2, 1, false)], none, 40, true⟩),
  (109, ⟨(.pair .str (.pair .bool .str)), true, [(0, 1, false), (1, 1, false), (2, 1, false)], none, 40, true⟩)]
theorem tabOk : TabOk Try.prog tab := Rf.tabOk (by kernel_rfl)
theorem mixed : Try.prog.follows .mixedOrders = true := by kernel_rfl
def laws_szPair.sig : Sig := ⟨[.val (.pair .str (.pair .str (.int .i64))), .val (.int .i64)], [.val (.int .i64)]⟩
noncomputable def laws_szPair.ctr : Ctr := ⟨laws_szPair.sig, fun x => laws_szPair.f x.1 x.2⟩
noncomputable def laws_szPair.env : Env := []
def laws_szPair.ann : Ann := ⟨[], [], []⟩
theorem laws_szPair.ok : CtrOk Try.prog 68 laws_szPair.ctr := fn_sound (A := laws_szPair.ann) tabOk EnvOk.nil mixed (fn := Try.f68) (body := bodyOf Try.f68) Try.func68 (by kernel_rfl) (by kernel_rfl) (fun x => by kernel_rfl)

def laws_szPairS.sig : Sig := ⟨[.val (.sl false (.pair .str (.pair .str (.int .i64)))), .val (.int .i64)], [.val (.int .i64)]⟩
noncomputable def laws_szPairS.ctr : Ctr := ⟨laws_szPairS.sig, fun x => laws_szPairS.f x.1 x.2⟩
noncomputable def laws_szPairS.env : Env := [(68, [laws_szPair.ctr])]
def laws_szPairS.ann : Ann := ⟨[(0, ([(0, .val (.sl false (.pair .str (.pair .str (.int .i64))))), (1, .val (.int .i64)), (5, .val (.int .i64))], [(.exit 0, [(1, .val (.int .i64))]), (.ret, [(4, .val (.int .i64))])]))], [], []⟩
theorem laws_szPairS.ok : CtrOk Try.prog 14 laws_szPairS.ctr := fn_sound (A := laws_szPairS.ann) tabOk (EnvOk.cons (ctrs_cons laws_szPair.ok ctrs_nil) EnvOk.nil) mixed (fn := Try.f14) (body := bodyOf Try.f14) Try.func14 (by kernel_rfl) (by kernel_rfl) (fun x => by kernel_rfl)

def laws_toPair.sig : Sig := ⟨[.val (.pair .str (.pair .str (.int .i64)))], [.val (.pair .str (.pair .str (.int .i64)))]⟩
noncomputable def laws_toPair.ctr : Ctr := ⟨laws_toPair.sig, fun x => laws_toPair.f x⟩
noncomputable def laws_toPair.env : Env := []
def laws_toPair.ann : Ann := ⟨[], [], []⟩
theorem laws_toPair.ok : CtrOk Try.prog 69 laws_toPair.ctr := fn_sound (A := laws_toPair.ann) tabOk EnvOk.nil mixed (fn := Try.f69) (body := bodyOf Try.f69) Try.func69 (by kernel_rfl) (by kernel_rfl) (fun x => by kernel_rfl)

def laws_toPairS.sig : Sig := ⟨[.val (.sl false (.pair .str (.pair .str (.int .i64))))], [.val (.sl true (.pair .str (.pair .str (.int .i64))))]⟩
noncomputable def laws_toPairS.ctr : Ctr := ⟨laws_toPairS.sig, fun x => laws_toPairS.f x⟩
noncomputable def laws_toPairS.env : Env := [(69, [laws_toPair.ctr])]
def laws_toPairS.ann : Ann := ⟨[(0, ([(0, .val (.sl false (.pair .str (.pair .str (.int .i64))))), (3, .val (.sl true (.pair .str (.pair .str (.int .i64))))), (4, .val (.int .i64))], [(.exit 0, [(3, .val (.sl true (.pair .str (.pair .str (.int .i64)))))])]))], [], []⟩
theorem laws_toPairS.ok : CtrOk Try.prog 16 laws_toPairS.ctr := fn_sound (A := laws_toPairS.ann) tabOk (EnvOk.cons (ctrs_cons laws_toPair.ok ctrs_nil) EnvOk.nil) mixed (fn := Try.f16) (body := bodyOf Try.f16) Try.func16 (by kernel_rfl) (by kernel_rfl) (fun x => by kernel_rfl)

def laws_eqPair.sig : Sig := ⟨[.val (.pair .str (.pair .str (.int .i64))), .val (.pair .str (.pair .str (.int .i64)))], [.val .bool]⟩
noncomputable def laws_eqPair.ctr : Ctr := ⟨laws_eqPair.sig, fun x => laws_eqPair.f x.1 x.2⟩
noncomputable def laws_eqPair.env : Env := []
def laws_eqPair.ann : Ann := ⟨[], [], []⟩
theorem laws_eqPair.ok : CtrOk Try.prog 70 laws_eqPair.ctr := fn_sound (A := laws_eqPair.ann) tabOk EnvOk.nil mixed (fn := Try.f70) (body := bodyOf Try.f70) Try.func70 (by kernel_rfl) (by kernel_rfl) (fun x => by kernel_rfl)

def laws_eqPairS.sig : Sig := ⟨[.val (.sl false (.pair .str (.pair .str (.int .i64)))), .val (.sl false (.pair .str (.pair .str (.int .i64))))], [.val .bool]⟩
noncomputable def laws_eqPairS.ctr : Ctr := ⟨laws_eqPairS.sig, fun x => laws_eqPairS.f x.1 x.2⟩
noncomputable def laws_eqPairS.env : Env := [(70, [laws_eqPair.ctr])]
def laws_eqPairS.ann : Ann := ⟨[(0, ([(0, .val (.sl false (.pair .str (.pair .str (.int .i64))))), (1, .val (.sl false (.pair .str (.pair .str (.int .i64))))), (5, .val (.int .i64))], [(.exit 0, []), (.ret, [(4, .val .bool)])]))], [], []⟩
theorem laws_eqPairS.ok : CtrOk Try.prog 18 laws_eqPairS.ctr := fn_sound (A := laws_eqPairS.ann) tabOk (EnvOk.cons (ctrs_cons laws_eqPair.ok ctrs_nil) EnvOk.nil) mixed (fn := Try.f18) (body := bodyOf Try.f18) Try.func18 (by kernel_rfl) (by kernel_rfl) (fun x => by kernel_rfl)

def laws_szPut.sig : Sig := ⟨[.val (.pair .str (.pair .bool .str)), .val (.int .i64)], [.val (.int .i64)]⟩
noncomputable def laws_szPut.ctr : Ctr := ⟨laws_szPut.sig, fun x => laws_szPut.f x.1 x.2⟩
noncomputable def laws_szPut.env : Env := []
def laws_szPut.ann : Ann := ⟨[], [], []⟩
theorem laws_szPut.ok : CtrOk Try.prog 71 laws_szPut.ctr := fn_sound (A := laws_szPut.ann) tabOk EnvOk.nil mixed (fn := Try.f71) (body := bodyOf Try.f71) Try.func71 (by kernel_rfl) (by kernel_rfl) (fun x => by kernel_rfl)

def laws_szPutS.sig : Sig := ⟨[.val (.sl false (.pair .str (.pair .bool .str))), .val (.int .i64)], [.val (.int .i64)]⟩
noncomputable def laws_szPutS.ctr : Ctr := ⟨laws_szPutS.sig, fun x => laws_szPutS.f x.1 x.2⟩
noncomputable def laws_szPutS.env : Env := [(71, [laws_szPut.ctr])]
def laws_szPutS.ann : Ann := ⟨[(0, ([(0, .val (.sl false (.pair .str (.pair .bool .str)))), (1, .val (.int .i64)), (5, .val (.int .i64))], [(.exit 0, [(1, .val (.int .i64))]), (.ret, [(4, .val (.int .i64))])]))], [], []⟩
theorem laws_szPutS.ok : CtrOk Try.prog 19 laws_szPutS.ctr := fn_sound (A := laws_szPutS.ann) tabOk (EnvOk.cons (ctrs_cons laws_szPut.ok ctrs_nil) EnvOk.nil) mixed (fn := Try.f19) (body := bodyOf Try.f19) Try.func19 (by kernel_rfl) (by kernel_rfl) (fun x => by kernel_rfl)

def laws_toPut.sig : Sig := ⟨[.val (.pair .str (.pair .bool .str))], [.val (.pair .str (.pair .bool .str))]⟩
noncomputable def laws_toPut.ctr : Ctr := ⟨laws_toPut.sig, fun x => laws_toPut.f x⟩
noncomputable def laws_toPut.env : Env := []
def laws_toPut.ann : Ann := ⟨[], [], []⟩
theorem laws_toPut.ok : CtrOk Try.prog 73 laws_toPut.ctr := fn_sound (A := laws_toPut.ann) tabOk EnvOk.nil mixed (fn := Try.f73) (body := bodyOf Try.f73) Try.func73 (by kernel_rfl) (by kernel_rfl) (fun x => by kernel_rfl)

def laws_toPutS.sig : Sig := ⟨[.val (.sl false (.pair .str (.pair .bool .str)))], [.val (.sl true (.pair .str (.pair .bool .str)))]⟩
noncomputable def laws_toPutS.ctr : Ctr := ⟨laws_toPutS.sig, fun x => laws_toPutS.f x⟩
noncomputable def laws_toPutS.env : Env := [(73, [laws_toPut.ctr])]
def laws_toPutS.ann : Ann := ⟨[(0, ([(0, .val (.sl false (.pair .str (.pair .bool .str)))), (3, .val (.sl true (.pair .str (.pair .bool .str)))), (4, .val (.int .i64))], [(.exit 0, [(3, .val (.sl true (.pair .str (.pair .bool .str))))])]))], [], []⟩
theorem laws_toPutS.ok : CtrOk Try.prog 21 laws_toPutS.ctr := fn_sound (A := laws_toPutS.ann) tabOk (EnvOk.cons (ctrs_cons laws_toPut.ok ctrs_nil) EnvOk.nil) mixed (fn := Try.f21) (body := bodyOf Try.f21) Try.func21 (by kernel_rfl) (by kernel_rfl) (fun x => by kernel_rfl)

def laws_eqPut.sig : Sig := ⟨[.val (.pair .str (.pair .bool .str)), .val (.pair .str (.pair .bool .str))], [.val .bool]⟩
noncomputable def laws_eqPut.ctr : Ctr := ⟨laws_eqPut.sig, fun x => laws_eqPut.f x.1 x.2⟩
noncomputable def laws_eqPut.env : Env := []
def laws_eqPut.ann : Ann := ⟨[], [], []⟩
theorem laws_eqPut.ok : CtrOk Try.prog 38 laws_eqPut.ctr := fn_sound (A := laws_eqPut.ann) tabOk EnvOk.nil mixed (fn := Try.f38) (body := bodyOf Try.f38) Try.func38 (by kernel_rfl) (by kernel_rfl) (fun x => by kernel_rfl)

def laws_eqPutS.sig : Sig := ⟨[.val (.sl false (.pair .str (.pair .bool .str))), .val (.sl false (.pair .str (.pair .bool .str)))], [.val .bool]⟩
noncomputable def laws_eqPutS.ctr : Ctr := ⟨laws_eqPutS.sig, fun x => laws_eqPutS.f x.1 x.2⟩
noncomputable def laws_eqPutS.env : Env := [(38, [laws_eqPut.ctr])]
def laws_eqPutS.ann : Ann := ⟨[(0, ([(0, .val (.sl false (.pair .str (.pair .bool .str)))), (1, .val (.sl false (.pair .str (.pair .bool .str)))), (5, .val (.int .i64))], [(.exit 0, []), (.ret, [(4, .val .bool)])]))], [], []⟩
theorem laws_eqPutS.ok : CtrOk Try.prog 23 laws_eqPutS.ctr := fn_sound (A := laws_eqPutS.ann) tabOk (EnvOk.cons (ctrs_cons laws_eqPut.ok ctrs_nil) EnvOk.nil) mixed (fn := Try.f23) (body := bodyOf Try.f23) Try.func23 (by kernel_rfl) (by kernel_rfl) (fun x => by kernel_rfl)

def impl_copyPairs.sig : Sig := ⟨[.val (.sl false (.pair .str (.pair .str (.int .i64))))], [.val (.sl true (.pair .str (.pair .str (.int .i64))))]⟩
noncomputable def impl_copyPairs.ctr : Ctr := ⟨impl_copyPairs.sig, fun x => impl_copyPairs.f x⟩
noncomputable def impl_copyPairs.env : Env := []
def impl_copyPairs.ann : Ann := ⟨[], [], []⟩
theorem impl_copyPairs.ok : CtrOk Try.prog 83 impl_copyPairs.ctr := fn_sound (A := impl_copyPairs.ann) tabOk EnvOk.nil mixed (fn := Try.f83) (body := bodyOf Try.f83) Try.func83 (by kernel_rfl) (by kernel_rfl) (fun x => by kernel_rfl)

def impl_without.sig : Sig := ⟨[.val (.sl false (.pair .str (.pair .str (.int .i64)))), .val .str], [.val (.sl true (.pair .str (.pair .str (.int .i64))))]⟩
noncomputable def impl_without.ctr : Ctr := ⟨impl_without.sig, fun x => impl_without.f x.1 x.2⟩
noncomputable def impl_without.env : Env := []
def impl_without.ann : Ann := ⟨[(0, ([(1, .val .str), (5, .val (.sl true (.pair .str (.pair .str (.int .i64))))), (8, .val (.sl false (.pair .str (.pair .str (.int .i64))))), (9, .val (.int .i64)), (10, .val (.int .i64))], [(.exit 0, [(5, .val (.sl true (.pair .str (.pair .str (.int .i64)))))])]))], [], [(5, [(.normal, [(1, .val .str), (5, .val (.sl true (.pair .str (.pair .str (.int .i64))))), (8, .val (.sl false (.pair .str (.pair .str (.int .i64))))), (9, .val (.int .i64)), (10, .val (.int .i64))])])]⟩
theorem impl_without.ok : CtrOk Try.prog 84 impl_without.ctr := fn_sound (A := impl_without.ann) tabOk EnvOk.nil mixed (fn := Try.f84) (body := bodyOf Try.f84) Try.func84 (by kernel_rfl) (by kernel_rfl) (fun x => by kernel_rfl)

def impl_Fold.sig : Sig := ⟨[.val (.sl false (.pair .str (.pair .str (.int .i64)))), .val (.sl false (.pair .str (.pair .bool .str))), .val (.int .i64)], [.val (.sl true (.pair .str (.pair .str (.int .i64))))]⟩
noncomputable def impl_Fold.ctr : Ctr := ⟨impl_Fold.sig, fun x => impl_Fold.f x.1 x.2.1 x.2.2⟩
noncomputable def impl_Fold.env : Env := [(83, [impl_copyPairs.ctr]), (84, [impl_without.ctr])]
def impl_Fold.ann : Ann := ⟨[(2, ([(2, .val (.int .i64)), (7, .val (.sl true (.pair .str (.pair .str (.int .i64))))), (9, .ptr (.pair .str (.pair .bool .str))), (10, .val (.int .i64)), (13, .val (.sl false (.pair .str (.pair .bool .str)))), (14, .val (.int .i64)), (15, .val (.int .i64))], [(.exit 2, [(2, .val (.int .i64)), (7, .val (.sl true (.pair .str (.pair .str (.int .i64))))), (9, .ptr (.pair .str (.pair .bool .str))), (10, .val (.int .i64)), (13, .val (.sl false (.pair .str (.pair .bool .str)))), (14, .val (.int .i64)), (15, .val (.int .i64))])])), (0, ([(2, .val (.int .i64)), (7, .val (.sl true (.pair .str (.pair .str (.int .i64))))), (13, .val (.sl false (.pair .str (.pair .bool .str)))), (14, .val (.int .i64)), (15, .val (.int .i64))], [(.exit 0, [(7, .val (.sl true (.pair .str (.pair .str (.int .i64)))))])]))], [(1, [(.normal, [(2, .val (.int .i64)), (7, .val (.sl true (.pair .str (.pair .str (.int .i64))))), (13, .val (.sl false (.pair .str (.pair .bool .str)))), (14, .val (.int .i64)), (15, .val (.int .i64))])])], []⟩
theorem impl_Fold.ok : CtrOk Try.prog 31 impl_Fold.ctr := fn_sound (A := impl_Fold.ann) tabOk (EnvOk.cons (ctrs_cons impl_copyPairs.ok ctrs_nil) (EnvOk.cons (ctrs_cons impl_without.ok ctrs_nil) EnvOk.nil)) mixed (fn := Try.f31) (body := bodyOf Try.f31) Try.func31 (by kernel_rfl) (by kernel_rfl) (fun x => by kernel_rfl)

def spec_l13Set.sig : Sig := ⟨[.val (.sl false (.pair .str (.pair .str (.int .i64)))), .val (.pair .str (.pair .str (.int .i64))), .val .bool], [.val (.sl true (.pair .str (.pair .str (.int .i64))))]⟩
noncomputable def spec_l13Set.ctr : Ctr := ⟨spec_l13Set.sig, fun x => spec_l13Set.f x.1 x.2.1 x.2.2⟩
noncomputable def spec_l13Set.env : Env := []
def spec_l13Set.ann : Ann := ⟨[(0, ([(0, .val (.sl false (.pair .str (.pair .str (.int .i64))))), (4, .ptr (.pair .str (.pair .str (.int .i64)))), (7, .val (.sl true (.pair .str (.pair .str (.int .i64))))), (8, .val .bool), (9, .val (.int .i64))], [(.exit 0, [(4, .ptr (.pair .str (.pair .str (.int .i64)))), (7, .val (.sl true (.pair .str (.pair .str (.int .i64))))), (8, .val .bool)])]))], [(1, [(.normal, [(0, .val (.sl false (.pair .str (.pair .str (.int .i64))))), (4, .ptr (.pair .str (.pair .str (.int .i64)))), (7, .val (.sl true (.pair .str (.pair .str (.int .i64))))), (8, .val .bool), (9, .val (.int .i64))])])], [(7, [(.normal, [(0, .val (.sl false (.pair .str (.pair .str (.int .i64))))), (4, .ptr (.pair .str (.pair .str (.int .i64)))), (7, .val (.sl true (.pair .str (.pair .str (.int .i64))))), (8, .val .bool), (9, .val (.int .i64))])])]⟩
theorem spec_l13Set.ok : CtrOk Try.prog 94 spec_l13Set.ctr := fn_sound (A := spec_l13Set.ann) tabOk EnvOk.nil mixed (fn := Try.f94) (body := bodyOf Try.f94) Try.func94 (by kernel_rfl) (by kernel_rfl) (fun x => by kernel_rfl)

def spec_Fold.sig : Sig := ⟨[.val (.sl false (.pair .str (.pair .str (.int .i64)))), .val (.sl false (.pair .str (.pair .bool .str))), .val (.int .i64)], [.val (.sl true (.pair .str (.pair .str (.int .i64))))]⟩
noncomputable def spec_Fold.ctr : Ctr := ⟨spec_Fold.sig, fun x => spec_Fold.f x.1 x.2.1 x.2.2⟩
noncomputable def spec_Fold.env : Env := [(94, [spec_l13Set.ctr])]
def spec_Fold.ann : Ann := ⟨[(0, ([(1, .val (.sl false (.pair .str (.pair .bool .str)))), (2, .val (.int .i64)), (7, .val (.sl true (.pair .str (.pair .str (.int .i64))))), (8, .val (.int .i64))], [(.exit 0, [(7, .val (.sl true (.pair .str (.pair .str (.int .i64)))))])]))], [], []⟩
theorem spec_Fold.ok : CtrOk Try.prog 43 spec_Fold.ctr := fn_sound (A := spec_Fold.ann) tabOk (EnvOk.cons (ctrs_cons spec_l13Set.ok ctrs_nil) EnvOk.nil) mixed (fn := Try.f43) (body := bodyOf Try.f43) Try.func43 (by kernel_rfl) (by kernel_rfl) (fun x => by kernel_rfl)

def laws_markText.sig : Sig := ⟨[.val (.int .i64)], [.val .str]⟩
noncomputable def laws_markText.ctr : Ctr := ⟨laws_markText.sig, fun x => laws_markText.f x⟩
noncomputable def laws_markText.env : Env := []
def laws_markText.ann : Ann := ⟨[(0, ([(0, .val (.int .i64)), (3, .val .str)], [(.exit 0, [(3, .val .str)])]))], [], []⟩
theorem laws_markText.ok : CtrOk Try.prog 95 laws_markText.ctr := fn_sound (A := laws_markText.ann) tabOk EnvOk.nil mixed (fn := Try.f95) (body := bodyOf Try.f95) Try.func95 (by kernel_rfl) (by kernel_rfl) (fun x => by kernel_rfl)

def laws_markPairS.sig : Sig := ⟨[.io (.sl true (.pair .str (.pair .str (.int .i64)))), .val (.int .i64)], [.val (.int .i64)]⟩
noncomputable def laws_markPairS.ctr : Ctr := ⟨laws_markPairS.sig, fun x => laws_markPairS.f x.1 x.2⟩
noncomputable def laws_markPairS.env : Env := [(95, [laws_markText.ctr])]
def laws_markPairS.ann : Ann := ⟨[(0, ([(0, .val (.sl true (.pair .str (.pair .str (.int .i64))))), (1, .val (.int .i64)), (5, .val (.int .i64))], [(.exit 0, [(0, .val (.sl true (.pair .str (.pair .str (.int .i64))))), (1, .val (.int .i64))])]))], [], []⟩
theorem laws_markPairS.ok : CtrOk Try.prog 44 laws_markPairS.ctr := fn_sound (A := laws_markPairS.ann) tabOk (EnvOk.cons (ctrs_cons laws_markText.ok ctrs_nil) EnvOk.nil) mixed (fn := Try.f44) (body := bodyOf Try.f44) Try.func44 (by kernel_rfl) (by kernel_rfl) (fun x => by kernel_rfl)

def laws_markPutS.sig : Sig := ⟨[.io (.sl true (.pair .str (.pair .bool .str))), .val (.int .i64)], [.val (.int .i64)]⟩
noncomputable def laws_markPutS.ctr : Ctr := ⟨laws_markPutS.sig, fun x => laws_markPutS.f x.1 x.2⟩
noncomputable def laws_markPutS.env : Env := [(95, [laws_markText.ctr])]
def laws_markPutS.ann : Ann := ⟨[(0, ([(0, .val (.sl true (.pair .str (.pair .bool .str)))), (1, .val (.int .i64)), (5, .val (.int .i64))], [(.exit 0, [(0, .val (.sl true (.pair .str (.pair .bool .str)))), (1, .val (.int .i64))])]))], [], []⟩
theorem laws_markPutS.ok : CtrOk Try.prog 45 laws_markPutS.ctr := fn_sound (A := laws_markPutS.ann) tabOk (EnvOk.cons (ctrs_cons laws_markText.ok ctrs_nil) EnvOk.nil) mixed (fn := Try.f45) (body := bodyOf Try.f45) Try.func45 (by kernel_rfl) (by kernel_rfl) (fun x => by kernel_rfl)

def laws_heldPairS.sig : Sig := ⟨[.val (.sl false (.pair .str (.pair .str (.int .i64)))), .val (.int .i64)], [.val (.int .i64)]⟩
noncomputable def laws_heldPairS.ctr : Ctr := ⟨laws_heldPairS.sig, fun x => laws_heldPairS.f x.1 x.2⟩
noncomputable def laws_heldPairS.env : Env := [(95, [laws_markText.ctr])]
def laws_heldPairS.ann : Ann := ⟨[(0, ([(0, .val (.sl false (.pair .str (.pair .str (.int .i64))))), (1, .val (.int .i64)), (5, .val (.int .i64))], [(.exit 0, [(1, .val (.int .i64))]), (.ret, [(4, .val (.int .i64))])]))], [], []⟩
theorem laws_heldPairS.ok : CtrOk Try.prog 46 laws_heldPairS.ctr := fn_sound (A := laws_heldPairS.ann) tabOk (EnvOk.cons (ctrs_cons laws_markText.ok ctrs_nil) EnvOk.nil) mixed (fn := Try.f46) (body := bodyOf Try.f46) Try.func46 (by kernel_rfl) (by kernel_rfl) (fun x => by kernel_rfl)

def laws_FnExactFold.sig : Sig := ⟨[.val (.sl false (.pair .str (.pair .str (.int .i64)))), .val (.sl false (.pair .str (.pair .bool .str))), .val (.int .i64)], [.val .bool]⟩
noncomputable def laws_FnExactFold.ctr : Ctr := ⟨laws_FnExactFold.sig, fun x => laws_FnExactFold.f x.1 x.2.1 x.2.2⟩
noncomputable def laws_FnExactFold.env : Env := [(14, [laws_szPairS.ctr]), (16, [laws_toPairS.ctr]), (18, [laws_eqPairS.ctr]), (19, [laws_szPutS.ctr]), (21, [laws_toPutS.ctr]), (23, [laws_eqPutS.ctr]), (31, [impl_Fold.ctr]), (43, [spec_Fold.ctr]), (44, [laws_markPairS.ctr]), (45, [laws_markPutS.ctr]), (46, [laws_heldPairS.ctr])]
def laws_FnExactFold.ann : Ann := ⟨[], [], []⟩
theorem laws_FnExactFold.ok : CtrOk Try.prog 9 laws_FnExactFold.ctr := fn_sound (A := laws_FnExactFold.ann) tabOk (EnvOk.cons (ctrs_cons laws_szPairS.ok ctrs_nil) (EnvOk.cons (ctrs_cons laws_toPairS.ok ctrs_nil) (EnvOk.cons (ctrs_cons laws_eqPairS.ok ctrs_nil) (EnvOk.cons (ctrs_cons laws_szPutS.ok ctrs_nil) (EnvOk.cons (ctrs_cons laws_toPutS.ok ctrs_nil) (EnvOk.cons (ctrs_cons laws_eqPutS.ok ctrs_nil) (EnvOk.cons (ctrs_cons impl_Fold.ok ctrs_nil) (EnvOk.cons (ctrs_cons spec_Fold.ok ctrs_nil) (EnvOk.cons (ctrs_cons laws_markPairS.ok ctrs_nil) (EnvOk.cons (ctrs_cons laws_markPutS.ok ctrs_nil) (EnvOk.cons (ctrs_cons laws_heldPairS.ok ctrs_nil) EnvOk.nil))))))))))) mixed (fn := Try.f9) (body := bodyOf Try.f9) Try.func9 (by kernel_rfl) (by kernel_rfl) (fun x => by kernel_rfl)

end Go.Proofs.Ytaijmhaonokniaa
