/- Each function of the program that FnFolds reaches comes to its plain function. -/
import Derived.Test.YtaijmhaonokniaaRf5
import Derived.Test.YtaijmhaonokniaaLFoldsFns
import Derived.Test.YtaijmhaonokniaaProg
namespace Go.Proofs.Ytaijmhaonokniaa
open Go Go.Rf Go.Rf.G Go.Proofs
set_option maxRecDepth 100000
def bodyOf (f : Func) : Code := f.body.getD .skip
def tab : Tab := [(3, ⟨(.int .i64), false, [], none, 8, false⟩),
  (4, ⟨.bool, false, [], none, 1, false⟩),
  (5, ⟨(.int .u8), false, [], none, 1, false⟩),
  (9, ⟨.str, false, [], none, 16, false⟩),
  (25, ⟨(.sl true (.pair .str (.pair .str (.int .i64)))), false, [], some 50, 24, false⟩),
  (31, ⟨(.sl true (.pair .str (.pair .bool .str))), false, [], some 48, 24, false⟩),
  (41, ⟨(.sl true (.int .u8)), false, [], some 5, 24, false⟩),
  (48, ⟨(.pair .str (.pair .bool .str)), true, [(0, 1, false), (1, 1, false), (2, 1, false)], none, 40, true⟩),
  (50, ⟨(.pair .str (.pair .str (.int .i64))), true, [(0, 1, false), (1, 1, false), (2, 1, false)], none, 40, true⟩),
  (53, ⟨(.pair (.int .i64) (.sl true (.pair .str (.pair .bool .str)))), true, [(0, 1, false), (1, 1, false)], none, 32, false⟩),
  (54, ⟨(.sl true (.pair (.int .i64) (.sl true (.pair .str (.pair .bool .str))))), false, [], some 53, 24, false⟩),
  (114, ⟨(.sl true .str), false, [], some 9, 24, false⟩),
  (163, ⟨(.pair (.sl true (.int .u8)) (.pair (.int .i64) (.int .i64))), true, [(0, 1, false), (1, 1, false), (2, 1, false)], none, 40, false⟩)]
theorem tabOk : TabOk Try.prog tab := Rf.tabOk (by kernel_rfl)
theorem mixed : Try.prog.follows .mixedOrders = true := by kernel_rfl
def spec_SamePairs.sig : Sig := ⟨[.val (.sl false (.pair .str (.pair .str (.int .i64)))), .val (.sl false (.pair .str (.pair .str (.int .i64))))], [.val .bool]⟩
noncomputable def spec_SamePairs.ctr : Ctr := ⟨spec_SamePairs.sig, fun x => spec_SamePairs.f x.1 x.2⟩
noncomputable def spec_SamePairs.env : Env := []
def spec_SamePairs.ann : Ann := ⟨[(0, ([(0, .val (.sl false (.pair .str (.pair .str (.int .i64))))), (1, .val (.sl false (.pair .str (.pair .str (.int .i64))))), (5, .val (.int .i64))], [(.exit 0, []), (.ret, [(4, .val .bool)])]))], [], []⟩
theorem spec_SamePairs.ok : CtrOk Try.prog 15 spec_SamePairs.ctr := fn_sound (A := spec_SamePairs.ann) tabOk EnvOk.nil mixed (fn := Try.f15) (body := bodyOf Try.f15) Try.func15 (by kernel_rfl) (by kernel_rfl) (fun x => by kernel_rfl)

def laws_big.sig : Sig := ⟨[.val (.sl false (.int .u8))], [.val .bool]⟩
noncomputable def laws_big.ctr : Ctr := ⟨laws_big.sig, fun x => laws_big.f x⟩
noncomputable def laws_big.env : Env := []
def laws_big.ann : Ann := ⟨[], [], []⟩
theorem laws_big.ok : CtrOk Try.prog 29 laws_big.ctr := fn_sound (A := laws_big.ann) tabOk EnvOk.nil mixed (fn := Try.f29) (body := bodyOf Try.f29) Try.func29 (by kernel_rfl) (by kernel_rfl) (fun x => by kernel_rfl)

def spec_l1New.sig : Sig := ⟨[.val (.sl false (.int .u8))], [.ptr (.pair (.sl false (.int .u8)) (.pair (.int .i64) (.int .i64)))]⟩
noncomputable def spec_l1New.ctr : Ctr := ⟨spec_l1New.sig, fun x => spec_l1New.f x⟩
noncomputable def spec_l1New.env : Env := []
def spec_l1New.ann : Ann := ⟨[(0, ([(0, .val (.sl false (.int .u8))), (3, .val (.int .i64)), (4, .val (.int .i64))], [(.exit 0, [(0, .val (.sl false (.int .u8))), (3, .val (.int .i64))])]))], [], []⟩
theorem spec_l1New.ok : CtrOk Try.prog 79 spec_l1New.ctr := fn_sound (A := spec_l1New.ann) tabOk EnvOk.nil mixed (fn := Try.f79) (body := bodyOf Try.f79) Try.func79 (by kernel_rfl) (by kernel_rfl) (fun x => by kernel_rfl)

def spec_l1Byte.sig : Sig := ⟨[.ptr (.pair (.sl false (.int .u8)) (.pair (.int .i64) (.int .i64)))], [.val (.int .i64)]⟩
noncomputable def spec_l1Byte.ctr : Ctr := ⟨spec_l1Byte.sig, fun x => spec_l1Byte.f x⟩
noncomputable def spec_l1Byte.env : Env := []
def spec_l1Byte.ann : Ann := ⟨[], [], []⟩
theorem spec_l1Byte.ok : CtrOk Try.prog 121 spec_l1Byte.ctr := fn_sound (A := spec_l1Byte.ann) tabOk EnvOk.nil mixed (fn := Try.f121) (body := bodyOf Try.f121) Try.func121 (by kernel_rfl) (by kernel_rfl) (fun x => by kernel_rfl)

def spec_l1Below.sig : Sig := ⟨[.ptr (.pair (.sl false (.int .u8)) (.pair (.int .i64) (.int .i64))), .val (.int .i64)], [.val (.int .i64)]⟩
noncomputable def spec_l1Below.ctr : Ctr := ⟨spec_l1Below.sig, fun x => spec_l1Below.f x.1 x.2⟩
noncomputable def spec_l1Below.env : Env := [(121, [spec_l1Byte.ctr])]
def spec_l1Below.ann : Ann := ⟨[], [], []⟩
theorem spec_l1Below.ok : CtrOk Try.prog 82 spec_l1Below.ctr := fn_sound (A := spec_l1Below.ann) tabOk (EnvOk.cons (ctrs_cons spec_l1Byte.ok ctrs_nil) EnvOk.nil) mixed (fn := Try.f82) (body := bodyOf Try.f82) Try.func82 (by kernel_rfl) (by kernel_rfl) (fun x => by kernel_rfl)

def spec_l1Pick.sig : Sig := ⟨[.ptr (.pair (.sl false (.int .u8)) (.pair (.int .i64) (.int .i64))), .val (.sl false .str)], [.val .str]⟩
noncomputable def spec_l1Pick.ctr : Ctr := ⟨spec_l1Pick.sig, fun x => spec_l1Pick.f x.1 x.2⟩
noncomputable def spec_l1Pick.env : Env := [(82, [spec_l1Below.ctr])]
def spec_l1Pick.ann : Ann := ⟨[], [], []⟩
theorem spec_l1Pick.ok : CtrOk Try.prog 127 spec_l1Pick.ctr := fn_sound (A := spec_l1Pick.ann) tabOk (EnvOk.cons (ctrs_cons spec_l1Below.ok ctrs_nil) EnvOk.nil) mixed (fn := Try.f127) (body := bodyOf Try.f127) Try.func127 (by kernel_rfl) (by kernel_rfl) (fun x => by kernel_rfl)

def spec_l5Key.sig : Sig := ⟨[.ptr (.pair (.sl false (.int .u8)) (.pair (.int .i64) (.int .i64)))], [.val .str]⟩
noncomputable def spec_l5Key.ctr : Ctr := ⟨spec_l5Key.sig, fun x => spec_l5Key.f x⟩
noncomputable def spec_l5Key.env : Env := [(127, [spec_l1Pick.ctr])]
def spec_l5Key.ann : Ann := ⟨[], [], []⟩
theorem spec_l5Key.ok : CtrOk Try.prog 89 spec_l5Key.ctr := fn_sound (A := spec_l5Key.ann) tabOk (EnvOk.cons (ctrs_cons spec_l1Pick.ok ctrs_nil) EnvOk.nil) mixed (fn := Try.f89) (body := bodyOf Try.f89) Try.func89 (by kernel_rfl) (by kernel_rfl) (fun x => by kernel_rfl)

def spec_l13Set.sig : Sig := ⟨[.val (.sl false (.pair .str (.pair .str (.int .i64)))), .val (.pair .str (.pair .str (.int .i64))), .val .bool], [.val (.sl true (.pair .str (.pair .str (.int .i64))))]⟩
noncomputable def spec_l13Set.ctr : Ctr := ⟨spec_l13Set.sig, fun x => spec_l13Set.f x.1 x.2.1 x.2.2⟩
noncomputable def spec_l13Set.env : Env := []
def spec_l13Set.ann : Ann := ⟨[(0, ([(0, .val (.sl false (.pair .str (.pair .str (.int .i64))))), (4, .ptr (.pair .str (.pair .str (.int .i64)))), (7, .val (.sl true (.pair .str (.pair .str (.int .i64))))), (8, .val .bool), (9, .val (.int .i64))], [(.exit 0, [(4, .ptr (.pair .str (.pair .str (.int .i64)))), (7, .val (.sl true (.pair .str (.pair .str (.int .i64))))), (8, .val .bool)])]))], [(1, [(.normal, [(0, .val (.sl false (.pair .str (.pair .str (.int .i64))))), (4, .ptr (.pair .str (.pair .str (.int .i64)))), (7, .val (.sl true (.pair .str (.pair .str (.int .i64))))), (8, .val .bool), (9, .val (.int .i64))])])], [(7, [(.normal, [(0, .val (.sl false (.pair .str (.pair .str (.int .i64))))), (4, .ptr (.pair .str (.pair .str (.int .i64)))), (7, .val (.sl true (.pair .str (.pair .str (.int .i64))))), (8, .val .bool), (9, .val (.int .i64))])])]⟩
theorem spec_l13Set.ok : CtrOk Try.prog 94 spec_l13Set.ctr := fn_sound (A := spec_l13Set.ann) tabOk EnvOk.nil mixed (fn := Try.f94) (body := bodyOf Try.f94) Try.func94 (by kernel_rfl) (by kernel_rfl) (fun x => by kernel_rfl)

def spec_l1Text.sig : Sig := ⟨[.ptr (.pair (.sl false (.int .u8)) (.pair (.int .i64) (.int .i64))), .val (.int .i64)], [.val .str]⟩
noncomputable def spec_l1Text.ctr : Ctr := ⟨spec_l1Text.sig, fun x => spec_l1Text.f x.1 x.2⟩
noncomputable def spec_l1Text.env : Env := [(82, [spec_l1Below.ctr]), (121, [spec_l1Byte.ctr])]
def spec_l1Text.ann : Ann := ⟨[(0, ([(0, .ptr (.pair (.sl false (.int .u8)) (.pair (.int .i64) (.int .i64)))), (5, .val (.sl true (.int .u8))), (6, .val (.int .i64)), (7, .val (.int .i64))], [(.exit 0, [(0, .ptr (.pair (.sl false (.int .u8)) (.pair (.int .i64) (.int .i64)))), (5, .val (.sl true (.int .u8)))])]))], [], [(7, [(.normal, [(0, .ptr (.pair (.sl false (.int .u8)) (.pair (.int .i64) (.int .i64)))), (5, .val (.sl true (.int .u8))), (6, .val (.int .i64)), (7, .val (.int .i64)), (8, .val (.int .i64))])]), (9, [(.normal, [(0, .ptr (.pair (.sl false (.int .u8)) (.pair (.int .i64) (.int .i64)))), (5, .val (.sl true (.int .u8))), (6, .val (.int .i64)), (7, .val (.int .i64)), (8, .val (.int .i64))])])]⟩
theorem spec_l1Text.ok : CtrOk Try.prog 120 spec_l1Text.ctr := fn_sound (A := spec_l1Text.ann) tabOk (EnvOk.cons (ctrs_cons spec_l1Below.ok ctrs_nil) (EnvOk.cons (ctrs_cons spec_l1Byte.ok ctrs_nil) EnvOk.nil)) mixed (fn := Try.f120) (body := bodyOf Try.f120) Try.func120 (by kernel_rfl) (by kernel_rfl) (fun x => by kernel_rfl)

def spec_l13Pairs.sig : Sig := ⟨[.ptr (.pair (.sl false (.int .u8)) (.pair (.int .i64) (.int .i64)))], [.val (.sl true (.pair .str (.pair .str (.int .i64))))]⟩
noncomputable def spec_l13Pairs.ctr : Ctr := ⟨spec_l13Pairs.sig, fun x => spec_l13Pairs.f x⟩
noncomputable def spec_l13Pairs.env : Env := [(82, [spec_l1Below.ctr]), (89, [spec_l5Key.ctr]), (94, [spec_l13Set.ctr]), (120, [spec_l1Text.ctr])]
def spec_l13Pairs.ann : Ann := ⟨[(0, ([(0, .ptr (.pair (.sl false (.int .u8)) (.pair (.int .i64) (.int .i64)))), (3, .val (.sl true (.pair .str (.pair .str (.int .i64))))), (4, .val (.int .i64))], [(.exit 0, [(0, .ptr (.pair (.sl false (.int .u8)) (.pair (.int .i64) (.int .i64)))), (3, .val (.sl true (.pair .str (.pair .str (.int .i64)))))])]))], [], []⟩
theorem spec_l13Pairs.ok : CtrOk Try.prog 80 spec_l13Pairs.ctr := fn_sound (A := spec_l13Pairs.ann) tabOk (EnvOk.cons (ctrs_cons spec_l1Below.ok ctrs_nil) (EnvOk.cons (ctrs_cons spec_l5Key.ok ctrs_nil) (EnvOk.cons (ctrs_cons spec_l13Set.ok ctrs_nil) (EnvOk.cons (ctrs_cons spec_l1Text.ok ctrs_nil) EnvOk.nil)))) mixed (fn := Try.f80) (body := bodyOf Try.f80) Try.func80 (by kernel_rfl) (by kernel_rfl) (fun x => by kernel_rfl)

def spec_l1Once.sig : Sig := ⟨[.ptr (.pair (.sl false (.int .u8)) (.pair (.int .i64) (.int .i64))), .val (.int .i64)], [.val .bool]⟩
noncomputable def spec_l1Once.ctr : Ctr := ⟨spec_l1Once.sig, fun x => spec_l1Once.f x.1 x.2⟩
noncomputable def spec_l1Once.env : Env := [(82, [spec_l1Below.ctr])]
def spec_l1Once.ann : Ann := ⟨[], [], []⟩
theorem spec_l1Once.ok : CtrOk Try.prog 90 spec_l1Once.ctr := fn_sound (A := spec_l1Once.ann) tabOk (EnvOk.cons (ctrs_cons spec_l1Below.ok ctrs_nil) EnvOk.nil) mixed (fn := Try.f90) (body := bodyOf Try.f90) Try.func90 (by kernel_rfl) (by kernel_rfl) (fun x => by kernel_rfl)

def spec_l12Puts.sig : Sig := ⟨[.ptr (.pair (.sl false (.int .u8)) (.pair (.int .i64) (.int .i64)))], [.val (.sl true (.pair .str (.pair .bool .str)))]⟩
noncomputable def spec_l12Puts.ctr : Ctr := ⟨spec_l12Puts.sig, fun x => spec_l12Puts.f x⟩
noncomputable def spec_l12Puts.env : Env := [(82, [spec_l1Below.ctr]), (89, [spec_l5Key.ctr]), (90, [spec_l1Once.ctr]), (120, [spec_l1Text.ctr])]
def spec_l12Puts.ann : Ann := ⟨[(0, ([(0, .ptr (.pair (.sl false (.int .u8)) (.pair (.int .i64) (.int .i64)))), (3, .val (.sl true (.pair .str (.pair .bool .str)))), (4, .val (.int .i64))], [(.exit 0, [(0, .ptr (.pair (.sl false (.int .u8)) (.pair (.int .i64) (.int .i64)))), (3, .val (.sl true (.pair .str (.pair .bool .str))))])]))], [], [(6, [(.normal, [(0, .ptr (.pair (.sl false (.int .u8)) (.pair (.int .i64) (.int .i64)))), (3, .val (.sl true (.pair .str (.pair .bool .str)))), (4, .val (.int .i64)), (5, .ptr (.pair .str (.pair .bool .str)))])])]⟩
theorem spec_l12Puts.ok : CtrOk Try.prog 81 spec_l12Puts.ctr := fn_sound (A := spec_l12Puts.ann) tabOk (EnvOk.cons (ctrs_cons spec_l1Below.ok ctrs_nil) (EnvOk.cons (ctrs_cons spec_l5Key.ok ctrs_nil) (EnvOk.cons (ctrs_cons spec_l1Once.ok ctrs_nil) (EnvOk.cons (ctrs_cons spec_l1Text.ok ctrs_nil) EnvOk.nil)))) mixed (fn := Try.f81) (body := bodyOf Try.f81) Try.func81 (by kernel_rfl) (by kernel_rfl) (fun x => by kernel_rfl)

def spec_DrawFold.sig : Sig := ⟨[.val (.sl false (.int .u8))], [.val (.sl true (.pair .str (.pair .str (.int .i64)))), .val (.sl true (.pair .str (.pair .bool .str))), .val (.int .i64)]⟩
noncomputable def spec_DrawFold.ctr : Ctr := ⟨spec_DrawFold.sig, fun x => spec_DrawFold.f x⟩
noncomputable def spec_DrawFold.env : Env := [(79, [spec_l1New.ctr]), (80, [spec_l13Pairs.ctr]), (81, [spec_l12Puts.ctr]), (82, [spec_l1Below.ctr])]
def spec_DrawFold.ann : Ann := ⟨[], [], []⟩
theorem spec_DrawFold.ok : CtrOk Try.prog 30 spec_DrawFold.ctr := fn_sound (A := spec_DrawFold.ann) tabOk (EnvOk.cons (ctrs_cons spec_l1New.ok ctrs_nil) (EnvOk.cons (ctrs_cons spec_l13Pairs.ok ctrs_nil) (EnvOk.cons (ctrs_cons spec_l12Puts.ok ctrs_nil) (EnvOk.cons (ctrs_cons spec_l1Below.ok ctrs_nil) EnvOk.nil)))) mixed (fn := Try.f30) (body := bodyOf Try.f30) Try.func30 (by kernel_rfl) (by kernel_rfl) (fun x => by kernel_rfl)

def impl_copyPairs.sig : Sig := ⟨[.val (.sl false (.pair .str (.pair .str (.int .i64))))], [.val (.sl true (.pair .str (.pair .str (.int .i64))))]⟩
noncomputable def impl_copyPairs.ctr : Ctr := ⟨impl_copyPairs.sig, fun x => impl_copyPairs.f x⟩
noncomputable def impl_copyPairs.env : Env := []
def impl_copyPairs.ann : Ann := ⟨[], [], []⟩
theorem impl_copyPairs.ok : CtrOk Try.prog 83 impl_copyPairs.ctr := fn_sound (A := impl_copyPairs.ann) tabOk EnvOk.nil mixed (fn := Try.f83) (body := bodyOf Try.f83) Try.func83 (by kernel_rfl) (by kernel_rfl) (fun x => by kernel_rfl)

def impl_without.sig : Sig := ⟨[.val (.sl false (.pair .str (.pair .str (.int .i64)))), .val .str], [.val (.sl true (.pair .str (.pair .str (.int .i64))))]⟩
noncomputable def impl_without.ctr : Ctr := ⟨impl_without.sig, fun x => impl_without.f x.1 x.2⟩
noncomputable def impl_without.env : Env := []
def impl_without.ann : Ann := ⟨[(0, ([(1, .val .str), (5, .val (.sl true (.pair .str (.pair .str (.int .i64))))), (8, .val (.sl false (.pair .str (.pair .str (.int .i64))))), (9, .val (.int .i64)), (10, .val (.int .i64))], [(.exit 0, [(5, .val (.sl true (.pair .str (.pair .str (.int .i64)))))])]))], [], [(5, [(.normal, [(1, .val .str), (5, .val (.sl true (.pair .str (.pair .str (.int .i64))))), (8, .val (.sl false (.pair .str (.pair .str (.int .i64))))), (9, .val (.int .i64)), (10, .val (.int .i64))])])]⟩
theorem impl_without.ok : CtrOk Try.prog 84 impl_without.ctr := fn_sound (A := impl_without.ann) tabOk EnvOk.nil mixed (fn := Try.f84) (body := bodyOf Try.f84) Try.func84 (by kernel_rfl) (by kernel_rfl) (fun x => by kernel_rfl)

def impl_Fold.sig : Sig := ⟨[.val (.sl false (.pair .str (.pair .str (.int .i64)))), .val (.sl false (.pair .str (.pair .bool .str))), .val (.int .i64)], [.val (.sl true (.pair .str (.pair .str (.int .i64))))]⟩
noncomputable def impl_Fold.ctr : Ctr := ⟨impl_Fold.sig, fun x => impl_Fold.f x.1 x.2.1 x.2.2⟩
noncomputable def impl_Fold.env : Env := [(83, [impl_copyPairs.ctr]), (84, [impl_without.ctr])]
def impl_Fold.ann : Ann := ⟨[(2, ([(2, .val (.int .i64)), (7, .val (.sl true (.pair .str (.pair .str (.int .i64))))), (9, .ptr (.pair .str (.pair .bool .str))), (10, .val (.int .i64)), (13, .val (.sl false (.pair .str (.pair .bool .str)))), (14, .val (.int .i64)), (15, .val (.int .i64))], [(.exit 2, [(2, .val (.int .i64)), (7, .val (.sl true (.pair .str (.pair .str (.int .i64))))), (9, .ptr (.pair .str (.pair .bool .str))), (10, .val (.int .i64)), (13, .val (.sl false (.pair .str (.pair .bool .str)))), (14, .val (.int .i64)), (15, .val (.int .i64))])])), (0, ([(2, .val (.int .i64)), (7, .val (.sl true (.pair .str (.pair .str (.int .i64))))), (13, .val (.sl false (.pair .str (.pair .bool .str)))), (14, .val (.int .i64)), (15, .val (.int .i64))], [(.exit 0, [(7, .val (.sl true (.pair .str (.pair .str (.int .i64)))))])]))], [(1, [(.normal, [(2, .val (.int .i64)), (7, .val (.sl true (.pair .str (.pair .str (.int .i64))))), (13, .val (.sl false (.pair .str (.pair .bool .str)))), (14, .val (.int .i64)), (15, .val (.int .i64))])])], []⟩
theorem impl_Fold.ok : CtrOk Try.prog 31 impl_Fold.ctr := fn_sound (A := impl_Fold.ann) tabOk (EnvOk.cons (ctrs_cons impl_copyPairs.ok ctrs_nil) (EnvOk.cons (ctrs_cons impl_without.ok ctrs_nil) EnvOk.nil)) mixed (fn := Try.f31) (body := bodyOf Try.f31) Try.func31 (by kernel_rfl) (by kernel_rfl) (fun x => by kernel_rfl)

def laws_at.sig : Sig := ⟨[.val (.sl false (.int .u8)), .val (.int .i64)], [.val (.int .i64)]⟩
noncomputable def laws_at.ctr : Ctr := ⟨laws_at.sig, fun x => laws_at.f x.1 x.2⟩
noncomputable def laws_at.env : Env := []
def laws_at.ann : Ann := ⟨[], [], []⟩
theorem laws_at.ok : CtrOk Try.prog 32 laws_at.ctr := fn_sound (A := laws_at.ann) tabOk EnvOk.nil mixed (fn := Try.f32) (body := bodyOf Try.f32) Try.func32 (by kernel_rfl) (by kernel_rfl) (fun x => by kernel_rfl)

def impl_FoldAcks.sig : Sig := ⟨[.val (.sl false (.pair .str (.pair .str (.int .i64)))), .val (.sl false (.pair (.int .i64) (.sl false (.pair .str (.pair .bool .str)))))], [.val (.sl true (.pair .str (.pair .str (.int .i64))))]⟩
noncomputable def impl_FoldAcks.ctr : Ctr := ⟨impl_FoldAcks.sig, fun x => impl_FoldAcks.f x.1 x.2⟩
noncomputable def impl_FoldAcks.env : Env := [(31, [impl_Fold.ctr]), (83, [impl_copyPairs.ctr])]
def impl_FoldAcks.ann : Ann := ⟨[(0, ([(5, .val (.sl true (.pair .str (.pair .str (.int .i64))))), (10, .val (.sl false (.pair (.int .i64) (.sl false (.pair .str (.pair .bool .str)))))), (11, .val (.int .i64)), (12, .val (.int .i64))], [(.exit 0, [(5, .val (.sl true (.pair .str (.pair .str (.int .i64)))))])]))], [], []⟩
theorem impl_FoldAcks.ok : CtrOk Try.prog 33 impl_FoldAcks.ctr := fn_sound (A := impl_FoldAcks.ann) tabOk (EnvOk.cons (ctrs_cons impl_Fold.ok ctrs_nil) (EnvOk.cons (ctrs_cons impl_copyPairs.ok ctrs_nil) EnvOk.nil)) mixed (fn := Try.f33) (body := bodyOf Try.f33) Try.func33 (by kernel_rfl) (by kernel_rfl) (fun x => by kernel_rfl)

def laws_FnFolds.sig : Sig := ⟨[.val (.sl false (.int .u8))], [.val .bool]⟩
noncomputable def laws_FnFolds.ctr : Ctr := ⟨laws_FnFolds.sig, fun x => laws_FnFolds.f x⟩
noncomputable def laws_FnFolds.env : Env := [(15, [spec_SamePairs.ctr]), (29, [laws_big.ctr]), (30, [spec_DrawFold.ctr]), (31, [impl_Fold.ctr]), (32, [laws_at.ctr]), (33, [impl_FoldAcks.ctr])]
def laws_FnFolds.ann : Ann := ⟨[(2, ([(3, .val (.sl true (.pair .str (.pair .str (.int .i64))))), (4, .val (.sl true (.pair .str (.pair .bool .str)))), (5, .val (.int .i64)), (6, .val (.sl true (.pair .str (.pair .str (.int .i64))))), (8, .val (.int .i64)), (9, .val .bool), (10, .val (.int .i64))], [(.exit 2, [(3, .val (.sl true (.pair .str (.pair .str (.int .i64))))), (4, .val (.sl true (.pair .str (.pair .bool .str)))), (5, .val (.int .i64)), (6, .val (.sl true (.pair .str (.pair .str (.int .i64))))), (8, .val (.int .i64)), (9, .val .bool)])])), (4, ([(3, .val (.sl true (.pair .str (.pair .str (.int .i64))))), (4, .val (.sl true (.pair .str (.pair .bool .str)))), (5, .val (.int .i64)), (6, .val (.sl true (.pair .str (.pair .str (.int .i64))))), (8, .val (.int .i64)), (9, .val .bool), (11, .val .bool), (12, .val (.int .i64))], [(.exit 4, [(3, .val (.sl true (.pair .str (.pair .str (.int .i64))))), (4, .val (.sl true (.pair .str (.pair .bool .str)))), (5, .val (.int .i64)), (6, .val (.sl true (.pair .str (.pair .str (.int .i64))))), (8, .val (.int .i64)), (9, .val .bool), (11, .val .bool)])])), (0, ([(3, .val (.sl true (.pair .str (.pair .str (.int .i64))))), (4, .val (.sl true (.pair .str (.pair .bool .str)))), (5, .val (.int .i64)), (6, .val (.sl true (.pair .str (.pair .str (.int .i64))))), (8, .val (.int .i64))], [(.exit 0, [(3, .val (.sl true (.pair .str (.pair .str (.int .i64))))), (4, .val (.sl true (.pair .str (.pair .bool .str)))), (5, .val (.int .i64)), (6, .val (.sl true (.pair .str (.pair .str (.int .i64)))))]), (.ret, [(2, .val .bool)])])), (6, ([(3, .val (.sl true (.pair .str (.pair .str (.int .i64))))), (4, .val (.sl true (.pair .str (.pair .bool .str)))), (5, .val (.int .i64)), (6, .val (.sl true (.pair .str (.pair .str (.int .i64))))), (13, .val (.int .i64))], [(.exit 6, [(3, .val (.sl true (.pair .str (.pair .str (.int .i64))))), (4, .val (.sl true (.pair .str (.pair .bool .str)))), (5, .val (.int .i64)), (6, .val (.sl true (.pair .str (.pair .str (.int .i64)))))]), (.ret, [(2, .val .bool)])]))], [(3, [(.normal, [(3, .val (.sl true (.pair .str (.pair .str (.int .i64))))), (4, .val (.sl true (.pair .str (.pair .bool .str)))), (5, .val (.int .i64)), (6, .val (.sl true (.pair .str (.pair .str (.int .i64))))), (8, .val (.int .i64)), (9, .val .bool), (10, .val (.int .i64))])]), (5, [(.normal, [(3, .val (.sl true (.pair .str (.pair .str (.int .i64))))), (4, .val (.sl true (.pair .str (.pair .bool .str)))), (5, .val (.int .i64)), (6, .val (.sl true (.pair .str (.pair .str (.int .i64))))), (8, .val (.int .i64)), (9, .val .bool), (11, .val .bool), (12, .val (.int .i64))])])], [(6, [(.normal, [(3, .val (.sl true (.pair .str (.pair .str (.int .i64))))), (4, .val (.sl true (.pair .str (.pair .bool .str)))), (5, .val (.int .i64)), (6, .val (.sl true (.pair .str (.pair .str (.int .i64))))), (7, .val (.int .i64))])]), (23, [(.normal, [(3, .val (.sl true (.pair .str (.pair .str (.int .i64))))), (4, .val (.sl true (.pair .str (.pair .bool .str)))), (5, .val (.int .i64)), (6, .val (.sl true (.pair .str (.pair .str (.int .i64))))), (8, .val (.int .i64))]), (.ret, [(2, .val .bool)])])]⟩
theorem laws_FnFolds.ok : CtrOk Try.prog 6 laws_FnFolds.ctr := fn_sound (A := laws_FnFolds.ann) tabOk (EnvOk.cons (ctrs_cons spec_SamePairs.ok ctrs_nil) (EnvOk.cons (ctrs_cons laws_big.ok ctrs_nil) (EnvOk.cons (ctrs_cons spec_DrawFold.ok ctrs_nil) (EnvOk.cons (ctrs_cons impl_Fold.ok ctrs_nil) (EnvOk.cons (ctrs_cons laws_at.ok ctrs_nil) (EnvOk.cons (ctrs_cons impl_FoldAcks.ok ctrs_nil) EnvOk.nil)))))) mixed (fn := Try.f6) (body := bodyOf Try.f6) Try.func6 (by kernel_rfl) (by kernel_rfl) (fun x => by kernel_rfl)

end Go.Proofs.Ytaijmhaonokniaa
