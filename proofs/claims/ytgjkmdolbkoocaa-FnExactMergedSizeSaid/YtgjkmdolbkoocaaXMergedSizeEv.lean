/- Each function of the program that FnExactMergedSize reaches comes to its plain function. -/
import Derived.Test.YtgjkmdolbkoocaaRfZg
import Derived.Test.YtgjkmdolbkoocaaFns
import Derived.Test.YtgjkmdolbkoocaaProg
namespace Go.Proofs.Ytgjkmdolbkoocaa
open Go Go.Rf Go.Rf.G Go.Proofs
set_option maxRecDepth 100000
def bodyOf (f : Func) : Code := f.body.getD .skip
def tab : Tab := [(3, ⟨(.int .i64), false, [], none, 8, false⟩),
  (5, ⟨(.int .u8), false, [], none, 1, false⟩),
  (9, ⟨.str, false, [], none, 16, false⟩),
  (35, ⟨(.sl true (.int .u8)), false, [], some 5, 24, false⟩),
  (43, ⟨(.sl true (.pair .str (.pair .str (.int .i64)))), false, [], some 111, 24, false⟩),
  (50, ⟨(.sl true (.pair .str (.pair .str (.int .i64)))), false, [], some 114, 24, false⟩),
  (89, ⟨(.sl true (.int .i64)), false, [], some 3, 24, false⟩),
  (111, ⟨(.pair .str (.pair .str (.int .i64))), true, [(0, 1, false), (1, 1, false), (2, 1, false)], none, 40, true⟩),
  (114, ⟨(.pair .str (.pair .str (.int .i64))), true, [(0, 1, false), (1, 1, false), (2, 1, false)], none, 40, true⟩),
  (115, ⟨(.sl true (.pair (.int .i64) (.pair (.int .i64) (.pair .str (.pair .str (.pair (.int .i64) (.int .i64))))))), false, [], some 117, 24, false⟩),
  (117, ⟨(.pair (.int .i64) (.pair (.int .i64) (.pair .str (.pair .str (.pair (.int .i64) (.int .i64)))))), true, [(0, 1, false), (1, 1, false), (2, 1, false), (3, 1, false), (4, 1, false), (5, 1, false)], none, 64, true⟩),
  (180, ⟨(.int .u32), false, [], none, 4, false⟩)]
theorem tabOk : TabOk Try.prog tab := Rf.tabOk (by kernel_rfl)
theorem mixed : Try.prog.follows .mixedOrders = true := by kernel_rfl
def laws_szPair.sig : Sig := ⟨[.val (.pair .str (.pair .str (.int .i64))), .val (.int .i64)], [.val (.int .i64)]⟩
noncomputable def laws_szPair.ctr : Ctr := ⟨laws_szPair.sig, fun x => laws_szPair.f x.1 x.2⟩
noncomputable def laws_szPair.env : Env := []
def laws_szPair.ann : Ann := ⟨[], [], []⟩
theorem laws_szPair.ok : CtrOk Try.prog 87 laws_szPair.ctr := fn_sound (A := laws_szPair.ann) tabOk EnvOk.nil mixed (fn := Try.f87) (body := bodyOf Try.f87) Try.func87 (by kernel_rfl) (by kernel_rfl) (fun x => by kernel_rfl)

def laws_szPairS.sig : Sig := ⟨[.val (.sl false (.pair .str (.pair .str (.int .i64)))), .val (.int .i64)], [.val (.int .i64)]⟩
noncomputable def laws_szPairS.ctr : Ctr := ⟨laws_szPairS.sig, fun x => laws_szPairS.f x.1 x.2⟩
noncomputable def laws_szPairS.env : Env := [(87, [laws_szPair.ctr])]
def laws_szPairS.ann : Ann := ⟨[(0, ([(0, .val (.sl false (.pair .str (.pair .str (.int .i64))))), (1, .val (.int .i64)), (5, .val (.int .i64))], [(.exit 0, [(1, .val (.int .i64))]), (.ret, [(4, .val (.int .i64))])]))], [], []⟩
theorem laws_szPairS.ok : CtrOk Try.prog 30 laws_szPairS.ctr := fn_sound (A := laws_szPairS.ann) tabOk (EnvOk.cons (ctrs_cons laws_szPair.ok ctrs_nil) EnvOk.nil) mixed (fn := Try.f30) (body := bodyOf Try.f30) Try.func30 (by kernel_rfl) (by kernel_rfl) (fun x => by kernel_rfl)

def spec_l14Keep.sig : Sig := ⟨[.val (.pair .str (.pair .str (.int .i64)))], [.val (.pair (.int .i64) (.pair (.int .i64) (.pair .str (.pair .str (.pair (.int .i64) (.int .i64))))))]⟩
noncomputable def spec_l14Keep.ctr : Ctr := ⟨spec_l14Keep.sig, fun x => spec_l14Keep.f x⟩
noncomputable def spec_l14Keep.env : Env := []
def spec_l14Keep.ann : Ann := ⟨[], [], []⟩
theorem spec_l14Keep.ok : CtrOk Try.prog 88 spec_l14Keep.ctr := fn_sound (A := spec_l14Keep.ann) tabOk EnvOk.nil mixed (fn := Try.f88) (body := bodyOf Try.f88) Try.func88 (by kernel_rfl) (by kernel_rfl) (fun x => by kernel_rfl)

def spec_l1In.sig : Sig := ⟨[.val (.int .i64), .val (.int .i64), .val (.int .i64)], [.val .bool]⟩
noncomputable def spec_l1In.ctr : Ctr := ⟨spec_l1In.sig, fun x => spec_l1In.f x.1 x.2.1 x.2.2⟩
noncomputable def spec_l1In.env : Env := []
def spec_l1In.ann : Ann := ⟨[], [], []⟩
theorem spec_l1In.ok : CtrOk Try.prog 100 spec_l1In.ctr := fn_sound (A := spec_l1In.ann) tabOk EnvOk.nil mixed (fn := Try.f100) (body := bodyOf Try.f100) Try.func100 (by kernel_rfl) (by kernel_rfl) (fun x => by kernel_rfl)

def spec_Var.sig : Sig := ⟨[.val (.int .i64)], [.val .str]⟩
noncomputable def spec_Var.ctr : Ctr := ⟨spec_Var.sig, fun x => spec_Var.f x⟩
noncomputable def spec_Var.env : Env := [(100, [spec_l1In.ctr])]
def spec_Var.ann : Ann := ⟨[(0, ([(0, .val (.int .i64)), (3, .val (.sl true (.int .u8)))], [(.exit 0, [(0, .val (.int .i64)), (3, .val (.sl true (.int .u8)))])]))], [], []⟩
theorem spec_Var.ok : CtrOk Try.prog 145 spec_Var.ctr := fn_sound (A := spec_Var.ann) tabOk (EnvOk.cons (ctrs_cons spec_l1In.ok ctrs_nil) EnvOk.nil) mixed (fn := Try.f145) (body := bodyOf Try.f145) Try.func145 (by kernel_rfl) (by kernel_rfl) (fun x => by kernel_rfl)

def spec_Fixed.sig : Sig := ⟨[.val (.int .i64), .val (.int .i64)], [.val .str]⟩
noncomputable def spec_Fixed.ctr : Ctr := ⟨spec_Fixed.sig, fun x => spec_Fixed.f x.1 x.2⟩
noncomputable def spec_Fixed.env : Env := [(100, [spec_l1In.ctr])]
def spec_Fixed.ann : Ann := ⟨[(0, ([(0, .val (.int .i64)), (1, .val (.int .i64)), (5, .val .str), (6, .val (.int .i64))], [(.exit 0, [(0, .val (.int .i64)), (5, .val .str)])]))], [], []⟩
theorem spec_Fixed.ok : CtrOk Try.prog 146 spec_Fixed.ctr := fn_sound (A := spec_Fixed.ann) tabOk (EnvOk.cons (ctrs_cons spec_l1In.ok ctrs_nil) EnvOk.nil) mixed (fn := Try.f146) (body := bodyOf Try.f146) Try.func146 (by kernel_rfl) (by kernel_rfl) (fun x => by kernel_rfl)

def spec_Crc.sig : Sig := ⟨[.val .str], [.val (.int .i64)]⟩
noncomputable def spec_Crc.ctr : Ctr := ⟨spec_Crc.sig, fun x => spec_Crc.f x⟩
noncomputable def spec_Crc.env : Env := []
def spec_Crc.ann : Ann := ⟨[(2, ([(0, .val .str), (3, .val (.int .i64)), (4, .val (.int .i64)), (5, .val (.int .i64))], [(.exit 2, [(0, .val .str), (3, .val (.int .i64)), (4, .val (.int .i64))])])), (0, ([(0, .val .str), (3, .val (.int .i64)), (4, .val (.int .i64))], [(.exit 0, [(3, .val (.int .i64))])]))], [], [(11, [(.normal, [(0, .val .str), (3, .val (.int .i64)), (4, .val (.int .i64)), (5, .val (.int .i64))])])]⟩
theorem spec_Crc.ok : CtrOk Try.prog 147 spec_Crc.ctr := fn_sound (A := spec_Crc.ann) tabOk EnvOk.nil mixed (fn := Try.f147) (body := bodyOf Try.f147) Try.func147 (by kernel_rfl) (by kernel_rfl) (fun x => by kernel_rfl)

def spec_Frame.sig : Sig := ⟨[.val .str], [.val .str]⟩
noncomputable def spec_Frame.ctr : Ctr := ⟨spec_Frame.sig, fun x => spec_Frame.f x⟩
noncomputable def spec_Frame.env : Env := [(145, [spec_Var.ctr]), (146, [spec_Fixed.ctr]), (147, [spec_Crc.ctr])]
def spec_Frame.ann : Ann := ⟨[], [], []⟩
theorem spec_Frame.ok : CtrOk Try.prog 89 spec_Frame.ctr := fn_sound (A := spec_Frame.ann) tabOk (EnvOk.cons (ctrs_cons spec_Var.ok ctrs_nil) (EnvOk.cons (ctrs_cons spec_Fixed.ok ctrs_nil) (EnvOk.cons (ctrs_cons spec_Crc.ok ctrs_nil) EnvOk.nil))) mixed (fn := Try.f89) (body := bodyOf Try.f89) Try.func89 (by kernel_rfl) (by kernel_rfl) (fun x => by kernel_rfl)

def spec_KeyOk.sig : Sig := ⟨[.val .str], [.val .bool]⟩
noncomputable def spec_KeyOk.ctr : Ctr := ⟨spec_KeyOk.sig, fun x => spec_KeyOk.f x⟩
noncomputable def spec_KeyOk.env : Env := [(100, [spec_l1In.ctr])]
def spec_KeyOk.ann : Ann := ⟨[], [], []⟩
theorem spec_KeyOk.ok : CtrOk Try.prog 106 spec_KeyOk.ctr := fn_sound (A := spec_KeyOk.ann) tabOk (EnvOk.cons (ctrs_cons spec_l1In.ok ctrs_nil) EnvOk.nil) mixed (fn := Try.f106) (body := bodyOf Try.f106) Try.func106 (by kernel_rfl) (by kernel_rfl) (fun x => by kernel_rfl)

def spec_RecOk.sig : Sig := ⟨[.val (.pair (.int .i64) (.pair (.int .i64) (.pair .str (.pair .str (.pair (.int .i64) (.int .i64))))))], [.val .bool]⟩
noncomputable def spec_RecOk.ctr : Ctr := ⟨spec_RecOk.sig, fun x => spec_RecOk.f x⟩
noncomputable def spec_RecOk.env : Env := [(100, [spec_l1In.ctr]), (106, [spec_KeyOk.ctr])]
def spec_RecOk.ann : Ann := ⟨[], [], [(1, [(.normal, [(1, .ptr (.pair (.int .i64) (.pair (.int .i64) (.pair .str (.pair .str (.pair (.int .i64) (.int .i64)))))))]), (.ret, [(2, .val .bool)])]), (4, [(.normal, [(1, .ptr (.pair (.int .i64) (.pair (.int .i64) (.pair .str (.pair .str (.pair (.int .i64) (.int .i64))))))), (18, .val (.int .i64)), (19, .val .bool)])])]⟩
theorem spec_RecOk.ok : CtrOk Try.prog 148 spec_RecOk.ctr := fn_sound (A := spec_RecOk.ann) tabOk (EnvOk.cons (ctrs_cons spec_l1In.ok ctrs_nil) (EnvOk.cons (ctrs_cons spec_KeyOk.ok ctrs_nil) EnvOk.nil)) mixed (fn := Try.f148) (body := bodyOf Try.f148) Try.func148 (by kernel_rfl) (by kernel_rfl) (fun x => by kernel_rfl)

def spec_ShowRec.sig : Sig := ⟨[.val (.pair (.int .i64) (.pair (.int .i64) (.pair .str (.pair .str (.pair (.int .i64) (.int .i64))))))], [.val .str]⟩
noncomputable def spec_ShowRec.ctr : Ctr := ⟨spec_ShowRec.sig, fun x => spec_ShowRec.f x⟩
noncomputable def spec_ShowRec.env : Env := [(145, [spec_Var.ctr]), (146, [spec_Fixed.ctr]), (148, [spec_RecOk.ctr])]
def spec_ShowRec.ann : Ann := ⟨[], [], [(5, [(.normal, [(1, .ptr (.pair (.int .i64) (.pair (.int .i64) (.pair .str (.pair .str (.pair (.int .i64) (.int .i64))))))), (3, .val .str), (15, .val (.int .i64)), (16, .val .bool)])])]⟩
theorem spec_ShowRec.ok : CtrOk Try.prog 90 spec_ShowRec.ctr := fn_sound (A := spec_ShowRec.ann) tabOk (EnvOk.cons (ctrs_cons spec_Var.ok ctrs_nil) (EnvOk.cons (ctrs_cons spec_Fixed.ok ctrs_nil) (EnvOk.cons (ctrs_cons spec_RecOk.ok ctrs_nil) EnvOk.nil))) mixed (fn := Try.f90) (body := bodyOf Try.f90) Try.func90 (by kernel_rfl) (by kernel_rfl) (fun x => by kernel_rfl)

def spec_SumOf.sig : Sig := ⟨[.val (.sl false (.pair (.int .i64) (.pair (.int .i64) (.pair .str (.pair .str (.pair (.int .i64) (.int .i64)))))))], [.val (.int .i64)]⟩
noncomputable def spec_SumOf.ctr : Ctr := ⟨spec_SumOf.sig, fun x => spec_SumOf.f x⟩
noncomputable def spec_SumOf.env : Env := [(90, [spec_ShowRec.ctr]), (147, [spec_Crc.ctr])]
def spec_SumOf.ann : Ann := ⟨[(0, ([(0, .val (.sl false (.pair (.int .i64) (.pair (.int .i64) (.pair .str (.pair .str (.pair (.int .i64) (.int .i64)))))))), (3, .val .str), (4, .val (.int .i64))], [(.exit 0, [(3, .val .str)])]))], [], []⟩
theorem spec_SumOf.ok : CtrOk Try.prog 149 spec_SumOf.ctr := fn_sound (A := spec_SumOf.ann) tabOk (EnvOk.cons (ctrs_cons spec_ShowRec.ok ctrs_nil) (EnvOk.cons (ctrs_cons spec_Crc.ok ctrs_nil) EnvOk.nil)) mixed (fn := Try.f149) (body := bodyOf Try.f149) Try.func149 (by kernel_rfl) (by kernel_rfl) (fun x => by kernel_rfl)

def spec_l9Seal.sig : Sig := ⟨[.val (.sl false (.pair (.int .i64) (.pair (.int .i64) (.pair .str (.pair .str (.pair (.int .i64) (.int .i64))))))), .val (.int .i64), .val (.int .i64)], [.val (.pair (.int .i64) (.pair (.int .i64) (.pair .str (.pair .str (.pair (.int .i64) (.int .i64))))))]⟩
noncomputable def spec_l9Seal.ctr : Ctr := ⟨spec_l9Seal.sig, fun x => spec_l9Seal.f x.1 x.2.1 x.2.2⟩
noncomputable def spec_l9Seal.env : Env := [(149, [spec_SumOf.ctr])]
def spec_l9Seal.ann : Ann := ⟨[], [], []⟩
theorem spec_l9Seal.ok : CtrOk Try.prog 91 spec_l9Seal.ctr := fn_sound (A := spec_l9Seal.ann) tabOk (EnvOk.cons (ctrs_cons spec_SumOf.ok ctrs_nil) EnvOk.nil) mixed (fn := Try.f91) (body := bodyOf Try.f91) Try.func91 (by kernel_rfl) (by kernel_rfl) (fun x => by kernel_rfl)

def spec_MergedSize.sig : Sig := ⟨[.val (.sl false (.pair .str (.pair .str (.int .i64)))), .val (.int .i64)], [.val (.int .i64)]⟩
noncomputable def spec_MergedSize.ctr : Ctr := ⟨spec_MergedSize.sig, fun x => spec_MergedSize.f x.1 x.2⟩
noncomputable def spec_MergedSize.env : Env := [(88, [spec_l14Keep.ctr]), (89, [spec_Frame.ctr]), (90, [spec_ShowRec.ctr]), (91, [spec_l9Seal.ctr])]
def spec_MergedSize.ann : Ann := ⟨[(0, ([(0, .val (.sl false (.pair .str (.pair .str (.int .i64))))), (1, .val (.int .i64)), (5, .val (.sl true (.pair (.int .i64) (.pair (.int .i64) (.pair .str (.pair .str (.pair (.int .i64) (.int .i64)))))))), (6, .val (.int .i64)), (7, .val (.int .i64))], [(.exit 0, [(1, .val (.int .i64)), (5, .val (.sl true (.pair (.int .i64) (.pair (.int .i64) (.pair .str (.pair .str (.pair (.int .i64) (.int .i64)))))))), (6, .val (.int .i64))])]))], [], []⟩
theorem spec_MergedSize.ok : CtrOk Try.prog 31 spec_MergedSize.ctr := fn_sound (A := spec_MergedSize.ann) tabOk (EnvOk.cons (ctrs_cons spec_l14Keep.ok ctrs_nil) (EnvOk.cons (ctrs_cons spec_Frame.ok ctrs_nil) (EnvOk.cons (ctrs_cons spec_ShowRec.ok ctrs_nil) (EnvOk.cons (ctrs_cons spec_l9Seal.ok ctrs_nil) EnvOk.nil)))) mixed (fn := Try.f31) (body := bodyOf Try.f31) Try.func31 (by kernel_rfl) (by kernel_rfl) (fun x => by kernel_rfl)

def laws_toPair.sig : Sig := ⟨[.val (.pair .str (.pair .str (.int .i64)))], [.val (.pair .str (.pair .str (.int .i64)))]⟩
noncomputable def laws_toPair.ctr : Ctr := ⟨laws_toPair.sig, fun x => laws_toPair.f x⟩
noncomputable def laws_toPair.env : Env := []
def laws_toPair.ann : Ann := ⟨[], [], []⟩
theorem laws_toPair.ok : CtrOk Try.prog 92 laws_toPair.ctr := fn_sound (A := laws_toPair.ann) tabOk EnvOk.nil mixed (fn := Try.f92) (body := bodyOf Try.f92) Try.func92 (by kernel_rfl) (by kernel_rfl) (fun x => by kernel_rfl)

def laws_toPairS.sig : Sig := ⟨[.val (.sl false (.pair .str (.pair .str (.int .i64))))], [.val (.sl true (.pair .str (.pair .str (.int .i64))))]⟩
noncomputable def laws_toPairS.ctr : Ctr := ⟨laws_toPairS.sig, fun x => laws_toPairS.f x⟩
noncomputable def laws_toPairS.env : Env := [(92, [laws_toPair.ctr])]
def laws_toPairS.ann : Ann := ⟨[(0, ([(0, .val (.sl false (.pair .str (.pair .str (.int .i64))))), (3, .val (.sl true (.pair .str (.pair .str (.int .i64))))), (4, .val (.int .i64))], [(.exit 0, [(3, .val (.sl true (.pair .str (.pair .str (.int .i64)))))])]))], [], []⟩
theorem laws_toPairS.ok : CtrOk Try.prog 32 laws_toPairS.ctr := fn_sound (A := laws_toPairS.ann) tabOk (EnvOk.cons (ctrs_cons laws_toPair.ok ctrs_nil) EnvOk.nil) mixed (fn := Try.f32) (body := bodyOf Try.f32) Try.func32 (by kernel_rfl) (by kernel_rfl) (fun x => by kernel_rfl)

def impl_in.sig : Sig := ⟨[.val (.int .i64), .val (.int .i64), .val (.int .i64)], [.val .bool]⟩
noncomputable def impl_in.ctr : Ctr := ⟨impl_in.sig, fun x => impl_in.f x.1 x.2.1 x.2.2⟩
noncomputable def impl_in.env : Env := []
def impl_in.ann : Ann := ⟨[], [], []⟩
theorem impl_in.ok : CtrOk Try.prog 102 impl_in.ctr := fn_sound (A := impl_in.ann) tabOk EnvOk.nil mixed (fn := Try.f102) (body := bodyOf Try.f102) Try.func102 (by kernel_rfl) (by kernel_rfl) (fun x => by kernel_rfl)

def impl_Var.sig : Sig := ⟨[.val (.int .i64)], [.val .str]⟩
noncomputable def impl_Var.ctr : Ctr := ⟨impl_Var.sig, fun x => impl_Var.f x⟩
noncomputable def impl_Var.env : Env := [(102, [impl_in.ctr])]
def impl_Var.ann : Ann := ⟨[(0, ([(0, .val (.int .i64)), (3, .val (.sl true (.int .u8)))], [(.exit 0, [(0, .val (.int .i64)), (3, .val (.sl true (.int .u8)))])]))], [], []⟩
theorem impl_Var.ok : CtrOk Try.prog 156 impl_Var.ctr := fn_sound (A := impl_Var.ann) tabOk (EnvOk.cons (ctrs_cons impl_in.ok ctrs_nil) EnvOk.nil) mixed (fn := Try.f156) (body := bodyOf Try.f156) Try.func156 (by kernel_rfl) (by kernel_rfl) (fun x => by kernel_rfl)

def impl_textOf.sig : Sig := ⟨[.val .str], [.val .str]⟩
noncomputable def impl_textOf.ctr : Ctr := ⟨impl_textOf.sig, fun x => impl_textOf.f x⟩
noncomputable def impl_textOf.env : Env := [(156, [impl_Var.ctr])]
def impl_textOf.ann : Ann := ⟨[], [], []⟩
theorem impl_textOf.ok : CtrOk Try.prog 151 impl_textOf.ctr := fn_sound (A := impl_textOf.ann) tabOk (EnvOk.cons (ctrs_cons impl_Var.ok ctrs_nil) EnvOk.nil) mixed (fn := Try.f151) (body := bodyOf Try.f151) Try.func151 (by kernel_rfl) (by kernel_rfl) (fun x => by kernel_rfl)

def impl_Fixed.sig : Sig := ⟨[.val (.int .i64), .val (.int .i64)], [.val .str]⟩
noncomputable def impl_Fixed.ctr : Ctr := ⟨impl_Fixed.sig, fun x => impl_Fixed.f x.1 x.2⟩
noncomputable def impl_Fixed.env : Env := [(102, [impl_in.ctr])]
def impl_Fixed.ann : Ann := ⟨[(0, ([(0, .val (.int .i64)), (5, .val (.sl true (.int .u8))), (6, .val (.int .i64))], [(.exit 0, [(5, .val (.sl true (.int .u8)))])]))], [], []⟩
theorem impl_Fixed.ok : CtrOk Try.prog 152 impl_Fixed.ctr := fn_sound (A := impl_Fixed.ann) tabOk (EnvOk.cons (ctrs_cons impl_in.ok ctrs_nil) EnvOk.nil) mixed (fn := Try.f152) (body := bodyOf Try.f152) Try.func152 (by kernel_rfl) (by kernel_rfl) (fun x => by kernel_rfl)

def impl_KeyOk.sig : Sig := ⟨[.val .str], [.val .bool]⟩
noncomputable def impl_KeyOk.ctr : Ctr := ⟨impl_KeyOk.sig, fun x => impl_KeyOk.f x⟩
noncomputable def impl_KeyOk.env : Env := [(102, [impl_in.ctr])]
def impl_KeyOk.ann : Ann := ⟨[], [], []⟩
theorem impl_KeyOk.ok : CtrOk Try.prog 110 impl_KeyOk.ctr := fn_sound (A := impl_KeyOk.ann) tabOk (EnvOk.cons (ctrs_cons impl_in.ok ctrs_nil) EnvOk.nil) mixed (fn := Try.f110) (body := bodyOf Try.f110) Try.func110 (by kernel_rfl) (by kernel_rfl) (fun x => by kernel_rfl)

def impl_RecOk.sig : Sig := ⟨[.val (.pair (.int .i64) (.pair (.int .i64) (.pair .str (.pair .str (.pair (.int .i64) (.int .i64))))))], [.val .bool]⟩
noncomputable def impl_RecOk.ctr : Ctr := ⟨impl_RecOk.sig, fun x => impl_RecOk.f x⟩
noncomputable def impl_RecOk.env : Env := [(102, [impl_in.ctr]), (110, [impl_KeyOk.ctr])]
def impl_RecOk.ann : Ann := ⟨[], [], [(4, [(.normal, [(1, .ptr (.pair (.int .i64) (.pair (.int .i64) (.pair .str (.pair .str (.pair (.int .i64) (.int .i64))))))), (3, .ptr (.pair (.int .i64) (.pair (.int .i64) (.pair .str (.pair .str (.pair (.int .i64) (.int .i64))))))), (4, .val .bool), (5, .val (.int .i64)), (12, .val (.int .i64)), (13, .val .bool)])])]⟩
theorem impl_RecOk.ok : CtrOk Try.prog 154 impl_RecOk.ctr := fn_sound (A := impl_RecOk.ann) tabOk (EnvOk.cons (ctrs_cons impl_in.ok ctrs_nil) (EnvOk.cons (ctrs_cons impl_KeyOk.ok ctrs_nil) EnvOk.nil)) mixed (fn := Try.f154) (body := bodyOf Try.f154) Try.func154 (by kernel_rfl) (by kernel_rfl) (fun x => by kernel_rfl)

def impl_vars.sig : Sig := ⟨[.val (.sl false (.int .i64))], [.val .str]⟩
noncomputable def impl_vars.ctr : Ctr := ⟨impl_vars.sig, fun x => impl_vars.f x⟩
noncomputable def impl_vars.env : Env := [(156, [impl_Var.ctr])]
def impl_vars.ann : Ann := ⟨[(0, ([(3, .val .str), (6, .val (.sl false (.int .i64))), (7, .val (.int .i64)), (8, .val (.int .i64))], [(.exit 0, [(3, .val .str)])]))], [], []⟩
theorem impl_vars.ok : CtrOk Try.prog 155 impl_vars.ctr := fn_sound (A := impl_vars.ann) tabOk (EnvOk.cons (ctrs_cons impl_Var.ok ctrs_nil) EnvOk.nil) mixed (fn := Try.f155) (body := bodyOf Try.f155) Try.func155 (by kernel_rfl) (by kernel_rfl) (fun x => by kernel_rfl)

def impl_ShowRec.sig : Sig := ⟨[.val (.pair (.int .i64) (.pair (.int .i64) (.pair .str (.pair .str (.pair (.int .i64) (.int .i64))))))], [.val .str]⟩
noncomputable def impl_ShowRec.ctr : Ctr := ⟨impl_ShowRec.sig, fun x => impl_ShowRec.f x⟩
noncomputable def impl_ShowRec.env : Env := [(151, [impl_textOf.ctr]), (152, [impl_Fixed.ctr]), (154, [impl_RecOk.ctr]), (155, [impl_vars.ctr]), (156, [impl_Var.ctr])]
def impl_ShowRec.ann : Ann := ⟨[], [], [(5, [(.normal, [(1, .ptr (.pair (.int .i64) (.pair (.int .i64) (.pair .str (.pair .str (.pair (.int .i64) (.int .i64))))))), (3, .val .str), (14, .val (.int .i64)), (15, .val .bool)])])]⟩
theorem impl_ShowRec.ok : CtrOk Try.prog 95 impl_ShowRec.ctr := fn_sound (A := impl_ShowRec.ann) tabOk (EnvOk.cons (ctrs_cons impl_textOf.ok ctrs_nil) (EnvOk.cons (ctrs_cons impl_Fixed.ok ctrs_nil) (EnvOk.cons (ctrs_cons impl_RecOk.ok ctrs_nil) (EnvOk.cons (ctrs_cons impl_vars.ok ctrs_nil) (EnvOk.cons (ctrs_cons impl_Var.ok ctrs_nil) EnvOk.nil))))) mixed (fn := Try.f95) (body := bodyOf Try.f95) Try.func95 (by kernel_rfl) (by kernel_rfl) (fun x => by kernel_rfl)

def impl_Crc.sig : Sig := ⟨[.val .str], [.val (.int .i64)]⟩
noncomputable def impl_Crc.ctr : Ctr := ⟨impl_Crc.sig, fun x => impl_Crc.f x⟩
noncomputable def impl_Crc.env : Env := []
def impl_Crc.ann : Ann := ⟨[(2, ([(0, .val .str), (3, .val (.int .u32)), (4, .val (.int .i64)), (18, .val (.int .i64))], [(.exit 2, [(0, .val .str), (3, .val (.int .u32)), (4, .val (.int .i64))])])), (0, ([(0, .val .str), (3, .val (.int .u32)), (4, .val (.int .i64))], [(.exit 0, [(3, .val (.int .u32))])]))], [], [(10, [(.normal, [(0, .val .str), (3, .val (.int .u32)), (4, .val (.int .i64)), (18, .val (.int .i64))])])]⟩
theorem impl_Crc.ok : CtrOk Try.prog 153 impl_Crc.ctr := fn_sound (A := impl_Crc.ann) tabOk EnvOk.nil mixed (fn := Try.f153) (body := bodyOf Try.f153) Try.func153 (by kernel_rfl) (by kernel_rfl) (fun x => by kernel_rfl)

def impl_SumOf.sig : Sig := ⟨[.val (.sl false (.pair (.int .i64) (.pair (.int .i64) (.pair .str (.pair .str (.pair (.int .i64) (.int .i64)))))))], [.val (.int .i64)]⟩
noncomputable def impl_SumOf.ctr : Ctr := ⟨impl_SumOf.sig, fun x => impl_SumOf.f x⟩
noncomputable def impl_SumOf.env : Env := [(95, [impl_ShowRec.ctr]), (153, [impl_Crc.ctr])]
def impl_SumOf.ann : Ann := ⟨[(0, ([(3, .val .str), (6, .val (.sl false (.pair (.int .i64) (.pair (.int .i64) (.pair .str (.pair .str (.pair (.int .i64) (.int .i64)))))))), (7, .val (.int .i64)), (8, .val (.int .i64))], [(.exit 0, [(3, .val .str)])]))], [], []⟩
theorem impl_SumOf.ok : CtrOk Try.prog 150 impl_SumOf.ctr := fn_sound (A := impl_SumOf.ann) tabOk (EnvOk.cons (ctrs_cons impl_ShowRec.ok ctrs_nil) (EnvOk.cons (ctrs_cons impl_Crc.ok ctrs_nil) EnvOk.nil)) mixed (fn := Try.f150) (body := bodyOf Try.f150) Try.func150 (by kernel_rfl) (by kernel_rfl) (fun x => by kernel_rfl)

def impl_keeps.sig : Sig := ⟨[.val (.sl false (.pair .str (.pair .str (.int .i64)))), .val (.int .i64)], [.val (.sl true (.pair (.int .i64) (.pair (.int .i64) (.pair .str (.pair .str (.pair (.int .i64) (.int .i64)))))))]⟩
noncomputable def impl_keeps.ctr : Ctr := ⟨impl_keeps.sig, fun x => impl_keeps.f x.1 x.2⟩
noncomputable def impl_keeps.env : Env := [(150, [impl_SumOf.ctr])]
def impl_keeps.ann : Ann := ⟨[(0, ([(0, .val (.sl false (.pair .str (.pair .str (.int .i64))))), (1, .val (.int .i64)), (5, .val (.sl true (.pair (.int .i64) (.pair (.int .i64) (.pair .str (.pair .str (.pair (.int .i64) (.int .i64)))))))), (8, .val (.sl false (.pair .str (.pair .str (.int .i64))))), (9, .val (.int .i64)), (10, .val (.int .i64))], [(.exit 0, [(0, .val (.sl false (.pair .str (.pair .str (.int .i64))))), (1, .val (.int .i64)), (5, .val (.sl true (.pair (.int .i64) (.pair (.int .i64) (.pair .str (.pair .str (.pair (.int .i64) (.int .i64))))))))])]))], [], []⟩
theorem impl_keeps.ok : CtrOk Try.prog 93 impl_keeps.ctr := fn_sound (A := impl_keeps.ann) tabOk (EnvOk.cons (ctrs_cons impl_SumOf.ok ctrs_nil) EnvOk.nil) mixed (fn := Try.f93) (body := bodyOf Try.f93) Try.func93 (by kernel_rfl) (by kernel_rfl) (fun x => by kernel_rfl)

def impl_Frame.sig : Sig := ⟨[.val .str], [.val .str]⟩
noncomputable def impl_Frame.ctr : Ctr := ⟨impl_Frame.sig, fun x => impl_Frame.f x⟩
noncomputable def impl_Frame.env : Env := [(151, [impl_textOf.ctr]), (152, [impl_Fixed.ctr]), (153, [impl_Crc.ctr])]
def impl_Frame.ann : Ann := ⟨[], [], []⟩
theorem impl_Frame.ok : CtrOk Try.prog 94 impl_Frame.ctr := fn_sound (A := impl_Frame.ann) tabOk (EnvOk.cons (ctrs_cons impl_textOf.ok ctrs_nil) (EnvOk.cons (ctrs_cons impl_Fixed.ok ctrs_nil) (EnvOk.cons (ctrs_cons impl_Crc.ok ctrs_nil) EnvOk.nil))) mixed (fn := Try.f94) (body := bodyOf Try.f94) Try.func94 (by kernel_rfl) (by kernel_rfl) (fun x => by kernel_rfl)

def impl_MergedSize.sig : Sig := ⟨[.val (.sl false (.pair .str (.pair .str (.int .i64)))), .val (.int .i64)], [.val (.int .i64)]⟩
noncomputable def impl_MergedSize.ctr : Ctr := ⟨impl_MergedSize.sig, fun x => impl_MergedSize.f x.1 x.2⟩
noncomputable def impl_MergedSize.env : Env := [(93, [impl_keeps.ctr]), (94, [impl_Frame.ctr]), (95, [impl_ShowRec.ctr])]
def impl_MergedSize.ann : Ann := ⟨[(0, ([(5, .val (.int .i64)), (10, .val (.sl true (.pair (.int .i64) (.pair (.int .i64) (.pair .str (.pair .str (.pair (.int .i64) (.int .i64)))))))), (11, .val (.int .i64)), (12, .val (.int .i64))], [(.exit 0, [(5, .val (.int .i64))])]))], [], []⟩
theorem impl_MergedSize.ok : CtrOk Try.prog 33 impl_MergedSize.ctr := fn_sound (A := impl_MergedSize.ann) tabOk (EnvOk.cons (ctrs_cons impl_keeps.ok ctrs_nil) (EnvOk.cons (ctrs_cons impl_Frame.ok ctrs_nil) (EnvOk.cons (ctrs_cons impl_ShowRec.ok ctrs_nil) EnvOk.nil))) mixed (fn := Try.f33) (body := bodyOf Try.f33) Try.func33 (by kernel_rfl) (by kernel_rfl) (fun x => by kernel_rfl)

def laws_eqPair.sig : Sig := ⟨[.val (.pair .str (.pair .str (.int .i64))), .val (.pair .str (.pair .str (.int .i64)))], [.val .bool]⟩
noncomputable def laws_eqPair.ctr : Ctr := ⟨laws_eqPair.sig, fun x => laws_eqPair.f x.1 x.2⟩
noncomputable def laws_eqPair.env : Env := []
def laws_eqPair.ann : Ann := ⟨[], [], []⟩
theorem laws_eqPair.ok : CtrOk Try.prog 96 laws_eqPair.ctr := fn_sound (A := laws_eqPair.ann) tabOk EnvOk.nil mixed (fn := Try.f96) (body := bodyOf Try.f96) Try.func96 (by kernel_rfl) (by kernel_rfl) (fun x => by kernel_rfl)

def laws_eqPairS.sig : Sig := ⟨[.val (.sl false (.pair .str (.pair .str (.int .i64)))), .val (.sl false (.pair .str (.pair .str (.int .i64))))], [.val .bool]⟩
noncomputable def laws_eqPairS.ctr : Ctr := ⟨laws_eqPairS.sig, fun x => laws_eqPairS.f x.1 x.2⟩
noncomputable def laws_eqPairS.env : Env := [(96, [laws_eqPair.ctr])]
def laws_eqPairS.ann : Ann := ⟨[(0, ([(0, .val (.sl false (.pair .str (.pair .str (.int .i64))))), (1, .val (.sl false (.pair .str (.pair .str (.int .i64))))), (5, .val (.int .i64))], [(.exit 0, []), (.ret, [(4, .val .bool)])]))], [], []⟩
theorem laws_eqPairS.ok : CtrOk Try.prog 34 laws_eqPairS.ctr := fn_sound (A := laws_eqPairS.ann) tabOk (EnvOk.cons (ctrs_cons laws_eqPair.ok ctrs_nil) EnvOk.nil) mixed (fn := Try.f34) (body := bodyOf Try.f34) Try.func34 (by kernel_rfl) (by kernel_rfl) (fun x => by kernel_rfl)

def laws_FnExactMergedSize.sig : Sig := ⟨[.val (.sl false (.pair .str (.pair .str (.int .i64)))), .val (.int .i64)], [.val .bool]⟩
noncomputable def laws_FnExactMergedSize.ctr : Ctr := ⟨laws_FnExactMergedSize.sig, fun x => laws_FnExactMergedSize.f x.1 x.2⟩
noncomputable def laws_FnExactMergedSize.env : Env := [(30, [laws_szPairS.ctr]), (31, [spec_MergedSize.ctr]), (32, [laws_toPairS.ctr]), (33, [impl_MergedSize.ctr]), (34, [laws_eqPairS.ctr])]
def laws_FnExactMergedSize.ann : Ann := ⟨[], [], []⟩
theorem laws_FnExactMergedSize.ok : CtrOk Try.prog 5 laws_FnExactMergedSize.ctr := fn_sound (A := laws_FnExactMergedSize.ann) tabOk (EnvOk.cons (ctrs_cons laws_szPairS.ok ctrs_nil) (EnvOk.cons (ctrs_cons spec_MergedSize.ok ctrs_nil) (EnvOk.cons (ctrs_cons laws_toPairS.ok ctrs_nil) (EnvOk.cons (ctrs_cons impl_MergedSize.ok ctrs_nil) (EnvOk.cons (ctrs_cons laws_eqPairS.ok ctrs_nil) EnvOk.nil))))) mixed (fn := Try.f5) (body := bodyOf Try.f5) Try.func5 (by kernel_rfl) (by kernel_rfl) (fun x => by kernel_rfl)

end Go.Proofs.Ytgjkmdolbkoocaa
