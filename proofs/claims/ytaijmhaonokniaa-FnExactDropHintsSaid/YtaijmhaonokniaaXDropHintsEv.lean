/- Each function of the program that FnExactDropHints reaches comes to its plain function. -/
import Derived.Test.YtaijmhaonokniaaRfZg
import Derived.Test.YtaijmhaonokniaaFns
import Derived.Test.YtaijmhaonokniaaProg
namespace Go.Proofs.Ytaijmhaonokniaa
open Go Go.Rf Go.Rf.G Go.Proofs
set_option maxRecDepth 100000
def bodyOf (f : Func) : Code := f.body.getD .skip
def tab : Tab := [(3, ⟨(.int .i64), false, [], none, 8, false⟩),
  (4, ⟨.bool, false, [], none, 1, false⟩),
  (5, ⟨(.int .u8), false, [], none, 1, false⟩),
  (9, ⟨.str, false, [], none, 16, false⟩),
  (41, ⟨(.sl true (.int .u8)), false, [], some 5, 24, false⟩),
  (75, ⟨(.sl true (.pair .str (.pair .str (.int .i64)))), false, [], some 174, 24, false⟩),
  (77, ⟨(.pair (.sl true (.pair .str (.pair .str (.int .i64)))) (.pair (.int .i64) (.pair (.int .i64) .bool))), true, [(0, 1, false), (1, 1, false), (2, 1, false), (3, 1, false)], none, 48, false⟩),
  (79, ⟨(.sl true (.pair .str (.pair .str (.int .i64)))), false, [], some 141, 24, false⟩),
  (81, ⟨(.pair (.sl true (.pair .str (.pair .str (.int .i64)))) (.pair (.int .i64) (.pair (.int .i64) .bool))), true, [(0, 1, false), (1, 1, false), (2, 1, false), (3, 1, false)], none, 48, false⟩),
  (141, ⟨(.pair .str (.pair .str (.int .i64))), true, [(0, 1, false), (1, 1, false), (2, 1, false)], none, 40, true⟩),
  (174, ⟨(.pair .str (.pair .str (.int .i64))), true, [(0, 1, false), (1, 1, false), (2, 1, false)], none, 40, true⟩)]
theorem tabOk : TabOk Try.prog tab := Rf.tabOk (by kernel_rfl)
theorem mixed : Try.prog.follows .mixedOrders = true := by kernel_rfl
def laws_szFile.sig : Sig := ⟨[.val (.pair .str (.pair .str (.int .i64))), .val (.int .i64)], [.val (.int .i64)]⟩
noncomputable def laws_szFile.ctr : Ctr := ⟨laws_szFile.sig, fun x => laws_szFile.f x.1 x.2⟩
noncomputable def laws_szFile.env : Env := []
def laws_szFile.ann : Ann := ⟨[], [], []⟩
theorem laws_szFile.ok : CtrOk Try.prog 130 laws_szFile.ctr := fn_sound (A := laws_szFile.ann) tabOk EnvOk.nil mixed (fn := Try.f130) (body := bodyOf Try.f130) Try.func130 (by kernel_rfl) (by kernel_rfl) (fun x => by kernel_rfl)

def laws_szFileS.sig : Sig := ⟨[.val (.sl false (.pair .str (.pair .str (.int .i64)))), .val (.int .i64)], [.val (.int .i64)]⟩
noncomputable def laws_szFileS.ctr : Ctr := ⟨laws_szFileS.sig, fun x => laws_szFileS.f x.1 x.2⟩
noncomputable def laws_szFileS.env : Env := [(130, [laws_szFile.ctr])]
def laws_szFileS.ann : Ann := ⟨[(0, ([(0, .val (.sl false (.pair .str (.pair .str (.int .i64))))), (1, .val (.int .i64)), (5, .val (.int .i64))], [(.exit 0, [(1, .val (.int .i64))]), (.ret, [(4, .val (.int .i64))])]))], [], []⟩
theorem laws_szFileS.ok : CtrOk Try.prog 96 laws_szFileS.ctr := fn_sound (A := laws_szFileS.ann) tabOk (EnvOk.cons (ctrs_cons laws_szFile.ok ctrs_nil) EnvOk.nil) mixed (fn := Try.f96) (body := bodyOf Try.f96) Try.func96 (by kernel_rfl) (by kernel_rfl) (fun x => by kernel_rfl)

def laws_szDisk.sig : Sig := ⟨[.val (.pair (.sl false (.pair .str (.pair .str (.int .i64)))) (.pair (.int .i64) (.pair (.int .i64) .bool))), .val (.int .i64)], [.val (.int .i64)]⟩
noncomputable def laws_szDisk.ctr : Ctr := ⟨laws_szDisk.sig, fun x => laws_szDisk.f x.1 x.2⟩
noncomputable def laws_szDisk.env : Env := [(96, [laws_szFileS.ctr])]
def laws_szDisk.ann : Ann := ⟨[], [], []⟩
theorem laws_szDisk.ok : CtrOk Try.prog 47 laws_szDisk.ctr := fn_sound (A := laws_szDisk.ann) tabOk (EnvOk.cons (ctrs_cons laws_szFileS.ok ctrs_nil) EnvOk.nil) mixed (fn := Try.f47) (body := bodyOf Try.f47) Try.func47 (by kernel_rfl) (by kernel_rfl) (fun x => by kernel_rfl)

def spec_l3Copy.sig : Sig := ⟨[.val (.pair (.sl false (.pair .str (.pair .str (.int .i64)))) (.pair (.int .i64) (.pair (.int .i64) .bool)))], [.val (.pair (.sl true (.pair .str (.pair .str (.int .i64)))) (.pair (.int .i64) (.pair (.int .i64) .bool)))]⟩
noncomputable def spec_l3Copy.ctr : Ctr := ⟨spec_l3Copy.sig, fun x => spec_l3Copy.f x⟩
noncomputable def spec_l3Copy.env : Env := []
def spec_l3Copy.ann : Ann := ⟨[], [], []⟩
theorem spec_l3Copy.ok : CtrOk Try.prog 97 spec_l3Copy.ctr := fn_sound (A := spec_l3Copy.ann) tabOk EnvOk.nil mixed (fn := Try.f97) (body := bodyOf Try.f97) Try.func97 (by kernel_rfl) (by kernel_rfl) (fun x => by kernel_rfl)

def spec_l1In.sig : Sig := ⟨[.val (.int .i64), .val (.int .i64), .val (.int .i64)], [.val .bool]⟩
noncomputable def spec_l1In.ctr : Ctr := ⟨spec_l1In.sig, fun x => spec_l1In.f x.1 x.2.1 x.2.2⟩
noncomputable def spec_l1In.env : Env := []
def spec_l1In.ann : Ann := ⟨[], [], []⟩
theorem spec_l1In.ok : CtrOk Try.prog 116 spec_l1In.ctr := fn_sound (A := spec_l1In.ann) tabOk EnvOk.nil mixed (fn := Try.f116) (body := bodyOf Try.f116) Try.func116 (by kernel_rfl) (by kernel_rfl) (fun x => by kernel_rfl)

def spec_l3Used.sig : Sig := ⟨[.val (.pair (.sl false (.pair .str (.pair .str (.int .i64)))) (.pair (.int .i64) (.pair (.int .i64) .bool)))], [.val (.int .i64)]⟩
noncomputable def spec_l3Used.ctr : Ctr := ⟨spec_l3Used.sig, fun x => spec_l3Used.f x⟩
noncomputable def spec_l3Used.env : Env := []
def spec_l3Used.ann : Ann := ⟨[(0, ([(1, .ptr (.pair (.sl false (.pair .str (.pair .str (.int .i64)))) (.pair (.int .i64) (.pair (.int .i64) .bool)))), (3, .val (.int .i64)), (4, .val (.int .i64))], [(.exit 0, [(3, .val (.int .i64))])]))], [], []⟩
theorem spec_l3Used.ok : CtrOk Try.prog 131 spec_l3Used.ctr := fn_sound (A := spec_l3Used.ann) tabOk EnvOk.nil mixed (fn := Try.f131) (body := bodyOf Try.f131) Try.func131 (by kernel_rfl) (by kernel_rfl) (fun x => by kernel_rfl)

def spec_NameOk.sig : Sig := ⟨[.val .str], [.val .bool]⟩
noncomputable def spec_NameOk.ctr : Ctr := ⟨spec_NameOk.sig, fun x => spec_NameOk.f x⟩
noncomputable def spec_NameOk.env : Env := [(116, [spec_l1In.ctr])]
def spec_NameOk.ann : Ann := ⟨[(0, ([(0, .val .str), (3, .val (.int .i64))], [(.exit 0, [(0, .val .str)]), (.ret, [(2, .val .bool)])]))], [], [(4, [(.normal, [(0, .val .str), (3, .val (.int .i64))]), (.ret, [(2, .val .bool)])])]⟩
theorem spec_NameOk.ok : CtrOk Try.prog 132 spec_NameOk.ctr := fn_sound (A := spec_NameOk.ann) tabOk (EnvOk.cons (ctrs_cons spec_l1In.ok ctrs_nil) EnvOk.nil) mixed (fn := Try.f132) (body := bodyOf Try.f132) Try.func132 (by kernel_rfl) (by kernel_rfl) (fun x => by kernel_rfl)

def spec_DiskOk.sig : Sig := ⟨[.val (.pair (.sl false (.pair .str (.pair .str (.int .i64)))) (.pair (.int .i64) (.pair (.int .i64) .bool)))], [.val .bool]⟩
noncomputable def spec_DiskOk.ctr : Ctr := ⟨spec_DiskOk.sig, fun x => spec_DiskOk.f x⟩
noncomputable def spec_DiskOk.env : Env := [(116, [spec_l1In.ctr]), (131, [spec_l3Used.ctr]), (132, [spec_NameOk.ctr])]
def spec_DiskOk.ann : Ann := ⟨[(0, ([(1, .ptr (.pair (.sl false (.pair .str (.pair .str (.int .i64)))) (.pair (.int .i64) (.pair (.int .i64) .bool)))), (3, .val (.int .i64))], [(.exit 0, []), (.ret, [(2, .val .bool)])]))], [], [(6, [(.normal, [(1, .ptr (.pair (.sl false (.pair .str (.pair .str (.int .i64)))) (.pair (.int .i64) (.pair (.int .i64) .bool)))), (3, .val (.int .i64))]), (.ret, [(2, .val .bool)])])]⟩
theorem spec_DiskOk.ok : CtrOk Try.prog 98 spec_DiskOk.ctr := fn_sound (A := spec_DiskOk.ann) tabOk (EnvOk.cons (ctrs_cons spec_l1In.ok ctrs_nil) (EnvOk.cons (ctrs_cons spec_l3Used.ok ctrs_nil) (EnvOk.cons (ctrs_cons spec_NameOk.ok ctrs_nil) EnvOk.nil))) mixed (fn := Try.f98) (body := bodyOf Try.f98) Try.func98 (by kernel_rfl) (by kernel_rfl) (fun x => by kernel_rfl)

def spec_DropHints.sig : Sig := ⟨[.val (.pair (.sl false (.pair .str (.pair .str (.int .i64)))) (.pair (.int .i64) (.pair (.int .i64) .bool)))], [.val (.pair (.sl true (.pair .str (.pair .str (.int .i64)))) (.pair (.int .i64) (.pair (.int .i64) .bool)))]⟩
noncomputable def spec_DropHints.ctr : Ctr := ⟨spec_DropHints.sig, fun x => spec_DropHints.f x⟩
noncomputable def spec_DropHints.env : Env := [(97, [spec_l3Copy.ctr]), (98, [spec_DiskOk.ctr])]
def spec_DropHints.ann : Ann := ⟨[(0, ([(1, .ptr (.pair (.sl false (.pair .str (.pair .str (.int .i64)))) (.pair (.int .i64) (.pair (.int .i64) .bool)))), (2, .ptr (.pair (.sl true (.pair .str (.pair .str (.int .i64)))) (.pair (.int .i64) (.pair (.int .i64) .bool)))), (3, .ptr (.pair (.sl true (.pair .str (.pair .str (.int .i64)))) (.pair (.int .i64) (.pair (.int .i64) .bool)))), (4, .val (.int .i64))], [(.exit 0, [(2, .ptr (.pair (.sl true (.pair .str (.pair .str (.int .i64)))) (.pair (.int .i64) (.pair (.int .i64) .bool)))), (3, .ptr (.pair (.sl true (.pair .str (.pair .str (.int .i64)))) (.pair (.int .i64) (.pair (.int .i64) .bool))))])]))], [], [(8, [(.normal, [(1, .ptr (.pair (.sl false (.pair .str (.pair .str (.int .i64)))) (.pair (.int .i64) (.pair (.int .i64) .bool)))), (2, .ptr (.pair (.sl true (.pair .str (.pair .str (.int .i64)))) (.pair (.int .i64) (.pair (.int .i64) .bool)))), (3, .ptr (.pair (.sl true (.pair .str (.pair .str (.int .i64)))) (.pair (.int .i64) (.pair (.int .i64) .bool)))), (4, .val (.int .i64))])])]⟩
theorem spec_DropHints.ok : CtrOk Try.prog 48 spec_DropHints.ctr := fn_sound (A := spec_DropHints.ann) tabOk (EnvOk.cons (ctrs_cons spec_l3Copy.ok ctrs_nil) (EnvOk.cons (ctrs_cons spec_DiskOk.ok ctrs_nil) EnvOk.nil)) mixed (fn := Try.f48) (body := bodyOf Try.f48) Try.func48 (by kernel_rfl) (by kernel_rfl) (fun x => by kernel_rfl)

def laws_toFile.sig : Sig := ⟨[.val (.pair .str (.pair .str (.int .i64)))], [.val (.pair .str (.pair .str (.int .i64)))]⟩
noncomputable def laws_toFile.ctr : Ctr := ⟨laws_toFile.sig, fun x => laws_toFile.f x⟩
noncomputable def laws_toFile.env : Env := []
def laws_toFile.ann : Ann := ⟨[], [], []⟩
theorem laws_toFile.ok : CtrOk Try.prog 133 laws_toFile.ctr := fn_sound (A := laws_toFile.ann) tabOk EnvOk.nil mixed (fn := Try.f133) (body := bodyOf Try.f133) Try.func133 (by kernel_rfl) (by kernel_rfl) (fun x => by kernel_rfl)

def laws_toFileS.sig : Sig := ⟨[.val (.sl false (.pair .str (.pair .str (.int .i64))))], [.val (.sl true (.pair .str (.pair .str (.int .i64))))]⟩
noncomputable def laws_toFileS.ctr : Ctr := ⟨laws_toFileS.sig, fun x => laws_toFileS.f x⟩
noncomputable def laws_toFileS.env : Env := [(133, [laws_toFile.ctr])]
def laws_toFileS.ann : Ann := ⟨[(0, ([(0, .val (.sl false (.pair .str (.pair .str (.int .i64))))), (3, .val (.sl true (.pair .str (.pair .str (.int .i64))))), (4, .val (.int .i64))], [(.exit 0, [(3, .val (.sl true (.pair .str (.pair .str (.int .i64)))))])]))], [], []⟩
theorem laws_toFileS.ok : CtrOk Try.prog 99 laws_toFileS.ctr := fn_sound (A := laws_toFileS.ann) tabOk (EnvOk.cons (ctrs_cons laws_toFile.ok ctrs_nil) EnvOk.nil) mixed (fn := Try.f99) (body := bodyOf Try.f99) Try.func99 (by kernel_rfl) (by kernel_rfl) (fun x => by kernel_rfl)

def laws_toDisk.sig : Sig := ⟨[.val (.pair (.sl false (.pair .str (.pair .str (.int .i64)))) (.pair (.int .i64) (.pair (.int .i64) .bool)))], [.val (.pair (.sl true (.pair .str (.pair .str (.int .i64)))) (.pair (.int .i64) (.pair (.int .i64) .bool)))]⟩
noncomputable def laws_toDisk.ctr : Ctr := ⟨laws_toDisk.sig, fun x => laws_toDisk.f x⟩
noncomputable def laws_toDisk.env : Env := [(99, [laws_toFileS.ctr])]
def laws_toDisk.ann : Ann := ⟨[], [], []⟩
theorem laws_toDisk.ok : CtrOk Try.prog 49 laws_toDisk.ctr := fn_sound (A := laws_toDisk.ann) tabOk (EnvOk.cons (ctrs_cons laws_toFileS.ok ctrs_nil) EnvOk.nil) mixed (fn := Try.f49) (body := bodyOf Try.f49) Try.func49 (by kernel_rfl) (by kernel_rfl) (fun x => by kernel_rfl)

def impl_copyDisk.sig : Sig := ⟨[.val (.pair (.sl false (.pair .str (.pair .str (.int .i64)))) (.pair (.int .i64) (.pair (.int .i64) .bool)))], [.val (.pair (.sl true (.pair .str (.pair .str (.int .i64)))) (.pair (.int .i64) (.pair (.int .i64) .bool)))]⟩
noncomputable def impl_copyDisk.ctr : Ctr := ⟨impl_copyDisk.sig, fun x => impl_copyDisk.f x⟩
noncomputable def impl_copyDisk.env : Env := []
def impl_copyDisk.ann : Ann := ⟨[], [], []⟩
theorem impl_copyDisk.ok : CtrOk Try.prog 100 impl_copyDisk.ctr := fn_sound (A := impl_copyDisk.ann) tabOk EnvOk.nil mixed (fn := Try.f100) (body := bodyOf Try.f100) Try.func100 (by kernel_rfl) (by kernel_rfl) (fun x => by kernel_rfl)

def impl_in.sig : Sig := ⟨[.val (.int .i64), .val (.int .i64), .val (.int .i64)], [.val .bool]⟩
noncomputable def impl_in.ctr : Ctr := ⟨impl_in.sig, fun x => impl_in.f x.1 x.2.1 x.2.2⟩
noncomputable def impl_in.env : Env := []
def impl_in.ann : Ann := ⟨[], [], []⟩
theorem impl_in.ok : CtrOk Try.prog 129 impl_in.ctr := fn_sound (A := impl_in.ann) tabOk EnvOk.nil mixed (fn := Try.f129) (body := bodyOf Try.f129) Try.func129 (by kernel_rfl) (by kernel_rfl) (fun x => by kernel_rfl)

def impl_NameOk.sig : Sig := ⟨[.val .str], [.val .bool]⟩
noncomputable def impl_NameOk.ctr : Ctr := ⟨impl_NameOk.sig, fun x => impl_NameOk.f x⟩
noncomputable def impl_NameOk.env : Env := [(129, [impl_in.ctr])]
def impl_NameOk.ann : Ann := ⟨[(0, ([(0, .val .str), (3, .val (.int .i64))], [(.exit 0, [(0, .val .str)]), (.ret, [(2, .val .bool)])]))], [], [(4, [(.normal, [(0, .val .str), (3, .val (.int .i64))]), (.ret, [(2, .val .bool)])])]⟩
theorem impl_NameOk.ok : CtrOk Try.prog 134 impl_NameOk.ctr := fn_sound (A := impl_NameOk.ann) tabOk (EnvOk.cons (ctrs_cons impl_in.ok ctrs_nil) EnvOk.nil) mixed (fn := Try.f134) (body := bodyOf Try.f134) Try.func134 (by kernel_rfl) (by kernel_rfl) (fun x => by kernel_rfl)

def impl_DiskOk.sig : Sig := ⟨[.val (.pair (.sl false (.pair .str (.pair .str (.int .i64)))) (.pair (.int .i64) (.pair (.int .i64) .bool)))], [.val .bool]⟩
noncomputable def impl_DiskOk.ctr : Ctr := ⟨impl_DiskOk.sig, fun x => impl_DiskOk.f x⟩
noncomputable def impl_DiskOk.env : Env := [(129, [impl_in.ctr]), (134, [impl_NameOk.ctr])]
def impl_DiskOk.ann : Ann := ⟨[(0, ([(1, .ptr (.pair (.sl false (.pair .str (.pair .str (.int .i64)))) (.pair (.int .i64) (.pair (.int .i64) .bool)))), (3, .val (.int .i64)), (23, .val (.sl false (.pair .str (.pair .str (.int .i64))))), (24, .val (.int .i64)), (25, .val (.int .i64))], [(.exit 0, [(1, .ptr (.pair (.sl false (.pair .str (.pair .str (.int .i64)))) (.pair (.int .i64) (.pair (.int .i64) .bool)))), (3, .val (.int .i64))]), (.ret, [(2, .val .bool)])]))], [], [(7, [(.normal, [(1, .ptr (.pair (.sl false (.pair .str (.pair .str (.int .i64)))) (.pair (.int .i64) (.pair (.int .i64) .bool)))), (3, .val (.int .i64)), (5, .ptr (.pair .str (.pair .str (.int .i64)))), (23, .val (.sl false (.pair .str (.pair .str (.int .i64))))), (24, .val (.int .i64)), (25, .val (.int .i64))]), (.ret, [(2, .val .bool)])])]⟩
theorem impl_DiskOk.ok : CtrOk Try.prog 101 impl_DiskOk.ctr := fn_sound (A := impl_DiskOk.ann) tabOk (EnvOk.cons (ctrs_cons impl_in.ok ctrs_nil) (EnvOk.cons (ctrs_cons impl_NameOk.ok ctrs_nil) EnvOk.nil)) mixed (fn := Try.f101) (body := bodyOf Try.f101) Try.func101 (by kernel_rfl) (by kernel_rfl) (fun x => by kernel_rfl)

def stringslite_HasPrefix.sig : Sig := ⟨[.val .str, .val .str], [.val .bool]⟩
noncomputable def stringslite_HasPrefix.ctr : Ctr := ⟨stringslite_HasPrefix.sig, fun x => stringslite_HasPrefix.f x.1 x.2⟩
noncomputable def stringslite_HasPrefix.env : Env := []
def stringslite_HasPrefix.ann : Ann := ⟨[], [], []⟩
theorem stringslite_HasPrefix.ok : CtrOk Try.prog 135 stringslite_HasPrefix.ctr := fn_sound (A := stringslite_HasPrefix.ann) tabOk EnvOk.nil mixed (fn := Try.f135) (body := bodyOf Try.f135) Try.func135 (by kernel_rfl) (by kernel_rfl) (fun x => by kernel_rfl)

def strings_HasPrefix.sig : Sig := ⟨[.val .str, .val .str], [.val .bool]⟩
noncomputable def strings_HasPrefix.ctr : Ctr := ⟨strings_HasPrefix.sig, fun x => strings_HasPrefix.f x.1 x.2⟩
noncomputable def strings_HasPrefix.env : Env := [(135, [stringslite_HasPrefix.ctr])]
def strings_HasPrefix.ann : Ann := ⟨[], [], []⟩
theorem strings_HasPrefix.ok : CtrOk Try.prog 102 strings_HasPrefix.ctr := fn_sound (A := strings_HasPrefix.ann) tabOk (EnvOk.cons (ctrs_cons stringslite_HasPrefix.ok ctrs_nil) EnvOk.nil) mixed (fn := Try.f102) (body := bodyOf Try.f102) Try.func102 (by kernel_rfl) (by kernel_rfl) (fun x => by kernel_rfl)

def impl_DropHints.sig : Sig := ⟨[.val (.pair (.sl false (.pair .str (.pair .str (.int .i64)))) (.pair (.int .i64) (.pair (.int .i64) .bool)))], [.val (.pair (.sl true (.pair .str (.pair .str (.int .i64)))) (.pair (.int .i64) (.pair (.int .i64) .bool)))]⟩
noncomputable def impl_DropHints.ctr : Ctr := ⟨impl_DropHints.sig, fun x => impl_DropHints.f x⟩
noncomputable def impl_DropHints.env : Env := [(100, [impl_copyDisk.ctr]), (101, [impl_DiskOk.ctr]), (102, [strings_HasPrefix.ctr])]
def impl_DropHints.ann : Ann := ⟨[(0, ([(2, .ptr (.pair (.sl true (.pair .str (.pair .str (.int .i64)))) (.pair (.int .i64) (.pair (.int .i64) .bool)))), (3, .ptr (.pair (.sl true (.pair .str (.pair .str (.int .i64)))) (.pair (.int .i64) (.pair (.int .i64) .bool)))), (14, .val (.sl false (.pair .str (.pair .str (.int .i64))))), (15, .val (.int .i64)), (16, .val (.int .i64))], [(.exit 0, [(2, .ptr (.pair (.sl true (.pair .str (.pair .str (.int .i64)))) (.pair (.int .i64) (.pair (.int .i64) .bool)))), (3, .ptr (.pair (.sl true (.pair .str (.pair .str (.int .i64)))) (.pair (.int .i64) (.pair (.int .i64) .bool))))])]))], [], [(8, [(.normal, [(2, .ptr (.pair (.sl true (.pair .str (.pair .str (.int .i64)))) (.pair (.int .i64) (.pair (.int .i64) .bool)))), (3, .ptr (.pair (.sl true (.pair .str (.pair .str (.int .i64)))) (.pair (.int .i64) (.pair (.int .i64) .bool)))), (14, .val (.sl false (.pair .str (.pair .str (.int .i64))))), (15, .val (.int .i64)), (16, .val (.int .i64))])])]⟩
theorem impl_DropHints.ok : CtrOk Try.prog 50 impl_DropHints.ctr := fn_sound (A := impl_DropHints.ann) tabOk (EnvOk.cons (ctrs_cons impl_copyDisk.ok ctrs_nil) (EnvOk.cons (ctrs_cons impl_DiskOk.ok ctrs_nil) (EnvOk.cons (ctrs_cons strings_HasPrefix.ok ctrs_nil) EnvOk.nil))) mixed (fn := Try.f50) (body := bodyOf Try.f50) Try.func50 (by kernel_rfl) (by kernel_rfl) (fun x => by kernel_rfl)

def laws_eqFile.sig : Sig := ⟨[.val (.pair .str (.pair .str (.int .i64))), .val (.pair .str (.pair .str (.int .i64)))], [.val .bool]⟩
noncomputable def laws_eqFile.ctr : Ctr := ⟨laws_eqFile.sig, fun x => laws_eqFile.f x.1 x.2⟩
noncomputable def laws_eqFile.env : Env := []
def laws_eqFile.ann : Ann := ⟨[], [], []⟩
theorem laws_eqFile.ok : CtrOk Try.prog 136 laws_eqFile.ctr := fn_sound (A := laws_eqFile.ann) tabOk EnvOk.nil mixed (fn := Try.f136) (body := bodyOf Try.f136) Try.func136 (by kernel_rfl) (by kernel_rfl) (fun x => by kernel_rfl)

def laws_eqFileS.sig : Sig := ⟨[.val (.sl false (.pair .str (.pair .str (.int .i64)))), .val (.sl false (.pair .str (.pair .str (.int .i64))))], [.val .bool]⟩
noncomputable def laws_eqFileS.ctr : Ctr := ⟨laws_eqFileS.sig, fun x => laws_eqFileS.f x.1 x.2⟩
noncomputable def laws_eqFileS.env : Env := [(136, [laws_eqFile.ctr])]
def laws_eqFileS.ann : Ann := ⟨[(0, ([(0, .val (.sl false (.pair .str (.pair .str (.int .i64))))), (1, .val (.sl false (.pair .str (.pair .str (.int .i64))))), (5, .val (.int .i64))], [(.exit 0, []), (.ret, [(4, .val .bool)])]))], [], []⟩
theorem laws_eqFileS.ok : CtrOk Try.prog 103 laws_eqFileS.ctr := fn_sound (A := laws_eqFileS.ann) tabOk (EnvOk.cons (ctrs_cons laws_eqFile.ok ctrs_nil) EnvOk.nil) mixed (fn := Try.f103) (body := bodyOf Try.f103) Try.func103 (by kernel_rfl) (by kernel_rfl) (fun x => by kernel_rfl)

def laws_eqDisk.sig : Sig := ⟨[.val (.pair (.sl false (.pair .str (.pair .str (.int .i64)))) (.pair (.int .i64) (.pair (.int .i64) .bool))), .val (.pair (.sl false (.pair .str (.pair .str (.int .i64)))) (.pair (.int .i64) (.pair (.int .i64) .bool)))], [.val .bool]⟩
noncomputable def laws_eqDisk.ctr : Ctr := ⟨laws_eqDisk.sig, fun x => laws_eqDisk.f x.1 x.2⟩
noncomputable def laws_eqDisk.env : Env := [(103, [laws_eqFileS.ctr])]
def laws_eqDisk.ann : Ann := ⟨[], [], []⟩
theorem laws_eqDisk.ok : CtrOk Try.prog 51 laws_eqDisk.ctr := fn_sound (A := laws_eqDisk.ann) tabOk (EnvOk.cons (ctrs_cons laws_eqFileS.ok ctrs_nil) EnvOk.nil) mixed (fn := Try.f51) (body := bodyOf Try.f51) Try.func51 (by kernel_rfl) (by kernel_rfl) (fun x => by kernel_rfl)

def laws_markText.sig : Sig := ⟨[.val (.int .i64)], [.val .str]⟩
noncomputable def laws_markText.ctr : Ctr := ⟨laws_markText.sig, fun x => laws_markText.f x⟩
noncomputable def laws_markText.env : Env := []
def laws_markText.ann : Ann := ⟨[(0, ([(0, .val (.int .i64)), (3, .val .str)], [(.exit 0, [(3, .val .str)])]))], [], []⟩
theorem laws_markText.ok : CtrOk Try.prog 95 laws_markText.ctr := fn_sound (A := laws_markText.ann) tabOk EnvOk.nil mixed (fn := Try.f95) (body := bodyOf Try.f95) Try.func95 (by kernel_rfl) (by kernel_rfl) (fun x => by kernel_rfl)

def laws_markFileS.sig : Sig := ⟨[.io (.sl true (.pair .str (.pair .str (.int .i64)))), .val (.int .i64)], [.val (.int .i64)]⟩
noncomputable def laws_markFileS.ctr : Ctr := ⟨laws_markFileS.sig, fun x => laws_markFileS.f x.1 x.2⟩
noncomputable def laws_markFileS.env : Env := [(95, [laws_markText.ctr])]
def laws_markFileS.ann : Ann := ⟨[(0, ([(0, .val (.sl true (.pair .str (.pair .str (.int .i64))))), (1, .val (.int .i64)), (5, .val (.int .i64))], [(.exit 0, [(0, .val (.sl true (.pair .str (.pair .str (.int .i64))))), (1, .val (.int .i64))])]))], [], []⟩
theorem laws_markFileS.ok : CtrOk Try.prog 104 laws_markFileS.ctr := fn_sound (A := laws_markFileS.ann) tabOk (EnvOk.cons (ctrs_cons laws_markText.ok ctrs_nil) EnvOk.nil) mixed (fn := Try.f104) (body := bodyOf Try.f104) Try.func104 (by kernel_rfl) (by kernel_rfl) (fun x => by kernel_rfl)

def laws_markDisk.sig : Sig := ⟨[.io (.pair (.sl true (.pair .str (.pair .str (.int .i64)))) (.pair (.int .i64) (.pair (.int .i64) .bool))), .val (.int .i64)], [.val (.int .i64)]⟩
noncomputable def laws_markDisk.ctr : Ctr := ⟨laws_markDisk.sig, fun x => laws_markDisk.f x.1 x.2⟩
noncomputable def laws_markDisk.env : Env := [(104, [laws_markFileS.ctr])]
def laws_markDisk.ann : Ann := ⟨[], [], []⟩
theorem laws_markDisk.ok : CtrOk Try.prog 52 laws_markDisk.ctr := fn_sound (A := laws_markDisk.ann) tabOk (EnvOk.cons (ctrs_cons laws_markFileS.ok ctrs_nil) EnvOk.nil) mixed (fn := Try.f52) (body := bodyOf Try.f52) Try.func52 (by kernel_rfl) (by kernel_rfl) (fun x => by kernel_rfl)

def laws_heldFileS.sig : Sig := ⟨[.val (.sl false (.pair .str (.pair .str (.int .i64)))), .val (.int .i64)], [.val (.int .i64)]⟩
noncomputable def laws_heldFileS.ctr : Ctr := ⟨laws_heldFileS.sig, fun x => laws_heldFileS.f x.1 x.2⟩
noncomputable def laws_heldFileS.env : Env := [(95, [laws_markText.ctr])]
def laws_heldFileS.ann : Ann := ⟨[(0, ([(0, .val (.sl false (.pair .str (.pair .str (.int .i64))))), (1, .val (.int .i64)), (5, .val (.int .i64))], [(.exit 0, [(1, .val (.int .i64))]), (.ret, [(4, .val (.int .i64))])]))], [], []⟩
theorem laws_heldFileS.ok : CtrOk Try.prog 105 laws_heldFileS.ctr := fn_sound (A := laws_heldFileS.ann) tabOk (EnvOk.cons (ctrs_cons laws_markText.ok ctrs_nil) EnvOk.nil) mixed (fn := Try.f105) (body := bodyOf Try.f105) Try.func105 (by kernel_rfl) (by kernel_rfl) (fun x => by kernel_rfl)

def laws_heldDisk.sig : Sig := ⟨[.val (.pair (.sl false (.pair .str (.pair .str (.int .i64)))) (.pair (.int .i64) (.pair (.int .i64) .bool))), .val (.int .i64)], [.val (.int .i64)]⟩
noncomputable def laws_heldDisk.ctr : Ctr := ⟨laws_heldDisk.sig, fun x => laws_heldDisk.f x.1 x.2⟩
noncomputable def laws_heldDisk.env : Env := [(105, [laws_heldFileS.ctr])]
def laws_heldDisk.ann : Ann := ⟨[], [], []⟩
theorem laws_heldDisk.ok : CtrOk Try.prog 53 laws_heldDisk.ctr := fn_sound (A := laws_heldDisk.ann) tabOk (EnvOk.cons (ctrs_cons laws_heldFileS.ok ctrs_nil) EnvOk.nil) mixed (fn := Try.f53) (body := bodyOf Try.f53) Try.func53 (by kernel_rfl) (by kernel_rfl) (fun x => by kernel_rfl)

def laws_FnExactDropHints.sig : Sig := ⟨[.val (.pair (.sl false (.pair .str (.pair .str (.int .i64)))) (.pair (.int .i64) (.pair (.int .i64) .bool)))], [.val .bool]⟩
noncomputable def laws_FnExactDropHints.ctr : Ctr := ⟨laws_FnExactDropHints.sig, fun x => laws_FnExactDropHints.f x⟩
noncomputable def laws_FnExactDropHints.env : Env := [(47, [laws_szDisk.ctr]), (48, [spec_DropHints.ctr]), (49, [laws_toDisk.ctr]), (50, [impl_DropHints.ctr]), (51, [laws_eqDisk.ctr]), (52, [laws_markDisk.ctr]), (53, [laws_heldDisk.ctr])]
def laws_FnExactDropHints.ann : Ann := ⟨[], [], []⟩
theorem laws_FnExactDropHints.ok : CtrOk Try.prog 10 laws_FnExactDropHints.ctr := fn_sound (A := laws_FnExactDropHints.ann) tabOk (EnvOk.cons (ctrs_cons laws_szDisk.ok ctrs_nil) (EnvOk.cons (ctrs_cons spec_DropHints.ok ctrs_nil) (EnvOk.cons (ctrs_cons laws_toDisk.ok ctrs_nil) (EnvOk.cons (ctrs_cons impl_DropHints.ok ctrs_nil) (EnvOk.cons (ctrs_cons laws_eqDisk.ok ctrs_nil) (EnvOk.cons (ctrs_cons laws_markDisk.ok ctrs_nil) (EnvOk.cons (ctrs_cons laws_heldDisk.ok ctrs_nil) EnvOk.nil))))))) mixed (fn := Try.f10) (body := bodyOf Try.f10) Try.func10 (by kernel_rfl) (by kernel_rfl) (fun x => by kernel_rfl)

end Go.Proofs.Ytaijmhaonokniaa
