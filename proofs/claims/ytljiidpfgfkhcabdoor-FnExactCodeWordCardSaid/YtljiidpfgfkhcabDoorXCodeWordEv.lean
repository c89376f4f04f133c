/- Each function of the program that FnExactCodeWord reaches comes to its plain function. -/
import Derived.Test.YtljiidpfgfkhcabDoorShelf
import Derived.Test.YtljiidpfgfkhcabDoorRf5
import Derived.Test.YtljiidpfgfkhcabDoorXCodeWordFns
import Derived.Test.YtljiidpfgfkhcabDoorProg
namespace Go.Proofs.YtljiidpfgfkhcabDoor
open Go Go.Rf Go.Rf.G Go.Proofs Go.Lib
set_option maxRecDepth 100000
def bodyOf (f : Func) : Code := f.body.getD .skip
def tab : Tab := [(3, ⟨(.int .i64), false, [], none, 8, false⟩),
  (9, ⟨.str, false, [], none, 16, false⟩),
  (25, ⟨(.sl true .str), false, [], some 9, 24, false⟩)]
theorem tabOk : TabOk Tryd.prog tab := Rf.tabOk (by kernel_rfl)
theorem mixed : Tryd.prog.follows .mixedOrders = true := by kernel_rfl
instance laid : Laid := cellLaid 0
def spec_l1In.sig : Sig := ⟨[.val (.int .i64), .val (.int .i64), .val (.int .i64)], [.val .bool]⟩
noncomputable def spec_l1In.ctr : Ctr := ⟨spec_l1In.sig, fun x => spec_l1In.f x.1 x.2.1 x.2.2⟩
noncomputable def spec_l1In.env : Env := []
def spec_l1In.ann : Ann := ⟨[], [], []⟩
theorem spec_l1In.ok : CtrOk Tryd.prog 6 spec_l1In.ctr := fn_sound (A := spec_l1In.ann) tabOk EnvOk.nil mixed (fn := Tryd.f6) (body := bodyOf Tryd.f6) Tryd.func6 (by kernel_rfl) (by kernel_rfl) (fun x => by kernel_rfl)

def spec_CodeWord.sig : Sig := ⟨[.val (.int .i64)], [.val .str]⟩
noncomputable def spec_CodeWord.ctr : Ctr := ⟨spec_CodeWord.sig, fun x => spec_CodeWord.f x⟩
noncomputable def spec_CodeWord.env : Env := [(6, [spec_l1In.ctr])]
def spec_CodeWord.ann : Ann := ⟨[], [], []⟩
theorem spec_CodeWord.ok : CtrOk Tryd.prog 4 spec_CodeWord.ctr := fn_sound (A := spec_CodeWord.ann) tabOk (EnvOk.cons (ctrs_cons spec_l1In.ok ctrs_nil) EnvOk.nil) mixed (fn := Tryd.f4) (body := bodyOf Tryd.f4) Tryd.func4 (by kernel_rfl) (by kernel_rfl) (fun x => by kernel_rfl)

def impl_in.sig : Sig := ⟨[.val (.int .i64), .val (.int .i64), .val (.int .i64)], [.val .bool]⟩
noncomputable def impl_in.ctr : Ctr := ⟨impl_in.sig, fun x => impl_in.f x.1 x.2.1 x.2.2⟩
noncomputable def impl_in.env : Env := []
def impl_in.ann : Ann := ⟨[], [], []⟩
theorem impl_in.ok : CtrOk Tryd.prog 7 impl_in.ctr := fn_sound (A := impl_in.ann) tabOk EnvOk.nil mixed (fn := Tryd.f7) (body := bodyOf Tryd.f7) Tryd.func7 (by kernel_rfl) (by kernel_rfl) (fun x => by kernel_rfl)

noncomputable def strings_Split.ctr : Ctr := splitCtr
theorem strings_Split.ok : CtrOk Tryd.prog 8 strings_Split.ctr := split_ok Tryd.func8 (by kernel_rfl) (by kernel_rfl) fun s sep h1 h2 w ⟨m, hm⟩ => Tryd.strings_Split s sep m w h1 hm h2

def impl_CodeWord.sig : Sig := ⟨[.val (.int .i64)], [.val .str]⟩
noncomputable def impl_CodeWord.ctr : Ctr := ⟨impl_CodeWord.sig, fun x => impl_CodeWord.f x⟩
noncomputable def impl_CodeWord.env : Env := [(7, [impl_in.ctr]), (8, [strings_Split.ctr])]
def impl_CodeWord.ann : Ann := ⟨[], [], []⟩
theorem impl_CodeWord.ok : CtrOk Tryd.prog 5 impl_CodeWord.ctr := fn_sound (A := impl_CodeWord.ann) tabOk (EnvOk.cons (ctrs_cons impl_in.ok ctrs_nil) (EnvOk.cons (ctrs_cons strings_Split.ok ctrs_nil) EnvOk.nil)) mixed (fn := Tryd.f5) (body := bodyOf Tryd.f5) Tryd.func5 (by kernel_rfl) (by kernel_rfl) (fun x => by kernel_rfl)

def laws_FnExactCodeWord.sig : Sig := ⟨[.val (.int .i64)], [.val .bool]⟩
noncomputable def laws_FnExactCodeWord.ctr : Ctr := ⟨laws_FnExactCodeWord.sig, fun x => laws_FnExactCodeWord.f x⟩
noncomputable def laws_FnExactCodeWord.env : Env := [(4, [spec_CodeWord.ctr]), (5, [impl_CodeWord.ctr])]
def laws_FnExactCodeWord.ann : Ann := ⟨[], [], []⟩
theorem laws_FnExactCodeWord.ok : CtrOk Tryd.prog 3 laws_FnExactCodeWord.ctr := fn_sound (A := laws_FnExactCodeWord.ann) tabOk (EnvOk.cons (ctrs_cons spec_CodeWord.ok ctrs_nil) (EnvOk.cons (ctrs_cons impl_CodeWord.ok ctrs_nil) EnvOk.nil)) mixed (fn := Tryd.f3) (body := bodyOf Tryd.f3) Tryd.func3 (by kernel_rfl) (by kernel_rfl) (fun x => by kernel_rfl)

end Go.Proofs.YtljiidpfgfkhcabDoor
