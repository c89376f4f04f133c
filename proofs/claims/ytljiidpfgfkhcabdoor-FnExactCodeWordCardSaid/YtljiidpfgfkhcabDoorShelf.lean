/- A contract of the library's, laid at this program (the shelf's own texts, printed by its tools). -/
import Derived.Shelf.Utf8.RuneCount
import Derived.Shelf.Strings.Search1
import Derived.Shelf.Strings.Search2
import Derived.Shelf.Strings.Search3
import Derived.Shelf.Strings.Count
import Derived.Shelf.LaysM
import Derived.Shelf.Strings.Shaped
import Derived.Shelf.Strings.Split
import Derived.Shelf.Strings.SplitShaped
import Derived.Shelf.Unicode.Decode
import Derived.Shelf.Strings.RuneCount
import Derived.Shelf.Strings.Explode
import Derived.Shelf.Unicode.DecodeSlow
import Derived.Shelf.Unicode.DecodeAny
import Derived.Test.YtljiidpfgfkhcabDoorProg
namespace Go.Proofs
open Go.Shelf
def Tryd.lays146_ren : Go.Shelf.Ren := ⟨fun | 146 => 8 | 221 => 9 | 268 => 10 | 138 => 11 | 143 => 12 | 195 => 13 | 197 => 14 | 218 => 15 | 219 => 16 | 260 => 17 | 217 => 18 | 225 => 19 | 224 => 20 | 267 => 21 | 266 => 22 | 314 => 23 | n => n, fun | 9 => 9 | 31 => 25 | 3 => 3 | 4 => 4 | 0 => 0 | 105 => 31 | 21 => 21 | 5 => 5 | 46 => 35 | 119 => 36 | 139 => 39 | 138 => 38 | 146 => 41 | 51 => 40 | n => n, fun | 1 => 0 | 3 => 1 | 4 => 2 | n => n⟩
theorem Tryd.lays146 : Go.Proofs.Lays.n146 Tryd.prog Tryd.lays146_ren := {
  mixed := by kernel_rfl
  f138 := Tryd.func11.trans (congrArg some (by kernel_rfl))
  f143 := Tryd.func12.trans (congrArg some (by kernel_rfl))
  f146 := Tryd.func8.trans (congrArg some (by kernel_rfl))
  f195 := Tryd.func13.trans (congrArg some (by kernel_rfl))
  f197 := Tryd.func14.trans (congrArg some (by kernel_rfl))
  f217 := Tryd.func18.trans (congrArg some (by kernel_rfl))
  f218 := Tryd.func15.trans (congrArg some (by kernel_rfl))
  f219 := Tryd.func16.trans (congrArg some (by kernel_rfl))
  f221 := Tryd.func9.trans (congrArg some (by kernel_rfl))
  f224 := Tryd.func20.trans (congrArg some (by kernel_rfl))
  f225 := Tryd.func19.trans (congrArg some (by kernel_rfl))
  f260 := Tryd.func17.trans (congrArg some (by kernel_rfl))
  f266 := Tryd.func22.trans (congrArg some (by kernel_rfl))
  f267 := Tryd.func21.trans (congrArg some (by kernel_rfl))
  f268 := Tryd.func10.trans (congrArg some (by kernel_rfl))
  f314 := Tryd.func23.trans (congrArg some (by kernel_rfl))
  t0 := Tryd.underlying0
  a0 := Tryd.isAgg0
  z0 := Tryd.sizeOf0
  v0 := Tryd.zeroValue0
  t3 := Tryd.underlying3
  a3 := Tryd.isAgg3
  z3 := Tryd.sizeOf3
  v3 := Tryd.zeroValue3
  t4 := Tryd.underlying4
  a4 := Tryd.isAgg4
  z4 := Tryd.sizeOf4
  v4 := Tryd.zeroValue4
  t5 := Tryd.underlying5
  a5 := Tryd.isAgg5
  z5 := Tryd.sizeOf5
  v5 := Tryd.zeroValue5
  t9 := Tryd.underlying9
  a9 := Tryd.isAgg9
  z9 := Tryd.sizeOf9
  v9 := Tryd.zeroValue9
  t21 := Tryd.underlying21
  a21 := Tryd.isAgg21
  z21 := Tryd.sizeOf21
  v21 := Tryd.zeroValue21
  t31 := Tryd.underlying25
  a31 := Tryd.isAgg25
  z31 := Tryd.sizeOf25
  v31 := Tryd.zeroValue25
  t46 := Tryd.underlying35
  a46 := Tryd.isAgg35
  z46 := Tryd.sizeOf35
  v46 := Tryd.zeroValue35
  t51 := Tryd.underlying40
  a51 := Tryd.isAgg40
  z51 := Tryd.sizeOf40
  v51 := Tryd.zeroValue40
  t105 := Tryd.underlying31
  a105 := Tryd.isAgg31
  z105 := Tryd.sizeOf31
  v105 := Tryd.zeroValue31
  t119 := Tryd.underlying36
  a119 := Tryd.isAgg36
  z119 := Tryd.sizeOf36
  t138 := Tryd.underlying38
  a138 := Tryd.isAgg38
  z138 := Tryd.sizeOf38
  v138 := Tryd.zeroValue38
  t139 := Tryd.underlying39
  a139 := Tryd.isAgg39
  z139 := Tryd.sizeOf39
  v139 := Tryd.zeroValue39
  t146 := Tryd.underlying41
  a146 := Tryd.isAgg41
  z146 := Tryd.sizeOf41
  v146 := Tryd.zeroValue41
  g1 := by kernel_rfl
  g3 := by kernel_rfl
  g4 := by kernel_rfl }
open Go.RowKit Go.Lib in
/-- strings.Split. (LAID: no walk: one application.) -/
theorem Tryd.strings_Split (s sep : ByteArray) (m : Int) (w : World) (hs : s.size < 4294967281) (hm : w.cell? ⟨0, 0, none⟩ = some (.int .i64 m)) (h1 : 1 ≤ sep.size) :
    Calls Tryd.prog 8 #[.string s, .string sep] w fun e w' =>
      e = .returned (.slice (some ⟨w.heap.size, 0, none⟩) (Lib.countB s sep + 1) (Lib.countB s sep + 1)) ∧ w' = w.alloc (.cells ((Lib.splitB sep 0 (Lib.countB s sep) s).map Value.string).toArray 9) := Any.strings_Split Tryd.lays146 (by kernel_rfl) s sep m w hs hm h1
def Tryd.laysM146_ren : Go.Shelf.Ren := ⟨fun | 146 => 8 | 221 => 9 | 268 => 10 | 138 => 11 | 143 => 12 | 195 => 13 | 197 => 14 | 218 => 15 | 219 => 16 | 260 => 17 | 217 => 18 | 225 => 19 | 224 => 20 | 267 => 21 | 266 => 22 | 314 => 23 | n => n, fun | 9 => 9 | 31 => 25 | 3 => 3 | 4 => 4 | 0 => 0 | 105 => 31 | 21 => 21 | 5 => 5 | 46 => 35 | 119 => 36 | 139 => 39 | 138 => 38 | 146 => 41 | 51 => 40 | n => n, fun | 1 => 0 | 3 => 1 | 4 => 2 | n => n⟩
theorem Tryd.laysM146 : Go.Proofs.LaysM.n146 Tryd.prog Tryd.laysM146_ren := {
  mixed := by kernel_rfl
  f138 := Tryd.func11.trans (congrArg some (by kernel_rfl))
  f143 := Tryd.func12.trans (congrArg some (by kernel_rfl))
  f146 := Tryd.func8.trans (congrArg some (by kernel_rfl))
  f195 := Tryd.func13.trans (congrArg some (by kernel_rfl))
  f197 := Tryd.func14.trans (congrArg some (by kernel_rfl))
  f217 := Tryd.func18.trans (congrArg some (by kernel_rfl))
  f218 := Tryd.func15.trans (congrArg some (by kernel_rfl))
  f219 := Tryd.func16.trans (congrArg some (by kernel_rfl))
  f221 := Tryd.func9.trans (congrArg some (by kernel_rfl))
  f224 := Tryd.func20.trans (congrArg some (by kernel_rfl))
  f225 := Tryd.func19.trans (congrArg some (by kernel_rfl))
  f260 := Tryd.func17.trans (congrArg some (by kernel_rfl))
  f266 := Tryd.func22.trans (congrArg some (by kernel_rfl))
  f267 := Tryd.func21.trans (congrArg some (by kernel_rfl))
  f268 := Tryd.func10.trans (congrArg some (by kernel_rfl))
  f314 := Tryd.func23.trans (congrArg some (by kernel_rfl))
  t0 := Tryd.underlying0
  a0 := Tryd.isAgg0
  z0 := Tryd.sizeOf0
  v0 := Tryd.zeroValue0
  t3 := Tryd.underlying3
  a3 := Tryd.isAgg3
  z3 := Tryd.sizeOf3
  v3 := Tryd.zeroValue3
  t4 := Tryd.underlying4
  a4 := Tryd.isAgg4
  z4 := Tryd.sizeOf4
  v4 := Tryd.zeroValue4
  t5 := Tryd.underlying5
  a5 := Tryd.isAgg5
  z5 := Tryd.sizeOf5
  v5 := Tryd.zeroValue5
  t9 := Tryd.underlying9
  a9 := Tryd.isAgg9
  z9 := Tryd.sizeOf9
  v9 := Tryd.zeroValue9
  t21 := Tryd.underlying21
  a21 := Tryd.isAgg21
  z21 := Tryd.sizeOf21
  v21 := Tryd.zeroValue21
  t31 := Tryd.underlying25
  a31 := Tryd.isAgg25
  z31 := Tryd.sizeOf25
  v31 := Tryd.zeroValue25
  t46 := Tryd.underlying35
  a46 := Tryd.isAgg35
  z46 := Tryd.sizeOf35
  v46 := Tryd.zeroValue35
  t51 := Tryd.underlying40
  a51 := Tryd.isAgg40
  z51 := Tryd.sizeOf40
  v51 := Tryd.zeroValue40
  t105 := Tryd.underlying31
  a105 := Tryd.isAgg31
  z105 := Tryd.sizeOf31
  v105 := Tryd.zeroValue31
  t119 := Tryd.underlying36
  a119 := Tryd.isAgg36
  z119 := Tryd.sizeOf36
  t138 := Tryd.underlying38
  a138 := Tryd.isAgg38
  z138 := Tryd.sizeOf38
  v138 := Tryd.zeroValue38
  t139 := Tryd.underlying39
  a139 := Tryd.isAgg39
  z139 := Tryd.sizeOf39
  v139 := Tryd.zeroValue39
  t146 := Tryd.underlying41
  a146 := Tryd.isAgg41
  z146 := Tryd.sizeOf41
  v146 := Tryd.zeroValue41
  g1 := by kernel_rfl
  g3 := by kernel_rfl
  g4 := by kernel_rfl
  i0 := by kernel_rfl
  i3 := by kernel_rfl
  i4 := by kernel_rfl
  i5 := by kernel_rfl
  i9 := by kernel_rfl
  i21 := by kernel_rfl
  i31 := by kernel_rfl
  i46 := by kernel_rfl
  i51 := by kernel_rfl
  i105 := by kernel_rfl
  i138 := by kernel_rfl
  i139 := by kernel_rfl
  i146 := by kernel_rfl
  m1 := by kernel_rfl
  s1_3 := fun w h => Go.Proofs.cell_of_shapedOpen_int (zero := #[.int .i64 0]) (t := 3) h (of_decide_eq_true (by kernel_rfl)) (by kernel_rfl) rfl (by kernel_rfl) (by kernel_rfl) Tryd.underlying3
  m3 := by kernel_rfl
  m4 := by kernel_rfl }
end Go.Proofs
