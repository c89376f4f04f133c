/- The plain functions that the program's functions come to. Printed by gen.py; each is held against the program in the text Ev. -/
import Derived.Test.YtljiidpfgfkhcabDoorRf5
namespace Go.Rf.G
open Go Go.Rf
set_option linter.unusedVariables false

noncomputable def spec_l1In.f (p0 : Int) (p1 : Int) (p2 : Int) : Option (Bool) :=
  bif decide (p0 ≥ p1) then
  let y1 := decide (p0 ≤ p2)
  some y1
  else
  some false

noncomputable def impl_in.f (p0 : Int) (p1 : Int) (p2 : Int) : Option (Bool) :=
  bif decide (p0 ≥ p1) then
  let y1 := decide (p0 ≤ p2)
  some y1
  else
  some false

noncomputable def spec_CodeWord.f (p0 : Int) : Option (List UInt8) :=
  (spec_l1In.f p0 0 8).bind fun t1 =>
  bif !t1 then
  some []
  else
  bif inB p0 [[111, 107], [100, 111, 119, 110], [115, 112, 97, 99, 101], [99, 111, 114, 114, 117, 112, 116], [97, 114, 103, 115], [109, 97, 110, 121], [99, 108, 111, 115, 101, 100], [99, 111, 110, 102, 108, 105, 99, 116], [110, 111, 110, 101]].length then
  let y2 := rdA [] [[111, 107], [100, 111, 119, 110], [115, 112, 97, 99, 101], [99, 111, 114, 114, 117, 112, 116], [97, 114, 103, 115], [109, 97, 110, 121], [99, 108, 111, 115, 101, 100], [99, 111, 110, 102, 108, 105, 99, 116], [110, 111, 110, 101]] p0
  some y2
  else none



noncomputable def impl_CodeWord.f (p0 : Int) : Option (List UInt8) :=
  (impl_in.f p0 0 8).bind fun t1 =>
  bif !t1 then
  some []
  else
  (strings_Split.f [111, 107, 32, 100, 111, 119, 110, 32, 115, 112, 97, 99, 101, 32, 99, 111, 114, 114, 117, 112, 116, 32, 97, 114, 103, 115, 32, 109, 97, 110, 121, 32, 99, 108, 111, 115, 101, 100, 32, 99, 111, 110, 102, 108, 105, 99, 116, 32, 110, 111, 110, 101] [32]).bind fun t2 =>
  bif inB p0 t2.length then
  some (rdA [] t2 p0)
  else none

noncomputable def laws_FnExactCodeWord.f (p0 : Int) : Option (Bool) :=
  (spec_CodeWord.f p0).bind fun t1 =>
  (impl_CodeWord.f p0).bind fun t2 =>
  bif !(t2 == t1) then
  some false
  else
  some true


end Go.Rf.G
