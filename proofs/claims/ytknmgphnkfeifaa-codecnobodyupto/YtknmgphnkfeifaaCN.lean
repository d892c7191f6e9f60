import Derived.Test.YtknmgphnkfeifaaPA
set_option linter.unusedVariables false
namespace Go.Pl
open Go Go.Ab
theorem CodecNobody_big (n : Nat) (z : Int) : law03_CodecNobody (n + 21) z = (law03_works (n + 20)).bind fun x => some x := by kernel_rfl
theorem CodecNobody_true {n : Nat} (h : n = 4000000) {z : Int} (hz : wI .u64 z) : law03_CodecNobody n z = some true := by
  subst h
  rw [show (4000000 : Nat) = 3999979 + 21 from rfl, CodecNobody_big]
  rfl
end Go.Pl
