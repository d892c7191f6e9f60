import Derived.Test.YtknmgphnkfeifaaAbRow
import Derived.Test.YtknmgphnkfeifaaAbRd
set_option linter.unusedVariables false
set_option linter.unusedSimpArgs false
/-! Arrays of numbers, as functions. -/
namespace Go.Ab
open Go

section
variable {G : Cfg} {C : CallF} {m : Nat} {ops : Array Oper} {i : Nat} {ov : List (Nat × AV)} {H : List Blk}
end

/-! ### Read from the arguments -/
end Go.Ab
