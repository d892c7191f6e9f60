import Derived.Test.YtejbcaheoloahaaAbRow
import Derived.Test.YtejbcaheoloahaaAbRd
set_option linter.unusedVariables false
set_option linter.unusedSimpArgs false
/-! Arrays of numbers, as functions. -/
namespace Go.Ab
open Go

def rAf (k : IntKind) (x : Nat → Int) : Nat → Nat → List PV
  | _, 0 => []
  | i, n + 1 => .int k (x i) :: rAf k x (i + 1) n
def rA (k : IntKind) (n : Nat) (x : Nat → Int) : List PV := rAf k x 0 n
def aAf (k : IntKind) (x : Nat → Int) : Nat → Nat → List AV
  | _, 0 => []
  | i, n + 1 => .pv (.int k (x i)) :: aAf k x (i + 1) n
def aA (k : IntKind) (n : Nat) (x : Nat → Int) : List AV := aAf k x 0 n
section
variable {G : Cfg} {C : CallF} {m : Nat} {ops : Array Oper} {i : Nat} {ov : List (Nat × AV)} {H : List Blk}
end

/-! ### Read from the arguments -/
end Go.Ab
