import Derived.Test.YtejbcaheoloahaaAbRow
import Derived.Test.YtejbcaheoloahaaAbRd
namespace Go.Ab
open Go
section
variable {G : Cfg} {C : CallF} {m : Nat} {ops : Array Oper} {i : Nat} {ov : List (Nat × AV)} {H : List Blk}
end
end Go.Ab
