import Derived.Test.YtejbcaheoloahaaGreatAbRow
import Derived.Test.YtejbcaheoloahaaGreatAbRd
set_option linter.unusedVariables false
set_option linter.unusedSimpArgs false
namespace Go.Ab
open Go
section
variable {G:Cfg} {C:ZH} {m:Nat} {ops:Array Oper} {i:Nat} {ov:List (Nat × AV)} {H:List Blk}
end
end Go.Ab
