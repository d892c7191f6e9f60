import Derived.Test.YtejbcaheoloahaaGreatAbPan
set_option linter.unusedVariables false
set_option linter.unusedSimpArgs false
namespace Go.Ab
open Go
variable {G:Cfg} {C:ZH} {m:Nat} {ops:Array Oper} {i:Nat} {ov ov':List (Nat × AV)} {H H':List Blk}
end Go.Ab
