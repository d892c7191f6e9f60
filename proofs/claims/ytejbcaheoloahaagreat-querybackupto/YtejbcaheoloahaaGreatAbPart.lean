import Derived.Test.YtejbcaheoloahaaGreatAbPan
set_option linter.all false
namespace Go.Ab
open Go
variable {G:Cfg}{C:Z3}{m:Nat}{ops:Array Oper}{i:Nat}{ov ov':List (Nat×AV)}{H H':List Blk}
end Go.Ab
