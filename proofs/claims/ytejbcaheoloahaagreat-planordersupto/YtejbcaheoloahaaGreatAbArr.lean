import Derived.Test.YtejbcaheoloahaaGreatAbRow
import Derived.Test.YtejbcaheoloahaaGreatAbRd
set_option linter.unusedVariables false
set_option linter.unusedSimpArgs false
namespace Go.Ab
open Go
section
variable {G:Cfg} {C:Z2} {m:Nat} {ops:Array Oper} {i:Nat} {ov:List (Nat × AV)} {H:List Blk}
end
theorem aqh {look:Look} {cs:List AV} {ps:List PV} {R:AV} (h:adg (AV.pureOf look 4) cs=some ps) (e:AV.agg (ps.map .pv)=R):AV.puriRes look (.agg cs)=some R:=by
  subst e; exact afK h
end Go.Ab
