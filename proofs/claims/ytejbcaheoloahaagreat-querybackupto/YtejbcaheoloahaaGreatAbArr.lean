import Derived.Test.YtejbcaheoloahaaGreatAbRow
import Derived.Test.YtejbcaheoloahaaGreatAbRd
set_option linter.all false
namespace Go.Ab
open Go
section
variable {G:Cfg}{C:Z3}{m:Nat}{ops:Array Oper}{i:Nat}{ov:List (Nat×AV)}{H:List Blk}
end
theorem atC {look:Look}{cs:List AV}{ps:List PV}{R:AV}(h:aeX (AV.pureOf look 4) cs=some ps) (e:AV.agg (ps.map .pv)=R):AV.puriRes look (.agg cs)=some R:=by
 subst e;exact qN h
end Go.Ab
