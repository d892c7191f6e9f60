import Derived.Test.YtejbcaheoloahaaGreatPL
import Derived.Test.YtejbcaheoloahaaGreatAbRow
set_option linter.all false
namespace Go.Pl
open Go Go.Ab
def Bytes (l:List Int):Prop:=∀ x∈l,0≤x∧x<256
theorem Bytes.app {a b:List Int}(ha:Bytes a) (hb:Bytes b):Bytes (a++b):=fun x hx=>by
 rcases List.mem_append.1 hx with h|h
 ·exact ha x h
 exact hb x h
end Go.Pl
