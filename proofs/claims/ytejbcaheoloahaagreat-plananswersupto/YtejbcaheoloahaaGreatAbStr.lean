import Derived.Test.YtejbcaheoloahaaGreatAbWP
set_option maxRecDepth 100000
set_option linter.all false
namespace Go.Ab
open Go
theorem SL.rows {p:PV}{l:List Int}(h:SL p l) (look:Look):rowsOf (.pv p) look=some (l.map rowB):=by
 rcases h with rfl|⟨rfl,rfl⟩<;>rfl
end Go.Ab
