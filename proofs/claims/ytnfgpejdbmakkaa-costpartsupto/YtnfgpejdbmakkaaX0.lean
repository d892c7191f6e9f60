import Derived.Test.YtnfgpejdbmakkaaW2
namespace Go.Ab.Ytnfgpejdbmakkaa
open Go Go.Ab
open Go.Proofs.Try
set_option maxRecDepth 100000
theorem works15 : call G 100 15 [] [] = some (.ret (.pv (.bool true)), []) := by kernel_rfl
end Go.Ab.Ytnfgpejdbmakkaa
