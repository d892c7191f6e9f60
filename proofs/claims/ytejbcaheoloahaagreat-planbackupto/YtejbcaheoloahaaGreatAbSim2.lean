import Derived.Test.YtejbcaheoloahaaGreatAbSim
set_option linter.unusedVariables false
set_option linter.unusedSimpArgs false
namespace Go.Ab
open Go
theorem akl {v:AV} (h:AV.ids v=[]) (ρ:Nat→Option Nat):AV.ren ρ v=some v:=alR v fun i hi=>by rw [h] at hi; cases hi
end Go.Ab
