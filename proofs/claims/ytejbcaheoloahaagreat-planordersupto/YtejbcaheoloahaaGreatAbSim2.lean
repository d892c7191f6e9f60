import Derived.Test.YtejbcaheoloahaaGreatAbSim
set_option linter.unusedVariables false
set_option linter.unusedSimpArgs false
namespace Go.Ab
open Go
theorem akh {v:AV} (h:AV.ids v=[]) (ρ:Nat→Option Nat):AV.ren ρ v=some v:=alH v fun i hi=>by rw [h] at hi; cases hi
end Go.Ab
