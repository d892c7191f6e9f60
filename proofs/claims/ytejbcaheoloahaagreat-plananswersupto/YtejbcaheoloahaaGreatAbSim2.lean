import Derived.Test.YtejbcaheoloahaaGreatAbSim
set_option linter.all false
namespace Go.Ab
open Go
theorem api {v:AV}(h:AV.ids v=[]) (ρ:Nat→Option Nat):AV.ren ρ v=some v:=arF v fun i hi=>by rw [h] at hi;cases hi
end Go.Ab
