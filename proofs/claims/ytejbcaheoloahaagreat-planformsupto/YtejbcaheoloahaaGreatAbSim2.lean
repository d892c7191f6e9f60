import Derived.Test.YtejbcaheoloahaaGreatAbSim
namespace Go.Ab
open Go
theorem aiX {v:AV} (h:AV.ids v=[]) (ρ:Nat→Option Nat):AV.ren ρ v=some v:=akq v fun i hi=>by rw [h] at hi; cases hi
end Go.Ab
