import Derived.Test.YtejbcaheoloahaaAbSim
namespace Go.Ab
open Go
theorem ren_noids {v : AV} (h : AV.ids v = []) (ρ : Nat → Option Nat) : AV.ren ρ v = some v := ren_same v fun i hi => by rw [h] at hi; cases hi
end Go.Ab
