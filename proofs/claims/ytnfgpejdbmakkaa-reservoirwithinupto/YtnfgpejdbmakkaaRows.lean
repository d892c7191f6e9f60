/-
  No cell of these rows narrows 'for every input' (looked for: loops, veiled, ifaces, maps, wideKeys, modest, calm, conditions, laid).
  DERIVED. THE GIVEN ROWS OF THIS SEAT. 6 by the template 'for every input the law returns true; each argument reads behind the call as it read before'; 0 by the template 'total and deterministic' (their statements: YtnfgpejdbmakkaaTotals.lean).
  GIVEN WITH THE SEED: the statements are not yours to turn. If you find one false, say at which input.
  Laid BY PROGRAM, IN A SANDBOX (cutbox-rows.mjs): the forced cells as the released guide's own fill.sh prints them over the translation 0a27920bdacf42e7… (all of the seat's roots in one cut). By AI agents, Wed Nov 11 2026. No macro, syntax, notation, axiom, sorry.
-/
import Derived.Test.YtnfgpejdbmakkaaChecked
import GoSem.Claim
import GoSem.ClaimJoined
import GoSem.ClaimMapViews
import Derived.JoinedTies
import Derived.KernelRfl
namespace Go.Proofs.Ytnfgpejdbmakkaa
/- THE CELL 'sum', in the pinned program and in every row, IS THE sha256 OF THE DUMP (.gsa) THAT YtnfgpejdbmakkaaProg.lean LOADS. Nothing in Lean hashes anything: it is a label: what it is worth is what the hold of that sum in a sandbox is worth. -/
noncomputable def Try.pinned : Pinned := { name := "ytnfgpejdbmakkaa", sum := "0a27920bdacf42e7059646ec43398ef474bf29cd1e4869d41ed1fc731d9e340e", checked := Try.checked }
namespace Rows
def none {H : Type} : Left H := { results := [], args := [] }

/-- 'tabularylaw32.CostParts': WHATEVER THE INPUT: true; the input reads as it did. -/
def costPartsSpec : ChangeSpec := { name := "costParts", fn := fun _ => fun
  | [d] => { results := [.lit (.bool true)], args := [d] }
  | _ => none }
def costPartsRow : OpenClaim := { program := "ytnfgpejdbmakkaa", sum := "0a27920bdacf42e7059646ec43398ef474bf29cd1e4869d41ed1fc731d9e340e", func := "tabulary/tabularylaw32.CostParts", spec := "costParts", inPlace := ["math/bits.Add64"], named := ["math/bits.divideError", "math/bits.overflowError"], apart := false }
def CostPartsSaid : Prop := costPartsRow.holds Try.pinned (OpenSpec.ofChange costPartsSpec)

/-- ITS FALSE NEIGHBOUR: 'it returns false'. Refute it at one input. -/
def costPartsWrong : ChangeSpec := { name := "costParts", fn := fun _ => fun
  | [d] => { results := [.lit (.bool false)], args := [d] }
  | _ => none }
def CostPartsWrongFalsely : Prop := costPartsRow.holds Try.pinned (OpenSpec.ofChange costPartsWrong)

/-- 'tabularylaw32.CostRises': WHATEVER THE INPUT: true; the input reads as it did. -/
def costRisesSpec : ChangeSpec := { name := "costRises", fn := fun _ => fun
  | [d1, d2] => { results := [.lit (.bool true)], args := [d1, d2] }
  | _ => none }
def costRisesRow : OpenClaim := { program := "ytnfgpejdbmakkaa", sum := "0a27920bdacf42e7059646ec43398ef474bf29cd1e4869d41ed1fc731d9e340e", func := "tabulary/tabularylaw32.CostRises", spec := "costRises", inPlace := ["math/bits.Add64"], named := ["math/bits.divideError", "math/bits.overflowError"], apart := false }
def CostRisesSaid : Prop := costRisesRow.holds Try.pinned (OpenSpec.ofChange costRisesSpec)

/-- ITS FALSE NEIGHBOUR: 'it returns false'. Refute it at one input. -/
def costRisesWrong : ChangeSpec := { name := "costRises", fn := fun _ => fun
  | [d1, d2] => { results := [.lit (.bool false)], args := [d1, d2] }
  | _ => none }
def CostRisesWrongFalsely : Prop := costRisesRow.holds Try.pinned (OpenSpec.ofChange costRisesWrong)

/-- 'tabularylaw18.ReservoirFeeds': WHATEVER THE INPUT: true; the input reads as it did. -/
def reservoirFeedsSpec : ChangeSpec := { name := "reservoirFeeds", fn := fun _ => fun
  | [d1, d2, d3] => { results := [.lit (.bool true)], args := [d1, d2, d3] }
  | _ => none }
def reservoirFeedsRow : OpenClaim := { program := "ytnfgpejdbmakkaa", sum := "0a27920bdacf42e7059646ec43398ef474bf29cd1e4869d41ed1fc731d9e340e", func := "tabulary/tabularylaw18.ReservoirFeeds", spec := "reservoirFeeds", inPlace := ["math.Float64bits", "math.Float64frombits"], unfollowed := true, recurses := true, apart := false }
def ReservoirFeedsSaid : Prop := reservoirFeedsRow.holds Try.pinned (OpenSpec.ofChange reservoirFeedsSpec)

/-- ITS FALSE NEIGHBOUR: 'it returns false'. Refute it at one input. -/
def reservoirFeedsWrong : ChangeSpec := { name := "reservoirFeeds", fn := fun _ => fun
  | [d1, d2, d3] => { results := [.lit (.bool false)], args := [d1, d2, d3] }
  | _ => none }
def ReservoirFeedsWrongFalsely : Prop := reservoirFeedsRow.holds Try.pinned (OpenSpec.ofChange reservoirFeedsWrong)

/-- 'tabularylaw18.ReservoirBlind': WHATEVER THE INPUT: true; the input reads as it did. -/
def reservoirBlindSpec : ChangeSpec := { name := "reservoirBlind", fn := fun _ => fun
  | [d1, d2, d3] => { results := [.lit (.bool true)], args := [d1, d2, d3] }
  | _ => none }
def reservoirBlindRow : OpenClaim := { program := "ytnfgpejdbmakkaa", sum := "0a27920bdacf42e7059646ec43398ef474bf29cd1e4869d41ed1fc731d9e340e", func := "tabulary/tabularylaw18.ReservoirBlind", spec := "reservoirBlind", inPlace := ["math.Float64bits", "math.Float64frombits"], unfollowed := true, recurses := true, apart := false }
def ReservoirBlindSaid : Prop := reservoirBlindRow.holds Try.pinned (OpenSpec.ofChange reservoirBlindSpec)

/-- ITS FALSE NEIGHBOUR: 'it returns false'. Refute it at one input. -/
def reservoirBlindWrong : ChangeSpec := { name := "reservoirBlind", fn := fun _ => fun
  | [d1, d2, d3] => { results := [.lit (.bool false)], args := [d1, d2, d3] }
  | _ => none }
def ReservoirBlindWrongFalsely : Prop := reservoirBlindRow.holds Try.pinned (OpenSpec.ofChange reservoirBlindWrong)

/-- 'tabularylaw18.ReservoirSamples': WHATEVER THE INPUT: true; the input reads as it did. -/
def reservoirSamplesSpec : ChangeSpec := { name := "reservoirSamples", fn := fun _ => fun
  | [d1, d2, d3, d4, d5] => { results := [.lit (.bool true)], args := [d1, d2, d3, d4, d5] }
  | _ => none }
def reservoirSamplesRow : OpenClaim := { program := "ytnfgpejdbmakkaa", sum := "0a27920bdacf42e7059646ec43398ef474bf29cd1e4869d41ed1fc731d9e340e", func := "tabulary/tabularylaw18.ReservoirSamples", spec := "reservoirSamples", inPlace := ["math.Float64bits", "math.Float64frombits"], unfollowed := true, recurses := true, apart := false }
def ReservoirSamplesSaid : Prop := reservoirSamplesRow.holds Try.pinned (OpenSpec.ofChange reservoirSamplesSpec)

/-- ITS FALSE NEIGHBOUR: 'it returns false'. Refute it at one input. -/
def reservoirSamplesWrong : ChangeSpec := { name := "reservoirSamples", fn := fun _ => fun
  | [d1, d2, d3, d4, d5] => { results := [.lit (.bool false)], args := [d1, d2, d3, d4, d5] }
  | _ => none }
def ReservoirSamplesWrongFalsely : Prop := reservoirSamplesRow.holds Try.pinned (OpenSpec.ofChange reservoirSamplesWrong)

/-- 'tabularylaw18.ReservoirWithin': WHATEVER THE INPUT: true; the input reads as it did. -/
def reservoirWithinSpec : ChangeSpec := { name := "reservoirWithin", fn := fun _ => fun
  | [d1, d2, d3] => { results := [.lit (.bool true)], args := [d1, d2, d3] }
  | _ => none }
def reservoirWithinRow : OpenClaim := { program := "ytnfgpejdbmakkaa", sum := "0a27920bdacf42e7059646ec43398ef474bf29cd1e4869d41ed1fc731d9e340e", func := "tabulary/tabularylaw18.ReservoirWithin", spec := "reservoirWithin", inPlace := ["math.Float64bits", "math.Float64frombits"], unfollowed := true, recurses := true, apart := false }
def ReservoirWithinSaid : Prop := reservoirWithinRow.holds Try.pinned (OpenSpec.ofChange reservoirWithinSpec)

/-- ITS FALSE NEIGHBOUR: 'it returns false'. Refute it at one input. -/
def reservoirWithinWrong : ChangeSpec := { name := "reservoirWithin", fn := fun _ => fun
  | [d1, d2, d3] => { results := [.lit (.bool false)], args := [d1, d2, d3] }
  | _ => none }
def ReservoirWithinWrongFalsely : Prop := reservoirWithinRow.holds Try.pinned (OpenSpec.ofChange reservoirWithinWrong)

/- THE SECOND FORM. 'bulk': how many values and letters a reading holds, each counted each time it is reached (what is shared counts as often as it is met; a slice's spare places count too). A statement '..UptoSaid' is the law's where the arguments, and the package variables that the reading takes, are together of bulk at most 1048576: NARROWER than '..Said'. Prove '..Said' where nothing that the law and all that it calls make is longer than what came in: it says more and counts as full. Else prove '..UptoSaid'. A law counts once. -/
mutual
def uptoBulk {H : Type} : DataW H → Nat
  | .lit (.string bytes) => bytes.length + 1
  | .lit _ => 1
  | .nil => 1
  | .ptr d => uptoBulk d + 1
  | .slice elems spare => uptoBulkAll elems + uptoBulkAll spare + 1
  | .agg parts => uptoBulkAll parts + 1
  | .iface _ d => uptoBulk d + 1
  | .map entries => uptoBulkEntries entries + 1
  | .held _ => 1
def uptoBulkAll {H : Type} : List (DataW H) → Nat
  | [] => 0
  | d :: r => uptoBulk d + uptoBulkAll r
def uptoBulkEntries {H : Type} : List (Lit × DataW H) → Nat
  | [] => 0
  | x :: r => uptoBulkEntry x + uptoBulkEntries r
def uptoBulkEntry {H : Type} : Lit × DataW H → Nat
  | (.string bytes, d) => bytes.length + uptoBulk d + 1
  | (_, d) => uptoBulk d + 1
 end
def uptoSmall : (H : Type) → List (DataW H) → Bool := fun _ ds => decide (uptoBulkAll ds ≤ 1048576)
def OpenSpec.upto (s : _root_.Go.ChangeSpec) : _root_.Go.OpenSpec := { _root_.Go.OpenSpec.ofChange s with cond := some uptoSmall }

/-- 'tabularylaw32.CostParts', WHERE WHAT IT READS IS OF BULK AT MOST 1048576: true; the input reads as it did. -/
def costPartsUptoRow : OpenClaim := { program := "ytnfgpejdbmakkaa", sum := "0a27920bdacf42e7059646ec43398ef474bf29cd1e4869d41ed1fc731d9e340e", func := "tabulary/tabularylaw32.CostParts", spec := "costParts", inPlace := ["math/bits.Add64"], named := ["math/bits.divideError", "math/bits.overflowError"], apart := false, narrowed := true }
def CostPartsUptoSaid : Prop := costPartsUptoRow.holds Try.pinned (OpenSpec.upto costPartsSpec)

/-- 'tabularylaw32.CostRises', WHERE WHAT IT READS IS OF BULK AT MOST 1048576: true; the input reads as it did. -/
def costRisesUptoRow : OpenClaim := { program := "ytnfgpejdbmakkaa", sum := "0a27920bdacf42e7059646ec43398ef474bf29cd1e4869d41ed1fc731d9e340e", func := "tabulary/tabularylaw32.CostRises", spec := "costRises", inPlace := ["math/bits.Add64"], named := ["math/bits.divideError", "math/bits.overflowError"], apart := false, narrowed := true }
def CostRisesUptoSaid : Prop := costRisesUptoRow.holds Try.pinned (OpenSpec.upto costRisesSpec)

/-- 'tabularylaw18.ReservoirFeeds', WHERE WHAT IT READS IS OF BULK AT MOST 1048576: true; the input reads as it did. -/
def reservoirFeedsUptoRow : OpenClaim := { program := "ytnfgpejdbmakkaa", sum := "0a27920bdacf42e7059646ec43398ef474bf29cd1e4869d41ed1fc731d9e340e", func := "tabulary/tabularylaw18.ReservoirFeeds", spec := "reservoirFeeds", inPlace := ["math.Float64bits", "math.Float64frombits"], unfollowed := true, recurses := true, apart := false, narrowed := true }
def ReservoirFeedsUptoSaid : Prop := reservoirFeedsUptoRow.holds Try.pinned (OpenSpec.upto reservoirFeedsSpec)

/-- 'tabularylaw18.ReservoirBlind', WHERE WHAT IT READS IS OF BULK AT MOST 1048576: true; the input reads as it did. -/
def reservoirBlindUptoRow : OpenClaim := { program := "ytnfgpejdbmakkaa", sum := "0a27920bdacf42e7059646ec43398ef474bf29cd1e4869d41ed1fc731d9e340e", func := "tabulary/tabularylaw18.ReservoirBlind", spec := "reservoirBlind", inPlace := ["math.Float64bits", "math.Float64frombits"], unfollowed := true, recurses := true, apart := false, narrowed := true }
def ReservoirBlindUptoSaid : Prop := reservoirBlindUptoRow.holds Try.pinned (OpenSpec.upto reservoirBlindSpec)

/-- 'tabularylaw18.ReservoirSamples', WHERE WHAT IT READS IS OF BULK AT MOST 1048576: true; the input reads as it did. -/
def reservoirSamplesUptoRow : OpenClaim := { program := "ytnfgpejdbmakkaa", sum := "0a27920bdacf42e7059646ec43398ef474bf29cd1e4869d41ed1fc731d9e340e", func := "tabulary/tabularylaw18.ReservoirSamples", spec := "reservoirSamples", inPlace := ["math.Float64bits", "math.Float64frombits"], unfollowed := true, recurses := true, apart := false, narrowed := true }
def ReservoirSamplesUptoSaid : Prop := reservoirSamplesUptoRow.holds Try.pinned (OpenSpec.upto reservoirSamplesSpec)

/-- 'tabularylaw18.ReservoirWithin', WHERE WHAT IT READS IS OF BULK AT MOST 1048576: true; the input reads as it did. -/
def reservoirWithinUptoRow : OpenClaim := { program := "ytnfgpejdbmakkaa", sum := "0a27920bdacf42e7059646ec43398ef474bf29cd1e4869d41ed1fc731d9e340e", func := "tabulary/tabularylaw18.ReservoirWithin", spec := "reservoirWithin", inPlace := ["math.Float64bits", "math.Float64frombits"], unfollowed := true, recurses := true, apart := false, narrowed := true }
def ReservoirWithinUptoSaid : Prop := reservoirWithinUptoRow.holds Try.pinned (OpenSpec.upto reservoirWithinSpec)

end Rows
end Go.Proofs.Ytnfgpejdbmakkaa
