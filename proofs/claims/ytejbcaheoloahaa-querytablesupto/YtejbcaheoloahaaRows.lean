/-
  NARROWER THAN 'FOR EVERY INPUT', by the rows' own cells (each row's printed sentence says how): QueryTables: loops · GuessBounds: loops · GuessSplits: loops · CostShapes: loops.
  DERIVED. THE GIVEN ROWS OF THIS SEAT. 4 by the template 'for every input the law returns true; each argument reads behind the call as it read before'; 0 by the template 'total and deterministic' (their statements: YtejbcaheoloahaaTotals.lean).
  GIVEN WITH THE SEED: the statements are not yours to turn. If you find one false, say at which input.
  Laid BY PROGRAM, IN A SANDBOX (cutbox-rows.mjs): the forced cells as the released guide's own fill.sh prints them over the translation bbab0550713f1aca… (all of the seat's roots in one cut). By AI agents, Wed Nov 11 2026. No macro, syntax, notation, axiom, sorry.
-/
import Derived.Test.YtejbcaheoloahaaChecked
import GoSem.Claim
import GoSem.ClaimJoined
import GoSem.ClaimMapViews
import Derived.JoinedTies
import Derived.KernelRfl
namespace Go.Proofs.Ytejbcaheoloahaa
/- THE CELL 'sum', in the pinned program and in every row, IS THE sha256 OF THE DUMP (.gsa) THAT YtejbcaheoloahaaProg.lean LOADS. Nothing in Lean hashes anything: it is a label: what it is worth is what the hold of that sum in a sandbox is worth. -/
noncomputable def Try.pinned : Pinned := { name := "ytejbcaheoloahaa", sum := "bbab0550713f1aca367db6c109115d887d9ce1027b34c7b2041f97cc1472c8fe", checked := Try.checked }
namespace Rows
def none {H : Type} : Left H := { results := [], args := [] }

/-- 'tabularylaw23.QueryTables': WHATEVER THE INPUT: true; the input reads as it did. -/
def queryTablesSpec : ChangeSpec := { name := "queryTables", fn := fun _ => fun
  | [d1, d2, d3] => { results := [.lit (.bool true)], args := [d1, d2, d3] }
  | _ => none }
def queryTablesRow : OpenClaim := { program := "ytejbcaheoloahaa", sum := "bbab0550713f1aca367db6c109115d887d9ce1027b34c7b2041f97cc1472c8fe", func := "tabulary/tabularylaw23.QueryTables", spec := "queryTables", inPlace := ["math.Float64bits"], unfollowed := true, recurses := true, loops := true, apart := false }
def QueryTablesSaid : Prop := queryTablesRow.holds Try.pinned (OpenSpec.ofChange queryTablesSpec)

/-- ITS FALSE NEIGHBOUR: 'it returns false'. Refute it at one input. -/
def queryTablesWrong : ChangeSpec := { name := "queryTables", fn := fun _ => fun
  | [d1, d2, d3] => { results := [.lit (.bool false)], args := [d1, d2, d3] }
  | _ => none }
def QueryTablesWrongFalsely : Prop := queryTablesRow.holds Try.pinned (OpenSpec.ofChange queryTablesWrong)

/-- 'tabularylaw31.GuessBounds': WHATEVER THE INPUT: true; the input reads as it did. -/
def guessBoundsSpec : ChangeSpec := { name := "guessBounds", fn := fun _ => fun
  | [d1, d2, d3, d4] => { results := [.lit (.bool true)], args := [d1, d2, d3, d4] }
  | _ => none }
def guessBoundsRow : OpenClaim := { program := "ytejbcaheoloahaa", sum := "bbab0550713f1aca367db6c109115d887d9ce1027b34c7b2041f97cc1472c8fe", func := "tabulary/tabularylaw31.GuessBounds", spec := "guessBounds", inPlace := ["math.Float64bits", "math/bits.Add64", "math.Float64frombits"], unfollowed := true, recurses := true, named := ["math/bits.divideError", "math/bits.overflowError"], loops := true, apart := false }
def GuessBoundsSaid : Prop := guessBoundsRow.holds Try.pinned (OpenSpec.ofChange guessBoundsSpec)

/-- ITS FALSE NEIGHBOUR: 'it returns false'. Refute it at one input. -/
def guessBoundsWrong : ChangeSpec := { name := "guessBounds", fn := fun _ => fun
  | [d1, d2, d3, d4] => { results := [.lit (.bool false)], args := [d1, d2, d3, d4] }
  | _ => none }
def GuessBoundsWrongFalsely : Prop := guessBoundsRow.holds Try.pinned (OpenSpec.ofChange guessBoundsWrong)

/-- 'tabularylaw31.GuessSplits': WHATEVER THE INPUT: true; the input reads as it did. -/
def guessSplitsSpec : ChangeSpec := { name := "guessSplits", fn := fun _ => fun
  | [d1, d2, d3] => { results := [.lit (.bool true)], args := [d1, d2, d3] }
  | _ => none }
def guessSplitsRow : OpenClaim := { program := "ytejbcaheoloahaa", sum := "bbab0550713f1aca367db6c109115d887d9ce1027b34c7b2041f97cc1472c8fe", func := "tabulary/tabularylaw31.GuessSplits", spec := "guessSplits", inPlace := ["math.Float64bits", "math/bits.Add64", "math.Float64frombits"], unfollowed := true, recurses := true, named := ["math/bits.divideError", "math/bits.overflowError"], loops := true, apart := false }
def GuessSplitsSaid : Prop := guessSplitsRow.holds Try.pinned (OpenSpec.ofChange guessSplitsSpec)

/-- ITS FALSE NEIGHBOUR: 'it returns false'. Refute it at one input. -/
def guessSplitsWrong : ChangeSpec := { name := "guessSplits", fn := fun _ => fun
  | [d1, d2, d3] => { results := [.lit (.bool false)], args := [d1, d2, d3] }
  | _ => none }
def GuessSplitsWrongFalsely : Prop := guessSplitsRow.holds Try.pinned (OpenSpec.ofChange guessSplitsWrong)

/-- 'tabularylaw32.CostShapes': WHATEVER THE INPUT: true; the input reads as it did. -/
def costShapesSpec : ChangeSpec := { name := "costShapes", fn := fun _ => fun
  | [d1, d2, d3, d4] => { results := [.lit (.bool true)], args := [d1, d2, d3, d4] }
  | _ => none }
def costShapesRow : OpenClaim := { program := "ytejbcaheoloahaa", sum := "bbab0550713f1aca367db6c109115d887d9ce1027b34c7b2041f97cc1472c8fe", func := "tabulary/tabularylaw32.CostShapes", spec := "costShapes", inPlace := ["math/bits.Add64", "math.Float64bits", "math.Float64frombits"], unfollowed := true, recurses := true, named := ["math/bits.divideError", "math/bits.overflowError"], loops := true, apart := false }
def CostShapesSaid : Prop := costShapesRow.holds Try.pinned (OpenSpec.ofChange costShapesSpec)

/-- ITS FALSE NEIGHBOUR: 'it returns false'. Refute it at one input. -/
def costShapesWrong : ChangeSpec := { name := "costShapes", fn := fun _ => fun
  | [d1, d2, d3, d4] => { results := [.lit (.bool false)], args := [d1, d2, d3, d4] }
  | _ => none }
def CostShapesWrongFalsely : Prop := costShapesRow.holds Try.pinned (OpenSpec.ofChange costShapesWrong)

/- THE SECOND FORM. 'bulk': how many values and letters a reading holds, each counted each time it is reached (what is shared counts as often as it is met; a slice's spare places count too). A statement '..UptoSaid' is the law's where the arguments, and the package variables that the reading takes, are together of bulk at most 1048576: NARROWER than '..Said'. Prove '..Said' where nothing that the law and all that it calls make is longer than what came in: it says more and counts as full. Else prove '..UptoSaid'. A law counts once. -/
mutual
def uptoBulk {H : Type} : DataW H → Nat
  | .lit (.string bytes) => bytes.length + 1
  | .lit _ => 1
  | .nil => 1
  | .ptr d => uptoBulk d + 1
  | .slice elems spare => uptoBulkAll elems + uptoBulkAll spare + 1
  | .agg parts => uptoBulkAll parts + 1
  | .iface _ d => uptoBulk d + 1
  | .map entries => uptoBulkEntries entries + 1
  | .held _ => 1
def uptoBulkAll {H : Type} : List (DataW H) → Nat
  | [] => 0
  | d :: r => uptoBulk d + uptoBulkAll r
def uptoBulkEntries {H : Type} : List (Lit × DataW H) → Nat
  | [] => 0
  | x :: r => uptoBulkEntry x + uptoBulkEntries r
def uptoBulkEntry {H : Type} : Lit × DataW H → Nat
  | (.string bytes, d) => bytes.length + uptoBulk d + 1
  | (_, d) => uptoBulk d + 1
 end
def uptoSmall : (H : Type) → List (DataW H) → Bool := fun _ ds => decide (uptoBulkAll ds ≤ 1048576)
def OpenSpec.upto (s : _root_.Go.ChangeSpec) : _root_.Go.OpenSpec := { _root_.Go.OpenSpec.ofChange s with cond := some uptoSmall }

/-- 'tabularylaw23.QueryTables', WHERE WHAT IT READS IS OF BULK AT MOST 1048576: true; the input reads as it did. -/
def queryTablesUptoRow : OpenClaim := { program := "ytejbcaheoloahaa", sum := "bbab0550713f1aca367db6c109115d887d9ce1027b34c7b2041f97cc1472c8fe", func := "tabulary/tabularylaw23.QueryTables", spec := "queryTables", inPlace := ["math.Float64bits"], unfollowed := true, recurses := true, loops := true, apart := false, narrowed := true }
def QueryTablesUptoSaid : Prop := queryTablesUptoRow.holds Try.pinned (OpenSpec.upto queryTablesSpec)

/-- 'tabularylaw31.GuessBounds', WHERE WHAT IT READS IS OF BULK AT MOST 1048576: true; the input reads as it did. -/
def guessBoundsUptoRow : OpenClaim := { program := "ytejbcaheoloahaa", sum := "bbab0550713f1aca367db6c109115d887d9ce1027b34c7b2041f97cc1472c8fe", func := "tabulary/tabularylaw31.GuessBounds", spec := "guessBounds", inPlace := ["math.Float64bits", "math/bits.Add64", "math.Float64frombits"], unfollowed := true, recurses := true, named := ["math/bits.divideError", "math/bits.overflowError"], loops := true, apart := false, narrowed := true }
def GuessBoundsUptoSaid : Prop := guessBoundsUptoRow.holds Try.pinned (OpenSpec.upto guessBoundsSpec)

/-- 'tabularylaw31.GuessSplits', WHERE WHAT IT READS IS OF BULK AT MOST 1048576: true; the input reads as it did. -/
def guessSplitsUptoRow : OpenClaim := { program := "ytejbcaheoloahaa", sum := "bbab0550713f1aca367db6c109115d887d9ce1027b34c7b2041f97cc1472c8fe", func := "tabulary/tabularylaw31.GuessSplits", spec := "guessSplits", inPlace := ["math.Float64bits", "math/bits.Add64", "math.Float64frombits"], unfollowed := true, recurses := true, named := ["math/bits.divideError", "math/bits.overflowError"], loops := true, apart := false, narrowed := true }
def GuessSplitsUptoSaid : Prop := guessSplitsUptoRow.holds Try.pinned (OpenSpec.upto guessSplitsSpec)

/-- 'tabularylaw32.CostShapes', WHERE WHAT IT READS IS OF BULK AT MOST 1048576: true; the input reads as it did. -/
def costShapesUptoRow : OpenClaim := { program := "ytejbcaheoloahaa", sum := "bbab0550713f1aca367db6c109115d887d9ce1027b34c7b2041f97cc1472c8fe", func := "tabulary/tabularylaw32.CostShapes", spec := "costShapes", inPlace := ["math/bits.Add64", "math.Float64bits", "math.Float64frombits"], unfollowed := true, recurses := true, named := ["math/bits.divideError", "math/bits.overflowError"], loops := true, apart := false, narrowed := true }
def CostShapesUptoSaid : Prop := costShapesUptoRow.holds Try.pinned (OpenSpec.upto costShapesSpec)

end Rows
end Go.Proofs.Ytejbcaheoloahaa
