/-
  No cell of these rows narrows 'for every input' (looked for: loops, veiled, ifaces, maps, wideKeys, modest, calm, conditions, laid).
  DERIVED. THE GIVEN ROWS OF THIS SEAT. 8 by the template 'for every input the law returns true; each argument reads behind the call as it read before'; 0 by the template 'total and deterministic' (their statements: YtknmgphnkfeifaaTotals.lean).
  GIVEN WITH THE SEED: the statements are not yours to turn. If you find one false, say at which input.
  Laid BY PROGRAM, IN A SANDBOX (cutbox-rows.mjs): the forced cells as the released guide's own fill.sh prints them over the translation 16e5418179d8c3cf… (all of the seat's roots in one cut). By AI agents, Wed Nov 11 2026. No macro, syntax, notation, axiom, sorry.
-/
import Derived.Test.YtknmgphnkfeifaaChecked
import GoSem.Claim
import GoSem.ClaimJoined
import GoSem.ClaimMapViews
import Derived.JoinedTies
import Derived.KernelRfl
namespace Go.Proofs.Ytknmgphnkfeifaa
/- THE CELL 'sum', in the pinned program and in every row, IS THE sha256 OF THE DUMP (.gsa) THAT YtknmgphnkfeifaaProg.lean LOADS. Nothing in Lean hashes anything: it is a label: what it is worth is what the hold of that sum in a sandbox is worth. -/
noncomputable def Try.pinned : Pinned := { name := "ytknmgphnkfeifaa", sum := "16e5418179d8c3cf0e1f49408f822c9b75de070cbed1a00dbadfe6011c2f488f", checked := Try.checked }
namespace Rows
def none {H : Type} : Left H := { results := [], args := [] }

/-- 'tabularylaw06.SchemaAsks': WHATEVER THE INPUT: true; the input reads as it did. -/
def schemaAsksSpec : ChangeSpec := { name := "schemaAsks", fn := fun _ => fun
  | [d1, d2, d3] => { results := [.lit (.bool true)], args := [d1, d2, d3] }
  | _ => none }
def schemaAsksRow : OpenClaim := { program := "ytknmgphnkfeifaa", sum := "16e5418179d8c3cf0e1f49408f822c9b75de070cbed1a00dbadfe6011c2f488f", func := "tabulary/tabularylaw06.SchemaAsks", spec := "schemaAsks", inPlace := ["math.Float64bits"], unfollowed := true, recurses := true, apart := false }
def SchemaAsksSaid : Prop := schemaAsksRow.holds Try.pinned (OpenSpec.ofChange schemaAsksSpec)

/-- ITS FALSE NEIGHBOUR: 'it returns false'. Refute it at one input. -/
def schemaAsksWrong : ChangeSpec := { name := "schemaAsks", fn := fun _ => fun
  | [d1, d2, d3] => { results := [.lit (.bool false)], args := [d1, d2, d3] }
  | _ => none }
def SchemaAsksWrongFalsely : Prop := schemaAsksRow.holds Try.pinned (OpenSpec.ofChange schemaAsksWrong)

/-- 'tabularylaw03.CodecPuts': WHATEVER THE INPUT: true; the input reads as it did. -/
def codecPutsSpec : ChangeSpec := { name := "codecPuts", fn := fun _ => fun
  | [d1, d2, d3, d4, d5, d6] => { results := [.lit (.bool true)], args := [d1, d2, d3, d4, d5, d6] }
  | _ => none }
def codecPutsRow : OpenClaim := { program := "ytknmgphnkfeifaa", sum := "16e5418179d8c3cf0e1f49408f822c9b75de070cbed1a00dbadfe6011c2f488f", func := "tabulary/tabularylaw03.CodecPuts", spec := "codecPuts", inPlace := ["math.Float64bits"], recurses := true, apart := false }
def CodecPutsSaid : Prop := codecPutsRow.holds Try.pinned (OpenSpec.ofChange codecPutsSpec)

/-- ITS FALSE NEIGHBOUR: 'it returns false'. Refute it at one input. -/
def codecPutsWrong : ChangeSpec := { name := "codecPuts", fn := fun _ => fun
  | [d1, d2, d3, d4, d5, d6] => { results := [.lit (.bool false)], args := [d1, d2, d3, d4, d5, d6] }
  | _ => none }
def CodecPutsWrongFalsely : Prop := codecPutsRow.holds Try.pinned (OpenSpec.ofChange codecPutsWrong)

/-- 'tabularylaw03.CodecBounds': WHATEVER THE INPUT: true; the input reads as it did. -/
def codecBoundsSpec : ChangeSpec := { name := "codecBounds", fn := fun _ => fun
  | [d1, d2, d3, d4] => { results := [.lit (.bool true)], args := [d1, d2, d3, d4] }
  | _ => none }
def codecBoundsRow : OpenClaim := { program := "ytknmgphnkfeifaa", sum := "16e5418179d8c3cf0e1f49408f822c9b75de070cbed1a00dbadfe6011c2f488f", func := "tabulary/tabularylaw03.CodecBounds", spec := "codecBounds", apart := false }
def CodecBoundsSaid : Prop := codecBoundsRow.holds Try.pinned (OpenSpec.ofChange codecBoundsSpec)

/-- ITS FALSE NEIGHBOUR: 'it returns false'. Refute it at one input. -/
def codecBoundsWrong : ChangeSpec := { name := "codecBounds", fn := fun _ => fun
  | [d1, d2, d3, d4] => { results := [.lit (.bool false)], args := [d1, d2, d3, d4] }
  | _ => none }
def CodecBoundsWrongFalsely : Prop := codecBoundsRow.holds Try.pinned (OpenSpec.ofChange codecBoundsWrong)

/-- 'tabularylaw03.CodecOne': WHATEVER THE INPUT: true; the input reads as it did. -/
def codecOneSpec : ChangeSpec := { name := "codecOne", fn := fun _ => fun
  | [d] => { results := [.lit (.bool true)], args := [d] }
  | _ => none }
def codecOneRow : OpenClaim := { program := "ytknmgphnkfeifaa", sum := "16e5418179d8c3cf0e1f49408f822c9b75de070cbed1a00dbadfe6011c2f488f", func := "tabulary/tabularylaw03.CodecOne", spec := "codecOne", inPlace := ["math.Float64frombits", "math.Float64bits"], apart := false }
def CodecOneSaid : Prop := codecOneRow.holds Try.pinned (OpenSpec.ofChange codecOneSpec)

/-- ITS FALSE NEIGHBOUR: 'it returns false'. Refute it at one input. -/
def codecOneWrong : ChangeSpec := { name := "codecOne", fn := fun _ => fun
  | [d] => { results := [.lit (.bool false)], args := [d] }
  | _ => none }
def CodecOneWrongFalsely : Prop := codecOneRow.holds Try.pinned (OpenSpec.ofChange codecOneWrong)

/-- 'tabularylaw03.CodecNobody': WHATEVER THE INPUT: true; the input reads as it did. -/
def codecNobodySpec : ChangeSpec := { name := "codecNobody", fn := fun _ => fun
  | [d] => { results := [.lit (.bool true)], args := [d] }
  | _ => none }
def codecNobodyRow : OpenClaim := { program := "ytknmgphnkfeifaa", sum := "16e5418179d8c3cf0e1f49408f822c9b75de070cbed1a00dbadfe6011c2f488f", func := "tabulary/tabularylaw03.CodecNobody", spec := "codecNobody", inPlace := ["math.Float64frombits", "math.Float64bits"], apart := false }
def CodecNobodySaid : Prop := codecNobodyRow.holds Try.pinned (OpenSpec.ofChange codecNobodySpec)

/-- ITS FALSE NEIGHBOUR: 'it returns false'. Refute it at one input. -/
def codecNobodyWrong : ChangeSpec := { name := "codecNobody", fn := fun _ => fun
  | [d] => { results := [.lit (.bool false)], args := [d] }
  | _ => none }
def CodecNobodyWrongFalsely : Prop := codecNobodyRow.holds Try.pinned (OpenSpec.ofChange codecNobodyWrong)

/-- 'tabularylaw03.CodecBack': WHATEVER THE INPUT: true; the input reads as it did. -/
def codecBackSpec : ChangeSpec := { name := "codecBack", fn := fun _ => fun
  | [d1, d2, d3, d4, d5] => { results := [.lit (.bool true)], args := [d1, d2, d3, d4, d5] }
  | _ => none }
def codecBackRow : OpenClaim := { program := "ytknmgphnkfeifaa", sum := "16e5418179d8c3cf0e1f49408f822c9b75de070cbed1a00dbadfe6011c2f488f", func := "tabulary/tabularylaw03.CodecBack", spec := "codecBack", inPlace := ["math.Float64bits", "math.Float64frombits"], apart := false }
def CodecBackSaid : Prop := codecBackRow.holds Try.pinned (OpenSpec.ofChange codecBackSpec)

/-- ITS FALSE NEIGHBOUR: 'it returns false'. Refute it at one input. -/
def codecBackWrong : ChangeSpec := { name := "codecBack", fn := fun _ => fun
  | [d1, d2, d3, d4, d5] => { results := [.lit (.bool false)], args := [d1, d2, d3, d4, d5] }
  | _ => none }
def CodecBackWrongFalsely : Prop := codecBackRow.holds Try.pinned (OpenSpec.ofChange codecBackWrong)

/-- 'tabularylaw06.SchemaOne': WHATEVER THE INPUT: true; the input reads as it did. -/
def schemaOneSpec : ChangeSpec := { name := "schemaOne", fn := fun _ => fun
  | [d] => { results := [.lit (.bool true)], args := [d] }
  | _ => none }
def schemaOneRow : OpenClaim := { program := "ytknmgphnkfeifaa", sum := "16e5418179d8c3cf0e1f49408f822c9b75de070cbed1a00dbadfe6011c2f488f", func := "tabulary/tabularylaw06.SchemaOne", spec := "schemaOne", apart := false }
def SchemaOneSaid : Prop := schemaOneRow.holds Try.pinned (OpenSpec.ofChange schemaOneSpec)

/-- ITS FALSE NEIGHBOUR: 'it returns false'. Refute it at one input. -/
def schemaOneWrong : ChangeSpec := { name := "schemaOne", fn := fun _ => fun
  | [d] => { results := [.lit (.bool false)], args := [d] }
  | _ => none }
def SchemaOneWrongFalsely : Prop := schemaOneRow.holds Try.pinned (OpenSpec.ofChange schemaOneWrong)

/-- 'tabularylaw06.SchemaBack': WHATEVER THE INPUT: true; the input reads as it did. -/
def schemaBackSpec : ChangeSpec := { name := "schemaBack", fn := fun _ => fun
  | [d1, d2] => { results := [.lit (.bool true)], args := [d1, d2] }
  | _ => none }
def schemaBackRow : OpenClaim := { program := "ytknmgphnkfeifaa", sum := "16e5418179d8c3cf0e1f49408f822c9b75de070cbed1a00dbadfe6011c2f488f", func := "tabulary/tabularylaw06.SchemaBack", spec := "schemaBack", inPlace := ["math.Float64bits"], unfollowed := true, recurses := true, apart := false }
def SchemaBackSaid : Prop := schemaBackRow.holds Try.pinned (OpenSpec.ofChange schemaBackSpec)

/-- ITS FALSE NEIGHBOUR: 'it returns false'. Refute it at one input. -/
def schemaBackWrong : ChangeSpec := { name := "schemaBack", fn := fun _ => fun
  | [d1, d2] => { results := [.lit (.bool false)], args := [d1, d2] }
  | _ => none }
def SchemaBackWrongFalsely : Prop := schemaBackRow.holds Try.pinned (OpenSpec.ofChange schemaBackWrong)

/- THE SECOND FORM. 'bulk': how many values and letters a reading holds, each counted each time it is reached (what is shared counts as often as it is met; a slice's spare places count too). A statement '..UptoSaid' is the law's where the arguments, and the package variables that the reading takes, are together of bulk at most 1048576: NARROWER than '..Said'. Prove '..Said' where nothing that the law and all that it calls make is longer than what came in: it says more and counts as full. Else prove '..UptoSaid'. A law counts once. -/
mutual
def uptoBulk {H : Type} : DataW H → Nat
  | .lit (.string bytes) => bytes.length + 1
  | .lit _ => 1
  | .nil => 1
  | .ptr d => uptoBulk d + 1
  | .slice elems spare => uptoBulkAll elems + uptoBulkAll spare + 1
  | .agg parts => uptoBulkAll parts + 1
  | .iface _ d => uptoBulk d + 1
  | .map entries => uptoBulkEntries entries + 1
  | .held _ => 1
def uptoBulkAll {H : Type} : List (DataW H) → Nat
  | [] => 0
  | d :: r => uptoBulk d + uptoBulkAll r
def uptoBulkEntries {H : Type} : List (Lit × DataW H) → Nat
  | [] => 0
  | x :: r => uptoBulkEntry x + uptoBulkEntries r
def uptoBulkEntry {H : Type} : Lit × DataW H → Nat
  | (.string bytes, d) => bytes.length + uptoBulk d + 1
  | (_, d) => uptoBulk d + 1
 end
def uptoSmall : (H : Type) → List (DataW H) → Bool := fun _ ds => decide (uptoBulkAll ds ≤ 1048576)
def OpenSpec.upto (s : _root_.Go.ChangeSpec) : _root_.Go.OpenSpec := { _root_.Go.OpenSpec.ofChange s with cond := some uptoSmall }

/-- 'tabularylaw06.SchemaAsks', WHERE WHAT IT READS IS OF BULK AT MOST 1048576: true; the input reads as it did. -/
def schemaAsksUptoRow : OpenClaim := { program := "ytknmgphnkfeifaa", sum := "16e5418179d8c3cf0e1f49408f822c9b75de070cbed1a00dbadfe6011c2f488f", func := "tabulary/tabularylaw06.SchemaAsks", spec := "schemaAsks", inPlace := ["math.Float64bits"], unfollowed := true, recurses := true, apart := false, narrowed := true }
def SchemaAsksUptoSaid : Prop := schemaAsksUptoRow.holds Try.pinned (OpenSpec.upto schemaAsksSpec)

/-- 'tabularylaw03.CodecPuts', WHERE WHAT IT READS IS OF BULK AT MOST 1048576: true; the input reads as it did. -/
def codecPutsUptoRow : OpenClaim := { program := "ytknmgphnkfeifaa", sum := "16e5418179d8c3cf0e1f49408f822c9b75de070cbed1a00dbadfe6011c2f488f", func := "tabulary/tabularylaw03.CodecPuts", spec := "codecPuts", inPlace := ["math.Float64bits"], recurses := true, apart := false, narrowed := true }
def CodecPutsUptoSaid : Prop := codecPutsUptoRow.holds Try.pinned (OpenSpec.upto codecPutsSpec)

/-- 'tabularylaw03.CodecBounds', WHERE WHAT IT READS IS OF BULK AT MOST 1048576: true; the input reads as it did. -/
def codecBoundsUptoRow : OpenClaim := { program := "ytknmgphnkfeifaa", sum := "16e5418179d8c3cf0e1f49408f822c9b75de070cbed1a00dbadfe6011c2f488f", func := "tabulary/tabularylaw03.CodecBounds", spec := "codecBounds", apart := false, narrowed := true }
def CodecBoundsUptoSaid : Prop := codecBoundsUptoRow.holds Try.pinned (OpenSpec.upto codecBoundsSpec)

/-- 'tabularylaw03.CodecOne', WHERE WHAT IT READS IS OF BULK AT MOST 1048576: true; the input reads as it did. -/
def codecOneUptoRow : OpenClaim := { program := "ytknmgphnkfeifaa", sum := "16e5418179d8c3cf0e1f49408f822c9b75de070cbed1a00dbadfe6011c2f488f", func := "tabulary/tabularylaw03.CodecOne", spec := "codecOne", inPlace := ["math.Float64frombits", "math.Float64bits"], apart := false, narrowed := true }
def CodecOneUptoSaid : Prop := codecOneUptoRow.holds Try.pinned (OpenSpec.upto codecOneSpec)

/-- 'tabularylaw03.CodecNobody', WHERE WHAT IT READS IS OF BULK AT MOST 1048576: true; the input reads as it did. -/
def codecNobodyUptoRow : OpenClaim := { program := "ytknmgphnkfeifaa", sum := "16e5418179d8c3cf0e1f49408f822c9b75de070cbed1a00dbadfe6011c2f488f", func := "tabulary/tabularylaw03.CodecNobody", spec := "codecNobody", inPlace := ["math.Float64frombits", "math.Float64bits"], apart := false, narrowed := true }
def CodecNobodyUptoSaid : Prop := codecNobodyUptoRow.holds Try.pinned (OpenSpec.upto codecNobodySpec)

/-- 'tabularylaw03.CodecBack', WHERE WHAT IT READS IS OF BULK AT MOST 1048576: true; the input reads as it did. -/
def codecBackUptoRow : OpenClaim := { program := "ytknmgphnkfeifaa", sum := "16e5418179d8c3cf0e1f49408f822c9b75de070cbed1a00dbadfe6011c2f488f", func := "tabulary/tabularylaw03.CodecBack", spec := "codecBack", inPlace := ["math.Float64bits", "math.Float64frombits"], apart := false, narrowed := true }
def CodecBackUptoSaid : Prop := codecBackUptoRow.holds Try.pinned (OpenSpec.upto codecBackSpec)

/-- 'tabularylaw06.SchemaOne', WHERE WHAT IT READS IS OF BULK AT MOST 1048576: true; the input reads as it did. -/
def schemaOneUptoRow : OpenClaim := { program := "ytknmgphnkfeifaa", sum := "16e5418179d8c3cf0e1f49408f822c9b75de070cbed1a00dbadfe6011c2f488f", func := "tabulary/tabularylaw06.SchemaOne", spec := "schemaOne", apart := false, narrowed := true }
def SchemaOneUptoSaid : Prop := schemaOneUptoRow.holds Try.pinned (OpenSpec.upto schemaOneSpec)

/-- 'tabularylaw06.SchemaBack', WHERE WHAT IT READS IS OF BULK AT MOST 1048576: true; the input reads as it did. -/
def schemaBackUptoRow : OpenClaim := { program := "ytknmgphnkfeifaa", sum := "16e5418179d8c3cf0e1f49408f822c9b75de070cbed1a00dbadfe6011c2f488f", func := "tabulary/tabularylaw06.SchemaBack", spec := "schemaBack", inPlace := ["math.Float64bits"], unfollowed := true, recurses := true, apart := false, narrowed := true }
def SchemaBackUptoSaid : Prop := schemaBackUptoRow.holds Try.pinned (OpenSpec.upto schemaBackSpec)

end Rows
end Go.Proofs.Ytknmgphnkfeifaa
