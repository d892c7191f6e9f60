/-
  No cell of these rows narrows 'for every input' (looked for: loops, veiled, ifaces, maps, wideKeys, modest, calm, conditions, laid).
  DERIVED. THE GIVEN ROWS OF THIS SEAT. 6 by the template 'for every input the law returns true; each argument reads behind the call as it read before'; 0 by the template 'total and deterministic' (their statements: YtmdjdpnmbgdngaaTotals.lean).
  GIVEN WITH THE SEED: the statements are not yours to turn. If you find one false, say at which input.
  Laid BY PROGRAM, IN A SANDBOX (cutbox-rows.mjs): the forced cells as the released guide's own fill.sh prints them over the translation 90cd3087005cff00… (all of the seat's roots in one cut). By AI agents, Wed Nov 11 2026. No macro, syntax, notation, axiom, sorry.
-/
import Derived.Test.YtmdjdpnmbgdngaaChecked
import GoSem.Claim
import GoSem.ClaimJoined
import GoSem.ClaimMapViews
import Derived.JoinedTies
import Derived.KernelRfl
namespace Go.Proofs.Ytmdjdpnmbgdngaa
/- THE CELL 'sum', in the pinned program and in every row, IS THE sha256 OF THE DUMP (.gsa) THAT YtmdjdpnmbgdngaaProg.lean LOADS. Nothing in Lean hashes anything: it is a label: what it is worth is what the hold of that sum in a sandbox is worth. -/
noncomputable def Try.pinned : Pinned := { name := "ytmdjdpnmbgdngaa", sum := "90cd3087005cff00ff39ae0d783e29733ea3c7d15dabce947deb54340bd8d974", checked := Try.checked }
namespace Rows
def none {H : Type} : Left H := { results := [], args := [] }

/-- 'tabularylaw05.RowOrders': WHATEVER THE INPUT: true; the input reads as it did. -/
def rowOrdersSpec : ChangeSpec := { name := "rowOrders", fn := fun _ => fun
  | [d1, d2, d3] => { results := [.lit (.bool true)], args := [d1, d2, d3] }
  | _ => none }
def rowOrdersRow : OpenClaim := { program := "ytmdjdpnmbgdngaa", sum := "90cd3087005cff00ff39ae0d783e29733ea3c7d15dabce947deb54340bd8d974", func := "tabulary/tabularylaw05.RowOrders", spec := "rowOrders", inPlace := ["math.Float64bits", "math.Float64frombits"], unfollowed := true, recurses := true, apart := false }
def RowOrdersSaid : Prop := rowOrdersRow.holds Try.pinned (OpenSpec.ofChange rowOrdersSpec)

/-- ITS FALSE NEIGHBOUR: 'it returns false'. Refute it at one input. -/
def rowOrdersWrong : ChangeSpec := { name := "rowOrders", fn := fun _ => fun
  | [d1, d2, d3] => { results := [.lit (.bool false)], args := [d1, d2, d3] }
  | _ => none }
def RowOrdersWrongFalsely : Prop := rowOrdersRow.holds Try.pinned (OpenSpec.ofChange rowOrdersWrong)

/-- 'tabularylaw05.RowBags': WHATEVER THE INPUT: true; the input reads as it did. -/
def rowBagsSpec : ChangeSpec := { name := "rowBags", fn := fun _ => fun
  | [d1, d2] => { results := [.lit (.bool true)], args := [d1, d2] }
  | _ => none }
def rowBagsRow : OpenClaim := { program := "ytmdjdpnmbgdngaa", sum := "90cd3087005cff00ff39ae0d783e29733ea3c7d15dabce947deb54340bd8d974", func := "tabulary/tabularylaw05.RowBags", spec := "rowBags", inPlace := ["math.Float64bits", "math.Float64frombits"], unfollowed := true, recurses := true, apart := false }
def RowBagsSaid : Prop := rowBagsRow.holds Try.pinned (OpenSpec.ofChange rowBagsSpec)

/-- ITS FALSE NEIGHBOUR: 'it returns false'. Refute it at one input. -/
def rowBagsWrong : ChangeSpec := { name := "rowBags", fn := fun _ => fun
  | [d1, d2] => { results := [.lit (.bool false)], args := [d1, d2] }
  | _ => none }
def RowBagsWrongFalsely : Prop := rowBagsRow.holds Try.pinned (OpenSpec.ofChange rowBagsWrong)

/-- 'tabularylaw05.RowSame': WHATEVER THE INPUT: true; the input reads as it did. -/
def rowSameSpec : ChangeSpec := { name := "rowSame", fn := fun _ => fun
  | [d1, d2, d3] => { results := [.lit (.bool true)], args := [d1, d2, d3] }
  | _ => none }
def rowSameRow : OpenClaim := { program := "ytmdjdpnmbgdngaa", sum := "90cd3087005cff00ff39ae0d783e29733ea3c7d15dabce947deb54340bd8d974", func := "tabulary/tabularylaw05.RowSame", spec := "rowSame", inPlace := ["math.Float64bits", "math.Float64frombits"], unfollowed := true, recurses := true, apart := false }
def RowSameSaid : Prop := rowSameRow.holds Try.pinned (OpenSpec.ofChange rowSameSpec)

/-- ITS FALSE NEIGHBOUR: 'it returns false'. Refute it at one input. -/
def rowSameWrong : ChangeSpec := { name := "rowSame", fn := fun _ => fun
  | [d1, d2, d3] => { results := [.lit (.bool false)], args := [d1, d2, d3] }
  | _ => none }
def RowSameWrongFalsely : Prop := rowSameRow.holds Try.pinned (OpenSpec.ofChange rowSameWrong)

/-- 'tabularylaw05.RowSorts': WHATEVER THE INPUT: true; the input reads as it did. -/
def rowSortsSpec : ChangeSpec := { name := "rowSorts", fn := fun _ => fun
  | [d1, d2] => { results := [.lit (.bool true)], args := [d1, d2] }
  | _ => none }
def rowSortsRow : OpenClaim := { program := "ytmdjdpnmbgdngaa", sum := "90cd3087005cff00ff39ae0d783e29733ea3c7d15dabce947deb54340bd8d974", func := "tabulary/tabularylaw05.RowSorts", spec := "rowSorts", inPlace := ["math.Float64bits", "math.Float64frombits"], unfollowed := true, recurses := true, apart := false }
def RowSortsSaid : Prop := rowSortsRow.holds Try.pinned (OpenSpec.ofChange rowSortsSpec)

/-- ITS FALSE NEIGHBOUR: 'it returns false'. Refute it at one input. -/
def rowSortsWrong : ChangeSpec := { name := "rowSorts", fn := fun _ => fun
  | [d1, d2] => { results := [.lit (.bool false)], args := [d1, d2] }
  | _ => none }
def RowSortsWrongFalsely : Prop := rowSortsRow.holds Try.pinned (OpenSpec.ofChange rowSortsWrong)

/-- 'tabularylaw05.RowSorted': WHATEVER THE INPUT: true; the input reads as it did. -/
def rowSortedSpec : ChangeSpec := { name := "rowSorted", fn := fun _ => fun
  | [d1, d2] => { results := [.lit (.bool true)], args := [d1, d2] }
  | _ => none }
def rowSortedRow : OpenClaim := { program := "ytmdjdpnmbgdngaa", sum := "90cd3087005cff00ff39ae0d783e29733ea3c7d15dabce947deb54340bd8d974", func := "tabulary/tabularylaw05.RowSorted", spec := "rowSorted", inPlace := ["math.Float64bits", "math.Float64frombits"], unfollowed := true, recurses := true, apart := false }
def RowSortedSaid : Prop := rowSortedRow.holds Try.pinned (OpenSpec.ofChange rowSortedSpec)

/-- ITS FALSE NEIGHBOUR: 'it returns false'. Refute it at one input. -/
def rowSortedWrong : ChangeSpec := { name := "rowSorted", fn := fun _ => fun
  | [d1, d2] => { results := [.lit (.bool false)], args := [d1, d2] }
  | _ => none }
def RowSortedWrongFalsely : Prop := rowSortedRow.holds Try.pinned (OpenSpec.ofChange rowSortedWrong)

/-- 'tabularylaw05.RowBack': WHATEVER THE INPUT: true; the input reads as it did. -/
def rowBackSpec : ChangeSpec := { name := "rowBack", fn := fun _ => fun
  | [d1, d2] => { results := [.lit (.bool true)], args := [d1, d2] }
  | _ => none }
def rowBackRow : OpenClaim := { program := "ytmdjdpnmbgdngaa", sum := "90cd3087005cff00ff39ae0d783e29733ea3c7d15dabce947deb54340bd8d974", func := "tabulary/tabularylaw05.RowBack", spec := "rowBack", inPlace := ["math.Float64bits", "math.Float64frombits"], unfollowed := true, recurses := true, apart := false }
def RowBackSaid : Prop := rowBackRow.holds Try.pinned (OpenSpec.ofChange rowBackSpec)

/-- ITS FALSE NEIGHBOUR: 'it returns false'. Refute it at one input. -/
def rowBackWrong : ChangeSpec := { name := "rowBack", fn := fun _ => fun
  | [d1, d2] => { results := [.lit (.bool false)], args := [d1, d2] }
  | _ => none }
def RowBackWrongFalsely : Prop := rowBackRow.holds Try.pinned (OpenSpec.ofChange rowBackWrong)

/- THE SECOND FORM. 'bulk': how many values and letters a reading holds, each counted each time it is reached (what is shared counts as often as it is met; a slice's spare places count too). A statement '..UptoSaid' is the law's where the arguments, and the package variables that the reading takes, are together of bulk at most 1048576: NARROWER than '..Said'. Prove '..Said' where nothing that the law and all that it calls make is longer than what came in: it says more and counts as full. Else prove '..UptoSaid'. A law counts once. -/
mutual
def uptoBulk {H : Type} : DataW H → Nat
  | .lit (.string bytes) => bytes.length + 1
  | .lit _ => 1
  | .nil => 1
  | .ptr d => uptoBulk d + 1
  | .slice elems spare => uptoBulkAll elems + uptoBulkAll spare + 1
  | .agg parts => uptoBulkAll parts + 1
  | .iface _ d => uptoBulk d + 1
  | .map entries => uptoBulkEntries entries + 1
  | .held _ => 1
def uptoBulkAll {H : Type} : List (DataW H) → Nat
  | [] => 0
  | d :: r => uptoBulk d + uptoBulkAll r
def uptoBulkEntries {H : Type} : List (Lit × DataW H) → Nat
  | [] => 0
  | x :: r => uptoBulkEntry x + uptoBulkEntries r
def uptoBulkEntry {H : Type} : Lit × DataW H → Nat
  | (.string bytes, d) => bytes.length + uptoBulk d + 1
  | (_, d) => uptoBulk d + 1
 end
def uptoSmall : (H : Type) → List (DataW H) → Bool := fun _ ds => decide (uptoBulkAll ds ≤ 1048576)
def OpenSpec.upto (s : _root_.Go.ChangeSpec) : _root_.Go.OpenSpec := { _root_.Go.OpenSpec.ofChange s with cond := some uptoSmall }

/-- 'tabularylaw05.RowOrders', WHERE WHAT IT READS IS OF BULK AT MOST 1048576: true; the input reads as it did. -/
def rowOrdersUptoRow : OpenClaim := { program := "ytmdjdpnmbgdngaa", sum := "90cd3087005cff00ff39ae0d783e29733ea3c7d15dabce947deb54340bd8d974", func := "tabulary/tabularylaw05.RowOrders", spec := "rowOrders", inPlace := ["math.Float64bits", "math.Float64frombits"], unfollowed := true, recurses := true, apart := false, narrowed := true }
def RowOrdersUptoSaid : Prop := rowOrdersUptoRow.holds Try.pinned (OpenSpec.upto rowOrdersSpec)

/-- 'tabularylaw05.RowBags', WHERE WHAT IT READS IS OF BULK AT MOST 1048576: true; the input reads as it did. -/
def rowBagsUptoRow : OpenClaim := { program := "ytmdjdpnmbgdngaa", sum := "90cd3087005cff00ff39ae0d783e29733ea3c7d15dabce947deb54340bd8d974", func := "tabulary/tabularylaw05.RowBags", spec := "rowBags", inPlace := ["math.Float64bits", "math.Float64frombits"], unfollowed := true, recurses := true, apart := false, narrowed := true }
def RowBagsUptoSaid : Prop := rowBagsUptoRow.holds Try.pinned (OpenSpec.upto rowBagsSpec)

/-- 'tabularylaw05.RowSame', WHERE WHAT IT READS IS OF BULK AT MOST 1048576: true; the input reads as it did. -/
def rowSameUptoRow : OpenClaim := { program := "ytmdjdpnmbgdngaa", sum := "90cd3087005cff00ff39ae0d783e29733ea3c7d15dabce947deb54340bd8d974", func := "tabulary/tabularylaw05.RowSame", spec := "rowSame", inPlace := ["math.Float64bits", "math.Float64frombits"], unfollowed := true, recurses := true, apart := false, narrowed := true }
def RowSameUptoSaid : Prop := rowSameUptoRow.holds Try.pinned (OpenSpec.upto rowSameSpec)

/-- 'tabularylaw05.RowSorts', WHERE WHAT IT READS IS OF BULK AT MOST 1048576: true; the input reads as it did. -/
def rowSortsUptoRow : OpenClaim := { program := "ytmdjdpnmbgdngaa", sum := "90cd3087005cff00ff39ae0d783e29733ea3c7d15dabce947deb54340bd8d974", func := "tabulary/tabularylaw05.RowSorts", spec := "rowSorts", inPlace := ["math.Float64bits", "math.Float64frombits"], unfollowed := true, recurses := true, apart := false, narrowed := true }
def RowSortsUptoSaid : Prop := rowSortsUptoRow.holds Try.pinned (OpenSpec.upto rowSortsSpec)

/-- 'tabularylaw05.RowSorted', WHERE WHAT IT READS IS OF BULK AT MOST 1048576: true; the input reads as it did. -/
def rowSortedUptoRow : OpenClaim := { program := "ytmdjdpnmbgdngaa", sum := "90cd3087005cff00ff39ae0d783e29733ea3c7d15dabce947deb54340bd8d974", func := "tabulary/tabularylaw05.RowSorted", spec := "rowSorted", inPlace := ["math.Float64bits", "math.Float64frombits"], unfollowed := true, recurses := true, apart := false, narrowed := true }
def RowSortedUptoSaid : Prop := rowSortedUptoRow.holds Try.pinned (OpenSpec.upto rowSortedSpec)

/-- 'tabularylaw05.RowBack', WHERE WHAT IT READS IS OF BULK AT MOST 1048576: true; the input reads as it did. -/
def rowBackUptoRow : OpenClaim := { program := "ytmdjdpnmbgdngaa", sum := "90cd3087005cff00ff39ae0d783e29733ea3c7d15dabce947deb54340bd8d974", func := "tabulary/tabularylaw05.RowBack", spec := "rowBack", inPlace := ["math.Float64bits", "math.Float64frombits"], unfollowed := true, recurses := true, apart := false, narrowed := true }
def RowBackUptoSaid : Prop := rowBackUptoRow.holds Try.pinned (OpenSpec.upto rowBackSpec)

end Rows
end Go.Proofs.Ytmdjdpnmbgdngaa
