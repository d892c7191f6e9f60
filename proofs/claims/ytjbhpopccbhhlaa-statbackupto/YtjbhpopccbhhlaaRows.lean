/-
  No cell of these rows narrows 'for every input' (looked for: loops, veiled, ifaces, maps, wideKeys, modest, calm, conditions, laid).
  DERIVED. THE GIVEN ROWS OF THIS SEAT. 7 by the template 'for every input the law returns true; each argument reads behind the call as it read before'; 0 by the template 'total and deterministic' (their statements: YtjbhpopccbhhlaaTotals.lean).
  GIVEN WITH THE SEED: the statements are not yours to turn. If you find one false, say at which input.
  Laid BY PROGRAM, IN A SANDBOX (cutbox-rows.mjs): the forced cells as the released guide's own fill.sh prints them over the translation b6c9e0794ed82e67… (all of the seat's roots in one cut). By AI agents, Wed Nov 11 2026. No macro, syntax, notation, axiom, sorry.
-/
import Derived.Test.YtjbhpopccbhhlaaChecked
import GoSem.Claim
import GoSem.ClaimJoined
import GoSem.ClaimMapViews
import Derived.JoinedTies
import Derived.KernelRfl
namespace Go.Proofs.Ytjbhpopccbhhlaa
/- THE CELL 'sum', in the pinned program and in every row, IS THE sha256 OF THE DUMP (.gsa) THAT YtjbhpopccbhhlaaProg.lean LOADS. Nothing in Lean hashes anything: it is a label: what it is worth is what the hold of that sum in a sandbox is worth. -/
noncomputable def Try.pinned : Pinned := { name := "ytjbhpopccbhhlaa", sum := "b6c9e0794ed82e671559212aa103e2d9cc612101826fff25aad9344576de9e07", checked := Try.checked }
namespace Rows
def none {H : Type} : Left H := { results := [], args := [] }

/-- 'tabularylaw20.StatAsks': WHATEVER THE INPUT: true; the input reads as it did. -/
def statAsksSpec : ChangeSpec := { name := "statAsks", fn := fun _ => fun
  | [d1, d2, d3, d4] => { results := [.lit (.bool true)], args := [d1, d2, d3, d4] }
  | _ => none }
def statAsksRow : OpenClaim := { program := "ytjbhpopccbhhlaa", sum := "b6c9e0794ed82e671559212aa103e2d9cc612101826fff25aad9344576de9e07", func := "tabulary/tabularylaw20.StatAsks", spec := "statAsks", inPlace := ["math.Float64bits", "math.Float64frombits"], unfollowed := true, recurses := true, apart := false }
def StatAsksSaid : Prop := statAsksRow.holds Try.pinned (OpenSpec.ofChange statAsksSpec)

/-- ITS FALSE NEIGHBOUR: 'it returns false'. Refute it at one input. -/
def statAsksWrong : ChangeSpec := { name := "statAsks", fn := fun _ => fun
  | [d1, d2, d3, d4] => { results := [.lit (.bool false)], args := [d1, d2, d3, d4] }
  | _ => none }
def StatAsksWrongFalsely : Prop := statAsksRow.holds Try.pinned (OpenSpec.ofChange statAsksWrong)

/-- 'tabularylaw20.StatBack': WHATEVER THE INPUT: true; the input reads as it did. -/
def statBackSpec : ChangeSpec := { name := "statBack", fn := fun _ => fun
  | [d1, d2] => { results := [.lit (.bool true)], args := [d1, d2] }
  | _ => none }
def statBackRow : OpenClaim := { program := "ytjbhpopccbhhlaa", sum := "b6c9e0794ed82e671559212aa103e2d9cc612101826fff25aad9344576de9e07", func := "tabulary/tabularylaw20.StatBack", spec := "statBack", inPlace := ["math.Float64bits", "math.Float64frombits"], unfollowed := true, recurses := true, apart := false }
def StatBackSaid : Prop := statBackRow.holds Try.pinned (OpenSpec.ofChange statBackSpec)

/-- ITS FALSE NEIGHBOUR: 'it returns false'. Refute it at one input. -/
def statBackWrong : ChangeSpec := { name := "statBack", fn := fun _ => fun
  | [d1, d2] => { results := [.lit (.bool false)], args := [d1, d2] }
  | _ => none }
def StatBackWrongFalsely : Prop := statBackRow.holds Try.pinned (OpenSpec.ofChange statBackWrong)

/-- 'tabularylaw19.HistBuilds': WHATEVER THE INPUT: true; the input reads as it did. -/
def histBuildsSpec : ChangeSpec := { name := "histBuilds", fn := fun _ => fun
  | [d1, d2] => { results := [.lit (.bool true)], args := [d1, d2] }
  | _ => none }
def histBuildsRow : OpenClaim := { program := "ytjbhpopccbhhlaa", sum := "b6c9e0794ed82e671559212aa103e2d9cc612101826fff25aad9344576de9e07", func := "tabulary/tabularylaw19.HistBuilds", spec := "histBuilds", inPlace := ["math.Float64bits", "math.Float64frombits"], unfollowed := true, recurses := true, named := ["math/bits.divideError", "math/bits.overflowError"], apart := false }
def HistBuildsSaid : Prop := histBuildsRow.holds Try.pinned (OpenSpec.ofChange histBuildsSpec)

/-- ITS FALSE NEIGHBOUR: 'it returns false'. Refute it at one input. -/
def histBuildsWrong : ChangeSpec := { name := "histBuilds", fn := fun _ => fun
  | [d1, d2] => { results := [.lit (.bool false)], args := [d1, d2] }
  | _ => none }
def HistBuildsWrongFalsely : Prop := histBuildsRow.holds Try.pinned (OpenSpec.ofChange histBuildsWrong)

/-- 'tabularylaw19.HistTells': WHATEVER THE INPUT: true; the input reads as it did. -/
def histTellsSpec : ChangeSpec := { name := "histTells", fn := fun _ => fun
  | [d1, d2, d3] => { results := [.lit (.bool true)], args := [d1, d2, d3] }
  | _ => none }
def histTellsRow : OpenClaim := { program := "ytjbhpopccbhhlaa", sum := "b6c9e0794ed82e671559212aa103e2d9cc612101826fff25aad9344576de9e07", func := "tabulary/tabularylaw19.HistTells", spec := "histTells", inPlace := ["math.Float64bits", "math.Float64frombits"], unfollowed := true, recurses := true, named := ["math/bits.divideError", "math/bits.overflowError"], apart := false }
def HistTellsSaid : Prop := histTellsRow.holds Try.pinned (OpenSpec.ofChange histTellsSpec)

/-- ITS FALSE NEIGHBOUR: 'it returns false'. Refute it at one input. -/
def histTellsWrong : ChangeSpec := { name := "histTells", fn := fun _ => fun
  | [d1, d2, d3] => { results := [.lit (.bool false)], args := [d1, d2, d3] }
  | _ => none }
def HistTellsWrongFalsely : Prop := histTellsRow.holds Try.pinned (OpenSpec.ofChange histTellsWrong)

/-- 'tabularylaw19.HistBounds': WHATEVER THE INPUT: true; the input reads as it did. -/
def histBoundsSpec : ChangeSpec := { name := "histBounds", fn := fun _ => fun
  | [d1, d2] => { results := [.lit (.bool true)], args := [d1, d2] }
  | _ => none }
def histBoundsRow : OpenClaim := { program := "ytjbhpopccbhhlaa", sum := "b6c9e0794ed82e671559212aa103e2d9cc612101826fff25aad9344576de9e07", func := "tabulary/tabularylaw19.HistBounds", spec := "histBounds", inPlace := ["math.Float64bits", "math.Float64frombits"], unfollowed := true, recurses := true, named := ["math/bits.divideError", "math/bits.overflowError"], apart := false }
def HistBoundsSaid : Prop := histBoundsRow.holds Try.pinned (OpenSpec.ofChange histBoundsSpec)

/-- ITS FALSE NEIGHBOUR: 'it returns false'. Refute it at one input. -/
def histBoundsWrong : ChangeSpec := { name := "histBounds", fn := fun _ => fun
  | [d1, d2] => { results := [.lit (.bool false)], args := [d1, d2] }
  | _ => none }
def HistBoundsWrongFalsely : Prop := histBoundsRow.holds Try.pinned (OpenSpec.ofChange histBoundsWrong)

/-- 'tabularylaw19.HistRises': WHATEVER THE INPUT: true; the input reads as it did. -/
def histRisesSpec : ChangeSpec := { name := "histRises", fn := fun _ => fun
  | [d1, d2, d3] => { results := [.lit (.bool true)], args := [d1, d2, d3] }
  | _ => none }
def histRisesRow : OpenClaim := { program := "ytjbhpopccbhhlaa", sum := "b6c9e0794ed82e671559212aa103e2d9cc612101826fff25aad9344576de9e07", func := "tabulary/tabularylaw19.HistRises", spec := "histRises", inPlace := ["math.Float64bits", "math.Float64frombits"], unfollowed := true, recurses := true, named := ["math/bits.divideError", "math/bits.overflowError"], apart := false }
def HistRisesSaid : Prop := histRisesRow.holds Try.pinned (OpenSpec.ofChange histRisesSpec)

/-- ITS FALSE NEIGHBOUR: 'it returns false'. Refute it at one input. -/
def histRisesWrong : ChangeSpec := { name := "histRises", fn := fun _ => fun
  | [d1, d2, d3] => { results := [.lit (.bool false)], args := [d1, d2, d3] }
  | _ => none }
def HistRisesWrongFalsely : Prop := histRisesRow.holds Try.pinned (OpenSpec.ofChange histRisesWrong)

/-- 'tabularylaw19.HistBack': WHATEVER THE INPUT: true; the input reads as it did. -/
def histBackSpec : ChangeSpec := { name := "histBack", fn := fun _ => fun
  | [d1, d2] => { results := [.lit (.bool true)], args := [d1, d2] }
  | _ => none }
def histBackRow : OpenClaim := { program := "ytjbhpopccbhhlaa", sum := "b6c9e0794ed82e671559212aa103e2d9cc612101826fff25aad9344576de9e07", func := "tabulary/tabularylaw19.HistBack", spec := "histBack", inPlace := ["math.Float64bits", "math.Float64frombits"], unfollowed := true, recurses := true, named := ["math/bits.divideError", "math/bits.overflowError"], apart := false }
def HistBackSaid : Prop := histBackRow.holds Try.pinned (OpenSpec.ofChange histBackSpec)

/-- ITS FALSE NEIGHBOUR: 'it returns false'. Refute it at one input. -/
def histBackWrong : ChangeSpec := { name := "histBack", fn := fun _ => fun
  | [d1, d2] => { results := [.lit (.bool false)], args := [d1, d2] }
  | _ => none }
def HistBackWrongFalsely : Prop := histBackRow.holds Try.pinned (OpenSpec.ofChange histBackWrong)

/- THE SECOND FORM. 'bulk': how many values and letters a reading holds, each counted each time it is reached (what is shared counts as often as it is met; a slice's spare places count too). A statement '..UptoSaid' is the law's where the arguments, and the package variables that the reading takes, are together of bulk at most 1048576: NARROWER than '..Said'. Prove '..Said' where nothing that the law and all that it calls make is longer than what came in: it says more and counts as full. Else prove '..UptoSaid'. A law counts once. -/
mutual
def uptoBulk {H : Type} : DataW H → Nat
  | .lit (.string bytes) => bytes.length + 1
  | .lit _ => 1
  | .nil => 1
  | .ptr d => uptoBulk d + 1
  | .slice elems spare => uptoBulkAll elems + uptoBulkAll spare + 1
  | .agg parts => uptoBulkAll parts + 1
  | .iface _ d => uptoBulk d + 1
  | .map entries => uptoBulkEntries entries + 1
  | .held _ => 1
def uptoBulkAll {H : Type} : List (DataW H) → Nat
  | [] => 0
  | d :: r => uptoBulk d + uptoBulkAll r
def uptoBulkEntries {H : Type} : List (Lit × DataW H) → Nat
  | [] => 0
  | x :: r => uptoBulkEntry x + uptoBulkEntries r
def uptoBulkEntry {H : Type} : Lit × DataW H → Nat
  | (.string bytes, d) => bytes.length + uptoBulk d + 1
  | (_, d) => uptoBulk d + 1
 end
def uptoSmall : (H : Type) → List (DataW H) → Bool := fun _ ds => decide (uptoBulkAll ds ≤ 1048576)
def OpenSpec.upto (s : _root_.Go.ChangeSpec) : _root_.Go.OpenSpec := { _root_.Go.OpenSpec.ofChange s with cond := some uptoSmall }

/-- 'tabularylaw20.StatAsks', WHERE WHAT IT READS IS OF BULK AT MOST 1048576: true; the input reads as it did. -/
def statAsksUptoRow : OpenClaim := { program := "ytjbhpopccbhhlaa", sum := "b6c9e0794ed82e671559212aa103e2d9cc612101826fff25aad9344576de9e07", func := "tabulary/tabularylaw20.StatAsks", spec := "statAsks", inPlace := ["math.Float64bits", "math.Float64frombits"], unfollowed := true, recurses := true, apart := false, narrowed := true }
def StatAsksUptoSaid : Prop := statAsksUptoRow.holds Try.pinned (OpenSpec.upto statAsksSpec)

/-- 'tabularylaw20.StatBack', WHERE WHAT IT READS IS OF BULK AT MOST 1048576: true; the input reads as it did. -/
def statBackUptoRow : OpenClaim := { program := "ytjbhpopccbhhlaa", sum := "b6c9e0794ed82e671559212aa103e2d9cc612101826fff25aad9344576de9e07", func := "tabulary/tabularylaw20.StatBack", spec := "statBack", inPlace := ["math.Float64bits", "math.Float64frombits"], unfollowed := true, recurses := true, apart := false, narrowed := true }
def StatBackUptoSaid : Prop := statBackUptoRow.holds Try.pinned (OpenSpec.upto statBackSpec)

/-- 'tabularylaw19.HistBuilds', WHERE WHAT IT READS IS OF BULK AT MOST 1048576: true; the input reads as it did. -/
def histBuildsUptoRow : OpenClaim := { program := "ytjbhpopccbhhlaa", sum := "b6c9e0794ed82e671559212aa103e2d9cc612101826fff25aad9344576de9e07", func := "tabulary/tabularylaw19.HistBuilds", spec := "histBuilds", inPlace := ["math.Float64bits", "math.Float64frombits"], unfollowed := true, recurses := true, named := ["math/bits.divideError", "math/bits.overflowError"], apart := false, narrowed := true }
def HistBuildsUptoSaid : Prop := histBuildsUptoRow.holds Try.pinned (OpenSpec.upto histBuildsSpec)

/-- 'tabularylaw19.HistTells', WHERE WHAT IT READS IS OF BULK AT MOST 1048576: true; the input reads as it did. -/
def histTellsUptoRow : OpenClaim := { program := "ytjbhpopccbhhlaa", sum := "b6c9e0794ed82e671559212aa103e2d9cc612101826fff25aad9344576de9e07", func := "tabulary/tabularylaw19.HistTells", spec := "histTells", inPlace := ["math.Float64bits", "math.Float64frombits"], unfollowed := true, recurses := true, named := ["math/bits.divideError", "math/bits.overflowError"], apart := false, narrowed := true }
def HistTellsUptoSaid : Prop := histTellsUptoRow.holds Try.pinned (OpenSpec.upto histTellsSpec)

/-- 'tabularylaw19.HistBounds', WHERE WHAT IT READS IS OF BULK AT MOST 1048576: true; the input reads as it did. -/
def histBoundsUptoRow : OpenClaim := { program := "ytjbhpopccbhhlaa", sum := "b6c9e0794ed82e671559212aa103e2d9cc612101826fff25aad9344576de9e07", func := "tabulary/tabularylaw19.HistBounds", spec := "histBounds", inPlace := ["math.Float64bits", "math.Float64frombits"], unfollowed := true, recurses := true, named := ["math/bits.divideError", "math/bits.overflowError"], apart := false, narrowed := true }
def HistBoundsUptoSaid : Prop := histBoundsUptoRow.holds Try.pinned (OpenSpec.upto histBoundsSpec)

/-- 'tabularylaw19.HistRises', WHERE WHAT IT READS IS OF BULK AT MOST 1048576: true; the input reads as it did. -/
def histRisesUptoRow : OpenClaim := { program := "ytjbhpopccbhhlaa", sum := "b6c9e0794ed82e671559212aa103e2d9cc612101826fff25aad9344576de9e07", func := "tabulary/tabularylaw19.HistRises", spec := "histRises", inPlace := ["math.Float64bits", "math.Float64frombits"], unfollowed := true, recurses := true, named := ["math/bits.divideError", "math/bits.overflowError"], apart := false, narrowed := true }
def HistRisesUptoSaid : Prop := histRisesUptoRow.holds Try.pinned (OpenSpec.upto histRisesSpec)

/-- 'tabularylaw19.HistBack', WHERE WHAT IT READS IS OF BULK AT MOST 1048576: true; the input reads as it did. -/
def histBackUptoRow : OpenClaim := { program := "ytjbhpopccbhhlaa", sum := "b6c9e0794ed82e671559212aa103e2d9cc612101826fff25aad9344576de9e07", func := "tabulary/tabularylaw19.HistBack", spec := "histBack", inPlace := ["math.Float64bits", "math.Float64frombits"], unfollowed := true, recurses := true, named := ["math/bits.divideError", "math/bits.overflowError"], apart := false, narrowed := true }
def HistBackUptoSaid : Prop := histBackUptoRow.holds Try.pinned (OpenSpec.upto histBackSpec)

end Rows
end Go.Proofs.Ytjbhpopccbhhlaa
