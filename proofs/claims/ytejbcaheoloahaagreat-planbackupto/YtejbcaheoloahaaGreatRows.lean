/-
  NARROWER THAN 'FOR EVERY INPUT', by the rows' own cells (each row's printed sentence says how): QueryBack: loops · GuessCards: loops · PlanAnswers: loops · PlanOrders: loops · PlanForms: loops · PlanBack: loops.
  DERIVED. THE GIVEN ROWS OF THIS SEAT. 6 by the template 'for every input the law returns true; each argument reads behind the call as it read before'; 0 by the template 'total and deterministic' (their statements: YtejbcaheoloahaaGreatTotals.lean).
  GIVEN WITH THE SEED: the statements are not yours to turn. If you find one false, say at which input.
  Laid BY PROGRAM, IN A SANDBOX (cutbox-rows.mjs): the forced cells as the released guide's own fill.sh prints them over the translation 4cbe5dbab8f7720d… (all of the seat's roots in one cut). By AI agents, Wed Nov 11 2026. No macro, syntax, notation, axiom, sorry.
-/
import Derived.Test.YtejbcaheoloahaaGreatChecked
import GoSem.Claim
import GoSem.ClaimJoined
import GoSem.ClaimMapViews
import Derived.JoinedTies
import Derived.KernelRfl
namespace Go.Proofs.YtejbcaheoloahaaGreat
/- THE CELL 'sum', in the pinned program and in every row, IS THE sha256 OF THE DUMP (.gsa) THAT YtejbcaheoloahaaGreatProg.lean LOADS. Nothing in Lean hashes anything: it is a label: what it is worth is what the hold of that sum in a sandbox is worth. -/
noncomputable def Tryz.pinned : Pinned := { name := "ytejbcaheoloahaagreat", sum := "4cbe5dbab8f7720d83fe9f197f5f7514264546a0643cd93a7369f2b1797c9a5c", checked := Tryz.checked }
namespace Rows
def none {H : Type} : Left H := { results := [], args := [] }

/-- 'tabularylaw23.QueryBack': WHATEVER THE INPUT: true; the input reads as it did. -/
def queryBackSpec : ChangeSpec := { name := "queryBack", fn := fun _ => fun
  | [d1, d2, d3] => { results := [.lit (.bool true)], args := [d1, d2, d3] }
  | _ => none }
def queryBackRow : OpenClaim := { program := "ytejbcaheoloahaagreat", sum := "4cbe5dbab8f7720d83fe9f197f5f7514264546a0643cd93a7369f2b1797c9a5c", func := "tabulary/tabularylaw23.QueryBack", spec := "queryBack", inPlace := ["math.Float64bits", "math.Float64frombits"], unfollowed := true, recurses := true, loops := true, apart := false }
def QueryBackSaid : Prop := queryBackRow.holds Tryz.pinned (OpenSpec.ofChange queryBackSpec)

/-- ITS FALSE NEIGHBOUR: 'it returns false'. Refute it at one input. -/
def queryBackWrong : ChangeSpec := { name := "queryBack", fn := fun _ => fun
  | [d1, d2, d3] => { results := [.lit (.bool false)], args := [d1, d2, d3] }
  | _ => none }
def QueryBackWrongFalsely : Prop := queryBackRow.holds Tryz.pinned (OpenSpec.ofChange queryBackWrong)

/-- 'tabularylaw31.GuessCards': WHATEVER THE INPUT: true; the input reads as it did. -/
def guessCardsSpec : ChangeSpec := { name := "guessCards", fn := fun _ => fun
  | [d1, d2, d3, d4] => { results := [.lit (.bool true)], args := [d1, d2, d3, d4] }
  | _ => none }
def guessCardsRow : OpenClaim := { program := "ytejbcaheoloahaagreat", sum := "4cbe5dbab8f7720d83fe9f197f5f7514264546a0643cd93a7369f2b1797c9a5c", func := "tabulary/tabularylaw31.GuessCards", spec := "guessCards", inPlace := ["math.Float64bits", "math/bits.Add64", "math.Float64frombits"], unfollowed := true, recurses := true, named := ["math/bits.divideError", "math/bits.overflowError"], loops := true, apart := false }
def GuessCardsSaid : Prop := guessCardsRow.holds Tryz.pinned (OpenSpec.ofChange guessCardsSpec)

/-- ITS FALSE NEIGHBOUR: 'it returns false'. Refute it at one input. -/
def guessCardsWrong : ChangeSpec := { name := "guessCards", fn := fun _ => fun
  | [d1, d2, d3, d4] => { results := [.lit (.bool false)], args := [d1, d2, d3, d4] }
  | _ => none }
def GuessCardsWrongFalsely : Prop := guessCardsRow.holds Tryz.pinned (OpenSpec.ofChange guessCardsWrong)

/-- 'tabularylaw25.PlanAnswers': WHATEVER THE INPUT: true; the input reads as it did. -/
def planAnswersSpec : ChangeSpec := { name := "planAnswers", fn := fun _ => fun
  | [d1, d2, d3] => { results := [.lit (.bool true)], args := [d1, d2, d3] }
  | _ => none }
def planAnswersRow : OpenClaim := { program := "ytejbcaheoloahaagreat", sum := "4cbe5dbab8f7720d83fe9f197f5f7514264546a0643cd93a7369f2b1797c9a5c", func := "tabulary/tabularylaw25.PlanAnswers", spec := "planAnswers", inPlace := ["math.Float64bits", "math.Float64frombits"], unfollowed := true, recurses := true, loops := true, apart := false }
def PlanAnswersSaid : Prop := planAnswersRow.holds Tryz.pinned (OpenSpec.ofChange planAnswersSpec)

/-- ITS FALSE NEIGHBOUR: 'it returns false'. Refute it at one input. -/
def planAnswersWrong : ChangeSpec := { name := "planAnswers", fn := fun _ => fun
  | [d1, d2, d3] => { results := [.lit (.bool false)], args := [d1, d2, d3] }
  | _ => none }
def PlanAnswersWrongFalsely : Prop := planAnswersRow.holds Tryz.pinned (OpenSpec.ofChange planAnswersWrong)

/-- 'tabularylaw25.PlanOrders': WHATEVER THE INPUT: true; the input reads as it did. -/
def planOrdersSpec : ChangeSpec := { name := "planOrders", fn := fun _ => fun
  | [d1, d2, d3, d4, d5] => { results := [.lit (.bool true)], args := [d1, d2, d3, d4, d5] }
  | _ => none }
def planOrdersRow : OpenClaim := { program := "ytejbcaheoloahaagreat", sum := "4cbe5dbab8f7720d83fe9f197f5f7514264546a0643cd93a7369f2b1797c9a5c", func := "tabulary/tabularylaw25.PlanOrders", spec := "planOrders", inPlace := ["math.Float64bits", "math.Float64frombits"], unfollowed := true, recurses := true, loops := true, apart := false }
def PlanOrdersSaid : Prop := planOrdersRow.holds Tryz.pinned (OpenSpec.ofChange planOrdersSpec)

/-- ITS FALSE NEIGHBOUR: 'it returns false'. Refute it at one input. -/
def planOrdersWrong : ChangeSpec := { name := "planOrders", fn := fun _ => fun
  | [d1, d2, d3, d4, d5] => { results := [.lit (.bool false)], args := [d1, d2, d3, d4, d5] }
  | _ => none }
def PlanOrdersWrongFalsely : Prop := planOrdersRow.holds Tryz.pinned (OpenSpec.ofChange planOrdersWrong)

/-- 'tabularylaw25.PlanForms': WHATEVER THE INPUT: true; the input reads as it did. -/
def planFormsSpec : ChangeSpec := { name := "planForms", fn := fun _ => fun
  | [d1, d2] => { results := [.lit (.bool true)], args := [d1, d2] }
  | _ => none }
def planFormsRow : OpenClaim := { program := "ytejbcaheoloahaagreat", sum := "4cbe5dbab8f7720d83fe9f197f5f7514264546a0643cd93a7369f2b1797c9a5c", func := "tabulary/tabularylaw25.PlanForms", spec := "planForms", inPlace := ["math.Float64bits", "math.Float64frombits"], unfollowed := true, recurses := true, loops := true, apart := false }
def PlanFormsSaid : Prop := planFormsRow.holds Tryz.pinned (OpenSpec.ofChange planFormsSpec)

/-- ITS FALSE NEIGHBOUR: 'it returns false'. Refute it at one input. -/
def planFormsWrong : ChangeSpec := { name := "planForms", fn := fun _ => fun
  | [d1, d2] => { results := [.lit (.bool false)], args := [d1, d2] }
  | _ => none }
def PlanFormsWrongFalsely : Prop := planFormsRow.holds Tryz.pinned (OpenSpec.ofChange planFormsWrong)

/-- 'tabularylaw25.PlanBack': WHATEVER THE INPUT: true; the input reads as it did. -/
def planBackSpec : ChangeSpec := { name := "planBack", fn := fun _ => fun
  | [d1, d2] => { results := [.lit (.bool true)], args := [d1, d2] }
  | _ => none }
def planBackRow : OpenClaim := { program := "ytejbcaheoloahaagreat", sum := "4cbe5dbab8f7720d83fe9f197f5f7514264546a0643cd93a7369f2b1797c9a5c", func := "tabulary/tabularylaw25.PlanBack", spec := "planBack", inPlace := ["math.Float64bits", "math.Float64frombits"], unfollowed := true, recurses := true, loops := true, apart := false }
def PlanBackSaid : Prop := planBackRow.holds Tryz.pinned (OpenSpec.ofChange planBackSpec)

/-- ITS FALSE NEIGHBOUR: 'it returns false'. Refute it at one input. -/
def planBackWrong : ChangeSpec := { name := "planBack", fn := fun _ => fun
  | [d1, d2] => { results := [.lit (.bool false)], args := [d1, d2] }
  | _ => none }
def PlanBackWrongFalsely : Prop := planBackRow.holds Tryz.pinned (OpenSpec.ofChange planBackWrong)

/- THE SECOND FORM. 'bulk': how many values and letters a reading holds, each counted each time it is reached (what is shared counts as often as it is met; a slice's spare places count too). A statement '..UptoSaid' is the law's where the arguments, and the package variables that the reading takes, are together of bulk at most 1048576: NARROWER than '..Said'. Prove '..Said' where nothing that the law and all that it calls make is longer than what came in: it says more and counts as full. Else prove '..UptoSaid'. A law counts once. -/
mutual
def uptoBulk {H : Type} : DataW H → Nat
  | .lit (.string bytes) => bytes.length + 1
  | .lit _ => 1
  | .nil => 1
  | .ptr d => uptoBulk d + 1
  | .slice elems spare => uptoBulkAll elems + uptoBulkAll spare + 1
  | .agg parts => uptoBulkAll parts + 1
  | .iface _ d => uptoBulk d + 1
  | .map entries => uptoBulkEntries entries + 1
  | .held _ => 1
def uptoBulkAll {H : Type} : List (DataW H) → Nat
  | [] => 0
  | d :: r => uptoBulk d + uptoBulkAll r
def uptoBulkEntries {H : Type} : List (Lit × DataW H) → Nat
  | [] => 0
  | x :: r => uptoBulkEntry x + uptoBulkEntries r
def uptoBulkEntry {H : Type} : Lit × DataW H → Nat
  | (.string bytes, d) => bytes.length + uptoBulk d + 1
  | (_, d) => uptoBulk d + 1
 end
def uptoSmall : (H : Type) → List (DataW H) → Bool := fun _ ds => decide (uptoBulkAll ds ≤ 1048576)
def OpenSpec.upto (s : _root_.Go.ChangeSpec) : _root_.Go.OpenSpec := { _root_.Go.OpenSpec.ofChange s with cond := some uptoSmall }

/-- 'tabularylaw23.QueryBack', WHERE WHAT IT READS IS OF BULK AT MOST 1048576: true; the input reads as it did. -/
def queryBackUptoRow : OpenClaim := { program := "ytejbcaheoloahaagreat", sum := "4cbe5dbab8f7720d83fe9f197f5f7514264546a0643cd93a7369f2b1797c9a5c", func := "tabulary/tabularylaw23.QueryBack", spec := "queryBack", inPlace := ["math.Float64bits", "math.Float64frombits"], unfollowed := true, recurses := true, loops := true, apart := false, narrowed := true }
def QueryBackUptoSaid : Prop := queryBackUptoRow.holds Tryz.pinned (OpenSpec.upto queryBackSpec)

/-- 'tabularylaw31.GuessCards', WHERE WHAT IT READS IS OF BULK AT MOST 1048576: true; the input reads as it did. -/
def guessCardsUptoRow : OpenClaim := { program := "ytejbcaheoloahaagreat", sum := "4cbe5dbab8f7720d83fe9f197f5f7514264546a0643cd93a7369f2b1797c9a5c", func := "tabulary/tabularylaw31.GuessCards", spec := "guessCards", inPlace := ["math.Float64bits", "math/bits.Add64", "math.Float64frombits"], unfollowed := true, recurses := true, named := ["math/bits.divideError", "math/bits.overflowError"], loops := true, apart := false, narrowed := true }
def GuessCardsUptoSaid : Prop := guessCardsUptoRow.holds Tryz.pinned (OpenSpec.upto guessCardsSpec)

/-- 'tabularylaw25.PlanAnswers', WHERE WHAT IT READS IS OF BULK AT MOST 1048576: true; the input reads as it did. -/
def planAnswersUptoRow : OpenClaim := { program := "ytejbcaheoloahaagreat", sum := "4cbe5dbab8f7720d83fe9f197f5f7514264546a0643cd93a7369f2b1797c9a5c", func := "tabulary/tabularylaw25.PlanAnswers", spec := "planAnswers", inPlace := ["math.Float64bits", "math.Float64frombits"], unfollowed := true, recurses := true, loops := true, apart := false, narrowed := true }
def PlanAnswersUptoSaid : Prop := planAnswersUptoRow.holds Tryz.pinned (OpenSpec.upto planAnswersSpec)

/-- 'tabularylaw25.PlanOrders', WHERE WHAT IT READS IS OF BULK AT MOST 1048576: true; the input reads as it did. -/
def planOrdersUptoRow : OpenClaim := { program := "ytejbcaheoloahaagreat", sum := "4cbe5dbab8f7720d83fe9f197f5f7514264546a0643cd93a7369f2b1797c9a5c", func := "tabulary/tabularylaw25.PlanOrders", spec := "planOrders", inPlace := ["math.Float64bits", "math.Float64frombits"], unfollowed := true, recurses := true, loops := true, apart := false, narrowed := true }
def PlanOrdersUptoSaid : Prop := planOrdersUptoRow.holds Tryz.pinned (OpenSpec.upto planOrdersSpec)

/-- 'tabularylaw25.PlanForms', WHERE WHAT IT READS IS OF BULK AT MOST 1048576: true; the input reads as it did. -/
def planFormsUptoRow : OpenClaim := { program := "ytejbcaheoloahaagreat", sum := "4cbe5dbab8f7720d83fe9f197f5f7514264546a0643cd93a7369f2b1797c9a5c", func := "tabulary/tabularylaw25.PlanForms", spec := "planForms", inPlace := ["math.Float64bits", "math.Float64frombits"], unfollowed := true, recurses := true, loops := true, apart := false, narrowed := true }
def PlanFormsUptoSaid : Prop := planFormsUptoRow.holds Tryz.pinned (OpenSpec.upto planFormsSpec)

/-- 'tabularylaw25.PlanBack', WHERE WHAT IT READS IS OF BULK AT MOST 1048576: true; the input reads as it did. -/
def planBackUptoRow : OpenClaim := { program := "ytejbcaheoloahaagreat", sum := "4cbe5dbab8f7720d83fe9f197f5f7514264546a0643cd93a7369f2b1797c9a5c", func := "tabulary/tabularylaw25.PlanBack", spec := "planBack", inPlace := ["math.Float64bits", "math.Float64frombits"], unfollowed := true, recurses := true, loops := true, apart := false, narrowed := true }
def PlanBackUptoSaid : Prop := planBackUptoRow.holds Tryz.pinned (OpenSpec.upto planBackSpec)

end Rows
end Go.Proofs.YtejbcaheoloahaaGreat
