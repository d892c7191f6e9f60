import Derived.Test.YtknmgphnkfeifaaAbLawG
import Derived.Test.YtknmgphnkfeifaaAbLift
set_option linter.unusedVariables false
set_option linter.unusedSimpArgs false
/-! Arguments, read as typed values. -/
namespace Go.Ab
open Go

def RdT {α : Type} (P : Program) (t : Nat) (R : α → List PV) (W : α → Prop) : Prop := ∀ n qs, HasT P n t qs → PV.bulkL qs ≤ 1048576 → ∃ x, qs = R x ∧ W x
theorem rd_int {P : Program} {t : Nat} {k : IntKind} (h : P.underlying t = some (.int k)) : RdT P t (rI k) (wI k) := by
  intro n qs hq _
  cases n with
  | zero => exact hq.elim
  | succ n =>
    simp only [HasT, h] at hq
    obtain ⟨i, rfl, hw⟩ := hq
    simp only [Lit.wf, Bool.and_eq_true, decide_eq_true_eq] at hw
    exact ⟨i, rfl, hw⟩
theorem rd_arg0 {α : Type} {P : Program} {t n b : Nat} {qs : List PV} {a : AV} {R : α → List PV} {W : α → Prop} (hR : RdT P t R W) (ha : aggT P t = false) (h : HasT P n t qs) (hb : PV.bulkL qs ≤ 1048576) (he : if aggT P t then a = .agg (qs.map .pv) else ∃ q, qs = [q] ∧ a = .pv q) : ∃ x, (∃ q, R x = [q] ∧ a = .pv q) ∧ W x := by
  obtain ⟨x, rfl, hx⟩ := hR n qs h hb
  rw [ha] at he
  exact ⟨x, by simpa using he, hx⟩
end Go.Ab
