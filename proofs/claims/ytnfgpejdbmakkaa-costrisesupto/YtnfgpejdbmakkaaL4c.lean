/- No scan, sorting or join costs less where one of its numbers grows; a join costs at least what its Kids cost together. It holds for all arguments of the given size. -/
import Derived.Test.YtnfgpejdbmakkaaX5
import Derived.Test.YtnfgpejdbmakkaaRows
namespace Go.Proofs.Ytnfgpejdbmakkaa.costRises
open Go Go.Ab Go.Ab.Ytnfgpejdbmakkaa
open Go.ChangeShapes Go.WideShapes Go.ChangeAt Go.RowKit
set_option linter.unusedVariables false
set_option maxRecDepth 100000
theorem own : ownKnob Try.prog.godebug = none := by kernel_rfl
theorem bulk {H : Type} : Bulk (H := H) Rows.uptoBulk Rows.uptoBulkAll :=
  ⟨fun b => by simp [Rows.uptoBulk], fun l => by cases l <;> simp [Rows.uptoBulk], by simp [Rows.uptoBulk], fun d => by simp [Rows.uptoBulk], fun a b => by simp [Rows.uptoBulk], fun a => by simp [Rows.uptoBulk],
    by simp [Rows.uptoBulkAll], fun d r => by simp [Rows.uptoBulkAll]⟩
theorem u3 : Try.prog.underlying 3 = some (.int .i64) := by kernel_rfl
theorem u22 : Try.prog.underlying 22 = some (.int .u64) := by kernel_rfl
theorem spec (xs : List AV) (h : ArgsT Try.prog [24, 22] xs 1048576) : ∃ N H', call (cfg Try.prog M K) N 4 xs [] = some (.ret (.pv (.bool true)), H') := by
  have a22 : aggT Try.prog 22 = false := by kernel_rfl
  have a24 : aggT Try.prog 24 = true := by kernel_rfl
  match xs, h with
  | [x0, x1], h =>
    obtain ⟨n0, q0, c0, h0, f0, _, n1, q1, c1, h1, f1, _, _⟩ := h
    rw [a24, if_pos rfl] at f0
    rw [a22, if_neg Bool.false_ne_true] at f1
    subst f0
    obtain ⟨p1, rfl, rfl⟩ := f1
    cases n1 with
    | zero => exact h1.elim
    | succ n1 =>
    simp only [HasT, u22] at h1
    obtain ⟨k, l, r, a, b, o, e0, hl, hr, ha, hb, ho⟩ := six_of h0
    subst e0
    obtain ⟨x1, e1, w1⟩ := h1
    simp only [List.cons.injEq, and_true] at e1
    subst e1
    simp [Lit.wf, IntKind.min, IntKind.max, IntKind.signed, IntKind.bits] at w1
    refine ⟨101, [], ?_⟩
    have hu : x1 = ((x1.toNat : Nat) : Int) := by omega
    rw [hu]
    exact rises hl hr ha hb ho (by omega) works15

theorem contract (H : Type) (enc : TypeId × Value → H) (W : World) (base : Nat) (args : Array Value) (ds gs : List (DataW H)) (before : List MemPlace)
    (hval : ∀ (j : Nat) t v, Try.f4.params[j]? = some t → args[j]? = some v → Value.okWide Try.prog W .any base t v)
    (hW : DataW.Whole enc Try.prog Try.f4.params.toList Rows.costRisesSpec.vars false W args.toList ds gs before) (hk : Rows.uptoBulkAll ds ≤ 1048576) :
    Calls Try.prog 4 args W fun e W' => ∃ v, e = .returned v ∧ Rows.costRisesSpec.post enc Try.prog Try.f4 false true false false W args v W' :=
  law_contract (M := M) (K := K) (t0 := 4) (bound := 1048576) [24, 3, 22] (by kernel_rfl) bulk (by kernel_rfl) (by kernel_rfl) rfl (by kernel_rfl) (by kernel_rfl) (by kernel_rfl) rfl
    (fun ds hds => by
      match ds, hds with
      | [d0, d1], _ => rfl)
    spec W base args ds gs before hval hW hk

theorem lifted (os : Os) (started : os.Started) (H : Type) (enc : TypeId × Value → H) (F : Stop.Interp) :
    ReturnsInHanded {} Try.checked os 4 .any ((Rows.OpenSpec.upto Rows.costRisesSpec).pre6 enc Try.prog Try.f4 Rows.costRisesUptoRow.domain false) (((Rows.OpenSpec.upto Rows.costRisesSpec).at F).post enc Try.prog Try.f4 false true false false) := by
  refine returnsInHanded_of_cond (C := Try.checked) (s := Rows.OpenSpec.upto Rows.costRisesSpec) (k := Rows.uptoSmall) rfl own started (by kernel_rfl) Try.func4
    (OpenSpec.witness (enc := enc) (C := Try.checked) (s := Rows.OpenSpec.upto Rows.costRisesSpec) (k := Rows.uptoSmall) rfl false ⟨#[], #[.agg #[.int .i64 0, .int .u64 0, .int .u64 0, .int .u64 0, .int .u64 0, .int .u64 0], .int .u64 0], []⟩ 8 (by kernel_rfl) (by kernel_rfl) (by kernel_rfl)
      (x := ([.agg [.lit (.int .i64 0), .lit (.int .u64 0), .lit (.int .u64 0), .lit (.int .u64 0), .lit (.int .u64 0), .lit (.int .u64 0)], .lit (.int .u64 0)], [], [])) (by kernel_rfl) rfl (by kernel_rfl)) ?_
  intro W base args ds gs before hval hW _ hk _
  have hb : Rows.uptoBulkAll ds ≤ 1048576 := by
    have h1 : gs = [] := by
      obtain ⟨p, q, hA, hV, _⟩ := hW
      exact (trodVars_none hV).1
    rw [h1, List.append_nil] at hk
    simpa [Rows.uptoSmall] using hk
  exact contract H enc W base args ds gs before hval hW hb

theorem over : Rows.costRisesUptoRow.holds Try.pinned (Rows.OpenSpec.upto Rows.costRisesSpec) :=
  OpenClaim.holds_of_cond 4 Try.f4 rfl rfl rfl rfl rfl rfl rfl ⟨rfl, rfl, rfl, rfl, rfl⟩ rfl rfl rfl rfl rfl (by kernel_rfl) Try.func4 (by kernel_rfl)
    (of_decide_eq_true (by kernel_rfl)) (by unfold Func.isWrapper; first | (rw [if_pos (by decide +kernel)]; kernel_rfl) | (rw [if_neg (by decide +kernel)]; exact ⟨rfl, rfl⟩))
    (fun os started H enc _ F => lifted os started H enc F)

theorem proved : Rows.CostRisesUptoSaid := over
end Go.Proofs.Ytnfgpejdbmakkaa.costRises
