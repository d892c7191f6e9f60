/- A reservoir that is fed any values, one by one, holds behind each what the document says, has seen as many, and refuses values that may not be. It holds for all arguments of the given size. -/
import Derived.Test.YtnfgpejdbmakkaaV8
import Derived.Test.YtnfgpejdbmakkaaRows
namespace Go.Proofs.Ytnfgpejdbmakkaa.reservoirFeeds
open Go Go.Ab Go.Ab.Ytnfgpejdbmakkaa
open Go.ChangeShapes Go.WideShapes Go.ChangeAt Go.RowKit
set_option linter.unusedVariables false
set_option maxRecDepth 100000
theorem own : ownKnob Try.prog.godebug = none := by kernel_rfl
theorem bulk {H : Type} : Bulk (H := H) Rows.uptoBulk Rows.uptoBulkAll :=
  ⟨fun b => by simp [Rows.uptoBulk], fun l => by cases l <;> simp [Rows.uptoBulk], by simp [Rows.uptoBulk], fun d => by simp [Rows.uptoBulk], fun a b => by simp [Rows.uptoBulk], fun a => by simp [Rows.uptoBulk],
    by simp [Rows.uptoBulkAll], fun d r => by simp [Rows.uptoBulkAll]⟩
theorem u31 : Try.prog.underlying 31 = some (.slice 40) := by kernel_rfl
theorem u3 : Try.prog.underlying 3 = some (.int .i64) := by kernel_rfl
theorem u2 : Try.prog.underlying 2 = some (.int .i64) := by kernel_rfl
theorem u38 : Try.prog.underlying 38 = some (.float .f64) := by kernel_rfl
theorem u9 : Try.prog.underlying 9 = some .string := by kernel_rfl
theorem u32 : Try.prog.underlying 32 = some (.slice 22) := by kernel_rfl
theorem u22 : Try.prog.underlying 22 = some (.int .u64) := by kernel_rfl
theorem spec (xs : List AV) (h : ArgsT Try.prog [31, 3, 32] xs 1048576) : ∃ N H', call (cfg Try.prog M K) N 5 xs [] = some (.ret (.pv (.bool true)), H') := by
  have a3 : aggT Try.prog 3 = false := by kernel_rfl
  have a31 : aggT Try.prog 31 = false := by kernel_rfl
  have a32 : aggT Try.prog 32 = false := by kernel_rfl
  match xs, h with
  | [x0, x1, x2], h =>
    obtain ⟨n0, q0, c0, h0, f0, _, n1, q1, c1, h1, f1, _, n2, q2, c2, h2, f2, _, _⟩ := h
    rw [a31, if_neg Bool.false_ne_true] at f0
    rw [a3, if_neg Bool.false_ne_true] at f1
    rw [a32, if_neg Bool.false_ne_true] at f2
    obtain ⟨p0, rfl, rfl⟩ := f0
    obtain ⟨p1, rfl, rfl⟩ := f1
    obtain ⟨p2, rfl, rfl⟩ := f2
    cases n0 with
    | zero => exact h0.elim
    | succ n0 =>
    cases n1 with
    | zero => exact h1.elim
    | succ n1 =>
    cases n2 with
    | zero => exact h2.elim
    | succ n2 =>
    simp only [HasT, u31] at h0
    simp only [HasT, u3] at h1
    simp only [HasT, u32] at h2
    have s0 : ∃ l, SV p0 l ∧ OkL l := by
      rcases h0 with h0 | ⟨rows, h0, _, hr⟩
      · simp only [List.cons.injEq, and_true] at h0; exact ⟨[], .inr ⟨h0, rfl⟩, fun x hx => by simp at hx⟩
      · simp only [List.cons.injEq, and_true] at h0
        obtain ⟨l, rfl, hl⟩ := vals_of rows hr
        exact ⟨l, .inl h0, hl⟩
    obtain ⟨x0, s0, w0⟩ := s0
    obtain ⟨x1, e1, w1⟩ := h1
    simp only [List.cons.injEq, and_true] at e1
    subst e1
    simp [Lit.wf, IntKind.min, IntKind.max, IntKind.signed, IntKind.bits] at w1
    have s2 : ∃ l, SU p2 l ∧ D64 l := by
      rcases h2 with h2 | ⟨rows, h2, _, hr⟩
      · simp only [List.cons.injEq, and_true] at h2; exact ⟨[], .inr ⟨h2, rfl⟩, fun x hx => by simp at hx⟩
      · simp only [List.cons.injEq, and_true] at h2
        obtain ⟨l, rfl, hl⟩ := u64s_of rows hr
        exact ⟨l, .inl h2, hl⟩
    obtain ⟨x2, s2, w2⟩ := s2
    refine ⟨1501, [], ?_⟩
    exact feedsAll s0 s2 w0 w2 _

theorem contract (H : Type) (enc : TypeId × Value → H) (W : World) (base : Nat) (args : Array Value) (ds gs : List (DataW H)) (before : List MemPlace)
    (hval : ∀ (j : Nat) t v, Try.f5.params[j]? = some t → args[j]? = some v → Value.okWide Try.prog W .any base t v)
    (hW : DataW.Whole enc Try.prog Try.f5.params.toList Rows.reservoirFeedsSpec.vars false W args.toList ds gs before) (hk : Rows.uptoBulkAll ds ≤ 1048576) :
    Calls Try.prog 5 args W fun e W' => ∃ v, e = .returned v ∧ Rows.reservoirFeedsSpec.post enc Try.prog Try.f5 false true false false W args v W' :=
  law_contract (M := M) (K := K) (t0 := 4) (bound := 1048576) [31, 40, 3, 2, 38, 9, 32, 22] (by kernel_rfl) bulk (by kernel_rfl) (by kernel_rfl) rfl (by kernel_rfl) (by kernel_rfl) (by kernel_rfl) rfl
    (fun ds hds => by
      match ds, hds with
      | [d0, d1, d2], _ => rfl)
    spec W base args ds gs before hval hW hk

theorem lifted (os : Os) (started : os.Started) (H : Type) (enc : TypeId × Value → H) (F : Stop.Interp) :
    ReturnsInHanded {} Try.checked os 5 .any ((Rows.OpenSpec.upto Rows.reservoirFeedsSpec).pre6 enc Try.prog Try.f5 Rows.reservoirFeedsUptoRow.domain false) (((Rows.OpenSpec.upto Rows.reservoirFeedsSpec).at F).post enc Try.prog Try.f5 false true false false) := by
  refine returnsInHanded_of_cond (C := Try.checked) (s := Rows.OpenSpec.upto Rows.reservoirFeedsSpec) (k := Rows.uptoSmall) rfl own started (by kernel_rfl) Try.func5
    (OpenSpec.witness (enc := enc) (C := Try.checked) (s := Rows.OpenSpec.upto Rows.reservoirFeedsSpec) (k := Rows.uptoSmall) rfl false ⟨#[], #[.slice none 0 0, .int .i64 0, .slice none 0 0], []⟩ 8 (by kernel_rfl) (by kernel_rfl) (by kernel_rfl)
      (x := ([.nil, .lit (.int .i64 0), .nil], [], [])) (by kernel_rfl) rfl (by kernel_rfl)) ?_
  intro W base args ds gs before hval hW _ hk _
  have hb : Rows.uptoBulkAll ds ≤ 1048576 := by
    have h1 : gs = [] := by
      obtain ⟨p, q, hA, hV, _⟩ := hW
      exact (trodVars_none hV).1
    rw [h1, List.append_nil] at hk
    simpa [Rows.uptoSmall] using hk
  exact contract H enc W base args ds gs before hval hW hb

theorem over : Rows.reservoirFeedsUptoRow.holds Try.pinned (Rows.OpenSpec.upto Rows.reservoirFeedsSpec) :=
  OpenClaim.holds_of_cond 5 Try.f5 rfl rfl rfl rfl rfl rfl rfl ⟨rfl, rfl, rfl, rfl, rfl⟩ rfl rfl rfl rfl rfl (by kernel_rfl) Try.func5 (by kernel_rfl)
    (of_decide_eq_true (by kernel_rfl)) (by unfold Func.isWrapper; first | (rw [if_pos (by decide +kernel)]; kernel_rfl) | (rw [if_neg (by decide +kernel)]; exact ⟨rfl, rfl⟩))
    (fun os started H enc _ F => lifted os started H enc F)

theorem proved : Rows.ReservoirFeedsUptoSaid := over
end Go.Proofs.Ytnfgpejdbmakkaa.reservoirFeeds
