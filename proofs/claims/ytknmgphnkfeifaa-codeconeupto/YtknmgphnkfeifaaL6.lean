/- Each number has one form alone: bytes that are read as a number, to their end, are what is put of it. It holds for all arguments of the given size. -/
import Derived.Test.YtknmgphnkfeifaaR7
import Derived.Test.YtknmgphnkfeifaaRows
namespace Go.Proofs.Ytknmgphnkfeifaa.codecOne
open Go Go.Ab Go.Ab.Ytknmgphnkfeifaa
open Go.ChangeShapes Go.WideShapes Go.ChangeAt Go.RowKit
set_option linter.unusedVariables false
set_option maxRecDepth 100000
theorem own : ownKnob Try.prog.godebug = none := by kernel_rfl
theorem bulk {H : Type} : Bulk (H := H) Rows.uptoBulk Rows.uptoBulkAll :=
  ⟨fun b => by simp [Rows.uptoBulk], fun l => by cases l <;> simp [Rows.uptoBulk], by simp [Rows.uptoBulk], fun d => by simp [Rows.uptoBulk], fun a b => by simp [Rows.uptoBulk], fun a => by simp [Rows.uptoBulk],
    by simp [Rows.uptoBulkAll], fun d r => by simp [Rows.uptoBulkAll]⟩
theorem u35 : Try.prog.underlying 35 = some (.slice 5) := by kernel_rfl
theorem u5 : Try.prog.underlying 5 = some (.int .u8) := by kernel_rfl
theorem bytes_of5 {n : Nat} : ∀ (rows : List (List PV)), (∀ r, r ∈ rows → r.length = Try.prog.cellsOf 5 ∧ HasT Try.prog n 5 r) → ∃ l : List Int, rows = l.map rowB ∧ (∀ x ∈ l, 0 ≤ x ∧ x < 256)
  | [], _ => ⟨[], rfl, by simp⟩
  | r :: rows, h => by
    obtain ⟨l, rfl, hl⟩ := bytes_of5 rows fun x hx => h x (by simp [hx])
    obtain ⟨_, h1⟩ := h r (by simp)
    cases n with
    | zero => exact h1.elim
    | succ n =>
      simp only [HasT, u5] at h1
      obtain ⟨i, rfl, hw⟩ := h1
      simp [Lit.wf, IntKind.min, IntKind.max, IntKind.signed, IntKind.bits] at hw
      refine ⟨i :: l, rfl, fun x hx => ?_⟩
      rcases List.mem_cons.1 hx with rfl | hx
      · omega
      · exact hl x hx
theorem spec (xs : List AV) (h : ArgsT Try.prog [35] xs 1048576) : ∃ N H', call (cfg Try.prog M K) N 6 xs [] = some (.ret (.pv (.bool true)), H') := by
  have a35 : aggT Try.prog 35 = false := by kernel_rfl
  match xs, h with
  | [x0], h =>
    obtain ⟨n0, q0, c0, h0, f0, _, _⟩ := h
    rw [a35, if_neg Bool.false_ne_true] at f0
    obtain ⟨p0, rfl, rfl⟩ := f0
    cases n0 with
    | zero => exact h0.elim
    | succ n0 =>
    simp only [HasT, u35] at h0
    have s0 : ∃ l : List Int, SL p0 l ∧ (∀ x ∈ l, 0 ≤ x ∧ x < 256) := by
      rcases h0 with h0 | ⟨rows, h0, _, hr⟩
      · simp only [List.cons.injEq, and_true] at h0; exact ⟨[], .inr ⟨h0, rfl⟩, by simp⟩
      · simp only [List.cons.injEq, and_true] at h0
        obtain ⟨l, rfl, hl⟩ := bytes_of5 rows hr
        exact ⟨l, .inl h0, hl⟩
    obtain ⟨x0, s0, w0⟩ := s0
    refine ⟨61, [], ?_⟩
    exact one s0 w0

theorem contract (H : Type) (enc : TypeId × Value → H) (W : World) (base : Nat) (args : Array Value) (ds gs : List (DataW H)) (before : List MemPlace)
    (hval : ∀ (j : Nat) t v, Try.f6.params[j]? = some t → args[j]? = some v → Value.okWide Try.prog W .any base t v)
    (hW : DataW.Whole enc Try.prog Try.f6.params.toList Rows.codecOneSpec.vars false W args.toList ds gs before) (hk : Rows.uptoBulkAll ds ≤ 1048576) :
    Calls Try.prog 6 args W fun e W' => ∃ v, e = .returned v ∧ Rows.codecOneSpec.post enc Try.prog Try.f6 false true false false W args v W' :=
  law_contract (M := M) (K := K) (t0 := 4) (bound := 1048576) [35, 5] (by kernel_rfl) bulk (by kernel_rfl) (by kernel_rfl) rfl (by kernel_rfl) (by kernel_rfl) (by kernel_rfl) rfl
    (fun ds hds => by
      match ds, hds with
      | [d0], _ => rfl)
    spec W base args ds gs before hval hW hk

theorem lifted (os : Os) (started : os.Started) (H : Type) (enc : TypeId × Value → H) (F : Stop.Interp) :
    ReturnsInHanded {} Try.checked os 6 .any ((Rows.OpenSpec.upto Rows.codecOneSpec).pre6 enc Try.prog Try.f6 Rows.codecOneUptoRow.domain false) (((Rows.OpenSpec.upto Rows.codecOneSpec).at F).post enc Try.prog Try.f6 false true false false) := by
  refine returnsInHanded_of_cond (C := Try.checked) (s := Rows.OpenSpec.upto Rows.codecOneSpec) (k := Rows.uptoSmall) rfl own started (by kernel_rfl) Try.func6
    (OpenSpec.witness (enc := enc) (C := Try.checked) (s := Rows.OpenSpec.upto Rows.codecOneSpec) (k := Rows.uptoSmall) rfl false ⟨#[], #[.slice none 0 0], []⟩ 8 (by kernel_rfl) (by kernel_rfl) (by kernel_rfl)
      (x := ([.nil], [], [])) (by kernel_rfl) rfl (by kernel_rfl)) ?_
  intro W base args ds gs before hval hW _ hk _
  have hb : Rows.uptoBulkAll ds ≤ 1048576 := by
    have h1 : gs = [] := by
      obtain ⟨p, q, hA, hV, _⟩ := hW
      exact (trodVars_none hV).1
    rw [h1, List.append_nil] at hk
    simpa [Rows.uptoSmall] using hk
  exact contract H enc W base args ds gs before hval hW hb

theorem over : Rows.codecOneUptoRow.holds Try.pinned (Rows.OpenSpec.upto Rows.codecOneSpec) :=
  OpenClaim.holds_of_cond 6 Try.f6 rfl rfl rfl rfl rfl rfl rfl ⟨rfl, rfl, rfl, rfl, rfl⟩ rfl rfl rfl rfl rfl (by kernel_rfl) Try.func6 (by kernel_rfl)
    (of_decide_eq_true (by kernel_rfl)) (by unfold Func.isWrapper; first | (rw [if_pos (by decide +kernel)]; kernel_rfl) | (rw [if_neg (by decide +kernel)]; exact ⟨rfl, rfl⟩))
    (fun os started H enc _ F => lifted os started H enc F)

theorem proved : Rows.CodecOneUptoSaid := over
end Go.Proofs.Ytknmgphnkfeifaa.codecOne
