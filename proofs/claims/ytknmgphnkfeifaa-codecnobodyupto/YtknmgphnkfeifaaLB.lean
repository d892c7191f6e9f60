/- Readers that are nil, or that no call made, have nothing to read, and have refused: true for all inputs, of arguments of at most 1048576 units of bulk. -/
import Derived.Test.YtknmgphnkfeifaaWB1
import Derived.Test.YtknmgphnkfeifaaCN
import Derived.Test.YtknmgphnkfeifaaAbRd
import Derived.Test.YtknmgphnkfeifaaAbArr
import Derived.Test.YtknmgphnkfeifaaRows
namespace Go.Proofs.Ytknmgphnkfeifaa.codecNobody
open Go Go.Ab Go.Ab.S1 Go.Pl
open Go.ChangeShapes Go.WideShapes Go.ChangeAt Go.RowKit
set_option linter.unusedVariables false
set_option linter.unusedSimpArgs false
set_option maxRecDepth 100000
theorem own : ownKnob Try.prog.godebug = none := by kernel_rfl
theorem bulk {H : Type} : Bulk (H := H) Rows.uptoBulk Rows.uptoBulkAll :=
  ⟨fun b => by simp [Rows.uptoBulk], fun l => by cases l <;> simp [Rows.uptoBulk], by simp [Rows.uptoBulk], fun d => by simp [Rows.uptoBulk], fun a b => by simp [Rows.uptoBulk], fun a => by simp [Rows.uptoBulk],
    by simp [Rows.uptoBulkAll], fun d r => by simp [Rows.uptoBulkAll]⟩
theorem rd36 : RdT Go.Proofs.Try.prog 36 (rI .u64) (wI .u64) := rd_int (by kernel_rfl)
theorem spec (xs : List AV) (h : ArgsT Go.Proofs.Try.prog [36] xs 1048576) : ∃ N H', call G N 7 xs [] = some (.ret (.pv (.bool true)), H') := by
  match xs, h with
  | [x0], h =>
    obtain ⟨n0, q0, c0, h0, f0, d0, _⟩ := h
    obtain ⟨z0, ⟨p0, g0, rfl⟩, w0⟩ := rd_arg0 (b := 0) rd36 (by kernel_rfl) h0 (by omega) f0
    obtain rfl := (List.cons.inj g0).1
    exact ⟨4000000, [], ok_law03_CodecNobody (r := true) (CodecNobody_true rfl w0)⟩

theorem contract (H : Type) (enc : TypeId × Value → H) (W : World) (base : Nat) (args : Array Value) (ds gs : List (DataW H)) (before : List MemPlace)
    (hval : ∀ (j : Nat) t v, Try.f7.params[j]? = some t → args[j]? = some v → Value.okWide Try.prog W .any base t v)
    (hW : DataW.Whole enc Try.prog Try.f7.params.toList Rows.codecNobodySpec.vars false W args.toList ds gs before) (hk : Rows.uptoBulkAll ds ≤ 1048576) :
    Calls Try.prog 7 args W fun e W' => ∃ v, e = .returned v ∧ Rows.codecNobodySpec.post enc Try.prog Try.f7 false true false false W args v W' :=
  law_contractG G_ok GP (t0 := 4) (bound := 1048576) [36] (by kernel_rfl) bulk (by kernel_rfl) (by kernel_rfl) rfl (by kernel_rfl) (by kernel_rfl) (by kernel_rfl) rfl
    (fun ds hds => by
      match ds, hds with
      | [d0], _ => rfl)
    spec W base args ds gs before hval hW hk

theorem lifted (os : Os) (started : os.Started) (H : Type) (enc : TypeId × Value → H) (F : Stop.Interp) :
    ReturnsInHanded {} Try.checked os 7 .any ((Rows.OpenSpec.upto Rows.codecNobodySpec).pre6 enc Try.prog Try.f7 Rows.codecNobodyUptoRow.domain false) (((Rows.OpenSpec.upto Rows.codecNobodySpec).at F).post enc Try.prog Try.f7 false true false false) := by
  refine returnsInHanded_of_cond (C := Try.checked) (s := Rows.OpenSpec.upto Rows.codecNobodySpec) (k := Rows.uptoSmall) rfl own started (by kernel_rfl) Try.func7
    (OpenSpec.witness (enc := enc) (C := Try.checked) (s := Rows.OpenSpec.upto Rows.codecNobodySpec) (k := Rows.uptoSmall) rfl false ⟨#[], #[.int .u64 0], []⟩ 8 (by kernel_rfl) (by kernel_rfl) (by kernel_rfl)
      (x := ([.lit (.int .u64 0)], [], [])) (by kernel_rfl) rfl (by kernel_rfl)) ?_
  intro W base args ds gs before hval hW _ hk _
  have hb : Rows.uptoBulkAll ds ≤ 1048576 := by
    have h1 : gs = [] := by
      obtain ⟨p, q, hA, hV, _⟩ := hW
      exact (trodVars_none hV).1
    rw [h1, List.append_nil] at hk
    simpa [Rows.uptoSmall] using hk
  exact contract H enc W base args ds gs before hval hW hb

theorem over : Rows.codecNobodyUptoRow.holds Try.pinned (Rows.OpenSpec.upto Rows.codecNobodySpec) :=
  OpenClaim.holds_of_cond 7 Try.f7 rfl rfl rfl rfl rfl rfl rfl ⟨rfl, rfl, rfl, rfl, rfl⟩ rfl rfl rfl rfl rfl (by kernel_rfl) Try.func7 (by kernel_rfl)
    (of_decide_eq_true (by kernel_rfl)) (by unfold Func.isWrapper; first | (rw [if_pos (by decide +kernel)]; kernel_rfl) | (rw [if_neg (by decide +kernel)]; exact ⟨rfl, rfl⟩))
    (fun os started H enc _ F => lifted os started H enc F)

theorem proved : Rows.CodecNobodyUptoSaid := over
end Go.Proofs.Ytknmgphnkfeifaa.codecNobody
