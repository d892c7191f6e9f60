/- Bytes that are taken as a table are, as far as they were read, what is put of it. Conditions: none. -/
import Derived.Test.YtknmgphnkfeifaaWB
import Derived.Test.YtknmgphnkfeifaaQ06f
import Derived.Test.YtknmgphnkfeifaaAbRd
import Derived.Test.YtknmgphnkfeifaaRows
namespace Go.Proofs.Ytknmgphnkfeifaa.schemaOne
open Go Go.Ab Go.Ab.S1 Go.Pl
open Go.ChangeShapes Go.WideShapes Go.ChangeAt Go.RowKit
set_option linter.unusedVariables false
set_option linter.unusedSimpArgs false
set_option maxRecDepth 100000
theorem own : ownKnob Try.prog.godebug = none := by kernel_rfl
theorem bulk {H : Type} : Bulk (H := H) Rows.uptoBulk Rows.uptoBulkAll :=
  ⟨fun b => by simp [Rows.uptoBulk], fun l => by cases l <;> simp [Rows.uptoBulk], by simp [Rows.uptoBulk], fun d => by simp [Rows.uptoBulk], fun a b => by simp [Rows.uptoBulk], fun a => by simp [Rows.uptoBulk],
    by simp [Rows.uptoBulkAll], fun d r => by simp [Rows.uptoBulkAll]⟩
theorem rd5 : RdT Go.Proofs.Try.prog 5 (rI .u8) (wI .u8) := rd_int (by kernel_rfl)
theorem rd35 : RdT Go.Proofs.Try.prog 35 (rSl (rI .u8)) (wSl (wI .u8)) := rd_slice (e := 5) (by kernel_rfl) (fun x h => nomatch h) rd5
theorem spec (xs : List AV) (h : ArgsT Go.Proofs.Try.prog [35] xs 1048576) : ∃ N H', call G N 9 xs [] = some (.ret (.pv (.bool true)), H') := by
  match xs, h with
  | [x0], h =>
    obtain ⟨n0, q0, c0, h0, f0, d0, _⟩ := h
    obtain ⟨z0, ⟨p0, g0, rfl⟩, w0⟩ := rd_arg0 (b := 0) rd35 (by kernel_rfl) h0 (by omega) f0
    obtain rfl := (List.cons.inj g0).1
    exact ⟨4000000, [], ok_law06_SchemaOne (r := true) (schemaOne_true rfl w0)⟩

theorem contract (H : Type) (enc : TypeId × Value → H) (W : World) (base : Nat) (args : Array Value) (ds gs : List (DataW H)) (before : List MemPlace)
    (hval : ∀ (j : Nat) t v, Try.f9.params[j]? = some t → args[j]? = some v → Value.okWide Try.prog W .any base t v)
    (hW : DataW.Whole enc Try.prog Try.f9.params.toList Rows.schemaOneSpec.vars false W args.toList ds gs before) (hk : Rows.uptoBulkAll ds ≤ 1048576) :
    Calls Try.prog 9 args W fun e W' => ∃ v, e = .returned v ∧ Rows.schemaOneSpec.post enc Try.prog Try.f9 false true false false W args v W' :=
  law_contractG G_ok GP (t0 := 4) (bound := 1048576) [5, 35] (by kernel_rfl) bulk (by kernel_rfl) (by kernel_rfl) rfl (by kernel_rfl) (by kernel_rfl) (by kernel_rfl) rfl
    (fun ds hds => by
      match ds, hds with
      | [d0], _ => rfl)
    spec W base args ds gs before hval hW hk

theorem lifted (os : Os) (started : os.Started) (H : Type) (enc : TypeId × Value → H) (F : Stop.Interp) :
    ReturnsInHanded {} Try.checked os 9 .any ((Rows.OpenSpec.upto Rows.schemaOneSpec).pre6 enc Try.prog Try.f9 Rows.schemaOneUptoRow.domain false) (((Rows.OpenSpec.upto Rows.schemaOneSpec).at F).post enc Try.prog Try.f9 false true false false) := by
  refine returnsInHanded_of_cond (C := Try.checked) (s := Rows.OpenSpec.upto Rows.schemaOneSpec) (k := Rows.uptoSmall) rfl own started (by kernel_rfl) Try.func9
    (OpenSpec.witness (enc := enc) (C := Try.checked) (s := Rows.OpenSpec.upto Rows.schemaOneSpec) (k := Rows.uptoSmall) rfl false ⟨#[], #[.slice none 0 0], []⟩ 8 (by kernel_rfl) (by kernel_rfl) (by kernel_rfl)
      (x := ([.nil], [], [])) (by kernel_rfl) rfl (by kernel_rfl)) ?_
  intro W base args ds gs before hval hW _ hk _
  have hb : Rows.uptoBulkAll ds ≤ 1048576 := by
    have h1 : gs = [] := by
      obtain ⟨p, q, hA, hV, _⟩ := hW
      exact (trodVars_none hV).1
    rw [h1, List.append_nil] at hk
    simpa [Rows.uptoSmall] using hk
  exact contract H enc W base args ds gs before hval hW hb

theorem over : Rows.schemaOneUptoRow.holds Try.pinned (Rows.OpenSpec.upto Rows.schemaOneSpec) :=
  OpenClaim.holds_of_cond 9 Try.f9 rfl rfl rfl rfl rfl rfl rfl ⟨rfl, rfl, rfl, rfl, rfl⟩ rfl rfl rfl rfl rfl (by kernel_rfl) Try.func9 (by kernel_rfl)
    (of_decide_eq_true (by kernel_rfl)) (by unfold Func.isWrapper; first | (rw [if_pos (by decide +kernel)]; kernel_rfl) | (rw [if_neg (by decide +kernel)]; exact ⟨rfl, rfl⟩))
    (fun os started H enc _ F => lifted os started H enc F)

theorem proved : Rows.SchemaOneUptoSaid := over
end Go.Proofs.Ytknmgphnkfeifaa.schemaOne
