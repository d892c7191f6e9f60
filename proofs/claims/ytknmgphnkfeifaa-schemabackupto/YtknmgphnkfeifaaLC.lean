/- A table that may be is put, and taken as it was, with what stands behind it left, and is one for which its columns are found by their names, and a row of Nulls fits. Conditions: none. -/
import Derived.Test.YtknmgphnkfeifaaWC
import Derived.Test.YtknmgphnkfeifaaQ06g
import Derived.Test.YtknmgphnkfeifaaAbRd
import Derived.Test.YtknmgphnkfeifaaRows
namespace Go.Proofs.Ytknmgphnkfeifaa.schemaBack
open Go Go.Ab Go.Ab.S1 Go.Pl
open Go.ChangeShapes Go.WideShapes Go.ChangeAt Go.RowKit
set_option linter.unusedVariables false
set_option linter.unusedSimpArgs false
set_option maxRecDepth 100000
theorem own : ownKnob Try.prog.godebug = none := by kernel_rfl
theorem bulk {H : Type} : Bulk (H := H) Rows.uptoBulk Rows.uptoBulkAll :=
  ⟨fun b => by simp [Rows.uptoBulk], fun l => by cases l <;> simp [Rows.uptoBulk], by simp [Rows.uptoBulk], fun d => by simp [Rows.uptoBulk], fun a b => by simp [Rows.uptoBulk], fun a => by simp [Rows.uptoBulk],
    by simp [Rows.uptoBulkAll], fun d r => by simp [Rows.uptoBulkAll]⟩
theorem rd9 : RdT Go.Proofs.Try.prog 9 rS wS := rd_str (by kernel_rfl)
theorem rd3 : RdT Go.Proofs.Try.prog 3 (rI .i64) (wI .i64) := rd_int (by kernel_rfl)
theorem rd72 : RdT Go.Proofs.Try.prog 72 R_api_Column W_api_Column := by
  intro n qs hq hb
  cases n with
  | zero => exact hq.elim
  | succ n =>
  have u : Go.Proofs.Try.prog.underlying 72 = some (.struct (fieldsIn Go.Proofs.Try.prog 72)) := by kernel_rfl
  have hl := rd_len (sz := 2) u (by kernel_rfl) hq
  obtain ⟨x0, e0, w0⟩ := rd_part (i := 0) (off := 0) (sz := 1) u (by kernel_rfl) (by kernel_rfl) rd9 hq hb
  obtain ⟨x1, e1, w1⟩ := rd_part (i := 1) (off := 1) (sz := 1) u (by kernel_rfl) (by kernel_rfl) rd3 hq hb
  match qs, hl with
  | [c0, c1], _ =>
  simp only [List.drop_zero, List.drop_succ_cons, List.take_succ_cons, List.take_zero, rI, rF, rB, rS, rSl, List.cons.injEq, and_true] at e0 e1
  subst e0
  subst e1
  exact ⟨⟨x0, x1⟩, rfl, w0, w1⟩
theorem rd22 : RdT Go.Proofs.Try.prog 22 (rSl R_api_Column) (wSl W_api_Column) := rd_slice (e := 72) (by kernel_rfl) (fun x h => nomatch h) rd72
theorem rd24 : RdT Go.Proofs.Try.prog 24 R_api_Table W_api_Table := by
  intro n qs hq hb
  cases n with
  | zero => exact hq.elim
  | succ n =>
  have u : Go.Proofs.Try.prog.underlying 24 = some (.struct (fieldsIn Go.Proofs.Try.prog 24)) := by kernel_rfl
  have hl := rd_len (sz := 2) u (by kernel_rfl) hq
  obtain ⟨x0, e0, w0⟩ := rd_part (i := 0) (off := 0) (sz := 1) u (by kernel_rfl) (by kernel_rfl) rd9 hq hb
  obtain ⟨x1, e1, w1⟩ := rd_part (i := 1) (off := 1) (sz := 1) u (by kernel_rfl) (by kernel_rfl) rd22 hq hb
  match qs, hl with
  | [c0, c1], _ =>
  simp only [List.drop_zero, List.drop_succ_cons, List.take_succ_cons, List.take_zero, rI, rF, rB, rS, rSl, List.cons.injEq, and_true] at e0 e1
  subst e0
  subst e1
  exact ⟨⟨x0, x1⟩, rfl, w0, w1⟩
theorem rd5 : RdT Go.Proofs.Try.prog 5 (rI .u8) (wI .u8) := rd_int (by kernel_rfl)
theorem rd35 : RdT Go.Proofs.Try.prog 35 (rSl (rI .u8)) (wSl (wI .u8)) := rd_slice (e := 5) (by kernel_rfl) (fun x h => nomatch h) rd5
theorem spec (xs : List AV) (h : ArgsT Go.Proofs.Try.prog [24, 35] xs 1048576) : ∃ N H', call G N 10 xs [] = some (.ret (.pv (.bool true)), H') := by
  match xs, h with
  | [x0, x1], h =>
    obtain ⟨n0, q0, c0, h0, f0, d0, n1, q1, c1, h1, f1, d1, _⟩ := h
    obtain ⟨z0, rfl, w0⟩ := rd_arg1 (b := 0) rd24 (by kernel_rfl) h0 (by omega) f0
    obtain ⟨z1, ⟨p1, g1, rfl⟩, w1⟩ := rd_arg0 (b := 0) rd35 (by kernel_rfl) h1 (by omega) f1
    obtain rfl := (List.cons.inj g1).1
    exact ⟨4000000, [], ok_law06_SchemaBack (r := true) (schemaBack_true rfl w0 w1)⟩

theorem contract (H : Type) (enc : TypeId × Value → H) (W : World) (base : Nat) (args : Array Value) (ds gs : List (DataW H)) (before : List MemPlace)
    (hval : ∀ (j : Nat) t v, Try.f10.params[j]? = some t → args[j]? = some v → Value.okWide Try.prog W .any base t v)
    (hW : DataW.Whole enc Try.prog Try.f10.params.toList Rows.schemaBackSpec.vars false W args.toList ds gs before) (hk : Rows.uptoBulkAll ds ≤ 1048576) :
    Calls Try.prog 10 args W fun e W' => ∃ v, e = .returned v ∧ Rows.schemaBackSpec.post enc Try.prog Try.f10 false true false false W args v W' :=
  law_contractG G_ok GP (t0 := 4) (bound := 1048576) [9, 3, 72, 22, 24, 5, 35] (by kernel_rfl) bulk (by kernel_rfl) (by kernel_rfl) rfl (by kernel_rfl) (by kernel_rfl) (by kernel_rfl) rfl
    (fun ds hds => by
      match ds, hds with
      | [d0, d1], _ => rfl)
    spec W base args ds gs before hval hW hk

theorem lifted (os : Os) (started : os.Started) (H : Type) (enc : TypeId × Value → H) (F : Stop.Interp) :
    ReturnsInHanded {} Try.checked os 10 .any ((Rows.OpenSpec.upto Rows.schemaBackSpec).pre6 enc Try.prog Try.f10 Rows.schemaBackUptoRow.domain false) (((Rows.OpenSpec.upto Rows.schemaBackSpec).at F).post enc Try.prog Try.f10 false true false false) := by
  refine returnsInHanded_of_cond (C := Try.checked) (s := Rows.OpenSpec.upto Rows.schemaBackSpec) (k := Rows.uptoSmall) rfl own started (by kernel_rfl) Try.func10
    (OpenSpec.witness (enc := enc) (C := Try.checked) (s := Rows.OpenSpec.upto Rows.schemaBackSpec) (k := Rows.uptoSmall) rfl false ⟨#[], #[.agg #[.string ByteArray.empty, .slice none 0 0], .slice none 0 0], []⟩ 8 (by kernel_rfl) (by kernel_rfl) (by kernel_rfl)
      (x := ([.agg [.lit (.string []), .nil], .nil], [], [])) (by kernel_rfl) rfl (by kernel_rfl)) ?_
  intro W base args ds gs before hval hW _ hk _
  have hb : Rows.uptoBulkAll ds ≤ 1048576 := by
    have h1 : gs = [] := by
      obtain ⟨p, q, hA, hV, _⟩ := hW
      exact (trodVars_none hV).1
    rw [h1, List.append_nil] at hk
    simpa [Rows.uptoSmall] using hk
  exact contract H enc W base args ds gs before hval hW hb

theorem over : Rows.schemaBackUptoRow.holds Try.pinned (Rows.OpenSpec.upto Rows.schemaBackSpec) :=
  OpenClaim.holds_of_cond 10 Try.f10 rfl rfl rfl rfl rfl rfl rfl ⟨rfl, rfl, rfl, rfl, rfl⟩ rfl rfl rfl rfl rfl (by kernel_rfl) Try.func10 (by kernel_rfl)
    (of_decide_eq_true (by kernel_rfl)) (by unfold Func.isWrapper; first | (rw [if_pos (by decide +kernel)]; kernel_rfl) | (rw [if_neg (by decide +kernel)]; exact ⟨rfl, rfl⟩))
    (fun os started H enc _ F => lifted os started H enc F)

theorem proved : Rows.SchemaBackUptoSaid := over
end Go.Proofs.Ytknmgphnkfeifaa.schemaBack
