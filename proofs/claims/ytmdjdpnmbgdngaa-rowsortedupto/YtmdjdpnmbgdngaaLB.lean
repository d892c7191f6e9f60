/- What is sorted is the same bag, stands in the order, and is as it was when it is sorted again; rows that are already in the order stay as they stand: true for all inputs, of arguments of at most 1048576 units of bulk. -/
import Derived.Test.YtmdjdpnmbgdngaaWB3
import Derived.Test.YtmdjdpnmbgdngaaSTA
import Derived.Test.YtmdjdpnmbgdngaaAbRd
import Derived.Test.YtmdjdpnmbgdngaaAbArr
import Derived.Test.YtmdjdpnmbgdngaaRows
namespace Go.Proofs.Ytmdjdpnmbgdngaa.rowSorted
open Go Go.Ab Go.Ab.S1 Go.Pl
open Go.ChangeShapes Go.WideShapes Go.ChangeAt Go.RowKit
set_option linter.unusedVariables false
set_option linter.unusedSimpArgs false
set_option maxRecDepth 100000
theorem own : ownKnob Try.prog.godebug = none := by kernel_rfl
theorem bulk {H : Type} : Bulk (H := H) Rows.uptoBulk Rows.uptoBulkAll :=
  ⟨fun b => by simp [Rows.uptoBulk], fun l => by cases l <;> simp [Rows.uptoBulk], by simp [Rows.uptoBulk], fun d => by simp [Rows.uptoBulk], fun a b => by simp [Rows.uptoBulk], fun a => by simp [Rows.uptoBulk],
    by simp [Rows.uptoBulkAll], fun d r => by simp [Rows.uptoBulkAll]⟩
theorem rd3 : RdT Go.Proofs.Try.prog 3 (rI .i64) (wI .i64) := rd_int (by kernel_rfl)
theorem rd2 : RdT Go.Proofs.Try.prog 2 (rI .i64) (wI .i64) := rd_int (by kernel_rfl)
theorem rd36 : RdT Go.Proofs.Try.prog 36 (rF .f64) (wF .f64) := rd_flt (by kernel_rfl)
theorem rd9 : RdT Go.Proofs.Try.prog 9 rS wS := rd_str (by kernel_rfl)
theorem rd38 : RdT Go.Proofs.Try.prog 38 R_api_Value W_api_Value := by
  intro n qs hq hb
  cases n with
  | zero => exact hq.elim
  | succ n =>
  have u : Go.Proofs.Try.prog.underlying 38 = some (.struct (fieldsIn Go.Proofs.Try.prog 38)) := by kernel_rfl
  have hl := rd_len (sz := 4) u (by kernel_rfl) hq
  obtain ⟨x0, e0, w0⟩ := rd_part (i := 0) (off := 0) (sz := 1) u (by kernel_rfl) (by kernel_rfl) rd3 hq hb
  obtain ⟨x1, e1, w1⟩ := rd_part (i := 1) (off := 1) (sz := 1) u (by kernel_rfl) (by kernel_rfl) rd2 hq hb
  obtain ⟨x2, e2, w2⟩ := rd_part (i := 2) (off := 2) (sz := 1) u (by kernel_rfl) (by kernel_rfl) rd36 hq hb
  obtain ⟨x3, e3, w3⟩ := rd_part (i := 3) (off := 3) (sz := 1) u (by kernel_rfl) (by kernel_rfl) rd9 hq hb
  match qs, hl with
  | [c0, c1, c2, c3], _ =>
  simp only [List.drop_zero, List.drop_succ_cons, List.take_succ_cons, List.take_zero, rI, rF, rB, rS, rSl, List.cons.injEq, and_true] at e0 e1 e2 e3
  subst e0
  subst e1
  subst e2
  subst e3
  exact ⟨⟨x0, x1, x2, x3⟩, rfl, w0, w1, w2, w3⟩
theorem rd22 : RdT Go.Proofs.Try.prog 22 (rSl R_api_Value) (wSl W_api_Value) := rd_slice (e := 38) (by kernel_rfl) (fun x h => nomatch h) rd38
theorem rd25 : RdT Go.Proofs.Try.prog 25 (rSl (rSl R_api_Value)) (wSl (wSl W_api_Value)) := rd_slice (e := 22) (by kernel_rfl) (fun x h => nomatch h) rd22
theorem rd4 : RdT Go.Proofs.Try.prog 4 rB wB := rd_bool (by kernel_rfl)
theorem rd54 : RdT Go.Proofs.Try.prog 54 R_api_Key W_api_Key := by
  intro n qs hq hb
  cases n with
  | zero => exact hq.elim
  | succ n =>
  have u : Go.Proofs.Try.prog.underlying 54 = some (.struct (fieldsIn Go.Proofs.Try.prog 54)) := by kernel_rfl
  have hl := rd_len (sz := 2) u (by kernel_rfl) hq
  obtain ⟨x0, e0, w0⟩ := rd_part (i := 0) (off := 0) (sz := 1) u (by kernel_rfl) (by kernel_rfl) rd3 hq hb
  obtain ⟨x1, e1, w1⟩ := rd_part (i := 1) (off := 1) (sz := 1) u (by kernel_rfl) (by kernel_rfl) rd4 hq hb
  match qs, hl with
  | [c0, c1], _ =>
  simp only [List.drop_zero, List.drop_succ_cons, List.take_succ_cons, List.take_zero, rI, rF, rB, rS, rSl, List.cons.injEq, and_true] at e0 e1
  subst e0
  subst e1
  exact ⟨⟨x0, x1⟩, rfl, w0, w1⟩
theorem rd23 : RdT Go.Proofs.Try.prog 23 (rSl R_api_Key) (wSl W_api_Key) := rd_slice (e := 54) (by kernel_rfl) (fun x h => nomatch h) rd54
theorem spec (xs : List AV) (h : ArgsT Go.Proofs.Try.prog [25, 23] xs 1048576) : ∃ N H', call G N 7 xs [] = some (.ret (.pv (.bool true)), H') := by
  match xs, h with
  | [x0, x1], h =>
    obtain ⟨n0, q0, c0, h0, f0, d0, n1, q1, c1, h1, f1, d1, _⟩ := h
    obtain ⟨z0, ⟨p0, g0, rfl⟩, w0⟩ := rd_arg0 (b := 0) rd25 (by kernel_rfl) h0 (by omega) f0
    obtain rfl := (List.cons.inj g0).1
    obtain ⟨z1, ⟨p1, g1, rfl⟩, w1⟩ := rd_arg0 (b := 0) rd23 (by kernel_rfl) h1 (by omega) f1
    obtain rfl := (List.cons.inj g1).1
    exact ⟨4000000, [], ok_law05_RowSorted (r := true) (RowSorted_true rfl w0 w1)⟩

theorem contract (H : Type) (enc : TypeId × Value → H) (W : World) (base : Nat) (args : Array Value) (ds gs : List (DataW H)) (before : List MemPlace)
    (hval : ∀ (j : Nat) t v, Try.f7.params[j]? = some t → args[j]? = some v → Value.okWide Try.prog W .any base t v)
    (hW : DataW.Whole enc Try.prog Try.f7.params.toList Rows.rowSortedSpec.vars false W args.toList ds gs before) (hk : Rows.uptoBulkAll ds ≤ 1048576) :
    Calls Try.prog 7 args W fun e W' => ∃ v, e = .returned v ∧ Rows.rowSortedSpec.post enc Try.prog Try.f7 false true false false W args v W' :=
  law_contractG G_ok GP (t0 := 4) (bound := 1048576) [3, 2, 36, 9, 38, 22, 25, 4, 54, 23] (by kernel_rfl) bulk (by kernel_rfl) (by kernel_rfl) rfl (by kernel_rfl) (by kernel_rfl) (by kernel_rfl) rfl
    (fun ds hds => by
      match ds, hds with
      | [d0, d1], _ => rfl)
    spec W base args ds gs before hval hW hk

theorem lifted (os : Os) (started : os.Started) (H : Type) (enc : TypeId × Value → H) (F : Stop.Interp) :
    ReturnsInHanded {} Try.checked os 7 .any ((Rows.OpenSpec.upto Rows.rowSortedSpec).pre6 enc Try.prog Try.f7 Rows.rowSortedUptoRow.domain false) (((Rows.OpenSpec.upto Rows.rowSortedSpec).at F).post enc Try.prog Try.f7 false true false false) := by
  refine returnsInHanded_of_cond (C := Try.checked) (s := Rows.OpenSpec.upto Rows.rowSortedSpec) (k := Rows.uptoSmall) rfl own started (by kernel_rfl) Try.func7
    (OpenSpec.witness (enc := enc) (C := Try.checked) (s := Rows.OpenSpec.upto Rows.rowSortedSpec) (k := Rows.uptoSmall) rfl false ⟨#[], #[.slice none 0 0, .slice none 0 0], []⟩ 8 (by kernel_rfl) (by kernel_rfl) (by kernel_rfl)
      (x := ([.nil, .nil], [], [])) (by kernel_rfl) rfl (by kernel_rfl)) ?_
  intro W base args ds gs before hval hW _ hk _
  have hb : Rows.uptoBulkAll ds ≤ 1048576 := by
    have h1 : gs = [] := by
      obtain ⟨p, q, hA, hV, _⟩ := hW
      exact (trodVars_none hV).1
    rw [h1, List.append_nil] at hk
    simpa [Rows.uptoSmall] using hk
  exact contract H enc W base args ds gs before hval hW hb

theorem over : Rows.rowSortedUptoRow.holds Try.pinned (Rows.OpenSpec.upto Rows.rowSortedSpec) :=
  OpenClaim.holds_of_cond 7 Try.f7 rfl rfl rfl rfl rfl rfl rfl ⟨rfl, rfl, rfl, rfl, rfl⟩ rfl rfl rfl rfl rfl (by kernel_rfl) Try.func7 (by kernel_rfl)
    (of_decide_eq_true (by kernel_rfl)) (by unfold Func.isWrapper; first | (rw [if_pos (by decide +kernel)]; kernel_rfl) | (rw [if_neg (by decide +kernel)]; exact ⟨rfl, rfl⟩))
    (fun os started H enc _ F => lifted os started H enc F)

theorem proved : Rows.RowSortedUptoSaid := over
end Go.Proofs.Ytmdjdpnmbgdngaa.rowSorted
