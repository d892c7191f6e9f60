/- What may be known of a table is put and taken as it was, with what stands behind it left, and is put as the same bytes again: true for all inputs, of arguments of at most 1048576 units of bulk. -/
import Derived.Test.YtjbhpopccbhhlaaWB3
import Derived.Test.YtjbhpopccbhhlaaSB2
import Derived.Test.YtjbhpopccbhhlaaAbRd
import Derived.Test.YtjbhpopccbhhlaaAbArr
import Derived.Test.YtjbhpopccbhhlaaRows
namespace Go.Proofs.Ytjbhpopccbhhlaa.statBack
open Go Go.Ab Go.Ab.S1 Go.Pl
open Go.ChangeShapes Go.WideShapes Go.ChangeAt Go.RowKit
set_option linter.unusedVariables false
set_option linter.unusedSimpArgs false
set_option maxRecDepth 100000
theorem own : ownKnob Try.prog.godebug = none := by kernel_rfl
theorem bulk {H : Type} : Bulk (H := H) Rows.uptoBulk Rows.uptoBulkAll :=
  ⟨fun b => by simp [Rows.uptoBulk], fun l => by cases l <;> simp [Rows.uptoBulk], by simp [Rows.uptoBulk], fun d => by simp [Rows.uptoBulk], fun a b => by simp [Rows.uptoBulk], fun a => by simp [Rows.uptoBulk],
    by simp [Rows.uptoBulkAll], fun d r => by simp [Rows.uptoBulkAll]⟩
theorem rd3 : RdT Go.Proofs.Try.prog 3 (rI .i64) (wI .i64) := rd_int (by kernel_rfl)
theorem rd2 : RdT Go.Proofs.Try.prog 2 (rI .i64) (wI .i64) := rd_int (by kernel_rfl)
theorem rd62 : RdT Go.Proofs.Try.prog 62 (rF .f64) (wF .f64) := rd_flt (by kernel_rfl)
theorem rd9 : RdT Go.Proofs.Try.prog 9 rS wS := rd_str (by kernel_rfl)
theorem rd64 : RdT Go.Proofs.Try.prog 64 R_api_Value W_api_Value := by
  intro n qs hq hb
  cases n with
  | zero => exact hq.elim
  | succ n =>
  have u : Go.Proofs.Try.prog.underlying 64 = some (.struct (fieldsIn Go.Proofs.Try.prog 64)) := by kernel_rfl
  have hl := rd_len (sz := 4) u (by kernel_rfl) hq
  obtain ⟨x0, e0, w0⟩ := rd_part (i := 0) (off := 0) (sz := 1) u (by kernel_rfl) (by kernel_rfl) rd3 hq hb
  obtain ⟨x1, e1, w1⟩ := rd_part (i := 1) (off := 1) (sz := 1) u (by kernel_rfl) (by kernel_rfl) rd2 hq hb
  obtain ⟨x2, e2, w2⟩ := rd_part (i := 2) (off := 2) (sz := 1) u (by kernel_rfl) (by kernel_rfl) rd62 hq hb
  obtain ⟨x3, e3, w3⟩ := rd_part (i := 3) (off := 3) (sz := 1) u (by kernel_rfl) (by kernel_rfl) rd9 hq hb
  match qs, hl with
  | [c0, c1, c2, c3], _ =>
  simp only [List.drop_zero, List.drop_succ_cons, List.take_succ_cons, List.take_zero, rI, rF, rB, rS, rSl, List.cons.injEq, and_true] at e0 e1 e2 e3
  subst e0
  subst e1
  subst e2
  subst e3
  exact ⟨⟨x0, x1, x2, x3⟩, rfl, w0, w1, w2, w3⟩
theorem rd80 : RdT Go.Proofs.Try.prog 80 R_tabularyref19_Bucket W_tabularyref19_Bucket := by
  intro n qs hq hb
  cases n with
  | zero => exact hq.elim
  | succ n =>
  have u : Go.Proofs.Try.prog.underlying 80 = some (.struct (fieldsIn Go.Proofs.Try.prog 80)) := by kernel_rfl
  have hl := rd_len (sz := 10) u (by kernel_rfl) hq
  obtain ⟨x0, e0, w0⟩ := rd_part (i := 0) (off := 0) (sz := 4) u (by kernel_rfl) (by kernel_rfl) rd64 hq hb
  obtain ⟨x1, e1, w1⟩ := rd_part (i := 1) (off := 4) (sz := 4) u (by kernel_rfl) (by kernel_rfl) rd64 hq hb
  obtain ⟨x2, e2, w2⟩ := rd_part (i := 2) (off := 8) (sz := 1) u (by kernel_rfl) (by kernel_rfl) rd3 hq hb
  obtain ⟨x3, e3, w3⟩ := rd_part (i := 3) (off := 9) (sz := 1) u (by kernel_rfl) (by kernel_rfl) rd3 hq hb
  match qs, hl with
  | [c0, c1, c2, c3, c4, c5, c6, c7, c8, c9], _ =>
  simp only [List.drop_zero, List.drop_succ_cons, List.take_succ_cons, List.take_zero, rI, rF, rB, rS, rSl, R_api_Value, List.cons.injEq, and_true] at e0 e1 e2 e3
  obtain ⟨rfl, rfl, rfl, rfl⟩ := e0
  obtain ⟨rfl, rfl, rfl, rfl⟩ := e1
  subst e2
  subst e3
  exact ⟨⟨x0, x1, x2, x3⟩, rfl, w0, w1, w2, w3⟩
theorem rd56 : RdT Go.Proofs.Try.prog 56 (rSl R_tabularyref19_Bucket) (wSl W_tabularyref19_Bucket) := rd_slice (e := 80) (by kernel_rfl) (fun x h => nomatch h) rd80
theorem rd52 : RdT Go.Proofs.Try.prog 52 (rSl R_api_Value) (wSl W_api_Value) := rd_slice (e := 64) (by kernel_rfl) (fun x h => nomatch h) rd64
theorem rd5 : RdT Go.Proofs.Try.prog 5 (rI .u8) (wI .u8) := rd_int (by kernel_rfl)
theorem rd85 : RdT Go.Proofs.Try.prog 85 (rA .u8 64) (wA .u8 64) := rd_arr (by kernel_rfl) (by kernel_rfl) (by kernel_rfl) rd5
theorem rd87 : RdT Go.Proofs.Try.prog 87 R_tabularyref20_Col W_tabularyref20_Col := by
  intro n qs hq hb
  cases n with
  | zero => exact hq.elim
  | succ n =>
  have u : Go.Proofs.Try.prog.underlying 87 = some (.struct (fieldsIn Go.Proofs.Try.prog 87)) := by kernel_rfl
  have hl := rd_len (sz := 69) u (by kernel_rfl) hq
  obtain ⟨x0, e0, w0⟩ := rd_part (i := 0) (off := 0) (sz := 1) u (by kernel_rfl) (by kernel_rfl) rd3 hq hb
  obtain ⟨x1, e1, w1⟩ := rd_part (i := 1) (off := 1) (sz := 1) u (by kernel_rfl) (by kernel_rfl) rd3 hq hb
  obtain ⟨x2, e2, w2⟩ := rd_part (i := 2) (off := 2) (sz := 1) u (by kernel_rfl) (by kernel_rfl) rd3 hq hb
  obtain ⟨x3, e3, w3⟩ := rd_part (i := 3) (off := 3) (sz := 1) u (by kernel_rfl) (by kernel_rfl) rd56 hq hb
  obtain ⟨x4, e4, w4⟩ := rd_part (i := 4) (off := 4) (sz := 1) u (by kernel_rfl) (by kernel_rfl) rd52 hq hb
  obtain ⟨x5, e5, w5⟩ := rd_part (i := 5) (off := 5) (sz := 64) u (by kernel_rfl) (by kernel_rfl) rd85 hq hb
  have j : qs = _ := take_join (o' := 1) e0 rfl (take_join (o' := 2) e1 rfl (take_join (o' := 3) e2 rfl (take_join (o' := 4) e3 rfl (take_join (o' := 5) e4 rfl (take_join (o' := 69) e5 rfl (take_end hl))))))
  exact ⟨⟨x0, x1, x2, x3, x4, x5⟩, j.trans (by kernel_rfl), w0, w1, w2, w3, w4, w5⟩
theorem rd22 : RdT Go.Proofs.Try.prog 22 (rSl R_tabularyref20_Col) (wSl W_tabularyref20_Col) := rd_slice (e := 87) (by kernel_rfl) (fun x h => nomatch h) rd87
theorem rd24 : RdT Go.Proofs.Try.prog 24 R_tabularyref20_Stat W_tabularyref20_Stat := by
  intro n qs hq hb
  cases n with
  | zero => exact hq.elim
  | succ n =>
  have u : Go.Proofs.Try.prog.underlying 24 = some (.struct (fieldsIn Go.Proofs.Try.prog 24)) := by kernel_rfl
  have hl := rd_len (sz := 2) u (by kernel_rfl) hq
  obtain ⟨x0, e0, w0⟩ := rd_part (i := 0) (off := 0) (sz := 1) u (by kernel_rfl) (by kernel_rfl) rd3 hq hb
  obtain ⟨x1, e1, w1⟩ := rd_part (i := 1) (off := 1) (sz := 1) u (by kernel_rfl) (by kernel_rfl) rd22 hq hb
  match qs, hl with
  | [c0, c1], _ =>
  simp only [List.drop_zero, List.drop_succ_cons, List.take_succ_cons, List.take_zero, rI, rF, rB, rS, rSl, List.cons.injEq, and_true] at e0 e1
  subst e0
  subst e1
  exact ⟨⟨x0, x1⟩, rfl, w0, w1⟩
theorem rd43 : RdT Go.Proofs.Try.prog 43 (rSl (rI .u8)) (wSl (wI .u8)) := rd_slice (e := 5) (by kernel_rfl) (fun x h => nomatch h) rd5
theorem spec (xs : List AV) (h : ArgsT Go.Proofs.Try.prog [24, 43] xs 1048576) : ∃ N H', call G N 4 xs [] = some (.ret (.pv (.bool true)), H') := by
  match xs, h with
  | [x0, x1], h =>
    obtain ⟨n0, q0, c0, h0, f0, d0, n1, q1, c1, h1, f1, d1, _⟩ := h
    obtain ⟨z0, rfl, w0⟩ := rd_arg1 (b := 0) rd24 (by kernel_rfl) h0 (by omega) f0
    obtain ⟨z1, ⟨p1, g1, rfl⟩, w1⟩ := rd_arg0 (b := 0) rd43 (by kernel_rfl) h1 (by omega) f1
    obtain rfl := (List.cons.inj g1).1
    exact ⟨4000000, [], ok_law20_StatBack (r := true) (StatBack_true rfl w0 w1)⟩

theorem contract (H : Type) (enc : TypeId × Value → H) (W : World) (base : Nat) (args : Array Value) (ds gs : List (DataW H)) (before : List MemPlace)
    (hval : ∀ (j : Nat) t v, Try.f4.params[j]? = some t → args[j]? = some v → Value.okWide Try.prog W .any base t v)
    (hW : DataW.Whole enc Try.prog Try.f4.params.toList Rows.statBackSpec.vars false W args.toList ds gs before) (hk : Rows.uptoBulkAll ds ≤ 1048576) :
    Calls Try.prog 4 args W fun e W' => ∃ v, e = .returned v ∧ Rows.statBackSpec.post enc Try.prog Try.f4 false true false false W args v W' :=
  law_contractG G_ok GP (t0 := 4) (bound := 1048576) [3, 2, 62, 9, 64, 80, 56, 52, 5, 85, 87, 22, 24, 43] (by kernel_rfl) bulk (by kernel_rfl) (by kernel_rfl) rfl (by kernel_rfl) (by kernel_rfl) (by kernel_rfl) rfl
    (fun ds hds => by
      match ds, hds with
      | [d0, d1], _ => rfl)
    spec W base args ds gs before hval hW hk

theorem lifted (os : Os) (started : os.Started) (H : Type) (enc : TypeId × Value → H) (F : Stop.Interp) :
    ReturnsInHanded {} Try.checked os 4 .any ((Rows.OpenSpec.upto Rows.statBackSpec).pre6 enc Try.prog Try.f4 Rows.statBackUptoRow.domain false) (((Rows.OpenSpec.upto Rows.statBackSpec).at F).post enc Try.prog Try.f4 false true false false) := by
  refine returnsInHanded_of_cond (C := Try.checked) (s := Rows.OpenSpec.upto Rows.statBackSpec) (k := Rows.uptoSmall) rfl own started (by kernel_rfl) Try.func4
    (OpenSpec.witness (enc := enc) (C := Try.checked) (s := Rows.OpenSpec.upto Rows.statBackSpec) (k := Rows.uptoSmall) rfl false ⟨#[], #[.agg #[.int .i64 0, .slice none 0 0], .slice none 0 0], []⟩ 8 (by kernel_rfl) (by kernel_rfl) (by kernel_rfl)
      (x := ([.agg [.lit (.int .i64 0), .nil], .nil], [], [])) (by kernel_rfl) rfl (by kernel_rfl)) ?_
  intro W base args ds gs before hval hW _ hk _
  have hb : Rows.uptoBulkAll ds ≤ 1048576 := by
    have h1 : gs = [] := by
      obtain ⟨p, q, hA, hV, _⟩ := hW
      exact (trodVars_none hV).1
    rw [h1, List.append_nil] at hk
    simpa [Rows.uptoSmall] using hk
  exact contract H enc W base args ds gs before hval hW hb

theorem over : Rows.statBackUptoRow.holds Try.pinned (Rows.OpenSpec.upto Rows.statBackSpec) :=
  OpenClaim.holds_of_cond 4 Try.f4 rfl rfl rfl rfl rfl rfl rfl ⟨rfl, rfl, rfl, rfl, rfl⟩ rfl rfl rfl rfl rfl (by kernel_rfl) Try.func4 (by kernel_rfl)
    (of_decide_eq_true (by kernel_rfl)) (by unfold Func.isWrapper; first | (rw [if_pos (by decide +kernel)]; kernel_rfl) | (rw [if_neg (by decide +kernel)]; exact ⟨rfl, rfl⟩))
    (fun os started H enc _ F => lifted os started H enc F)

theorem proved : Rows.StatBackUptoSaid := over
end Go.Proofs.Ytjbhpopccbhhlaa.statBack
