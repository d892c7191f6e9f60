/- What a plan costs does not hang on the conditions that its plans apply, and it costs at least what each of its kids costs. -/
import Derived.Test.YtejbcaheoloahaaWB3
import Derived.Test.YtejbcaheoloahaaCS4
import Derived.Test.YtejbcaheoloahaaAbRd
import Derived.Test.YtejbcaheoloahaaAbArr
import Derived.Test.YtejbcaheoloahaaAbRec
import Derived.Test.YtejbcaheoloahaaRows
namespace Go.Proofs.Ytejbcaheoloahaa.costShapes
open Go Go.Ab Go.Ab.S1 Go.Pl
open Go.ChangeShapes Go.WideShapes Go.ChangeAt Go.RowKit
set_option linter.unusedVariables false
set_option linter.unusedSimpArgs false
set_option maxRecDepth 100000
theorem own : ownKnob Try.prog.godebug = none := by kernel_rfl
theorem bulk {H : Type} : Bulk (H := H) Rows.uptoBulk Rows.uptoBulkAll :=
  ⟨fun b => by simp [Rows.uptoBulk], fun l => by cases l <;> simp [Rows.uptoBulk], by simp [Rows.uptoBulk], fun d => by simp [Rows.uptoBulk], fun a b => by simp [Rows.uptoBulk], fun a => by simp [Rows.uptoBulk],
    by simp [Rows.uptoBulkAll], fun d r => by simp [Rows.uptoBulkAll]⟩
theorem rd3 : RdT Go.Proofs.Try.prog 3 (rI .i64) (wI .i64) := rd_int (by kernel_rfl)
theorem rd2 : RdT Go.Proofs.Try.prog 2 (rI .i64) (wI .i64) := rd_int (by kernel_rfl)
theorem rd40 : RdT Go.Proofs.Try.prog 40 (rF .f64) (wF .f64) := rd_flt (by kernel_rfl)
theorem rd9 : RdT Go.Proofs.Try.prog 9 rS wS := rd_str (by kernel_rfl)
theorem rd42 : RdT Go.Proofs.Try.prog 42 R_api_Value W_api_Value := by
  intro n qs hq hb
  cases n with
  | zero => exact hq.elim
  | succ n =>
  have u : Go.Proofs.Try.prog.underlying 42 = some (.struct (fieldsIn Go.Proofs.Try.prog 42)) := by kernel_rfl
  have hl := rd_len (sz := 4) u (by kernel_rfl) hq
  obtain ⟨x0, e0, w0⟩ := rd_part (i := 0) (off := 0) (sz := 1) u (by kernel_rfl) (by kernel_rfl) rd3 hq hb
  obtain ⟨x1, e1, w1⟩ := rd_part (i := 1) (off := 1) (sz := 1) u (by kernel_rfl) (by kernel_rfl) rd2 hq hb
  obtain ⟨x2, e2, w2⟩ := rd_part (i := 2) (off := 2) (sz := 1) u (by kernel_rfl) (by kernel_rfl) rd40 hq hb
  obtain ⟨x3, e3, w3⟩ := rd_part (i := 3) (off := 3) (sz := 1) u (by kernel_rfl) (by kernel_rfl) rd9 hq hb
  match qs, hl with
  | [c0, c1, c2, c3], _ =>
  simp only [List.drop_zero, List.drop_succ_cons, List.take_succ_cons, List.take_zero, rI, rF, rB, rS, rSl, List.cons.injEq, and_true] at e0 e1 e2 e3
  subst e0
  subst e1
  subst e2
  subst e3
  exact ⟨⟨x0, x1, x2, x3⟩, rfl, w0, w1, w2, w3⟩
theorem rdG44 : ∀ (n : Nat) (qs : List PV), HasT Go.Proofs.Try.prog n 44 qs → PV.bulkL qs ≤ 1048576 → Good_api_Expr qs ∧ WG_api_Expr qs := by
  intro n
  induction n using Nat.strongRecOn with
  | ind n ih =>
  intro qs hq hb
  cases n with
  | zero => exact hq.elim
  | succ n =>
  have u : Go.Proofs.Try.prog.underlying 44 = some (.struct (fieldsIn Go.Proofs.Try.prog 44)) := by kernel_rfl
  have hl := rd_len (sz := 8) u (by kernel_rfl) hq
  obtain ⟨x0, e0, w0⟩ := rd_part (i := 0) (off := 0) (sz := 1) u (by kernel_rfl) (by kernel_rfl) rd3 hq hb
  obtain ⟨x1, e1, w1⟩ := rd_part (i := 1) (off := 1) (sz := 1) u (by kernel_rfl) (by kernel_rfl) rd3 hq hb
  obtain ⟨x2, e2, w2⟩ := rd_part (i := 2) (off := 2) (sz := 1) u (by kernel_rfl) (by kernel_rfl) rd3 hq hb
  obtain ⟨x3, e3, w3⟩ := rd_part (i := 3) (off := 3) (sz := 4) u (by kernel_rfl) (by kernel_rfl) rd42 hq hb
  have hk := rd_rec (i := 4) (off := 7) (st := 23) u (by kernel_rfl) (by kernel_rfl) (by kernel_rfl) (by kernel_rfl) hq hb
  rcases hk with e4 | ⟨rows, e4, hrl, hr⟩
  · match qs, hl with
    | [c0, c1, c2, c3, c4, c5, c6, c7], _ =>
    simp only [List.drop_zero, List.drop_succ_cons, List.take_succ_cons, List.take_zero, rI, rF, rB, rS, rSl, R_api_Value, List.cons.injEq, and_true] at e0 e1 e2 e3 e4
    subst e0
    subst e1
    subst e2
    obtain ⟨rfl, rfl, rfl, rfl⟩ := e3
    subst e4
    exact ⟨.nil x0 x1 x2 x3, .nil x0 x1 x2 x3 ⟨w0, w1, w2, w3⟩⟩
  · match qs, hl with
    | [c0, c1, c2, c3, c4, c5, c6, c7], _ =>
    simp only [List.drop_zero, List.drop_succ_cons, List.take_succ_cons, List.take_zero, rI, rF, rB, rS, rSl, R_api_Value, List.cons.injEq, and_true] at e0 e1 e2 e3 e4
    subst e0
    subst e1
    subst e2
    obtain ⟨rfl, rfl, rfl, rfl⟩ := e3
    subst e4
    exact ⟨.some x0 x1 x2 x3 rows (fun r hm => by obtain ⟨⟨m, q1, q2⟩, q3⟩ := hr r hm; exact (ih m q1 r q2 q3).1), .some x0 x1 x2 x3 rows ⟨w0, w1, w2, w3⟩ hrl (fun r hm => by obtain ⟨⟨m, q1, q2⟩, q3⟩ := hr r hm; exact (ih m q1 r q2 q3).2)⟩
theorem rd44 : RdT Go.Proofs.Try.prog 44 R_E_api_Expr W_E_api_Expr := by
  intro n qs hq hb
  obtain ⟨g, w⟩ := rdG44 n qs hq hb
  exact ⟨⟨qs, g⟩, rfl, w, hb⟩
theorem rd23 : RdT Go.Proofs.Try.prog 23 (rSl R_E_api_Expr) (wSl W_E_api_Expr) := rd_slice (e := 44) (by kernel_rfl) (fun x h => by have := len_E_api_Expr x; rw [h] at this; cases this) rd44
theorem rd82 : RdT Go.Proofs.Try.prog 82 R_api_Agg W_api_Agg := by
  intro n qs hq hb
  cases n with
  | zero => exact hq.elim
  | succ n =>
  have u : Go.Proofs.Try.prog.underlying 82 = some (.struct (fieldsIn Go.Proofs.Try.prog 82)) := by kernel_rfl
  have hl := rd_len (sz := 9) u (by kernel_rfl) hq
  obtain ⟨x0, e0, w0⟩ := rd_part (i := 0) (off := 0) (sz := 1) u (by kernel_rfl) (by kernel_rfl) rd3 hq hb
  obtain ⟨x1, e1, w1⟩ := rd_part (i := 1) (off := 1) (sz := 8) u (by kernel_rfl) (by kernel_rfl) rd44 hq hb
  rw [R_un_api_Expr x1] at e1
  replace w1 : W_api_Expr (un_api_Expr x1) := by unfold W_E_api_Expr at w1; rw [R_un_api_Expr x1] at w1; exact w1
  generalize un_api_Expr x1 = x1 at e1 w1
  match qs, hl with
  | [c0, c1, c2, c3, c4, c5, c6, c7, c8], _ =>
  simp only [List.drop_zero, List.drop_succ_cons, List.take_succ_cons, List.take_zero, rI, rF, rB, rS, rSl, R_api_Expr, List.cons.injEq, and_true] at e0 e1
  subst e0
  obtain ⟨rfl, rfl, rfl, rfl, rfl, rfl, rfl, rfl⟩ := e1
  exact ⟨⟨x0, x1⟩, rfl, w0, w1⟩
theorem rd24 : RdT Go.Proofs.Try.prog 24 (rSl R_api_Agg) (wSl W_api_Agg) := rd_slice (e := 82) (by kernel_rfl) (fun x h => nomatch h) rd82
theorem rd4 : RdT Go.Proofs.Try.prog 4 rB wB := rd_bool (by kernel_rfl)
theorem rd67 : RdT Go.Proofs.Try.prog 67 R_api_Key W_api_Key := by
  intro n qs hq hb
  cases n with
  | zero => exact hq.elim
  | succ n =>
  have u : Go.Proofs.Try.prog.underlying 67 = some (.struct (fieldsIn Go.Proofs.Try.prog 67)) := by kernel_rfl
  have hl := rd_len (sz := 2) u (by kernel_rfl) hq
  obtain ⟨x0, e0, w0⟩ := rd_part (i := 0) (off := 0) (sz := 1) u (by kernel_rfl) (by kernel_rfl) rd3 hq hb
  obtain ⟨x1, e1, w1⟩ := rd_part (i := 1) (off := 1) (sz := 1) u (by kernel_rfl) (by kernel_rfl) rd4 hq hb
  match qs, hl with
  | [c0, c1], _ =>
  simp only [List.drop_zero, List.drop_succ_cons, List.take_succ_cons, List.take_zero, rI, rF, rB, rS, rSl, List.cons.injEq, and_true] at e0 e1
  subst e0
  subst e1
  exact ⟨⟨x0, x1⟩, rfl, w0, w1⟩
theorem rd25 : RdT Go.Proofs.Try.prog 25 (rSl R_api_Key) (wSl W_api_Key) := rd_slice (e := 67) (by kernel_rfl) (fun x h => nomatch h) rd67
theorem rdG59 : ∀ (n : Nat) (qs : List PV), HasT Go.Proofs.Try.prog n 59 qs → PV.bulkL qs ≤ 1048576 → Good_api_Plan qs ∧ WG_api_Plan qs := by
  intro n
  induction n using Nat.strongRecOn with
  | ind n ih =>
  intro qs hq hb
  cases n with
  | zero => exact hq.elim
  | succ n =>
  have u : Go.Proofs.Try.prog.underlying 59 = some (.struct (fieldsIn Go.Proofs.Try.prog 59)) := by kernel_rfl
  have hl := rd_len (sz := 9) u (by kernel_rfl) hq
  obtain ⟨x0, e0, w0⟩ := rd_part (i := 0) (off := 0) (sz := 1) u (by kernel_rfl) (by kernel_rfl) rd3 hq hb
  obtain ⟨x1, e1, w1⟩ := rd_part (i := 1) (off := 1) (sz := 1) u (by kernel_rfl) (by kernel_rfl) rd3 hq hb
  obtain ⟨x2, e2, w2⟩ := rd_part (i := 2) (off := 2) (sz := 1) u (by kernel_rfl) (by kernel_rfl) rd23 hq hb
  obtain ⟨x3, e3, w3⟩ := rd_part (i := 3) (off := 3) (sz := 1) u (by kernel_rfl) (by kernel_rfl) rd23 hq hb
  obtain ⟨x4, e4, w4⟩ := rd_part (i := 4) (off := 4) (sz := 1) u (by kernel_rfl) (by kernel_rfl) rd23 hq hb
  obtain ⟨x5, e5, w5⟩ := rd_part (i := 5) (off := 5) (sz := 1) u (by kernel_rfl) (by kernel_rfl) rd23 hq hb
  obtain ⟨x6, e6, w6⟩ := rd_part (i := 6) (off := 6) (sz := 1) u (by kernel_rfl) (by kernel_rfl) rd24 hq hb
  obtain ⟨x7, e7, w7⟩ := rd_part (i := 7) (off := 7) (sz := 1) u (by kernel_rfl) (by kernel_rfl) rd25 hq hb
  have hk := rd_rec (i := 8) (off := 8) (st := 57) u (by kernel_rfl) (by kernel_rfl) (by kernel_rfl) (by kernel_rfl) hq hb
  rcases hk with e8 | ⟨rows, e8, hrl, hr⟩
  · match qs, hl with
    | [c0, c1, c2, c3, c4, c5, c6, c7, c8], _ =>
    simp only [List.drop_zero, List.drop_succ_cons, List.take_succ_cons, List.take_zero, rI, rF, rB, rS, rSl, List.cons.injEq, and_true] at e0 e1 e2 e3 e4 e5 e6 e7 e8
    subst e0
    subst e1
    subst e2
    subst e3
    subst e4
    subst e5
    subst e6
    subst e7
    subst e8
    exact ⟨.nil x0 x1 x2 x3 x4 x5 x6 x7, .nil x0 x1 x2 x3 x4 x5 x6 x7 ⟨w0, w1, w2, w3, w4, w5, w6, w7⟩⟩
  · match qs, hl with
    | [c0, c1, c2, c3, c4, c5, c6, c7, c8], _ =>
    simp only [List.drop_zero, List.drop_succ_cons, List.take_succ_cons, List.take_zero, rI, rF, rB, rS, rSl, List.cons.injEq, and_true] at e0 e1 e2 e3 e4 e5 e6 e7 e8
    subst e0
    subst e1
    subst e2
    subst e3
    subst e4
    subst e5
    subst e6
    subst e7
    subst e8
    exact ⟨.some x0 x1 x2 x3 x4 x5 x6 x7 rows (fun r hm => by obtain ⟨⟨m, q1, q2⟩, q3⟩ := hr r hm; exact (ih m q1 r q2 q3).1), .some x0 x1 x2 x3 x4 x5 x6 x7 rows ⟨w0, w1, w2, w3, w4, w5, w6, w7⟩ hrl (fun r hm => by obtain ⟨⟨m, q1, q2⟩, q3⟩ := hr r hm; exact (ih m q1 r q2 q3).2)⟩
theorem rd59 : RdT Go.Proofs.Try.prog 59 R_E_api_Plan W_E_api_Plan := by
  intro n qs hq hb
  obtain ⟨g, w⟩ := rdG59 n qs hq hb
  exact ⟨⟨qs, g⟩, rfl, w, hb⟩
theorem rd146 : RdT Go.Proofs.Try.prog 146 R_tabularyref19_Bucket W_tabularyref19_Bucket := by
  intro n qs hq hb
  cases n with
  | zero => exact hq.elim
  | succ n =>
  have u : Go.Proofs.Try.prog.underlying 146 = some (.struct (fieldsIn Go.Proofs.Try.prog 146)) := by kernel_rfl
  have hl := rd_len (sz := 10) u (by kernel_rfl) hq
  obtain ⟨x0, e0, w0⟩ := rd_part (i := 0) (off := 0) (sz := 4) u (by kernel_rfl) (by kernel_rfl) rd42 hq hb
  obtain ⟨x1, e1, w1⟩ := rd_part (i := 1) (off := 4) (sz := 4) u (by kernel_rfl) (by kernel_rfl) rd42 hq hb
  obtain ⟨x2, e2, w2⟩ := rd_part (i := 2) (off := 8) (sz := 1) u (by kernel_rfl) (by kernel_rfl) rd3 hq hb
  obtain ⟨x3, e3, w3⟩ := rd_part (i := 3) (off := 9) (sz := 1) u (by kernel_rfl) (by kernel_rfl) rd3 hq hb
  match qs, hl with
  | [c0, c1, c2, c3, c4, c5, c6, c7, c8, c9], _ =>
  simp only [List.drop_zero, List.drop_succ_cons, List.take_succ_cons, List.take_zero, rI, rF, rB, rS, rSl, R_api_Value, List.cons.injEq, and_true] at e0 e1 e2 e3
  obtain ⟨rfl, rfl, rfl, rfl⟩ := e0
  obtain ⟨rfl, rfl, rfl, rfl⟩ := e1
  subst e2
  subst e3
  exact ⟨⟨x0, x1, x2, x3⟩, rfl, w0, w1, w2, w3⟩
theorem rd127 : RdT Go.Proofs.Try.prog 127 (rSl R_tabularyref19_Bucket) (wSl W_tabularyref19_Bucket) := rd_slice (e := 146) (by kernel_rfl) (fun x h => nomatch h) rd146
theorem rd85 : RdT Go.Proofs.Try.prog 85 (rSl R_api_Value) (wSl W_api_Value) := rd_slice (e := 42) (by kernel_rfl) (fun x h => nomatch h) rd42
theorem rd5 : RdT Go.Proofs.Try.prog 5 (rI .u8) (wI .u8) := rd_int (by kernel_rfl)
theorem rd86 : RdT Go.Proofs.Try.prog 86 (rA .u8 64) (wA .u8 64) := rd_arr (by kernel_rfl) (by kernel_rfl) (by kernel_rfl) rd5
theorem rd129 : RdT Go.Proofs.Try.prog 129 R_tabularyref20_Col W_tabularyref20_Col := by
  intro n qs hq hb
  cases n with
  | zero => exact hq.elim
  | succ n =>
  have u : Go.Proofs.Try.prog.underlying 129 = some (.struct (fieldsIn Go.Proofs.Try.prog 129)) := by kernel_rfl
  have hl := rd_len (sz := 69) u (by kernel_rfl) hq
  obtain ⟨x0, e0, w0⟩ := rd_part (i := 0) (off := 0) (sz := 1) u (by kernel_rfl) (by kernel_rfl) rd3 hq hb
  obtain ⟨x1, e1, w1⟩ := rd_part (i := 1) (off := 1) (sz := 1) u (by kernel_rfl) (by kernel_rfl) rd3 hq hb
  obtain ⟨x2, e2, w2⟩ := rd_part (i := 2) (off := 2) (sz := 1) u (by kernel_rfl) (by kernel_rfl) rd3 hq hb
  obtain ⟨x3, e3, w3⟩ := rd_part (i := 3) (off := 3) (sz := 1) u (by kernel_rfl) (by kernel_rfl) rd127 hq hb
  obtain ⟨x4, e4, w4⟩ := rd_part (i := 4) (off := 4) (sz := 1) u (by kernel_rfl) (by kernel_rfl) rd85 hq hb
  obtain ⟨x5, e5, w5⟩ := rd_part (i := 5) (off := 5) (sz := 64) u (by kernel_rfl) (by kernel_rfl) rd86 hq hb
  have j : qs = _ := take_join (o' := 1) e0 rfl (take_join (o' := 2) e1 rfl (take_join (o' := 3) e2 rfl (take_join (o' := 4) e3 rfl (take_join (o' := 5) e4 rfl (take_join (o' := 69) e5 rfl (take_end hl))))))
  exact ⟨⟨x0, x1, x2, x3, x4, x5⟩, j.trans (by kernel_rfl), w0, w1, w2, w3, w4, w5⟩
theorem rd98 : RdT Go.Proofs.Try.prog 98 (rSl R_tabularyref20_Col) (wSl W_tabularyref20_Col) := rd_slice (e := 129) (by kernel_rfl) (fun x h => nomatch h) rd129
theorem rd100 : RdT Go.Proofs.Try.prog 100 R_tabularyref20_Stat W_tabularyref20_Stat := by
  intro n qs hq hb
  cases n with
  | zero => exact hq.elim
  | succ n =>
  have u : Go.Proofs.Try.prog.underlying 100 = some (.struct (fieldsIn Go.Proofs.Try.prog 100)) := by kernel_rfl
  have hl := rd_len (sz := 2) u (by kernel_rfl) hq
  obtain ⟨x0, e0, w0⟩ := rd_part (i := 0) (off := 0) (sz := 1) u (by kernel_rfl) (by kernel_rfl) rd3 hq hb
  obtain ⟨x1, e1, w1⟩ := rd_part (i := 1) (off := 1) (sz := 1) u (by kernel_rfl) (by kernel_rfl) rd98 hq hb
  match qs, hl with
  | [c0, c1], _ =>
  simp only [List.drop_zero, List.drop_succ_cons, List.take_succ_cons, List.take_zero, rI, rF, rB, rS, rSl, List.cons.injEq, and_true] at e0 e1
  subst e0
  subst e1
  exact ⟨⟨x0, x1⟩, rfl, w0, w1⟩
theorem rd45 : RdT Go.Proofs.Try.prog 45 (rSl R_tabularyref20_Stat) (wSl W_tabularyref20_Stat) := rd_slice (e := 100) (by kernel_rfl) (fun x h => nomatch h) rd100
theorem spec (xs : List AV) (h : ArgsT Go.Proofs.Try.prog [59, 23, 45, 23] xs 1048576) : ∃ N H', call G N 6 xs [] = some (.ret (.pv (.bool true)), H') := by
  match xs, h with
  | [x0, x1, x2, x3], h =>
    obtain ⟨n0, q0, c0, h0, f0, d0, n1, q1, c1, h1, f1, d1, n2, q2, c2, h2, f2, d2, n3, q3, c3, h3, f3, d3, _⟩ := h
    obtain ⟨z0, rfl, v0⟩ := rd_arg1 (b := 0) rd59 (by kernel_rfl) h0 (by omega) f0
    have w0 : W_api_Plan (un_api_Plan z0) := by
      unfold W_E_api_Plan at v0
      rw [R_un_api_Plan z0] at v0
      exact v0
    rw [R_un_api_Plan z0]
    obtain ⟨z1, ⟨p1, g1, rfl⟩, w1⟩ := rd_arg0 (b := 0) rd23 (by kernel_rfl) h1 (by omega) f1
    obtain rfl := (List.cons.inj g1).1
    obtain ⟨z2, ⟨p2, g2, rfl⟩, w2⟩ := rd_arg0 (b := 0) rd45 (by kernel_rfl) h2 (by omega) f2
    obtain rfl := (List.cons.inj g2).1
    obtain ⟨z3, ⟨p3, g3, rfl⟩, w3⟩ := rd_arg0 (b := 0) rd23 (by kernel_rfl) h3 (by omega) f3
    obtain rfl := (List.cons.inj g3).1
    exact ⟨4000000, [], ok_law32_CostShapes (r := true) (CostShapes_true rfl w0 w1 w2 w3)⟩

theorem contract (H : Type) (enc : TypeId × Value → H) (W : World) (base : Nat) (args : Array Value) (ds gs : List (DataW H)) (before : List MemPlace)
    (hval : ∀ (j : Nat) t v, Try.f6.params[j]? = some t → args[j]? = some v → Value.okWide Try.prog W .any base t v)
    (hW : DataW.Whole enc Try.prog Try.f6.params.toList Rows.costShapesSpec.vars false W args.toList ds gs before) (hk : Rows.uptoBulkAll ds ≤ 1048576) :
    Calls Try.prog 6 args W fun e W' => ∃ v, e = .returned v ∧ Rows.costShapesSpec.post enc Try.prog Try.f6 false true false false W args v W' :=
  law_contractG G_ok GP (t0 := 4) (bound := 1048576) [3, 2, 40, 9, 42, 44, 23, 82, 24, 4, 67, 25, 57, 59, 146, 127, 85, 5, 86, 129, 98, 100, 45] (by kernel_rfl) bulk (by kernel_rfl) (by kernel_rfl) rfl (by kernel_rfl) (by kernel_rfl) (by kernel_rfl) rfl
    (fun ds hds => by
      match ds, hds with
      | [d0, d1, d2, d3], _ => rfl)
    spec W base args ds gs before hval hW hk

theorem lifted (os : Os) (started : os.Started) (H : Type) (enc : TypeId × Value → H) (F : Stop.Interp) :
    ReturnsInHanded {} Try.checked os 6 .any ((Rows.OpenSpec.upto Rows.costShapesSpec).pre6 enc Try.prog Try.f6 Rows.costShapesUptoRow.domain false) (((Rows.OpenSpec.upto Rows.costShapesSpec).at F).post enc Try.prog Try.f6 false true false false) := by
  refine returnsInHanded_of_cond (C := Try.checked) (s := Rows.OpenSpec.upto Rows.costShapesSpec) (k := Rows.uptoSmall) rfl own started (by kernel_rfl) Try.func6
    (OpenSpec.witness (enc := enc) (C := Try.checked) (s := Rows.OpenSpec.upto Rows.costShapesSpec) (k := Rows.uptoSmall) rfl false ⟨#[], #[.agg #[.int .i64 0, .int .i64 0, .slice none 0 0, .slice none 0 0, .slice none 0 0, .slice none 0 0, .slice none 0 0, .slice none 0 0, .slice none 0 0], .slice none 0 0, .slice none 0 0, .slice none 0 0], []⟩ 8 (by kernel_rfl) (by kernel_rfl) (by kernel_rfl)
      (x := ([.agg [.lit (.int .i64 0), .lit (.int .i64 0), .nil, .nil, .nil, .nil, .nil, .nil, .nil], .nil, .nil, .nil], [], [])) (by kernel_rfl) rfl (by kernel_rfl)) ?_
  intro W base args ds gs before hval hW _ hk _
  have hb : Rows.uptoBulkAll ds ≤ 1048576 := by
    have h1 : gs = [] := by
      obtain ⟨p, q, hA, hV, _⟩ := hW
      exact (trodVars_none hV).1
    rw [h1, List.append_nil] at hk
    simpa [Rows.uptoSmall] using hk
  exact contract H enc W base args ds gs before hval hW hb

theorem over : Rows.costShapesUptoRow.holds Try.pinned (Rows.OpenSpec.upto Rows.costShapesSpec) :=
  OpenClaim.holds_of_cond 6 Try.f6 rfl rfl rfl rfl rfl rfl rfl ⟨rfl, rfl, rfl, rfl, rfl⟩ rfl rfl rfl rfl rfl (by kernel_rfl) Try.func6 (by kernel_rfl)
    (of_decide_eq_true (by kernel_rfl)) (by unfold Func.isWrapper; first | (rw [if_pos (by decide +kernel)]; kernel_rfl) | (rw [if_neg (by decide +kernel)]; exact ⟨rfl, rfl⟩))
    (fun os started H enc _ F => lifted os started H enc F)

theorem proved : Rows.CostShapesUptoSaid := over
end Go.Proofs.Ytejbcaheoloahaa.costShapes
