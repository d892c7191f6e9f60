/- More tables behind change nothing of a query that may be, nor does their order where no two have one name. -/
import Derived.Test.YtejbcaheoloahaaWB2
import Derived.Test.YtejbcaheoloahaaQT4
import Derived.Test.YtejbcaheoloahaaAbRd
import Derived.Test.YtejbcaheoloahaaAbArr
import Derived.Test.YtejbcaheoloahaaAbRec
import Derived.Test.YtejbcaheoloahaaRows
namespace Go.Proofs.Ytejbcaheoloahaa.queryTables
open Go Go.Ab Go.Ab.S1 Go.Pl
open Go.ChangeShapes Go.WideShapes Go.ChangeAt Go.RowKit
set_option linter.unusedVariables false
set_option linter.unusedSimpArgs false
set_option maxRecDepth 100000
theorem own : ownKnob Try.prog.godebug = none := by kernel_rfl
theorem bulk {H : Type} : Bulk (H := H) Rows.uptoBulk Rows.uptoBulkAll :=
  ⟨fun b => by simp [Rows.uptoBulk], fun l => by cases l <;> simp [Rows.uptoBulk], by simp [Rows.uptoBulk], fun d => by simp [Rows.uptoBulk], fun a b => by simp [Rows.uptoBulk], fun a => by simp [Rows.uptoBulk],
    by simp [Rows.uptoBulkAll], fun d r => by simp [Rows.uptoBulkAll]⟩
theorem rd9 : RdT Go.Proofs.Try.prog 9 rS wS := rd_str (by kernel_rfl)
theorem rd22 : RdT Go.Proofs.Try.prog 22 (rSl rS) (wSl wS) := rd_slice (e := 9) (by kernel_rfl) (fun x h => nomatch h) rd9
theorem rd3 : RdT Go.Proofs.Try.prog 3 (rI .i64) (wI .i64) := rd_int (by kernel_rfl)
theorem rd2 : RdT Go.Proofs.Try.prog 2 (rI .i64) (wI .i64) := rd_int (by kernel_rfl)
theorem rd40 : RdT Go.Proofs.Try.prog 40 (rF .f64) (wF .f64) := rd_flt (by kernel_rfl)
theorem rd42 : RdT Go.Proofs.Try.prog 42 R_api_Value W_api_Value := by
  intro n qs hq hb
  cases n with
  | zero => exact hq.elim
  | succ n =>
  have u : Go.Proofs.Try.prog.underlying 42 = some (.struct (fieldsIn Go.Proofs.Try.prog 42)) := by kernel_rfl
  have hl := rd_len (sz := 4) u (by kernel_rfl) hq
  obtain ⟨x0, e0, w0⟩ := rd_part (i := 0) (off := 0) (sz := 1) u (by kernel_rfl) (by kernel_rfl) rd3 hq hb
  obtain ⟨x1, e1, w1⟩ := rd_part (i := 1) (off := 1) (sz := 1) u (by kernel_rfl) (by kernel_rfl) rd2 hq hb
  obtain ⟨x2, e2, w2⟩ := rd_part (i := 2) (off := 2) (sz := 1) u (by kernel_rfl) (by kernel_rfl) rd40 hq hb
  obtain ⟨x3, e3, w3⟩ := rd_part (i := 3) (off := 3) (sz := 1) u (by kernel_rfl) (by kernel_rfl) rd9 hq hb
  match qs, hl with
  | [c0, c1, c2, c3], _ =>
  simp only [List.drop_zero, List.drop_succ_cons, List.take_succ_cons, List.take_zero, rI, rF, rB, rS, rSl, List.cons.injEq, and_true] at e0 e1 e2 e3
  subst e0
  subst e1
  subst e2
  subst e3
  exact ⟨⟨x0, x1, x2, x3⟩, rfl, w0, w1, w2, w3⟩
theorem rdG44 : ∀ (n : Nat) (qs : List PV), HasT Go.Proofs.Try.prog n 44 qs → PV.bulkL qs ≤ 1048576 → Good_api_Expr qs ∧ WG_api_Expr qs := by
  intro n
  induction n using Nat.strongRecOn with
  | ind n ih =>
  intro qs hq hb
  cases n with
  | zero => exact hq.elim
  | succ n =>
  have u : Go.Proofs.Try.prog.underlying 44 = some (.struct (fieldsIn Go.Proofs.Try.prog 44)) := by kernel_rfl
  have hl := rd_len (sz := 8) u (by kernel_rfl) hq
  obtain ⟨x0, e0, w0⟩ := rd_part (i := 0) (off := 0) (sz := 1) u (by kernel_rfl) (by kernel_rfl) rd3 hq hb
  obtain ⟨x1, e1, w1⟩ := rd_part (i := 1) (off := 1) (sz := 1) u (by kernel_rfl) (by kernel_rfl) rd3 hq hb
  obtain ⟨x2, e2, w2⟩ := rd_part (i := 2) (off := 2) (sz := 1) u (by kernel_rfl) (by kernel_rfl) rd3 hq hb
  obtain ⟨x3, e3, w3⟩ := rd_part (i := 3) (off := 3) (sz := 4) u (by kernel_rfl) (by kernel_rfl) rd42 hq hb
  have hk := rd_rec (i := 4) (off := 7) (st := 23) u (by kernel_rfl) (by kernel_rfl) (by kernel_rfl) (by kernel_rfl) hq hb
  rcases hk with e4 | ⟨rows, e4, hrl, hr⟩
  · match qs, hl with
    | [c0, c1, c2, c3, c4, c5, c6, c7], _ =>
    simp only [List.drop_zero, List.drop_succ_cons, List.take_succ_cons, List.take_zero, rI, rF, rB, rS, rSl, R_api_Value, List.cons.injEq, and_true] at e0 e1 e2 e3 e4
    subst e0
    subst e1
    subst e2
    obtain ⟨rfl, rfl, rfl, rfl⟩ := e3
    subst e4
    exact ⟨.nil x0 x1 x2 x3, .nil x0 x1 x2 x3 ⟨w0, w1, w2, w3⟩⟩
  · match qs, hl with
    | [c0, c1, c2, c3, c4, c5, c6, c7], _ =>
    simp only [List.drop_zero, List.drop_succ_cons, List.take_succ_cons, List.take_zero, rI, rF, rB, rS, rSl, R_api_Value, List.cons.injEq, and_true] at e0 e1 e2 e3 e4
    subst e0
    subst e1
    subst e2
    obtain ⟨rfl, rfl, rfl, rfl⟩ := e3
    subst e4
    exact ⟨.some x0 x1 x2 x3 rows (fun r hm => by obtain ⟨⟨m, q1, q2⟩, q3⟩ := hr r hm; exact (ih m q1 r q2 q3).1), .some x0 x1 x2 x3 rows ⟨w0, w1, w2, w3⟩ hrl (fun r hm => by obtain ⟨⟨m, q1, q2⟩, q3⟩ := hr r hm; exact (ih m q1 r q2 q3).2)⟩
theorem rd44 : RdT Go.Proofs.Try.prog 44 R_E_api_Expr W_E_api_Expr := by
  intro n qs hq hb
  obtain ⟨g, w⟩ := rdG44 n qs hq hb
  exact ⟨⟨qs, g⟩, rfl, w, hb⟩
theorem rd23 : RdT Go.Proofs.Try.prog 23 (rSl R_E_api_Expr) (wSl W_E_api_Expr) := rd_slice (e := 44) (by kernel_rfl) (fun x h => by have := len_E_api_Expr x; rw [h] at this; cases this) rd44
theorem rd4 : RdT Go.Proofs.Try.prog 4 rB wB := rd_bool (by kernel_rfl)
theorem rd82 : RdT Go.Proofs.Try.prog 82 R_api_Agg W_api_Agg := by
  intro n qs hq hb
  cases n with
  | zero => exact hq.elim
  | succ n =>
  have u : Go.Proofs.Try.prog.underlying 82 = some (.struct (fieldsIn Go.Proofs.Try.prog 82)) := by kernel_rfl
  have hl := rd_len (sz := 9) u (by kernel_rfl) hq
  obtain ⟨x0, e0, w0⟩ := rd_part (i := 0) (off := 0) (sz := 1) u (by kernel_rfl) (by kernel_rfl) rd3 hq hb
  obtain ⟨x1, e1, w1⟩ := rd_part (i := 1) (off := 1) (sz := 8) u (by kernel_rfl) (by kernel_rfl) rd44 hq hb
  rw [R_un_api_Expr x1] at e1
  replace w1 : W_api_Expr (un_api_Expr x1) := by unfold W_E_api_Expr at w1; rw [R_un_api_Expr x1] at w1; exact w1
  generalize un_api_Expr x1 = x1 at e1 w1
  match qs, hl with
  | [c0, c1, c2, c3, c4, c5, c6, c7, c8], _ =>
  simp only [List.drop_zero, List.drop_succ_cons, List.take_succ_cons, List.take_zero, rI, rF, rB, rS, rSl, R_api_Expr, List.cons.injEq, and_true] at e0 e1
  subst e0
  obtain ⟨rfl, rfl, rfl, rfl, rfl, rfl, rfl, rfl⟩ := e1
  exact ⟨⟨x0, x1⟩, rfl, w0, w1⟩
theorem rd24 : RdT Go.Proofs.Try.prog 24 (rSl R_api_Agg) (wSl W_api_Agg) := rd_slice (e := 82) (by kernel_rfl) (fun x h => nomatch h) rd82
theorem rd67 : RdT Go.Proofs.Try.prog 67 R_api_Key W_api_Key := by
  intro n qs hq hb
  cases n with
  | zero => exact hq.elim
  | succ n =>
  have u : Go.Proofs.Try.prog.underlying 67 = some (.struct (fieldsIn Go.Proofs.Try.prog 67)) := by kernel_rfl
  have hl := rd_len (sz := 2) u (by kernel_rfl) hq
  obtain ⟨x0, e0, w0⟩ := rd_part (i := 0) (off := 0) (sz := 1) u (by kernel_rfl) (by kernel_rfl) rd3 hq hb
  obtain ⟨x1, e1, w1⟩ := rd_part (i := 1) (off := 1) (sz := 1) u (by kernel_rfl) (by kernel_rfl) rd4 hq hb
  match qs, hl with
  | [c0, c1], _ =>
  simp only [List.drop_zero, List.drop_succ_cons, List.take_succ_cons, List.take_zero, rI, rF, rB, rS, rSl, List.cons.injEq, and_true] at e0 e1
  subst e0
  subst e1
  exact ⟨⟨x0, x1⟩, rfl, w0, w1⟩
theorem rd25 : RdT Go.Proofs.Try.prog 25 (rSl R_api_Key) (wSl W_api_Key) := rd_slice (e := 67) (by kernel_rfl) (fun x h => nomatch h) rd67
theorem rd27 : RdT Go.Proofs.Try.prog 27 R_api_Query W_api_Query := by
  intro n qs hq hb
  cases n with
  | zero => exact hq.elim
  | succ n =>
  have u : Go.Proofs.Try.prog.underlying 27 = some (.struct (fieldsIn Go.Proofs.Try.prog 27)) := by kernel_rfl
  have hl := rd_len (sz := 6) u (by kernel_rfl) hq
  obtain ⟨x0, e0, w0⟩ := rd_part (i := 0) (off := 0) (sz := 1) u (by kernel_rfl) (by kernel_rfl) rd22 hq hb
  obtain ⟨x1, e1, w1⟩ := rd_part (i := 1) (off := 1) (sz := 1) u (by kernel_rfl) (by kernel_rfl) rd23 hq hb
  obtain ⟨x2, e2, w2⟩ := rd_part (i := 2) (off := 2) (sz := 1) u (by kernel_rfl) (by kernel_rfl) rd4 hq hb
  obtain ⟨x3, e3, w3⟩ := rd_part (i := 3) (off := 3) (sz := 1) u (by kernel_rfl) (by kernel_rfl) rd23 hq hb
  obtain ⟨x4, e4, w4⟩ := rd_part (i := 4) (off := 4) (sz := 1) u (by kernel_rfl) (by kernel_rfl) rd24 hq hb
  obtain ⟨x5, e5, w5⟩ := rd_part (i := 5) (off := 5) (sz := 1) u (by kernel_rfl) (by kernel_rfl) rd25 hq hb
  match qs, hl with
  | [c0, c1, c2, c3, c4, c5], _ =>
  simp only [List.drop_zero, List.drop_succ_cons, List.take_succ_cons, List.take_zero, rI, rF, rB, rS, rSl, List.cons.injEq, and_true] at e0 e1 e2 e3 e4 e5
  subst e0
  subst e1
  subst e2
  subst e3
  subst e4
  subst e5
  exact ⟨⟨x0, x1, x2, x3, x4, x5⟩, rfl, w0, w1, w2, w3, w4, w5⟩
theorem rd65 : RdT Go.Proofs.Try.prog 65 R_api_Column W_api_Column := by
  intro n qs hq hb
  cases n with
  | zero => exact hq.elim
  | succ n =>
  have u : Go.Proofs.Try.prog.underlying 65 = some (.struct (fieldsIn Go.Proofs.Try.prog 65)) := by kernel_rfl
  have hl := rd_len (sz := 2) u (by kernel_rfl) hq
  obtain ⟨x0, e0, w0⟩ := rd_part (i := 0) (off := 0) (sz := 1) u (by kernel_rfl) (by kernel_rfl) rd9 hq hb
  obtain ⟨x1, e1, w1⟩ := rd_part (i := 1) (off := 1) (sz := 1) u (by kernel_rfl) (by kernel_rfl) rd3 hq hb
  match qs, hl with
  | [c0, c1], _ =>
  simp only [List.drop_zero, List.drop_succ_cons, List.take_succ_cons, List.take_zero, rI, rF, rB, rS, rSl, List.cons.injEq, and_true] at e0 e1
  subst e0
  subst e1
  exact ⟨⟨x0, x1⟩, rfl, w0, w1⟩
theorem rd36 : RdT Go.Proofs.Try.prog 36 (rSl R_api_Column) (wSl W_api_Column) := rd_slice (e := 65) (by kernel_rfl) (fun x h => nomatch h) rd65
theorem rd38 : RdT Go.Proofs.Try.prog 38 R_api_Table W_api_Table := by
  intro n qs hq hb
  cases n with
  | zero => exact hq.elim
  | succ n =>
  have u : Go.Proofs.Try.prog.underlying 38 = some (.struct (fieldsIn Go.Proofs.Try.prog 38)) := by kernel_rfl
  have hl := rd_len (sz := 2) u (by kernel_rfl) hq
  obtain ⟨x0, e0, w0⟩ := rd_part (i := 0) (off := 0) (sz := 1) u (by kernel_rfl) (by kernel_rfl) rd9 hq hb
  obtain ⟨x1, e1, w1⟩ := rd_part (i := 1) (off := 1) (sz := 1) u (by kernel_rfl) (by kernel_rfl) rd36 hq hb
  match qs, hl with
  | [c0, c1], _ =>
  simp only [List.drop_zero, List.drop_succ_cons, List.take_succ_cons, List.take_zero, rI, rF, rB, rS, rSl, List.cons.injEq, and_true] at e0 e1
  subst e0
  subst e1
  exact ⟨⟨x0, x1⟩, rfl, w0, w1⟩
theorem rd28 : RdT Go.Proofs.Try.prog 28 (rSl R_api_Table) (wSl W_api_Table) := rd_slice (e := 38) (by kernel_rfl) (fun x h => nomatch h) rd38
theorem spec (xs : List AV) (h : ArgsT Go.Proofs.Try.prog [27, 28, 28] xs 1048576) : ∃ N H', call G N 3 xs [] = some (.ret (.pv (.bool true)), H') := by
  match xs, h with
  | [x0, x1, x2], h =>
    obtain ⟨n0, q0, c0, h0, f0, d0, n1, q1, c1, h1, f1, d1, n2, q2, c2, h2, f2, d2, _⟩ := h
    obtain ⟨z0, rfl, w0⟩ := rd_arg1 (b := 0) rd27 (by kernel_rfl) h0 (by omega) f0
    obtain ⟨z1, ⟨p1, g1, rfl⟩, w1⟩ := rd_arg0 (b := 0) rd28 (by kernel_rfl) h1 (by omega) f1
    obtain rfl := (List.cons.inj g1).1
    obtain ⟨z2, ⟨p2, g2, rfl⟩, w2⟩ := rd_arg0 (b := 0) rd28 (by kernel_rfl) h2 (by omega) f2
    obtain rfl := (List.cons.inj g2).1
    exact ⟨4000000, [], ok_law23_QueryTables (r := true) (QueryTables_true rfl w0 w1 w2)⟩

theorem contract (H : Type) (enc : TypeId × Value → H) (W : World) (base : Nat) (args : Array Value) (ds gs : List (DataW H)) (before : List MemPlace)
    (hval : ∀ (j : Nat) t v, Try.f3.params[j]? = some t → args[j]? = some v → Value.okWide Try.prog W .any base t v)
    (hW : DataW.Whole enc Try.prog Try.f3.params.toList Rows.queryTablesSpec.vars false W args.toList ds gs before) (hk : Rows.uptoBulkAll ds ≤ 1048576) :
    Calls Try.prog 3 args W fun e W' => ∃ v, e = .returned v ∧ Rows.queryTablesSpec.post enc Try.prog Try.f3 false true false false W args v W' :=
  law_contractG G_ok GP (t0 := 4) (bound := 1048576) [9, 22, 3, 2, 40, 42, 44, 23, 4, 82, 24, 67, 25, 27, 65, 36, 38, 28] (by kernel_rfl) bulk (by kernel_rfl) (by kernel_rfl) rfl (by kernel_rfl) (by kernel_rfl) (by kernel_rfl) rfl
    (fun ds hds => by
      match ds, hds with
      | [d0, d1, d2], _ => rfl)
    spec W base args ds gs before hval hW hk

theorem lifted (os : Os) (started : os.Started) (H : Type) (enc : TypeId × Value → H) (F : Stop.Interp) :
    ReturnsInHanded {} Try.checked os 3 .any ((Rows.OpenSpec.upto Rows.queryTablesSpec).pre6 enc Try.prog Try.f3 Rows.queryTablesUptoRow.domain false) (((Rows.OpenSpec.upto Rows.queryTablesSpec).at F).post enc Try.prog Try.f3 false true false false) := by
  refine returnsInHanded_of_cond (C := Try.checked) (s := Rows.OpenSpec.upto Rows.queryTablesSpec) (k := Rows.uptoSmall) rfl own started (by kernel_rfl) Try.func3
    (OpenSpec.witness (enc := enc) (C := Try.checked) (s := Rows.OpenSpec.upto Rows.queryTablesSpec) (k := Rows.uptoSmall) rfl false ⟨#[], #[.agg #[.slice none 0 0, .slice none 0 0, .bool false, .slice none 0 0, .slice none 0 0, .slice none 0 0], .slice none 0 0, .slice none 0 0], []⟩ 8 (by kernel_rfl) (by kernel_rfl) (by kernel_rfl)
      (x := ([.agg [.nil, .nil, .lit (.bool false), .nil, .nil, .nil], .nil, .nil], [], [])) (by kernel_rfl) rfl (by kernel_rfl)) ?_
  intro W base args ds gs before hval hW _ hk _
  have hb : Rows.uptoBulkAll ds ≤ 1048576 := by
    have h1 : gs = [] := by
      obtain ⟨p, q, hA, hV, _⟩ := hW
      exact (trodVars_none hV).1
    rw [h1, List.append_nil] at hk
    simpa [Rows.uptoSmall] using hk
  exact contract H enc W base args ds gs before hval hW hb

theorem over : Rows.queryTablesUptoRow.holds Try.pinned (Rows.OpenSpec.upto Rows.queryTablesSpec) :=
  OpenClaim.holds_of_cond 3 Try.f3 rfl rfl rfl rfl rfl rfl rfl ⟨rfl, rfl, rfl, rfl, rfl⟩ rfl rfl rfl rfl rfl (by kernel_rfl) Try.func3 (by kernel_rfl)
    (of_decide_eq_true (by kernel_rfl)) (by unfold Func.isWrapper; first | (rw [if_pos (by decide +kernel)]; kernel_rfl) | (rw [if_neg (by decide +kernel)]; exact ⟨rfl, rfl⟩))
    (fun os started H enc _ F => lifted os started H enc F)

theorem proved : Rows.QueryTablesUptoSaid := over
end Go.Proofs.Ytejbcaheoloahaa.queryTables
