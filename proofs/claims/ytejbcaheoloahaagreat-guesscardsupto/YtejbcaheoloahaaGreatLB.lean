/- How many tuples any relations have, joined by any conditions, about, which conditions may be asked of them, and how many rows one has, is as the document has it. -/
import Derived.Test.YtejbcaheoloahaaGreatWB3
import Derived.Test.YtejbcaheoloahaaGreatGR4
import Derived.Test.YtejbcaheoloahaaGreatAbRd
import Derived.Test.YtejbcaheoloahaaGreatAbArr
import Derived.Test.YtejbcaheoloahaaGreatAbRec
import Derived.Test.YtejbcaheoloahaaGreatRows
namespace Go.Proofs.YtejbcaheoloahaaGreat.guessCards
open Go Go.Ab Go.Ab.S1 Go.Pl
open Go.ChangeShapes Go.WideShapes Go.ChangeAt Go.RowKit
set_option linter.unusedVariables false
set_option linter.unusedSimpArgs false
set_option maxRecDepth 100000
theorem own : ownKnob Tryz.prog.godebug = none := by kernel_rfl
theorem bulk {H : Type} : Bulk (H := H) Rows.uptoBulk Rows.uptoBulkAll :=
  ⟨fun b => by simp [Rows.uptoBulk], fun l => by cases l <;> simp [Rows.uptoBulk], by simp [Rows.uptoBulk], fun d => by simp [Rows.uptoBulk], fun a b => by simp [Rows.uptoBulk], fun a => by simp [Rows.uptoBulk],
    by simp [Rows.uptoBulkAll], fun d r => by simp [Rows.uptoBulkAll]⟩
theorem rd3 : RdT Go.Proofs.Tryz.prog 3 (rI .i64) (wI .i64) := rd_int (by kernel_rfl)
theorem rd2 : RdT Go.Proofs.Tryz.prog 2 (rI .i64) (wI .i64) := rd_int (by kernel_rfl)
theorem rd45 : RdT Go.Proofs.Tryz.prog 45 (rF .f64) (wF .f64) := rd_flt (by kernel_rfl)
theorem rd9 : RdT Go.Proofs.Tryz.prog 9 rS wS := rd_str (by kernel_rfl)
theorem rd47 : RdT Go.Proofs.Tryz.prog 47 R_api_Value W_api_Value := by
  intro n qs hq hb
  cases n with
  | zero => exact hq.elim
  | succ n =>
  have u : Go.Proofs.Tryz.prog.underlying 47 = some (.struct (fieldsIn Go.Proofs.Tryz.prog 47)) := by kernel_rfl
  have hl := rd_len (sz := 4) u (by kernel_rfl) hq
  obtain ⟨x0, e0, w0⟩ := rd_part (i := 0) (off := 0) (sz := 1) u (by kernel_rfl) (by kernel_rfl) rd3 hq hb
  obtain ⟨x1, e1, w1⟩ := rd_part (i := 1) (off := 1) (sz := 1) u (by kernel_rfl) (by kernel_rfl) rd2 hq hb
  obtain ⟨x2, e2, w2⟩ := rd_part (i := 2) (off := 2) (sz := 1) u (by kernel_rfl) (by kernel_rfl) rd45 hq hb
  obtain ⟨x3, e3, w3⟩ := rd_part (i := 3) (off := 3) (sz := 1) u (by kernel_rfl) (by kernel_rfl) rd9 hq hb
  match qs, hl with
  | [c0, c1, c2, c3], _ =>
  simp only [List.drop_zero, List.drop_succ_cons, List.take_succ_cons, List.take_zero, rI, rF, rB, rS, rSl, List.cons.injEq, and_true] at e0 e1 e2 e3
  subst e0
  subst e1
  subst e2
  subst e3
  exact ⟨⟨x0, x1, x2, x3⟩, rfl, w0, w1, w2, w3⟩
theorem rdG49 : ∀ (n : Nat) (qs : List PV), HasT Go.Proofs.Tryz.prog n 49 qs → PV.bulkL qs ≤ 1048576 → Good_api_Expr qs ∧ WG_api_Expr qs := by
  intro n
  induction n using Nat.strongRecOn with
  | ind n ih =>
  intro qs hq hb
  cases n with
  | zero => exact hq.elim
  | succ n =>
  have u : Go.Proofs.Tryz.prog.underlying 49 = some (.struct (fieldsIn Go.Proofs.Tryz.prog 49)) := by kernel_rfl
  have hl := rd_len (sz := 8) u (by kernel_rfl) hq
  obtain ⟨x0, e0, w0⟩ := rd_part (i := 0) (off := 0) (sz := 1) u (by kernel_rfl) (by kernel_rfl) rd3 hq hb
  obtain ⟨x1, e1, w1⟩ := rd_part (i := 1) (off := 1) (sz := 1) u (by kernel_rfl) (by kernel_rfl) rd3 hq hb
  obtain ⟨x2, e2, w2⟩ := rd_part (i := 2) (off := 2) (sz := 1) u (by kernel_rfl) (by kernel_rfl) rd3 hq hb
  obtain ⟨x3, e3, w3⟩ := rd_part (i := 3) (off := 3) (sz := 4) u (by kernel_rfl) (by kernel_rfl) rd47 hq hb
  have hk := rd_rec (i := 4) (off := 7) (st := 23) u (by kernel_rfl) (by kernel_rfl) (by kernel_rfl) (by kernel_rfl) hq hb
  rcases hk with e4 | ⟨rows, e4, hrl, hr⟩
  · match qs, hl with
    | [c0, c1, c2, c3, c4, c5, c6, c7], _ =>
    simp only [List.drop_zero, List.drop_succ_cons, List.take_succ_cons, List.take_zero, rI, rF, rB, rS, rSl, R_api_Value, List.cons.injEq, and_true] at e0 e1 e2 e3 e4
    subst e0
    subst e1
    subst e2
    obtain ⟨rfl, rfl, rfl, rfl⟩ := e3
    subst e4
    exact ⟨.nil x0 x1 x2 x3, .nil x0 x1 x2 x3 ⟨w0, w1, w2, w3⟩⟩
  · match qs, hl with
    | [c0, c1, c2, c3, c4, c5, c6, c7], _ =>
    simp only [List.drop_zero, List.drop_succ_cons, List.take_succ_cons, List.take_zero, rI, rF, rB, rS, rSl, R_api_Value, List.cons.injEq, and_true] at e0 e1 e2 e3 e4
    subst e0
    subst e1
    subst e2
    obtain ⟨rfl, rfl, rfl, rfl⟩ := e3
    subst e4
    exact ⟨.some x0 x1 x2 x3 rows (fun r hm => by obtain ⟨⟨m, q1, q2⟩, q3⟩ := hr r hm; exact (ih m q1 r q2 q3).1), .some x0 x1 x2 x3 rows ⟨w0, w1, w2, w3⟩ hrl (fun r hm => by obtain ⟨⟨m, q1, q2⟩, q3⟩ := hr r hm; exact (ih m q1 r q2 q3).2)⟩
theorem rd49 : RdT Go.Proofs.Tryz.prog 49 R_E_api_Expr W_E_api_Expr := by
  intro n qs hq hb
  obtain ⟨g, w⟩ := rdG49 n qs hq hb
  exact ⟨⟨qs, g⟩, rfl, w, hb⟩
theorem rd23 : RdT Go.Proofs.Tryz.prog 23 (rSl R_E_api_Expr) (wSl W_E_api_Expr) := rd_slice (e := 49) (by kernel_rfl) (fun x h => by have := len_E_api_Expr x; rw [h] at this; cases this) rd49
theorem rd246 : RdT Go.Proofs.Tryz.prog 246 R_tabularyref19_Bucket W_tabularyref19_Bucket := by
  intro n qs hq hb
  cases n with
  | zero => exact hq.elim
  | succ n =>
  have u : Go.Proofs.Tryz.prog.underlying 246 = some (.struct (fieldsIn Go.Proofs.Tryz.prog 246)) := by kernel_rfl
  have hl := rd_len (sz := 10) u (by kernel_rfl) hq
  obtain ⟨x0, e0, w0⟩ := rd_part (i := 0) (off := 0) (sz := 4) u (by kernel_rfl) (by kernel_rfl) rd47 hq hb
  obtain ⟨x1, e1, w1⟩ := rd_part (i := 1) (off := 4) (sz := 4) u (by kernel_rfl) (by kernel_rfl) rd47 hq hb
  obtain ⟨x2, e2, w2⟩ := rd_part (i := 2) (off := 8) (sz := 1) u (by kernel_rfl) (by kernel_rfl) rd3 hq hb
  obtain ⟨x3, e3, w3⟩ := rd_part (i := 3) (off := 9) (sz := 1) u (by kernel_rfl) (by kernel_rfl) rd3 hq hb
  match qs, hl with
  | [c0, c1, c2, c3, c4, c5, c6, c7, c8, c9], _ =>
  simp only [List.drop_zero, List.drop_succ_cons, List.take_succ_cons, List.take_zero, rI, rF, rB, rS, rSl, R_api_Value, List.cons.injEq, and_true] at e0 e1 e2 e3
  obtain ⟨rfl, rfl, rfl, rfl⟩ := e0
  obtain ⟨rfl, rfl, rfl, rfl⟩ := e1
  subst e2
  subst e3
  exact ⟨⟨x0, x1, x2, x3⟩, rfl, w0, w1, w2, w3⟩
theorem rd210 : RdT Go.Proofs.Tryz.prog 210 (rSl R_tabularyref19_Bucket) (wSl W_tabularyref19_Bucket) := rd_slice (e := 246) (by kernel_rfl) (fun x h => nomatch h) rd246
theorem rd151 : RdT Go.Proofs.Tryz.prog 151 (rSl R_api_Value) (wSl W_api_Value) := rd_slice (e := 47) (by kernel_rfl) (fun x h => nomatch h) rd47
theorem rd5 : RdT Go.Proofs.Tryz.prog 5 (rI .u8) (wI .u8) := rd_int (by kernel_rfl)
theorem rd152 : RdT Go.Proofs.Tryz.prog 152 (rA .u8 64) (wA .u8 64) := rd_arr (by kernel_rfl) (by kernel_rfl) (by kernel_rfl) rd5
theorem rd212 : RdT Go.Proofs.Tryz.prog 212 R_tabularyref20_Col W_tabularyref20_Col := by
  intro n qs hq hb
  cases n with
  | zero => exact hq.elim
  | succ n =>
  have u : Go.Proofs.Tryz.prog.underlying 212 = some (.struct (fieldsIn Go.Proofs.Tryz.prog 212)) := by kernel_rfl
  have hl := rd_len (sz := 69) u (by kernel_rfl) hq
  obtain ⟨x0, e0, w0⟩ := rd_part (i := 0) (off := 0) (sz := 1) u (by kernel_rfl) (by kernel_rfl) rd3 hq hb
  obtain ⟨x1, e1, w1⟩ := rd_part (i := 1) (off := 1) (sz := 1) u (by kernel_rfl) (by kernel_rfl) rd3 hq hb
  obtain ⟨x2, e2, w2⟩ := rd_part (i := 2) (off := 2) (sz := 1) u (by kernel_rfl) (by kernel_rfl) rd3 hq hb
  obtain ⟨x3, e3, w3⟩ := rd_part (i := 3) (off := 3) (sz := 1) u (by kernel_rfl) (by kernel_rfl) rd210 hq hb
  obtain ⟨x4, e4, w4⟩ := rd_part (i := 4) (off := 4) (sz := 1) u (by kernel_rfl) (by kernel_rfl) rd151 hq hb
  obtain ⟨x5, e5, w5⟩ := rd_part (i := 5) (off := 5) (sz := 64) u (by kernel_rfl) (by kernel_rfl) rd152 hq hb
  have j : qs = _ := take_join (o' := 1) e0 rfl (take_join (o' := 2) e1 rfl (take_join (o' := 3) e2 rfl (take_join (o' := 4) e3 rfl (take_join (o' := 5) e4 rfl (take_join (o' := 69) e5 rfl (take_end hl))))))
  exact ⟨⟨x0, x1, x2, x3, x4, x5⟩, j.trans (by kernel_rfl), w0, w1, w2, w3, w4, w5⟩
theorem rd146 : RdT Go.Proofs.Tryz.prog 146 (rSl R_tabularyref20_Col) (wSl W_tabularyref20_Col) := rd_slice (e := 212) (by kernel_rfl) (fun x h => nomatch h) rd212
theorem rd148 : RdT Go.Proofs.Tryz.prog 148 R_tabularyref20_Stat W_tabularyref20_Stat := by
  intro n qs hq hb
  cases n with
  | zero => exact hq.elim
  | succ n =>
  have u : Go.Proofs.Tryz.prog.underlying 148 = some (.struct (fieldsIn Go.Proofs.Tryz.prog 148)) := by kernel_rfl
  have hl := rd_len (sz := 2) u (by kernel_rfl) hq
  obtain ⟨x0, e0, w0⟩ := rd_part (i := 0) (off := 0) (sz := 1) u (by kernel_rfl) (by kernel_rfl) rd3 hq hb
  obtain ⟨x1, e1, w1⟩ := rd_part (i := 1) (off := 1) (sz := 1) u (by kernel_rfl) (by kernel_rfl) rd146 hq hb
  match qs, hl with
  | [c0, c1], _ =>
  simp only [List.drop_zero, List.drop_succ_cons, List.take_succ_cons, List.take_zero, rI, rF, rB, rS, rSl, List.cons.injEq, and_true] at e0 e1
  subst e0
  subst e1
  exact ⟨⟨x0, x1⟩, rfl, w0, w1⟩
theorem rd51 : RdT Go.Proofs.Tryz.prog 51 (rSl R_tabularyref20_Stat) (wSl W_tabularyref20_Stat) := rd_slice (e := 148) (by kernel_rfl) (fun x h => nomatch h) rd148
theorem rd52 : RdT Go.Proofs.Tryz.prog 52 (rI .u32) (wI .u32) := rd_int (by kernel_rfl)
theorem spec (xs : List AV) (h : ArgsT Go.Proofs.Tryz.prog [23, 51, 52, 3] xs 1048576) : ∃ N H', call G N 4 xs [] = some (.ret (.pv (.bool true)), H') := by
  match xs, h with
  | [x0, x1, x2, x3], h =>
    obtain ⟨n0, q0, c0, h0, f0, d0, n1, q1, c1, h1, f1, d1, n2, q2, c2, h2, f2, d2, n3, q3, c3, h3, f3, d3, _⟩ := h
    obtain ⟨z0, ⟨p0, g0, rfl⟩, w0⟩ := rd_arg0 (b := 0) rd23 (by kernel_rfl) h0 (by omega) f0
    obtain rfl := (List.cons.inj g0).1
    obtain ⟨z1, ⟨p1, g1, rfl⟩, w1⟩ := rd_arg0 (b := 0) rd51 (by kernel_rfl) h1 (by omega) f1
    obtain rfl := (List.cons.inj g1).1
    obtain ⟨z2, ⟨p2, g2, rfl⟩, w2⟩ := rd_arg0 (b := 0) rd52 (by kernel_rfl) h2 (by omega) f2
    obtain rfl := (List.cons.inj g2).1
    obtain ⟨z3, ⟨p3, g3, rfl⟩, w3⟩ := rd_arg0 (b := 0) rd3 (by kernel_rfl) h3 (by omega) f3
    obtain rfl := (List.cons.inj g3).1
    exact ⟨4000000, [], ok_law31_GuessCards (r := true) (GuessCards_true rfl w0 w1 w2 w3)⟩

theorem contract (H : Type) (enc : TypeId × Value → H) (W : World) (base : Nat) (args : Array Value) (ds gs : List (DataW H)) (before : List MemPlace)
    (hval : ∀ (j : Nat) t v, Tryz.f4.params[j]? = some t → args[j]? = some v → Value.okWide Tryz.prog W .any base t v)
    (hW : DataW.Whole enc Tryz.prog Tryz.f4.params.toList Rows.guessCardsSpec.vars false W args.toList ds gs before) (hk : Rows.uptoBulkAll ds ≤ 1048576) :
    Calls Tryz.prog 4 args W fun e W' => ∃ v, e = .returned v ∧ Rows.guessCardsSpec.post enc Tryz.prog Tryz.f4 false true false false W args v W' :=
  law_contractG G_ok GP (t0 := 4) (bound := 1048576) [3, 2, 45, 9, 47, 49, 23, 246, 210, 151, 5, 152, 212, 146, 148, 51, 52] (by kernel_rfl) bulk (by kernel_rfl) (by kernel_rfl) rfl (by kernel_rfl) (by kernel_rfl) (by kernel_rfl) rfl
    (fun ds hds => by
      match ds, hds with
      | [d0, d1, d2, d3], _ => rfl)
    spec W base args ds gs before hval hW hk

theorem lifted (os : Os) (started : os.Started) (H : Type) (enc : TypeId × Value → H) (F : Stop.Interp) :
    ReturnsInHanded {} Tryz.checked os 4 .any ((Rows.OpenSpec.upto Rows.guessCardsSpec).pre6 enc Tryz.prog Tryz.f4 Rows.guessCardsUptoRow.domain false) (((Rows.OpenSpec.upto Rows.guessCardsSpec).at F).post enc Tryz.prog Tryz.f4 false true false false) := by
  refine returnsInHanded_of_cond (C := Tryz.checked) (s := Rows.OpenSpec.upto Rows.guessCardsSpec) (k := Rows.uptoSmall) rfl own started (by kernel_rfl) Tryz.func4
    (OpenSpec.witness (enc := enc) (C := Tryz.checked) (s := Rows.OpenSpec.upto Rows.guessCardsSpec) (k := Rows.uptoSmall) rfl false ⟨#[], #[.slice none 0 0, .slice none 0 0, .int .u32 0, .int .i64 0], []⟩ 8 (by kernel_rfl) (by kernel_rfl) (by kernel_rfl)
      (x := ([.nil, .nil, .lit (.int .u32 0), .lit (.int .i64 0)], [], [])) (by kernel_rfl) rfl (by kernel_rfl)) ?_
  intro W base args ds gs before hval hW _ hk _
  have hb : Rows.uptoBulkAll ds ≤ 1048576 := by
    have h1 : gs = [] := by
      obtain ⟨p, q, hA, hV, _⟩ := hW
      exact (trodVars_none hV).1
    rw [h1, List.append_nil] at hk
    simpa [Rows.uptoSmall] using hk
  exact contract H enc W base args ds gs before hval hW hb

theorem over : Rows.guessCardsUptoRow.holds Tryz.pinned (Rows.OpenSpec.upto Rows.guessCardsSpec) :=
  OpenClaim.holds_of_cond 4 Tryz.f4 rfl rfl rfl rfl rfl rfl rfl ⟨rfl, rfl, rfl, rfl, rfl⟩ rfl rfl rfl rfl rfl (by kernel_rfl) Tryz.func4 (by kernel_rfl)
    (of_decide_eq_true (by kernel_rfl)) (by unfold Func.isWrapper; first | (rw [if_pos (by decide +kernel)]; kernel_rfl) | (rw [if_neg (by decide +kernel)]; exact ⟨rfl, rfl⟩))
    (fun os started H enc _ F => lifted os started H enc F)

theorem proved : Rows.GuessCardsUptoSaid := over
end Go.Proofs.YtejbcaheoloahaaGreat.guessCards
