import Derived.Test.YtnfgpejdbmakkaaV7
namespace Go.Ab.Ytnfgpejdbmakkaa
open Go Go.Ab
open Go.Proofs.Try
set_option maxRecDepth 100000
set_option maxHeartbeats 1000000
set_option linter.unusedSimpArgs false
set_option linter.unusedVariables false

theorem emp_empty : emp ByteArray.empty = true := beq_self_eq_true (⟨#[]⟩ : ByteArray).toList
theorem posz0 : posz 0 = true := by decide
theorem plain_right (v : V) (hv : v.Ok) : v.plain.right = true ∧ v.plain.plain = v.plain := by
  have h0 : V0.right = true ∧ V0.plain = V0 := by
    have : V0.right = true := by simp [V.right, V0, posz0, emp_empty]
    exact ⟨this, by unfold V.plain; rw [if_neg (by rw [this]; simp), if_neg (by decide), if_neg (by decide)]⟩
  by_cases hr : v.right = false
  · rw [show v.plain = V0 by unfold V.plain; rw [if_pos hr]]; exact h0
  · have hr' : v.right = true := by simpa using hr
    by_cases hn : v.k = 3 ∧ isNan v.f = true
    · have e : v.plain = { v with f := 9221120237041090561 } := by unfold V.plain; rw [if_neg hr, if_pos hn]
      have h3 : v.n = 0 ∧ emp v.s = true := by simpa [V.right, hn.1] using hr'
      rw [e]
      have hR : ({ v with f := 9221120237041090561 } : V).right = true := by simp [V.right, hn.1, h3.1, h3.2]
      exact ⟨hR, by unfold V.plain; rw [if_neg (by rw [hR]; simp), if_pos ⟨hn.1, (by decide : isNan 9221120237041090561 = true)⟩]⟩
    · by_cases hz : v.k = 3 ∧ isZero v.f = true
      · have e : v.plain = { v with f := 0 } := by unfold V.plain; rw [if_neg hr, if_neg hn, if_pos hz]
        have h3 : v.n = 0 ∧ emp v.s = true := by simpa [V.right, hz.1] using hr'
        rw [e]
        have hR : ({ v with f := 0 } : V).right = true := by simp [V.right, hz.1, h3.1, h3.2]
        exact ⟨hR, by unfold V.plain; rw [if_neg (by rw [hR]; simp), if_neg (by intro h; exact absurd h.2 (by decide : ¬ isNan 0 = true)), if_pos ⟨hz.1, (by decide : isZero 0 = true)⟩]⟩
      · have e : v.plain = v := by unfold V.plain; rw [if_neg hr, if_neg hn, if_neg hz]
        rw [e]; exact ⟨hr', e⟩

theorem floats_ok (f : Nat) (N : Nat) (hN : 2 ≤ N) : call G N 63 [.pv (.flt .f64 f), .pv (.flt .f64 f)] [] = some (.ret (.pv (.int .i64 0)), []) := by
  obtain ⟨N, rfl⟩ : ∃ M, N = M + 1 := ⟨N - 1, by omega⟩
  refine call_eq func63 rfl (show _ = [_, _, _, _, _, _, _, _, _, _, _, _, _, _, _, _, _, _, _, _, _, _, _, _, _, _, _, _] from rfl) ?_
  refine wp_seq ?_
  refine wp_region rfl rfl ?_
  refine wo_apv rfl rfl rfl rfl rfl ?_
  refine wo_nil ?_
  refine ⟨[_, _, _, _, _, _, _, _, _, _, _, _, _, _, _, _, _, _, _, _, _, _, _, _, _, _, _, _], rfl, ?_⟩
  refine wp_seq ?_
  refine wp_seq ?_
  refine wp_region rfl rfl ?_
  refine wo_mpv rfl rfl rfl rfl rfl ?_
  cases hn : isNan f
  ·
    have hq : FloatKind.f64.format.order f f = some .eq := by unfold isNan at hn; simpa using hn
    refine wo_call (v := .pv (.bool false)) (H' := []) rfl rfl rfl rfl rfl rfl ((cl58 _ _ _ _).trans (callPure_pv rfl (fun _ => rfl) (by rw [← hn]; exact isNaN_ok _ _ (by omega)))) rfl rfl rfl ?_
    refine wo_mpv rfl rfl rfl rfl rfl ?_
    refine wo_call (v := .pv (.bool false)) (H' := []) rfl rfl rfl rfl rfl rfl ((cl58 _ _ _ _).trans (callPure_pv rfl (fun _ => rfl) (by rw [← hn]; exact isNaN_ok _ _ (by omega)))) rfl rfl rfl ?_
    refine wo_apv rfl rfl rfl rfl rfl ?_
    refine wo_apv rfl rfl rfl rfl rfl ?_
    refine wo_nil ?_
    refine ⟨[_, _, _, _, _, _, _, _, _, _, _, _, _, _, _, _, _, _, _, _, _, _, _, _, _, _, _, _], rfl, ?_⟩
    refine wp_block ?_
    refine wp_seq ?_
    refine wp_region rfl rfl ?_
    refine wo_mpv rfl rfl rfl rfl rfl ?_
    refine wo_mpv rfl rfl rfl rfl rfl ?_
    refine wo_off rfl rfl rfl ?_
    refine wo_pick (v := .pv _) rfl rfl rfl rfl rfl rfl ?_
    refine wo_apv rfl rfl rfl rfl rfl ?_
    refine wo_nil ?_
    refine ⟨[_, _, _, _, _, _, _, _, _, _, _, _, _, _, _, _, _, _, _, _, _, _, _, _, _, _, _, _], rfl, ?_⟩
    refine wp_false rfl ?_
    refine wp_seq ?_
    refine wp_region rfl rfl ?_
    refine wo_mpv rfl rfl rfl rfl rfl ?_
    refine wo_apv rfl rfl rfl rfl rfl ?_
    refine wo_nil ?_
    refine ⟨[_, _, _, _, _, _, _, _, _, _, _, _, _, _, _, _, _, _, _, _, _, _, _, _, _, _, _, _], rfl, ?_⟩
    refine wp_false rfl ?_
    refine wp_seq ?_
    refine wp_region rfl rfl ?_
    refine wo_mpv rfl rfl rfl rfl rfl ?_
    refine wo_apv rfl rfl rfl rfl rfl ?_
    refine wo_nil ?_
    refine ⟨[_, _, _, _, _, _, _, _, _, _, _, _, _, _, _, _, _, _, _, _, _, _, _, _, _, _, _, _], rfl, ?_⟩
    refine wp_false rfl ?_
    refine wp_seq ?_
    refine wp_region rfl rfl ?_
    refine wo_mpv rfl rfl rfl rfl rfl ?_
    refine wo_mpv rfl rfl rfl rfl rfl ?_
    refine wo_bin (v := .pv (.bool false)) rfl rfl rfl rfl (vF (by rw [hq]; rfl)) ?_
    refine wo_apv rfl rfl rfl rfl rfl ?_
    refine wo_nil ?_
    refine ⟨[_, _, _, _, _, _, _, _, _, _, _, _, _, _, _, _, _, _, _, _, _, _, _, _, _, _, _, _], rfl, ?_⟩
    refine wp_false rfl ?_
    refine wp_seq ?_
    refine wp_region rfl rfl ?_
    refine wo_mpv rfl rfl rfl rfl rfl ?_
    refine wo_mpv rfl rfl rfl rfl rfl ?_
    refine wo_bin (v := .pv (.bool false)) rfl rfl rfl rfl (vF (by rw [hq]; rfl)) ?_
    refine wo_apv rfl rfl rfl rfl rfl ?_
    refine wo_nil ?_
    refine ⟨[_, _, _, _, _, _, _, _, _, _, _, _, _, _, _, _, _, _, _, _, _, _, _, _, _, _, _, _], rfl, ?_⟩
    refine wp_false rfl ?_
    refine wp_skip ?_
    refine wp_seq ?_
    refine wp_region rfl rfl ?_
    refine wo_apv rfl rfl rfl rfl rfl ?_
    refine wo_nil ?_
    refine ⟨[_, _, _, _, _, _, _, _, _, _, _, _, _, _, _, _, _, _, _, _, _, _, _, _, _, _, _, _], rfl, ?_⟩
    refine wp_ret ?_
    exact ⟨trivial, _, rfl, leave_pure⟩
  ·
    refine wo_call (v := .pv (.bool true)) (H' := []) rfl rfl rfl rfl rfl rfl ((cl58 _ _ _ _).trans (callPure_pv rfl (fun _ => rfl) (by rw [← hn]; exact isNaN_ok _ _ (by omega)))) rfl rfl rfl ?_
    refine wo_mpv rfl rfl rfl rfl rfl ?_
    refine wo_call (v := .pv (.bool true)) (H' := []) rfl rfl rfl rfl rfl rfl ((cl58 _ _ _ _).trans (callPure_pv rfl (fun _ => rfl) (by rw [← hn]; exact isNaN_ok _ _ (by omega)))) rfl rfl rfl ?_
    refine wo_apv rfl rfl rfl rfl rfl ?_
    refine wo_apv rfl rfl rfl rfl rfl ?_
    refine wo_nil ?_
    refine ⟨[_, _, _, _, _, _, _, _, _, _, _, _, _, _, _, _, _, _, _, _, _, _, _, _, _, _, _, _], rfl, ?_⟩
    refine wp_block ?_
    refine wp_seq ?_
    refine wp_region rfl rfl ?_
    refine wo_mpv rfl rfl rfl rfl rfl ?_
    refine wo_mpv rfl rfl rfl rfl rfl ?_
    refine wo_mpv rfl rfl rfl rfl rfl ?_
    refine wo_pick (v := .pv _) rfl rfl rfl rfl rfl rfl ?_
    refine wo_apv rfl rfl rfl rfl rfl ?_
    refine wo_nil ?_
    refine ⟨[_, _, _, _, _, _, _, _, _, _, _, _, _, _, _, _, _, _, _, _, _, _, _, _, _, _, _, _], rfl, ?_⟩
    refine wp_true rfl ?_
    refine wp_seq ?_
    refine wp_region rfl rfl ?_
    refine wo_apv rfl rfl rfl rfl rfl ?_
    refine wo_nil ?_
    refine ⟨[_, _, _, _, _, _, _, _, _, _, _, _, _, _, _, _, _, _, _, _, _, _, _, _, _, _, _, _], rfl, ?_⟩
    refine wp_ret ?_
    exact ⟨trivial, _, rfl, leave_pure⟩
theorem isn_int (i : Int) (N : Nat) (hN : 1 ≤ N) : call G N 72 [.pv (.int .i64 i)] [] = some (.ret (.pv (.bool false)), []) := by
  obtain ⟨N, rfl⟩ : ∃ M, N = M + 1 := ⟨N - 1, by omega⟩
  refine call_eq func72 rfl (show _ = [_, _, _, _, _, _] from rfl) ?_
  refine wp_seq ?_
  refine wp_region rfl rfl ?_
  refine wo_apv rfl rfl rfl rfl rfl ?_
  refine wo_nil ?_
  refine ⟨[_, _, _, _, _, _], rfl, ?_⟩
  refine wp_seq ?_
  refine wp_region rfl rfl ?_
  refine wo_mpv rfl rfl rfl rfl rfl ?_
  refine wo_mpv rfl rfl rfl rfl rfl ?_
  refine wo_bin (v := .pv (.bool false)) rfl rfl rfl rfl (nF rfl) ?_
  refine wo_apv rfl rfl rfl rfl rfl ?_
  refine wo_nil ?_
  refine ⟨[_, _, _, _, _, _], rfl, ?_⟩
  refine wp_ret ?_
  exact ⟨trivial, _, rfl, leave_pure⟩
theorem isn_str (s : ByteArray) (N : Nat) (hN : 1 ≤ N) : call G N 71 [.pv (.str s)] [] = some (.ret (.pv (.bool false)), []) := by
  obtain ⟨N, rfl⟩ : ∃ M, N = M + 1 := ⟨N - 1, by omega⟩
  refine call_eq func71 rfl (show _ = [_, _, _, _, _, _] from rfl) ?_
  refine wp_seq ?_
  refine wp_region rfl rfl ?_
  refine wo_apv rfl rfl rfl rfl rfl ?_
  refine wo_nil ?_
  refine ⟨[_, _, _, _, _, _], rfl, ?_⟩
  refine wp_seq ?_
  refine wp_region rfl rfl ?_
  refine wo_mpv rfl rfl rfl rfl rfl ?_
  refine wo_mpv rfl rfl rfl rfl rfl ?_
  refine wo_bin (v := .pv (.bool false)) rfl rfl rfl rfl (strNe _) ?_
  refine wo_apv rfl rfl rfl rfl rfl ?_
  refine wo_nil ?_
  refine ⟨[_, _, _, _, _, _], rfl, ?_⟩
  refine wp_ret ?_
  exact ⟨trivial, _, rfl, leave_pure⟩
theorem cmp_int (i : Int) (N : Nat) (hN : 2 ≤ N) : call G N 65 [.pv (.int .i64 i), .pv (.int .i64 i)] [] = some (.ret (.pv (.int .i64 0)), []) := by
  obtain ⟨N, rfl⟩ : ∃ M, N = M + 1 := ⟨N - 1, by omega⟩
  refine call_eq func65 rfl (show _ = [_, _, _, _, _, _, _, _, _, _, _, _, _, _, _, _, _, _, _, _] from rfl) ?_
  refine wp_seq ?_
  refine wp_region rfl rfl ?_
  refine wo_apv rfl rfl rfl rfl rfl ?_
  refine wo_nil ?_
  refine ⟨[_, _, _, _, _, _, _, _, _, _, _, _, _, _, _, _, _, _, _, _], rfl, ?_⟩
  refine wp_seq ?_
  refine wp_region rfl rfl ?_
  refine wo_mpv rfl rfl rfl rfl rfl ?_
  refine wo_call (v := .pv (.bool false)) (H' := []) rfl rfl rfl rfl rfl rfl ((cl72 _ _ _ _).trans (callPure_pv rfl (fun _ => rfl) (isn_int _ _ (by omega)))) rfl rfl rfl ?_
  refine wo_apv rfl rfl rfl rfl rfl ?_
  refine wo_nil ?_
  refine ⟨[_, _, _, _, _, _, _, _, _, _, _, _, _, _, _, _, _, _, _, _], rfl, ?_⟩
  refine wp_seq ?_
  refine wp_region rfl rfl ?_
  refine wo_mpv rfl rfl rfl rfl rfl ?_
  refine wo_call (v := .pv (.bool false)) (H' := []) rfl rfl rfl rfl rfl rfl ((cl72 _ _ _ _).trans (callPure_pv rfl (fun _ => rfl) (isn_int _ _ (by omega)))) rfl rfl rfl ?_
  refine wo_apv rfl rfl rfl rfl rfl ?_
  refine wo_nil ?_
  refine ⟨[_, _, _, _, _, _, _, _, _, _, _, _, _, _, _, _, _, _, _, _], rfl, ?_⟩
  refine wp_seq ?_
  refine wp_seq ?_
  refine wp_region rfl rfl ?_
  refine wo_mpv rfl rfl rfl rfl rfl ?_
  refine wo_nil ?_
  refine ⟨[_, _, _, _, _, _, _, _, _, _, _, _, _, _, _, _, _, _, _, _], rfl, ?_⟩
  refine wp_false rfl ?_
  refine wp_skip ?_
  refine wp_seq ?_
  refine wp_seq ?_
  refine wp_region rfl rfl ?_
  refine wo_mpv rfl rfl rfl rfl rfl ?_
  refine wo_nil ?_
  refine ⟨[_, _, _, _, _, _, _, _, _, _, _, _, _, _, _, _, _, _, _, _], rfl, ?_⟩
  refine wp_false rfl ?_
  refine wp_skip ?_
  refine wp_seq ?_
  refine wp_seq ?_
  refine wp_region rfl rfl ?_
  refine wo_mpv rfl rfl rfl rfl rfl ?_
  refine wo_mpv rfl rfl rfl rfl rfl ?_
  refine wo_bin (v := .pv (.bool false)) rfl rfl rfl rfl (bF (by omega)) ?_
  refine wo_nil ?_
  refine ⟨[_, _, _, _, _, _, _, _, _, _, _, _, _, _, _, _, _, _, _, _], rfl, ?_⟩
  refine wp_false rfl ?_
  refine wp_skip ?_
  refine wp_seq ?_
  refine wp_seq ?_
  refine wp_region rfl rfl ?_
  refine wo_mpv rfl rfl rfl rfl rfl ?_
  refine wo_mpv rfl rfl rfl rfl rfl ?_
  refine wo_bin (v := .pv (.bool false)) rfl rfl rfl rfl (bF (by omega)) ?_
  refine wo_nil ?_
  refine ⟨[_, _, _, _, _, _, _, _, _, _, _, _, _, _, _, _, _, _, _, _], rfl, ?_⟩
  refine wp_false rfl ?_
  refine wp_skip ?_
  refine wp_seq ?_
  refine wp_region rfl rfl ?_
  refine wo_apv rfl rfl rfl rfl rfl ?_
  refine wo_nil ?_
  refine ⟨[_, _, _, _, _, _, _, _, _, _, _, _, _, _, _, _, _, _, _, _], rfl, ?_⟩
  refine wp_ret ?_
  exact ⟨trivial, _, rfl, leave_pure⟩
theorem bytesLess_irrefl : ∀ (l : List UInt8), Op.bytesLess l l = false := by
  intro l
  induction l with
  | nil => rfl
  | cons a l ih => simp [Op.bytesLess, ih]
theorem strLt (s : ByteArray) : strBin .lss s s = some (.pv (.bool false)) := by
  show boolsOf (Op.bytesLess s.toList s.toList) = _
  rw [bytesLess_irrefl]; rfl
theorem strGt (s : ByteArray) : strBin .gtr s s = some (.pv (.bool false)) := by
  show boolsOf (!(Op.bytesLess s.toList s.toList || s.toList == s.toList)) = _
  rw [beq_self_eq_true, Bool.or_true]; rfl
theorem cmp_str (s : ByteArray) (N : Nat) (hN : 2 ≤ N) : call G N 64 [.pv (.str s), .pv (.str s)] [] = some (.ret (.pv (.int .i64 0)), []) := by
  obtain ⟨N, rfl⟩ : ∃ M, N = M + 1 := ⟨N - 1, by omega⟩
  refine call_eq func64 rfl (show _ = [_, _, _, _, _, _, _, _, _, _, _, _, _, _, _, _, _, _, _, _] from rfl) ?_
  refine wp_seq ?_
  refine wp_region rfl rfl ?_
  refine wo_apv rfl rfl rfl rfl rfl ?_
  refine wo_nil ?_
  refine ⟨[_, _, _, _, _, _, _, _, _, _, _, _, _, _, _, _, _, _, _, _], rfl, ?_⟩
  refine wp_seq ?_
  refine wp_region rfl rfl ?_
  refine wo_mpv rfl rfl rfl rfl rfl ?_
  refine wo_call (v := .pv (.bool false)) (H' := []) rfl rfl rfl rfl rfl rfl ((cl71 _ _ _ _).trans (callPure_pv rfl (fun _ => rfl) (isn_str _ _ (by omega)))) rfl rfl rfl ?_
  refine wo_apv rfl rfl rfl rfl rfl ?_
  refine wo_nil ?_
  refine ⟨[_, _, _, _, _, _, _, _, _, _, _, _, _, _, _, _, _, _, _, _], rfl, ?_⟩
  refine wp_seq ?_
  refine wp_region rfl rfl ?_
  refine wo_mpv rfl rfl rfl rfl rfl ?_
  refine wo_call (v := .pv (.bool false)) (H' := []) rfl rfl rfl rfl rfl rfl ((cl71 _ _ _ _).trans (callPure_pv rfl (fun _ => rfl) (isn_str _ _ (by omega)))) rfl rfl rfl ?_
  refine wo_apv rfl rfl rfl rfl rfl ?_
  refine wo_nil ?_
  refine ⟨[_, _, _, _, _, _, _, _, _, _, _, _, _, _, _, _, _, _, _, _], rfl, ?_⟩
  refine wp_seq ?_
  refine wp_seq ?_
  refine wp_region rfl rfl ?_
  refine wo_mpv rfl rfl rfl rfl rfl ?_
  refine wo_nil ?_
  refine ⟨[_, _, _, _, _, _, _, _, _, _, _, _, _, _, _, _, _, _, _, _], rfl, ?_⟩
  refine wp_false rfl ?_
  refine wp_skip ?_
  refine wp_seq ?_
  refine wp_seq ?_
  refine wp_region rfl rfl ?_
  refine wo_mpv rfl rfl rfl rfl rfl ?_
  refine wo_nil ?_
  refine ⟨[_, _, _, _, _, _, _, _, _, _, _, _, _, _, _, _, _, _, _, _], rfl, ?_⟩
  refine wp_false rfl ?_
  refine wp_skip ?_
  refine wp_seq ?_
  refine wp_seq ?_
  refine wp_region rfl rfl ?_
  refine wo_mpv rfl rfl rfl rfl rfl ?_
  refine wo_mpv rfl rfl rfl rfl rfl ?_
  refine wo_bin (v := .pv (.bool false)) rfl rfl rfl rfl (strLt _) ?_
  refine wo_nil ?_
  refine ⟨[_, _, _, _, _, _, _, _, _, _, _, _, _, _, _, _, _, _, _, _], rfl, ?_⟩
  refine wp_false rfl ?_
  refine wp_skip ?_
  refine wp_seq ?_
  refine wp_seq ?_
  refine wp_region rfl rfl ?_
  refine wo_mpv rfl rfl rfl rfl rfl ?_
  refine wo_mpv rfl rfl rfl rfl rfl ?_
  refine wo_bin (v := .pv (.bool false)) rfl rfl rfl rfl (strGt _) ?_
  refine wo_nil ?_
  refine ⟨[_, _, _, _, _, _, _, _, _, _, _, _, _, _, _, _, _, _, _, _], rfl, ?_⟩
  refine wp_false rfl ?_
  refine wp_skip ?_
  refine wp_seq ?_
  refine wp_region rfl rfl ?_
  refine wo_apv rfl rfl rfl rfl rfl ?_
  refine wo_nil ?_
  refine ⟨[_, _, _, _, _, _, _, _, _, _, _, _, _, _, _, _, _, _, _, _], rfl, ?_⟩
  refine wp_ret ?_
  exact ⟨trivial, _, rfl, leave_pure⟩
theorem cmp_same {v w : V} (hv : v.Ok) (hw : w.Ok) (h : v.plain = w.plain) (N : Nat) (hN : 5 ≤ N) : call G N 49 [.agg (v.row.map .pv), .agg (w.row.map .pv)] [] = some (.ret (.pv (.int .i64 0)), []) := by
  obtain ⟨N, rfl⟩ : ∃ M, N = M + 1 := ⟨N - 1, by omega⟩
  have hpv := vPlain_ok hv N (by omega)
  have hpw := vPlain_ok hw N (by omega)
  rw [← h] at hpw
  generalize v.plain = u at hpv hpw
  refine call_eq func49 rfl (show _ = [_, _, _, _, _, _, _, _, _, _, _, _, _, _, _, _, _, _, _, _, _, _, _, _, _, _, _, _, _, _, _, _, _, _, _, _, _, _, _, _] from rfl) ?_
  refine wp_seq ?_
  refine wp_region rfl rfl ?_
  refine wo_box (cs := [_, _, _, _]) (H' := [_]) rfl rfl rfl rfl rfl rfl ?_
  refine wo_box (cs := [_, _, _, _]) (H' := [_, _]) rfl rfl rfl rfl rfl rfl ?_
  refine wo_apv rfl rfl rfl rfl rfl ?_
  refine wo_nil ?_
  refine ⟨[_, _, _, _, _, _, _, _, _, _, _, _, _, _, _, _, _, _, _, _, _, _, _, _, _, _, _, _, _, _, _, _, _, _, _, _, _, _, _, _], rfl, ?_⟩
  refine wp_seq ?_
  refine wp_drawn rfl rfl (by kernel_rfl) ?_
  refine wo_load (v := .agg [_, _, _, _]) t40 rfl rfl rfl rfl rfl rfl ?_
  refine wo_call (v := .agg (u.row.map .pv)) (H' := [_, _]) rfl rfl rfl rfl rfl rfl ((cl45 _ _ _ _).trans (callPure_agg rfl (fun _ => rfl) rfl hpv)) rfl rfl rfl ?_
  refine wo_load (v := .agg [_, _, _, _]) t40 rfl rfl rfl rfl rfl rfl ?_
  refine wo_call (v := .agg (u.row.map .pv)) (H' := [_, _]) rfl rfl rfl rfl rfl rfl ((cl45 _ _ _ _).trans (callPure_agg rfl (fun _ => rfl) rfl hpw)) rfl rfl rfl ?_
  refine wo_store (cs' := [_, _, _, _]) (H' := [_, _]) t40 rfl rfl rfl rfl rfl rfl rfl rfl rfl ?_
  refine wo_store (cs' := [_, _, _, _]) (H' := [_, _]) t40 rfl rfl rfl rfl rfl rfl rfl rfl rfl ?_
  refine wo_nil ?_
  refine ⟨by kernel_rfl, ?_⟩
  refine ⟨[_, _, _, _, _, _, _, _, _, _, _, _, _, _, _, _, _, _, _, _, _, _, _, _, _, _, _, _, _, _, _, _, _, _, _, _, _, _, _, _], rfl, ?_⟩
  refine wp_seq ?_
  refine wp_seq ?_
  refine wp_region rfl rfl ?_
  refine wo_faddr t40 t3 rfl rfl rfl rfl rfl rfl rfl ?_
  refine wo_load t3 rfl rfl rfl rfl rfl rfl ?_
  refine wo_faddr t40 t3 rfl rfl rfl rfl rfl rfl rfl ?_
  refine wo_load t3 rfl rfl rfl rfl rfl rfl ?_
  refine wo_bin (v := .pv (.bool false)) rfl rfl rfl rfl (nF rfl) ?_
  refine wo_nil ?_
  refine ⟨[_, _, _, _, _, _, _, _, _, _, _, _, _, _, _, _, _, _, _, _, _, _, _, _, _, _, _, _, _, _, _, _, _, _, _, _, _, _, _, _], rfl, ?_⟩
  refine wp_false rfl ?_
  refine wp_skip ?_
  refine wp_seq ?_
  refine wp_seq ?_
  refine wp_region rfl rfl ?_
  refine wo_faddr t40 t3 rfl rfl rfl rfl rfl rfl rfl ?_
  refine wo_load t3 rfl rfl rfl rfl rfl rfl ?_
  refine wo_nil ?_
  refine ⟨[_, _, _, _, _, _, _, _, _, _, _, _, _, _, _, _, _, _, _, _, _, _, _, _, _, _, _, _, _, _, _, _, _, _, _, _, _, _, _, _], rfl, ?_⟩
  refine wp_block ?_
  refine wp_seq ?_
  refine wp_region rfl rfl ?_
  refine wo_esplit rfl rfl rfl rfl rfl (fun c5_0 => ?_) (fun c5_0 => ?_)
  ·
    refine wo_apv rfl rfl rfl rfl rfl ?_
    refine wo_nil ?_
    refine ⟨[_, _, _, _, _, _, _, _, _, _, _, _, _, _, _, _, _, _, _, _, _, _, _, _, _, _, _, _, _, _, _, _, _, _, _, _, _, _, _, _], rfl, ?_⟩
    refine wp_true rfl ?_
    refine wp_seq ?_
    refine wp_region rfl rfl ?_
    refine wo_faddr t40 t38 rfl rfl rfl rfl rfl rfl rfl ?_
    refine wo_load t38 rfl rfl rfl rfl rfl rfl ?_
    refine wo_faddr t40 t38 rfl rfl rfl rfl rfl rfl rfl ?_
    refine wo_load t38 rfl rfl rfl rfl rfl rfl ?_
    refine wo_call (v := .pv (.int .i64 0)) (H' := [_, _]) rfl rfl rfl rfl rfl rfl ((cl63 _ _ _ _).trans (callPure_pv rfl (fun _ => rfl) (floats_ok _ _ (by omega)))) rfl rfl rfl ?_
    refine wo_apv rfl rfl rfl rfl rfl ?_
    refine wo_nil ?_
    refine ⟨[_, _, _, _, _, _, _, _, _, _, _, _, _, _, _, _, _, _, _, _, _, _, _, _, _, _, _, _, _, _, _, _, _, _, _, _, _, _, _, _], rfl, ?_⟩
    refine wp_ret ?_
    exact ⟨trivial, _, rfl, leave_pure⟩
  ·
    refine wo_apv rfl rfl rfl rfl rfl ?_
    refine wo_nil ?_
    refine ⟨[_, _, _, _, _, _, _, _, _, _, _, _, _, _, _, _, _, _, _, _, _, _, _, _, _, _, _, _, _, _, _, _, _, _, _, _, _, _, _, _], rfl, ?_⟩
    refine wp_false rfl ?_
    refine wp_seq ?_
    refine wp_region rfl rfl ?_
    refine wo_esplit rfl rfl rfl rfl rfl (fun c7_0 => ?_) (fun c7_0 => ?_)
    ·
      refine wo_apv rfl rfl rfl rfl rfl ?_
      refine wo_nil ?_
      refine ⟨[_, _, _, _, _, _, _, _, _, _, _, _, _, _, _, _, _, _, _, _, _, _, _, _, _, _, _, _, _, _, _, _, _, _, _, _, _, _, _, _], rfl, ?_⟩
      refine wp_true rfl ?_
      refine wp_seq ?_
      refine wp_region rfl rfl ?_
      refine wo_faddr t40 t9 rfl rfl rfl rfl rfl rfl rfl ?_
      refine wo_load t9 rfl rfl rfl rfl rfl rfl ?_
      refine wo_faddr t40 t9 rfl rfl rfl rfl rfl rfl rfl ?_
      refine wo_load t9 rfl rfl rfl rfl rfl rfl ?_
      refine wo_call (v := .pv (.int .i64 0)) (H' := [_, _]) rfl rfl rfl rfl rfl rfl ((cl64 _ _ _ _).trans (callPure_pv rfl (fun _ => rfl) (cmp_str _ _ (by omega)))) rfl rfl rfl ?_
      refine wo_apv rfl rfl rfl rfl rfl ?_
      refine wo_nil ?_
      refine ⟨[_, _, _, _, _, _, _, _, _, _, _, _, _, _, _, _, _, _, _, _, _, _, _, _, _, _, _, _, _, _, _, _, _, _, _, _, _, _, _, _], rfl, ?_⟩
      refine wp_ret ?_
      exact ⟨trivial, _, rfl, leave_pure⟩
    ·
      refine wo_apv rfl rfl rfl rfl rfl ?_
      refine wo_nil ?_
      refine ⟨[_, _, _, _, _, _, _, _, _, _, _, _, _, _, _, _, _, _, _, _, _, _, _, _, _, _, _, _, _, _, _, _, _, _, _, _, _, _, _, _], rfl, ?_⟩
      refine wp_false rfl ?_
      refine wp_skip ?_
      refine wp_seq ?_
      refine wp_region rfl rfl ?_
      refine wo_faddr t40 t2 rfl rfl rfl rfl rfl rfl rfl ?_
      refine wo_load t2 rfl rfl rfl rfl rfl rfl ?_
      refine wo_faddr t40 t2 rfl rfl rfl rfl rfl rfl rfl ?_
      refine wo_load t2 rfl rfl rfl rfl rfl rfl ?_
      refine wo_call (v := .pv (.int .i64 0)) (H' := [_, _]) rfl rfl rfl rfl rfl rfl ((cl65 _ _ _ _).trans (callPure_pv rfl (fun _ => rfl) (cmp_int _ _ (by omega)))) rfl rfl rfl ?_
      refine wo_apv rfl rfl rfl rfl rfl ?_
      refine wo_nil ?_
      refine ⟨[_, _, _, _, _, _, _, _, _, _, _, _, _, _, _, _, _, _, _, _, _, _, _, _, _, _, _, _, _, _, _, _, _, _, _, _, _, _, _, _], rfl, ?_⟩
      refine wp_ret ?_
      exact ⟨trivial, _, rfl, leave_pure⟩
theorem same_ok {v w : V} (hv : v.Ok) (hw : w.Ok) (h : v.plain = w.plain) (N : Nat) (hN : 6 ≤ N) : call G N 27 [.agg (v.row.map .pv), .agg (w.row.map .pv)] [] = some (.ret (.pv (.bool true)), []) := by
  obtain ⟨N, rfl⟩ : ∃ M, N = M + 1 := ⟨N - 1, by omega⟩
  refine call_eq func27 rfl (show _ = [_, _, _, _, _, _, _, _, _] from rfl) ?_
  refine wp_seq ?_
  refine wp_region rfl rfl ?_
  refine wo_box (cs := [_, _, _, _]) (H' := [_]) rfl rfl rfl rfl rfl rfl ?_
  refine wo_box (cs := [_, _, _, _]) (H' := [_, _]) rfl rfl rfl rfl rfl rfl ?_
  refine wo_apv rfl rfl rfl rfl rfl ?_
  refine wo_nil ?_
  refine ⟨[_, _, _, _, _, _, _, _, _], rfl, ?_⟩
  refine wp_seq ?_
  refine wp_region rfl rfl ?_
  refine wo_load (v := .agg [_, _, _, _]) t40 rfl rfl rfl rfl rfl rfl ?_
  refine wo_load (v := .agg [_, _, _, _]) t40 rfl rfl rfl rfl rfl rfl ?_
  refine wo_call (v := .pv (.int .i64 0)) (H' := [_, _]) rfl rfl rfl rfl rfl rfl ((cl49 _ _ _ _).trans (callPure_pv rfl (fun _ => rfl) (cmp_same hv hw h _ (by omega)))) rfl rfl rfl ?_
  refine wo_bin (v := .pv (.bool true)) rfl rfl rfl rfl (eT rfl) ?_
  refine wo_apv rfl rfl rfl rfl rfl ?_
  refine wo_nil ?_
  refine ⟨[_, _, _, _, _, _, _, _, _], rfl, ?_⟩
  refine wp_ret ?_
  exact ⟨trivial, _, rfl, leave_pure⟩
/-- The Int of a number. -/
def VN (j : Nat) : V := ⟨2, j, 0, ByteArray.empty⟩
theorem build40n (i : Int) : aBuild G.T 40 [(0, .pv (.int .i64 2)), (1, .pv (.int .i64 i))] = some (.agg [.pv (.int .i64 2), .pv (.int .i64 i), .pv (.flt .f64 0), .pv (.str ByteArray.empty)]) := by
  simp [aBuild, t40, t3, t2, t38, t9, fieldPlaces, zeroAV, aBuildParts, AV.cells, splice]
theorem number_ok (j : Nat) (N : Nat) (hN : 1 ≤ N) : call G N 25 [.pv (.int .i64 j)] [] = some (.ret (.agg ((VN j).row.map .pv)), []) := by
  obtain ⟨N, rfl⟩ : ∃ M, N = M + 1 := ⟨N - 1, by omega⟩
  refine call_eq func25 rfl (show _ = [_, _, _, _, _] from rfl) ?_
  refine wp_seq ?_
  refine wp_region rfl rfl ?_
  refine wo_alloc (cs := [_, _, _, _]) (H' := [_]) t40 rfl rfl rfl rfl rfl rfl ?_
  refine wo_nil ?_
  refine ⟨[_, _, _, _, _], rfl, ?_⟩
  refine wp_seq ?_
  refine wp_region rfl rfl ?_
  refine wo_mpv rfl rfl rfl rfl rfl ?_
  refine wo_build (v := .agg [.pv (.int .i64 2), .pv (.int .i64 j), .pv (.flt .f64 0), .pv (.str ByteArray.empty)]) rfl rfl rfl rfl (build40n _) ?_
  refine wo_store (cs' := [_, _, _, _]) (H' := [_]) t40 rfl rfl rfl rfl rfl rfl rfl rfl rfl ?_
  refine wo_nil ?_
  refine ⟨[_, _, _, _, _], rfl, ?_⟩
  refine wp_ret ?_
  exact ⟨trivial, _, resAll_cell1 (v := .agg ((VN j).row.map .pv)) t40 rfl, leave_agg (ps := (VN j).row)⟩
theorem VN.right (j : Nat) : (VN j).right = true := by
  simp [V.right, VN, posz0, emp_empty]
theorem VN.plain (j : Nat) : (VN j).plain = VN j := by
  unfold V.plain
  rw [if_neg (by rw [VN.right]; simp), if_neg (by intro h; exact absurd h.1 (by simp [VN])), if_neg (by intro h; exact absurd h.1 (by simp [VN]))]
theorem VN.ok {j : Nat} (h : j ≤ 1000) : (VN j).Ok := ⟨by simp [VN], by simp [VN], (by show (-9223372036854775808 : Int) ≤ (j : Int); omega), (by show (j : Int) < 9223372036854775808; omega), by simp [VN]⟩
/-- The places and what stands there. -/
def Rel (l : List V) (p s : V) : Prop := ∃ (j : Nat) (h : j < l.length), p = VN j ∧ s = (l[j]).plain
def RelL (l : List V) (a b : List V) : Prop := a.length = b.length ∧ ∀ (i : Nat) (h : i < a.length) (h' : i < b.length), Rel l a[i] b[i]
theorem rel_feed {l a b : List V} (h : RelL l a b) {j : Nat} (hj : j < l.length) (size sn draw : Nat) : RelL l (feedM V.plain size a sn (VN j) draw) (feedM V.plain size b sn l[j] draw) := by
  have hr : Rel l (VN j).plain (l[j]).plain := ⟨j, hj, VN.plain j, rfl⟩
  unfold feedM
  rw [h.1]
  split
  · refine ⟨by simp [h.1], fun i h1 h2 => ?_⟩
    by_cases hi : i < a.length
    · rw [List.getElem_append_left hi, List.getElem_append_left (by have := h.1; omega)]; exact h.2 i hi _
    · have e : i = a.length := by simp at h1; omega
      subst e
      have e2 : a.length = b.length := h.1
      simp [e2]
      exact hr
  · split
    · refine ⟨by simp [h.1], fun i h1 h2 => ?_⟩
      rw [List.getElem_set, List.getElem_set]
      split
      · exact hr
      · exact h.2 i (by simpa using h1) (by simpa using h2)
    · exact h
def places (n : Nat) : List V := (List.range n).map VN
theorem rel_ofM (l : List V) (size : Nat) (draws : List Nat) : ∀ (m j : Nat) (a b : List V) (sn : Nat), j + m = l.length → RelL l a b →
    ∃ x, ofM V.plain size draws a sn ((places l.length).drop j) = some x ∧ (ofM V.plain size draws b sn (l.drop j) = none ∨ ∃ y, ofM V.plain size draws b sn (l.drop j) = some y ∧ RelL l x y) := by
  intro m
  induction m with
  | zero =>
    intro j a b sn hj h
    rw [List.drop_of_length_le (by simp [places]; omega), List.drop_of_length_le (by omega)]
    exact ⟨a, rfl, .inr ⟨b, rfl, h⟩⟩
  | succ m ih =>
    intro j a b sn hj h
    have hjl : j < l.length := by omega
    have hjp : j < (places l.length).length := by simp [places]; omega
    have hpj : (places l.length)[j] = VN j := by simp [places]
    rw [ofM_cons hjp, ofM_cons hjl, hpj, if_pos (VN.right j)]
    by_cases hr : (l[j]).right = true
    · rw [if_pos hr]
      exact ih (j + 1) _ _ (sn + 1) (by omega) (rel_feed h hjl size sn _)
    · rw [if_neg hr]
      obtain ⟨x, hx, _⟩ := ih (j + 1) _ _ (sn + 1) (by omega) (rel_feed h hjl size sn (dr draws sn))
      exact ⟨x, hx, .inl rfl⟩
theorem okPlaces {n : Nat} (h : n ≤ 1000) : OkL (places n) := by
  intro v hv
  simp only [places, List.mem_map, List.mem_range] at hv
  obtain ⟨j, hj, rfl⟩ := hv
  exact VN.ok (by omega)

/-- What the law asks of both samples. -/
theorem blindBoth {p q pp : PV} {l : List V} {draws : List Nat} (hp : SV p l) (hpp : SV pp (places l.length)) (hq : SU q draws) (ho : OkL l) (hd : D64 draws) (hl : l.length ≤ 300) (size : Int) : ∃ (pa pb : PV) (a b : List V) (e f : Int),
    call G 1500 26 [.pv pp, .pv (.int .i64 size), .pv q] [] = some (.ret (.tup [.pv pa, .pv (.int .i64 e)]), []) ∧ call G 1500 26 [.pv p, .pv (.int .i64 size), .pv q] [] = some (.ret (.tup [.pv pb, .pv (.int .i64 f)]), []) ∧
    SV pa a ∧ SV pb b ∧ ((f ≠ 0 ∧ (e = 0 ∨ e = f)) ∨ (f = 0 ∧ e = 0 ∧ RelL l a b ∧ a.length ≤ 400)) := by
  by_cases hs : size < 1 ∨ size > 400
  · exact ⟨.nils, .nils, [], [], 2, 2, of_bad hs _ (by omega), of_bad hs _ (by omega), .inr ⟨rfl, rfl⟩, .inr ⟨rfl, rfl⟩, .inl ⟨by decide, .inr rfl⟩⟩
  · obtain ⟨s, rfl⟩ : ∃ s : Nat, size = s := ⟨size.toNat, by omega⟩
    have hnil : OkL [] := fun v hv => by simp at hv
    have hpl : (places l.length).length = l.length := by simp [places]
    obtain ⟨v1, H1, h1, o1⟩ := of_ok hpp hq (okPlaces (by omega)) hd (by omega) (size := s) (by omega) (by omega) 1500 (by omega)
    obtain ⟨v2, H2, h2, o2⟩ := of_ok hp hq ho hd (by omega) (size := s) (by omega) (by omega) 1500 (by omega)
    obtain ⟨x, e1, e2⟩ := rel_ofM l s draws l.length 0 [] [] 0 (by omega) ⟨rfl, fun i h => by simp at h⟩
    rw [List.drop_zero] at e1 e2
    rw [e1] at o1
    obtain ⟨rfl, rfl⟩ := o1
    obtain ⟨_, lx⟩ := ofM_props (fun v hv => plain_ok hv) s draws _ [] 0 x (okPlaces (by omega)) hnil (by simp) e1
    rcases e2 with e2 | ⟨y, e2, hr⟩
    · rw [e2] at o2
      obtain ⟨rfl, rfl⟩ := o2
      exact ⟨_, .nils, x, [], 0, 2, h1, h2, .inl rfl, .inr ⟨rfl, rfl⟩, .inl ⟨by decide, .inl rfl⟩⟩
    · rw [e2] at o2
      obtain ⟨rfl, rfl⟩ := o2
      exact ⟨_, _, x, y, 0, 0, h1, h2, .inl rfl, .inl rfl, .inr ⟨rfl, rfl, hr, by omega⟩⟩
theorem blind {p q : PV} {l : List V} {draws : List Nat} (hp : SV p l) (hq : SU q draws) (ho : OkL l) (hd : D64 draws) (size : Int) (hw : call G 1500 18 [] [] = some (.ret (.pv (.bool true)), [])) : call G 1501 6 [.pv p, .pv (.int .i64 size), .pv q] [] = some (.ret (.pv (.bool true)), []) := by
  refine call_eq func6 rfl (show _ = [_, _, _, _, _, _, _, _, _, _, _, _, _, _, _, _, _, _, _, _, _, _, _, _, _, _, _, _, _, _, _, _, _, _, _, _, _, _, _, _, _, _, _, _, _, _, _, _, _, _, _, _, _, _, _, _, _, _, _, _, _, _, _, _, _, _, _, _, _, _, _, _, _, _, _, _, _, _, _, _, _, _, _, _, _, _, _, _, _, _, _, _, _, _] from rfl) ?_
  refine wp_seq ?_
  refine wp_region rfl rfl ?_
  refine wo_apv rfl rfl rfl rfl rfl ?_
  refine wo_nil ?_
  refine ⟨[_, _, _, _, _, _, _, _, _, _, _, _, _, _, _, _, _, _, _, _, _, _, _, _, _, _, _, _, _, _, _, _, _, _, _, _, _, _, _, _, _, _, _, _, _, _, _, _, _, _, _, _, _, _, _, _, _, _, _, _, _, _, _, _, _, _, _, _, _, _, _, _, _, _, _, _, _, _, _, _, _, _, _, _, _, _, _, _, _, _, _, _, _, _], rfl, ?_⟩
  refine wp_seq ?_
  refine wp_seq ?_
  refine wp_region rfl rfl ?_
  refine wo_call (v := .pv (.bool true)) (H' := []) rfl rfl rfl rfl rfl rfl ((cl18 _ _ _ _).trans (callPure_pv rfl (fun _ => rfl) hw)) rfl rfl rfl ?_
  refine wo_un rfl rfl rfl rfl rfl ?_
  refine wo_nil ?_
  refine ⟨[_, _, _, _, _, _, _, _, _, _, _, _, _, _, _, _, _, _, _, _, _, _, _, _, _, _, _, _, _, _, _, _, _, _, _, _, _, _, _, _, _, _, _, _, _, _, _, _, _, _, _, _, _, _, _, _, _, _, _, _, _, _, _, _, _, _, _, _, _, _, _, _, _, _, _, _, _, _, _, _, _, _, _, _, _, _, _, _, _, _, _, _, _, _], rfl, ?_⟩
  refine wp_false rfl ?_
  refine wp_skip ?_
  refine wp_seq ?_
  refine wp_seq ?_
  refine wp_region rfl rfl ?_
  refine wo_mpv rfl rfl rfl rfl rfl ?_
  refine wo_len (ln := l.length) t31 rfl rfl rfl rfl rfl rfl rfl (hp.len 40) rfl ?_
  refine wo_bsplit rfl rfl rfl rfl rfl (fun c3_2 => ?_) (fun c3_2 => ?_)
  ·
    refine wo_nil ?_
    refine ⟨[_, _, _, _, _, _, _, _, _, _, _, _, _, _, _, _, _, _, _, _, _, _, _, _, _, _, _, _, _, _, _, _, _, _, _, _, _, _, _, _, _, _, _, _, _, _, _, _, _, _, _, _, _, _, _, _, _, _, _, _, _, _, _, _, _, _, _, _, _, _, _, _, _, _, _, _, _, _, _, _, _, _, _, _, _, _, _, _, _, _, _, _, _, _], rfl, ?_⟩
    refine wp_true rfl ?_
    refine wp_seq ?_
    refine wp_region rfl rfl ?_
    refine wo_apv rfl rfl rfl rfl rfl ?_
    refine wo_nil ?_
    refine ⟨[_, _, _, _, _, _, _, _, _, _, _, _, _, _, _, _, _, _, _, _, _, _, _, _, _, _, _, _, _, _, _, _, _, _, _, _, _, _, _, _, _, _, _, _, _, _, _, _, _, _, _, _, _, _, _, _, _, _, _, _, _, _, _, _, _, _, _, _, _, _, _, _, _, _, _, _, _, _, _, _, _, _, _, _, _, _, _, _, _, _, _, _, _, _], rfl, ?_⟩
    refine wp_ret ?_
    exact ⟨trivial, _, rfl, leave_pure⟩
  ·
    refine wo_nil ?_
    refine ⟨[_, _, _, _, _, _, _, _, _, _, _, _, _, _, _, _, _, _, _, _, _, _, _, _, _, _, _, _, _, _, _, _, _, _, _, _, _, _, _, _, _, _, _, _, _, _, _, _, _, _, _, _, _, _, _, _, _, _, _, _, _, _, _, _, _, _, _, _, _, _, _, _, _, _, _, _, _, _, _, _, _, _, _, _, _, _, _, _, _, _, _, _, _, _], rfl, ?_⟩
    refine wp_false rfl ?_
    refine wp_skip ?_
    refine wp_seq ?_
    refine wp_region rfl rfl ?_
    refine wo_apv rfl rfl rfl rfl rfl ?_
    refine wo_nil ?_
    refine ⟨[_, _, _, _, _, _, _, _, _, _, _, _, _, _, _, _, _, _, _, _, _, _, _, _, _, _, _, _, _, _, _, _, _, _, _, _, _, _, _, _, _, _, _, _, _, _, _, _, _, _, _, _, _, _, _, _, _, _, _, _, _, _, _, _, _, _, _, _, _, _, _, _, _, _, _, _, _, _, _, _, _, _, _, _, _, _, _, _, _, _, _, _, _, _], rfl, ?_⟩
    refine wp_seq ?_
    refine wp_seq ?_
    refine wp_region rfl rfl ?_
    refine wo_mpv rfl rfl rfl rfl rfl ?_
    refine wo_len (ln := l.length) t31 rfl rfl rfl rfl rfl rfl rfl (hp.len 40) rfl ?_
    refine wo_mpv rfl rfl rfl rfl rfl ?_
    refine wo_nil ?_
    refine ⟨[_, _, _, _, _, _, _, _, _, _, _, _, _, _, _, _, _, _, _, _, _, _, _, _, _, _, _, _, _, _, _, _, _, _, _, _, _, _, _, _, _, _, _, _, _, _, _, _, _, _, _, _, _, _, _, _, _, _, _, _, _, _, _, _, _, _, _, _, _, _, _, _, _, _, _, _, _, _, _, _, _, _, _, _, _, _, _, _, _, _, _, _, _, _], rfl, ?_⟩
    refine wp_block ?_
    refine wp_loop (fun k t H => ∃ (j : Nat) (acc : List V), j + k = l.length ∧ acc = places j ∧ ((j = 0 ∧ t = [.pv p, .pv (.int .i64 size), .pv q, .any, .any, .any, .any, .pv .nils, .any, .any, .any, .any, .any, .any, .any, .any, .any, .any, .any, .any, .any, .pv (.int .i64 l.length), .pv (.int .i64 (j : Nat)), .any, .any, .any, .any, .any, .any, .any, .any, .any, .any, .any, .any, .any, .any, .any, .any, .any, .any, .any, .any, .any, .any, .any, .any, .any, .any, .any, .any, .any, .any, .any, .any, .any, .any, .any, .any, .any, .any, .any, .any, .any, .any, .any, .any, .any, .any, .any, .any, .any, .any, .any, .any, .any, .any, .any, .any, .any, .any, .any, .any, .any, .any, .any, .any, .any, .any, .any, .any, .any, .any, .any] ∧ H = []) ∨ (0 < j ∧ t = [.pv p, .pv (.int .i64 size), .pv q, .any, .any, .any, .any, VR 0 acc, .any, .any, .any, .any, .any, .any, .any, .any, .any, .any, .any, .any, .any, .pv (.int .i64 l.length), .pv (.int .i64 (j : Nat)), .any, .any, .any, .any, .any, .any, .any, .any, .any, .any, .any, .any, .any, .any, .any, .any, .any, .any, .any, .any, .any, .any, .any, .any, .any, .any, .any, .any, .any, .any, .any, .any, .any, .any, .any, .any, .any, .any, .any, .any, .any, .any, .any, .any, .any, .any, .any, .any, .any, .any, .any, .any, .any, .any, .any, .any, .any, .any, .any, .any, .any, .any, .any, .any, .any, .any, .any, .any, .any, .any, .any] ∧ H = [VB acc 0]))) l.length ⟨0, [], by omega, rfl, .inl ⟨rfl, rfl, rfl⟩⟩ (by omega) ?_
    rintro k _ _ hk ⟨j, acc, hj, hacc, ⟨hj0, rfl, rfl⟩ | ⟨hj0, rfl, rfl⟩⟩
    ·
      refine wp_seq ?_
      refine wp_region rfl rfl ?_
      refine wo_bsplit rfl rfl rfl rfl rfl (fun c7_0 => ?_) (fun c7_0 => ?_)
      ·
        refine wo_nil ?_
        refine ⟨[_, _, _, _, _, _, _, _, _, _, _, _, _, _, _, _, _, _, _, _, _, _, _, _, _, _, _, _, _, _, _, _, _, _, _, _, _, _, _, _, _, _, _, _, _, _, _, _, _, _, _, _, _, _, _, _, _, _, _, _, _, _, _, _, _, _, _, _, _, _, _, _, _, _, _, _, _, _, _, _, _, _, _, _, _, _, _, _, _, _, _, _, _, _], rfl, ?_⟩
        refine wp_seq ?_
        refine wp_true rfl ?_
        refine wp_skip ?_
        refine wp_seq ?_
        refine wp_block ?_
        refine wp_seq ?_
        refine wp_region rfl rfl ?_
        refine wo_mpv rfl rfl rfl rfl rfl ?_
        refine wo_apv rfl rfl rfl rfl rfl ?_
        refine wo_nil ?_
        refine ⟨[_, _, _, _, _, _, _, _, _, _, _, _, _, _, _, _, _, _, _, _, _, _, _, _, _, _, _, _, _, _, _, _, _, _, _, _, _, _, _, _, _, _, _, _, _, _, _, _, _, _, _, _, _, _, _, _, _, _, _, _, _, _, _, _, _, _, _, _, _, _, _, _, _, _, _, _, _, _, _, _, _, _, _, _, _, _, _, _, _, _, _, _, _, _], rfl, ?_⟩
        refine wp_region rfl rfl ?_
        refine wo_mpv rfl rfl rfl rfl rfl ?_
        refine wo_mpv rfl rfl rfl rfl rfl ?_
        refine wo_call (v := .agg ((VN j).row.map .pv)) (H' := []) rfl rfl rfl rfl rfl rfl ((cl25 _ _ _ _).trans (callPure_agg rfl (fun _ => rfl) rfl (number_ok j _ (by omega)))) rfl rfl rfl ?_
        refine wo_buildSlice (H' := [_]) rfl rfl rfl rfl (bs31 _ (VN j)) rfl ?_
        refine wo_append (v := VR 1 [VN j]) (H' := [_, _]) t31 rfl rfl rfl rfl rfl rfl rfl rfl (rfl) (VB.app_nil) rfl rfl rfl ?_
        refine wo_assign (v := .ref _ _ _ _ _ _) rfl rfl rfl rfl rfl (fun h => AV.noConfusion h) ?_
        refine wo_nil ?_
        refine ⟨[_, _, _, _, _, _, _, _, _, _, _, _, _, _, _, _, _, _, _, _, _, _, _, _, _, _, _, _, _, _, _, _, _, _, _, _, _, _, _, _, _, _, _, _, _, _, _, _, _, _, _, _, _, _, _, _, _, _, _, _, _, _, _, _, _, _, _, _, _, _, _, _, _, _, _, _, _, _, _, _, _, _, _, _, _, _, _, _, _, _, _, _, _, _], rfl, ?_⟩
        refine wp_region rfl rfl ?_
        refine wo_bin (v := .pv (.int .i64 ((j + 1 : Nat) : Int))) rfl rfl rfl rfl (iV (by rw [wrapI (by omega) (by omega)]; omega)) ?_
        refine wo_mpv rfl rfl rfl rfl rfl ?_
        refine wo_nil ?_
        refine ⟨[_, _, _, _, _, _, _, _, _, _, _, _, _, _, _, _, _, _, _, _, _, _, _, _, _, _, _, _, _, _, _, _, _, _, _, _, _, _, _, _, _, _, _, _, _, _, _, _, _, _, _, _, _, _, _, _, _, _, _, _, _, _, _, _, _, _, _, _, _, _, _, _, _, _, _, _, _, _, _, _, _, _, _, _, _, _, _, _, _, _, _, _, _, _], rfl, ?_⟩
        refine ⟨[.pv p, .pv (.int .i64 size), .pv q, .any, .any, .any, .any, VR 0 [VN j], .any, .any, .any, .any, .any, .any, .any, .any, .any, .any, .any, .any, .any, .pv (.int .i64 l.length), .pv (.int .i64 ((j + 1 : Nat) : Int)), .any, .any, .any, .any, .any, .any, .any, .any, .any, .any, .any, .any, .any, .any, .any, .any, .any, .any, .any, .any, .any, .any, .any, .any, .any, .any, .any, .any, .any, .any, .any, .any, .any, .any, .any, .any, .any, .any, .any, .any, .any, .any, .any, .any, .any, .any, .any, .any, .any, .any, .any, .any, .any, .any, .any, .any, .any, .any, .any, .any, .any, .any, .any, .any, .any, .any, .any, .any, .any, .any, .any], [VB [VN j] 0], tidy_ren (t' := [_, _, _, _, _, _, _, _, _, _, _, _, _, _, _, _, _, _, _, _, _, _, _, _, _, _, _, _, _, _, _, _, _, _, _, _, _, _, _, _, _, _, _, _, _, _, _, _, _, _, _, _, _, _, _, _, _, _, _, _, _, _, _, _, _, _, _, _, _, _, _, _, _, _, _, _, _, _, _, _, _, _, _, _, _, _, _, _, _, _, _, _, _, _]) (order := [1]) (bs := [_]) rfl rfl rfl (by kernel_rfl) (by kernel_rfl) rfl (by kernel_rfl), k - 1, by omega, j + 1, [VN j], by omega, by rw [hj0]; rfl, .inr ⟨by omega, rfl, rfl⟩⟩
      ·
        refine wo_nil ?_
        refine ⟨[_, _, _, _, _, _, _, _, _, _, _, _, _, _, _, _, _, _, _, _, _, _, _, _, _, _, _, _, _, _, _, _, _, _, _, _, _, _, _, _, _, _, _, _, _, _, _, _, _, _, _, _, _, _, _, _, _, _, _, _, _, _, _, _, _, _, _, _, _, _, _, _, _, _, _, _, _, _, _, _, _, _, _, _, _, _, _, _, _, _, _, _, _, _], rfl, ?_⟩
        refine wp_seq ?_
        refine wp_false rfl ?_
        refine wp_exit ?_
        refine wp_seq ?_
        refine wp_region rfl rfl ?_
        refine wo_mpv rfl rfl rfl rfl rfl ?_
        refine wo_mpv rfl rfl rfl rfl rfl ?_
        refine wo_mpv rfl rfl rfl rfl rfl ?_
        obtain ⟨pa, pb, a, b, e, f, h1, h2, sa, sb, hfin⟩ := blindBoth (pp := .nils) hp (.inr ⟨rfl, by rw [show l.length = 0 by omega]; rfl⟩) hq ho hd (by omega) size
        refine wo_call (v := .tup [.pv pa, .pv (.int .i64 e)]) (H' := []) rfl rfl rfl rfl rfl rfl ((cl26 _ _ _ _).trans (callPure_any rfl (fun _ => rfl) rfl h1)) rfl rfl rfl ?_
        refine wo_move (v := .tup _) rfl rfl rfl rfl rfl (fun h => AV.noConfusion h) ?_
        refine wo_extract (v := .pv _) rfl rfl rfl rfl rfl rfl ?_
        refine wo_extract (v := .pv _) rfl rfl rfl rfl rfl rfl ?_
        refine wo_apv rfl rfl rfl rfl rfl ?_
        refine wo_apv rfl rfl rfl rfl rfl ?_
        refine wo_nil ?_
        refine ⟨[_, _, _, _, _, _, _, _, _, _, _, _, _, _, _, _, _, _, _, _, _, _, _, _, _, _, _, _, _, _, _, _, _, _, _, _, _, _, _, _, _, _, _, _, _, _, _, _, _, _, _, _, _, _, _, _, _, _, _, _, _, _, _, _, _, _, _, _, _, _, _, _, _, _, _, _, _, _, _, _, _, _, _, _, _, _, _, _, _, _, _, _, _, _], rfl, ?_⟩
        refine wp_seq ?_
        refine wp_region rfl rfl ?_
        refine wo_mpv rfl rfl rfl rfl rfl ?_
        refine wo_mpv rfl rfl rfl rfl rfl ?_
        refine wo_mpv rfl rfl rfl rfl rfl ?_
        refine wo_call (v := .tup [.pv pb, .pv (.int .i64 f)]) (H' := []) rfl rfl rfl rfl rfl rfl ((cl26 _ _ _ _).trans (callPure_any rfl (fun _ => rfl) rfl h2)) rfl rfl rfl ?_
        refine wo_move (v := .tup _) rfl rfl rfl rfl rfl (fun h => AV.noConfusion h) ?_
        refine wo_extract (v := .pv _) rfl rfl rfl rfl rfl rfl ?_
        refine wo_extract (v := .pv _) rfl rfl rfl rfl rfl rfl ?_
        refine wo_apv rfl rfl rfl rfl rfl ?_
        refine wo_apv rfl rfl rfl rfl rfl ?_
        refine wo_nil ?_
        refine ⟨[_, _, _, _, _, _, _, _, _, _, _, _, _, _, _, _, _, _, _, _, _, _, _, _, _, _, _, _, _, _, _, _, _, _, _, _, _, _, _, _, _, _, _, _, _, _, _, _, _, _, _, _, _, _, _, _, _, _, _, _, _, _, _, _, _, _, _, _, _, _, _, _, _, _, _, _, _, _, _, _, _, _, _, _, _, _, _, _, _, _, _, _, _, _], rfl, ?_⟩
        refine wp_seq ?_
        refine wp_seq ?_
        refine wp_region rfl rfl ?_
        refine wo_mpv rfl rfl rfl rfl rfl ?_
        rcases hfin with ⟨hf, he⟩ | ⟨rfl, rfl, hrel, hal⟩
        ·
          refine wo_bin (v := .pv (.bool true)) rfl rfl rfl rfl (nT hf) ?_
          refine wo_mpv rfl rfl rfl rfl rfl ?_
          refine wo_off rfl rfl rfl ?_
          refine wo_off rfl rfl rfl ?_
          refine wo_pick (v := .pv _) rfl rfl rfl rfl rfl rfl ?_
          refine wo_nil ?_
          refine ⟨[_, _, _, _, _, _, _, _, _, _, _, _, _, _, _, _, _, _, _, _, _, _, _, _, _, _, _, _, _, _, _, _, _, _, _, _, _, _, _, _, _, _, _, _, _, _, _, _, _, _, _, _, _, _, _, _, _, _, _, _, _, _, _, _, _, _, _, _, _, _, _, _, _, _, _, _, _, _, _, _, _, _, _, _, _, _, _, _, _, _, _, _, _, _], rfl, ?_⟩
          refine wp_true rfl ?_
          refine wp_seq ?_
          refine wp_region rfl rfl ?_
          refine wo_mpv rfl rfl rfl rfl rfl ?_
          refine wo_esplit rfl rfl rfl rfl rfl (fun c14_1 => ?_) (fun c14_1 => ?_)
          ·
            refine wo_mpv rfl rfl rfl rfl rfl ?_
            refine wo_off rfl rfl rfl ?_
            refine wo_off rfl rfl rfl ?_
            refine wo_off rfl rfl rfl ?_
            refine wo_pick (v := .pv _) rfl rfl rfl rfl rfl rfl ?_
            refine wo_apv rfl rfl rfl rfl rfl ?_
            refine wo_nil ?_
            refine ⟨[_, _, _, _, _, _, _, _, _, _, _, _, _, _, _, _, _, _, _, _, _, _, _, _, _, _, _, _, _, _, _, _, _, _, _, _, _, _, _, _, _, _, _, _, _, _, _, _, _, _, _, _, _, _, _, _, _, _, _, _, _, _, _, _, _, _, _, _, _, _, _, _, _, _, _, _, _, _, _, _, _, _, _, _, _, _, _, _, _, _, _, _, _, _], rfl, ?_⟩
            refine wp_ret ?_
            exact ⟨trivial, _, rfl, leave_pure⟩
          ·
            refine wo_mpv rfl rfl rfl rfl rfl ?_
            refine wo_mpv rfl rfl rfl rfl rfl ?_
            refine wo_mpv rfl rfl rfl rfl rfl ?_
            refine wo_bin (v := .pv (.bool true)) rfl rfl rfl rfl (eT (by omega)) ?_
            refine wo_pick (v := .pv _) rfl rfl rfl rfl rfl rfl ?_
            refine wo_apv rfl rfl rfl rfl rfl ?_
            refine wo_nil ?_
            refine ⟨[_, _, _, _, _, _, _, _, _, _, _, _, _, _, _, _, _, _, _, _, _, _, _, _, _, _, _, _, _, _, _, _, _, _, _, _, _, _, _, _, _, _, _, _, _, _, _, _, _, _, _, _, _, _, _, _, _, _, _, _, _, _, _, _, _, _, _, _, _, _, _, _, _, _, _, _, _, _, _, _, _, _, _, _, _, _, _, _, _, _, _, _, _, _], rfl, ?_⟩
            refine wp_ret ?_
            exact ⟨trivial, _, rfl, leave_pure⟩
        ·
          refine wo_bin (v := .pv (.bool false)) rfl rfl rfl rfl (nF rfl) ?_
          refine wo_mpv rfl rfl rfl rfl rfl ?_
          refine wo_mpv rfl rfl rfl rfl rfl ?_
          refine wo_bin (v := .pv (.bool false)) rfl rfl rfl rfl (nF rfl) ?_
          refine wo_pick (v := .pv _) rfl rfl rfl rfl rfl rfl ?_
          refine wo_nil ?_
          refine ⟨[_, _, _, _, _, _, _, _, _, _, _, _, _, _, _, _, _, _, _, _, _, _, _, _, _, _, _, _, _, _, _, _, _, _, _, _, _, _, _, _, _, _, _, _, _, _, _, _, _, _, _, _, _, _, _, _, _, _, _, _, _, _, _, _, _, _, _, _, _, _, _, _, _, _, _, _, _, _, _, _, _, _, _, _, _, _, _, _, _, _, _, _, _, _], rfl, ?_⟩
          refine wp_false rfl ?_
          refine wp_skip ?_
          refine wp_seq ?_
          refine wp_seq ?_
          refine wp_region rfl rfl ?_
          refine wo_mpv rfl rfl rfl rfl rfl ?_
          refine wo_len (ln := a.length) t31 rfl rfl rfl rfl rfl rfl rfl (sa.len 40) rfl ?_
          refine wo_mpv rfl rfl rfl rfl rfl ?_
          refine wo_len (ln := b.length) t31 rfl rfl rfl rfl rfl rfl rfl (sb.len 40) rfl ?_
          refine wo_bin (v := .pv (.bool false)) rfl rfl rfl rfl (nF (by rw [hrel.1])) ?_
          refine wo_nil ?_
          refine ⟨[_, _, _, _, _, _, _, _, _, _, _, _, _, _, _, _, _, _, _, _, _, _, _, _, _, _, _, _, _, _, _, _, _, _, _, _, _, _, _, _, _, _, _, _, _, _, _, _, _, _, _, _, _, _, _, _, _, _, _, _, _, _, _, _, _, _, _, _, _, _, _, _, _, _, _, _, _, _, _, _, _, _, _, _, _, _, _, _, _, _, _, _, _, _], rfl, ?_⟩
          refine wp_false rfl ?_
          refine wp_skip ?_
          refine wp_seq ?_
          refine wp_seq ?_
          refine wp_region rfl rfl ?_
          refine wo_mpv rfl rfl rfl rfl rfl ?_
          refine wo_len (ln := a.length) t31 rfl rfl rfl rfl rfl rfl rfl (sa.len 40) rfl ?_
          refine wo_mpv rfl rfl rfl rfl rfl ?_
          refine wo_nil ?_
          refine ⟨[_, _, _, _, _, _, _, _, _, _, _, _, _, _, _, _, _, _, _, _, _, _, _, _, _, _, _, _, _, _, _, _, _, _, _, _, _, _, _, _, _, _, _, _, _, _, _, _, _, _, _, _, _, _, _, _, _, _, _, _, _, _, _, _, _, _, _, _, _, _, _, _, _, _, _, _, _, _, _, _, _, _, _, _, _, _, _, _, _, _, _, _, _, _], rfl, ?_⟩
          refine wp_block ?_
          refine wp_loop (fun k t H => ∃ i : Nat, i + k = a.length ∧ t = [.pv p, .any, .any, .any, .any, .any, .any, .any, .any, .pv pa, .any, .pv pb, .any, .any, .any, .any, .any, .any, .any, .any, .any, .any, .any, .any, .any, .any, .any, .any, .any, .any, .any, .any, .any, .any, .any, .any, .any, .any, .any, .any, .any, .any, .any, .any, .any, .any, .any, .any, .any, .any, .any, .any, .any, .any, .any, .any, .any, .any, .any, .any, .any, .any, .any, .any, .pv (.int .i64 a.length), .pv (.int .i64 (i : Nat)), .any, .any, .any, .any, .any, .any, .any, .any, .any, .any, .any, .any, .any, .any, .any, .any, .any, .any, .any, .any, .any, .any, .any, .any, .any, .any, .any, .any] ∧ H = []) a.length ⟨0, by omega, rfl, rfl⟩ (by omega) ?_
          rintro k3 _ _ hk3 ⟨i, hi, rfl, rfl⟩
          refine wp_seq ?_
          refine wp_region rfl rfl ?_
          refine wo_bsplit rfl rfl rfl rfl rfl (fun c18_0 => ?_) (fun c18_0 => ?_)
          ·
            refine wo_nil ?_
            refine ⟨[_, _, _, _, _, _, _, _, _, _, _, _, _, _, _, _, _, _, _, _, _, _, _, _, _, _, _, _, _, _, _, _, _, _, _, _, _, _, _, _, _, _, _, _, _, _, _, _, _, _, _, _, _, _, _, _, _, _, _, _, _, _, _, _, _, _, _, _, _, _, _, _, _, _, _, _, _, _, _, _, _, _, _, _, _, _, _, _, _, _, _, _, _, _], rfl, ?_⟩
            refine wp_seq ?_
            refine wp_true rfl ?_
            refine wp_skip ?_
            refine wp_seq ?_
            refine wp_block ?_
            refine wp_seq ?_
            refine wp_region rfl rfl ?_
            refine wo_mpv rfl rfl rfl rfl rfl ?_
            refine wo_apv rfl rfl rfl rfl rfl ?_
            refine wo_nil ?_
            refine ⟨[_, _, _, _, _, _, _, _, _, _, _, _, _, _, _, _, _, _, _, _, _, _, _, _, _, _, _, _, _, _, _, _, _, _, _, _, _, _, _, _, _, _, _, _, _, _, _, _, _, _, _, _, _, _, _, _, _, _, _, _, _, _, _, _, _, _, _, _, _, _, _, _, _, _, _, _, _, _, _, _, _, _, _, _, _, _, _, _, _, _, _, _, _, _], rfl, ?_⟩
            refine wp_seq ?_
            refine wp_region rfl rfl ?_
            refine wo_mpv rfl rfl rfl rfl rfl ?_
            refine wo_mpv rfl rfl rfl rfl rfl ?_
            have hia : i < a.length := by omega
            have hib : i < b.length := by have := hrel.1; omega
            obtain ⟨j2, hj2, ea, eb⟩ := hrel.2 i hia hib
            have hok := ho _ (List.getElem_mem hj2)
            refine wo_iaddr (v := .pv (.ptr (a[i]).row 0)) rfl rfl rfl rfl (sa.get (i := i) hia rfl) ?_
            refine wo_faddr t40 t2 rfl rfl rfl rfl rfl rfl rfl ?_
            refine wo_load (v := .pv (.int .i64 (j2 : Nat))) t2 rfl rfl rfl rfl ((by rw [ea]; rfl)) rfl ?_
            refine wo_apv rfl rfl rfl rfl rfl ?_
            refine wo_nil ?_
            refine ⟨[_, _, _, _, _, _, _, _, _, _, _, _, _, _, _, _, _, _, _, _, _, _, _, _, _, _, _, _, _, _, _, _, _, _, _, _, _, _, _, _, _, _, _, _, _, _, _, _, _, _, _, _, _, _, _, _, _, _, _, _, _, _, _, _, _, _, _, _, _, _, _, _, _, _, _, _, _, _, _, _, _, _, _, _, _, _, _, _, _, _, _, _, _, _], rfl, ?_⟩
            refine wp_seq ?_
            refine wp_drawn rfl rfl (by kernel_rfl) ?_
            refine wo_mpv rfl rfl rfl rfl rfl ?_
            refine wo_bin (v := .pv (.bool false)) rfl rfl rfl rfl (bF (by omega)) ?_
            refine wo_mpv rfl rfl rfl rfl rfl ?_
            refine wo_mpv rfl rfl rfl rfl rfl ?_
            refine wo_mpv rfl rfl rfl rfl rfl ?_
            refine wo_len (ln := l.length) t31 rfl rfl rfl rfl rfl rfl rfl (hp.len 40) rfl ?_
            refine wo_bin (v := .pv (.bool false)) rfl rfl rfl rfl (bF (by omega)) ?_
            refine wo_pick (v := .pv _) rfl rfl rfl rfl rfl rfl ?_
            refine wo_mpv rfl rfl rfl rfl rfl ?_
            refine wo_mpv rfl rfl rfl rfl rfl ?_
            refine wo_mpv rfl rfl rfl rfl rfl ?_
            refine wo_norm [_, _, _, _, _, _, _, _, _, _, _, _, _, _, _, _, _, _, _, _, _, _, _, _, _, _, _, _, _, _, _, _, _, _, _, _, _, _, _, _, _, _, _, _, _, _, _, _, _, _, _, _, _, _, _, _, _, _, _, _, _, _, _, _, _, _, _, _, _, _, _, _, _, _, _, _, _, _, _, _, _, _, _, _, _, _, _, _, _, _, _, _, _, _] rfl ?_
            refine wo_iaddr (v := .pv (.ptr (b[i]).row 0)) rfl rfl rfl rfl (sb.get (i := i) hib rfl) ?_
            refine wo_load (v := .agg [_, _, _, _]) t40 rfl rfl rfl rfl rfl rfl ?_
            refine wo_mpv rfl rfl rfl rfl rfl ?_
            refine wo_mpv rfl rfl rfl rfl rfl ?_
            refine wo_iaddr (v := .pv (.ptr (l[j2]).row 0)) rfl rfl rfl rfl (hp.get (i := j2) hj2 rfl) ?_
            refine wo_load (v := .agg [_, _, _, _]) t40 rfl rfl rfl rfl rfl rfl ?_
            refine wo_call (v := .pv (.bool true)) (H' := []) rfl rfl rfl rfl rfl rfl ((cl27 _ _ _ _).trans (callPure_pv rfl (fun _ => rfl) (by rw [eb]; exact same_ok (plain_ok hok) hok (plain_right _ hok).2 _ (by omega)))) rfl rfl rfl ?_
            refine wo_un rfl rfl rfl rfl rfl ?_
            refine wo_pick (v := .pv _) rfl rfl rfl rfl rfl rfl ?_
            refine wo_nil ?_
            refine ⟨by kernel_rfl, ?_⟩
            refine ⟨[_, _, _, _, _, _, _, _, _, _, _, _, _, _, _, _, _, _, _, _, _, _, _, _, _, _, _, _, _, _, _, _, _, _, _, _, _, _, _, _, _, _, _, _, _, _, _, _, _, _, _, _, _, _, _, _, _, _, _, _, _, _, _, _, _, _, _, _, _, _, _, _, _, _, _, _, _, _, _, _, _, _, _, _, _, _, _, _, _, _, _, _, _, _], rfl, ?_⟩
            refine wp_false rfl ?_
            refine wp_skip ?_
            refine wp_region rfl rfl ?_
            refine wo_bin (v := .pv (.int .i64 ((i + 1 : Nat) : Int))) rfl rfl rfl rfl (iV (by rw [wrapI (by omega) (by omega)]; omega)) ?_
            refine wo_mpv rfl rfl rfl rfl rfl ?_
            refine wo_nil ?_
            refine ⟨[_, _, _, _, _, _, _, _, _, _, _, _, _, _, _, _, _, _, _, _, _, _, _, _, _, _, _, _, _, _, _, _, _, _, _, _, _, _, _, _, _, _, _, _, _, _, _, _, _, _, _, _, _, _, _, _, _, _, _, _, _, _, _, _, _, _, _, _, _, _, _, _, _, _, _, _, _, _, _, _, _, _, _, _, _, _, _, _, _, _, _, _, _, _], rfl, ?_⟩
            refine ⟨_, _, tidy_norm (t' := [_, _, _, _, _, _, _, _, _, _, _, _, _, _, _, _, _, _, _, _, _, _, _, _, _, _, _, _, _, _, _, _, _, _, _, _, _, _, _, _, _, _, _, _, _, _, _, _, _, _, _, _, _, _, _, _, _, _, _, _, _, _, _, _, _, _, _, _, _, _, _, _, _, _, _, _, _, _, _, _, _, _, _, _, _, _, _, _, _, _, _, _, _, _]) rfl rfl rfl, k3 - 1, by omega, i + 1, by omega, rfl, rfl⟩
          ·
            refine wo_nil ?_
            refine ⟨[_, _, _, _, _, _, _, _, _, _, _, _, _, _, _, _, _, _, _, _, _, _, _, _, _, _, _, _, _, _, _, _, _, _, _, _, _, _, _, _, _, _, _, _, _, _, _, _, _, _, _, _, _, _, _, _, _, _, _, _, _, _, _, _, _, _, _, _, _, _, _, _, _, _, _, _, _, _, _, _, _, _, _, _, _, _, _, _, _, _, _, _, _, _], rfl, ?_⟩
            refine wp_seq ?_
            refine wp_false rfl ?_
            refine wp_exit ?_
            refine wp_seq ?_
            refine wp_region rfl rfl ?_
            refine wo_apv rfl rfl rfl rfl rfl ?_
            refine wo_nil ?_
            refine ⟨[_, _, _, _, _, _, _, _, _, _, _, _, _, _, _, _, _, _, _, _, _, _, _, _, _, _, _, _, _, _, _, _, _, _, _, _, _, _, _, _, _, _, _, _, _, _, _, _, _, _, _, _, _, _, _, _, _, _, _, _, _, _, _, _, _, _, _, _, _, _, _, _, _, _, _, _, _, _, _, _, _, _, _, _, _, _, _, _, _, _, _, _, _, _], rfl, ?_⟩
            refine wp_ret ?_
            exact ⟨trivial, _, rfl, leave_pure⟩
    ·
      refine wp_seq ?_
      refine wp_region rfl rfl ?_
      refine wo_bsplit rfl rfl rfl rfl rfl (fun c7_0 => ?_) (fun c7_0 => ?_)
      ·
        refine wo_nil ?_
        refine ⟨[_, _, _, _, _, _, _, _, _, _, _, _, _, _, _, _, _, _, _, _, _, _, _, _, _, _, _, _, _, _, _, _, _, _, _, _, _, _, _, _, _, _, _, _, _, _, _, _, _, _, _, _, _, _, _, _, _, _, _, _, _, _, _, _, _, _, _, _, _, _, _, _, _, _, _, _, _, _, _, _, _, _, _, _, _, _, _, _, _, _, _, _, _, _], rfl, ?_⟩
        refine wp_seq ?_
        refine wp_true rfl ?_
        refine wp_skip ?_
        refine wp_seq ?_
        refine wp_block ?_
        refine wp_seq ?_
        refine wp_region rfl rfl ?_
        refine wo_mpv rfl rfl rfl rfl rfl ?_
        refine wo_apv rfl rfl rfl rfl rfl ?_
        refine wo_nil ?_
        refine ⟨[_, _, _, _, _, _, _, _, _, _, _, _, _, _, _, _, _, _, _, _, _, _, _, _, _, _, _, _, _, _, _, _, _, _, _, _, _, _, _, _, _, _, _, _, _, _, _, _, _, _, _, _, _, _, _, _, _, _, _, _, _, _, _, _, _, _, _, _, _, _, _, _, _, _, _, _, _, _, _, _, _, _, _, _, _, _, _, _, _, _, _, _, _, _], rfl, ?_⟩
        refine wp_region rfl rfl ?_
        refine wo_move (v := .ref _ _ _ _ _ _) rfl rfl rfl rfl rfl (fun h => AV.noConfusion h) ?_
        refine wo_mpv rfl rfl rfl rfl rfl ?_
        refine wo_call (v := .agg ((VN j).row.map .pv)) (H' := [_]) rfl rfl rfl rfl rfl rfl ((cl25 _ _ _ _).trans (callPure_agg rfl (fun _ => rfl) rfl (number_ok j _ (by omega)))) rfl rfl rfl ?_
        refine wo_buildSlice (H' := [_, _]) rfl rfl rfl rfl (bs31 _ (VN j)) rfl ?_
        refine wo_append (v := VR 0 (acc ++ [VN j])) (H' := [_, _]) t31 rfl rfl rfl rfl rfl rfl rfl rfl (rfl) (VB.app rfl rfl (Nat.zero_le _) (by rw [hacc]; simp [places]; omega)) rfl rfl rfl ?_
        refine wo_assign (v := .ref _ _ _ _ _ _) rfl rfl rfl rfl rfl (fun h => AV.noConfusion h) ?_
        refine wo_nil ?_
        refine ⟨[_, _, _, _, _, _, _, _, _, _, _, _, _, _, _, _, _, _, _, _, _, _, _, _, _, _, _, _, _, _, _, _, _, _, _, _, _, _, _, _, _, _, _, _, _, _, _, _, _, _, _, _, _, _, _, _, _, _, _, _, _, _, _, _, _, _, _, _, _, _, _, _, _, _, _, _, _, _, _, _, _, _, _, _, _, _, _, _, _, _, _, _, _, _], rfl, ?_⟩
        refine wp_region rfl rfl ?_
        refine wo_bin (v := .pv (.int .i64 ((j + 1 : Nat) : Int))) rfl rfl rfl rfl (iV (by rw [wrapI (by omega) (by omega)]; omega)) ?_
        refine wo_mpv rfl rfl rfl rfl rfl ?_
        refine wo_nil ?_
        refine ⟨[_, _, _, _, _, _, _, _, _, _, _, _, _, _, _, _, _, _, _, _, _, _, _, _, _, _, _, _, _, _, _, _, _, _, _, _, _, _, _, _, _, _, _, _, _, _, _, _, _, _, _, _, _, _, _, _, _, _, _, _, _, _, _, _, _, _, _, _, _, _, _, _, _, _, _, _, _, _, _, _, _, _, _, _, _, _, _, _, _, _, _, _, _, _], rfl, ?_⟩
        refine ⟨[.pv p, .pv (.int .i64 size), .pv q, .any, .any, .any, .any, VR 0 (acc ++ [VN j]), .any, .any, .any, .any, .any, .any, .any, .any, .any, .any, .any, .any, .any, .pv (.int .i64 l.length), .pv (.int .i64 ((j + 1 : Nat) : Int)), .any, .any, .any, .any, .any, .any, .any, .any, .any, .any, .any, .any, .any, .any, .any, .any, .any, .any, .any, .any, .any, .any, .any, .any, .any, .any, .any, .any, .any, .any, .any, .any, .any, .any, .any, .any, .any, .any, .any, .any, .any, .any, .any, .any, .any, .any, .any, .any, .any, .any, .any, .any, .any, .any, .any, .any, .any, .any, .any, .any, .any, .any, .any, .any, .any, .any, .any, .any, .any, .any, .any], [VB (acc ++ [VN j]) 0], tidy_ren (t' := [_, _, _, _, _, _, _, _, _, _, _, _, _, _, _, _, _, _, _, _, _, _, _, _, _, _, _, _, _, _, _, _, _, _, _, _, _, _, _, _, _, _, _, _, _, _, _, _, _, _, _, _, _, _, _, _, _, _, _, _, _, _, _, _, _, _, _, _, _, _, _, _, _, _, _, _, _, _, _, _, _, _, _, _, _, _, _, _, _, _, _, _, _, _]) (order := [0]) (bs := [_]) rfl rfl rfl (by kernel_rfl) (by kernel_rfl) rfl (by kernel_rfl), k - 1, by omega, j + 1, acc ++ [VN j], by omega, by rw [hacc]; simp [places, List.range_succ], .inr ⟨by omega, rfl, rfl⟩⟩
      ·
        refine wo_nil ?_
        refine ⟨[_, _, _, _, _, _, _, _, _, _, _, _, _, _, _, _, _, _, _, _, _, _, _, _, _, _, _, _, _, _, _, _, _, _, _, _, _, _, _, _, _, _, _, _, _, _, _, _, _, _, _, _, _, _, _, _, _, _, _, _, _, _, _, _, _, _, _, _, _, _, _, _, _, _, _, _, _, _, _, _, _, _, _, _, _, _, _, _, _, _, _, _, _, _], rfl, ?_⟩
        refine wp_seq ?_
        refine wp_false rfl ?_
        refine wp_exit ?_
        refine wp_seq ?_
        refine wp_region rfl rfl ?_
        refine wo_move (v := .ref _ _ _ _ _ _) rfl rfl rfl rfl rfl (fun h => AV.noConfusion h) ?_
        refine wo_mpv rfl rfl rfl rfl rfl ?_
        refine wo_mpv rfl rfl rfl rfl rfl ?_
        have hjl : j = l.length := by omega
        rw [hjl] at hacc
        obtain ⟨pa, pb, a, b, e, f, h1, h2, sa, sb, hfin⟩ := blindBoth (pp := (.sl (acc.map V.row))) hp (.inl (by rw [hacc])) hq ho hd (by omega) size
        cases hft : (AV.tup [.pv pa, .pv (.int .i64 e)]).flat
        ·
          refine wo_call (v := .tup [.pv pa, .pv (.int .i64 e)]) (H' := [_]) rfl rfl rfl rfl rfl rfl ((cl26 _ _ _ _).trans (callPure_vr' (fl := 0) (st := 0) (fz := 0) rfl (Nat.zero_le _) rfl (fun _ => rfl) rfl hft h1)) rfl rfl rfl ?_
          refine wo_move (v := .tup _) rfl rfl rfl rfl rfl (fun h => AV.noConfusion h) ?_
          refine wo_extract (v := .pv _) rfl rfl rfl rfl rfl rfl ?_
          refine wo_extract (v := .pv _) rfl rfl rfl rfl rfl rfl ?_
          refine wo_apv rfl rfl rfl rfl rfl ?_
          refine wo_apv rfl rfl rfl rfl rfl ?_
          refine wo_nil ?_
          refine ⟨[_, _, _, _, _, _, _, _, _, _, _, _, _, _, _, _, _, _, _, _, _, _, _, _, _, _, _, _, _, _, _, _, _, _, _, _, _, _, _, _, _, _, _, _, _, _, _, _, _, _, _, _, _, _, _, _, _, _, _, _, _, _, _, _, _, _, _, _, _, _, _, _, _, _, _, _, _, _, _, _, _, _, _, _, _, _, _, _, _, _, _, _, _, _], rfl, ?_⟩
          refine wp_seq ?_
          refine wp_region rfl rfl ?_
          refine wo_mpv rfl rfl rfl rfl rfl ?_
          refine wo_mpv rfl rfl rfl rfl rfl ?_
          refine wo_mpv rfl rfl rfl rfl rfl ?_
          refine wo_call (v := .tup [.pv pb, .pv (.int .i64 f)]) (H' := [_]) rfl rfl rfl rfl rfl rfl ((cl26 _ _ _ _).trans (callPure_any rfl (fun _ => rfl) rfl h2)) rfl rfl rfl ?_
          refine wo_move (v := .tup _) rfl rfl rfl rfl rfl (fun h => AV.noConfusion h) ?_
          refine wo_extract (v := .pv _) rfl rfl rfl rfl rfl rfl ?_
          refine wo_extract (v := .pv _) rfl rfl rfl rfl rfl rfl ?_
          refine wo_apv rfl rfl rfl rfl rfl ?_
          refine wo_apv rfl rfl rfl rfl rfl ?_
          refine wo_nil ?_
          refine ⟨[_, _, _, _, _, _, _, _, _, _, _, _, _, _, _, _, _, _, _, _, _, _, _, _, _, _, _, _, _, _, _, _, _, _, _, _, _, _, _, _, _, _, _, _, _, _, _, _, _, _, _, _, _, _, _, _, _, _, _, _, _, _, _, _, _, _, _, _, _, _, _, _, _, _, _, _, _, _, _, _, _, _, _, _, _, _, _, _, _, _, _, _, _, _], rfl, ?_⟩
          refine wp_seq ?_
          refine wp_seq ?_
          refine wp_region rfl rfl ?_
          refine wo_mpv rfl rfl rfl rfl rfl ?_
          rcases hfin with ⟨hf, he⟩ | ⟨rfl, rfl, hrel, hal⟩
          ·
            refine wo_bin (v := .pv (.bool true)) rfl rfl rfl rfl (nT hf) ?_
            refine wo_mpv rfl rfl rfl rfl rfl ?_
            refine wo_off rfl rfl rfl ?_
            refine wo_off rfl rfl rfl ?_
            refine wo_pick (v := .pv _) rfl rfl rfl rfl rfl rfl ?_
            refine wo_nil ?_
            refine ⟨[_, _, _, _, _, _, _, _, _, _, _, _, _, _, _, _, _, _, _, _, _, _, _, _, _, _, _, _, _, _, _, _, _, _, _, _, _, _, _, _, _, _, _, _, _, _, _, _, _, _, _, _, _, _, _, _, _, _, _, _, _, _, _, _, _, _, _, _, _, _, _, _, _, _, _, _, _, _, _, _, _, _, _, _, _, _, _, _, _, _, _, _, _, _], rfl, ?_⟩
            refine wp_true rfl ?_
            refine wp_seq ?_
            refine wp_region rfl rfl ?_
            refine wo_mpv rfl rfl rfl rfl rfl ?_
            refine wo_esplit rfl rfl rfl rfl rfl (fun c14_1 => ?_) (fun c14_1 => ?_)
            ·
              refine wo_mpv rfl rfl rfl rfl rfl ?_
              refine wo_off rfl rfl rfl ?_
              refine wo_off rfl rfl rfl ?_
              refine wo_off rfl rfl rfl ?_
              refine wo_pick (v := .pv _) rfl rfl rfl rfl rfl rfl ?_
              refine wo_apv rfl rfl rfl rfl rfl ?_
              refine wo_nil ?_
              refine ⟨[_, _, _, _, _, _, _, _, _, _, _, _, _, _, _, _, _, _, _, _, _, _, _, _, _, _, _, _, _, _, _, _, _, _, _, _, _, _, _, _, _, _, _, _, _, _, _, _, _, _, _, _, _, _, _, _, _, _, _, _, _, _, _, _, _, _, _, _, _, _, _, _, _, _, _, _, _, _, _, _, _, _, _, _, _, _, _, _, _, _, _, _, _, _], rfl, ?_⟩
              refine wp_ret ?_
              exact ⟨trivial, _, rfl, leave_pure⟩
            ·
              refine wo_mpv rfl rfl rfl rfl rfl ?_
              refine wo_mpv rfl rfl rfl rfl rfl ?_
              refine wo_mpv rfl rfl rfl rfl rfl ?_
              refine wo_bin (v := .pv (.bool true)) rfl rfl rfl rfl (eT (by omega)) ?_
              refine wo_pick (v := .pv _) rfl rfl rfl rfl rfl rfl ?_
              refine wo_apv rfl rfl rfl rfl rfl ?_
              refine wo_nil ?_
              refine ⟨[_, _, _, _, _, _, _, _, _, _, _, _, _, _, _, _, _, _, _, _, _, _, _, _, _, _, _, _, _, _, _, _, _, _, _, _, _, _, _, _, _, _, _, _, _, _, _, _, _, _, _, _, _, _, _, _, _, _, _, _, _, _, _, _, _, _, _, _, _, _, _, _, _, _, _, _, _, _, _, _, _, _, _, _, _, _, _, _, _, _, _, _, _, _], rfl, ?_⟩
              refine wp_ret ?_
              exact ⟨trivial, _, rfl, leave_pure⟩
          ·
            refine wo_bin (v := .pv (.bool false)) rfl rfl rfl rfl (nF rfl) ?_
            refine wo_mpv rfl rfl rfl rfl rfl ?_
            refine wo_mpv rfl rfl rfl rfl rfl ?_
            refine wo_bin (v := .pv (.bool false)) rfl rfl rfl rfl (nF rfl) ?_
            refine wo_pick (v := .pv _) rfl rfl rfl rfl rfl rfl ?_
            refine wo_nil ?_
            refine ⟨[_, _, _, _, _, _, _, _, _, _, _, _, _, _, _, _, _, _, _, _, _, _, _, _, _, _, _, _, _, _, _, _, _, _, _, _, _, _, _, _, _, _, _, _, _, _, _, _, _, _, _, _, _, _, _, _, _, _, _, _, _, _, _, _, _, _, _, _, _, _, _, _, _, _, _, _, _, _, _, _, _, _, _, _, _, _, _, _, _, _, _, _, _, _], rfl, ?_⟩
            refine wp_false rfl ?_
            refine wp_skip ?_
            refine wp_seq ?_
            refine wp_seq ?_
            refine wp_region rfl rfl ?_
            refine wo_mpv rfl rfl rfl rfl rfl ?_
            refine wo_len (ln := a.length) t31 rfl rfl rfl rfl rfl rfl rfl (sa.len 40) rfl ?_
            refine wo_mpv rfl rfl rfl rfl rfl ?_
            refine wo_len (ln := b.length) t31 rfl rfl rfl rfl rfl rfl rfl (sb.len 40) rfl ?_
            refine wo_bin (v := .pv (.bool false)) rfl rfl rfl rfl (nF (by rw [hrel.1])) ?_
            refine wo_nil ?_
            refine ⟨[_, _, _, _, _, _, _, _, _, _, _, _, _, _, _, _, _, _, _, _, _, _, _, _, _, _, _, _, _, _, _, _, _, _, _, _, _, _, _, _, _, _, _, _, _, _, _, _, _, _, _, _, _, _, _, _, _, _, _, _, _, _, _, _, _, _, _, _, _, _, _, _, _, _, _, _, _, _, _, _, _, _, _, _, _, _, _, _, _, _, _, _, _, _], rfl, ?_⟩
            refine wp_false rfl ?_
            refine wp_skip ?_
            refine wp_seq ?_
            refine wp_seq ?_
            refine wp_region rfl rfl ?_
            refine wo_mpv rfl rfl rfl rfl rfl ?_
            refine wo_len (ln := a.length) t31 rfl rfl rfl rfl rfl rfl rfl (sa.len 40) rfl ?_
            refine wo_mpv rfl rfl rfl rfl rfl ?_
            refine wo_nil ?_
            refine ⟨[_, _, _, _, _, _, _, _, _, _, _, _, _, _, _, _, _, _, _, _, _, _, _, _, _, _, _, _, _, _, _, _, _, _, _, _, _, _, _, _, _, _, _, _, _, _, _, _, _, _, _, _, _, _, _, _, _, _, _, _, _, _, _, _, _, _, _, _, _, _, _, _, _, _, _, _, _, _, _, _, _, _, _, _, _, _, _, _, _, _, _, _, _, _], rfl, ?_⟩
            refine wp_block ?_
            refine wp_loop (fun k t H => ∃ i : Nat, i + k = a.length ∧ t = [.pv p, .any, .any, .any, .any, .any, .any, .any, .any, .pv pa, .any, .pv pb, .any, .any, .any, .any, .any, .any, .any, .any, .any, .any, .any, .any, .any, .any, .any, .any, .any, .any, .any, .any, .any, .any, .any, .any, .any, .any, .any, .any, .any, .any, .any, .any, .any, .any, .any, .any, .any, .any, .any, .any, .any, .any, .any, .any, .any, .any, .any, .any, .any, .any, .any, .any, .pv (.int .i64 a.length), .pv (.int .i64 (i : Nat)), .any, .any, .any, .any, .any, .any, .any, .any, .any, .any, .any, .any, .any, .any, .any, .any, .any, .any, .any, .any, .any, .any, .any, .any, .any, .any, .any, .any] ∧ H = [.row 40 4 ⟨acc.map V.row, 0, 0, 0, max 0 (acc.map V.row).length⟩]) a.length ⟨0, by omega, rfl, rfl⟩ (by omega) ?_
            rintro k3 _ _ hk3 ⟨i, hi, rfl, rfl⟩
            refine wp_seq ?_
            refine wp_region rfl rfl ?_
            refine wo_bsplit rfl rfl rfl rfl rfl (fun c18_0 => ?_) (fun c18_0 => ?_)
            ·
              refine wo_nil ?_
              refine ⟨[_, _, _, _, _, _, _, _, _, _, _, _, _, _, _, _, _, _, _, _, _, _, _, _, _, _, _, _, _, _, _, _, _, _, _, _, _, _, _, _, _, _, _, _, _, _, _, _, _, _, _, _, _, _, _, _, _, _, _, _, _, _, _, _, _, _, _, _, _, _, _, _, _, _, _, _, _, _, _, _, _, _, _, _, _, _, _, _, _, _, _, _, _, _], rfl, ?_⟩
              refine wp_seq ?_
              refine wp_true rfl ?_
              refine wp_skip ?_
              refine wp_seq ?_
              refine wp_block ?_
              refine wp_seq ?_
              refine wp_region rfl rfl ?_
              refine wo_mpv rfl rfl rfl rfl rfl ?_
              refine wo_apv rfl rfl rfl rfl rfl ?_
              refine wo_nil ?_
              refine ⟨[_, _, _, _, _, _, _, _, _, _, _, _, _, _, _, _, _, _, _, _, _, _, _, _, _, _, _, _, _, _, _, _, _, _, _, _, _, _, _, _, _, _, _, _, _, _, _, _, _, _, _, _, _, _, _, _, _, _, _, _, _, _, _, _, _, _, _, _, _, _, _, _, _, _, _, _, _, _, _, _, _, _, _, _, _, _, _, _, _, _, _, _, _, _], rfl, ?_⟩
              refine wp_seq ?_
              refine wp_region rfl rfl ?_
              refine wo_mpv rfl rfl rfl rfl rfl ?_
              refine wo_mpv rfl rfl rfl rfl rfl ?_
              have hia : i < a.length := by omega
              have hib : i < b.length := by have := hrel.1; omega
              obtain ⟨j2, hj2, ea, eb⟩ := hrel.2 i hia hib
              have hok := ho _ (List.getElem_mem hj2)
              refine wo_iaddr (v := .pv (.ptr (a[i]).row 0)) rfl rfl rfl rfl (sa.get (i := i) hia rfl) ?_
              refine wo_faddr t40 t2 rfl rfl rfl rfl rfl rfl rfl ?_
              refine wo_load (v := .pv (.int .i64 (j2 : Nat))) t2 rfl rfl rfl rfl ((by rw [ea]; rfl)) rfl ?_
              refine wo_apv rfl rfl rfl rfl rfl ?_
              refine wo_nil ?_
              refine ⟨[_, _, _, _, _, _, _, _, _, _, _, _, _, _, _, _, _, _, _, _, _, _, _, _, _, _, _, _, _, _, _, _, _, _, _, _, _, _, _, _, _, _, _, _, _, _, _, _, _, _, _, _, _, _, _, _, _, _, _, _, _, _, _, _, _, _, _, _, _, _, _, _, _, _, _, _, _, _, _, _, _, _, _, _, _, _, _, _, _, _, _, _, _, _], rfl, ?_⟩
              refine wp_seq ?_
              refine wp_drawn rfl rfl (by kernel_rfl) ?_
              refine wo_mpv rfl rfl rfl rfl rfl ?_
              refine wo_bin (v := .pv (.bool false)) rfl rfl rfl rfl (bF (by omega)) ?_
              refine wo_mpv rfl rfl rfl rfl rfl ?_
              refine wo_mpv rfl rfl rfl rfl rfl ?_
              refine wo_mpv rfl rfl rfl rfl rfl ?_
              refine wo_len (ln := l.length) t31 rfl rfl rfl rfl rfl rfl rfl (hp.len 40) rfl ?_
              refine wo_bin (v := .pv (.bool false)) rfl rfl rfl rfl (bF (by omega)) ?_
              refine wo_pick (v := .pv _) rfl rfl rfl rfl rfl rfl ?_
              refine wo_mpv rfl rfl rfl rfl rfl ?_
              refine wo_mpv rfl rfl rfl rfl rfl ?_
              refine wo_mpv rfl rfl rfl rfl rfl ?_
              refine wo_norm [_, _, _, _, _, _, _, _, _, _, _, _, _, _, _, _, _, _, _, _, _, _, _, _, _, _, _, _, _, _, _, _, _, _, _, _, _, _, _, _, _, _, _, _, _, _, _, _, _, _, _, _, _, _, _, _, _, _, _, _, _, _, _, _, _, _, _, _, _, _, _, _, _, _, _, _, _, _, _, _, _, _, _, _, _, _, _, _, _, _, _, _, _, _] rfl ?_
              refine wo_iaddr (v := .pv (.ptr (b[i]).row 0)) rfl rfl rfl rfl (sb.get (i := i) hib rfl) ?_
              refine wo_load (v := .agg [_, _, _, _]) t40 rfl rfl rfl rfl rfl rfl ?_
              refine wo_mpv rfl rfl rfl rfl rfl ?_
              refine wo_mpv rfl rfl rfl rfl rfl ?_
              refine wo_iaddr (v := .pv (.ptr (l[j2]).row 0)) rfl rfl rfl rfl (hp.get (i := j2) hj2 rfl) ?_
              refine wo_load (v := .agg [_, _, _, _]) t40 rfl rfl rfl rfl rfl rfl ?_
              refine wo_call (v := .pv (.bool true)) (H' := [_]) rfl rfl rfl rfl rfl rfl ((cl27 _ _ _ _).trans (callPure_pv rfl (fun _ => rfl) (by rw [eb]; exact same_ok (plain_ok hok) hok (plain_right _ hok).2 _ (by omega)))) rfl rfl rfl ?_
              refine wo_un rfl rfl rfl rfl rfl ?_
              refine wo_pick (v := .pv _) rfl rfl rfl rfl rfl rfl ?_
              refine wo_nil ?_
              refine ⟨by kernel_rfl, ?_⟩
              refine ⟨[_, _, _, _, _, _, _, _, _, _, _, _, _, _, _, _, _, _, _, _, _, _, _, _, _, _, _, _, _, _, _, _, _, _, _, _, _, _, _, _, _, _, _, _, _, _, _, _, _, _, _, _, _, _, _, _, _, _, _, _, _, _, _, _, _, _, _, _, _, _, _, _, _, _, _, _, _, _, _, _, _, _, _, _, _, _, _, _, _, _, _, _, _, _], rfl, ?_⟩
              refine wp_false rfl ?_
              refine wp_skip ?_
              refine wp_region rfl rfl ?_
              refine wo_bin (v := .pv (.int .i64 ((i + 1 : Nat) : Int))) rfl rfl rfl rfl (iV (by rw [wrapI (by omega) (by omega)]; omega)) ?_
              refine wo_mpv rfl rfl rfl rfl rfl ?_
              refine wo_nil ?_
              refine ⟨[_, _, _, _, _, _, _, _, _, _, _, _, _, _, _, _, _, _, _, _, _, _, _, _, _, _, _, _, _, _, _, _, _, _, _, _, _, _, _, _, _, _, _, _, _, _, _, _, _, _, _, _, _, _, _, _, _, _, _, _, _, _, _, _, _, _, _, _, _, _, _, _, _, _, _, _, _, _, _, _, _, _, _, _, _, _, _, _, _, _, _, _, _, _], rfl, ?_⟩
              refine ⟨_, _, tidy_norm (t' := [_, _, _, _, _, _, _, _, _, _, _, _, _, _, _, _, _, _, _, _, _, _, _, _, _, _, _, _, _, _, _, _, _, _, _, _, _, _, _, _, _, _, _, _, _, _, _, _, _, _, _, _, _, _, _, _, _, _, _, _, _, _, _, _, _, _, _, _, _, _, _, _, _, _, _, _, _, _, _, _, _, _, _, _, _, _, _, _, _, _, _, _, _, _]) rfl rfl rfl, k3 - 1, by omega, i + 1, by omega, rfl, rfl⟩
            ·
              refine wo_nil ?_
              refine ⟨[_, _, _, _, _, _, _, _, _, _, _, _, _, _, _, _, _, _, _, _, _, _, _, _, _, _, _, _, _, _, _, _, _, _, _, _, _, _, _, _, _, _, _, _, _, _, _, _, _, _, _, _, _, _, _, _, _, _, _, _, _, _, _, _, _, _, _, _, _, _, _, _, _, _, _, _, _, _, _, _, _, _, _, _, _, _, _, _, _, _, _, _, _, _], rfl, ?_⟩
              refine wp_seq ?_
              refine wp_false rfl ?_
              refine wp_exit ?_
              refine wp_seq ?_
              refine wp_region rfl rfl ?_
              refine wo_apv rfl rfl rfl rfl rfl ?_
              refine wo_nil ?_
              refine ⟨[_, _, _, _, _, _, _, _, _, _, _, _, _, _, _, _, _, _, _, _, _, _, _, _, _, _, _, _, _, _, _, _, _, _, _, _, _, _, _, _, _, _, _, _, _, _, _, _, _, _, _, _, _, _, _, _, _, _, _, _, _, _, _, _, _, _, _, _, _, _, _, _, _, _, _, _, _, _, _, _, _, _, _, _, _, _, _, _, _, _, _, _, _, _], rfl, ?_⟩
              refine wp_ret ?_
              exact ⟨trivial, _, rfl, leave_pure⟩
        ·
          refine wo_call (v := .tup [.pv pa, .pv (.int .i64 e)]) (H' := [_]) rfl rfl rfl rfl rfl rfl ((cl26 _ _ _ _).trans (callPure_vr (fl := 0) (st := 0) (fz := 0) rfl (Nat.zero_le _) rfl (fun _ => rfl) hft h1)) rfl rfl rfl ?_
          refine wo_move (v := .tup _) rfl rfl rfl rfl rfl (fun h => AV.noConfusion h) ?_
          refine wo_extract (v := .pv _) rfl rfl rfl rfl rfl rfl ?_
          refine wo_extract (v := .pv _) rfl rfl rfl rfl rfl rfl ?_
          refine wo_apv rfl rfl rfl rfl rfl ?_
          refine wo_apv rfl rfl rfl rfl rfl ?_
          refine wo_nil ?_
          refine ⟨[_, _, _, _, _, _, _, _, _, _, _, _, _, _, _, _, _, _, _, _, _, _, _, _, _, _, _, _, _, _, _, _, _, _, _, _, _, _, _, _, _, _, _, _, _, _, _, _, _, _, _, _, _, _, _, _, _, _, _, _, _, _, _, _, _, _, _, _, _, _, _, _, _, _, _, _, _, _, _, _, _, _, _, _, _, _, _, _, _, _, _, _, _, _], rfl, ?_⟩
          refine wp_seq ?_
          refine wp_region rfl rfl ?_
          refine wo_mpv rfl rfl rfl rfl rfl ?_
          refine wo_mpv rfl rfl rfl rfl rfl ?_
          refine wo_mpv rfl rfl rfl rfl rfl ?_
          refine wo_call (v := .tup [.pv pb, .pv (.int .i64 f)]) (H' := [_]) rfl rfl rfl rfl rfl rfl ((cl26 _ _ _ _).trans (callPure_any rfl (fun _ => rfl) rfl h2)) rfl rfl rfl ?_
          refine wo_move (v := .tup _) rfl rfl rfl rfl rfl (fun h => AV.noConfusion h) ?_
          refine wo_extract (v := .pv _) rfl rfl rfl rfl rfl rfl ?_
          refine wo_extract (v := .pv _) rfl rfl rfl rfl rfl rfl ?_
          refine wo_apv rfl rfl rfl rfl rfl ?_
          refine wo_apv rfl rfl rfl rfl rfl ?_
          refine wo_nil ?_
          refine ⟨[_, _, _, _, _, _, _, _, _, _, _, _, _, _, _, _, _, _, _, _, _, _, _, _, _, _, _, _, _, _, _, _, _, _, _, _, _, _, _, _, _, _, _, _, _, _, _, _, _, _, _, _, _, _, _, _, _, _, _, _, _, _, _, _, _, _, _, _, _, _, _, _, _, _, _, _, _, _, _, _, _, _, _, _, _, _, _, _, _, _, _, _, _, _], rfl, ?_⟩
          refine wp_seq ?_
          refine wp_seq ?_
          refine wp_region rfl rfl ?_
          refine wo_mpv rfl rfl rfl rfl rfl ?_
          rcases hfin with ⟨hf, he⟩ | ⟨rfl, rfl, hrel, hal⟩
          ·
            refine wo_bin (v := .pv (.bool true)) rfl rfl rfl rfl (nT hf) ?_
            refine wo_mpv rfl rfl rfl rfl rfl ?_
            refine wo_off rfl rfl rfl ?_
            refine wo_off rfl rfl rfl ?_
            refine wo_pick (v := .pv _) rfl rfl rfl rfl rfl rfl ?_
            refine wo_nil ?_
            refine ⟨[_, _, _, _, _, _, _, _, _, _, _, _, _, _, _, _, _, _, _, _, _, _, _, _, _, _, _, _, _, _, _, _, _, _, _, _, _, _, _, _, _, _, _, _, _, _, _, _, _, _, _, _, _, _, _, _, _, _, _, _, _, _, _, _, _, _, _, _, _, _, _, _, _, _, _, _, _, _, _, _, _, _, _, _, _, _, _, _, _, _, _, _, _, _], rfl, ?_⟩
            refine wp_true rfl ?_
            refine wp_seq ?_
            refine wp_region rfl rfl ?_
            refine wo_mpv rfl rfl rfl rfl rfl ?_
            refine wo_esplit rfl rfl rfl rfl rfl (fun c14_1 => ?_) (fun c14_1 => ?_)
            ·
              refine wo_mpv rfl rfl rfl rfl rfl ?_
              refine wo_off rfl rfl rfl ?_
              refine wo_off rfl rfl rfl ?_
              refine wo_off rfl rfl rfl ?_
              refine wo_pick (v := .pv _) rfl rfl rfl rfl rfl rfl ?_
              refine wo_apv rfl rfl rfl rfl rfl ?_
              refine wo_nil ?_
              refine ⟨[_, _, _, _, _, _, _, _, _, _, _, _, _, _, _, _, _, _, _, _, _, _, _, _, _, _, _, _, _, _, _, _, _, _, _, _, _, _, _, _, _, _, _, _, _, _, _, _, _, _, _, _, _, _, _, _, _, _, _, _, _, _, _, _, _, _, _, _, _, _, _, _, _, _, _, _, _, _, _, _, _, _, _, _, _, _, _, _, _, _, _, _, _, _], rfl, ?_⟩
              refine wp_ret ?_
              exact ⟨trivial, _, rfl, leave_pure⟩
            ·
              refine wo_mpv rfl rfl rfl rfl rfl ?_
              refine wo_mpv rfl rfl rfl rfl rfl ?_
              refine wo_mpv rfl rfl rfl rfl rfl ?_
              refine wo_bin (v := .pv (.bool true)) rfl rfl rfl rfl (eT (by omega)) ?_
              refine wo_pick (v := .pv _) rfl rfl rfl rfl rfl rfl ?_
              refine wo_apv rfl rfl rfl rfl rfl ?_
              refine wo_nil ?_
              refine ⟨[_, _, _, _, _, _, _, _, _, _, _, _, _, _, _, _, _, _, _, _, _, _, _, _, _, _, _, _, _, _, _, _, _, _, _, _, _, _, _, _, _, _, _, _, _, _, _, _, _, _, _, _, _, _, _, _, _, _, _, _, _, _, _, _, _, _, _, _, _, _, _, _, _, _, _, _, _, _, _, _, _, _, _, _, _, _, _, _, _, _, _, _, _, _], rfl, ?_⟩
              refine wp_ret ?_
              exact ⟨trivial, _, rfl, leave_pure⟩
          ·
            refine wo_bin (v := .pv (.bool false)) rfl rfl rfl rfl (nF rfl) ?_
            refine wo_mpv rfl rfl rfl rfl rfl ?_
            refine wo_mpv rfl rfl rfl rfl rfl ?_
            refine wo_bin (v := .pv (.bool false)) rfl rfl rfl rfl (nF rfl) ?_
            refine wo_pick (v := .pv _) rfl rfl rfl rfl rfl rfl ?_
            refine wo_nil ?_
            refine ⟨[_, _, _, _, _, _, _, _, _, _, _, _, _, _, _, _, _, _, _, _, _, _, _, _, _, _, _, _, _, _, _, _, _, _, _, _, _, _, _, _, _, _, _, _, _, _, _, _, _, _, _, _, _, _, _, _, _, _, _, _, _, _, _, _, _, _, _, _, _, _, _, _, _, _, _, _, _, _, _, _, _, _, _, _, _, _, _, _, _, _, _, _, _, _], rfl, ?_⟩
            refine wp_false rfl ?_
            refine wp_skip ?_
            refine wp_seq ?_
            refine wp_seq ?_
            refine wp_region rfl rfl ?_
            refine wo_mpv rfl rfl rfl rfl rfl ?_
            refine wo_len (ln := a.length) t31 rfl rfl rfl rfl rfl rfl rfl (sa.len 40) rfl ?_
            refine wo_mpv rfl rfl rfl rfl rfl ?_
            refine wo_len (ln := b.length) t31 rfl rfl rfl rfl rfl rfl rfl (sb.len 40) rfl ?_
            refine wo_bin (v := .pv (.bool false)) rfl rfl rfl rfl (nF (by rw [hrel.1])) ?_
            refine wo_nil ?_
            refine ⟨[_, _, _, _, _, _, _, _, _, _, _, _, _, _, _, _, _, _, _, _, _, _, _, _, _, _, _, _, _, _, _, _, _, _, _, _, _, _, _, _, _, _, _, _, _, _, _, _, _, _, _, _, _, _, _, _, _, _, _, _, _, _, _, _, _, _, _, _, _, _, _, _, _, _, _, _, _, _, _, _, _, _, _, _, _, _, _, _, _, _, _, _, _, _], rfl, ?_⟩
            refine wp_false rfl ?_
            refine wp_skip ?_
            refine wp_seq ?_
            refine wp_seq ?_
            refine wp_region rfl rfl ?_
            refine wo_mpv rfl rfl rfl rfl rfl ?_
            refine wo_len (ln := a.length) t31 rfl rfl rfl rfl rfl rfl rfl (sa.len 40) rfl ?_
            refine wo_mpv rfl rfl rfl rfl rfl ?_
            refine wo_nil ?_
            refine ⟨[_, _, _, _, _, _, _, _, _, _, _, _, _, _, _, _, _, _, _, _, _, _, _, _, _, _, _, _, _, _, _, _, _, _, _, _, _, _, _, _, _, _, _, _, _, _, _, _, _, _, _, _, _, _, _, _, _, _, _, _, _, _, _, _, _, _, _, _, _, _, _, _, _, _, _, _, _, _, _, _, _, _, _, _, _, _, _, _, _, _, _, _, _, _], rfl, ?_⟩
            refine wp_block ?_
            refine wp_loop (fun k t H => ∃ i : Nat, i + k = a.length ∧ t = [.pv p, .any, .any, .any, .any, .any, .any, .any, .any, .pv pa, .any, .pv pb, .any, .any, .any, .any, .any, .any, .any, .any, .any, .any, .any, .any, .any, .any, .any, .any, .any, .any, .any, .any, .any, .any, .any, .any, .any, .any, .any, .any, .any, .any, .any, .any, .any, .any, .any, .any, .any, .any, .any, .any, .any, .any, .any, .any, .any, .any, .any, .any, .any, .any, .any, .any, .pv (.int .i64 a.length), .pv (.int .i64 (i : Nat)), .any, .any, .any, .any, .any, .any, .any, .any, .any, .any, .any, .any, .any, .any, .any, .any, .any, .any, .any, .any, .any, .any, .any, .any, .any, .any, .any, .any] ∧ H = [VB acc 0]) a.length ⟨0, by omega, rfl, rfl⟩ (by omega) ?_
            rintro k3 _ _ hk3 ⟨i, hi, rfl, rfl⟩
            refine wp_seq ?_
            refine wp_region rfl rfl ?_
            refine wo_bsplit rfl rfl rfl rfl rfl (fun c18_0 => ?_) (fun c18_0 => ?_)
            ·
              refine wo_nil ?_
              refine ⟨[_, _, _, _, _, _, _, _, _, _, _, _, _, _, _, _, _, _, _, _, _, _, _, _, _, _, _, _, _, _, _, _, _, _, _, _, _, _, _, _, _, _, _, _, _, _, _, _, _, _, _, _, _, _, _, _, _, _, _, _, _, _, _, _, _, _, _, _, _, _, _, _, _, _, _, _, _, _, _, _, _, _, _, _, _, _, _, _, _, _, _, _, _, _], rfl, ?_⟩
              refine wp_seq ?_
              refine wp_true rfl ?_
              refine wp_skip ?_
              refine wp_seq ?_
              refine wp_block ?_
              refine wp_seq ?_
              refine wp_region rfl rfl ?_
              refine wo_mpv rfl rfl rfl rfl rfl ?_
              refine wo_apv rfl rfl rfl rfl rfl ?_
              refine wo_nil ?_
              refine ⟨[_, _, _, _, _, _, _, _, _, _, _, _, _, _, _, _, _, _, _, _, _, _, _, _, _, _, _, _, _, _, _, _, _, _, _, _, _, _, _, _, _, _, _, _, _, _, _, _, _, _, _, _, _, _, _, _, _, _, _, _, _, _, _, _, _, _, _, _, _, _, _, _, _, _, _, _, _, _, _, _, _, _, _, _, _, _, _, _, _, _, _, _, _, _], rfl, ?_⟩
              refine wp_seq ?_
              refine wp_region rfl rfl ?_
              refine wo_mpv rfl rfl rfl rfl rfl ?_
              refine wo_mpv rfl rfl rfl rfl rfl ?_
              have hia : i < a.length := by omega
              have hib : i < b.length := by have := hrel.1; omega
              obtain ⟨j2, hj2, ea, eb⟩ := hrel.2 i hia hib
              have hok := ho _ (List.getElem_mem hj2)
              refine wo_iaddr (v := .pv (.ptr (a[i]).row 0)) rfl rfl rfl rfl (sa.get (i := i) hia rfl) ?_
              refine wo_faddr t40 t2 rfl rfl rfl rfl rfl rfl rfl ?_
              refine wo_load (v := .pv (.int .i64 (j2 : Nat))) t2 rfl rfl rfl rfl ((by rw [ea]; rfl)) rfl ?_
              refine wo_apv rfl rfl rfl rfl rfl ?_
              refine wo_nil ?_
              refine ⟨[_, _, _, _, _, _, _, _, _, _, _, _, _, _, _, _, _, _, _, _, _, _, _, _, _, _, _, _, _, _, _, _, _, _, _, _, _, _, _, _, _, _, _, _, _, _, _, _, _, _, _, _, _, _, _, _, _, _, _, _, _, _, _, _, _, _, _, _, _, _, _, _, _, _, _, _, _, _, _, _, _, _, _, _, _, _, _, _, _, _, _, _, _, _], rfl, ?_⟩
              refine wp_seq ?_
              refine wp_drawn rfl rfl (by kernel_rfl) ?_
              refine wo_mpv rfl rfl rfl rfl rfl ?_
              refine wo_bin (v := .pv (.bool false)) rfl rfl rfl rfl (bF (by omega)) ?_
              refine wo_mpv rfl rfl rfl rfl rfl ?_
              refine wo_mpv rfl rfl rfl rfl rfl ?_
              refine wo_mpv rfl rfl rfl rfl rfl ?_
              refine wo_len (ln := l.length) t31 rfl rfl rfl rfl rfl rfl rfl (hp.len 40) rfl ?_
              refine wo_bin (v := .pv (.bool false)) rfl rfl rfl rfl (bF (by omega)) ?_
              refine wo_pick (v := .pv _) rfl rfl rfl rfl rfl rfl ?_
              refine wo_mpv rfl rfl rfl rfl rfl ?_
              refine wo_mpv rfl rfl rfl rfl rfl ?_
              refine wo_mpv rfl rfl rfl rfl rfl ?_
              refine wo_norm [_, _, _, _, _, _, _, _, _, _, _, _, _, _, _, _, _, _, _, _, _, _, _, _, _, _, _, _, _, _, _, _, _, _, _, _, _, _, _, _, _, _, _, _, _, _, _, _, _, _, _, _, _, _, _, _, _, _, _, _, _, _, _, _, _, _, _, _, _, _, _, _, _, _, _, _, _, _, _, _, _, _, _, _, _, _, _, _, _, _, _, _, _, _] rfl ?_
              refine wo_iaddr (v := .pv (.ptr (b[i]).row 0)) rfl rfl rfl rfl (sb.get (i := i) hib rfl) ?_
              refine wo_load (v := .agg [_, _, _, _]) t40 rfl rfl rfl rfl rfl rfl ?_
              refine wo_mpv rfl rfl rfl rfl rfl ?_
              refine wo_mpv rfl rfl rfl rfl rfl ?_
              refine wo_iaddr (v := .pv (.ptr (l[j2]).row 0)) rfl rfl rfl rfl (hp.get (i := j2) hj2 rfl) ?_
              refine wo_load (v := .agg [_, _, _, _]) t40 rfl rfl rfl rfl rfl rfl ?_
              refine wo_call (v := .pv (.bool true)) (H' := [_]) rfl rfl rfl rfl rfl rfl ((cl27 _ _ _ _).trans (callPure_pv rfl (fun _ => rfl) (by rw [eb]; exact same_ok (plain_ok hok) hok (plain_right _ hok).2 _ (by omega)))) rfl rfl rfl ?_
              refine wo_un rfl rfl rfl rfl rfl ?_
              refine wo_pick (v := .pv _) rfl rfl rfl rfl rfl rfl ?_
              refine wo_nil ?_
              refine ⟨by kernel_rfl, ?_⟩
              refine ⟨[_, _, _, _, _, _, _, _, _, _, _, _, _, _, _, _, _, _, _, _, _, _, _, _, _, _, _, _, _, _, _, _, _, _, _, _, _, _, _, _, _, _, _, _, _, _, _, _, _, _, _, _, _, _, _, _, _, _, _, _, _, _, _, _, _, _, _, _, _, _, _, _, _, _, _, _, _, _, _, _, _, _, _, _, _, _, _, _, _, _, _, _, _, _], rfl, ?_⟩
              refine wp_false rfl ?_
              refine wp_skip ?_
              refine wp_region rfl rfl ?_
              refine wo_bin (v := .pv (.int .i64 ((i + 1 : Nat) : Int))) rfl rfl rfl rfl (iV (by rw [wrapI (by omega) (by omega)]; omega)) ?_
              refine wo_mpv rfl rfl rfl rfl rfl ?_
              refine wo_nil ?_
              refine ⟨[_, _, _, _, _, _, _, _, _, _, _, _, _, _, _, _, _, _, _, _, _, _, _, _, _, _, _, _, _, _, _, _, _, _, _, _, _, _, _, _, _, _, _, _, _, _, _, _, _, _, _, _, _, _, _, _, _, _, _, _, _, _, _, _, _, _, _, _, _, _, _, _, _, _, _, _, _, _, _, _, _, _, _, _, _, _, _, _, _, _, _, _, _, _], rfl, ?_⟩
              refine ⟨_, _, tidy_norm (t' := [_, _, _, _, _, _, _, _, _, _, _, _, _, _, _, _, _, _, _, _, _, _, _, _, _, _, _, _, _, _, _, _, _, _, _, _, _, _, _, _, _, _, _, _, _, _, _, _, _, _, _, _, _, _, _, _, _, _, _, _, _, _, _, _, _, _, _, _, _, _, _, _, _, _, _, _, _, _, _, _, _, _, _, _, _, _, _, _, _, _, _, _, _, _]) rfl rfl rfl, k3 - 1, by omega, i + 1, by omega, rfl, rfl⟩
            ·
              refine wo_nil ?_
              refine ⟨[_, _, _, _, _, _, _, _, _, _, _, _, _, _, _, _, _, _, _, _, _, _, _, _, _, _, _, _, _, _, _, _, _, _, _, _, _, _, _, _, _, _, _, _, _, _, _, _, _, _, _, _, _, _, _, _, _, _, _, _, _, _, _, _, _, _, _, _, _, _, _, _, _, _, _, _, _, _, _, _, _, _, _, _, _, _, _, _, _, _, _, _, _, _], rfl, ?_⟩
              refine wp_seq ?_
              refine wp_false rfl ?_
              refine wp_exit ?_
              refine wp_seq ?_
              refine wp_region rfl rfl ?_
              refine wo_apv rfl rfl rfl rfl rfl ?_
              refine wo_nil ?_
              refine ⟨[_, _, _, _, _, _, _, _, _, _, _, _, _, _, _, _, _, _, _, _, _, _, _, _, _, _, _, _, _, _, _, _, _, _, _, _, _, _, _, _, _, _, _, _, _, _, _, _, _, _, _, _, _, _, _, _, _, _, _, _, _, _, _, _, _, _, _, _, _, _, _, _, _, _, _, _, _, _, _, _, _, _, _, _, _, _, _, _, _, _, _, _, _, _], rfl, ?_⟩
              refine wp_ret ?_
              exact ⟨trivial, _, rfl, leave_pure⟩
end Go.Ab.Ytnfgpejdbmakkaa
