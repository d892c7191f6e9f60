import Derived.Test.YtknmgphnkfeifaaR4
namespace Go.Ab.Ytknmgphnkfeifaa
open Go Go.Ab
open Go.Proofs.Try
set_option maxRecDepth 100000
set_option linter.unusedSimpArgs false
set_option linter.unusedVariables false

theorem ubytes_len {v : Nat} (hv : v < 2 ^ 64) : 1 ≤ (ubytes v).length ∧ (ubytes v).length ≤ 10 := by
  have := uinit_length 9 v (by omega)
  simp [ubytes]; omega
theorem putUint_nil {v : Nat} (hv : v < 2 ^ 64) (N : Nat) (hN : 12 ≤ N) : call G N 21 [.pv .nils, .pv (.int .u64 v)] [] = some (.ret (RF 0 (ubytes v)), [RB 5 (ubytes v)]) := by
  obtain ⟨N, rfl⟩ : ∃ M, N = M + 1 := ⟨N - 1, by omega⟩
  have hlen := ubytes_len hv
  refine call_eq func21 rfl (show _ = [_, _, _, _, _, _, _, _, _, _, _, _, _, _, _, _, _, _, _, _] from rfl) ?_
  refine wp_seq ?_
  refine wp_region rfl rfl ?_
  refine wo_apv rfl rfl rfl rfl rfl ?_
  refine wo_nil ?_
  refine ⟨[_, _, _, _, _, _, _, _, _, _, _, _, _, _, _, _, _, _, _, _], rfl, ?_⟩
  refine wp_seq ?_
  refine wp_block ?_
  refine wp_loop (fun k t H => ∃ (v' : Nat) (acc : List Int), v' < 2 ^ 64 ∧ k = (ubytes v').length ∧ ubytes v = acc ++ ubytes v' ∧ ((t = [.pv .nils, .pv (.int .u64 v'), .any, .any, .any, .any, .any, .any, .any, .any, .any, .any, .any, .any, .any, .any, .any, .any, .any, .any] ∧ H = [] ∧ acc = []) ∨ (acc ≠ [] ∧ t = [RF 0 acc, .pv (.int .u64 v'), .any, .any, .any, .any, .any, .any, .any, .any, .any, .any, .any, .any, .any, .any, .any, .any, .any, .any] ∧ H = [RB 5 acc]))) (ubytes v).length ⟨v, [], hv, rfl, rfl, .inl ⟨rfl, rfl, rfl⟩⟩ (by omega) ?_
  rintro k _ _ hk ⟨v', acc, hv', rfl, hub, ⟨rfl, rfl, rfl⟩ | ⟨hne, rfl, rfl⟩⟩
  ·
    refine wp_seq ?_
    refine wp_seq ?_
    refine wp_region rfl rfl ?_
    refine wo_mpv rfl rfl rfl rfl rfl ?_
    refine wo_bsplit rfl rfl rfl rfl rfl (fun c1_1 => ?_) (fun c1_1 => ?_)
    ·
      refine wo_nil ?_
      refine ⟨[_, _, _, _, _, _, _, _, _, _, _, _, _, _, _, _, _, _, _, _], rfl, ?_⟩
      refine wp_true rfl ?_
      refine wp_skip ?_
      refine wp_block ?_
      refine wp_seq ?_
      refine wp_region rfl rfl ?_
      refine wo_mpv rfl rfl rfl rfl rfl ?_
      refine wo_mpv rfl rfl rfl rfl rfl ?_
      refine wo_convi t36 t5 rfl rfl rfl rfl rfl rfl ?_
      refine wo_bin (v := .pv (.int .u8 ((v' % 128 + 128 : Nat) : Int))) rfl rfl rfl rfl (iV (by rw [orByte]; omega)) ?_
      refine wo_buildSlice (H' := [_]) rfl rfl rfl rfl (bs35 _ _) rfl ?_
      refine wo_append (v := RF 1 [((v' % 128 + 128 : Nat) : Int)]) (H' := [_, _]) t35 rfl rfl rfl rfl rfl rfl rfl rfl (show _ = some ([((v' % 128 + 128 : Nat) : Int)].map rowB) from rfl) (RB.app_nil (e := 5) (a := [((v' % 128 + 128 : Nat) : Int)]) t35 rfl t5 rfl rfl (by simp) (by simp)) rfl rfl rfl ?_
      refine wo_assign (v := .ref _ _ _ _ _ _) rfl rfl rfl rfl rfl (fun h => AV.noConfusion h) ?_
      refine wo_nil ?_
      refine ⟨[_, _, _, _, _, _, _, _, _, _, _, _, _, _, _, _, _, _, _, _], rfl, ?_⟩
      refine wp_region rfl rfl ?_
      refine wo_mpv rfl rfl rfl rfl rfl ?_
      refine wo_bin (v := .pv (.int .u64 ((v' / 128 : Nat) : Int))) rfl rfl rfl rfl ((shr7 _).trans (by rw [show ((v' : Int) / 128) = ((v' / 128 : Nat) : Int) by omega])) ?_
      refine wo_apv rfl rfl rfl rfl rfl ?_
      refine wo_nil ?_
      refine ⟨[_, _, _, _, _, _, _, _, _, _, _, _, _, _, _, _, _, _, _, _], rfl, ?_⟩
      have hge := ubytes_ge (n := v') (by omega)
      refine ⟨[RF 0 [((v' % 128 + 128 : Nat) : Int)], .pv (.int .u64 ((v' / 128 : Nat) : Int)), .any, .any, .any, .any, .any, .any, .any, .any, .any, .any, .any, .any, .any, .any, .any, .any, .any, .any], [RB 5 [((v' % 128 + 128 : Nat) : Int)]], tidy_ren (t' := [_, _, _, _, _, _, _, _, _, _, _, _, _, _, _, _, _, _, _, _]) (order := [1]) (bs := [_]) rfl rfl rfl (by kernel_rfl) (by kernel_rfl) rfl (by kernel_rfl), (ubytes (v' / 128)).length, by rw [hge]; simp, v' / 128, [((v' % 128 + 128 : Nat) : Int)], by omega, rfl, by rw [hub, hge]; rfl, .inr ⟨by simp, rfl, rfl⟩⟩
    ·
      refine wo_nil ?_
      refine ⟨[_, _, _, _, _, _, _, _, _, _, _, _, _, _, _, _, _, _, _, _], rfl, ?_⟩
      refine wp_false rfl ?_
      refine wp_exit ?_
      refine wp_seq ?_
      refine wp_region rfl rfl ?_
      refine wo_mpv rfl rfl rfl rfl rfl ?_
      refine wo_mpv rfl rfl rfl rfl rfl ?_
      refine wo_conv (v := .pv (.int .u8 (v' : Nat))) rfl rfl rfl rfl ((wconv t36 t5 rfl rfl).trans (iV (wrapU8 (by omega) (by omega)))) rfl ?_
      refine wo_buildSlice (H' := [_]) rfl rfl rfl rfl (bs35 _ _) rfl ?_
      refine wo_append (v := RF 1 [(v' : Int)]) (H' := [_, _]) t35 rfl rfl rfl rfl rfl rfl rfl rfl (show _ = some ([(v' : Int)].map rowB) from rfl) (RB.app_nil (e := 5) (a := [(v' : Int)]) t35 rfl t5 rfl rfl (by simp) (by simp)) rfl rfl rfl ?_
      refine wo_assign (v := .ref _ _ _ _ _ _) rfl rfl rfl rfl rfl (fun h => AV.noConfusion h) ?_
      refine wo_nil ?_
      refine ⟨[_, _, _, _, _, _, _, _, _, _, _, _, _, _, _, _, _, _, _, _], rfl, ?_⟩
      refine wp_ret ?_
      have hlt := ubytes_lt (n := v') (by omega)
      refine ⟨trivial, _, rfl, ?_⟩
      rw [hub, hlt]
      exact leave_ren (order := [1]) (bs := [_]) (.inl rfl) rfl (by kernel_rfl) (by kernel_rfl) rfl (by kernel_rfl)
  ·
    have hbl : (ubytes v).length = acc.length + (ubytes v').length := by rw [hub]; simp
    refine wp_seq ?_
    refine wp_seq ?_
    refine wp_region rfl rfl ?_
    refine wo_mpv rfl rfl rfl rfl rfl ?_
    refine wo_bsplit rfl rfl rfl rfl rfl (fun c1_1 => ?_) (fun c1_1 => ?_)
    ·
      refine wo_nil ?_
      refine ⟨[_, _, _, _, _, _, _, _, _, _, _, _, _, _, _, _, _, _, _, _], rfl, ?_⟩
      refine wp_true rfl ?_
      refine wp_skip ?_
      refine wp_block ?_
      refine wp_seq ?_
      refine wp_region rfl rfl ?_
      refine wo_move (v := .ref _ _ _ _ _ _) rfl rfl rfl rfl rfl (fun h => AV.noConfusion h) ?_
      refine wo_mpv rfl rfl rfl rfl rfl ?_
      refine wo_convi t36 t5 rfl rfl rfl rfl rfl rfl ?_
      refine wo_bin (v := .pv (.int .u8 ((v' % 128 + 128 : Nat) : Int))) rfl rfl rfl rfl (iV (by rw [orByte]; omega)) ?_
      refine wo_buildSlice (H' := [_, _]) rfl rfl rfl rfl (bs35 _ _) rfl ?_
      refine wo_append (v := RF 0 (acc ++ [((v' % 128 + 128 : Nat) : Int)])) (H' := [_, _]) t35 rfl rfl rfl rfl rfl rfl rfl rfl (show _ = some ([((v' % 128 + 128 : Nat) : Int)].map rowB) from rfl) (RB.app (e := 5) (a := [((v' % 128 + 128 : Nat) : Int)]) t35 rfl t5 rfl rfl rfl rfl (by simp) (by simp; omega)) rfl rfl rfl ?_
      refine wo_assign (v := .ref _ _ _ _ _ _) rfl rfl rfl rfl rfl (fun h => AV.noConfusion h) ?_
      refine wo_nil ?_
      refine ⟨[_, _, _, _, _, _, _, _, _, _, _, _, _, _, _, _, _, _, _, _], rfl, ?_⟩
      refine wp_region rfl rfl ?_
      refine wo_mpv rfl rfl rfl rfl rfl ?_
      refine wo_bin (v := .pv (.int .u64 ((v' / 128 : Nat) : Int))) rfl rfl rfl rfl ((shr7 _).trans (by rw [show ((v' : Int) / 128) = ((v' / 128 : Nat) : Int) by omega])) ?_
      refine wo_apv rfl rfl rfl rfl rfl ?_
      refine wo_nil ?_
      refine ⟨[_, _, _, _, _, _, _, _, _, _, _, _, _, _, _, _, _, _, _, _], rfl, ?_⟩
      have hge := ubytes_ge (n := v') (by omega)
      refine ⟨[RF 0 (acc ++ [((v' % 128 + 128 : Nat) : Int)]), .pv (.int .u64 ((v' / 128 : Nat) : Int)), .any, .any, .any, .any, .any, .any, .any, .any, .any, .any, .any, .any, .any, .any, .any, .any, .any, .any], [RB 5 (acc ++ [((v' % 128 + 128 : Nat) : Int)])], tidy_ren (t' := [_, _, _, _, _, _, _, _, _, _, _, _, _, _, _, _, _, _, _, _]) (order := [0]) (bs := [_]) rfl rfl rfl (by kernel_rfl) (by kernel_rfl) rfl (by kernel_rfl), (ubytes (v' / 128)).length, by rw [hge]; simp, v' / 128, acc ++ [((v' % 128 + 128 : Nat) : Int)], by omega, rfl, by rw [hub, hge]; simp, .inr ⟨by simp, rfl, rfl⟩⟩
    ·
      refine wo_nil ?_
      refine ⟨[_, _, _, _, _, _, _, _, _, _, _, _, _, _, _, _, _, _, _, _], rfl, ?_⟩
      refine wp_false rfl ?_
      refine wp_exit ?_
      refine wp_seq ?_
      refine wp_region rfl rfl ?_
      refine wo_move (v := .ref _ _ _ _ _ _) rfl rfl rfl rfl rfl (fun h => AV.noConfusion h) ?_
      refine wo_mpv rfl rfl rfl rfl rfl ?_
      refine wo_conv (v := .pv (.int .u8 (v' : Nat))) rfl rfl rfl rfl ((wconv t36 t5 rfl rfl).trans (iV (wrapU8 (by omega) (by omega)))) rfl ?_
      refine wo_buildSlice (H' := [_, _]) rfl rfl rfl rfl (bs35 _ _) rfl ?_
      refine wo_append (v := RF 0 (acc ++ [(v' : Int)])) (H' := [_, _]) t35 rfl rfl rfl rfl rfl rfl rfl rfl (show _ = some ([(v' : Int)].map rowB) from rfl) (RB.app (e := 5) (a := [(v' : Int)]) t35 rfl t5 rfl rfl rfl rfl (by simp) (by simp; omega)) rfl rfl rfl ?_
      refine wo_assign (v := .ref _ _ _ _ _ _) rfl rfl rfl rfl rfl (fun h => AV.noConfusion h) ?_
      refine wo_nil ?_
      refine ⟨[_, _, _, _, _, _, _, _, _, _, _, _, _, _, _, _, _, _, _, _], rfl, ?_⟩
      refine wp_ret ?_
      have hlt := ubytes_lt (n := v') (by omega)
      refine ⟨trivial, _, rfl, ?_⟩
      rw [hub, hlt]
      exact leave_ren (order := [0]) (bs := [_]) (.inl rfl) rfl (by kernel_rfl) (by kernel_rfl) rfl (by kernel_rfl)
theorem putUint_rf {v : Nat} (hv : v < 2 ^ 64) {l : List Int} (hl : l.length ≤ 100000) (N : Nat) (hN : 12 ≤ N) : call G N 21 [RF 0 l, .pv (.int .u64 v)] [RB 5 l] = some (.ret (RF 0 (l ++ ubytes v)), [RB 5 (l ++ ubytes v)]) := by
  have h := putUint_ref v (by omega) ⟨l.map rowB, 0, 0, 0, 0⟩ 0 l.length (by have := canGrow_new (rows := l.map rowB); rwa [List.length_map] at this) (by omega) N hN
  have e1 : Go.Ab.grow (⟨l.map rowB, 0, 0, 0, 0⟩ : Row) 0 l.length ((ubytes v).map rowB) = (⟨(l ++ ubytes v).map rowB, 0, 0, 0, 0⟩, 0) := by
    simp [Go.Ab.grow]
  rw [e1] at h
  simpa [RF, RB] using h

/-- What a number with a sign is put as. -/
def zz (i : Int) : Nat := if i < 0 then (-2 * i - 1).toNat else (2 * i).toNat
theorem shl1z {i : Int} (h1 : -9223372036854775808 ≤ i) (h2 : i < 9223372036854775808) : shiftBin .shl .u64 (IntKind.u64.wrap i) 1 = some (.pv (.int .u64 ((2 * i) % 18446744073709551616))) := by
  unfold shiftBin
  rw [if_neg (by omega)]
  have e2 : min (1 : Int).toNat IntKind.u64.bits = 1 := by decide
  simp only [e2]
  have e3 : IntKind.u64.wrap (IntKind.u64.wrap i * 2 ^ 1) = (2 * i) % 18446744073709551616 := by simp [IntKind.wrap, IntKind.signed, IntKind.bits]; omega
  rw [e3]
theorem zz_lt {i : Int} (h1 : -9223372036854775808 ≤ i) (h2 : i < 9223372036854775808) : zz i < 2 ^ 64 := by unfold zz; split <;> omega
theorem putInt_nil {i : Int} (h1 : -9223372036854775808 ≤ i) (h2 : i < 9223372036854775808) (N : Nat) (hN : 13 ≤ N) : call G N 23 [.pv .nils, .pv (.int .i64 i)] [] = some (.ret (RF 0 (ubytes (zz i))), [RB 5 (ubytes (zz i))]) := by
  obtain ⟨N, rfl⟩ : ∃ M, N = M + 1 := ⟨N - 1, by omega⟩
  refine call_eq func23 rfl (show _ = [_, _, _, _, _, _, _, _, _, _, _, _, _, _, _, _] from rfl) ?_
  refine wp_seq ?_
  refine wp_region rfl rfl ?_
  refine wo_apv rfl rfl rfl rfl rfl ?_
  refine wo_nil ?_
  refine ⟨[_, _, _, _, _, _, _, _, _, _, _, _, _, _, _, _], rfl, ?_⟩
  refine wp_seq ?_
  refine wp_region rfl rfl ?_
  refine wo_mpv rfl rfl rfl rfl rfl ?_
  refine wo_convi t2 t36 rfl rfl rfl rfl rfl rfl ?_
  refine wo_bin (v := .pv (.int .u64 ((2 * i) % 18446744073709551616))) rfl rfl rfl rfl (shl1z h1 h2) ?_
  refine wo_apv rfl rfl rfl rfl rfl ?_
  refine wo_nil ?_
  refine ⟨[_, _, _, _, _, _, _, _, _, _, _, _, _, _, _, _], rfl, ?_⟩
  refine wp_seq ?_
  refine wp_seq ?_
  refine wp_region rfl rfl ?_
  refine wo_mpv rfl rfl rfl rfl rfl ?_
  refine wo_bsplit rfl rfl rfl rfl rfl (fun c2_1 => ?_) (fun c2_1 => ?_)
  ·
    refine wo_nil ?_
    refine ⟨[_, _, _, _, _, _, _, _, _, _, _, _, _, _, _, _], rfl, ?_⟩
    refine wp_true rfl ?_
    refine wp_region rfl rfl ?_
    refine wo_mpv rfl rfl rfl rfl rfl ?_
    refine wo_un (v := .pv (.int .u64 (zz i : Nat))) rfl rfl rfl rfl (iV (by rw [show (2 * i) % 18446744073709551616 = ((((2 * i) % 18446744073709551616).toNat : Nat) : Int) by omega, notU (by omega)]; unfold zz; rw [if_pos (by omega)]; omega)) ?_
    refine wo_apv rfl rfl rfl rfl rfl ?_
    refine wo_nil ?_
    refine ⟨[_, _, _, _, _, _, _, _, _, _, _, _, _, _, _, _], rfl, ?_⟩
    refine wp_seq ?_
    refine wp_region rfl rfl ?_
    refine wo_mpv rfl rfl rfl rfl rfl ?_
    refine wo_mpv rfl rfl rfl rfl rfl ?_
    refine wo_call (v := RF 0 (ubytes (zz i))) (H' := [_]) rfl rfl rfl rfl rfl rfl ((cl21 _ _ _ _).trans (callRef_new rfl row_ren (putUint_nil (zz_lt h1 h2) N (by omega)))) rfl rfl rfl ?_
    refine wo_assign (v := .ref _ _ _ _ _ _) rfl rfl rfl rfl rfl (fun h => AV.noConfusion h) ?_
    refine wo_nil ?_
    refine ⟨[_, _, _, _, _, _, _, _, _, _, _, _, _, _, _, _], rfl, ?_⟩
    refine wp_ret ?_
    exact ⟨trivial, _, rfl, leave_new (.inl rfl) rfl rfl⟩
  ·
    refine wo_nil ?_
    refine ⟨[_, _, _, _, _, _, _, _, _, _, _, _, _, _, _, _], rfl, ?_⟩
    refine wp_false rfl ?_
    refine wp_skip ?_
    refine wp_seq ?_
    refine wp_region rfl rfl ?_
    refine wo_mpv rfl rfl rfl rfl rfl ?_
    refine wo_mpv rfl rfl rfl rfl rfl ?_
    refine wo_call (v := RF 0 (ubytes (zz i))) (H' := [_]) rfl rfl rfl rfl rfl rfl ((cl21 _ _ _ _).trans (callRef_new rfl row_ren (((congrArg (fun x => call G N 21 [.pv .nils, .pv (.int .u64 x)] []) (show (2 * i) % 18446744073709551616 = (zz i : Nat) by unfold zz; rw [if_neg (by omega)]; omega)).trans (putUint_nil (zz_lt h1 h2) N (by omega)))))) rfl rfl rfl ?_
    refine wo_assign (v := .ref _ _ _ _ _ _) rfl rfl rfl rfl rfl (fun h => AV.noConfusion h) ?_
    refine wo_nil ?_
    refine ⟨[_, _, _, _, _, _, _, _, _, _, _, _, _, _, _, _], rfl, ?_⟩
    refine wp_ret ?_
    exact ⟨trivial, _, rfl, leave_new (.inl rfl) rfl rfl⟩
theorem putInt_rf {i : Int} (h1 : -9223372036854775808 ≤ i) (h2 : i < 9223372036854775808) {l : List Int} (hl : l.length ≤ 100000) (N : Nat) (hN : 13 ≤ N) : call G N 23 [RF 0 l, .pv (.int .i64 i)] [RB 5 l] = some (.ret (RF 0 (l ++ ubytes (zz i))), [RB 5 (l ++ ubytes (zz i))]) := by
  obtain ⟨N, rfl⟩ : ∃ M, N = M + 1 := ⟨N - 1, by omega⟩
  refine call_eq func23 rfl (show _ = [_, _, _, _, _, _, _, _, _, _, _, _, _, _, _, _] from rfl) ?_
  refine wp_seq ?_
  refine wp_region rfl rfl ?_
  refine wo_apv rfl rfl rfl rfl rfl ?_
  refine wo_nil ?_
  refine ⟨[_, _, _, _, _, _, _, _, _, _, _, _, _, _, _, _], rfl, ?_⟩
  refine wp_seq ?_
  refine wp_region rfl rfl ?_
  refine wo_mpv rfl rfl rfl rfl rfl ?_
  refine wo_convi t2 t36 rfl rfl rfl rfl rfl rfl ?_
  refine wo_bin (v := .pv (.int .u64 ((2 * i) % 18446744073709551616))) rfl rfl rfl rfl (shl1z h1 h2) ?_
  refine wo_apv rfl rfl rfl rfl rfl ?_
  refine wo_nil ?_
  refine ⟨[_, _, _, _, _, _, _, _, _, _, _, _, _, _, _, _], rfl, ?_⟩
  refine wp_seq ?_
  refine wp_seq ?_
  refine wp_region rfl rfl ?_
  refine wo_mpv rfl rfl rfl rfl rfl ?_
  refine wo_bsplit rfl rfl rfl rfl rfl (fun c2_1 => ?_) (fun c2_1 => ?_)
  ·
    refine wo_nil ?_
    refine ⟨[_, _, _, _, _, _, _, _, _, _, _, _, _, _, _, _], rfl, ?_⟩
    refine wp_true rfl ?_
    refine wp_region rfl rfl ?_
    refine wo_mpv rfl rfl rfl rfl rfl ?_
    refine wo_un (v := .pv (.int .u64 (zz i : Nat))) rfl rfl rfl rfl (iV (by rw [show (2 * i) % 18446744073709551616 = ((((2 * i) % 18446744073709551616).toNat : Nat) : Int) by omega, notU (by omega)]; unfold zz; rw [if_pos (by omega)]; omega)) ?_
    refine wo_apv rfl rfl rfl rfl rfl ?_
    refine wo_nil ?_
    refine ⟨[_, _, _, _, _, _, _, _, _, _, _, _, _, _, _, _], rfl, ?_⟩
    refine wp_seq ?_
    refine wp_region rfl rfl ?_
    refine wo_move (v := .ref _ _ _ _ _ _) rfl rfl rfl rfl rfl (fun h => AV.noConfusion h) ?_
    refine wo_mpv rfl rfl rfl rfl rfl ?_
    refine wo_call (v := RF 0 (l ++ ubytes (zz i))) (H' := [_]) rfl rfl rfl rfl rfl rfl ((cl21 _ _ _ _).trans (callRef_row rfl rfl rfl row_ren row_ren (putUint_rf (zz_lt h1 h2) hl N (by omega)))) rfl rfl rfl ?_
    refine wo_assign (v := .ref _ _ _ _ _ _) rfl rfl rfl rfl rfl (fun h => AV.noConfusion h) ?_
    refine wo_nil ?_
    refine ⟨[_, _, _, _, _, _, _, _, _, _, _, _, _, _, _, _], rfl, ?_⟩
    refine wp_ret ?_
    exact ⟨trivial, _, rfl, leave_same (.inl rfl) rfl⟩
  ·
    refine wo_nil ?_
    refine ⟨[_, _, _, _, _, _, _, _, _, _, _, _, _, _, _, _], rfl, ?_⟩
    refine wp_false rfl ?_
    refine wp_skip ?_
    refine wp_seq ?_
    refine wp_region rfl rfl ?_
    refine wo_move (v := .ref _ _ _ _ _ _) rfl rfl rfl rfl rfl (fun h => AV.noConfusion h) ?_
    refine wo_mpv rfl rfl rfl rfl rfl ?_
    refine wo_call (v := RF 0 (l ++ ubytes (zz i))) (H' := [_]) rfl rfl rfl rfl rfl rfl ((cl21 _ _ _ _).trans (callRef_row rfl rfl rfl row_ren row_ren (((congrArg (fun x => call G N 21 [RF 0 l, .pv (.int .u64 x)] [RB 5 l]) (show (2 * i) % 18446744073709551616 = (zz i : Nat) by unfold zz; rw [if_neg (by omega)]; omega)).trans (putUint_rf (zz_lt h1 h2) hl N (by omega)))))) rfl rfl rfl ?_
    refine wo_assign (v := .ref _ _ _ _ _ _) rfl rfl rfl rfl rfl (fun h => AV.noConfusion h) ?_
    refine wo_nil ?_
    refine ⟨[_, _, _, _, _, _, _, _, _, _, _, _, _, _, _, _], rfl, ?_⟩
    refine wp_ret ?_
    exact ⟨trivial, _, rfl, leave_same (.inl rfl) rfl⟩
theorem putText_nil {s : ByteArray} (hs : s.size ≤ 2000) (N : Nat) (hN : 13 ≤ N) : call G N 25 [.pv .nils, .pv (.str s)] [] = some (.ret (RF 0 (ubytes s.size ++ bytesL s)), [RB 5 (ubytes s.size ++ bytesL s)]) := by
  obtain ⟨N, rfl⟩ : ∃ M, N = M + 1 := ⟨N - 1, by omega⟩
  have hub := ubytes_len (v := s.size) (by omega)
  have hbl := bytesL_length s
  refine call_eq func25 rfl (show _ = [_, _, _, _, _, _, _, _, _, _, _, _] from rfl) ?_
  refine wp_seq ?_
  refine wp_region rfl rfl ?_
  refine wo_apv rfl rfl rfl rfl rfl ?_
  refine wo_nil ?_
  refine ⟨[_, _, _, _, _, _, _, _, _, _, _, _], rfl, ?_⟩
  refine wp_seq ?_
  refine wp_region rfl rfl ?_
  refine wo_mpv rfl rfl rfl rfl rfl ?_
  refine wo_mpv rfl rfl rfl rfl rfl ?_
  refine wo_len t9 rfl rfl rfl rfl rfl rfl rfl rfl rfl ?_
  refine wo_conv (v := .pv (.int .u64 (s.size : Nat))) rfl rfl rfl rfl ((wconv t3 t36 rfl rfl).trans (iV (wrapU64 (by omega) (by omega)))) rfl ?_
  refine wo_call (v := RF 0 (ubytes s.size)) (H' := [_]) rfl rfl rfl rfl rfl rfl ((cl21 _ _ _ _).trans (callRef_new rfl row_ren (putUint_nil (v := s.size) (by omega) N (by omega)))) rfl rfl rfl ?_
  refine wo_mpv rfl rfl rfl rfl rfl ?_
  by_cases hz : bytesL s = []
  ·
    refine wo_append (v := RF 0 (ubytes s.size)) (H' := [_]) t9 rfl rfl rfl rfl rfl rfl rfl rfl (show _ = some [] from (congrArg some (by rw [Go.Ab.rowsOfBytes_eq, hz]; rfl))) (RB.app0 (e := 5) t35 rfl t5 rfl rfl rfl rfl (by first | omega | (simp only [List.length_append]; omega))) rfl rfl rfl ?_
    refine wo_assign (v := .ref _ _ _ _ _ _) rfl rfl rfl rfl rfl (fun h => AV.noConfusion h) ?_
    refine wo_nil ?_
    refine ⟨[_, _, _, _, _, _, _, _, _, _, _, _], rfl, ?_⟩
    refine wp_ret ?_
    exact ⟨trivial, _, rfl, by first | exact leave_new (.inl rfl) rfl rfl | (rw [hz, List.append_nil]; exact leave_new (.inl rfl) rfl rfl)⟩
  ·
    refine wo_append (v := RF 0 (ubytes s.size ++ bytesL s)) (H' := [_]) t9 rfl rfl rfl rfl rfl rfl rfl rfl (show _ = some ((bytesL s).map rowB) from congrArg some (Go.Ab.rowsOfBytes_eq s)) (RB.app (e := 5) (a := bytesL s) t35 rfl t5 rfl rfl rfl rfl hz (by first | omega | (simp only [List.length_append]; omega))) rfl rfl rfl ?_
    refine wo_assign (v := .ref _ _ _ _ _ _) rfl rfl rfl rfl rfl (fun h => AV.noConfusion h) ?_
    refine wo_nil ?_
    refine ⟨[_, _, _, _, _, _, _, _, _, _, _, _], rfl, ?_⟩
    refine wp_ret ?_
    exact ⟨trivial, _, rfl, by first | exact leave_new (.inl rfl) rfl rfl | (rw [hz, List.append_nil]; exact leave_new (.inl rfl) rfl rfl)⟩
theorem putText_rf {s : ByteArray} (hs : s.size ≤ 2000) {l : List Int} (hl : l.length ≤ 10000) (N : Nat) (hN : 13 ≤ N) : call G N 25 [RF 0 l, .pv (.str s)] [RB 5 l] = some (.ret (RF 0 (l ++ (ubytes s.size ++ bytesL s))), [RB 5 (l ++ (ubytes s.size ++ bytesL s))]) := by
  obtain ⟨N, rfl⟩ : ∃ M, N = M + 1 := ⟨N - 1, by omega⟩
  have hub := ubytes_len (v := s.size) (by omega)
  have hbl := bytesL_length s
  have hass : l ++ (ubytes s.size ++ bytesL s) = (l ++ ubytes s.size) ++ bytesL s := by simp
  rw [hass]
  refine call_eq func25 rfl (show _ = [_, _, _, _, _, _, _, _, _, _, _, _] from rfl) ?_
  refine wp_seq ?_
  refine wp_region rfl rfl ?_
  refine wo_apv rfl rfl rfl rfl rfl ?_
  refine wo_nil ?_
  refine ⟨[_, _, _, _, _, _, _, _, _, _, _, _], rfl, ?_⟩
  refine wp_seq ?_
  refine wp_region rfl rfl ?_
  refine wo_move (v := .ref _ _ _ _ _ _) rfl rfl rfl rfl rfl (fun h => AV.noConfusion h) ?_
  refine wo_mpv rfl rfl rfl rfl rfl ?_
  refine wo_len t9 rfl rfl rfl rfl rfl rfl rfl rfl rfl ?_
  refine wo_conv (v := .pv (.int .u64 (s.size : Nat))) rfl rfl rfl rfl ((wconv t3 t36 rfl rfl).trans (iV (wrapU64 (by omega) (by omega)))) rfl ?_
  refine wo_call (v := RF 0 ((l ++ ubytes s.size))) (H' := [_]) rfl rfl rfl rfl rfl rfl ((cl21 _ _ _ _).trans (callRef_row rfl rfl rfl row_ren row_ren (putUint_rf (v := s.size) (by omega) (by omega) N (by omega)))) rfl rfl rfl ?_
  refine wo_mpv rfl rfl rfl rfl rfl ?_
  by_cases hz : bytesL s = []
  ·
    refine wo_append (v := RF 0 ((l ++ ubytes s.size))) (H' := [_]) t9 rfl rfl rfl rfl rfl rfl rfl rfl (show _ = some [] from (congrArg some (by rw [Go.Ab.rowsOfBytes_eq, hz]; rfl))) (RB.app0 (e := 5) t35 rfl t5 rfl rfl rfl rfl (by first | omega | (simp only [List.length_append]; omega))) rfl rfl rfl ?_
    refine wo_assign (v := .ref _ _ _ _ _ _) rfl rfl rfl rfl rfl (fun h => AV.noConfusion h) ?_
    refine wo_nil ?_
    refine ⟨[_, _, _, _, _, _, _, _, _, _, _, _], rfl, ?_⟩
    refine wp_ret ?_
    exact ⟨trivial, _, rfl, by first | exact leave_same (.inl rfl) rfl | (rw [hz, List.append_nil]; exact leave_same (.inl rfl) rfl)⟩
  ·
    refine wo_append (v := RF 0 ((l ++ ubytes s.size) ++ bytesL s)) (H' := [_]) t9 rfl rfl rfl rfl rfl rfl rfl rfl (show _ = some ((bytesL s).map rowB) from congrArg some (Go.Ab.rowsOfBytes_eq s)) (RB.app (e := 5) (a := bytesL s) t35 rfl t5 rfl rfl rfl rfl hz (by first | omega | (simp only [List.length_append]; omega))) rfl rfl rfl ?_
    refine wo_assign (v := .ref _ _ _ _ _ _) rfl rfl rfl rfl rfl (fun h => AV.noConfusion h) ?_
    refine wo_nil ?_
    refine ⟨[_, _, _, _, _, _, _, _, _, _, _, _], rfl, ?_⟩
    refine wp_ret ?_
    exact ⟨trivial, _, rfl, by first | exact leave_same (.inl rfl) rfl | (rw [hz, List.append_nil]; exact leave_same (.inl rfl) rfl)⟩
end Go.Ab.Ytknmgphnkfeifaa
