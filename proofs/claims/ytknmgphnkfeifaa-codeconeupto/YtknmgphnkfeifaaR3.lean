import Derived.Test.YtknmgphnkfeifaaR2
namespace Go.Ab.Ytknmgphnkfeifaa
open Go Go.Ab
open Go.Proofs.Try
set_option maxRecDepth 100000
set_option linter.unusedSimpArgs false
set_option linter.unusedVariables false

theorem err_ok (p : PV) (e : Int) (N : Nat) (hN : 1 ≤ N) : call G N 34 [.ptr 0 0] [.box (bx p e) false] = some (.ret (.pv (.int .i64 e)), [.box (bx p e) false]) := by
  obtain ⟨N, rfl⟩ : ∃ M, N = M + 1 := ⟨N - 1, by omega⟩
  refine call_eq func34 rfl (show _ = [_, _, _, _, _, _, _, _, _, _, _, _, _, _, _, _] from rfl) ?_
  refine wp_seq ?_
  refine wp_region rfl rfl ?_
  refine wo_apv rfl rfl rfl rfl rfl ?_
  refine wo_nil ?_
  refine ⟨[_, _, _, _, _, _, _, _, _, _, _, _, _, _, _, _], rfl, ?_⟩
  refine wp_seq ?_
  refine wp_seq ?_
  refine wp_region rfl rfl ?_
  refine wo_move (v := .ptr _ _) rfl rfl rfl rfl rfl (fun h => AV.noConfusion h) ?_
  refine wo_bint t49 rfl rfl rfl rfl rfl ?_
  refine wo_mpv rfl rfl rfl rfl rfl ?_
  refine wo_move (v := .ptr _ _) rfl rfl rfl rfl rfl (fun h => AV.noConfusion h) ?_
  refine wo_nilCheck (v := .ptr _ _) rfl rfl rfl rfl rfl rfl ?_
  refine wo_faddr t61 t4 rfl rfl rfl rfl rfl rfl rfl ?_
  refine wo_load t4 rfl rfl rfl rfl rfl rfl ?_
  refine wo_un rfl rfl rfl rfl rfl ?_
  refine wo_pick (v := .pv _) rfl rfl rfl rfl rfl rfl ?_
  refine wo_nil ?_
  refine ⟨[_, _, _, _, _, _, _, _, _, _, _, _, _, _, _, _], rfl, ?_⟩
  refine wp_false rfl ?_
  refine wp_skip ?_
  refine wp_seq ?_
  refine wp_region rfl rfl ?_
  refine wo_move (v := .ptr _ _) rfl rfl rfl rfl rfl (fun h => AV.noConfusion h) ?_
  refine wo_nilCheck (v := .ptr _ _) rfl rfl rfl rfl rfl rfl ?_
  refine wo_faddr t61 t28 rfl rfl rfl rfl rfl rfl rfl ?_
  refine wo_load t28 rfl rfl rfl rfl rfl rfl ?_
  refine wo_apv rfl rfl rfl rfl rfl ?_
  refine wo_nil ?_
  refine ⟨[_, _, _, _, _, _, _, _, _, _, _, _, _, _, _, _], rfl, ?_⟩
  refine wp_ret ?_
  exact ⟨trivial, _, rfl, leave_same (.inl rfl) rfl⟩
theorem left_ok {p : PV} {l : List Int} (hp : SL p l) (N : Nat) (hN : 2 ≤ N) : call G N 36 [.ptr 0 0] [.box (bx p 0) false] = some (.ret (.pv (.int .i64 l.length)), [.box (bx p 0) false]) := by
  obtain ⟨N, rfl⟩ : ∃ M, N = M + 1 := ⟨N - 1, by omega⟩
  refine call_eq func36 rfl (show _ = [_, _, _, _, _, _, _, _, _, _, _] from rfl) ?_
  refine wp_seq ?_
  refine wp_region rfl rfl ?_
  refine wo_apv rfl rfl rfl rfl rfl ?_
  refine wo_nil ?_
  refine ⟨[_, _, _, _, _, _, _, _, _, _, _], rfl, ?_⟩
  refine wp_seq ?_
  refine wp_seq ?_
  refine wp_region rfl rfl ?_
  refine wo_move (v := .ptr _ _) rfl rfl rfl rfl rfl (fun h => AV.noConfusion h) ?_
  refine wo_call (v := .pv (.bool true)) (H' := [_]) rfl rfl rfl rfl rfl rfl ((cl52 _ _ _ _).trans (callRef_box rfl rfl rfl rfl rfl (ready_ok _ 0 _ (by omega)))) rfl rfl rfl ?_
  refine wo_un rfl rfl rfl rfl rfl ?_
  refine wo_nil ?_
  refine ⟨[_, _, _, _, _, _, _, _, _, _, _], rfl, ?_⟩
  refine wp_false rfl ?_
  refine wp_skip ?_
  refine wp_seq ?_
  refine wp_region rfl rfl ?_
  refine wo_move (v := .ptr _ _) rfl rfl rfl rfl rfl (fun h => AV.noConfusion h) ?_
  refine wo_nilCheck (v := .ptr _ _) rfl rfl rfl rfl rfl rfl ?_
  refine wo_faddr t61 t35 rfl rfl rfl rfl rfl rfl rfl ?_
  refine wo_load t35 rfl rfl rfl rfl rfl rfl ?_
  refine wo_len (ln := l.length) t35 rfl rfl rfl rfl rfl rfl rfl (hp.len 5) rfl ?_
  refine wo_apv rfl rfl rfl rfl rfl ?_
  refine wo_nil ?_
  refine ⟨[_, _, _, _, _, _, _, _, _, _, _], rfl, ?_⟩
  refine wp_ret ?_
  exact ⟨trivial, _, rfl, leave_same (.inl rfl) rfl⟩
theorem ready_err {p : PV} {e : Int} (he : e ≠ 0) (N : Nat) (hN : 1 ≤ N) : call G N 52 [.ptr 0 0] [.box (bx p e) false] = some (.ret (.pv (.bool false)), [.box (bx p e) false]) := by
  rw [ready_ok p e N hN, show (e == 0) = false by simpa using he]
theorem left_err (p : PV) {e : Int} (he : e ≠ 0) (N : Nat) (hN : 2 ≤ N) : call G N 36 [.ptr 0 0] [.box (bx p e) false] = some (.ret (.pv (.int .i64 0)), [.box (bx p e) false]) := by
  obtain ⟨N, rfl⟩ : ∃ M, N = M + 1 := ⟨N - 1, by omega⟩
  refine call_eq func36 rfl (show _ = [_, _, _, _, _, _, _, _, _, _, _] from rfl) ?_
  refine wp_seq ?_
  refine wp_region rfl rfl ?_
  refine wo_apv rfl rfl rfl rfl rfl ?_
  refine wo_nil ?_
  refine ⟨[_, _, _, _, _, _, _, _, _, _, _], rfl, ?_⟩
  refine wp_seq ?_
  refine wp_seq ?_
  refine wp_region rfl rfl ?_
  refine wo_move (v := .ptr _ _) rfl rfl rfl rfl rfl (fun h => AV.noConfusion h) ?_
  refine wo_call (v := .pv (.bool false)) (H' := [_]) rfl rfl rfl rfl rfl rfl ((cl52 _ _ _ _).trans (callRef_box rfl rfl rfl rfl rfl (ready_err he _ (by omega)))) rfl rfl rfl ?_
  refine wo_un rfl rfl rfl rfl rfl ?_
  refine wo_nil ?_
  refine ⟨[_, _, _, _, _, _, _, _, _, _, _], rfl, ?_⟩
  refine wp_true rfl ?_
  refine wp_seq ?_
  refine wp_region rfl rfl ?_
  refine wo_apv rfl rfl rfl rfl rfl ?_
  refine wo_nil ?_
  refine ⟨[_, _, _, _, _, _, _, _, _, _, _], rfl, ?_⟩
  refine wp_ret ?_
  exact ⟨trivial, _, rfl, leave_same (.inl rfl) rfl⟩
theorem end_err (p : PV) {e : Int} (he : e ≠ 0) (N : Nat) (hN : 2 ≤ N) : call G N 38 [.ptr 0 0] [.box (bx p e) false] = some (.ret (.pv (.int .i64 e)), [.box (bx p e) false]) := by
  obtain ⟨N, rfl⟩ : ∃ M, N = M + 1 := ⟨N - 1, by omega⟩
  refine call_eq func38 rfl (show _ = [_, _, _, _, _, _, _, _, _, _, _, _, _, _, _] from rfl) ?_
  refine wp_seq ?_
  refine wp_region rfl rfl ?_
  refine wo_apv rfl rfl rfl rfl rfl ?_
  refine wo_nil ?_
  refine ⟨[_, _, _, _, _, _, _, _, _, _, _, _, _, _, _], rfl, ?_⟩
  refine wp_seq ?_
  refine wp_seq ?_
  refine wp_region rfl rfl ?_
  refine wo_move (v := .ptr _ _) rfl rfl rfl rfl rfl (fun h => AV.noConfusion h) ?_
  refine wo_call (v := .pv _) (H' := [_]) rfl rfl rfl rfl rfl rfl ((cl34 _ _ _ _).trans (callRef_box rfl rfl rfl rfl rfl (err_ok _ _ _ (by omega)))) rfl rfl rfl ?_
  refine wo_apv rfl rfl rfl rfl rfl ?_
  refine wo_nil ?_
  refine ⟨[_, _, _, _, _, _, _, _, _, _, _, _, _, _, _], rfl, ?_⟩
  refine wp_seq ?_
  refine wp_region rfl rfl ?_
  refine wo_mpv rfl rfl rfl rfl rfl ?_
  refine wo_bin (v := .pv (.bool true)) rfl rfl rfl rfl (nT he) ?_
  refine wo_nil ?_
  refine ⟨[_, _, _, _, _, _, _, _, _, _, _, _, _, _, _], rfl, ?_⟩
  refine wp_true rfl ?_
  refine wp_seq ?_
  refine wp_region rfl rfl ?_
  refine wo_mpv rfl rfl rfl rfl rfl ?_
  refine wo_apv rfl rfl rfl rfl rfl ?_
  refine wo_nil ?_
  refine ⟨[_, _, _, _, _, _, _, _, _, _, _, _, _, _, _], rfl, ?_⟩
  refine wp_ret ?_
  exact ⟨trivial, _, rfl, leave_same (.inl rfl) rfl⟩
theorem end_some {p : PV} {l : List Int} (hp : SL p l) (hl : 0 < l.length) (N : Nat) (hN : 2 ≤ N) : call G N 38 [.ptr 0 0] [.box (bx p 0) false] = some (.ret (.pv (.int .i64 22)), [.box (bx p 0) false]) := by
  obtain ⟨N, rfl⟩ : ∃ M, N = M + 1 := ⟨N - 1, by omega⟩
  refine call_eq func38 rfl (show _ = [_, _, _, _, _, _, _, _, _, _, _, _, _, _, _] from rfl) ?_
  refine wp_seq ?_
  refine wp_region rfl rfl ?_
  refine wo_apv rfl rfl rfl rfl rfl ?_
  refine wo_nil ?_
  refine ⟨[_, _, _, _, _, _, _, _, _, _, _, _, _, _, _], rfl, ?_⟩
  refine wp_seq ?_
  refine wp_seq ?_
  refine wp_region rfl rfl ?_
  refine wo_move (v := .ptr _ _) rfl rfl rfl rfl rfl (fun h => AV.noConfusion h) ?_
  refine wo_call (v := .pv _) (H' := [_]) rfl rfl rfl rfl rfl rfl ((cl34 _ _ _ _).trans (callRef_box rfl rfl rfl rfl rfl (err_ok _ _ _ (by omega)))) rfl rfl rfl ?_
  refine wo_apv rfl rfl rfl rfl rfl ?_
  refine wo_nil ?_
  refine ⟨[_, _, _, _, _, _, _, _, _, _, _, _, _, _, _], rfl, ?_⟩
  refine wp_seq ?_
  refine wp_region rfl rfl ?_
  refine wo_mpv rfl rfl rfl rfl rfl ?_
  refine wo_bin (v := .pv (.bool false)) rfl rfl rfl rfl (nF rfl) ?_
  refine wo_nil ?_
  refine ⟨[_, _, _, _, _, _, _, _, _, _, _, _, _, _, _], rfl, ?_⟩
  refine wp_false rfl ?_
  refine wp_skip ?_
  refine wp_seq ?_
  refine wp_seq ?_
  refine wp_region rfl rfl ?_
  refine wo_move (v := .ptr _ _) rfl rfl rfl rfl rfl (fun h => AV.noConfusion h) ?_
  refine wo_nilCheck (v := .ptr _ _) rfl rfl rfl rfl rfl rfl ?_
  refine wo_faddr t61 t35 rfl rfl rfl rfl rfl rfl rfl ?_
  refine wo_load t35 rfl rfl rfl rfl rfl rfl ?_
  refine wo_len (ln := l.length) t35 rfl rfl rfl rfl rfl rfl rfl (hp.len 5) rfl ?_
  refine wo_bin (v := .pv (.bool true)) rfl rfl rfl rfl (bT (by omega)) ?_
  refine wo_nil ?_
  refine ⟨[_, _, _, _, _, _, _, _, _, _, _, _, _, _, _], rfl, ?_⟩
  refine wp_true rfl ?_
  refine wp_seq ?_
  refine wp_region rfl rfl ?_
  refine wo_apv rfl rfl rfl rfl rfl ?_
  refine wo_nil ?_
  refine ⟨[_, _, _, _, _, _, _, _, _, _, _, _, _, _, _], rfl, ?_⟩
  refine wp_ret ?_
  exact ⟨trivial, _, rfl, leave_same (.inl rfl) rfl⟩
theorem end_ok {p : PV} (hp : SL p []) (N : Nat) (hN : 2 ≤ N) : call G N 38 [.ptr 0 0] [.box (bx p 0) false] = some (.ret (.pv (.int .i64 0)), [.box (bx p 0) false]) := by
  obtain ⟨N, rfl⟩ : ∃ M, N = M + 1 := ⟨N - 1, by omega⟩
  refine call_eq func38 rfl (show _ = [_, _, _, _, _, _, _, _, _, _, _, _, _, _, _] from rfl) ?_
  refine wp_seq ?_
  refine wp_region rfl rfl ?_
  refine wo_apv rfl rfl rfl rfl rfl ?_
  refine wo_nil ?_
  refine ⟨[_, _, _, _, _, _, _, _, _, _, _, _, _, _, _], rfl, ?_⟩
  refine wp_seq ?_
  refine wp_seq ?_
  refine wp_region rfl rfl ?_
  refine wo_move (v := .ptr _ _) rfl rfl rfl rfl rfl (fun h => AV.noConfusion h) ?_
  refine wo_call (v := .pv _) (H' := [_]) rfl rfl rfl rfl rfl rfl ((cl34 _ _ _ _).trans (callRef_box rfl rfl rfl rfl rfl (err_ok _ _ _ (by omega)))) rfl rfl rfl ?_
  refine wo_apv rfl rfl rfl rfl rfl ?_
  refine wo_nil ?_
  refine ⟨[_, _, _, _, _, _, _, _, _, _, _, _, _, _, _], rfl, ?_⟩
  refine wp_seq ?_
  refine wp_region rfl rfl ?_
  refine wo_mpv rfl rfl rfl rfl rfl ?_
  refine wo_bin (v := .pv (.bool false)) rfl rfl rfl rfl (nF rfl) ?_
  refine wo_nil ?_
  refine ⟨[_, _, _, _, _, _, _, _, _, _, _, _, _, _, _], rfl, ?_⟩
  refine wp_false rfl ?_
  refine wp_skip ?_
  refine wp_seq ?_
  refine wp_seq ?_
  refine wp_region rfl rfl ?_
  refine wo_move (v := .ptr _ _) rfl rfl rfl rfl rfl (fun h => AV.noConfusion h) ?_
  refine wo_nilCheck (v := .ptr _ _) rfl rfl rfl rfl rfl rfl ?_
  refine wo_faddr t61 t35 rfl rfl rfl rfl rfl rfl rfl ?_
  refine wo_load t35 rfl rfl rfl rfl rfl rfl ?_
  refine wo_len (ln := 0) t35 rfl rfl rfl rfl rfl rfl rfl (hp.len 5) rfl ?_
  refine wo_bin (v := .pv (.bool false)) rfl rfl rfl rfl (bF (by decide)) ?_
  refine wo_nil ?_
  refine ⟨[_, _, _, _, _, _, _, _, _, _, _, _, _, _, _], rfl, ?_⟩
  refine wp_false rfl ?_
  refine wp_skip ?_
  refine wp_seq ?_
  refine wp_region rfl rfl ?_
  refine wo_apv rfl rfl rfl rfl rfl ?_
  refine wo_nil ?_
  refine ⟨[_, _, _, _, _, _, _, _, _, _, _, _, _, _, _], rfl, ?_⟩
  refine wp_ret ?_
  exact ⟨trivial, _, rfl, leave_same (.inl rfl) rfl⟩

/-- What Uint tells. -/
def UOut (x : Option (Nat × List Int)) (most : Int) (v : AV) (H : List Blk) : Prop :=
  match x with
  | some (n, rest) => if (n : Int) > most then v = .pv (.int .u64 0) ∧ H = [.box (bx .nils 3) false] else ∃ r, SL r rest ∧ v = .pv (.int .u64 n) ∧ H = [.box (bx r 0) false]
  | none => ∃ e', e' ≠ 0 ∧ v = .pv (.int .u64 0) ∧ H = [.box (bx .nils e') false]
theorem UOut.big {n : Nat} {rest : List Int} {most : Int} (h : (n : Int) > most) : UOut (some (n, rest)) most (.pv (.int .u64 0)) [.box (bx .nils 3) false] := by
  show ite _ _ _; rw [if_pos h]; exact ⟨rfl, rfl⟩
theorem UOut.ok {n : Nat} {rest : List Int} {most : Int} {r : PV} (h : ¬ (n : Int) > most) (hr : SL r rest) : UOut (some (n, rest)) most (.pv (.int .u64 n)) [.box (bx r 0) false] := by
  show ite _ _ _; rw [if_neg h]; exact ⟨r, hr, rfl, rfl⟩
theorem uint_err (p : PV) {e : Int} (he : e ≠ 0) (most : Int) (N : Nat) (hN : 2 ≤ N) : call G N 33 [.ptr 0 0, .pv (.int .u64 most)] [.box (bx p e) false] = some (.ret (.pv (.int .u64 0)), [.box (bx p e) false]) := by
  obtain ⟨N, rfl⟩ : ∃ M, N = M + 1 := ⟨N - 1, by omega⟩
  refine call_eq func33 rfl (show _ = [_, _, _, _, _, _, _, _, _, _, _, _, _, _, _, _, _, _, _, _, _, _, _, _] from rfl) ?_
  refine wp_seq ?_
  refine wp_region rfl rfl ?_
  refine wo_apv rfl rfl rfl rfl rfl ?_
  refine wo_nil ?_
  refine ⟨[_, _, _, _, _, _, _, _, _, _, _, _, _, _, _, _, _, _, _, _, _, _, _, _], rfl, ?_⟩
  refine wp_seq ?_
  refine wp_seq ?_
  refine wp_region rfl rfl ?_
  refine wo_move (v := .ptr _ _) rfl rfl rfl rfl rfl (fun h => AV.noConfusion h) ?_
  refine wo_call (v := .pv (.bool false)) (H' := [_]) rfl rfl rfl rfl rfl rfl ((cl52 _ _ _ _).trans (callRef_box rfl rfl rfl rfl rfl (ready_err he _ (by omega)))) rfl rfl rfl ?_
  refine wo_un rfl rfl rfl rfl rfl ?_
  refine wo_nil ?_
  refine ⟨[_, _, _, _, _, _, _, _, _, _, _, _, _, _, _, _, _, _, _, _, _, _, _, _], rfl, ?_⟩
  refine wp_true rfl ?_
  refine wp_seq ?_
  refine wp_region rfl rfl ?_
  refine wo_apv rfl rfl rfl rfl rfl ?_
  refine wo_nil ?_
  refine ⟨[_, _, _, _, _, _, _, _, _, _, _, _, _, _, _, _, _, _, _, _, _, _, _, _], rfl, ?_⟩
  refine wp_ret ?_
  exact ⟨trivial, _, rfl, leave_same (.inl rfl) rfl⟩
theorem uint_ok {p : PV} {l : List Int} (hp : SL p l) (hl : Bytes l) (most : Int) (N : Nat) (hN : 22 ≤ N) : ∃ v H', call G N 33 [.ptr 0 0, .pv (.int .u64 most)] [.box (bx p 0) false] = some (.ret v, H') ∧ UOut (rdU 10 0 0 l) most v H' := by
  obtain ⟨N, rfl⟩ : ∃ M, N = M + 1 := ⟨N - 1, by omega⟩
  obtain ⟨v1, H1, h1, o1⟩ := number_ok 0 hp hl N (by omega)
  rcases hx : rdU 10 0 0 l with _ | ⟨n, rest⟩
  · rw [hx] at o1
    obtain ⟨e', he', rfl, rfl⟩ := o1
    refine call_wp func33 rfl (show _ = [_, _, _, _, _, _, _, _, _, _, _, _, _, _, _, _, _, _, _, _, _, _, _, _] from rfl) ?_
    refine wp_seq ?_
    refine wp_region rfl rfl ?_
    refine wo_apv rfl rfl rfl rfl rfl ?_
    refine wo_nil ?_
    refine ⟨[_, _, _, _, _, _, _, _, _, _, _, _, _, _, _, _, _, _, _, _, _, _, _, _], rfl, ?_⟩
    refine wp_seq ?_
    refine wp_seq ?_
    refine wp_region rfl rfl ?_
    refine wo_move (v := .ptr _ _) rfl rfl rfl rfl rfl (fun h => AV.noConfusion h) ?_
    refine wo_call (v := .pv (.bool true)) (H' := [_]) rfl rfl rfl rfl rfl rfl ((cl52 _ _ _ _).trans (callRef_box rfl rfl rfl rfl rfl (ready_ok _ 0 _ (by omega)))) rfl rfl rfl ?_
    refine wo_un rfl rfl rfl rfl rfl ?_
    refine wo_nil ?_
    refine ⟨[_, _, _, _, _, _, _, _, _, _, _, _, _, _, _, _, _, _, _, _, _, _, _, _], rfl, ?_⟩
    refine wp_false rfl ?_
    refine wp_skip ?_
    refine wp_seq ?_
    refine wp_region rfl rfl ?_
    refine wo_move (v := .ptr _ _) rfl rfl rfl rfl rfl (fun h => AV.noConfusion h) ?_
    refine wo_call (v := .tup [.pv (.int .u64 0), .pv (.bool false)]) (H' := [_]) rfl rfl rfl rfl rfl rfl ((cl53 _ _ _ _).trans (callRef_box rfl rfl rfl rfl rfl (h1))) rfl rfl rfl ?_
    refine wo_move (v := .tup _) rfl rfl rfl rfl rfl (fun h => AV.noConfusion h) ?_
    refine wo_extract (v := .pv _) rfl rfl rfl rfl rfl rfl ?_
    refine wo_extract (v := .pv _) rfl rfl rfl rfl rfl rfl ?_
    refine wo_apv rfl rfl rfl rfl rfl ?_
    refine wo_apv rfl rfl rfl rfl rfl ?_
    refine wo_nil ?_
    refine ⟨[_, _, _, _, _, _, _, _, _, _, _, _, _, _, _, _, _, _, _, _, _, _, _, _], rfl, ?_⟩
    refine wp_seq ?_
    refine wp_seq ?_
    refine wp_region rfl rfl ?_
    refine wo_mpv rfl rfl rfl rfl rfl ?_
    refine wo_mpv rfl rfl rfl rfl rfl ?_
    refine wo_off rfl rfl rfl ?_
    refine wo_off rfl rfl rfl ?_
    refine wo_off rfl rfl rfl ?_
    refine wo_pick (v := .pv _) rfl rfl rfl rfl rfl rfl ?_
    refine wo_nil ?_
    refine ⟨[_, _, _, _, _, _, _, _, _, _, _, _, _, _, _, _, _, _, _, _, _, _, _, _], rfl, ?_⟩
    refine wp_false rfl ?_
    refine wp_skip ?_
    refine wp_seq ?_
    refine wp_region rfl rfl ?_
    refine wo_mpv rfl rfl rfl rfl rfl ?_
    refine wo_apv rfl rfl rfl rfl rfl ?_
    refine wo_nil ?_
    refine ⟨[_, _, _, _, _, _, _, _, _, _, _, _, _, _, _, _, _, _, _, _, _, _, _, _], rfl, ?_⟩
    refine wp_ret ?_
    exact ⟨trivial, _, rfl, _, _, leave_same (.inl rfl) rfl, e', he', rfl, rfl⟩
  · rw [hx] at o1
    obtain ⟨r, hr, rfl, rfl⟩ := o1
    refine call_wp func33 rfl (show _ = [_, _, _, _, _, _, _, _, _, _, _, _, _, _, _, _, _, _, _, _, _, _, _, _] from rfl) ?_
    refine wp_seq ?_
    refine wp_region rfl rfl ?_
    refine wo_apv rfl rfl rfl rfl rfl ?_
    refine wo_nil ?_
    refine ⟨[_, _, _, _, _, _, _, _, _, _, _, _, _, _, _, _, _, _, _, _, _, _, _, _], rfl, ?_⟩
    refine wp_seq ?_
    refine wp_seq ?_
    refine wp_region rfl rfl ?_
    refine wo_move (v := .ptr _ _) rfl rfl rfl rfl rfl (fun h => AV.noConfusion h) ?_
    refine wo_call (v := .pv (.bool true)) (H' := [_]) rfl rfl rfl rfl rfl rfl ((cl52 _ _ _ _).trans (callRef_box rfl rfl rfl rfl rfl (ready_ok _ 0 _ (by omega)))) rfl rfl rfl ?_
    refine wo_un rfl rfl rfl rfl rfl ?_
    refine wo_nil ?_
    refine ⟨[_, _, _, _, _, _, _, _, _, _, _, _, _, _, _, _, _, _, _, _, _, _, _, _], rfl, ?_⟩
    refine wp_false rfl ?_
    refine wp_skip ?_
    refine wp_seq ?_
    refine wp_region rfl rfl ?_
    refine wo_move (v := .ptr _ _) rfl rfl rfl rfl rfl (fun h => AV.noConfusion h) ?_
    refine wo_call (v := .tup [.pv (.int .u64 n), .pv (.bool true)]) (H' := [_]) rfl rfl rfl rfl rfl rfl ((cl53 _ _ _ _).trans (callRef_box rfl rfl rfl rfl rfl (h1))) rfl rfl rfl ?_
    refine wo_move (v := .tup _) rfl rfl rfl rfl rfl (fun h => AV.noConfusion h) ?_
    refine wo_extract (v := .pv _) rfl rfl rfl rfl rfl rfl ?_
    refine wo_extract (v := .pv _) rfl rfl rfl rfl rfl rfl ?_
    refine wo_apv rfl rfl rfl rfl rfl ?_
    refine wo_apv rfl rfl rfl rfl rfl ?_
    refine wo_nil ?_
    refine ⟨[_, _, _, _, _, _, _, _, _, _, _, _, _, _, _, _, _, _, _, _, _, _, _, _], rfl, ?_⟩
    refine wp_seq ?_
    refine wp_seq ?_
    refine wp_region rfl rfl ?_
    refine wo_mpv rfl rfl rfl rfl rfl ?_
    refine wo_mpv rfl rfl rfl rfl rfl ?_
    refine wo_mpv rfl rfl rfl rfl rfl ?_
    refine wo_mpv rfl rfl rfl rfl rfl ?_
    refine wo_bsplit rfl rfl rfl rfl rfl (fun c4_4 => ?_) (fun c4_4 => ?_)
    ·
      refine wo_pick (v := .pv _) rfl rfl rfl rfl rfl rfl ?_
      refine wo_nil ?_
      refine ⟨[_, _, _, _, _, _, _, _, _, _, _, _, _, _, _, _, _, _, _, _, _, _, _, _], rfl, ?_⟩
      refine wp_true rfl ?_
      refine wp_seq ?_
      refine wp_region rfl rfl ?_
      refine wo_move (v := .ptr _ _) rfl rfl rfl rfl rfl (fun h => AV.noConfusion h) ?_
      refine wo_call (v := _) (H' := [_]) rfl rfl rfl rfl rfl rfl ((cl54 _ _ _ _).trans (callRef_box rfl rfl rfl rfl rfl (fail_ok _ _ _ _ (by omega)))) rfl rfl rfl ?_
      refine wo_nil ?_
      refine ⟨[_, _, _, _, _, _, _, _, _, _, _, _, _, _, _, _, _, _, _, _, _, _, _, _], rfl, ?_⟩
      refine wp_seq ?_
      refine wp_region rfl rfl ?_
      refine wo_apv rfl rfl rfl rfl rfl ?_
      refine wo_nil ?_
      refine ⟨[_, _, _, _, _, _, _, _, _, _, _, _, _, _, _, _, _, _, _, _, _, _, _, _], rfl, ?_⟩
      refine wp_ret ?_
      exact ⟨trivial, _, rfl, _, _, leave_same (.inl rfl) rfl, by first | exact UOut.big (by omega) | exact UOut.ok (by omega) hr⟩
    ·
      refine wo_pick (v := .pv _) rfl rfl rfl rfl rfl rfl ?_
      refine wo_nil ?_
      refine ⟨[_, _, _, _, _, _, _, _, _, _, _, _, _, _, _, _, _, _, _, _, _, _, _, _], rfl, ?_⟩
      refine wp_false rfl ?_
      refine wp_skip ?_
      refine wp_seq ?_
      refine wp_region rfl rfl ?_
      refine wo_mpv rfl rfl rfl rfl rfl ?_
      refine wo_apv rfl rfl rfl rfl rfl ?_
      refine wo_nil ?_
      refine ⟨[_, _, _, _, _, _, _, _, _, _, _, _, _, _, _, _, _, _, _, _, _, _, _, _], rfl, ?_⟩
      refine wp_ret ?_
      exact ⟨trivial, _, rfl, _, _, leave_same (.inl rfl) rfl, by first | exact UOut.big (by omega) | exact UOut.ok (by omega) hr⟩

theorem rdU_bound : ∀ (k i acc : Nat) (l : List Int), Bytes l → acc < 2 ^ (7 * i) → i ≤ 9 → ∀ n rest, rdU k i acc l = some (n, rest) → n < 2 ^ 64 ∧ Bytes rest
  | 0, i, acc, l, _, _, _, n, rest, h => by rw [rdU_zero] at h; cases h
  | k + 1, i, acc, [], _, _, _, n, rest, h => by rw [rdU_nil] at h; cases h
  | k + 1, i, acc, c :: l, hl, ha, hi, n, rest, h => by
    have hc := hl c (by simp)
    have hl2 : Bytes l := fun x hx => hl x (by simp [hx])
    by_cases hb : (i = 9 ∧ c > 1) ∨ (i > 0 ∧ c = 0)
    · rw [rdU_bad hb] at h; cases h
    · have h9 : i = 9 → c ≤ 1 := by omega
      by_cases hc2 : c < 128
      · rw [rdU_last hb hc2] at h
        simp only [Option.some.injEq, Prod.mk.injEq] at h
        exact ⟨h.1 ▸ acc_lt2 ha hc hi h9, h.2 ▸ hl2⟩
      · rw [rdU_next hb hc2] at h
        exact rdU_bound k (i + 1) _ l hl2 (acc_lt ha hc) (by omega) n rest h

/-- A number with a sign. -/
def unz (n : Nat) : Int := if n % 2 = 1 then -((n / 2 : Nat) : Int) - 1 else ((n / 2 : Nat) : Int)
theorem and1 {n : Nat} (hn : n < 2 ^ 64) : IntKind.u64.wrap ((BitVec.ofInt IntKind.u64.bits (n : Int) &&& BitVec.ofInt IntKind.u64.bits 1).toNat : Int) = ((n % 2 : Nat) : Int) := by
  have e1 : (BitVec.ofInt IntKind.u64.bits (n : Int)).toNat = n := by simp [IntKind.bits]; omega
  have e2 : (BitVec.ofInt IntKind.u64.bits 1).toNat = 1 := by decide
  rw [BitVec.toNat_and, e1, e2, Nat.and_one_is_mod]
  exact wrapU64 (by omega) (by omega)
theorem shr1 {n : Nat} : shiftBin .shr .u64 (n : Int) 1 = some (.pv (.int .u64 ((n / 2 : Nat) : Int))) := by
  simp [shiftBin, IntKind.bits]
  rw [Int.fdiv_eq_ediv_of_nonneg _ (by decide)]
theorem notU {n : Nat} (hn : n < 2 ^ 64) : IntKind.u64.wrap ((BitVec.ofInt IntKind.u64.bits (if IntKind.u64.signed then -1 else IntKind.u64.max) ^^^ BitVec.ofInt IntKind.u64.bits (n : Int)).toNat : Int) = 18446744073709551615 - (n : Int) := by
  have h : ∀ x : BitVec 64, (BitVec.ofInt 64 18446744073709551615 ^^^ x).toNat = 18446744073709551615 - x.toNat := by
    intro x
    rw [show BitVec.ofInt 64 18446744073709551615 = BitVec.allOnes 64 by decide, BitVec.allOnes_xor, BitVec.toNat_not]
  have e1 : (BitVec.ofInt 64 (n : Int)).toNat = n := by rw [BitVec.toNat_ofInt]; omega
  have e2 : (BitVec.ofInt IntKind.u64.bits (if IntKind.u64.signed then -1 else IntKind.u64.max) ^^^ BitVec.ofInt IntKind.u64.bits (n : Int)).toNat = 18446744073709551615 - (BitVec.ofInt 64 (n : Int)).toNat := h _
  rw [e2, e1, wrapU64 (by omega) (by omega)]
  omega
theorem wrapS {x : Int} (h1 : 9223372036854775808 ≤ x) (h2 : x < 18446744073709551616) : IntKind.i64.wrap x = x - 18446744073709551616 := by simp [IntKind.wrap, IntKind.signed, IntKind.bits]; omega

theorem unz_odd {n : Nat} (h : n % 2 = 1) : unz n = -((n / 2 : Nat) : Int) - 1 := by unfold unz; rw [if_pos h]
theorem unz_even {n : Nat} (h : ¬ n % 2 = 1) : unz n = ((n / 2 : Nat) : Int) := by unfold unz; rw [if_neg h]

def IOut (x : Option (Nat × List Int)) (v : AV) (H : List Blk) : Prop :=
  match x with
  | some (n, rest) => ∃ r, SL r rest ∧ v = .pv (.int .i64 (unz n)) ∧ H = [.box (bx r 0) false]
  | none => ∃ e', e' ≠ 0 ∧ v = .pv (.int .i64 0) ∧ H = [.box (bx .nils e') false]
theorem int_ok {p : PV} {l : List Int} (hp : SL p l) (hl : Bytes l) (N : Nat) (hN : 23 ≤ N) : ∃ v H', call G N 39 [.ptr 0 0] [.box (bx p 0) false] = some (.ret v, H') ∧ IOut (rdU 10 0 0 l) v H' := by
  obtain ⟨N, rfl⟩ : ∃ M, N = M + 1 := ⟨N - 1, by omega⟩
  obtain ⟨v1, H1, h1, o1⟩ := uint_ok hp hl 18446744073709551615 N (by omega)
  rcases hx : rdU 10 0 0 l with _ | ⟨n, rest⟩
  · rw [hx] at o1
    obtain ⟨e', he', rfl, rfl⟩ := o1
    refine call_wp func39 rfl (show _ = [_, _, _, _, _, _, _, _, _, _, _, _, _, _, _, _] from rfl) ?_
    refine wp_seq ?_
    refine wp_region rfl rfl ?_
    refine wo_apv rfl rfl rfl rfl rfl ?_
    refine wo_nil ?_
    refine ⟨[_, _, _, _, _, _, _, _, _, _, _, _, _, _, _, _], rfl, ?_⟩
    refine wp_seq ?_
    refine wp_region rfl rfl ?_
    refine wo_move (v := .ptr _ _) rfl rfl rfl rfl rfl (fun h => AV.noConfusion h) ?_
    refine wo_call (v := .pv _) (H' := [_]) rfl rfl rfl rfl rfl rfl ((cl33 _ _ _ _).trans (callRef_box rfl rfl rfl rfl rfl (h1))) rfl rfl rfl ?_
    refine wo_apv rfl rfl rfl rfl rfl ?_
    refine wo_nil ?_
    refine ⟨[_, _, _, _, _, _, _, _, _, _, _, _, _, _, _, _], rfl, ?_⟩
    refine wp_seq ?_
    refine wp_seq ?_
    refine wp_region rfl rfl ?_
    refine wo_mpv rfl rfl rfl rfl rfl ?_
    refine wo_bin rfl rfl rfl rfl rfl ?_
    refine wo_bin (v := .pv (.bool false)) rfl rfl rfl rfl (eF (by decide)) ?_
    refine wo_nil ?_
    refine ⟨[_, _, _, _, _, _, _, _, _, _, _, _, _, _, _, _], rfl, ?_⟩
    refine wp_false rfl ?_
    refine wp_skip ?_
    refine wp_seq ?_
    refine wp_region rfl rfl ?_
    refine wo_mpv rfl rfl rfl rfl rfl ?_
    refine wo_bin (v := .pv (.int .u64 0)) rfl rfl rfl rfl (rfl) ?_
    refine wo_convi t36 t2 rfl rfl rfl rfl rfl rfl ?_
    refine wo_apv rfl rfl rfl rfl rfl ?_
    refine wo_nil ?_
    refine ⟨[_, _, _, _, _, _, _, _, _, _, _, _, _, _, _, _], rfl, ?_⟩
    refine wp_ret ?_
    exact ⟨trivial, _, rfl, _, _, leave_same (.inl rfl) rfl, e', he', rfl, rfl⟩
  · rw [hx] at o1
    have hb := (rdU_bound 10 0 0 l hl (by decide) (by omega) n rest hx).1
    simp only [UOut] at o1
    rw [if_neg (by omega)] at o1
    obtain ⟨r, hr, rfl, rfl⟩ := o1
    refine call_wp func39 rfl (show _ = [_, _, _, _, _, _, _, _, _, _, _, _, _, _, _, _] from rfl) ?_
    refine wp_seq ?_
    refine wp_region rfl rfl ?_
    refine wo_apv rfl rfl rfl rfl rfl ?_
    refine wo_nil ?_
    refine ⟨[_, _, _, _, _, _, _, _, _, _, _, _, _, _, _, _], rfl, ?_⟩
    refine wp_seq ?_
    refine wp_region rfl rfl ?_
    refine wo_move (v := .ptr _ _) rfl rfl rfl rfl rfl (fun h => AV.noConfusion h) ?_
    refine wo_call (v := .pv _) (H' := [_]) rfl rfl rfl rfl rfl rfl ((cl33 _ _ _ _).trans (callRef_box rfl rfl rfl rfl rfl (h1))) rfl rfl rfl ?_
    refine wo_apv rfl rfl rfl rfl rfl ?_
    refine wo_nil ?_
    refine ⟨[_, _, _, _, _, _, _, _, _, _, _, _, _, _, _, _], rfl, ?_⟩
    refine wp_seq ?_
    refine wp_seq ?_
    refine wp_region rfl rfl ?_
    refine wo_mpv rfl rfl rfl rfl rfl ?_
    refine wo_bin (v := .pv (.int .u64 ((n % 2 : Nat) : Int))) rfl rfl rfl rfl (iV (and1 hb)) ?_
    refine wo_esplit rfl rfl rfl rfl rfl (fun c2_2 => ?_) (fun c2_2 => ?_)
    ·
      refine wo_nil ?_
      refine ⟨[_, _, _, _, _, _, _, _, _, _, _, _, _, _, _, _], rfl, ?_⟩
      refine wp_true rfl ?_
      refine wp_seq ?_
      refine wp_region rfl rfl ?_
      refine wo_mpv rfl rfl rfl rfl rfl ?_
      refine wo_bin (v := .pv (.int .u64 ((n / 2 : Nat) : Int))) rfl rfl rfl rfl (shr1) ?_
      refine wo_un (v := .pv (.int .u64 (18446744073709551615 - ((n / 2 : Nat) : Int)))) rfl rfl rfl rfl (iV (notU (by omega))) ?_
      refine wo_conv (v := .pv (.int .i64 (-((n / 2 : Nat) : Int) - 1))) rfl rfl rfl rfl ((wconv t36 t2 rfl rfl).trans (iV (by rw [wrapS (by omega) (by omega)]; omega))) rfl ?_
      refine wo_apv rfl rfl rfl rfl rfl ?_
      refine wo_nil ?_
      refine ⟨[_, _, _, _, _, _, _, _, _, _, _, _, _, _, _, _], rfl, ?_⟩
      refine wp_ret ?_
      exact ⟨trivial, _, rfl, _, _, leave_same (.inl rfl) rfl, r, hr, by first | (rw [unz_odd (by omega)]; rfl) | (rw [unz_even (by omega)]; rfl), rfl⟩
    ·
      refine wo_nil ?_
      refine ⟨[_, _, _, _, _, _, _, _, _, _, _, _, _, _, _, _], rfl, ?_⟩
      refine wp_false rfl ?_
      refine wp_skip ?_
      refine wp_seq ?_
      refine wp_region rfl rfl ?_
      refine wo_mpv rfl rfl rfl rfl rfl ?_
      refine wo_bin (v := .pv (.int .u64 ((n / 2 : Nat) : Int))) rfl rfl rfl rfl (shr1) ?_
      refine wo_conv (v := .pv (.int .i64 ((n / 2 : Nat) : Int))) rfl rfl rfl rfl ((wconv t36 t2 rfl rfl).trans (iV (wrapI (by omega) (by omega)))) rfl ?_
      refine wo_apv rfl rfl rfl rfl rfl ?_
      refine wo_nil ?_
      refine ⟨[_, _, _, _, _, _, _, _, _, _, _, _, _, _, _, _], rfl, ?_⟩
      refine wp_ret ?_
      exact ⟨trivial, _, rfl, _, _, leave_same (.inl rfl) rfl, r, hr, by first | (rw [unz_odd (by omega)]; rfl) | (rw [unz_even (by omega)]; rfl), rfl⟩

theorem build61 (p : PV) : aBuild G.T 61 [(0, .pv (.bool true)), (1, .pv p)] = some (.agg [.pv (.bool true), .pv p, .pv (.int .i64 0)]) := by
  simp [aBuild, t61, t4, t35, t28, fieldPlaces, zeroAV, aBuildParts, AV.cells, splice]
theorem read_ok (p : PV) (N : Nat) (hN : 1 ≤ N) : call G N 32 [.pv p] [] = some (.ret (.ptr 0 0), [.box (bx p 0) false]) := by
  obtain ⟨N, rfl⟩ : ∃ M, N = M + 1 := ⟨N - 1, by omega⟩
  refine call_eq func32 rfl (show _ = [_, _, _, _, _, _] from rfl) ?_
  refine wp_seq ?_
  refine wp_region rfl rfl ?_
  refine wo_apv rfl rfl rfl rfl rfl ?_
  refine wo_nil ?_
  refine ⟨[_, _, _, _, _, _], rfl, ?_⟩
  refine wp_seq ?_
  refine wp_region rfl rfl ?_
  refine wo_mpv rfl rfl rfl rfl rfl ?_
  refine wo_build (v := .agg [.pv (.bool true), .pv p, .pv (.int .i64 0)]) rfl rfl rfl rfl (build61 _) ?_
  refine wo_box (cs := [_, _, _]) (H' := [_]) rfl rfl rfl rfl rfl rfl ?_
  refine wo_assign (v := .ptr _ _) rfl rfl rfl rfl rfl (fun h => AV.noConfusion h) ?_
  refine wo_nil ?_
  refine ⟨[_, _, _, _, _, _], rfl, ?_⟩
  refine wp_ret ?_
  exact ⟨trivial, _, rfl, leave_newp (b := .box (bx p 0) false) (.inr rfl) rfl rfl⟩
end Go.Ab.Ytknmgphnkfeifaa
