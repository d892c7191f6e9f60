import Derived.Test.YtnfgpejdbmakkaaX5
namespace Go.Ab.Ytnfgpejdbmakkaa
open Go Go.Ab
open Go.Proofs.Try
set_option maxRecDepth 100000
set_option maxHeartbeats 2000000
set_option linter.unusedSimpArgs false
set_option linter.unusedVariables false

theorem parts {k : Int} {l r a b o : Nat} (hl : l < 2 ^ 64) (hr : r < 2 ^ 64) (ha : a < 2 ^ 64) (hb : b < 2 ^ 64) (ho : o < 2 ^ 64) (hw : call G 100 15 [] [] = some (.ret (.pv (.bool true)), [])) :
    call G 101 3 [.agg [.pv (.int .i64 k), .pv (.int .u64 l), .pv (.int .u64 r), .pv (.int .u64 a), .pv (.int .u64 b), .pv (.int .u64 o)]] [] = some (.ret (.pv (.bool true)), []) := by
  refine call_eq func3 rfl (show _ = [_, _, _, _, _, _, _, _, _, _, _, _, _, _, _, _, _, _, _, _, _, _, _, _, _, _, _, _, _, _, _, _, _, _, _, _, _, _, _, _, _, _, _, _, _, _, _, _, _, _, _, _, _, _, _] from rfl) ?_
  refine wp_seq ?_
  refine wp_region rfl rfl ?_
  refine wo_box (cs := [_, _, _, _, _, _]) (H' := [_]) rfl rfl rfl rfl rfl rfl ?_
  refine wo_apv rfl rfl rfl rfl rfl ?_
  refine wo_nil ?_
  refine ⟨[_, _, _, _, _, _, _, _, _, _, _, _, _, _, _, _, _, _, _, _, _, _, _, _, _, _, _, _, _, _, _, _, _, _, _, _, _, _, _, _, _, _, _, _, _, _, _, _, _, _, _, _, _, _, _], rfl, ?_⟩
  refine wp_seq ?_
  refine wp_drawn rfl rfl (by kernel_rfl) ?_
  refine wo_faddr t24 t22 rfl rfl rfl rfl rfl rfl rfl ?_
  refine wo_load t22 rfl rfl rfl rfl rfl rfl ?_
  refine wo_faddr t24 t22 rfl rfl rfl rfl rfl rfl rfl ?_
  refine wo_load t22 rfl rfl rfl rfl rfl rfl ?_
  refine wo_call (v := .pv (.int .u64 ((scanM a o : Nat) : Int))) (H' := [_]) rfl rfl rfl rfl rfl rfl ((cl9 _ _ _ _).trans (callPure_pv rfl (fun _ => rfl) (scan_ok ha ho _ (by omega)))) rfl rfl rfl ?_
  refine wo_faddr t24 t22 rfl rfl rfl rfl rfl rfl rfl ?_
  refine wo_load t22 rfl rfl rfl rfl rfl rfl ?_
  refine wo_faddr t24 t22 rfl rfl rfl rfl rfl rfl rfl ?_
  refine wo_load t22 rfl rfl rfl rfl rfl rfl ?_
  refine wo_call (v := .pv (.int .u64 ((scanM a o : Nat) : Int))) (H' := [_]) rfl rfl rfl rfl rfl rfl ((cl10 _ _ _ _).trans (callPure_pv rfl (fun _ => rfl) (rscan_ok ha ho _ (by omega)))) rfl rfl rfl ?_
  refine wo_bin (v := .pv (.bool true)) rfl rfl rfl rfl (eT rfl) ?_
  refine wo_norm [_, _, _, _, _, _, _, _, _, _, _, _, _, _, _, _, _, _, _, _, _, _, _, _, _, _, _, _, _, _, _, _, _, _, _, _, _, _, _, _, _, _, _, _, _, _, _, _, _, _, _, _, _, _, _] rfl ?_
  refine wo_mpv rfl rfl rfl rfl rfl ?_
  refine wo_faddr t24 t22 rfl rfl rfl rfl rfl rfl rfl ?_
  refine wo_load t22 rfl rfl rfl rfl rfl rfl ?_
  refine wo_call (v := .pv (.int .u64 ((sortM a : Nat) : Int))) (H' := [_]) rfl rfl rfl rfl rfl rfl ((cl11 _ _ _ _).trans (callPure_pv rfl (fun _ => rfl) (sort_ok ha _ (by omega)))) rfl rfl rfl ?_
  refine wo_faddr t24 t22 rfl rfl rfl rfl rfl rfl rfl ?_
  refine wo_load t22 rfl rfl rfl rfl rfl rfl ?_
  refine wo_call (v := .pv (.int .u64 ((sortM a : Nat) : Int))) (H' := [_]) rfl rfl rfl rfl rfl rfl ((cl12 _ _ _ _).trans (callPure_pv rfl (fun _ => rfl) (rsort_ok ha _ (by omega)))) rfl rfl rfl ?_
  refine wo_bin (v := .pv (.bool true)) rfl rfl rfl rfl (eT rfl) ?_
  refine wo_pick (v := .pv _) rfl rfl rfl rfl rfl rfl ?_
  refine wo_mpv rfl rfl rfl rfl rfl ?_
  refine wo_faddr t24 t3 rfl rfl rfl rfl rfl rfl rfl ?_
  refine wo_load t3 rfl rfl rfl rfl rfl rfl ?_
  refine wo_norm [_, _, _, _, _, _, _, _, _, _, _, _, _, _, _, _, _, _, _, _, _, _, _, _, _, _, _, _, _, _, _, _, _, _, _, _, _, _, _, _, _, _, _, _, _, _, _, _, _, _, _, _, _, _, _] rfl ?_
  refine wo_faddr t24 t22 rfl rfl rfl rfl rfl rfl rfl ?_
  refine wo_load t22 rfl rfl rfl rfl rfl rfl ?_
  refine wo_faddr t24 t22 rfl rfl rfl rfl rfl rfl rfl ?_
  refine wo_load t22 rfl rfl rfl rfl rfl rfl ?_
  refine wo_faddr t24 t22 rfl rfl rfl rfl rfl rfl rfl ?_
  refine wo_load t22 rfl rfl rfl rfl rfl rfl ?_
  refine wo_faddr t24 t22 rfl rfl rfl rfl rfl rfl rfl ?_
  refine wo_load t22 rfl rfl rfl rfl rfl rfl ?_
  refine wo_faddr t24 t22 rfl rfl rfl rfl rfl rfl rfl ?_
  refine wo_load t22 rfl rfl rfl rfl rfl rfl ?_
  refine wo_call (v := .pv (.int .u64 (joinM k l r a b o : Nat))) (H' := [_]) rfl rfl rfl rfl rfl rfl ((cl13 _ _ _ _).trans (callPure_pv rfl (fun _ => rfl) (join_ok hl hr ha hb ho _ (by omega)))) rfl rfl rfl ?_
  refine wo_faddr t24 t3 rfl rfl rfl rfl rfl rfl rfl ?_
  refine wo_norm [_, _, _, _, _, _, _, _, _, _, _, _, _, _, _, _, _, _, _, _, _, _, _, _, _, _, _, _, _, _, _, _, _, _, _, _, _, _, _, _, _, _, _, _, _, _, _, _, _, _, _, _, _, _, _] rfl ?_
  refine wo_load t3 rfl rfl rfl rfl rfl rfl ?_
  refine wo_faddr t24 t22 rfl rfl rfl rfl rfl rfl rfl ?_
  refine wo_load t22 rfl rfl rfl rfl rfl rfl ?_
  refine wo_faddr t24 t22 rfl rfl rfl rfl rfl rfl rfl ?_
  refine wo_load t22 rfl rfl rfl rfl rfl rfl ?_
  refine wo_faddr t24 t22 rfl rfl rfl rfl rfl rfl rfl ?_
  refine wo_load t22 rfl rfl rfl rfl rfl rfl ?_
  refine wo_faddr t24 t22 rfl rfl rfl rfl rfl rfl rfl ?_
  refine wo_load t22 rfl rfl rfl rfl rfl rfl ?_
  refine wo_faddr t24 t22 rfl rfl rfl rfl rfl rfl rfl ?_
  refine wo_load t22 rfl rfl rfl rfl rfl rfl ?_
  refine wo_call (v := .pv (.int .u64 (joinM k l r a b o : Nat))) (H' := [_]) rfl rfl rfl rfl rfl rfl ((cl14 _ _ _ _).trans (callPure_pv rfl (fun _ => rfl) (rjoin_ok hl hr ha hb ho _ (by omega)))) rfl rfl rfl ?_
  refine wo_norm [_, _, _, _, _, _, _, _, _, _, _, _, _, _, _, _, _, _, _, _, _, _, _, _, _, _, _, _, _, _, _, _, _, _, _, _, _, _, _, _, _, _, _, _, _, _, _, _, _, _, _, _, _, _, _] rfl ?_
  refine wo_bin (v := .pv (.bool true)) rfl rfl rfl rfl (eT rfl) ?_
  refine wo_pick (v := .pv _) rfl rfl rfl rfl rfl rfl ?_
  refine wo_mpv rfl rfl rfl rfl rfl ?_
  refine wo_call (v := .pv (.bool true)) (H' := [_]) rfl rfl rfl rfl rfl rfl ((cl15 _ _ _ _).trans (callPure_pv rfl (fun _ => rfl) hw)) rfl rfl rfl ?_
  refine wo_pick (v := .pv _) rfl rfl rfl rfl rfl rfl ?_
  refine wo_apv rfl rfl rfl rfl rfl ?_
  refine wo_nil ?_
  refine ⟨by kernel_rfl, ?_⟩
  refine ⟨[_, _, _, _, _, _, _, _, _, _, _, _, _, _, _, _, _, _, _, _, _, _, _, _, _, _, _, _, _, _, _, _, _, _, _, _, _, _, _, _, _, _, _, _, _, _, _, _, _, _, _, _, _, _, _], rfl, ?_⟩
  refine wp_ret ?_
  exact ⟨trivial, _, rfl, leave_pure⟩

end Go.Ab.Ytnfgpejdbmakkaa
