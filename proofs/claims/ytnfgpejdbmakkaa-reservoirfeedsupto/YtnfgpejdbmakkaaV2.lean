import Derived.Test.YtnfgpejdbmakkaaV1
namespace Go.Ab.Ytnfgpejdbmakkaa
open Go Go.Ab
open Go.Proofs.Try
set_option maxRecDepth 100000
set_option maxHeartbeats 1000000
set_option linter.unusedSimpArgs false
set_option linter.unusedVariables false

def V0 : V := ⟨0, 0, 0, ByteArray.empty⟩
theorem V0.ok : V0.Ok := ⟨by decide, by decide, by decide, by decide, by decide⟩
/-- A value in its one form, as the program has it, and as the document has it. -/
def V.plain (v : V) : V :=
  if v.right = false then V0
  else if v.k = 3 ∧ isNan v.f = true then { v with f := 9221120237041090561 }
  else if v.k = 3 ∧ isZero v.f = true then { v with f := 0 }
  else v
def V.rplain (v : V) : V :=
  if v.right = false then V0
  else if v.k = 3 ∧ isZero v.f = true then ⟨3, 0, 0, ByteArray.empty⟩
  else v
theorem build40 : aBuild G.T 40 [] = some (.agg [.pv (.int .i64 0), .pv (.int .i64 0), .pv (.flt .f64 0), .pv (.str ByteArray.empty)]) := by
  simp [aBuild, t40, t3, t2, t38, t9, fieldPlaces, zeroAV, aBuildParts]
theorem build40k : aBuild G.T 40 [(0, .pv (.int .i64 3))] = some (.agg [.pv (.int .i64 3), .pv (.int .i64 0), .pv (.flt .f64 0), .pv (.str ByteArray.empty)]) := by
  simp [aBuild, t40, t3, t2, t38, t9, fieldPlaces, zeroAV, aBuildParts, AV.cells, splice]
theorem vPlain_ok {v : V} (hv : v.Ok) (N : Nat) (hN : 3 ≤ N) : call G N 45 [.agg (v.row.map .pv)] [] = some (.ret (.agg (v.plain.row.map .pv)), []) := by
  obtain ⟨N, rfl⟩ : ∃ M, N = M + 1 := ⟨N - 1, by omega⟩
  refine call_eq func45 rfl (show _ = [_, _, _, _, _, _, _, _, _, _, _, _, _, _, _, _, _, _, _, _, _, _, _, _, _, _, _, _, _, _] from rfl) ?_
  refine wp_seq ?_
  refine wp_region rfl rfl ?_
  refine wo_box (cs := [_, _, _, _]) (H' := [_]) rfl rfl rfl rfl rfl rfl ?_
  refine wo_alloc (cs := [_, _, _, _]) (H' := [_, _]) t40 rfl rfl rfl rfl rfl rfl ?_
  refine wo_nil ?_
  refine ⟨[_, _, _, _, _, _, _, _, _, _, _, _, _, _, _, _, _, _, _, _, _, _, _, _, _, _, _, _, _, _], rfl, ?_⟩
  refine wp_seq ?_
  refine wp_block ?_
  refine wp_seq ?_
  refine wp_region rfl rfl ?_
  refine wo_load (v := .agg [_, _, _, _]) t40 rfl rfl rfl rfl rfl rfl ?_
  cases hr : v.right
  ·
    refine wo_call (v := .pv (.bool false)) (H' := [_, _]) rfl rfl rfl rfl rfl rfl ((cl44 _ _ _ _).trans (callPure_pv rfl (fun _ => rfl) (by rw [← hr]; exact vRight_ok hv _ (by omega)))) rfl rfl rfl ?_
    refine wo_un rfl rfl rfl rfl rfl ?_
    refine wo_apv rfl rfl rfl rfl rfl ?_
    refine wo_nil ?_
    refine ⟨[_, _, _, _, _, _, _, _, _, _, _, _, _, _, _, _, _, _, _, _, _, _, _, _, _, _, _, _, _, _], rfl, ?_⟩
    refine wp_true rfl ?_
    refine wp_seq ?_
    refine wp_region rfl rfl ?_
    refine wo_build (v := .agg [.pv (.int .i64 0), .pv (.int .i64 0), .pv (.flt .f64 0), .pv (.str ByteArray.empty)]) rfl rfl rfl rfl (build40) ?_
    refine wo_store (cs' := [_, _, _, _]) (H' := [_, _]) t40 rfl rfl rfl rfl rfl rfl rfl rfl rfl ?_
    refine wo_nil ?_
    refine ⟨[_, _, _, _, _, _, _, _, _, _, _, _, _, _, _, _, _, _, _, _, _, _, _, _, _, _, _, _, _, _], rfl, ?_⟩
    refine wp_ret ?_
    first
      | (exfalso; omega)
      | (rw [show v.plain = V0 by simp [V.plain, *]]; exact ⟨trivial, _, resAll_cell1 (v := .agg ((V.row (V0)).map .pv)) t40 rfl, leave_agg (ps := V.row (V0))⟩)
      | (rw [show v.plain = { v with f := 9221120237041090561 } by simp [V.plain, *]]; exact ⟨trivial, _, resAll_cell1 (v := .agg ((V.row ({ v with f := 9221120237041090561 })).map .pv)) t40 rfl, leave_agg (ps := V.row ({ v with f := 9221120237041090561 }))⟩)
      | (rw [show v.plain = { v with f := 0 } by simp [V.plain, *]]; exact ⟨trivial, _, resAll_cell1 (v := .agg ((V.row ({ v with f := 0 })).map .pv)) t40 rfl, leave_agg (ps := V.row ({ v with f := 0 }))⟩)
      | (rw [show v.plain = v by simp [V.plain, *]]; exact ⟨trivial, _, resAll_cell1 (v := .agg ((V.row (v)).map .pv)) t40 rfl, leave_agg (ps := V.row (v))⟩)
  ·
    refine wo_call (v := .pv (.bool true)) (H' := [_, _]) rfl rfl rfl rfl rfl rfl ((cl44 _ _ _ _).trans (callPure_pv rfl (fun _ => rfl) (by rw [← hr]; exact vRight_ok hv _ (by omega)))) rfl rfl rfl ?_
    refine wo_un rfl rfl rfl rfl rfl ?_
    refine wo_apv rfl rfl rfl rfl rfl ?_
    refine wo_nil ?_
    refine ⟨[_, _, _, _, _, _, _, _, _, _, _, _, _, _, _, _, _, _, _, _, _, _, _, _, _, _, _, _, _, _], rfl, ?_⟩
    refine wp_false rfl ?_
    refine wp_seq ?_
    refine wp_region rfl rfl ?_
    refine wo_faddr t40 t3 rfl rfl rfl rfl rfl rfl rfl ?_
    refine wo_load t3 rfl rfl rfl rfl rfl rfl ?_
    refine wo_esplit rfl rfl rfl rfl rfl (fun c3_2 => ?_) (fun c3_2 => ?_)
    ·
      refine wo_mpv rfl rfl rfl rfl rfl ?_
      refine wo_faddr t40 t38 rfl rfl rfl rfl rfl rfl rfl ?_
      refine wo_load t38 rfl rfl rfl rfl rfl rfl ?_
      cases hn : isNan v.f
      ·
        refine wo_call (v := .pv (.bool false)) (H' := [_, _]) rfl rfl rfl rfl rfl rfl ((cl58 _ _ _ _).trans (callPure_pv rfl (fun _ => rfl) (by rw [← hn]; exact isNaN_ok _ _ (by omega)))) rfl rfl rfl ?_
        refine wo_pick (v := .pv _) rfl rfl rfl rfl rfl rfl ?_
        refine wo_apv rfl rfl rfl rfl rfl ?_
        refine wo_nil ?_
        refine ⟨[_, _, _, _, _, _, _, _, _, _, _, _, _, _, _, _, _, _, _, _, _, _, _, _, _, _, _, _, _, _], rfl, ?_⟩
        refine wp_false rfl ?_
        refine wp_seq ?_
        refine wp_region rfl rfl ?_
        refine wo_faddr t40 t3 rfl rfl rfl rfl rfl rfl rfl ?_
        refine wo_load t3 rfl rfl rfl rfl rfl rfl ?_
        refine wo_esplit rfl rfl rfl rfl rfl (fun c5_2 => ?_) (fun c5_2 => ?_)
        ·
          refine wo_mpv rfl rfl rfl rfl rfl ?_
          refine wo_faddr t40 t38 rfl rfl rfl rfl rfl rfl rfl ?_
          refine wo_load t38 rfl rfl rfl rfl rfl rfl ?_
          cases hz : isZero v.f
          ·
            refine wo_bin (v := .pv (.bool false)) rfl rfl rfl rfl (vF hz) ?_
            refine wo_pick (v := .pv _) rfl rfl rfl rfl rfl rfl ?_
            refine wo_apv rfl rfl rfl rfl rfl ?_
            refine wo_nil ?_
            refine ⟨[_, _, _, _, _, _, _, _, _, _, _, _, _, _, _, _, _, _, _, _, _, _, _, _, _, _, _, _, _, _], rfl, ?_⟩
            refine wp_false rfl ?_
            refine wp_skip ?_
            refine wp_seq ?_
            refine wp_region rfl rfl ?_
            refine wo_load (v := .agg [_, _, _, _]) t40 rfl rfl rfl rfl rfl rfl ?_
            refine wo_store (cs' := [_, _, _, _]) (H' := [_, _]) t40 rfl rfl rfl rfl rfl rfl rfl rfl rfl ?_
            refine wo_nil ?_
            refine ⟨[_, _, _, _, _, _, _, _, _, _, _, _, _, _, _, _, _, _, _, _, _, _, _, _, _, _, _, _, _, _], rfl, ?_⟩
            refine wp_ret ?_
            first
              | (exfalso; omega)
              | (rw [show v.plain = V0 by simp [V.plain, *]]; exact ⟨trivial, _, resAll_cell1 (v := .agg ((V.row (V0)).map .pv)) t40 rfl, leave_agg (ps := V.row (V0))⟩)
              | (rw [show v.plain = { v with f := 9221120237041090561 } by simp [V.plain, *]]; exact ⟨trivial, _, resAll_cell1 (v := .agg ((V.row ({ v with f := 9221120237041090561 })).map .pv)) t40 rfl, leave_agg (ps := V.row ({ v with f := 9221120237041090561 }))⟩)
              | (rw [show v.plain = { v with f := 0 } by simp [V.plain, *]]; exact ⟨trivial, _, resAll_cell1 (v := .agg ((V.row ({ v with f := 0 })).map .pv)) t40 rfl, leave_agg (ps := V.row ({ v with f := 0 }))⟩)
              | (rw [show v.plain = v by simp [V.plain, *]]; exact ⟨trivial, _, resAll_cell1 (v := .agg ((V.row (v)).map .pv)) t40 rfl, leave_agg (ps := V.row (v))⟩)
          ·
            refine wo_bin (v := .pv (.bool true)) rfl rfl rfl rfl (vT hz) ?_
            refine wo_pick (v := .pv _) rfl rfl rfl rfl rfl rfl ?_
            refine wo_apv rfl rfl rfl rfl rfl ?_
            refine wo_nil ?_
            refine ⟨[_, _, _, _, _, _, _, _, _, _, _, _, _, _, _, _, _, _, _, _, _, _, _, _, _, _, _, _, _, _], rfl, ?_⟩
            refine wp_true rfl ?_
            refine wp_region rfl rfl ?_
            refine wo_faddr t40 t38 rfl rfl rfl rfl rfl rfl rfl ?_
            refine wo_store (cs' := [_, _, _, _]) (H' := [_, _]) t38 rfl rfl rfl rfl rfl rfl rfl rfl rfl ?_
            refine wo_nil ?_
            refine ⟨[_, _, _, _, _, _, _, _, _, _, _, _, _, _, _, _, _, _, _, _, _, _, _, _, _, _, _, _, _, _], rfl, ?_⟩
            refine wp_seq ?_
            refine wp_region rfl rfl ?_
            refine wo_load (v := .agg [_, _, _, _]) t40 rfl rfl rfl rfl rfl rfl ?_
            refine wo_store (cs' := [_, _, _, _]) (H' := [_, _]) t40 rfl rfl rfl rfl rfl rfl rfl rfl rfl ?_
            refine wo_nil ?_
            refine ⟨[_, _, _, _, _, _, _, _, _, _, _, _, _, _, _, _, _, _, _, _, _, _, _, _, _, _, _, _, _, _], rfl, ?_⟩
            refine wp_ret ?_
            first
              | (exfalso; omega)
              | (rw [show v.plain = V0 by simp [V.plain, *]]; exact ⟨trivial, _, resAll_cell1 (v := .agg ((V.row (V0)).map .pv)) t40 rfl, leave_agg (ps := V.row (V0))⟩)
              | (rw [show v.plain = { v with f := 9221120237041090561 } by simp [V.plain, *]]; exact ⟨trivial, _, resAll_cell1 (v := .agg ((V.row ({ v with f := 9221120237041090561 })).map .pv)) t40 rfl, leave_agg (ps := V.row ({ v with f := 9221120237041090561 }))⟩)
              | (rw [show v.plain = { v with f := 0 } by simp [V.plain, *]]; exact ⟨trivial, _, resAll_cell1 (v := .agg ((V.row ({ v with f := 0 })).map .pv)) t40 rfl, leave_agg (ps := V.row ({ v with f := 0 }))⟩)
              | (rw [show v.plain = v by simp [V.plain, *]]; exact ⟨trivial, _, resAll_cell1 (v := .agg ((V.row (v)).map .pv)) t40 rfl, leave_agg (ps := V.row (v))⟩)
        ·
          refine wo_mpv rfl rfl rfl rfl rfl ?_
          refine wo_off rfl rfl rfl ?_
          refine wo_off rfl rfl rfl ?_
          refine wo_off rfl rfl rfl ?_
          refine wo_pick (v := .pv _) rfl rfl rfl rfl rfl rfl ?_
          refine wo_apv rfl rfl rfl rfl rfl ?_
          refine wo_nil ?_
          refine ⟨[_, _, _, _, _, _, _, _, _, _, _, _, _, _, _, _, _, _, _, _, _, _, _, _, _, _, _, _, _, _], rfl, ?_⟩
          refine wp_false rfl ?_
          refine wp_skip ?_
          refine wp_seq ?_
          refine wp_region rfl rfl ?_
          refine wo_load (v := .agg [_, _, _, _]) t40 rfl rfl rfl rfl rfl rfl ?_
          refine wo_store (cs' := [_, _, _, _]) (H' := [_, _]) t40 rfl rfl rfl rfl rfl rfl rfl rfl rfl ?_
          refine wo_nil ?_
          refine ⟨[_, _, _, _, _, _, _, _, _, _, _, _, _, _, _, _, _, _, _, _, _, _, _, _, _, _, _, _, _, _], rfl, ?_⟩
          refine wp_ret ?_
          first
            | (exfalso; omega)
            | (rw [show v.plain = V0 by simp [V.plain, *]]; exact ⟨trivial, _, resAll_cell1 (v := .agg ((V.row (V0)).map .pv)) t40 rfl, leave_agg (ps := V.row (V0))⟩)
            | (rw [show v.plain = { v with f := 9221120237041090561 } by simp [V.plain, *]]; exact ⟨trivial, _, resAll_cell1 (v := .agg ((V.row ({ v with f := 9221120237041090561 })).map .pv)) t40 rfl, leave_agg (ps := V.row ({ v with f := 9221120237041090561 }))⟩)
            | (rw [show v.plain = { v with f := 0 } by simp [V.plain, *]]; exact ⟨trivial, _, resAll_cell1 (v := .agg ((V.row ({ v with f := 0 })).map .pv)) t40 rfl, leave_agg (ps := V.row ({ v with f := 0 }))⟩)
            | (rw [show v.plain = v by simp [V.plain, *]]; exact ⟨trivial, _, resAll_cell1 (v := .agg ((V.row (v)).map .pv)) t40 rfl, leave_agg (ps := V.row (v))⟩)
      ·
        refine wo_call (v := .pv (.bool true)) (H' := [_, _]) rfl rfl rfl rfl rfl rfl ((cl58 _ _ _ _).trans (callPure_pv rfl (fun _ => rfl) (by rw [← hn]; exact isNaN_ok _ _ (by omega)))) rfl rfl rfl ?_
        refine wo_pick (v := .pv _) rfl rfl rfl rfl rfl rfl ?_
        refine wo_apv rfl rfl rfl rfl rfl ?_
        refine wo_nil ?_
        refine ⟨[_, _, _, _, _, _, _, _, _, _, _, _, _, _, _, _, _, _, _, _, _, _, _, _, _, _, _, _, _, _], rfl, ?_⟩
        refine wp_true rfl ?_
        refine wp_region rfl rfl ?_
        refine wo_call (v := .pv (.flt .f64 _)) (H' := [_, _]) rfl rfl rfl rfl rfl rfl (cl59 _ _ _ _) rfl rfl rfl ?_
        refine wo_faddr t40 t38 rfl rfl rfl rfl rfl rfl rfl ?_
        refine wo_store (cs' := [_, _, _, _]) (H' := [_, _]) t38 rfl rfl rfl rfl rfl rfl rfl rfl rfl ?_
        refine wo_nil ?_
        refine ⟨[_, _, _, _, _, _, _, _, _, _, _, _, _, _, _, _, _, _, _, _, _, _, _, _, _, _, _, _, _, _], rfl, ?_⟩
        refine wp_seq ?_
        refine wp_region rfl rfl ?_
        refine wo_load (v := .agg [_, _, _, _]) t40 rfl rfl rfl rfl rfl rfl ?_
        refine wo_store (cs' := [_, _, _, _]) (H' := [_, _]) t40 rfl rfl rfl rfl rfl rfl rfl rfl rfl ?_
        refine wo_nil ?_
        refine ⟨[_, _, _, _, _, _, _, _, _, _, _, _, _, _, _, _, _, _, _, _, _, _, _, _, _, _, _, _, _, _], rfl, ?_⟩
        refine wp_ret ?_
        first
          | (exfalso; omega)
          | (rw [show v.plain = V0 by simp [V.plain, *]]; exact ⟨trivial, _, resAll_cell1 (v := .agg ((V.row (V0)).map .pv)) t40 rfl, leave_agg (ps := V.row (V0))⟩)
          | (rw [show v.plain = { v with f := 9221120237041090561 } by simp [V.plain, *]]; exact ⟨trivial, _, resAll_cell1 (v := .agg ((V.row ({ v with f := 9221120237041090561 })).map .pv)) t40 rfl, leave_agg (ps := V.row ({ v with f := 9221120237041090561 }))⟩)
          | (rw [show v.plain = { v with f := 0 } by simp [V.plain, *]]; exact ⟨trivial, _, resAll_cell1 (v := .agg ((V.row ({ v with f := 0 })).map .pv)) t40 rfl, leave_agg (ps := V.row ({ v with f := 0 }))⟩)
          | (rw [show v.plain = v by simp [V.plain, *]]; exact ⟨trivial, _, resAll_cell1 (v := .agg ((V.row (v)).map .pv)) t40 rfl, leave_agg (ps := V.row (v))⟩)
    ·
      refine wo_mpv rfl rfl rfl rfl rfl ?_
      refine wo_off rfl rfl rfl ?_
      refine wo_off rfl rfl rfl ?_
      refine wo_off rfl rfl rfl ?_
      refine wo_pick (v := .pv _) rfl rfl rfl rfl rfl rfl ?_
      refine wo_apv rfl rfl rfl rfl rfl ?_
      refine wo_nil ?_
      refine ⟨[_, _, _, _, _, _, _, _, _, _, _, _, _, _, _, _, _, _, _, _, _, _, _, _, _, _, _, _, _, _], rfl, ?_⟩
      refine wp_false rfl ?_
      refine wp_seq ?_
      refine wp_region rfl rfl ?_
      refine wo_faddr t40 t3 rfl rfl rfl rfl rfl rfl rfl ?_
      refine wo_load t3 rfl rfl rfl rfl rfl rfl ?_
      refine wo_esplit rfl rfl rfl rfl rfl (fun c5_2 => ?_) (fun c5_2 => ?_)
      ·
        refine wo_mpv rfl rfl rfl rfl rfl ?_
        refine wo_faddr t40 t38 rfl rfl rfl rfl rfl rfl rfl ?_
        refine wo_load t38 rfl rfl rfl rfl rfl rfl ?_
        cases hz : isZero v.f
        ·
          refine wo_bin (v := .pv (.bool false)) rfl rfl rfl rfl (vF hz) ?_
          refine wo_pick (v := .pv _) rfl rfl rfl rfl rfl rfl ?_
          refine wo_apv rfl rfl rfl rfl rfl ?_
          refine wo_nil ?_
          refine ⟨[_, _, _, _, _, _, _, _, _, _, _, _, _, _, _, _, _, _, _, _, _, _, _, _, _, _, _, _, _, _], rfl, ?_⟩
          refine wp_false rfl ?_
          refine wp_skip ?_
          refine wp_seq ?_
          refine wp_region rfl rfl ?_
          refine wo_load (v := .agg [_, _, _, _]) t40 rfl rfl rfl rfl rfl rfl ?_
          refine wo_store (cs' := [_, _, _, _]) (H' := [_, _]) t40 rfl rfl rfl rfl rfl rfl rfl rfl rfl ?_
          refine wo_nil ?_
          refine ⟨[_, _, _, _, _, _, _, _, _, _, _, _, _, _, _, _, _, _, _, _, _, _, _, _, _, _, _, _, _, _], rfl, ?_⟩
          refine wp_ret ?_
          first
            | (exfalso; omega)
            | (rw [show v.plain = V0 by simp [V.plain, *]]; exact ⟨trivial, _, resAll_cell1 (v := .agg ((V.row (V0)).map .pv)) t40 rfl, leave_agg (ps := V.row (V0))⟩)
            | (rw [show v.plain = { v with f := 9221120237041090561 } by simp [V.plain, *]]; exact ⟨trivial, _, resAll_cell1 (v := .agg ((V.row ({ v with f := 9221120237041090561 })).map .pv)) t40 rfl, leave_agg (ps := V.row ({ v with f := 9221120237041090561 }))⟩)
            | (rw [show v.plain = { v with f := 0 } by simp [V.plain, *]]; exact ⟨trivial, _, resAll_cell1 (v := .agg ((V.row ({ v with f := 0 })).map .pv)) t40 rfl, leave_agg (ps := V.row ({ v with f := 0 }))⟩)
            | (rw [show v.plain = v by simp [V.plain, *]]; exact ⟨trivial, _, resAll_cell1 (v := .agg ((V.row (v)).map .pv)) t40 rfl, leave_agg (ps := V.row (v))⟩)
        ·
          refine wo_bin (v := .pv (.bool true)) rfl rfl rfl rfl (vT hz) ?_
          refine wo_pick (v := .pv _) rfl rfl rfl rfl rfl rfl ?_
          refine wo_apv rfl rfl rfl rfl rfl ?_
          refine wo_nil ?_
          refine ⟨[_, _, _, _, _, _, _, _, _, _, _, _, _, _, _, _, _, _, _, _, _, _, _, _, _, _, _, _, _, _], rfl, ?_⟩
          refine wp_true rfl ?_
          refine wp_region rfl rfl ?_
          refine wo_faddr t40 t38 rfl rfl rfl rfl rfl rfl rfl ?_
          refine wo_store (cs' := [_, _, _, _]) (H' := [_, _]) t38 rfl rfl rfl rfl rfl rfl rfl rfl rfl ?_
          refine wo_nil ?_
          refine ⟨[_, _, _, _, _, _, _, _, _, _, _, _, _, _, _, _, _, _, _, _, _, _, _, _, _, _, _, _, _, _], rfl, ?_⟩
          refine wp_seq ?_
          refine wp_region rfl rfl ?_
          refine wo_load (v := .agg [_, _, _, _]) t40 rfl rfl rfl rfl rfl rfl ?_
          refine wo_store (cs' := [_, _, _, _]) (H' := [_, _]) t40 rfl rfl rfl rfl rfl rfl rfl rfl rfl ?_
          refine wo_nil ?_
          refine ⟨[_, _, _, _, _, _, _, _, _, _, _, _, _, _, _, _, _, _, _, _, _, _, _, _, _, _, _, _, _, _], rfl, ?_⟩
          refine wp_ret ?_
          first
            | (exfalso; omega)
            | (rw [show v.plain = V0 by simp [V.plain, *]]; exact ⟨trivial, _, resAll_cell1 (v := .agg ((V.row (V0)).map .pv)) t40 rfl, leave_agg (ps := V.row (V0))⟩)
            | (rw [show v.plain = { v with f := 9221120237041090561 } by simp [V.plain, *]]; exact ⟨trivial, _, resAll_cell1 (v := .agg ((V.row ({ v with f := 9221120237041090561 })).map .pv)) t40 rfl, leave_agg (ps := V.row ({ v with f := 9221120237041090561 }))⟩)
            | (rw [show v.plain = { v with f := 0 } by simp [V.plain, *]]; exact ⟨trivial, _, resAll_cell1 (v := .agg ((V.row ({ v with f := 0 })).map .pv)) t40 rfl, leave_agg (ps := V.row ({ v with f := 0 }))⟩)
            | (rw [show v.plain = v by simp [V.plain, *]]; exact ⟨trivial, _, resAll_cell1 (v := .agg ((V.row (v)).map .pv)) t40 rfl, leave_agg (ps := V.row (v))⟩)
      ·
        refine wo_mpv rfl rfl rfl rfl rfl ?_
        refine wo_off rfl rfl rfl ?_
        refine wo_off rfl rfl rfl ?_
        refine wo_off rfl rfl rfl ?_
        refine wo_pick (v := .pv _) rfl rfl rfl rfl rfl rfl ?_
        refine wo_apv rfl rfl rfl rfl rfl ?_
        refine wo_nil ?_
        refine ⟨[_, _, _, _, _, _, _, _, _, _, _, _, _, _, _, _, _, _, _, _, _, _, _, _, _, _, _, _, _, _], rfl, ?_⟩
        refine wp_false rfl ?_
        refine wp_skip ?_
        refine wp_seq ?_
        refine wp_region rfl rfl ?_
        refine wo_load (v := .agg [_, _, _, _]) t40 rfl rfl rfl rfl rfl rfl ?_
        refine wo_store (cs' := [_, _, _, _]) (H' := [_, _]) t40 rfl rfl rfl rfl rfl rfl rfl rfl rfl ?_
        refine wo_nil ?_
        refine ⟨[_, _, _, _, _, _, _, _, _, _, _, _, _, _, _, _, _, _, _, _, _, _, _, _, _, _, _, _, _, _], rfl, ?_⟩
        refine wp_ret ?_
        first
          | (exfalso; omega)
          | (rw [show v.plain = V0 by simp [V.plain, *]]; exact ⟨trivial, _, resAll_cell1 (v := .agg ((V.row (V0)).map .pv)) t40 rfl, leave_agg (ps := V.row (V0))⟩)
          | (rw [show v.plain = { v with f := 9221120237041090561 } by simp [V.plain, *]]; exact ⟨trivial, _, resAll_cell1 (v := .agg ((V.row ({ v with f := 9221120237041090561 })).map .pv)) t40 rfl, leave_agg (ps := V.row ({ v with f := 9221120237041090561 }))⟩)
          | (rw [show v.plain = { v with f := 0 } by simp [V.plain, *]]; exact ⟨trivial, _, resAll_cell1 (v := .agg ((V.row ({ v with f := 0 })).map .pv)) t40 rfl, leave_agg (ps := V.row ({ v with f := 0 }))⟩)
          | (rw [show v.plain = v by simp [V.plain, *]]; exact ⟨trivial, _, resAll_cell1 (v := .agg ((V.row (v)).map .pv)) t40 rfl, leave_agg (ps := V.row (v))⟩)
theorem rPlain_ok {v : V} (hv : v.Ok) (N : Nat) (hN : 3 ≤ N) : call G N 47 [.agg (v.row.map .pv)] [] = some (.ret (.agg (v.rplain.row.map .pv)), []) := by
  obtain ⟨N, rfl⟩ : ∃ M, N = M + 1 := ⟨N - 1, by omega⟩
  refine call_eq func47 rfl (show _ = [_, _, _, _, _, _, _, _, _, _, _, _, _, _, _, _, _] from rfl) ?_
  refine wp_seq ?_
  refine wp_region rfl rfl ?_
  refine wo_box (cs := [_, _, _, _]) (H' := [_]) rfl rfl rfl rfl rfl rfl ?_
  refine wo_alloc (cs := [_, _, _, _]) (H' := [_, _]) t40 rfl rfl rfl rfl rfl rfl ?_
  refine wo_nil ?_
  refine ⟨[_, _, _, _, _, _, _, _, _, _, _, _, _, _, _, _, _], rfl, ?_⟩
  refine wp_seq ?_
  refine wp_seq ?_
  refine wp_region rfl rfl ?_
  refine wo_load (v := .agg [_, _, _, _]) t40 rfl rfl rfl rfl rfl rfl ?_
  cases hr : v.right
  ·
    refine wo_call (v := .pv (.bool false)) (H' := [_, _]) rfl rfl rfl rfl rfl rfl ((cl46 _ _ _ _).trans (callPure_pv rfl (fun _ => rfl) (by rw [← hr]; exact rRight_ok hv _ (by omega)))) rfl rfl rfl ?_
    refine wo_un rfl rfl rfl rfl rfl ?_
    refine wo_nil ?_
    refine ⟨[_, _, _, _, _, _, _, _, _, _, _, _, _, _, _, _, _], rfl, ?_⟩
    refine wp_true rfl ?_
    refine wp_seq ?_
    refine wp_region rfl rfl ?_
    refine wo_build (v := .agg [.pv (.int .i64 0), .pv (.int .i64 0), .pv (.flt .f64 0), .pv (.str ByteArray.empty)]) rfl rfl rfl rfl (build40) ?_
    refine wo_store (cs' := [_, _, _, _]) (H' := [_, _]) t40 rfl rfl rfl rfl rfl rfl rfl rfl rfl ?_
    refine wo_nil ?_
    refine ⟨[_, _, _, _, _, _, _, _, _, _, _, _, _, _, _, _, _], rfl, ?_⟩
    refine wp_ret ?_
    first
      | (exfalso; omega)
      | (rw [show v.rplain = V0 by simp [V.rplain, *]]; exact ⟨trivial, _, resAll_cell1 (v := .agg ((V.row (V0)).map .pv)) t40 rfl, leave_agg (ps := V.row (V0))⟩)
      | (rw [show v.rplain = ⟨3, 0, 0, ByteArray.empty⟩ by simp [V.rplain, *]]; exact ⟨trivial, _, resAll_cell1 (v := .agg ((V.row (⟨3, 0, 0, ByteArray.empty⟩)).map .pv)) t40 rfl, leave_agg (ps := V.row (⟨3, 0, 0, ByteArray.empty⟩))⟩)
      | (rw [show v.rplain = v by simp [V.rplain, *]]; exact ⟨trivial, _, resAll_cell1 (v := .agg ((V.row (v)).map .pv)) t40 rfl, leave_agg (ps := V.row (v))⟩)
  ·
    refine wo_call (v := .pv (.bool true)) (H' := [_, _]) rfl rfl rfl rfl rfl rfl ((cl46 _ _ _ _).trans (callPure_pv rfl (fun _ => rfl) (by rw [← hr]; exact rRight_ok hv _ (by omega)))) rfl rfl rfl ?_
    refine wo_un rfl rfl rfl rfl rfl ?_
    refine wo_nil ?_
    refine ⟨[_, _, _, _, _, _, _, _, _, _, _, _, _, _, _, _, _], rfl, ?_⟩
    refine wp_false rfl ?_
    refine wp_skip ?_
    refine wp_seq ?_
    refine wp_seq ?_
    refine wp_region rfl rfl ?_
    refine wo_faddr t40 t3 rfl rfl rfl rfl rfl rfl rfl ?_
    refine wo_load t3 rfl rfl rfl rfl rfl rfl ?_
    refine wo_esplit rfl rfl rfl rfl rfl (fun c3_2 => ?_) (fun c3_2 => ?_)
    ·
      refine wo_mpv rfl rfl rfl rfl rfl ?_
      refine wo_faddr t40 t38 rfl rfl rfl rfl rfl rfl rfl ?_
      refine wo_load t38 rfl rfl rfl rfl rfl rfl ?_
      cases hz : isZero v.f
      ·
        refine wo_bin (v := .pv (.bool false)) rfl rfl rfl rfl (vF hz) ?_
        refine wo_pick (v := .pv _) rfl rfl rfl rfl rfl rfl ?_
        refine wo_nil ?_
        refine ⟨[_, _, _, _, _, _, _, _, _, _, _, _, _, _, _, _, _], rfl, ?_⟩
        refine wp_false rfl ?_
        refine wp_skip ?_
        refine wp_seq ?_
        refine wp_region rfl rfl ?_
        refine wo_load (v := .agg [_, _, _, _]) t40 rfl rfl rfl rfl rfl rfl ?_
        refine wo_store (cs' := [_, _, _, _]) (H' := [_, _]) t40 rfl rfl rfl rfl rfl rfl rfl rfl rfl ?_
        refine wo_nil ?_
        refine ⟨[_, _, _, _, _, _, _, _, _, _, _, _, _, _, _, _, _], rfl, ?_⟩
        refine wp_ret ?_
        first
          | (exfalso; omega)
          | (rw [show v.rplain = V0 by simp [V.rplain, *]]; exact ⟨trivial, _, resAll_cell1 (v := .agg ((V.row (V0)).map .pv)) t40 rfl, leave_agg (ps := V.row (V0))⟩)
          | (rw [show v.rplain = ⟨3, 0, 0, ByteArray.empty⟩ by simp [V.rplain, *]]; exact ⟨trivial, _, resAll_cell1 (v := .agg ((V.row (⟨3, 0, 0, ByteArray.empty⟩)).map .pv)) t40 rfl, leave_agg (ps := V.row (⟨3, 0, 0, ByteArray.empty⟩))⟩)
          | (rw [show v.rplain = v by simp [V.rplain, *]]; exact ⟨trivial, _, resAll_cell1 (v := .agg ((V.row (v)).map .pv)) t40 rfl, leave_agg (ps := V.row (v))⟩)
      ·
        refine wo_bin (v := .pv (.bool true)) rfl rfl rfl rfl (vT hz) ?_
        refine wo_pick (v := .pv _) rfl rfl rfl rfl rfl rfl ?_
        refine wo_nil ?_
        refine ⟨[_, _, _, _, _, _, _, _, _, _, _, _, _, _, _, _, _], rfl, ?_⟩
        refine wp_true rfl ?_
        refine wp_seq ?_
        refine wp_region rfl rfl ?_
        refine wo_build (v := .agg [.pv (.int .i64 3), .pv (.int .i64 0), .pv (.flt .f64 0), .pv (.str ByteArray.empty)]) rfl rfl rfl rfl (build40k) ?_
        refine wo_store (cs' := [_, _, _, _]) (H' := [_, _]) t40 rfl rfl rfl rfl rfl rfl rfl rfl rfl ?_
        refine wo_nil ?_
        refine ⟨[_, _, _, _, _, _, _, _, _, _, _, _, _, _, _, _, _], rfl, ?_⟩
        refine wp_ret ?_
        first
          | (exfalso; omega)
          | (rw [show v.rplain = V0 by simp [V.rplain, *]]; exact ⟨trivial, _, resAll_cell1 (v := .agg ((V.row (V0)).map .pv)) t40 rfl, leave_agg (ps := V.row (V0))⟩)
          | (rw [show v.rplain = ⟨3, 0, 0, ByteArray.empty⟩ by simp [V.rplain, *]]; exact ⟨trivial, _, resAll_cell1 (v := .agg ((V.row (⟨3, 0, 0, ByteArray.empty⟩)).map .pv)) t40 rfl, leave_agg (ps := V.row (⟨3, 0, 0, ByteArray.empty⟩))⟩)
          | (rw [show v.rplain = v by simp [V.rplain, *]]; exact ⟨trivial, _, resAll_cell1 (v := .agg ((V.row (v)).map .pv)) t40 rfl, leave_agg (ps := V.row (v))⟩)
    ·
      refine wo_mpv rfl rfl rfl rfl rfl ?_
      refine wo_off rfl rfl rfl ?_
      refine wo_off rfl rfl rfl ?_
      refine wo_off rfl rfl rfl ?_
      refine wo_pick (v := .pv _) rfl rfl rfl rfl rfl rfl ?_
      refine wo_nil ?_
      refine ⟨[_, _, _, _, _, _, _, _, _, _, _, _, _, _, _, _, _], rfl, ?_⟩
      refine wp_false rfl ?_
      refine wp_skip ?_
      refine wp_seq ?_
      refine wp_region rfl rfl ?_
      refine wo_load (v := .agg [_, _, _, _]) t40 rfl rfl rfl rfl rfl rfl ?_
      refine wo_store (cs' := [_, _, _, _]) (H' := [_, _]) t40 rfl rfl rfl rfl rfl rfl rfl rfl rfl ?_
      refine wo_nil ?_
      refine ⟨[_, _, _, _, _, _, _, _, _, _, _, _, _, _, _, _, _], rfl, ?_⟩
      refine wp_ret ?_
      first
        | (exfalso; omega)
        | (rw [show v.rplain = V0 by simp [V.rplain, *]]; exact ⟨trivial, _, resAll_cell1 (v := .agg ((V.row (V0)).map .pv)) t40 rfl, leave_agg (ps := V.row (V0))⟩)
        | (rw [show v.rplain = ⟨3, 0, 0, ByteArray.empty⟩ by simp [V.rplain, *]]; exact ⟨trivial, _, resAll_cell1 (v := .agg ((V.row (⟨3, 0, 0, ByteArray.empty⟩)).map .pv)) t40 rfl, leave_agg (ps := V.row (⟨3, 0, 0, ByteArray.empty⟩))⟩)
        | (rw [show v.rplain = v by simp [V.rplain, *]]; exact ⟨trivial, _, resAll_cell1 (v := .agg ((V.row (v)).map .pv)) t40 rfl, leave_agg (ps := V.row (v))⟩)
/-- Two values that nothing tells apart. -/
structure EqV (v w : V) : Prop where
  k : v.k = w.k
  n : v.n = w.n
  s : v.s = w.s
  b : nbits v.f = nbits w.f
  z : posz v.f = posz w.f
theorem beq_same (b : Bool) : some (AV.pv (.bool (b == b))) = some (AV.pv (.bool true)) := by cases b <;> rfl
theorem exact_ok {v w : V} (hv : v.Ok) (hw : w.Ok) (h : EqV v w) (N : Nat) (hN : 2 ≤ N) : call G N 48 [.agg (v.row.map .pv), .agg (w.row.map .pv)] [] = some (.ret (.pv (.bool true)), []) := by
  obtain ⟨N, rfl⟩ : ∃ M, N = M + 1 := ⟨N - 1, by omega⟩
  refine call_eq func48 rfl (show _ = [_, _, _, _, _, _, _, _, _, _, _, _, _, _, _, _, _, _, _, _, _, _, _, _, _, _, _, _, _, _, _, _, _, _, _, _, _, _, _, _, _, _] from rfl) ?_
  refine wp_seq ?_
  refine wp_region rfl rfl ?_
  refine wo_box (cs := [_, _, _, _]) (H' := [_]) rfl rfl rfl rfl rfl rfl ?_
  refine wo_box (cs := [_, _, _, _]) (H' := [_, _]) rfl rfl rfl rfl rfl rfl ?_
  refine wo_apv rfl rfl rfl rfl rfl ?_
  refine wo_nil ?_
  refine ⟨[_, _, _, _, _, _, _, _, _, _, _, _, _, _, _, _, _, _, _, _, _, _, _, _, _, _, _, _, _, _, _, _, _, _, _, _, _, _, _, _, _, _], rfl, ?_⟩
  refine wp_seq ?_
  refine wp_drawn rfl rfl (by kernel_rfl) ?_
  refine wo_faddr t40 t3 rfl rfl rfl rfl rfl rfl rfl ?_
  refine wo_load t3 rfl rfl rfl rfl rfl rfl ?_
  refine wo_faddr t40 t3 rfl rfl rfl rfl rfl rfl rfl ?_
  refine wo_load t3 rfl rfl rfl rfl rfl rfl ?_
  refine wo_bin (v := .pv (.bool true)) rfl rfl rfl rfl (eT h.k) ?_
  refine wo_mpv rfl rfl rfl rfl rfl ?_
  refine wo_faddr t40 t2 rfl rfl rfl rfl rfl rfl rfl ?_
  refine wo_load t2 rfl rfl rfl rfl rfl rfl ?_
  refine wo_faddr t40 t2 rfl rfl rfl rfl rfl rfl rfl ?_
  refine wo_load t2 rfl rfl rfl rfl rfl rfl ?_
  refine wo_bin (v := .pv (.bool true)) rfl rfl rfl rfl (eT h.n) ?_
  refine wo_norm [_, _, _, _, _, _, _, _, _, _, _, _, _, _, _, _, _, _, _, _, _, _, _, _, _, _, _, _, _, _, _, _, _, _, _, _, _, _, _, _, _, _] rfl ?_
  refine wo_pick (v := .pv _) rfl rfl rfl rfl rfl rfl ?_
  refine wo_mpv rfl rfl rfl rfl rfl ?_
  refine wo_faddr t40 t9 rfl rfl rfl rfl rfl rfl rfl ?_
  refine wo_load t9 rfl rfl rfl rfl rfl rfl ?_
  refine wo_faddr t40 t9 rfl rfl rfl rfl rfl rfl rfl ?_
  refine wo_load t9 rfl rfl rfl rfl rfl rfl ?_
  refine wo_bin (v := .pv (.bool true)) rfl rfl rfl rfl ((by rw [h.s]; exact strEq _)) ?_
  refine wo_pick (v := .pv _) rfl rfl rfl rfl rfl rfl ?_
  refine wo_mpv rfl rfl rfl rfl rfl ?_
  refine wo_faddr t40 t38 rfl rfl rfl rfl rfl rfl rfl ?_
  refine wo_load t38 rfl rfl rfl rfl rfl rfl ?_
  refine wo_call (v := .pv _) (H' := [_, _]) rfl rfl rfl rfl rfl rfl ((cl61 _ _ _ _).trans (callPure_pv rfl (fun _ => rfl) (bits_ok _ _ (by omega)))) rfl rfl rfl ?_
  refine wo_norm [_, _, _, _, _, _, _, _, _, _, _, _, _, _, _, _, _, _, _, _, _, _, _, _, _, _, _, _, _, _, _, _, _, _, _, _, _, _, _, _, _, _] rfl ?_
  refine wo_faddr t40 t38 rfl rfl rfl rfl rfl rfl rfl ?_
  refine wo_load t38 rfl rfl rfl rfl rfl rfl ?_
  refine wo_call (v := .pv _) (H' := [_, _]) rfl rfl rfl rfl rfl rfl ((cl61 _ _ _ _).trans (callPure_pv rfl (fun _ => rfl) (bits_ok _ _ (by omega)))) rfl rfl rfl ?_
  refine wo_bin (v := .pv (.bool true)) rfl rfl rfl rfl (eT (by rw [h.b])) ?_
  refine wo_pick (v := .pv _) rfl rfl rfl rfl rfl rfl ?_
  refine wo_mpv rfl rfl rfl rfl rfl ?_
  refine wo_faddr t40 t38 rfl rfl rfl rfl rfl rfl rfl ?_
  refine wo_load t38 rfl rfl rfl rfl rfl rfl ?_
  refine wo_call (v := .pv _) (H' := [_, _]) rfl rfl rfl rfl rfl rfl ((cl60 _ _ _ _).trans (callPure_pv rfl (fun _ => rfl) (zero_ok hv.f _ (by omega)))) rfl rfl rfl ?_
  refine wo_faddr t40 t38 rfl rfl rfl rfl rfl rfl rfl ?_
  refine wo_load t38 rfl rfl rfl rfl rfl rfl ?_
  refine wo_call (v := .pv _) (H' := [_, _]) rfl rfl rfl rfl rfl rfl ((cl60 _ _ _ _).trans (callPure_pv rfl (fun _ => rfl) (zero_ok hw.f _ (by omega)))) rfl rfl rfl ?_
  refine wo_norm [_, _, _, _, _, _, _, _, _, _, _, _, _, _, _, _, _, _, _, _, _, _, _, _, _, _, _, _, _, _, _, _, _, _, _, _, _, _, _, _, _, _] rfl ?_
  refine wo_bint t4 (v := .pv (.bool true)) rfl rfl rfl rfl ((by rw [h.z]; exact beq_same _)) ?_
  refine wo_pick (v := .pv _) rfl rfl rfl rfl rfl rfl ?_
  refine wo_apv rfl rfl rfl rfl rfl ?_
  refine wo_nil ?_
  refine ⟨by kernel_rfl, ?_⟩
  refine ⟨[_, _, _, _, _, _, _, _, _, _, _, _, _, _, _, _, _, _, _, _, _, _, _, _, _, _, _, _, _, _, _, _, _, _, _, _, _, _, _, _, _, _], rfl, ?_⟩
  refine wp_ret ?_
  exact ⟨trivial, _, rfl, leave_pure⟩

/-- Slices of values, nil or not. -/
def SV (p : PV) (l : List V) : Prop := p = .sl (l.map V.row) ∨ (p = .nils ∧ l = [])
theorem SV.len {p : PV} {l : List V} (h : SV p l) (e : Nat) : lenT (.slice e) (.pv p) = some l.length := by
  rcases h with rfl | ⟨rfl, rfl⟩ <;> simp [lenT, lenA]
theorem SV.get {p : PV} {l : List V} (h : SV p l) {i : Nat} (hi : i < l.length) {k : IntKind} {ix : Int} (hj : ix = (i : Int)) : aIndexAddr G.T 31 (.pv p) (.pv (.int k ix)) = some (.pv (.ptr (l[i]).row 0)) := by
  rcases h with rfl | ⟨rfl, rfl⟩
  · exact iaddr_pv t31 t40 hj (by simp [List.getElem?_eq_getElem hi]) rfl
  · cases hi
def OkL (l : List V) : Prop := ∀ v ∈ l, v.Ok
theorem exactL_ok {p q : PV} {a b : List V} (hp : SV p a) (hq : SV q b) (ha : OkL a) (hb : OkL b) (hab : a.length = b.length) (he : ∀ (i : Nat) (h : i < a.length) (h' : i < b.length), EqV a[i] b[i]) (hl : a.length ≤ 1000) (N : Nat) (hN : a.length + 4 ≤ N) :
    call G N 23 [.pv p, .pv q] [] = some (.ret (.pv (.bool true)), []) := by
  obtain ⟨N, rfl⟩ : ∃ M, N = M + 1 := ⟨N - 1, by omega⟩
  refine call_eq func23 rfl (show _ = [_, _, _, _, _, _, _, _, _, _, _, _, _, _, _, _, _, _, _, _, _, _, _, _, _, _, _] from rfl) ?_
  refine wp_seq ?_
  refine wp_region rfl rfl ?_
  refine wo_apv rfl rfl rfl rfl rfl ?_
  refine wo_nil ?_
  refine ⟨[_, _, _, _, _, _, _, _, _, _, _, _, _, _, _, _, _, _, _, _, _, _, _, _, _, _, _], rfl, ?_⟩
  refine wp_seq ?_
  refine wp_seq ?_
  refine wp_region rfl rfl ?_
  refine wo_mpv rfl rfl rfl rfl rfl ?_
  refine wo_len (ln := a.length) t31 rfl rfl rfl rfl rfl rfl rfl (hp.len 40) rfl ?_
  refine wo_mpv rfl rfl rfl rfl rfl ?_
  refine wo_len (ln := b.length) t31 rfl rfl rfl rfl rfl rfl rfl (hq.len 40) rfl ?_
  refine wo_bin (v := .pv (.bool false)) rfl rfl rfl rfl (nF (by rw [hab])) ?_
  refine wo_nil ?_
  refine ⟨[_, _, _, _, _, _, _, _, _, _, _, _, _, _, _, _, _, _, _, _, _, _, _, _, _, _, _], rfl, ?_⟩
  refine wp_false rfl ?_
  refine wp_skip ?_
  refine wp_seq ?_
  refine wp_seq ?_
  refine wp_region rfl rfl ?_
  refine wo_apv rfl rfl rfl rfl rfl ?_
  refine wo_nil ?_
  refine ⟨[_, _, _, _, _, _, _, _, _, _, _, _, _, _, _, _, _, _, _, _, _, _, _, _, _, _, _], rfl, ?_⟩
  refine wp_block ?_
  refine wp_loop (fun k t H => ∃ j : Nat, j + k = a.length ∧ t = [.pv p, .pv q, .any, .any, .any, .pv (.int .i64 (j : Nat)), .any, .any, .any, .any, .any, .any, .any, .any, .any, .any, .any, .any, .any, .any, .any, .any, .any, .any, .any, .any, .any] ∧ H = []) a.length ⟨0, by omega, rfl, rfl⟩ (by omega) ?_
  rintro k _ _ hk ⟨j, hj, rfl, rfl⟩
  refine wp_seq ?_
  refine wp_seq ?_
  refine wp_region rfl rfl ?_
  refine wo_mpv rfl rfl rfl rfl rfl ?_
  refine wo_mpv rfl rfl rfl rfl rfl ?_
  refine wo_len (ln := a.length) t31 rfl rfl rfl rfl rfl rfl rfl (hp.len 40) rfl ?_
  refine wo_bsplit rfl rfl rfl rfl rfl (fun c4_3 => ?_) (fun c4_3 => ?_)
  ·
    refine wo_nil ?_
    refine ⟨[_, _, _, _, _, _, _, _, _, _, _, _, _, _, _, _, _, _, _, _, _, _, _, _, _, _, _], rfl, ?_⟩
    refine wp_true rfl ?_
    refine wp_skip ?_
    refine wp_seq ?_
    refine wp_block ?_
    refine wp_seq ?_
    refine wp_drawn rfl rfl (by kernel_rfl) ?_
    refine wo_mpv rfl rfl rfl rfl rfl ?_
    refine wo_mpv rfl rfl rfl rfl rfl ?_
    have hja : j < a.length := by omega
    have hjb : j < b.length := by omega
    refine wo_iaddr (v := .pv (.ptr (a[j]).row 0)) rfl rfl rfl rfl (hp.get (i := j) hja rfl) ?_
    refine wo_load (v := .agg [_, _, _, _]) t40 rfl rfl rfl rfl rfl rfl ?_
    refine wo_mpv rfl rfl rfl rfl rfl ?_
    refine wo_mpv rfl rfl rfl rfl rfl ?_
    refine wo_iaddr (v := .pv (.ptr (b[j]).row 0)) rfl rfl rfl rfl (hq.get (i := j) hjb rfl) ?_
    refine wo_load (v := .agg [_, _, _, _]) t40 rfl rfl rfl rfl rfl rfl ?_
    refine wo_call (v := .pv (.bool true)) (H' := []) rfl rfl rfl rfl rfl rfl ((cl48 _ _ _ _).trans (callPure_pv rfl (fun _ => rfl) (exact_ok (ha _ (List.getElem_mem hja)) (hb _ (List.getElem_mem hjb)) (he j hja hjb) _ (by omega)))) rfl rfl rfl ?_
    refine wo_un rfl rfl rfl rfl rfl ?_
    refine wo_nil ?_
    refine ⟨by kernel_rfl, ?_⟩
    refine ⟨[_, _, _, _, _, _, _, _, _, _, _, _, _, _, _, _, _, _, _, _, _, _, _, _, _, _, _], rfl, ?_⟩
    refine wp_false rfl ?_
    refine wp_skip ?_
    refine wp_region rfl rfl ?_
    refine wo_mpv rfl rfl rfl rfl rfl ?_
    refine wo_bin (v := .pv (.int .i64 ((j + 1 : Nat) : Int))) rfl rfl rfl rfl (iV (by rw [wrapI (by omega) (by omega)]; omega)) ?_
    refine wo_apv rfl rfl rfl rfl rfl ?_
    refine wo_nil ?_
    refine ⟨[_, _, _, _, _, _, _, _, _, _, _, _, _, _, _, _, _, _, _, _, _, _, _, _, _, _, _], rfl, ?_⟩
    refine ⟨_, _, tidy_norm (t' := [_, _, _, _, _, _, _, _, _, _, _, _, _, _, _, _, _, _, _, _, _, _, _, _, _, _, _]) rfl rfl rfl, k - 1, by omega, j + 1, by omega, rfl, rfl⟩
  ·
    refine wo_nil ?_
    refine ⟨[_, _, _, _, _, _, _, _, _, _, _, _, _, _, _, _, _, _, _, _, _, _, _, _, _, _, _], rfl, ?_⟩
    refine wp_false rfl ?_
    refine wp_exit ?_
    refine wp_seq ?_
    refine wp_region rfl rfl ?_
    refine wo_apv rfl rfl rfl rfl rfl ?_
    refine wo_nil ?_
    refine ⟨[_, _, _, _, _, _, _, _, _, _, _, _, _, _, _, _, _, _, _, _, _, _, _, _, _, _, _], rfl, ?_⟩
    refine wp_ret ?_
    exact ⟨trivial, _, rfl, leave_pure⟩
end Go.Ab.Ytnfgpejdbmakkaa
