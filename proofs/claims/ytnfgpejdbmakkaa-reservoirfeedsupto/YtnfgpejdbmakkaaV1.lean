import Derived.Test.YtnfgpejdbmakkaaW2
import Derived.Test.YtnfgpejdbmakkaaAbFlt
namespace Go.Ab.Ytnfgpejdbmakkaa
open Go Go.Ab
open Go.Proofs.Try
set_option maxRecDepth 100000
set_option maxHeartbeats 1000000
set_option linter.unusedSimpArgs false
set_option linter.unusedVariables false

/-- A value's cells. -/
structure V where
  k : Int
  n : Int
  f : Nat
  s : ByteArray
def V.cells (v : V) : List AV := [.pv (.int .i64 v.k), .pv (.int .i64 v.n), .pv (.flt .f64 v.f), .pv (.str v.s)]
def V.row (v : V) : List PV := [.int .i64 v.k, .int .i64 v.n, .flt .f64 v.f, .str v.s]
structure V.Ok (v : V) : Prop where
  k1 : -9223372036854775808 ≤ v.k
  k2 : v.k < 9223372036854775808
  n1 : -9223372036854775808 ≤ v.n
  n2 : v.n < 9223372036854775808
  f : v.f < 2 ^ 64

theorem cl69 (C : CallF) (b : Nat) (look : Look) (nid : Nat) : aCall G C (.pv (.fn 69 [] [])) [.pv (.flt .f64 b)] look nid = some (.ok ⟨.pv (.int .u64 b), [], []⟩) := aCall_x func69 (by kernel_rfl) (by kernel_rfl) (x := fun
    | [.pv (.flt .f64 b)] => some (.pv (.int .u64 b))
    | _ => none) (by kernel_rfl) rfl
theorem cl59 (C : CallF) (b : Nat) (look : Look) (nid : Nat) : aCall G C (.pv (.fn 59 [] [])) [.pv (.int .u64 b)] look nid = some (.ok ⟨.pv (.flt .f64 b), [], []⟩) := aCall_x func59 (by kernel_rfl) (by kernel_rfl) (x := fun
    | [.pv (.int .u64 n)] => some (.pv (.flt .f64 n.toNat))
    | _ => none) (by kernel_rfl) rfl

theorem signbit_ok (f : Nat) (N : Nat) (hN : 1 ≤ N) : call G N 57 [.pv (.flt .f64 f)] [] = some (.ret (.pv (.bool (signb f))), []) := by
  obtain ⟨N, rfl⟩ : ∃ M, N = M + 1 := ⟨N - 1, by omega⟩
  refine call_eq func57 rfl (show _ = [_, _, _, _, _, _, _] from rfl) ?_
  refine wp_seq ?_
  refine wp_region rfl rfl ?_
  refine wo_apv rfl rfl rfl rfl rfl ?_
  refine wo_nil ?_
  refine ⟨[_, _, _, _, _, _, _], rfl, ?_⟩
  refine wp_seq ?_
  refine wp_region rfl rfl ?_
  refine wo_mpv rfl rfl rfl rfl rfl ?_
  refine wo_call (v := .pv _) (H' := []) rfl rfl rfl rfl rfl rfl (cl69 _ _ _ _) rfl rfl rfl ?_
  refine wo_convi t22 t2 rfl rfl rfl rfl rfl rfl ?_
  refine wo_bin rfl rfl rfl rfl rfl ?_
  refine wo_apv rfl rfl rfl rfl rfl ?_
  refine wo_nil ?_
  refine ⟨[_, _, _, _, _, _, _], rfl, ?_⟩
  refine wp_ret ?_
  exact ⟨trivial, _, rfl, leave_pure⟩
theorem isNaN_ok (f : Nat) (N : Nat) (hN : 1 ≤ N) : call G N 58 [.pv (.flt .f64 f)] [] = some (.ret (.pv (.bool (isNan f))), []) := by
  obtain ⟨N, rfl⟩ : ∃ M, N = M + 1 := ⟨N - 1, by omega⟩
  refine call_eq func58 rfl (show _ = [_, _, _, _, _, _] from rfl) ?_
  refine wp_seq ?_
  refine wp_region rfl rfl ?_
  refine wo_apv rfl rfl rfl rfl rfl ?_
  refine wo_nil ?_
  refine ⟨[_, _, _, _, _, _], rfl, ?_⟩
  refine wp_seq ?_
  refine wp_region rfl rfl ?_
  refine wo_mpv rfl rfl rfl rfl rfl ?_
  refine wo_mpv rfl rfl rfl rfl rfl ?_
  refine wo_bin rfl rfl rfl rfl rfl ?_
  refine wo_apv rfl rfl rfl rfl rfl ?_
  refine wo_nil ?_
  refine ⟨[_, _, _, _, _, _], rfl, ?_⟩
  refine wp_ret ?_
  exact ⟨trivial, _, rfl, leave_pure⟩
/-- Zero, and not below. -/
def posz (f : Nat) : Bool := isZero f && !signb f
theorem zero_ok {f : Nat} (hf : f < 2 ^ 64) (N : Nat) (hN : 1 ≤ N) : call G N 60 [.pv (.flt .f64 f)] [] = some (.ret (.pv (.bool (posz f))), []) := by
  obtain ⟨N, rfl⟩ : ∃ M, N = M + 1 := ⟨N - 1, by omega⟩
  refine call_eq func60 rfl (show _ = [_, _, _, _, _, _, _, _, _, _] from rfl) ?_
  refine wp_seq ?_
  refine wp_region rfl rfl ?_
  refine wo_apv rfl rfl rfl rfl rfl ?_
  refine wo_nil ?_
  refine ⟨[_, _, _, _, _, _, _, _, _, _], rfl, ?_⟩
  refine wp_seq ?_
  refine wp_region rfl rfl ?_
  refine wo_mpv rfl rfl rfl rfl rfl ?_
  cases hz : isZero f
  ·
    refine wo_bin (v := .pv (.bool false)) rfl rfl rfl rfl (vF hz) ?_
    refine wo_mpv rfl rfl rfl rfl rfl ?_
    refine wo_off rfl rfl rfl ?_
    refine wo_off rfl rfl rfl ?_
    refine wo_off rfl rfl rfl ?_
    refine wo_pick (v := .pv _) rfl rfl rfl rfl rfl rfl ?_
    refine wo_apv rfl rfl rfl rfl rfl ?_
    refine wo_nil ?_
    refine ⟨[_, _, _, _, _, _, _, _, _, _], rfl, ?_⟩
    refine wp_ret ?_
    have hR : posz f = false := by unfold posz; rw [hz]; rfl
    rw [hR]
    exact ⟨trivial, _, rfl, leave_pure⟩
  ·
    refine wo_bin (v := .pv (.bool true)) rfl rfl rfl rfl (vT hz) ?_
    refine wo_mpv rfl rfl rfl rfl rfl ?_
    refine wo_mpv rfl rfl rfl rfl rfl ?_
    obtain ⟨r, hr, hr2⟩ := inv_zero hf hz
    refine wo_bin (v := .pv (.flt .f64 r)) rfl rfl rfl rfl ((congrArg (Option.map fun r => AV.pv (.flt .f64 r)) hr)) ?_
    refine wo_bin (v := .pv (.bool (!signb f))) rfl rfl rfl rfl ((congrArg (fun b => some (AV.pv (.bool b))) hr2)) ?_
    refine wo_pick (v := .pv _) rfl rfl rfl rfl rfl rfl ?_
    refine wo_apv rfl rfl rfl rfl rfl ?_
    refine wo_nil ?_
    refine ⟨[_, _, _, _, _, _, _, _, _, _], rfl, ?_⟩
    refine wp_ret ?_
    have hR : posz f = !signb f := by unfold posz; rw [hz]; rfl
    rw [hR]
    exact ⟨trivial, _, rfl, leave_pure⟩
/-- A float's bits, as they are compared. -/
def nbits (b : Nat) : Nat := if isNan b then 9221120237041090561 else if isZero b then 0 else b
theorem bits_ok (f : Nat) (N : Nat) (hN : 1 ≤ N) : call G N 61 [.pv (.flt .f64 f)] [] = some (.ret (.pv (.int .u64 (nbits f))), []) := by
  obtain ⟨N, rfl⟩ : ∃ M, N = M + 1 := ⟨N - 1, by omega⟩
  refine call_eq func61 rfl (show _ = [_, _, _, _, _, _, _, _, _, _] from rfl) ?_
  refine wp_seq ?_
  refine wp_region rfl rfl ?_
  refine wo_apv rfl rfl rfl rfl rfl ?_
  refine wo_nil ?_
  refine ⟨[_, _, _, _, _, _, _, _, _, _], rfl, ?_⟩
  refine wp_seq ?_
  refine wp_seq ?_
  refine wp_region rfl rfl ?_
  refine wo_mpv rfl rfl rfl rfl rfl ?_
  refine wo_mpv rfl rfl rfl rfl rfl ?_
  cases hn : isNan f
  ·
    refine wo_bin (v := .pv (.bool false)) rfl rfl rfl rfl (vF hn) ?_
    refine wo_nil ?_
    refine ⟨[_, _, _, _, _, _, _, _, _, _], rfl, ?_⟩
    refine wp_false rfl ?_
    refine wp_skip ?_
    refine wp_seq ?_
    refine wp_seq ?_
    refine wp_region rfl rfl ?_
    refine wo_mpv rfl rfl rfl rfl rfl ?_
    cases hz : isZero f
    ·
      refine wo_bin (v := .pv (.bool false)) rfl rfl rfl rfl (vF hz) ?_
      refine wo_nil ?_
      refine ⟨[_, _, _, _, _, _, _, _, _, _], rfl, ?_⟩
      refine wp_false rfl ?_
      refine wp_skip ?_
      refine wp_seq ?_
      refine wp_region rfl rfl ?_
      refine wo_mpv rfl rfl rfl rfl rfl ?_
      refine wo_call (v := .pv _) (H' := []) rfl rfl rfl rfl rfl rfl (cl69 _ _ _ _) rfl rfl rfl ?_
      refine wo_apv rfl rfl rfl rfl rfl ?_
      refine wo_nil ?_
      refine ⟨[_, _, _, _, _, _, _, _, _, _], rfl, ?_⟩
      refine wp_ret ?_
      first
        | (rw [show nbits f = 9221120237041090561 by unfold nbits; rw [hn]; rfl]; exact ⟨trivial, _, rfl, leave_pure⟩)
        | (rw [show nbits f = 0 by unfold nbits; rw [hn, hz]; rfl]; exact ⟨trivial, _, rfl, leave_pure⟩)
        | (rw [show nbits f = f by unfold nbits; rw [hn, hz]; rfl]; exact ⟨trivial, _, rfl, leave_pure⟩)
    ·
      refine wo_bin (v := .pv (.bool true)) rfl rfl rfl rfl (vT hz) ?_
      refine wo_nil ?_
      refine ⟨[_, _, _, _, _, _, _, _, _, _], rfl, ?_⟩
      refine wp_true rfl ?_
      refine wp_seq ?_
      refine wp_region rfl rfl ?_
      refine wo_apv rfl rfl rfl rfl rfl ?_
      refine wo_nil ?_
      refine ⟨[_, _, _, _, _, _, _, _, _, _], rfl, ?_⟩
      refine wp_ret ?_
      first
        | (rw [show nbits f = 9221120237041090561 by unfold nbits; rw [hn]; rfl]; exact ⟨trivial, _, rfl, leave_pure⟩)
        | (rw [show nbits f = 0 by unfold nbits; rw [hn, hz]; rfl]; exact ⟨trivial, _, rfl, leave_pure⟩)
        | (rw [show nbits f = f by unfold nbits; rw [hn, hz]; rfl]; exact ⟨trivial, _, rfl, leave_pure⟩)
  ·
    refine wo_bin (v := .pv (.bool true)) rfl rfl rfl rfl (vT hn) ?_
    refine wo_nil ?_
    refine ⟨[_, _, _, _, _, _, _, _, _, _], rfl, ?_⟩
    refine wp_true rfl ?_
    refine wp_seq ?_
    refine wp_region rfl rfl ?_
    refine wo_apv rfl rfl rfl rfl rfl ?_
    refine wo_nil ?_
    refine ⟨[_, _, _, _, _, _, _, _, _, _], rfl, ?_⟩
    refine wp_ret ?_
    first
      | (rw [show nbits f = 9221120237041090561 by unfold nbits; rw [hn]; rfl]; exact ⟨trivial, _, rfl, leave_pure⟩)
      | (rw [show nbits f = 0 by unfold nbits; rw [hn, hz]; rfl]; exact ⟨trivial, _, rfl, leave_pure⟩)
      | (rw [show nbits f = f by unfold nbits; rw [hn, hz]; rfl]; exact ⟨trivial, _, rfl, leave_pure⟩)

/-- May a value be? -/
def V.right (v : V) : Bool :=
  if v.k = 0 then decide (v.n = 0) && posz v.f && emp v.s
  else if v.k = 1 then (decide (v.n = 0) || decide (v.n = 1)) && posz v.f && emp v.s
  else if v.k = 2 then posz v.f && emp v.s
  else if v.k = 3 then decide (v.n = 0) && emp v.s
  else if v.k = 4 then decide (v.n = 0) && posz v.f && decide ((v.s.size : Int) ≤ 64)
  else false
theorem vRight_ok {v : V} (hv : v.Ok) (N : Nat) (hN : 2 ≤ N) : call G N 44 [.agg [.pv (.int .i64 v.k), .pv (.int .i64 v.n), .pv (.flt .f64 v.f), .pv (.str v.s)]] [] = some (.ret (.pv (.bool v.right)), []) := by
  obtain ⟨N, rfl⟩ : ∃ M, N = M + 1 := ⟨N - 1, by omega⟩
  refine call_eq func44 rfl (show _ = [_, _, _, _, _, _, _, _, _, _, _, _, _, _, _, _, _, _, _, _, _, _, _, _, _, _, _, _, _, _, _, _, _, _, _, _, _, _, _, _, _, _, _, _, _, _, _, _, _, _, _, _, _, _, _, _, _, _, _, _, _, _, _, _, _, _, _, _, _, _] from rfl) ?_
  refine wp_seq ?_
  refine wp_region rfl rfl ?_
  refine wo_box (cs := [_, _, _, _]) (H' := [_]) rfl rfl rfl rfl rfl rfl ?_
  refine wo_apv rfl rfl rfl rfl rfl ?_
  refine wo_nil ?_
  refine ⟨[_, _, _, _, _, _, _, _, _, _, _, _, _, _, _, _, _, _, _, _, _, _, _, _, _, _, _, _, _, _, _, _, _, _, _, _, _, _, _, _, _, _, _, _, _, _, _, _, _, _, _, _, _, _, _, _, _, _, _, _, _, _, _, _, _, _, _, _, _, _], rfl, ?_⟩
  refine wp_seq ?_
  refine wp_region rfl rfl ?_
  refine wo_faddr t40 t38 rfl rfl rfl rfl rfl rfl rfl ?_
  refine wo_load t38 rfl rfl rfl rfl rfl rfl ?_
  cases hz : isZero v.f
  ·
    refine wo_bin (v := .pv (.bool false)) rfl rfl rfl rfl (vF hz) ?_
    refine wo_mpv rfl rfl rfl rfl rfl ?_
    refine wo_off rfl rfl rfl ?_
    refine wo_off rfl rfl rfl ?_
    refine wo_off rfl rfl rfl ?_
    refine wo_off rfl rfl rfl ?_
    refine wo_pick (v := .pv _) rfl rfl rfl rfl rfl rfl ?_
    refine wo_apv rfl rfl rfl rfl rfl ?_
    refine wo_nil ?_
    refine ⟨[_, _, _, _, _, _, _, _, _, _, _, _, _, _, _, _, _, _, _, _, _, _, _, _, _, _, _, _, _, _, _, _, _, _, _, _, _, _, _, _, _, _, _, _, _, _, _, _, _, _, _, _, _, _, _, _, _, _, _, _, _, _, _, _, _, _, _, _, _, _], rfl, ?_⟩
    refine wp_seq ?_
    refine wp_seq ?_
    refine wp_region rfl rfl ?_
    refine wo_faddr t40 t3 rfl rfl rfl rfl rfl rfl rfl ?_
    refine wo_load t3 rfl rfl rfl rfl rfl rfl ?_
    refine wo_nil ?_
    refine ⟨[_, _, _, _, _, _, _, _, _, _, _, _, _, _, _, _, _, _, _, _, _, _, _, _, _, _, _, _, _, _, _, _, _, _, _, _, _, _, _, _, _, _, _, _, _, _, _, _, _, _, _, _, _, _, _, _, _, _, _, _, _, _, _, _, _, _, _, _, _, _], rfl, ?_⟩
    refine wp_block ?_
    refine wp_seq ?_
    refine wp_block ?_
    refine wp_seq ?_
    refine wp_block ?_
    refine wp_seq ?_
    refine wp_block ?_
    refine wp_seq ?_
    refine wp_block ?_
    refine wp_seq ?_
    refine wp_block ?_
    refine wp_seq ?_
    refine wp_seq ?_
    refine wp_seq ?_
    refine wp_region rfl rfl ?_
    refine wo_esplit rfl rfl rfl rfl rfl (fun c3_0 => ?_) (fun c3_0 => ?_)
    ·
      refine wo_apv rfl rfl rfl rfl rfl ?_
      refine wo_nil ?_
      refine ⟨[_, _, _, _, _, _, _, _, _, _, _, _, _, _, _, _, _, _, _, _, _, _, _, _, _, _, _, _, _, _, _, _, _, _, _, _, _, _, _, _, _, _, _, _, _, _, _, _, _, _, _, _, _, _, _, _, _, _, _, _, _, _, _, _, _, _, _, _, _, _], rfl, ?_⟩
      refine wp_true rfl ?_
      refine wp_exit ?_
      refine wp_seq ?_
      refine wp_seq ?_
      refine wp_region rfl rfl ?_
      refine wo_faddr t40 t2 rfl rfl rfl rfl rfl rfl rfl ?_
      refine wo_load t2 rfl rfl rfl rfl rfl rfl ?_
      refine wo_esplit rfl rfl rfl rfl rfl (fun c8_2 => ?_) (fun c8_2 => ?_)
      ·
        refine wo_mpv rfl rfl rfl rfl rfl ?_
        refine wo_mpv rfl rfl rfl rfl rfl ?_
        refine wo_pick (v := .pv _) rfl rfl rfl rfl rfl rfl ?_
        refine wo_mpv rfl rfl rfl rfl rfl ?_
        refine wo_off rfl rfl rfl ?_
        refine wo_off rfl rfl rfl ?_
        refine wo_off rfl rfl rfl ?_
        refine wo_pick (v := .pv _) rfl rfl rfl rfl rfl rfl ?_
        refine wo_norm [_, _, _, _, _, _, _, _, _, _, _, _, _, _, _, _, _, _, _, _, _, _, _, _, _, _, _, _, _, _, _, _, _, _, _, _, _, _, _, _, _, _, _, _, _, _, _, _, _, _, _, _, _, _, _, _, _, _, _, _, _, _, _, _, _, _, _, _, _, _] rfl ?_
        refine wo_apv rfl rfl rfl rfl rfl ?_
        refine wo_nil ?_
        refine ⟨[_, _, _, _, _, _, _, _, _, _, _, _, _, _, _, _, _, _, _, _, _, _, _, _, _, _, _, _, _, _, _, _, _, _, _, _, _, _, _, _, _, _, _, _, _, _, _, _, _, _, _, _, _, _, _, _, _, _, _, _, _, _, _, _, _, _, _, _, _, _], rfl, ?_⟩
        refine wp_ret ?_
        have hR : v.right = false := by simp [V.right, posz, *]
        rw [hR]
        exact ⟨trivial, _, rfl, leave_pure⟩
      ·
        refine wo_mpv rfl rfl rfl rfl rfl ?_
        refine wo_off rfl rfl rfl ?_
        refine wo_pick (v := .pv _) rfl rfl rfl rfl rfl rfl ?_
        refine wo_mpv rfl rfl rfl rfl rfl ?_
        refine wo_off rfl rfl rfl ?_
        refine wo_off rfl rfl rfl ?_
        refine wo_off rfl rfl rfl ?_
        refine wo_pick (v := .pv _) rfl rfl rfl rfl rfl rfl ?_
        refine wo_norm [_, _, _, _, _, _, _, _, _, _, _, _, _, _, _, _, _, _, _, _, _, _, _, _, _, _, _, _, _, _, _, _, _, _, _, _, _, _, _, _, _, _, _, _, _, _, _, _, _, _, _, _, _, _, _, _, _, _, _, _, _, _, _, _, _, _, _, _, _, _] rfl ?_
        refine wo_apv rfl rfl rfl rfl rfl ?_
        refine wo_nil ?_
        refine ⟨[_, _, _, _, _, _, _, _, _, _, _, _, _, _, _, _, _, _, _, _, _, _, _, _, _, _, _, _, _, _, _, _, _, _, _, _, _, _, _, _, _, _, _, _, _, _, _, _, _, _, _, _, _, _, _, _, _, _, _, _, _, _, _, _, _, _, _, _, _, _], rfl, ?_⟩
        refine wp_ret ?_
        have hR : v.right = false := by simp [V.right, posz, *]
        rw [hR]
        exact ⟨trivial, _, rfl, leave_pure⟩
    ·
      refine wo_apv rfl rfl rfl rfl rfl ?_
      refine wo_nil ?_
      refine ⟨[_, _, _, _, _, _, _, _, _, _, _, _, _, _, _, _, _, _, _, _, _, _, _, _, _, _, _, _, _, _, _, _, _, _, _, _, _, _, _, _, _, _, _, _, _, _, _, _, _, _, _, _, _, _, _, _, _, _, _, _, _, _, _, _, _, _, _, _, _, _], rfl, ?_⟩
      refine wp_false rfl ?_
      refine wp_skip ?_
      refine wp_seq ?_
      refine wp_seq ?_
      refine wp_region rfl rfl ?_
      refine wo_esplit rfl rfl rfl rfl rfl (fun c4_0 => ?_) (fun c4_0 => ?_)
      ·
        refine wo_apv rfl rfl rfl rfl rfl ?_
        refine wo_nil ?_
        refine ⟨[_, _, _, _, _, _, _, _, _, _, _, _, _, _, _, _, _, _, _, _, _, _, _, _, _, _, _, _, _, _, _, _, _, _, _, _, _, _, _, _, _, _, _, _, _, _, _, _, _, _, _, _, _, _, _, _, _, _, _, _, _, _, _, _, _, _, _, _, _, _], rfl, ?_⟩
        refine wp_true rfl ?_
        refine wp_exit ?_
        refine wp_seq ?_
        refine wp_region rfl rfl ?_
        refine wo_faddr t40 t2 rfl rfl rfl rfl rfl rfl rfl ?_
        refine wo_load t2 rfl rfl rfl rfl rfl rfl ?_
        refine wo_nsplit rfl rfl rfl rfl rfl (fun c9_2 => ?_) (fun c9_2 => ?_)
        ·
          refine wo_mpv rfl rfl rfl rfl rfl ?_
          refine wo_faddr t40 t2 rfl rfl rfl rfl rfl rfl rfl ?_
          refine wo_load t2 rfl rfl rfl rfl rfl rfl ?_
          refine wo_nsplit rfl rfl rfl rfl rfl (fun c9_6 => ?_) (fun c9_6 => ?_)
          ·
            refine wo_pick (v := .pv _) rfl rfl rfl rfl rfl rfl ?_
            refine wo_nil ?_
            refine ⟨[_, _, _, _, _, _, _, _, _, _, _, _, _, _, _, _, _, _, _, _, _, _, _, _, _, _, _, _, _, _, _, _, _, _, _, _, _, _, _, _, _, _, _, _, _, _, _, _, _, _, _, _, _, _, _, _, _, _, _, _, _, _, _, _, _, _, _, _, _, _], rfl, ?_⟩
            refine wp_true rfl ?_
            refine wp_seq ?_
            refine wp_region rfl rfl ?_
            refine wo_apv rfl rfl rfl rfl rfl ?_
            refine wo_nil ?_
            refine ⟨[_, _, _, _, _, _, _, _, _, _, _, _, _, _, _, _, _, _, _, _, _, _, _, _, _, _, _, _, _, _, _, _, _, _, _, _, _, _, _, _, _, _, _, _, _, _, _, _, _, _, _, _, _, _, _, _, _, _, _, _, _, _, _, _, _, _, _, _, _, _], rfl, ?_⟩
            refine wp_ret ?_
            have hR : v.right = false := by simp [V.right, posz, *]
            rw [hR]
            exact ⟨trivial, _, rfl, leave_pure⟩
          ·
            refine wo_pick (v := .pv _) rfl rfl rfl rfl rfl rfl ?_
            refine wo_nil ?_
            refine ⟨[_, _, _, _, _, _, _, _, _, _, _, _, _, _, _, _, _, _, _, _, _, _, _, _, _, _, _, _, _, _, _, _, _, _, _, _, _, _, _, _, _, _, _, _, _, _, _, _, _, _, _, _, _, _, _, _, _, _, _, _, _, _, _, _, _, _, _, _, _, _], rfl, ?_⟩
            refine wp_false rfl ?_
            refine wp_skip ?_
            refine wp_seq ?_
            refine wp_seq ?_
            refine wp_region rfl rfl ?_
            refine wo_mpv rfl rfl rfl rfl rfl ?_
            refine wo_mpv rfl rfl rfl rfl rfl ?_
            refine wo_off rfl rfl rfl ?_
            refine wo_off rfl rfl rfl ?_
            refine wo_off rfl rfl rfl ?_
            refine wo_pick (v := .pv _) rfl rfl rfl rfl rfl rfl ?_
            refine wo_apv rfl rfl rfl rfl rfl ?_
            refine wo_nil ?_
            refine ⟨[_, _, _, _, _, _, _, _, _, _, _, _, _, _, _, _, _, _, _, _, _, _, _, _, _, _, _, _, _, _, _, _, _, _, _, _, _, _, _, _, _, _, _, _, _, _, _, _, _, _, _, _, _, _, _, _, _, _, _, _, _, _, _, _, _, _, _, _, _, _], rfl, ?_⟩
            refine wp_ret ?_
            have hR : v.right = false := by simp [V.right, posz, *]
            rw [hR]
            exact ⟨trivial, _, rfl, leave_pure⟩
        ·
          refine wo_mpv rfl rfl rfl rfl rfl ?_
          refine wo_off rfl rfl rfl ?_
          refine wo_off rfl rfl rfl ?_
          refine wo_off rfl rfl rfl ?_
          refine wo_pick (v := .pv _) rfl rfl rfl rfl rfl rfl ?_
          refine wo_nil ?_
          refine ⟨[_, _, _, _, _, _, _, _, _, _, _, _, _, _, _, _, _, _, _, _, _, _, _, _, _, _, _, _, _, _, _, _, _, _, _, _, _, _, _, _, _, _, _, _, _, _, _, _, _, _, _, _, _, _, _, _, _, _, _, _, _, _, _, _, _, _, _, _, _, _], rfl, ?_⟩
          refine wp_false rfl ?_
          refine wp_skip ?_
          refine wp_seq ?_
          refine wp_seq ?_
          refine wp_region rfl rfl ?_
          refine wo_mpv rfl rfl rfl rfl rfl ?_
          refine wo_mpv rfl rfl rfl rfl rfl ?_
          refine wo_off rfl rfl rfl ?_
          refine wo_off rfl rfl rfl ?_
          refine wo_off rfl rfl rfl ?_
          refine wo_pick (v := .pv _) rfl rfl rfl rfl rfl rfl ?_
          refine wo_apv rfl rfl rfl rfl rfl ?_
          refine wo_nil ?_
          refine ⟨[_, _, _, _, _, _, _, _, _, _, _, _, _, _, _, _, _, _, _, _, _, _, _, _, _, _, _, _, _, _, _, _, _, _, _, _, _, _, _, _, _, _, _, _, _, _, _, _, _, _, _, _, _, _, _, _, _, _, _, _, _, _, _, _, _, _, _, _, _, _], rfl, ?_⟩
          refine wp_ret ?_
          have hR : v.right = false := by simp [V.right, posz, *]
          rw [hR]
          exact ⟨trivial, _, rfl, leave_pure⟩
      ·
        refine wo_apv rfl rfl rfl rfl rfl ?_
        refine wo_nil ?_
        refine ⟨[_, _, _, _, _, _, _, _, _, _, _, _, _, _, _, _, _, _, _, _, _, _, _, _, _, _, _, _, _, _, _, _, _, _, _, _, _, _, _, _, _, _, _, _, _, _, _, _, _, _, _, _, _, _, _, _, _, _, _, _, _, _, _, _, _, _, _, _, _, _], rfl, ?_⟩
        refine wp_false rfl ?_
        refine wp_skip ?_
        refine wp_seq ?_
        refine wp_seq ?_
        refine wp_region rfl rfl ?_
        refine wo_esplit rfl rfl rfl rfl rfl (fun c5_0 => ?_) (fun c5_0 => ?_)
        ·
          refine wo_apv rfl rfl rfl rfl rfl ?_
          refine wo_nil ?_
          refine ⟨[_, _, _, _, _, _, _, _, _, _, _, _, _, _, _, _, _, _, _, _, _, _, _, _, _, _, _, _, _, _, _, _, _, _, _, _, _, _, _, _, _, _, _, _, _, _, _, _, _, _, _, _, _, _, _, _, _, _, _, _, _, _, _, _, _, _, _, _, _, _], rfl, ?_⟩
          refine wp_true rfl ?_
          refine wp_exit ?_
          refine wp_seq ?_
          refine wp_seq ?_
          refine wp_region rfl rfl ?_
          refine wo_mpv rfl rfl rfl rfl rfl ?_
          refine wo_mpv rfl rfl rfl rfl rfl ?_
          refine wo_off rfl rfl rfl ?_
          refine wo_off rfl rfl rfl ?_
          refine wo_off rfl rfl rfl ?_
          refine wo_pick (v := .pv _) rfl rfl rfl rfl rfl rfl ?_
          refine wo_apv rfl rfl rfl rfl rfl ?_
          refine wo_nil ?_
          refine ⟨[_, _, _, _, _, _, _, _, _, _, _, _, _, _, _, _, _, _, _, _, _, _, _, _, _, _, _, _, _, _, _, _, _, _, _, _, _, _, _, _, _, _, _, _, _, _, _, _, _, _, _, _, _, _, _, _, _, _, _, _, _, _, _, _, _, _, _, _, _, _], rfl, ?_⟩
          refine wp_ret ?_
          have hR : v.right = false := by simp [V.right, posz, *]
          rw [hR]
          exact ⟨trivial, _, rfl, leave_pure⟩
        ·
          refine wo_apv rfl rfl rfl rfl rfl ?_
          refine wo_nil ?_
          refine ⟨[_, _, _, _, _, _, _, _, _, _, _, _, _, _, _, _, _, _, _, _, _, _, _, _, _, _, _, _, _, _, _, _, _, _, _, _, _, _, _, _, _, _, _, _, _, _, _, _, _, _, _, _, _, _, _, _, _, _, _, _, _, _, _, _, _, _, _, _, _, _], rfl, ?_⟩
          refine wp_false rfl ?_
          refine wp_skip ?_
          refine wp_seq ?_
          refine wp_seq ?_
          refine wp_region rfl rfl ?_
          refine wo_esplit rfl rfl rfl rfl rfl (fun c6_0 => ?_) (fun c6_0 => ?_)
          ·
            refine wo_apv rfl rfl rfl rfl rfl ?_
            refine wo_nil ?_
            refine ⟨[_, _, _, _, _, _, _, _, _, _, _, _, _, _, _, _, _, _, _, _, _, _, _, _, _, _, _, _, _, _, _, _, _, _, _, _, _, _, _, _, _, _, _, _, _, _, _, _, _, _, _, _, _, _, _, _, _, _, _, _, _, _, _, _, _, _, _, _, _, _], rfl, ?_⟩
            refine wp_true rfl ?_
            refine wp_exit ?_
            refine wp_seq ?_
            refine wp_seq ?_
            refine wp_region rfl rfl ?_
            refine wo_faddr t40 t2 rfl rfl rfl rfl rfl rfl rfl ?_
            refine wo_load t2 rfl rfl rfl rfl rfl rfl ?_
            refine wo_esplit rfl rfl rfl rfl rfl (fun c12_2 => ?_) (fun c12_2 => ?_)
            ·
              refine wo_mpv rfl rfl rfl rfl rfl ?_
              refine wo_faddr t40 t9 rfl rfl rfl rfl rfl rfl rfl ?_
              refine wo_load t9 rfl rfl rfl rfl rfl rfl ?_
              cases he : emp v.s
              ·
                refine wo_bin (v := .pv (.bool false)) rfl rfl rfl rfl (vF he) ?_
                refine wo_pick (v := .pv _) rfl rfl rfl rfl rfl rfl ?_
                refine wo_apv rfl rfl rfl rfl rfl ?_
                refine wo_nil ?_
                refine ⟨[_, _, _, _, _, _, _, _, _, _, _, _, _, _, _, _, _, _, _, _, _, _, _, _, _, _, _, _, _, _, _, _, _, _, _, _, _, _, _, _, _, _, _, _, _, _, _, _, _, _, _, _, _, _, _, _, _, _, _, _, _, _, _, _, _, _, _, _, _, _], rfl, ?_⟩
                refine wp_ret ?_
                have hR : v.right = false := by simp [V.right, posz, *]
                rw [hR]
                exact ⟨trivial, _, rfl, leave_pure⟩
              ·
                refine wo_bin (v := .pv (.bool true)) rfl rfl rfl rfl (vT he) ?_
                refine wo_pick (v := .pv _) rfl rfl rfl rfl rfl rfl ?_
                refine wo_apv rfl rfl rfl rfl rfl ?_
                refine wo_nil ?_
                refine ⟨[_, _, _, _, _, _, _, _, _, _, _, _, _, _, _, _, _, _, _, _, _, _, _, _, _, _, _, _, _, _, _, _, _, _, _, _, _, _, _, _, _, _, _, _, _, _, _, _, _, _, _, _, _, _, _, _, _, _, _, _, _, _, _, _, _, _, _, _, _, _], rfl, ?_⟩
                refine wp_ret ?_
                have hR : v.right = true := by simp [V.right, posz, *]
                rw [hR]
                exact ⟨trivial, _, rfl, leave_pure⟩
            ·
              refine wo_mpv rfl rfl rfl rfl rfl ?_
              refine wo_off rfl rfl rfl ?_
              refine wo_off rfl rfl rfl ?_
              refine wo_off rfl rfl rfl ?_
              refine wo_pick (v := .pv _) rfl rfl rfl rfl rfl rfl ?_
              refine wo_apv rfl rfl rfl rfl rfl ?_
              refine wo_nil ?_
              refine ⟨[_, _, _, _, _, _, _, _, _, _, _, _, _, _, _, _, _, _, _, _, _, _, _, _, _, _, _, _, _, _, _, _, _, _, _, _, _, _, _, _, _, _, _, _, _, _, _, _, _, _, _, _, _, _, _, _, _, _, _, _, _, _, _, _, _, _, _, _, _, _], rfl, ?_⟩
              refine wp_ret ?_
              have hR : v.right = false := by simp [V.right, posz, *]
              rw [hR]
              exact ⟨trivial, _, rfl, leave_pure⟩
          ·
            refine wo_apv rfl rfl rfl rfl rfl ?_
            refine wo_nil ?_
            refine ⟨[_, _, _, _, _, _, _, _, _, _, _, _, _, _, _, _, _, _, _, _, _, _, _, _, _, _, _, _, _, _, _, _, _, _, _, _, _, _, _, _, _, _, _, _, _, _, _, _, _, _, _, _, _, _, _, _, _, _, _, _, _, _, _, _, _, _, _, _, _, _], rfl, ?_⟩
            refine wp_false rfl ?_
            refine wp_skip ?_
            refine wp_seq ?_
            refine wp_region rfl rfl ?_
            refine wo_esplit rfl rfl rfl rfl rfl (fun c7_0 => ?_) (fun c7_0 => ?_)
            ·
              refine wo_apv rfl rfl rfl rfl rfl ?_
              refine wo_nil ?_
              refine ⟨[_, _, _, _, _, _, _, _, _, _, _, _, _, _, _, _, _, _, _, _, _, _, _, _, _, _, _, _, _, _, _, _, _, _, _, _, _, _, _, _, _, _, _, _, _, _, _, _, _, _, _, _, _, _, _, _, _, _, _, _, _, _, _, _, _, _, _, _, _, _], rfl, ?_⟩
              refine wp_true rfl ?_
              refine wp_exit ?_
              refine wp_seq ?_
              refine wp_seq ?_
              refine wp_region rfl rfl ?_
              refine wo_faddr t40 t2 rfl rfl rfl rfl rfl rfl rfl ?_
              refine wo_load t2 rfl rfl rfl rfl rfl rfl ?_
              refine wo_esplit rfl rfl rfl rfl rfl (fun c13_2 => ?_) (fun c13_2 => ?_)
              ·
                refine wo_mpv rfl rfl rfl rfl rfl ?_
                refine wo_mpv rfl rfl rfl rfl rfl ?_
                refine wo_pick (v := .pv _) rfl rfl rfl rfl rfl rfl ?_
                refine wo_mpv rfl rfl rfl rfl rfl ?_
                refine wo_off rfl rfl rfl ?_
                refine wo_off rfl rfl rfl ?_
                refine wo_off rfl rfl rfl ?_
                refine wo_off rfl rfl rfl ?_
                refine wo_norm [_, _, _, _, _, _, _, _, _, _, _, _, _, _, _, _, _, _, _, _, _, _, _, _, _, _, _, _, _, _, _, _, _, _, _, _, _, _, _, _, _, _, _, _, _, _, _, _, _, _, _, _, _, _, _, _, _, _, _, _, _, _, _, _, _, _, _, _, _, _] rfl ?_
                refine wo_pick (v := .pv _) rfl rfl rfl rfl rfl rfl ?_
                refine wo_apv rfl rfl rfl rfl rfl ?_
                refine wo_nil ?_
                refine ⟨[_, _, _, _, _, _, _, _, _, _, _, _, _, _, _, _, _, _, _, _, _, _, _, _, _, _, _, _, _, _, _, _, _, _, _, _, _, _, _, _, _, _, _, _, _, _, _, _, _, _, _, _, _, _, _, _, _, _, _, _, _, _, _, _, _, _, _, _, _, _], rfl, ?_⟩
                refine wp_ret ?_
                have hR : v.right = false := by simp [V.right, posz, *]
                rw [hR]
                exact ⟨trivial, _, rfl, leave_pure⟩
              ·
                refine wo_mpv rfl rfl rfl rfl rfl ?_
                refine wo_off rfl rfl rfl ?_
                refine wo_pick (v := .pv _) rfl rfl rfl rfl rfl rfl ?_
                refine wo_mpv rfl rfl rfl rfl rfl ?_
                refine wo_off rfl rfl rfl ?_
                refine wo_off rfl rfl rfl ?_
                refine wo_off rfl rfl rfl ?_
                refine wo_off rfl rfl rfl ?_
                refine wo_norm [_, _, _, _, _, _, _, _, _, _, _, _, _, _, _, _, _, _, _, _, _, _, _, _, _, _, _, _, _, _, _, _, _, _, _, _, _, _, _, _, _, _, _, _, _, _, _, _, _, _, _, _, _, _, _, _, _, _, _, _, _, _, _, _, _, _, _, _, _, _] rfl ?_
                refine wo_pick (v := .pv _) rfl rfl rfl rfl rfl rfl ?_
                refine wo_apv rfl rfl rfl rfl rfl ?_
                refine wo_nil ?_
                refine ⟨[_, _, _, _, _, _, _, _, _, _, _, _, _, _, _, _, _, _, _, _, _, _, _, _, _, _, _, _, _, _, _, _, _, _, _, _, _, _, _, _, _, _, _, _, _, _, _, _, _, _, _, _, _, _, _, _, _, _, _, _, _, _, _, _, _, _, _, _, _, _], rfl, ?_⟩
                refine wp_ret ?_
                have hR : v.right = false := by simp [V.right, posz, *]
                rw [hR]
                exact ⟨trivial, _, rfl, leave_pure⟩
            ·
              refine wo_apv rfl rfl rfl rfl rfl ?_
              refine wo_nil ?_
              refine ⟨[_, _, _, _, _, _, _, _, _, _, _, _, _, _, _, _, _, _, _, _, _, _, _, _, _, _, _, _, _, _, _, _, _, _, _, _, _, _, _, _, _, _, _, _, _, _, _, _, _, _, _, _, _, _, _, _, _, _, _, _, _, _, _, _, _, _, _, _, _, _], rfl, ?_⟩
              refine wp_false rfl ?_
              refine wp_skip ?_
              refine wp_exit ?_
              refine wp_seq ?_
              refine wp_region rfl rfl ?_
              refine wo_apv rfl rfl rfl rfl rfl ?_
              refine wo_nil ?_
              refine ⟨[_, _, _, _, _, _, _, _, _, _, _, _, _, _, _, _, _, _, _, _, _, _, _, _, _, _, _, _, _, _, _, _, _, _, _, _, _, _, _, _, _, _, _, _, _, _, _, _, _, _, _, _, _, _, _, _, _, _, _, _, _, _, _, _, _, _, _, _, _, _], rfl, ?_⟩
              refine wp_ret ?_
              have hR : v.right = false := by simp [V.right, posz, *]
              rw [hR]
              exact ⟨trivial, _, rfl, leave_pure⟩
  ·
    refine wo_bin (v := .pv (.bool true)) rfl rfl rfl rfl (vT hz) ?_
    refine wo_mpv rfl rfl rfl rfl rfl ?_
    refine wo_faddr t40 t38 rfl rfl rfl rfl rfl rfl rfl ?_
    refine wo_load t38 rfl rfl rfl rfl rfl rfl ?_
    cases hs : signb v.f
    ·
      refine wo_call (v := .pv (.bool false)) (H' := [_]) rfl rfl rfl rfl rfl rfl ((cl57 _ _ _ _).trans (callPure_pv rfl (fun _ => rfl) (by rw [← hs]; exact signbit_ok _ _ (by omega)))) rfl rfl rfl ?_
      refine wo_un rfl rfl rfl rfl rfl ?_
      refine wo_pick (v := .pv _) rfl rfl rfl rfl rfl rfl ?_
      refine wo_apv rfl rfl rfl rfl rfl ?_
      refine wo_nil ?_
      refine ⟨[_, _, _, _, _, _, _, _, _, _, _, _, _, _, _, _, _, _, _, _, _, _, _, _, _, _, _, _, _, _, _, _, _, _, _, _, _, _, _, _, _, _, _, _, _, _, _, _, _, _, _, _, _, _, _, _, _, _, _, _, _, _, _, _, _, _, _, _, _, _], rfl, ?_⟩
      refine wp_seq ?_
      refine wp_seq ?_
      refine wp_region rfl rfl ?_
      refine wo_faddr t40 t3 rfl rfl rfl rfl rfl rfl rfl ?_
      refine wo_load t3 rfl rfl rfl rfl rfl rfl ?_
      refine wo_nil ?_
      refine ⟨[_, _, _, _, _, _, _, _, _, _, _, _, _, _, _, _, _, _, _, _, _, _, _, _, _, _, _, _, _, _, _, _, _, _, _, _, _, _, _, _, _, _, _, _, _, _, _, _, _, _, _, _, _, _, _, _, _, _, _, _, _, _, _, _, _, _, _, _, _, _], rfl, ?_⟩
      refine wp_block ?_
      refine wp_seq ?_
      refine wp_block ?_
      refine wp_seq ?_
      refine wp_block ?_
      refine wp_seq ?_
      refine wp_block ?_
      refine wp_seq ?_
      refine wp_block ?_
      refine wp_seq ?_
      refine wp_block ?_
      refine wp_seq ?_
      refine wp_seq ?_
      refine wp_seq ?_
      refine wp_region rfl rfl ?_
      refine wo_esplit rfl rfl rfl rfl rfl (fun c3_0 => ?_) (fun c3_0 => ?_)
      ·
        refine wo_apv rfl rfl rfl rfl rfl ?_
        refine wo_nil ?_
        refine ⟨[_, _, _, _, _, _, _, _, _, _, _, _, _, _, _, _, _, _, _, _, _, _, _, _, _, _, _, _, _, _, _, _, _, _, _, _, _, _, _, _, _, _, _, _, _, _, _, _, _, _, _, _, _, _, _, _, _, _, _, _, _, _, _, _, _, _, _, _, _, _], rfl, ?_⟩
        refine wp_true rfl ?_
        refine wp_exit ?_
        refine wp_seq ?_
        refine wp_seq ?_
        refine wp_region rfl rfl ?_
        refine wo_faddr t40 t2 rfl rfl rfl rfl rfl rfl rfl ?_
        refine wo_load t2 rfl rfl rfl rfl rfl rfl ?_
        refine wo_esplit rfl rfl rfl rfl rfl (fun c8_2 => ?_) (fun c8_2 => ?_)
        ·
          refine wo_mpv rfl rfl rfl rfl rfl ?_
          refine wo_mpv rfl rfl rfl rfl rfl ?_
          refine wo_pick (v := .pv _) rfl rfl rfl rfl rfl rfl ?_
          refine wo_mpv rfl rfl rfl rfl rfl ?_
          refine wo_faddr t40 t9 rfl rfl rfl rfl rfl rfl rfl ?_
          refine wo_load t9 rfl rfl rfl rfl rfl rfl ?_
          cases he : emp v.s
          ·
            refine wo_bin (v := .pv (.bool false)) rfl rfl rfl rfl (vF he) ?_
            refine wo_pick (v := .pv _) rfl rfl rfl rfl rfl rfl ?_
            refine wo_norm [_, _, _, _, _, _, _, _, _, _, _, _, _, _, _, _, _, _, _, _, _, _, _, _, _, _, _, _, _, _, _, _, _, _, _, _, _, _, _, _, _, _, _, _, _, _, _, _, _, _, _, _, _, _, _, _, _, _, _, _, _, _, _, _, _, _, _, _, _, _] rfl ?_
            refine wo_apv rfl rfl rfl rfl rfl ?_
            refine wo_nil ?_
            refine ⟨[_, _, _, _, _, _, _, _, _, _, _, _, _, _, _, _, _, _, _, _, _, _, _, _, _, _, _, _, _, _, _, _, _, _, _, _, _, _, _, _, _, _, _, _, _, _, _, _, _, _, _, _, _, _, _, _, _, _, _, _, _, _, _, _, _, _, _, _, _, _], rfl, ?_⟩
            refine wp_ret ?_
            have hR : v.right = false := by simp [V.right, posz, *]
            rw [hR]
            exact ⟨trivial, _, rfl, leave_pure⟩
          ·
            refine wo_bin (v := .pv (.bool true)) rfl rfl rfl rfl (vT he) ?_
            refine wo_pick (v := .pv _) rfl rfl rfl rfl rfl rfl ?_
            refine wo_norm [_, _, _, _, _, _, _, _, _, _, _, _, _, _, _, _, _, _, _, _, _, _, _, _, _, _, _, _, _, _, _, _, _, _, _, _, _, _, _, _, _, _, _, _, _, _, _, _, _, _, _, _, _, _, _, _, _, _, _, _, _, _, _, _, _, _, _, _, _, _] rfl ?_
            refine wo_apv rfl rfl rfl rfl rfl ?_
            refine wo_nil ?_
            refine ⟨[_, _, _, _, _, _, _, _, _, _, _, _, _, _, _, _, _, _, _, _, _, _, _, _, _, _, _, _, _, _, _, _, _, _, _, _, _, _, _, _, _, _, _, _, _, _, _, _, _, _, _, _, _, _, _, _, _, _, _, _, _, _, _, _, _, _, _, _, _, _], rfl, ?_⟩
            refine wp_ret ?_
            have hR : v.right = true := by simp [V.right, posz, *]
            rw [hR]
            exact ⟨trivial, _, rfl, leave_pure⟩
        ·
          refine wo_mpv rfl rfl rfl rfl rfl ?_
          refine wo_off rfl rfl rfl ?_
          refine wo_pick (v := .pv _) rfl rfl rfl rfl rfl rfl ?_
          refine wo_mpv rfl rfl rfl rfl rfl ?_
          refine wo_off rfl rfl rfl ?_
          refine wo_off rfl rfl rfl ?_
          refine wo_off rfl rfl rfl ?_
          refine wo_pick (v := .pv _) rfl rfl rfl rfl rfl rfl ?_
          refine wo_norm [_, _, _, _, _, _, _, _, _, _, _, _, _, _, _, _, _, _, _, _, _, _, _, _, _, _, _, _, _, _, _, _, _, _, _, _, _, _, _, _, _, _, _, _, _, _, _, _, _, _, _, _, _, _, _, _, _, _, _, _, _, _, _, _, _, _, _, _, _, _] rfl ?_
          refine wo_apv rfl rfl rfl rfl rfl ?_
          refine wo_nil ?_
          refine ⟨[_, _, _, _, _, _, _, _, _, _, _, _, _, _, _, _, _, _, _, _, _, _, _, _, _, _, _, _, _, _, _, _, _, _, _, _, _, _, _, _, _, _, _, _, _, _, _, _, _, _, _, _, _, _, _, _, _, _, _, _, _, _, _, _, _, _, _, _, _, _], rfl, ?_⟩
          refine wp_ret ?_
          have hR : v.right = false := by simp [V.right, posz, *]
          rw [hR]
          exact ⟨trivial, _, rfl, leave_pure⟩
      ·
        refine wo_apv rfl rfl rfl rfl rfl ?_
        refine wo_nil ?_
        refine ⟨[_, _, _, _, _, _, _, _, _, _, _, _, _, _, _, _, _, _, _, _, _, _, _, _, _, _, _, _, _, _, _, _, _, _, _, _, _, _, _, _, _, _, _, _, _, _, _, _, _, _, _, _, _, _, _, _, _, _, _, _, _, _, _, _, _, _, _, _, _, _], rfl, ?_⟩
        refine wp_false rfl ?_
        refine wp_skip ?_
        refine wp_seq ?_
        refine wp_seq ?_
        refine wp_region rfl rfl ?_
        refine wo_esplit rfl rfl rfl rfl rfl (fun c4_0 => ?_) (fun c4_0 => ?_)
        ·
          refine wo_apv rfl rfl rfl rfl rfl ?_
          refine wo_nil ?_
          refine ⟨[_, _, _, _, _, _, _, _, _, _, _, _, _, _, _, _, _, _, _, _, _, _, _, _, _, _, _, _, _, _, _, _, _, _, _, _, _, _, _, _, _, _, _, _, _, _, _, _, _, _, _, _, _, _, _, _, _, _, _, _, _, _, _, _, _, _, _, _, _, _], rfl, ?_⟩
          refine wp_true rfl ?_
          refine wp_exit ?_
          refine wp_seq ?_
          refine wp_region rfl rfl ?_
          refine wo_faddr t40 t2 rfl rfl rfl rfl rfl rfl rfl ?_
          refine wo_load t2 rfl rfl rfl rfl rfl rfl ?_
          refine wo_nsplit rfl rfl rfl rfl rfl (fun c9_2 => ?_) (fun c9_2 => ?_)
          ·
            refine wo_mpv rfl rfl rfl rfl rfl ?_
            refine wo_faddr t40 t2 rfl rfl rfl rfl rfl rfl rfl ?_
            refine wo_load t2 rfl rfl rfl rfl rfl rfl ?_
            refine wo_nsplit rfl rfl rfl rfl rfl (fun c9_6 => ?_) (fun c9_6 => ?_)
            ·
              refine wo_pick (v := .pv _) rfl rfl rfl rfl rfl rfl ?_
              refine wo_nil ?_
              refine ⟨[_, _, _, _, _, _, _, _, _, _, _, _, _, _, _, _, _, _, _, _, _, _, _, _, _, _, _, _, _, _, _, _, _, _, _, _, _, _, _, _, _, _, _, _, _, _, _, _, _, _, _, _, _, _, _, _, _, _, _, _, _, _, _, _, _, _, _, _, _, _], rfl, ?_⟩
              refine wp_true rfl ?_
              refine wp_seq ?_
              refine wp_region rfl rfl ?_
              refine wo_apv rfl rfl rfl rfl rfl ?_
              refine wo_nil ?_
              refine ⟨[_, _, _, _, _, _, _, _, _, _, _, _, _, _, _, _, _, _, _, _, _, _, _, _, _, _, _, _, _, _, _, _, _, _, _, _, _, _, _, _, _, _, _, _, _, _, _, _, _, _, _, _, _, _, _, _, _, _, _, _, _, _, _, _, _, _, _, _, _, _], rfl, ?_⟩
              refine wp_ret ?_
              have hR : v.right = false := by simp [V.right, posz, *]
              rw [hR]
              exact ⟨trivial, _, rfl, leave_pure⟩
            ·
              refine wo_pick (v := .pv _) rfl rfl rfl rfl rfl rfl ?_
              refine wo_nil ?_
              refine ⟨[_, _, _, _, _, _, _, _, _, _, _, _, _, _, _, _, _, _, _, _, _, _, _, _, _, _, _, _, _, _, _, _, _, _, _, _, _, _, _, _, _, _, _, _, _, _, _, _, _, _, _, _, _, _, _, _, _, _, _, _, _, _, _, _, _, _, _, _, _, _], rfl, ?_⟩
              refine wp_false rfl ?_
              refine wp_skip ?_
              refine wp_seq ?_
              refine wp_seq ?_
              refine wp_region rfl rfl ?_
              refine wo_mpv rfl rfl rfl rfl rfl ?_
              refine wo_mpv rfl rfl rfl rfl rfl ?_
              refine wo_faddr t40 t9 rfl rfl rfl rfl rfl rfl rfl ?_
              refine wo_load t9 rfl rfl rfl rfl rfl rfl ?_
              cases he : emp v.s
              ·
                refine wo_bin (v := .pv (.bool false)) rfl rfl rfl rfl (vF he) ?_
                refine wo_pick (v := .pv _) rfl rfl rfl rfl rfl rfl ?_
                refine wo_apv rfl rfl rfl rfl rfl ?_
                refine wo_nil ?_
                refine ⟨[_, _, _, _, _, _, _, _, _, _, _, _, _, _, _, _, _, _, _, _, _, _, _, _, _, _, _, _, _, _, _, _, _, _, _, _, _, _, _, _, _, _, _, _, _, _, _, _, _, _, _, _, _, _, _, _, _, _, _, _, _, _, _, _, _, _, _, _, _, _], rfl, ?_⟩
                refine wp_ret ?_
                have hR : v.right = false := by simp [V.right, posz, *]
                rw [hR]
                exact ⟨trivial, _, rfl, leave_pure⟩
              ·
                refine wo_bin (v := .pv (.bool true)) rfl rfl rfl rfl (vT he) ?_
                refine wo_pick (v := .pv _) rfl rfl rfl rfl rfl rfl ?_
                refine wo_apv rfl rfl rfl rfl rfl ?_
                refine wo_nil ?_
                refine ⟨[_, _, _, _, _, _, _, _, _, _, _, _, _, _, _, _, _, _, _, _, _, _, _, _, _, _, _, _, _, _, _, _, _, _, _, _, _, _, _, _, _, _, _, _, _, _, _, _, _, _, _, _, _, _, _, _, _, _, _, _, _, _, _, _, _, _, _, _, _, _], rfl, ?_⟩
                refine wp_ret ?_
                have hR : v.right = true := by simp [V.right, posz, *]
                rw [hR]
                exact ⟨trivial, _, rfl, leave_pure⟩
          ·
            refine wo_mpv rfl rfl rfl rfl rfl ?_
            refine wo_off rfl rfl rfl ?_
            refine wo_off rfl rfl rfl ?_
            refine wo_off rfl rfl rfl ?_
            refine wo_pick (v := .pv _) rfl rfl rfl rfl rfl rfl ?_
            refine wo_nil ?_
            refine ⟨[_, _, _, _, _, _, _, _, _, _, _, _, _, _, _, _, _, _, _, _, _, _, _, _, _, _, _, _, _, _, _, _, _, _, _, _, _, _, _, _, _, _, _, _, _, _, _, _, _, _, _, _, _, _, _, _, _, _, _, _, _, _, _, _, _, _, _, _, _, _], rfl, ?_⟩
            refine wp_false rfl ?_
            refine wp_skip ?_
            refine wp_seq ?_
            refine wp_seq ?_
            refine wp_region rfl rfl ?_
            refine wo_mpv rfl rfl rfl rfl rfl ?_
            refine wo_mpv rfl rfl rfl rfl rfl ?_
            refine wo_faddr t40 t9 rfl rfl rfl rfl rfl rfl rfl ?_
            refine wo_load t9 rfl rfl rfl rfl rfl rfl ?_
            cases he : emp v.s
            ·
              refine wo_bin (v := .pv (.bool false)) rfl rfl rfl rfl (vF he) ?_
              refine wo_pick (v := .pv _) rfl rfl rfl rfl rfl rfl ?_
              refine wo_apv rfl rfl rfl rfl rfl ?_
              refine wo_nil ?_
              refine ⟨[_, _, _, _, _, _, _, _, _, _, _, _, _, _, _, _, _, _, _, _, _, _, _, _, _, _, _, _, _, _, _, _, _, _, _, _, _, _, _, _, _, _, _, _, _, _, _, _, _, _, _, _, _, _, _, _, _, _, _, _, _, _, _, _, _, _, _, _, _, _], rfl, ?_⟩
              refine wp_ret ?_
              have hR : v.right = false := by simp [V.right, posz, *]
              rw [hR]
              exact ⟨trivial, _, rfl, leave_pure⟩
            ·
              refine wo_bin (v := .pv (.bool true)) rfl rfl rfl rfl (vT he) ?_
              refine wo_pick (v := .pv _) rfl rfl rfl rfl rfl rfl ?_
              refine wo_apv rfl rfl rfl rfl rfl ?_
              refine wo_nil ?_
              refine ⟨[_, _, _, _, _, _, _, _, _, _, _, _, _, _, _, _, _, _, _, _, _, _, _, _, _, _, _, _, _, _, _, _, _, _, _, _, _, _, _, _, _, _, _, _, _, _, _, _, _, _, _, _, _, _, _, _, _, _, _, _, _, _, _, _, _, _, _, _, _, _], rfl, ?_⟩
              refine wp_ret ?_
              have hR : v.right = true := by simp [V.right, posz, *]
              rw [hR]
              exact ⟨trivial, _, rfl, leave_pure⟩
        ·
          refine wo_apv rfl rfl rfl rfl rfl ?_
          refine wo_nil ?_
          refine ⟨[_, _, _, _, _, _, _, _, _, _, _, _, _, _, _, _, _, _, _, _, _, _, _, _, _, _, _, _, _, _, _, _, _, _, _, _, _, _, _, _, _, _, _, _, _, _, _, _, _, _, _, _, _, _, _, _, _, _, _, _, _, _, _, _, _, _, _, _, _, _], rfl, ?_⟩
          refine wp_false rfl ?_
          refine wp_skip ?_
          refine wp_seq ?_
          refine wp_seq ?_
          refine wp_region rfl rfl ?_
          refine wo_esplit rfl rfl rfl rfl rfl (fun c5_0 => ?_) (fun c5_0 => ?_)
          ·
            refine wo_apv rfl rfl rfl rfl rfl ?_
            refine wo_nil ?_
            refine ⟨[_, _, _, _, _, _, _, _, _, _, _, _, _, _, _, _, _, _, _, _, _, _, _, _, _, _, _, _, _, _, _, _, _, _, _, _, _, _, _, _, _, _, _, _, _, _, _, _, _, _, _, _, _, _, _, _, _, _, _, _, _, _, _, _, _, _, _, _, _, _], rfl, ?_⟩
            refine wp_true rfl ?_
            refine wp_exit ?_
            refine wp_seq ?_
            refine wp_seq ?_
            refine wp_region rfl rfl ?_
            refine wo_mpv rfl rfl rfl rfl rfl ?_
            refine wo_mpv rfl rfl rfl rfl rfl ?_
            refine wo_faddr t40 t9 rfl rfl rfl rfl rfl rfl rfl ?_
            refine wo_load t9 rfl rfl rfl rfl rfl rfl ?_
            cases he : emp v.s
            ·
              refine wo_bin (v := .pv (.bool false)) rfl rfl rfl rfl (vF he) ?_
              refine wo_pick (v := .pv _) rfl rfl rfl rfl rfl rfl ?_
              refine wo_apv rfl rfl rfl rfl rfl ?_
              refine wo_nil ?_
              refine ⟨[_, _, _, _, _, _, _, _, _, _, _, _, _, _, _, _, _, _, _, _, _, _, _, _, _, _, _, _, _, _, _, _, _, _, _, _, _, _, _, _, _, _, _, _, _, _, _, _, _, _, _, _, _, _, _, _, _, _, _, _, _, _, _, _, _, _, _, _, _, _], rfl, ?_⟩
              refine wp_ret ?_
              have hR : v.right = false := by simp [V.right, posz, *]
              rw [hR]
              exact ⟨trivial, _, rfl, leave_pure⟩
            ·
              refine wo_bin (v := .pv (.bool true)) rfl rfl rfl rfl (vT he) ?_
              refine wo_pick (v := .pv _) rfl rfl rfl rfl rfl rfl ?_
              refine wo_apv rfl rfl rfl rfl rfl ?_
              refine wo_nil ?_
              refine ⟨[_, _, _, _, _, _, _, _, _, _, _, _, _, _, _, _, _, _, _, _, _, _, _, _, _, _, _, _, _, _, _, _, _, _, _, _, _, _, _, _, _, _, _, _, _, _, _, _, _, _, _, _, _, _, _, _, _, _, _, _, _, _, _, _, _, _, _, _, _, _], rfl, ?_⟩
              refine wp_ret ?_
              have hR : v.right = true := by simp [V.right, posz, *]
              rw [hR]
              exact ⟨trivial, _, rfl, leave_pure⟩
          ·
            refine wo_apv rfl rfl rfl rfl rfl ?_
            refine wo_nil ?_
            refine ⟨[_, _, _, _, _, _, _, _, _, _, _, _, _, _, _, _, _, _, _, _, _, _, _, _, _, _, _, _, _, _, _, _, _, _, _, _, _, _, _, _, _, _, _, _, _, _, _, _, _, _, _, _, _, _, _, _, _, _, _, _, _, _, _, _, _, _, _, _, _, _], rfl, ?_⟩
            refine wp_false rfl ?_
            refine wp_skip ?_
            refine wp_seq ?_
            refine wp_seq ?_
            refine wp_region rfl rfl ?_
            refine wo_esplit rfl rfl rfl rfl rfl (fun c6_0 => ?_) (fun c6_0 => ?_)
            ·
              refine wo_apv rfl rfl rfl rfl rfl ?_
              refine wo_nil ?_
              refine ⟨[_, _, _, _, _, _, _, _, _, _, _, _, _, _, _, _, _, _, _, _, _, _, _, _, _, _, _, _, _, _, _, _, _, _, _, _, _, _, _, _, _, _, _, _, _, _, _, _, _, _, _, _, _, _, _, _, _, _, _, _, _, _, _, _, _, _, _, _, _, _], rfl, ?_⟩
              refine wp_true rfl ?_
              refine wp_exit ?_
              refine wp_seq ?_
              refine wp_seq ?_
              refine wp_region rfl rfl ?_
              refine wo_faddr t40 t2 rfl rfl rfl rfl rfl rfl rfl ?_
              refine wo_load t2 rfl rfl rfl rfl rfl rfl ?_
              refine wo_esplit rfl rfl rfl rfl rfl (fun c12_2 => ?_) (fun c12_2 => ?_)
              ·
                refine wo_mpv rfl rfl rfl rfl rfl ?_
                refine wo_faddr t40 t9 rfl rfl rfl rfl rfl rfl rfl ?_
                refine wo_load t9 rfl rfl rfl rfl rfl rfl ?_
                cases he : emp v.s
                ·
                  refine wo_bin (v := .pv (.bool false)) rfl rfl rfl rfl (vF he) ?_
                  refine wo_pick (v := .pv _) rfl rfl rfl rfl rfl rfl ?_
                  refine wo_apv rfl rfl rfl rfl rfl ?_
                  refine wo_nil ?_
                  refine ⟨[_, _, _, _, _, _, _, _, _, _, _, _, _, _, _, _, _, _, _, _, _, _, _, _, _, _, _, _, _, _, _, _, _, _, _, _, _, _, _, _, _, _, _, _, _, _, _, _, _, _, _, _, _, _, _, _, _, _, _, _, _, _, _, _, _, _, _, _, _, _], rfl, ?_⟩
                  refine wp_ret ?_
                  have hR : v.right = false := by simp [V.right, posz, *]
                  rw [hR]
                  exact ⟨trivial, _, rfl, leave_pure⟩
                ·
                  refine wo_bin (v := .pv (.bool true)) rfl rfl rfl rfl (vT he) ?_
                  refine wo_pick (v := .pv _) rfl rfl rfl rfl rfl rfl ?_
                  refine wo_apv rfl rfl rfl rfl rfl ?_
                  refine wo_nil ?_
                  refine ⟨[_, _, _, _, _, _, _, _, _, _, _, _, _, _, _, _, _, _, _, _, _, _, _, _, _, _, _, _, _, _, _, _, _, _, _, _, _, _, _, _, _, _, _, _, _, _, _, _, _, _, _, _, _, _, _, _, _, _, _, _, _, _, _, _, _, _, _, _, _, _], rfl, ?_⟩
                  refine wp_ret ?_
                  have hR : v.right = true := by simp [V.right, posz, *]
                  rw [hR]
                  exact ⟨trivial, _, rfl, leave_pure⟩
              ·
                refine wo_mpv rfl rfl rfl rfl rfl ?_
                refine wo_off rfl rfl rfl ?_
                refine wo_off rfl rfl rfl ?_
                refine wo_off rfl rfl rfl ?_
                refine wo_pick (v := .pv _) rfl rfl rfl rfl rfl rfl ?_
                refine wo_apv rfl rfl rfl rfl rfl ?_
                refine wo_nil ?_
                refine ⟨[_, _, _, _, _, _, _, _, _, _, _, _, _, _, _, _, _, _, _, _, _, _, _, _, _, _, _, _, _, _, _, _, _, _, _, _, _, _, _, _, _, _, _, _, _, _, _, _, _, _, _, _, _, _, _, _, _, _, _, _, _, _, _, _, _, _, _, _, _, _], rfl, ?_⟩
                refine wp_ret ?_
                have hR : v.right = false := by simp [V.right, posz, *]
                rw [hR]
                exact ⟨trivial, _, rfl, leave_pure⟩
            ·
              refine wo_apv rfl rfl rfl rfl rfl ?_
              refine wo_nil ?_
              refine ⟨[_, _, _, _, _, _, _, _, _, _, _, _, _, _, _, _, _, _, _, _, _, _, _, _, _, _, _, _, _, _, _, _, _, _, _, _, _, _, _, _, _, _, _, _, _, _, _, _, _, _, _, _, _, _, _, _, _, _, _, _, _, _, _, _, _, _, _, _, _, _], rfl, ?_⟩
              refine wp_false rfl ?_
              refine wp_skip ?_
              refine wp_seq ?_
              refine wp_region rfl rfl ?_
              refine wo_esplit rfl rfl rfl rfl rfl (fun c7_0 => ?_) (fun c7_0 => ?_)
              ·
                refine wo_apv rfl rfl rfl rfl rfl ?_
                refine wo_nil ?_
                refine ⟨[_, _, _, _, _, _, _, _, _, _, _, _, _, _, _, _, _, _, _, _, _, _, _, _, _, _, _, _, _, _, _, _, _, _, _, _, _, _, _, _, _, _, _, _, _, _, _, _, _, _, _, _, _, _, _, _, _, _, _, _, _, _, _, _, _, _, _, _, _, _], rfl, ?_⟩
                refine wp_true rfl ?_
                refine wp_exit ?_
                refine wp_seq ?_
                refine wp_seq ?_
                refine wp_region rfl rfl ?_
                refine wo_faddr t40 t2 rfl rfl rfl rfl rfl rfl rfl ?_
                refine wo_load t2 rfl rfl rfl rfl rfl rfl ?_
                refine wo_esplit rfl rfl rfl rfl rfl (fun c13_2 => ?_) (fun c13_2 => ?_)
                ·
                  refine wo_mpv rfl rfl rfl rfl rfl ?_
                  refine wo_mpv rfl rfl rfl rfl rfl ?_
                  refine wo_pick (v := .pv _) rfl rfl rfl rfl rfl rfl ?_
                  refine wo_mpv rfl rfl rfl rfl rfl ?_
                  refine wo_faddr t40 t9 rfl rfl rfl rfl rfl rfl rfl ?_
                  refine wo_load t9 rfl rfl rfl rfl rfl rfl ?_
                  refine wo_len t9 rfl rfl rfl rfl rfl rfl rfl rfl rfl ?_
                  refine wo_bsplit rfl rfl rfl rfl rfl (fun c13_10 => ?_) (fun c13_10 => ?_)
                  ·
                    refine wo_norm [_, _, _, _, _, _, _, _, _, _, _, _, _, _, _, _, _, _, _, _, _, _, _, _, _, _, _, _, _, _, _, _, _, _, _, _, _, _, _, _, _, _, _, _, _, _, _, _, _, _, _, _, _, _, _, _, _, _, _, _, _, _, _, _, _, _, _, _, _, _] rfl ?_
                    refine wo_pick (v := .pv _) rfl rfl rfl rfl rfl rfl ?_
                    refine wo_apv rfl rfl rfl rfl rfl ?_
                    refine wo_nil ?_
                    refine ⟨[_, _, _, _, _, _, _, _, _, _, _, _, _, _, _, _, _, _, _, _, _, _, _, _, _, _, _, _, _, _, _, _, _, _, _, _, _, _, _, _, _, _, _, _, _, _, _, _, _, _, _, _, _, _, _, _, _, _, _, _, _, _, _, _, _, _, _, _, _, _], rfl, ?_⟩
                    refine wp_ret ?_
                    have hR : v.right = true := by simp [V.right, posz, *]
                    rw [hR]
                    exact ⟨trivial, _, rfl, leave_pure⟩
                  ·
                    refine wo_norm [_, _, _, _, _, _, _, _, _, _, _, _, _, _, _, _, _, _, _, _, _, _, _, _, _, _, _, _, _, _, _, _, _, _, _, _, _, _, _, _, _, _, _, _, _, _, _, _, _, _, _, _, _, _, _, _, _, _, _, _, _, _, _, _, _, _, _, _, _, _] rfl ?_
                    refine wo_pick (v := .pv _) rfl rfl rfl rfl rfl rfl ?_
                    refine wo_apv rfl rfl rfl rfl rfl ?_
                    refine wo_nil ?_
                    refine ⟨[_, _, _, _, _, _, _, _, _, _, _, _, _, _, _, _, _, _, _, _, _, _, _, _, _, _, _, _, _, _, _, _, _, _, _, _, _, _, _, _, _, _, _, _, _, _, _, _, _, _, _, _, _, _, _, _, _, _, _, _, _, _, _, _, _, _, _, _, _, _], rfl, ?_⟩
                    refine wp_ret ?_
                    have hR : v.right = false := by simp [V.right, posz, *]
                    rw [hR]
                    exact ⟨trivial, _, rfl, leave_pure⟩
                ·
                  refine wo_mpv rfl rfl rfl rfl rfl ?_
                  refine wo_off rfl rfl rfl ?_
                  refine wo_pick (v := .pv _) rfl rfl rfl rfl rfl rfl ?_
                  refine wo_mpv rfl rfl rfl rfl rfl ?_
                  refine wo_off rfl rfl rfl ?_
                  refine wo_off rfl rfl rfl ?_
                  refine wo_off rfl rfl rfl ?_
                  refine wo_off rfl rfl rfl ?_
                  refine wo_norm [_, _, _, _, _, _, _, _, _, _, _, _, _, _, _, _, _, _, _, _, _, _, _, _, _, _, _, _, _, _, _, _, _, _, _, _, _, _, _, _, _, _, _, _, _, _, _, _, _, _, _, _, _, _, _, _, _, _, _, _, _, _, _, _, _, _, _, _, _, _] rfl ?_
                  refine wo_pick (v := .pv _) rfl rfl rfl rfl rfl rfl ?_
                  refine wo_apv rfl rfl rfl rfl rfl ?_
                  refine wo_nil ?_
                  refine ⟨[_, _, _, _, _, _, _, _, _, _, _, _, _, _, _, _, _, _, _, _, _, _, _, _, _, _, _, _, _, _, _, _, _, _, _, _, _, _, _, _, _, _, _, _, _, _, _, _, _, _, _, _, _, _, _, _, _, _, _, _, _, _, _, _, _, _, _, _, _, _], rfl, ?_⟩
                  refine wp_ret ?_
                  have hR : v.right = false := by simp [V.right, posz, *]
                  rw [hR]
                  exact ⟨trivial, _, rfl, leave_pure⟩
              ·
                refine wo_apv rfl rfl rfl rfl rfl ?_
                refine wo_nil ?_
                refine ⟨[_, _, _, _, _, _, _, _, _, _, _, _, _, _, _, _, _, _, _, _, _, _, _, _, _, _, _, _, _, _, _, _, _, _, _, _, _, _, _, _, _, _, _, _, _, _, _, _, _, _, _, _, _, _, _, _, _, _, _, _, _, _, _, _, _, _, _, _, _, _], rfl, ?_⟩
                refine wp_false rfl ?_
                refine wp_skip ?_
                refine wp_exit ?_
                refine wp_seq ?_
                refine wp_region rfl rfl ?_
                refine wo_apv rfl rfl rfl rfl rfl ?_
                refine wo_nil ?_
                refine ⟨[_, _, _, _, _, _, _, _, _, _, _, _, _, _, _, _, _, _, _, _, _, _, _, _, _, _, _, _, _, _, _, _, _, _, _, _, _, _, _, _, _, _, _, _, _, _, _, _, _, _, _, _, _, _, _, _, _, _, _, _, _, _, _, _, _, _, _, _, _, _], rfl, ?_⟩
                refine wp_ret ?_
                have hR : v.right = false := by simp [V.right, posz, *]
                rw [hR]
                exact ⟨trivial, _, rfl, leave_pure⟩
    ·
      refine wo_call (v := .pv (.bool true)) (H' := [_]) rfl rfl rfl rfl rfl rfl ((cl57 _ _ _ _).trans (callPure_pv rfl (fun _ => rfl) (by rw [← hs]; exact signbit_ok _ _ (by omega)))) rfl rfl rfl ?_
      refine wo_un rfl rfl rfl rfl rfl ?_
      refine wo_pick (v := .pv _) rfl rfl rfl rfl rfl rfl ?_
      refine wo_apv rfl rfl rfl rfl rfl ?_
      refine wo_nil ?_
      refine ⟨[_, _, _, _, _, _, _, _, _, _, _, _, _, _, _, _, _, _, _, _, _, _, _, _, _, _, _, _, _, _, _, _, _, _, _, _, _, _, _, _, _, _, _, _, _, _, _, _, _, _, _, _, _, _, _, _, _, _, _, _, _, _, _, _, _, _, _, _, _, _], rfl, ?_⟩
      refine wp_seq ?_
      refine wp_seq ?_
      refine wp_region rfl rfl ?_
      refine wo_faddr t40 t3 rfl rfl rfl rfl rfl rfl rfl ?_
      refine wo_load t3 rfl rfl rfl rfl rfl rfl ?_
      refine wo_nil ?_
      refine ⟨[_, _, _, _, _, _, _, _, _, _, _, _, _, _, _, _, _, _, _, _, _, _, _, _, _, _, _, _, _, _, _, _, _, _, _, _, _, _, _, _, _, _, _, _, _, _, _, _, _, _, _, _, _, _, _, _, _, _, _, _, _, _, _, _, _, _, _, _, _, _], rfl, ?_⟩
      refine wp_block ?_
      refine wp_seq ?_
      refine wp_block ?_
      refine wp_seq ?_
      refine wp_block ?_
      refine wp_seq ?_
      refine wp_block ?_
      refine wp_seq ?_
      refine wp_block ?_
      refine wp_seq ?_
      refine wp_block ?_
      refine wp_seq ?_
      refine wp_seq ?_
      refine wp_seq ?_
      refine wp_region rfl rfl ?_
      refine wo_esplit rfl rfl rfl rfl rfl (fun c3_0 => ?_) (fun c3_0 => ?_)
      ·
        refine wo_apv rfl rfl rfl rfl rfl ?_
        refine wo_nil ?_
        refine ⟨[_, _, _, _, _, _, _, _, _, _, _, _, _, _, _, _, _, _, _, _, _, _, _, _, _, _, _, _, _, _, _, _, _, _, _, _, _, _, _, _, _, _, _, _, _, _, _, _, _, _, _, _, _, _, _, _, _, _, _, _, _, _, _, _, _, _, _, _, _, _], rfl, ?_⟩
        refine wp_true rfl ?_
        refine wp_exit ?_
        refine wp_seq ?_
        refine wp_seq ?_
        refine wp_region rfl rfl ?_
        refine wo_faddr t40 t2 rfl rfl rfl rfl rfl rfl rfl ?_
        refine wo_load t2 rfl rfl rfl rfl rfl rfl ?_
        refine wo_esplit rfl rfl rfl rfl rfl (fun c8_2 => ?_) (fun c8_2 => ?_)
        ·
          refine wo_mpv rfl rfl rfl rfl rfl ?_
          refine wo_mpv rfl rfl rfl rfl rfl ?_
          refine wo_pick (v := .pv _) rfl rfl rfl rfl rfl rfl ?_
          refine wo_mpv rfl rfl rfl rfl rfl ?_
          refine wo_off rfl rfl rfl ?_
          refine wo_off rfl rfl rfl ?_
          refine wo_off rfl rfl rfl ?_
          refine wo_pick (v := .pv _) rfl rfl rfl rfl rfl rfl ?_
          refine wo_norm [_, _, _, _, _, _, _, _, _, _, _, _, _, _, _, _, _, _, _, _, _, _, _, _, _, _, _, _, _, _, _, _, _, _, _, _, _, _, _, _, _, _, _, _, _, _, _, _, _, _, _, _, _, _, _, _, _, _, _, _, _, _, _, _, _, _, _, _, _, _] rfl ?_
          refine wo_apv rfl rfl rfl rfl rfl ?_
          refine wo_nil ?_
          refine ⟨[_, _, _, _, _, _, _, _, _, _, _, _, _, _, _, _, _, _, _, _, _, _, _, _, _, _, _, _, _, _, _, _, _, _, _, _, _, _, _, _, _, _, _, _, _, _, _, _, _, _, _, _, _, _, _, _, _, _, _, _, _, _, _, _, _, _, _, _, _, _], rfl, ?_⟩
          refine wp_ret ?_
          have hR : v.right = false := by simp [V.right, posz, *]
          rw [hR]
          exact ⟨trivial, _, rfl, leave_pure⟩
        ·
          refine wo_mpv rfl rfl rfl rfl rfl ?_
          refine wo_off rfl rfl rfl ?_
          refine wo_pick (v := .pv _) rfl rfl rfl rfl rfl rfl ?_
          refine wo_mpv rfl rfl rfl rfl rfl ?_
          refine wo_off rfl rfl rfl ?_
          refine wo_off rfl rfl rfl ?_
          refine wo_off rfl rfl rfl ?_
          refine wo_pick (v := .pv _) rfl rfl rfl rfl rfl rfl ?_
          refine wo_norm [_, _, _, _, _, _, _, _, _, _, _, _, _, _, _, _, _, _, _, _, _, _, _, _, _, _, _, _, _, _, _, _, _, _, _, _, _, _, _, _, _, _, _, _, _, _, _, _, _, _, _, _, _, _, _, _, _, _, _, _, _, _, _, _, _, _, _, _, _, _] rfl ?_
          refine wo_apv rfl rfl rfl rfl rfl ?_
          refine wo_nil ?_
          refine ⟨[_, _, _, _, _, _, _, _, _, _, _, _, _, _, _, _, _, _, _, _, _, _, _, _, _, _, _, _, _, _, _, _, _, _, _, _, _, _, _, _, _, _, _, _, _, _, _, _, _, _, _, _, _, _, _, _, _, _, _, _, _, _, _, _, _, _, _, _, _, _], rfl, ?_⟩
          refine wp_ret ?_
          have hR : v.right = false := by simp [V.right, posz, *]
          rw [hR]
          exact ⟨trivial, _, rfl, leave_pure⟩
      ·
        refine wo_apv rfl rfl rfl rfl rfl ?_
        refine wo_nil ?_
        refine ⟨[_, _, _, _, _, _, _, _, _, _, _, _, _, _, _, _, _, _, _, _, _, _, _, _, _, _, _, _, _, _, _, _, _, _, _, _, _, _, _, _, _, _, _, _, _, _, _, _, _, _, _, _, _, _, _, _, _, _, _, _, _, _, _, _, _, _, _, _, _, _], rfl, ?_⟩
        refine wp_false rfl ?_
        refine wp_skip ?_
        refine wp_seq ?_
        refine wp_seq ?_
        refine wp_region rfl rfl ?_
        refine wo_esplit rfl rfl rfl rfl rfl (fun c4_0 => ?_) (fun c4_0 => ?_)
        ·
          refine wo_apv rfl rfl rfl rfl rfl ?_
          refine wo_nil ?_
          refine ⟨[_, _, _, _, _, _, _, _, _, _, _, _, _, _, _, _, _, _, _, _, _, _, _, _, _, _, _, _, _, _, _, _, _, _, _, _, _, _, _, _, _, _, _, _, _, _, _, _, _, _, _, _, _, _, _, _, _, _, _, _, _, _, _, _, _, _, _, _, _, _], rfl, ?_⟩
          refine wp_true rfl ?_
          refine wp_exit ?_
          refine wp_seq ?_
          refine wp_region rfl rfl ?_
          refine wo_faddr t40 t2 rfl rfl rfl rfl rfl rfl rfl ?_
          refine wo_load t2 rfl rfl rfl rfl rfl rfl ?_
          refine wo_nsplit rfl rfl rfl rfl rfl (fun c9_2 => ?_) (fun c9_2 => ?_)
          ·
            refine wo_mpv rfl rfl rfl rfl rfl ?_
            refine wo_faddr t40 t2 rfl rfl rfl rfl rfl rfl rfl ?_
            refine wo_load t2 rfl rfl rfl rfl rfl rfl ?_
            refine wo_nsplit rfl rfl rfl rfl rfl (fun c9_6 => ?_) (fun c9_6 => ?_)
            ·
              refine wo_pick (v := .pv _) rfl rfl rfl rfl rfl rfl ?_
              refine wo_nil ?_
              refine ⟨[_, _, _, _, _, _, _, _, _, _, _, _, _, _, _, _, _, _, _, _, _, _, _, _, _, _, _, _, _, _, _, _, _, _, _, _, _, _, _, _, _, _, _, _, _, _, _, _, _, _, _, _, _, _, _, _, _, _, _, _, _, _, _, _, _, _, _, _, _, _], rfl, ?_⟩
              refine wp_true rfl ?_
              refine wp_seq ?_
              refine wp_region rfl rfl ?_
              refine wo_apv rfl rfl rfl rfl rfl ?_
              refine wo_nil ?_
              refine ⟨[_, _, _, _, _, _, _, _, _, _, _, _, _, _, _, _, _, _, _, _, _, _, _, _, _, _, _, _, _, _, _, _, _, _, _, _, _, _, _, _, _, _, _, _, _, _, _, _, _, _, _, _, _, _, _, _, _, _, _, _, _, _, _, _, _, _, _, _, _, _], rfl, ?_⟩
              refine wp_ret ?_
              have hR : v.right = false := by simp [V.right, posz, *]
              rw [hR]
              exact ⟨trivial, _, rfl, leave_pure⟩
            ·
              refine wo_pick (v := .pv _) rfl rfl rfl rfl rfl rfl ?_
              refine wo_nil ?_
              refine ⟨[_, _, _, _, _, _, _, _, _, _, _, _, _, _, _, _, _, _, _, _, _, _, _, _, _, _, _, _, _, _, _, _, _, _, _, _, _, _, _, _, _, _, _, _, _, _, _, _, _, _, _, _, _, _, _, _, _, _, _, _, _, _, _, _, _, _, _, _, _, _], rfl, ?_⟩
              refine wp_false rfl ?_
              refine wp_skip ?_
              refine wp_seq ?_
              refine wp_seq ?_
              refine wp_region rfl rfl ?_
              refine wo_mpv rfl rfl rfl rfl rfl ?_
              refine wo_mpv rfl rfl rfl rfl rfl ?_
              refine wo_off rfl rfl rfl ?_
              refine wo_off rfl rfl rfl ?_
              refine wo_off rfl rfl rfl ?_
              refine wo_pick (v := .pv _) rfl rfl rfl rfl rfl rfl ?_
              refine wo_apv rfl rfl rfl rfl rfl ?_
              refine wo_nil ?_
              refine ⟨[_, _, _, _, _, _, _, _, _, _, _, _, _, _, _, _, _, _, _, _, _, _, _, _, _, _, _, _, _, _, _, _, _, _, _, _, _, _, _, _, _, _, _, _, _, _, _, _, _, _, _, _, _, _, _, _, _, _, _, _, _, _, _, _, _, _, _, _, _, _], rfl, ?_⟩
              refine wp_ret ?_
              have hR : v.right = false := by simp [V.right, posz, *]
              rw [hR]
              exact ⟨trivial, _, rfl, leave_pure⟩
          ·
            refine wo_mpv rfl rfl rfl rfl rfl ?_
            refine wo_off rfl rfl rfl ?_
            refine wo_off rfl rfl rfl ?_
            refine wo_off rfl rfl rfl ?_
            refine wo_pick (v := .pv _) rfl rfl rfl rfl rfl rfl ?_
            refine wo_nil ?_
            refine ⟨[_, _, _, _, _, _, _, _, _, _, _, _, _, _, _, _, _, _, _, _, _, _, _, _, _, _, _, _, _, _, _, _, _, _, _, _, _, _, _, _, _, _, _, _, _, _, _, _, _, _, _, _, _, _, _, _, _, _, _, _, _, _, _, _, _, _, _, _, _, _], rfl, ?_⟩
            refine wp_false rfl ?_
            refine wp_skip ?_
            refine wp_seq ?_
            refine wp_seq ?_
            refine wp_region rfl rfl ?_
            refine wo_mpv rfl rfl rfl rfl rfl ?_
            refine wo_mpv rfl rfl rfl rfl rfl ?_
            refine wo_off rfl rfl rfl ?_
            refine wo_off rfl rfl rfl ?_
            refine wo_off rfl rfl rfl ?_
            refine wo_pick (v := .pv _) rfl rfl rfl rfl rfl rfl ?_
            refine wo_apv rfl rfl rfl rfl rfl ?_
            refine wo_nil ?_
            refine ⟨[_, _, _, _, _, _, _, _, _, _, _, _, _, _, _, _, _, _, _, _, _, _, _, _, _, _, _, _, _, _, _, _, _, _, _, _, _, _, _, _, _, _, _, _, _, _, _, _, _, _, _, _, _, _, _, _, _, _, _, _, _, _, _, _, _, _, _, _, _, _], rfl, ?_⟩
            refine wp_ret ?_
            have hR : v.right = false := by simp [V.right, posz, *]
            rw [hR]
            exact ⟨trivial, _, rfl, leave_pure⟩
        ·
          refine wo_apv rfl rfl rfl rfl rfl ?_
          refine wo_nil ?_
          refine ⟨[_, _, _, _, _, _, _, _, _, _, _, _, _, _, _, _, _, _, _, _, _, _, _, _, _, _, _, _, _, _, _, _, _, _, _, _, _, _, _, _, _, _, _, _, _, _, _, _, _, _, _, _, _, _, _, _, _, _, _, _, _, _, _, _, _, _, _, _, _, _], rfl, ?_⟩
          refine wp_false rfl ?_
          refine wp_skip ?_
          refine wp_seq ?_
          refine wp_seq ?_
          refine wp_region rfl rfl ?_
          refine wo_esplit rfl rfl rfl rfl rfl (fun c5_0 => ?_) (fun c5_0 => ?_)
          ·
            refine wo_apv rfl rfl rfl rfl rfl ?_
            refine wo_nil ?_
            refine ⟨[_, _, _, _, _, _, _, _, _, _, _, _, _, _, _, _, _, _, _, _, _, _, _, _, _, _, _, _, _, _, _, _, _, _, _, _, _, _, _, _, _, _, _, _, _, _, _, _, _, _, _, _, _, _, _, _, _, _, _, _, _, _, _, _, _, _, _, _, _, _], rfl, ?_⟩
            refine wp_true rfl ?_
            refine wp_exit ?_
            refine wp_seq ?_
            refine wp_seq ?_
            refine wp_region rfl rfl ?_
            refine wo_mpv rfl rfl rfl rfl rfl ?_
            refine wo_mpv rfl rfl rfl rfl rfl ?_
            refine wo_off rfl rfl rfl ?_
            refine wo_off rfl rfl rfl ?_
            refine wo_off rfl rfl rfl ?_
            refine wo_pick (v := .pv _) rfl rfl rfl rfl rfl rfl ?_
            refine wo_apv rfl rfl rfl rfl rfl ?_
            refine wo_nil ?_
            refine ⟨[_, _, _, _, _, _, _, _, _, _, _, _, _, _, _, _, _, _, _, _, _, _, _, _, _, _, _, _, _, _, _, _, _, _, _, _, _, _, _, _, _, _, _, _, _, _, _, _, _, _, _, _, _, _, _, _, _, _, _, _, _, _, _, _, _, _, _, _, _, _], rfl, ?_⟩
            refine wp_ret ?_
            have hR : v.right = false := by simp [V.right, posz, *]
            rw [hR]
            exact ⟨trivial, _, rfl, leave_pure⟩
          ·
            refine wo_apv rfl rfl rfl rfl rfl ?_
            refine wo_nil ?_
            refine ⟨[_, _, _, _, _, _, _, _, _, _, _, _, _, _, _, _, _, _, _, _, _, _, _, _, _, _, _, _, _, _, _, _, _, _, _, _, _, _, _, _, _, _, _, _, _, _, _, _, _, _, _, _, _, _, _, _, _, _, _, _, _, _, _, _, _, _, _, _, _, _], rfl, ?_⟩
            refine wp_false rfl ?_
            refine wp_skip ?_
            refine wp_seq ?_
            refine wp_seq ?_
            refine wp_region rfl rfl ?_
            refine wo_esplit rfl rfl rfl rfl rfl (fun c6_0 => ?_) (fun c6_0 => ?_)
            ·
              refine wo_apv rfl rfl rfl rfl rfl ?_
              refine wo_nil ?_
              refine ⟨[_, _, _, _, _, _, _, _, _, _, _, _, _, _, _, _, _, _, _, _, _, _, _, _, _, _, _, _, _, _, _, _, _, _, _, _, _, _, _, _, _, _, _, _, _, _, _, _, _, _, _, _, _, _, _, _, _, _, _, _, _, _, _, _, _, _, _, _, _, _], rfl, ?_⟩
              refine wp_true rfl ?_
              refine wp_exit ?_
              refine wp_seq ?_
              refine wp_seq ?_
              refine wp_region rfl rfl ?_
              refine wo_faddr t40 t2 rfl rfl rfl rfl rfl rfl rfl ?_
              refine wo_load t2 rfl rfl rfl rfl rfl rfl ?_
              refine wo_esplit rfl rfl rfl rfl rfl (fun c12_2 => ?_) (fun c12_2 => ?_)
              ·
                refine wo_mpv rfl rfl rfl rfl rfl ?_
                refine wo_faddr t40 t9 rfl rfl rfl rfl rfl rfl rfl ?_
                refine wo_load t9 rfl rfl rfl rfl rfl rfl ?_
                cases he : emp v.s
                ·
                  refine wo_bin (v := .pv (.bool false)) rfl rfl rfl rfl (vF he) ?_
                  refine wo_pick (v := .pv _) rfl rfl rfl rfl rfl rfl ?_
                  refine wo_apv rfl rfl rfl rfl rfl ?_
                  refine wo_nil ?_
                  refine ⟨[_, _, _, _, _, _, _, _, _, _, _, _, _, _, _, _, _, _, _, _, _, _, _, _, _, _, _, _, _, _, _, _, _, _, _, _, _, _, _, _, _, _, _, _, _, _, _, _, _, _, _, _, _, _, _, _, _, _, _, _, _, _, _, _, _, _, _, _, _, _], rfl, ?_⟩
                  refine wp_ret ?_
                  have hR : v.right = false := by simp [V.right, posz, *]
                  rw [hR]
                  exact ⟨trivial, _, rfl, leave_pure⟩
                ·
                  refine wo_bin (v := .pv (.bool true)) rfl rfl rfl rfl (vT he) ?_
                  refine wo_pick (v := .pv _) rfl rfl rfl rfl rfl rfl ?_
                  refine wo_apv rfl rfl rfl rfl rfl ?_
                  refine wo_nil ?_
                  refine ⟨[_, _, _, _, _, _, _, _, _, _, _, _, _, _, _, _, _, _, _, _, _, _, _, _, _, _, _, _, _, _, _, _, _, _, _, _, _, _, _, _, _, _, _, _, _, _, _, _, _, _, _, _, _, _, _, _, _, _, _, _, _, _, _, _, _, _, _, _, _, _], rfl, ?_⟩
                  refine wp_ret ?_
                  have hR : v.right = true := by simp [V.right, posz, *]
                  rw [hR]
                  exact ⟨trivial, _, rfl, leave_pure⟩
              ·
                refine wo_mpv rfl rfl rfl rfl rfl ?_
                refine wo_off rfl rfl rfl ?_
                refine wo_off rfl rfl rfl ?_
                refine wo_off rfl rfl rfl ?_
                refine wo_pick (v := .pv _) rfl rfl rfl rfl rfl rfl ?_
                refine wo_apv rfl rfl rfl rfl rfl ?_
                refine wo_nil ?_
                refine ⟨[_, _, _, _, _, _, _, _, _, _, _, _, _, _, _, _, _, _, _, _, _, _, _, _, _, _, _, _, _, _, _, _, _, _, _, _, _, _, _, _, _, _, _, _, _, _, _, _, _, _, _, _, _, _, _, _, _, _, _, _, _, _, _, _, _, _, _, _, _, _], rfl, ?_⟩
                refine wp_ret ?_
                have hR : v.right = false := by simp [V.right, posz, *]
                rw [hR]
                exact ⟨trivial, _, rfl, leave_pure⟩
            ·
              refine wo_apv rfl rfl rfl rfl rfl ?_
              refine wo_nil ?_
              refine ⟨[_, _, _, _, _, _, _, _, _, _, _, _, _, _, _, _, _, _, _, _, _, _, _, _, _, _, _, _, _, _, _, _, _, _, _, _, _, _, _, _, _, _, _, _, _, _, _, _, _, _, _, _, _, _, _, _, _, _, _, _, _, _, _, _, _, _, _, _, _, _], rfl, ?_⟩
              refine wp_false rfl ?_
              refine wp_skip ?_
              refine wp_seq ?_
              refine wp_region rfl rfl ?_
              refine wo_esplit rfl rfl rfl rfl rfl (fun c7_0 => ?_) (fun c7_0 => ?_)
              ·
                refine wo_apv rfl rfl rfl rfl rfl ?_
                refine wo_nil ?_
                refine ⟨[_, _, _, _, _, _, _, _, _, _, _, _, _, _, _, _, _, _, _, _, _, _, _, _, _, _, _, _, _, _, _, _, _, _, _, _, _, _, _, _, _, _, _, _, _, _, _, _, _, _, _, _, _, _, _, _, _, _, _, _, _, _, _, _, _, _, _, _, _, _], rfl, ?_⟩
                refine wp_true rfl ?_
                refine wp_exit ?_
                refine wp_seq ?_
                refine wp_seq ?_
                refine wp_region rfl rfl ?_
                refine wo_faddr t40 t2 rfl rfl rfl rfl rfl rfl rfl ?_
                refine wo_load t2 rfl rfl rfl rfl rfl rfl ?_
                refine wo_esplit rfl rfl rfl rfl rfl (fun c13_2 => ?_) (fun c13_2 => ?_)
                ·
                  refine wo_mpv rfl rfl rfl rfl rfl ?_
                  refine wo_mpv rfl rfl rfl rfl rfl ?_
                  refine wo_pick (v := .pv _) rfl rfl rfl rfl rfl rfl ?_
                  refine wo_mpv rfl rfl rfl rfl rfl ?_
                  refine wo_off rfl rfl rfl ?_
                  refine wo_off rfl rfl rfl ?_
                  refine wo_off rfl rfl rfl ?_
                  refine wo_off rfl rfl rfl ?_
                  refine wo_norm [_, _, _, _, _, _, _, _, _, _, _, _, _, _, _, _, _, _, _, _, _, _, _, _, _, _, _, _, _, _, _, _, _, _, _, _, _, _, _, _, _, _, _, _, _, _, _, _, _, _, _, _, _, _, _, _, _, _, _, _, _, _, _, _, _, _, _, _, _, _] rfl ?_
                  refine wo_pick (v := .pv _) rfl rfl rfl rfl rfl rfl ?_
                  refine wo_apv rfl rfl rfl rfl rfl ?_
                  refine wo_nil ?_
                  refine ⟨[_, _, _, _, _, _, _, _, _, _, _, _, _, _, _, _, _, _, _, _, _, _, _, _, _, _, _, _, _, _, _, _, _, _, _, _, _, _, _, _, _, _, _, _, _, _, _, _, _, _, _, _, _, _, _, _, _, _, _, _, _, _, _, _, _, _, _, _, _, _], rfl, ?_⟩
                  refine wp_ret ?_
                  have hR : v.right = false := by simp [V.right, posz, *]
                  rw [hR]
                  exact ⟨trivial, _, rfl, leave_pure⟩
                ·
                  refine wo_mpv rfl rfl rfl rfl rfl ?_
                  refine wo_off rfl rfl rfl ?_
                  refine wo_pick (v := .pv _) rfl rfl rfl rfl rfl rfl ?_
                  refine wo_mpv rfl rfl rfl rfl rfl ?_
                  refine wo_off rfl rfl rfl ?_
                  refine wo_off rfl rfl rfl ?_
                  refine wo_off rfl rfl rfl ?_
                  refine wo_off rfl rfl rfl ?_
                  refine wo_norm [_, _, _, _, _, _, _, _, _, _, _, _, _, _, _, _, _, _, _, _, _, _, _, _, _, _, _, _, _, _, _, _, _, _, _, _, _, _, _, _, _, _, _, _, _, _, _, _, _, _, _, _, _, _, _, _, _, _, _, _, _, _, _, _, _, _, _, _, _, _] rfl ?_
                  refine wo_pick (v := .pv _) rfl rfl rfl rfl rfl rfl ?_
                  refine wo_apv rfl rfl rfl rfl rfl ?_
                  refine wo_nil ?_
                  refine ⟨[_, _, _, _, _, _, _, _, _, _, _, _, _, _, _, _, _, _, _, _, _, _, _, _, _, _, _, _, _, _, _, _, _, _, _, _, _, _, _, _, _, _, _, _, _, _, _, _, _, _, _, _, _, _, _, _, _, _, _, _, _, _, _, _, _, _, _, _, _, _], rfl, ?_⟩
                  refine wp_ret ?_
                  have hR : v.right = false := by simp [V.right, posz, *]
                  rw [hR]
                  exact ⟨trivial, _, rfl, leave_pure⟩
              ·
                refine wo_apv rfl rfl rfl rfl rfl ?_
                refine wo_nil ?_
                refine ⟨[_, _, _, _, _, _, _, _, _, _, _, _, _, _, _, _, _, _, _, _, _, _, _, _, _, _, _, _, _, _, _, _, _, _, _, _, _, _, _, _, _, _, _, _, _, _, _, _, _, _, _, _, _, _, _, _, _, _, _, _, _, _, _, _, _, _, _, _, _, _], rfl, ?_⟩
                refine wp_false rfl ?_
                refine wp_skip ?_
                refine wp_exit ?_
                refine wp_seq ?_
                refine wp_region rfl rfl ?_
                refine wo_apv rfl rfl rfl rfl rfl ?_
                refine wo_nil ?_
                refine ⟨[_, _, _, _, _, _, _, _, _, _, _, _, _, _, _, _, _, _, _, _, _, _, _, _, _, _, _, _, _, _, _, _, _, _, _, _, _, _, _, _, _, _, _, _, _, _, _, _, _, _, _, _, _, _, _, _, _, _, _, _, _, _, _, _, _, _, _, _, _, _], rfl, ?_⟩
                refine wp_ret ?_
                have hR : v.right = false := by simp [V.right, posz, *]
                rw [hR]
                exact ⟨trivial, _, rfl, leave_pure⟩
theorem rRight_ok {v : V} (hv : v.Ok) (N : Nat) (hN : 2 ≤ N) : call G N 46 [.agg [.pv (.int .i64 v.k), .pv (.int .i64 v.n), .pv (.flt .f64 v.f), .pv (.str v.s)]] [] = some (.ret (.pv (.bool v.right)), []) := by
  obtain ⟨N, rfl⟩ : ∃ M, N = M + 1 := ⟨N - 1, by omega⟩
  refine call_eq func46 rfl (show _ = [_, _, _, _, _, _, _, _, _, _, _, _, _, _, _, _, _, _, _, _, _, _, _, _, _, _, _, _, _, _, _, _, _, _, _, _, _, _, _, _, _, _, _, _, _, _, _, _, _, _, _, _, _, _, _, _, _, _, _, _, _, _, _, _, _, _, _, _, _, _, _, _, _, _, _, _] from rfl) ?_
  refine wp_seq ?_
  refine wp_region rfl rfl ?_
  refine wo_box (cs := [_, _, _, _]) (H' := [_]) rfl rfl rfl rfl rfl rfl ?_
  refine wo_apv rfl rfl rfl rfl rfl ?_
  refine wo_nil ?_
  refine ⟨[_, _, _, _, _, _, _, _, _, _, _, _, _, _, _, _, _, _, _, _, _, _, _, _, _, _, _, _, _, _, _, _, _, _, _, _, _, _, _, _, _, _, _, _, _, _, _, _, _, _, _, _, _, _, _, _, _, _, _, _, _, _, _, _, _, _, _, _, _, _, _, _, _, _, _, _], rfl, ?_⟩
  refine wp_seq ?_
  refine wp_seq ?_
  refine wp_region rfl rfl ?_
  refine wo_faddr t40 t3 rfl rfl rfl rfl rfl rfl rfl ?_
  refine wo_load t3 rfl rfl rfl rfl rfl rfl ?_
  refine wo_nil ?_
  refine ⟨[_, _, _, _, _, _, _, _, _, _, _, _, _, _, _, _, _, _, _, _, _, _, _, _, _, _, _, _, _, _, _, _, _, _, _, _, _, _, _, _, _, _, _, _, _, _, _, _, _, _, _, _, _, _, _, _, _, _, _, _, _, _, _, _, _, _, _, _, _, _, _, _, _, _, _, _], rfl, ?_⟩
  refine wp_block ?_
  refine wp_seq ?_
  refine wp_region rfl rfl ?_
  refine wo_esplit rfl rfl rfl rfl rfl (fun c2_0 => ?_) (fun c2_0 => ?_)
  ·
    refine wo_apv rfl rfl rfl rfl rfl ?_
    refine wo_nil ?_
    refine ⟨[_, _, _, _, _, _, _, _, _, _, _, _, _, _, _, _, _, _, _, _, _, _, _, _, _, _, _, _, _, _, _, _, _, _, _, _, _, _, _, _, _, _, _, _, _, _, _, _, _, _, _, _, _, _, _, _, _, _, _, _, _, _, _, _, _, _, _, _, _, _, _, _, _, _, _, _], rfl, ?_⟩
    refine wp_true rfl ?_
    refine wp_seq ?_
    refine wp_region rfl rfl ?_
    refine wo_faddr t40 t2 rfl rfl rfl rfl rfl rfl rfl ?_
    refine wo_load t2 rfl rfl rfl rfl rfl rfl ?_
    refine wo_esplit rfl rfl rfl rfl rfl (fun c3_2 => ?_) (fun c3_2 => ?_)
    ·
      refine wo_mpv rfl rfl rfl rfl rfl ?_
      refine wo_faddr t40 t38 rfl rfl rfl rfl rfl rfl rfl ?_
      refine wo_load t38 rfl rfl rfl rfl rfl rfl ?_
      cases hp : posz v.f
      ·
        refine wo_call (v := .pv (.bool false)) (H' := [_]) rfl rfl rfl rfl rfl rfl ((cl60 _ _ _ _).trans (callPure_pv rfl (fun _ => rfl) (by rw [← hp]; exact zero_ok hv.f _ (by omega)))) rfl rfl rfl ?_
        refine wo_pick (v := .pv _) rfl rfl rfl rfl rfl rfl ?_
        refine wo_mpv rfl rfl rfl rfl rfl ?_
        refine wo_off rfl rfl rfl ?_
        refine wo_off rfl rfl rfl ?_
        refine wo_norm [_, _, _, _, _, _, _, _, _, _, _, _, _, _, _, _, _, _, _, _, _, _, _, _, _, _, _, _, _, _, _, _, _, _, _, _, _, _, _, _, _, _, _, _, _, _, _, _, _, _, _, _, _, _, _, _, _, _, _, _, _, _, _, _, _, _, _, _, _, _, _, _, _, _, _, _] rfl ?_
        refine wo_off rfl rfl rfl ?_
        refine wo_pick (v := .pv _) rfl rfl rfl rfl rfl rfl ?_
        refine wo_apv rfl rfl rfl rfl rfl ?_
        refine wo_nil ?_
        refine ⟨[_, _, _, _, _, _, _, _, _, _, _, _, _, _, _, _, _, _, _, _, _, _, _, _, _, _, _, _, _, _, _, _, _, _, _, _, _, _, _, _, _, _, _, _, _, _, _, _, _, _, _, _, _, _, _, _, _, _, _, _, _, _, _, _, _, _, _, _, _, _, _, _, _, _, _, _], rfl, ?_⟩
        refine wp_ret ?_
        have hR : v.right = false := by simp [V.right, *]
        rw [hR]
        exact ⟨trivial, _, rfl, leave_pure⟩
      ·
        refine wo_call (v := .pv (.bool true)) (H' := [_]) rfl rfl rfl rfl rfl rfl ((cl60 _ _ _ _).trans (callPure_pv rfl (fun _ => rfl) (by rw [← hp]; exact zero_ok hv.f _ (by omega)))) rfl rfl rfl ?_
        refine wo_pick (v := .pv _) rfl rfl rfl rfl rfl rfl ?_
        refine wo_mpv rfl rfl rfl rfl rfl ?_
        refine wo_faddr t40 t9 rfl rfl rfl rfl rfl rfl rfl ?_
        refine wo_load t9 rfl rfl rfl rfl rfl rfl ?_
        refine wo_norm [_, _, _, _, _, _, _, _, _, _, _, _, _, _, _, _, _, _, _, _, _, _, _, _, _, _, _, _, _, _, _, _, _, _, _, _, _, _, _, _, _, _, _, _, _, _, _, _, _, _, _, _, _, _, _, _, _, _, _, _, _, _, _, _, _, _, _, _, _, _, _, _, _, _, _, _] rfl ?_
        cases he : emp v.s
        ·
          refine wo_norm [_, _, _, _, _, _, _, _, _, _, _, _, _, _, _, _, _, _, _, _, _, _, _, _, _, _, _, _, _, _, _, _, _, _, _, _, _, _, _, _, _, _, _, _, _, _, _, _, _, _, _, _, _, _, _, _, _, _, _, _, _, _, _, _, _, _, _, _, _, _, _, _, _, _, _, _] rfl ?_
          refine wo_bin (v := .pv (.bool false)) rfl rfl rfl rfl (vF he) ?_
          refine wo_pick (v := .pv _) rfl rfl rfl rfl rfl rfl ?_
          refine wo_apv rfl rfl rfl rfl rfl ?_
          refine wo_nil ?_
          refine ⟨[_, _, _, _, _, _, _, _, _, _, _, _, _, _, _, _, _, _, _, _, _, _, _, _, _, _, _, _, _, _, _, _, _, _, _, _, _, _, _, _, _, _, _, _, _, _, _, _, _, _, _, _, _, _, _, _, _, _, _, _, _, _, _, _, _, _, _, _, _, _, _, _, _, _, _, _], rfl, ?_⟩
          refine wp_ret ?_
          have hR : v.right = false := by simp [V.right, *]
          rw [hR]
          exact ⟨trivial, _, rfl, leave_pure⟩
        ·
          refine wo_norm [_, _, _, _, _, _, _, _, _, _, _, _, _, _, _, _, _, _, _, _, _, _, _, _, _, _, _, _, _, _, _, _, _, _, _, _, _, _, _, _, _, _, _, _, _, _, _, _, _, _, _, _, _, _, _, _, _, _, _, _, _, _, _, _, _, _, _, _, _, _, _, _, _, _, _, _] rfl ?_
          refine wo_bin (v := .pv (.bool true)) rfl rfl rfl rfl (vT he) ?_
          refine wo_pick (v := .pv _) rfl rfl rfl rfl rfl rfl ?_
          refine wo_apv rfl rfl rfl rfl rfl ?_
          refine wo_nil ?_
          refine ⟨[_, _, _, _, _, _, _, _, _, _, _, _, _, _, _, _, _, _, _, _, _, _, _, _, _, _, _, _, _, _, _, _, _, _, _, _, _, _, _, _, _, _, _, _, _, _, _, _, _, _, _, _, _, _, _, _, _, _, _, _, _, _, _, _, _, _, _, _, _, _, _, _, _, _, _, _], rfl, ?_⟩
          refine wp_ret ?_
          have hR : v.right = true := by simp [V.right, *]
          rw [hR]
          exact ⟨trivial, _, rfl, leave_pure⟩
    ·
      refine wo_mpv rfl rfl rfl rfl rfl ?_
      refine wo_off rfl rfl rfl ?_
      refine wo_off rfl rfl rfl ?_
      refine wo_off rfl rfl rfl ?_
      refine wo_pick (v := .pv _) rfl rfl rfl rfl rfl rfl ?_
      refine wo_mpv rfl rfl rfl rfl rfl ?_
      refine wo_off rfl rfl rfl ?_
      refine wo_off rfl rfl rfl ?_
      refine wo_norm [_, _, _, _, _, _, _, _, _, _, _, _, _, _, _, _, _, _, _, _, _, _, _, _, _, _, _, _, _, _, _, _, _, _, _, _, _, _, _, _, _, _, _, _, _, _, _, _, _, _, _, _, _, _, _, _, _, _, _, _, _, _, _, _, _, _, _, _, _, _, _, _, _, _, _, _] rfl ?_
      refine wo_off rfl rfl rfl ?_
      refine wo_pick (v := .pv _) rfl rfl rfl rfl rfl rfl ?_
      refine wo_apv rfl rfl rfl rfl rfl ?_
      refine wo_nil ?_
      refine ⟨[_, _, _, _, _, _, _, _, _, _, _, _, _, _, _, _, _, _, _, _, _, _, _, _, _, _, _, _, _, _, _, _, _, _, _, _, _, _, _, _, _, _, _, _, _, _, _, _, _, _, _, _, _, _, _, _, _, _, _, _, _, _, _, _, _, _, _, _, _, _, _, _, _, _, _, _], rfl, ?_⟩
      refine wp_ret ?_
      have hR : v.right = false := by simp [V.right, *]
      rw [hR]
      exact ⟨trivial, _, rfl, leave_pure⟩
  ·
    refine wo_apv rfl rfl rfl rfl rfl ?_
    refine wo_nil ?_
    refine ⟨[_, _, _, _, _, _, _, _, _, _, _, _, _, _, _, _, _, _, _, _, _, _, _, _, _, _, _, _, _, _, _, _, _, _, _, _, _, _, _, _, _, _, _, _, _, _, _, _, _, _, _, _, _, _, _, _, _, _, _, _, _, _, _, _, _, _, _, _, _, _, _, _, _, _, _, _], rfl, ?_⟩
    refine wp_false rfl ?_
    refine wp_seq ?_
    refine wp_region rfl rfl ?_
    refine wo_esplit rfl rfl rfl rfl rfl (fun c4_0 => ?_) (fun c4_0 => ?_)
    ·
      refine wo_apv rfl rfl rfl rfl rfl ?_
      refine wo_nil ?_
      refine ⟨[_, _, _, _, _, _, _, _, _, _, _, _, _, _, _, _, _, _, _, _, _, _, _, _, _, _, _, _, _, _, _, _, _, _, _, _, _, _, _, _, _, _, _, _, _, _, _, _, _, _, _, _, _, _, _, _, _, _, _, _, _, _, _, _, _, _, _, _, _, _, _, _, _, _, _, _], rfl, ?_⟩
      refine wp_true rfl ?_
      refine wp_seq ?_
      refine wp_region rfl rfl ?_
      refine wo_faddr t40 t2 rfl rfl rfl rfl rfl rfl rfl ?_
      refine wo_load t2 rfl rfl rfl rfl rfl rfl ?_
      refine wo_esplit rfl rfl rfl rfl rfl (fun c5_2 => ?_) (fun c5_2 => ?_)
      ·
        refine wo_mpv rfl rfl rfl rfl rfl ?_
        refine wo_off rfl rfl rfl ?_
        refine wo_off rfl rfl rfl ?_
        refine wo_off rfl rfl rfl ?_
        refine wo_pick (v := .pv _) rfl rfl rfl rfl rfl rfl ?_
        refine wo_mpv rfl rfl rfl rfl rfl ?_
        refine wo_faddr t40 t38 rfl rfl rfl rfl rfl rfl rfl ?_
        refine wo_load t38 rfl rfl rfl rfl rfl rfl ?_
        refine wo_norm [_, _, _, _, _, _, _, _, _, _, _, _, _, _, _, _, _, _, _, _, _, _, _, _, _, _, _, _, _, _, _, _, _, _, _, _, _, _, _, _, _, _, _, _, _, _, _, _, _, _, _, _, _, _, _, _, _, _, _, _, _, _, _, _, _, _, _, _, _, _, _, _, _, _, _, _] rfl ?_
        cases hp : posz v.f
        ·
          refine wo_norm [_, _, _, _, _, _, _, _, _, _, _, _, _, _, _, _, _, _, _, _, _, _, _, _, _, _, _, _, _, _, _, _, _, _, _, _, _, _, _, _, _, _, _, _, _, _, _, _, _, _, _, _, _, _, _, _, _, _, _, _, _, _, _, _, _, _, _, _, _, _, _, _, _, _, _, _] rfl ?_
          refine wo_call (v := .pv (.bool false)) (H' := [_]) rfl rfl rfl rfl rfl rfl ((cl60 _ _ _ _).trans (callPure_pv rfl (fun _ => rfl) (by rw [← hp]; exact zero_ok hv.f _ (by omega)))) rfl rfl rfl ?_
          refine wo_pick (v := .pv _) rfl rfl rfl rfl rfl rfl ?_
          refine wo_mpv rfl rfl rfl rfl rfl ?_
          refine wo_off rfl rfl rfl ?_
          refine wo_off rfl rfl rfl ?_
          refine wo_off rfl rfl rfl ?_
          refine wo_pick (v := .pv _) rfl rfl rfl rfl rfl rfl ?_
          refine wo_apv rfl rfl rfl rfl rfl ?_
          refine wo_nil ?_
          refine ⟨[_, _, _, _, _, _, _, _, _, _, _, _, _, _, _, _, _, _, _, _, _, _, _, _, _, _, _, _, _, _, _, _, _, _, _, _, _, _, _, _, _, _, _, _, _, _, _, _, _, _, _, _, _, _, _, _, _, _, _, _, _, _, _, _, _, _, _, _, _, _, _, _, _, _, _, _], rfl, ?_⟩
          refine wp_ret ?_
          have hR : v.right = false := by simp [V.right, *]
          rw [hR]
          exact ⟨trivial, _, rfl, leave_pure⟩
        ·
          refine wo_norm [_, _, _, _, _, _, _, _, _, _, _, _, _, _, _, _, _, _, _, _, _, _, _, _, _, _, _, _, _, _, _, _, _, _, _, _, _, _, _, _, _, _, _, _, _, _, _, _, _, _, _, _, _, _, _, _, _, _, _, _, _, _, _, _, _, _, _, _, _, _, _, _, _, _, _, _] rfl ?_
          refine wo_call (v := .pv (.bool true)) (H' := [_]) rfl rfl rfl rfl rfl rfl ((cl60 _ _ _ _).trans (callPure_pv rfl (fun _ => rfl) (by rw [← hp]; exact zero_ok hv.f _ (by omega)))) rfl rfl rfl ?_
          refine wo_pick (v := .pv _) rfl rfl rfl rfl rfl rfl ?_
          refine wo_mpv rfl rfl rfl rfl rfl ?_
          refine wo_faddr t40 t9 rfl rfl rfl rfl rfl rfl rfl ?_
          refine wo_load t9 rfl rfl rfl rfl rfl rfl ?_
          cases he : emp v.s
          ·
            refine wo_bin (v := .pv (.bool false)) rfl rfl rfl rfl (vF he) ?_
            refine wo_pick (v := .pv _) rfl rfl rfl rfl rfl rfl ?_
            refine wo_apv rfl rfl rfl rfl rfl ?_
            refine wo_nil ?_
            refine ⟨[_, _, _, _, _, _, _, _, _, _, _, _, _, _, _, _, _, _, _, _, _, _, _, _, _, _, _, _, _, _, _, _, _, _, _, _, _, _, _, _, _, _, _, _, _, _, _, _, _, _, _, _, _, _, _, _, _, _, _, _, _, _, _, _, _, _, _, _, _, _, _, _, _, _, _, _], rfl, ?_⟩
            refine wp_ret ?_
            have hR : v.right = false := by simp [V.right, *]
            rw [hR]
            exact ⟨trivial, _, rfl, leave_pure⟩
          ·
            refine wo_bin (v := .pv (.bool true)) rfl rfl rfl rfl (vT he) ?_
            refine wo_pick (v := .pv _) rfl rfl rfl rfl rfl rfl ?_
            refine wo_apv rfl rfl rfl rfl rfl ?_
            refine wo_nil ?_
            refine ⟨[_, _, _, _, _, _, _, _, _, _, _, _, _, _, _, _, _, _, _, _, _, _, _, _, _, _, _, _, _, _, _, _, _, _, _, _, _, _, _, _, _, _, _, _, _, _, _, _, _, _, _, _, _, _, _, _, _, _, _, _, _, _, _, _, _, _, _, _, _, _, _, _, _, _, _, _], rfl, ?_⟩
            refine wp_ret ?_
            have hR : v.right = true := by simp [V.right, *]
            rw [hR]
            exact ⟨trivial, _, rfl, leave_pure⟩
      ·
        refine wo_mpv rfl rfl rfl rfl rfl ?_
        refine wo_faddr t40 t2 rfl rfl rfl rfl rfl rfl rfl ?_
        refine wo_load t2 rfl rfl rfl rfl rfl rfl ?_
        refine wo_esplit rfl rfl rfl rfl rfl (fun c5_6 => ?_) (fun c5_6 => ?_)
        ·
          refine wo_pick (v := .pv _) rfl rfl rfl rfl rfl rfl ?_
          refine wo_mpv rfl rfl rfl rfl rfl ?_
          refine wo_faddr t40 t38 rfl rfl rfl rfl rfl rfl rfl ?_
          refine wo_load t38 rfl rfl rfl rfl rfl rfl ?_
          refine wo_norm [_, _, _, _, _, _, _, _, _, _, _, _, _, _, _, _, _, _, _, _, _, _, _, _, _, _, _, _, _, _, _, _, _, _, _, _, _, _, _, _, _, _, _, _, _, _, _, _, _, _, _, _, _, _, _, _, _, _, _, _, _, _, _, _, _, _, _, _, _, _, _, _, _, _, _, _] rfl ?_
          cases hp : posz v.f
          ·
            refine wo_norm [_, _, _, _, _, _, _, _, _, _, _, _, _, _, _, _, _, _, _, _, _, _, _, _, _, _, _, _, _, _, _, _, _, _, _, _, _, _, _, _, _, _, _, _, _, _, _, _, _, _, _, _, _, _, _, _, _, _, _, _, _, _, _, _, _, _, _, _, _, _, _, _, _, _, _, _] rfl ?_
            refine wo_call (v := .pv (.bool false)) (H' := [_]) rfl rfl rfl rfl rfl rfl ((cl60 _ _ _ _).trans (callPure_pv rfl (fun _ => rfl) (by rw [← hp]; exact zero_ok hv.f _ (by omega)))) rfl rfl rfl ?_
            refine wo_pick (v := .pv _) rfl rfl rfl rfl rfl rfl ?_
            refine wo_mpv rfl rfl rfl rfl rfl ?_
            refine wo_off rfl rfl rfl ?_
            refine wo_off rfl rfl rfl ?_
            refine wo_off rfl rfl rfl ?_
            refine wo_pick (v := .pv _) rfl rfl rfl rfl rfl rfl ?_
            refine wo_apv rfl rfl rfl rfl rfl ?_
            refine wo_nil ?_
            refine ⟨[_, _, _, _, _, _, _, _, _, _, _, _, _, _, _, _, _, _, _, _, _, _, _, _, _, _, _, _, _, _, _, _, _, _, _, _, _, _, _, _, _, _, _, _, _, _, _, _, _, _, _, _, _, _, _, _, _, _, _, _, _, _, _, _, _, _, _, _, _, _, _, _, _, _, _, _], rfl, ?_⟩
            refine wp_ret ?_
            have hR : v.right = false := by simp [V.right, *]
            rw [hR]
            exact ⟨trivial, _, rfl, leave_pure⟩
          ·
            refine wo_norm [_, _, _, _, _, _, _, _, _, _, _, _, _, _, _, _, _, _, _, _, _, _, _, _, _, _, _, _, _, _, _, _, _, _, _, _, _, _, _, _, _, _, _, _, _, _, _, _, _, _, _, _, _, _, _, _, _, _, _, _, _, _, _, _, _, _, _, _, _, _, _, _, _, _, _, _] rfl ?_
            refine wo_call (v := .pv (.bool true)) (H' := [_]) rfl rfl rfl rfl rfl rfl ((cl60 _ _ _ _).trans (callPure_pv rfl (fun _ => rfl) (by rw [← hp]; exact zero_ok hv.f _ (by omega)))) rfl rfl rfl ?_
            refine wo_pick (v := .pv _) rfl rfl rfl rfl rfl rfl ?_
            refine wo_mpv rfl rfl rfl rfl rfl ?_
            refine wo_faddr t40 t9 rfl rfl rfl rfl rfl rfl rfl ?_
            refine wo_load t9 rfl rfl rfl rfl rfl rfl ?_
            cases he : emp v.s
            ·
              refine wo_bin (v := .pv (.bool false)) rfl rfl rfl rfl (vF he) ?_
              refine wo_pick (v := .pv _) rfl rfl rfl rfl rfl rfl ?_
              refine wo_apv rfl rfl rfl rfl rfl ?_
              refine wo_nil ?_
              refine ⟨[_, _, _, _, _, _, _, _, _, _, _, _, _, _, _, _, _, _, _, _, _, _, _, _, _, _, _, _, _, _, _, _, _, _, _, _, _, _, _, _, _, _, _, _, _, _, _, _, _, _, _, _, _, _, _, _, _, _, _, _, _, _, _, _, _, _, _, _, _, _, _, _, _, _, _, _], rfl, ?_⟩
              refine wp_ret ?_
              have hR : v.right = false := by simp [V.right, *]
              rw [hR]
              exact ⟨trivial, _, rfl, leave_pure⟩
            ·
              refine wo_bin (v := .pv (.bool true)) rfl rfl rfl rfl (vT he) ?_
              refine wo_pick (v := .pv _) rfl rfl rfl rfl rfl rfl ?_
              refine wo_apv rfl rfl rfl rfl rfl ?_
              refine wo_nil ?_
              refine ⟨[_, _, _, _, _, _, _, _, _, _, _, _, _, _, _, _, _, _, _, _, _, _, _, _, _, _, _, _, _, _, _, _, _, _, _, _, _, _, _, _, _, _, _, _, _, _, _, _, _, _, _, _, _, _, _, _, _, _, _, _, _, _, _, _, _, _, _, _, _, _, _, _, _, _, _, _], rfl, ?_⟩
              refine wp_ret ?_
              have hR : v.right = true := by simp [V.right, *]
              rw [hR]
              exact ⟨trivial, _, rfl, leave_pure⟩
        ·
          refine wo_pick (v := .pv _) rfl rfl rfl rfl rfl rfl ?_
          refine wo_mpv rfl rfl rfl rfl rfl ?_
          refine wo_off rfl rfl rfl ?_
          refine wo_off rfl rfl rfl ?_
          refine wo_norm [_, _, _, _, _, _, _, _, _, _, _, _, _, _, _, _, _, _, _, _, _, _, _, _, _, _, _, _, _, _, _, _, _, _, _, _, _, _, _, _, _, _, _, _, _, _, _, _, _, _, _, _, _, _, _, _, _, _, _, _, _, _, _, _, _, _, _, _, _, _, _, _, _, _, _, _] rfl ?_
          refine wo_off rfl rfl rfl ?_
          refine wo_pick (v := .pv _) rfl rfl rfl rfl rfl rfl ?_
          refine wo_mpv rfl rfl rfl rfl rfl ?_
          refine wo_off rfl rfl rfl ?_
          refine wo_off rfl rfl rfl ?_
          refine wo_off rfl rfl rfl ?_
          refine wo_pick (v := .pv _) rfl rfl rfl rfl rfl rfl ?_
          refine wo_apv rfl rfl rfl rfl rfl ?_
          refine wo_nil ?_
          refine ⟨[_, _, _, _, _, _, _, _, _, _, _, _, _, _, _, _, _, _, _, _, _, _, _, _, _, _, _, _, _, _, _, _, _, _, _, _, _, _, _, _, _, _, _, _, _, _, _, _, _, _, _, _, _, _, _, _, _, _, _, _, _, _, _, _, _, _, _, _, _, _, _, _, _, _, _, _], rfl, ?_⟩
          refine wp_ret ?_
          have hR : v.right = false := by simp [V.right, *]
          rw [hR]
          exact ⟨trivial, _, rfl, leave_pure⟩
    ·
      refine wo_apv rfl rfl rfl rfl rfl ?_
      refine wo_nil ?_
      refine ⟨[_, _, _, _, _, _, _, _, _, _, _, _, _, _, _, _, _, _, _, _, _, _, _, _, _, _, _, _, _, _, _, _, _, _, _, _, _, _, _, _, _, _, _, _, _, _, _, _, _, _, _, _, _, _, _, _, _, _, _, _, _, _, _, _, _, _, _, _, _, _, _, _, _, _, _, _], rfl, ?_⟩
      refine wp_false rfl ?_
      refine wp_seq ?_
      refine wp_region rfl rfl ?_
      refine wo_esplit rfl rfl rfl rfl rfl (fun c6_0 => ?_) (fun c6_0 => ?_)
      ·
        refine wo_apv rfl rfl rfl rfl rfl ?_
        refine wo_nil ?_
        refine ⟨[_, _, _, _, _, _, _, _, _, _, _, _, _, _, _, _, _, _, _, _, _, _, _, _, _, _, _, _, _, _, _, _, _, _, _, _, _, _, _, _, _, _, _, _, _, _, _, _, _, _, _, _, _, _, _, _, _, _, _, _, _, _, _, _, _, _, _, _, _, _, _, _, _, _, _, _], rfl, ?_⟩
        refine wp_true rfl ?_
        refine wp_seq ?_
        refine wp_region rfl rfl ?_
        refine wo_faddr t40 t38 rfl rfl rfl rfl rfl rfl rfl ?_
        refine wo_load t38 rfl rfl rfl rfl rfl rfl ?_
        cases hp : posz v.f
        ·
          refine wo_call (v := .pv (.bool false)) (H' := [_]) rfl rfl rfl rfl rfl rfl ((cl60 _ _ _ _).trans (callPure_pv rfl (fun _ => rfl) (by rw [← hp]; exact zero_ok hv.f _ (by omega)))) rfl rfl rfl ?_
          refine wo_mpv rfl rfl rfl rfl rfl ?_
          refine wo_off rfl rfl rfl ?_
          refine wo_off rfl rfl rfl ?_
          refine wo_off rfl rfl rfl ?_
          refine wo_pick (v := .pv _) rfl rfl rfl rfl rfl rfl ?_
          refine wo_apv rfl rfl rfl rfl rfl ?_
          refine wo_nil ?_
          refine ⟨[_, _, _, _, _, _, _, _, _, _, _, _, _, _, _, _, _, _, _, _, _, _, _, _, _, _, _, _, _, _, _, _, _, _, _, _, _, _, _, _, _, _, _, _, _, _, _, _, _, _, _, _, _, _, _, _, _, _, _, _, _, _, _, _, _, _, _, _, _, _, _, _, _, _, _, _], rfl, ?_⟩
          refine wp_ret ?_
          have hR : v.right = false := by simp [V.right, *]
          rw [hR]
          exact ⟨trivial, _, rfl, leave_pure⟩
        ·
          refine wo_call (v := .pv (.bool true)) (H' := [_]) rfl rfl rfl rfl rfl rfl ((cl60 _ _ _ _).trans (callPure_pv rfl (fun _ => rfl) (by rw [← hp]; exact zero_ok hv.f _ (by omega)))) rfl rfl rfl ?_
          refine wo_mpv rfl rfl rfl rfl rfl ?_
          refine wo_faddr t40 t9 rfl rfl rfl rfl rfl rfl rfl ?_
          refine wo_load t9 rfl rfl rfl rfl rfl rfl ?_
          cases he : emp v.s
          ·
            refine wo_bin (v := .pv (.bool false)) rfl rfl rfl rfl (vF he) ?_
            refine wo_pick (v := .pv _) rfl rfl rfl rfl rfl rfl ?_
            refine wo_apv rfl rfl rfl rfl rfl ?_
            refine wo_nil ?_
            refine ⟨[_, _, _, _, _, _, _, _, _, _, _, _, _, _, _, _, _, _, _, _, _, _, _, _, _, _, _, _, _, _, _, _, _, _, _, _, _, _, _, _, _, _, _, _, _, _, _, _, _, _, _, _, _, _, _, _, _, _, _, _, _, _, _, _, _, _, _, _, _, _, _, _, _, _, _, _], rfl, ?_⟩
            refine wp_ret ?_
            have hR : v.right = false := by simp [V.right, *]
            rw [hR]
            exact ⟨trivial, _, rfl, leave_pure⟩
          ·
            refine wo_bin (v := .pv (.bool true)) rfl rfl rfl rfl (vT he) ?_
            refine wo_pick (v := .pv _) rfl rfl rfl rfl rfl rfl ?_
            refine wo_apv rfl rfl rfl rfl rfl ?_
            refine wo_nil ?_
            refine ⟨[_, _, _, _, _, _, _, _, _, _, _, _, _, _, _, _, _, _, _, _, _, _, _, _, _, _, _, _, _, _, _, _, _, _, _, _, _, _, _, _, _, _, _, _, _, _, _, _, _, _, _, _, _, _, _, _, _, _, _, _, _, _, _, _, _, _, _, _, _, _, _, _, _, _, _, _], rfl, ?_⟩
            refine wp_ret ?_
            have hR : v.right = true := by simp [V.right, *]
            rw [hR]
            exact ⟨trivial, _, rfl, leave_pure⟩
      ·
        refine wo_apv rfl rfl rfl rfl rfl ?_
        refine wo_nil ?_
        refine ⟨[_, _, _, _, _, _, _, _, _, _, _, _, _, _, _, _, _, _, _, _, _, _, _, _, _, _, _, _, _, _, _, _, _, _, _, _, _, _, _, _, _, _, _, _, _, _, _, _, _, _, _, _, _, _, _, _, _, _, _, _, _, _, _, _, _, _, _, _, _, _, _, _, _, _, _, _], rfl, ?_⟩
        refine wp_false rfl ?_
        refine wp_seq ?_
        refine wp_region rfl rfl ?_
        refine wo_esplit rfl rfl rfl rfl rfl (fun c8_0 => ?_) (fun c8_0 => ?_)
        ·
          refine wo_apv rfl rfl rfl rfl rfl ?_
          refine wo_nil ?_
          refine ⟨[_, _, _, _, _, _, _, _, _, _, _, _, _, _, _, _, _, _, _, _, _, _, _, _, _, _, _, _, _, _, _, _, _, _, _, _, _, _, _, _, _, _, _, _, _, _, _, _, _, _, _, _, _, _, _, _, _, _, _, _, _, _, _, _, _, _, _, _, _, _, _, _, _, _, _, _], rfl, ?_⟩
          refine wp_true rfl ?_
          refine wp_seq ?_
          refine wp_region rfl rfl ?_
          refine wo_faddr t40 t2 rfl rfl rfl rfl rfl rfl rfl ?_
          refine wo_load t2 rfl rfl rfl rfl rfl rfl ?_
          refine wo_esplit rfl rfl rfl rfl rfl (fun c9_2 => ?_) (fun c9_2 => ?_)
          ·
            refine wo_mpv rfl rfl rfl rfl rfl ?_
            refine wo_faddr t40 t9 rfl rfl rfl rfl rfl rfl rfl ?_
            refine wo_load t9 rfl rfl rfl rfl rfl rfl ?_
            cases he : emp v.s
            ·
              refine wo_bin (v := .pv (.bool false)) rfl rfl rfl rfl (vF he) ?_
              refine wo_pick (v := .pv _) rfl rfl rfl rfl rfl rfl ?_
              refine wo_apv rfl rfl rfl rfl rfl ?_
              refine wo_nil ?_
              refine ⟨[_, _, _, _, _, _, _, _, _, _, _, _, _, _, _, _, _, _, _, _, _, _, _, _, _, _, _, _, _, _, _, _, _, _, _, _, _, _, _, _, _, _, _, _, _, _, _, _, _, _, _, _, _, _, _, _, _, _, _, _, _, _, _, _, _, _, _, _, _, _, _, _, _, _, _, _], rfl, ?_⟩
              refine wp_ret ?_
              have hR : v.right = false := by simp [V.right, *]
              rw [hR]
              exact ⟨trivial, _, rfl, leave_pure⟩
            ·
              refine wo_bin (v := .pv (.bool true)) rfl rfl rfl rfl (vT he) ?_
              refine wo_pick (v := .pv _) rfl rfl rfl rfl rfl rfl ?_
              refine wo_apv rfl rfl rfl rfl rfl ?_
              refine wo_nil ?_
              refine ⟨[_, _, _, _, _, _, _, _, _, _, _, _, _, _, _, _, _, _, _, _, _, _, _, _, _, _, _, _, _, _, _, _, _, _, _, _, _, _, _, _, _, _, _, _, _, _, _, _, _, _, _, _, _, _, _, _, _, _, _, _, _, _, _, _, _, _, _, _, _, _, _, _, _, _, _, _], rfl, ?_⟩
              refine wp_ret ?_
              have hR : v.right = true := by simp [V.right, *]
              rw [hR]
              exact ⟨trivial, _, rfl, leave_pure⟩
          ·
            refine wo_mpv rfl rfl rfl rfl rfl ?_
            refine wo_off rfl rfl rfl ?_
            refine wo_off rfl rfl rfl ?_
            refine wo_off rfl rfl rfl ?_
            refine wo_pick (v := .pv _) rfl rfl rfl rfl rfl rfl ?_
            refine wo_apv rfl rfl rfl rfl rfl ?_
            refine wo_nil ?_
            refine ⟨[_, _, _, _, _, _, _, _, _, _, _, _, _, _, _, _, _, _, _, _, _, _, _, _, _, _, _, _, _, _, _, _, _, _, _, _, _, _, _, _, _, _, _, _, _, _, _, _, _, _, _, _, _, _, _, _, _, _, _, _, _, _, _, _, _, _, _, _, _, _, _, _, _, _, _, _], rfl, ?_⟩
            refine wp_ret ?_
            have hR : v.right = false := by simp [V.right, *]
            rw [hR]
            exact ⟨trivial, _, rfl, leave_pure⟩
        ·
          refine wo_apv rfl rfl rfl rfl rfl ?_
          refine wo_nil ?_
          refine ⟨[_, _, _, _, _, _, _, _, _, _, _, _, _, _, _, _, _, _, _, _, _, _, _, _, _, _, _, _, _, _, _, _, _, _, _, _, _, _, _, _, _, _, _, _, _, _, _, _, _, _, _, _, _, _, _, _, _, _, _, _, _, _, _, _, _, _, _, _, _, _, _, _, _, _, _, _], rfl, ?_⟩
          refine wp_false rfl ?_
          refine wp_seq ?_
          refine wp_region rfl rfl ?_
          refine wo_esplit rfl rfl rfl rfl rfl (fun c10_0 => ?_) (fun c10_0 => ?_)
          ·
            refine wo_apv rfl rfl rfl rfl rfl ?_
            refine wo_nil ?_
            refine ⟨[_, _, _, _, _, _, _, _, _, _, _, _, _, _, _, _, _, _, _, _, _, _, _, _, _, _, _, _, _, _, _, _, _, _, _, _, _, _, _, _, _, _, _, _, _, _, _, _, _, _, _, _, _, _, _, _, _, _, _, _, _, _, _, _, _, _, _, _, _, _, _, _, _, _, _, _], rfl, ?_⟩
            refine wp_true rfl ?_
            refine wp_seq ?_
            refine wp_region rfl rfl ?_
            refine wo_faddr t40 t2 rfl rfl rfl rfl rfl rfl rfl ?_
            refine wo_load t2 rfl rfl rfl rfl rfl rfl ?_
            refine wo_esplit rfl rfl rfl rfl rfl (fun c11_2 => ?_) (fun c11_2 => ?_)
            ·
              refine wo_mpv rfl rfl rfl rfl rfl ?_
              refine wo_faddr t40 t38 rfl rfl rfl rfl rfl rfl rfl ?_
              refine wo_load t38 rfl rfl rfl rfl rfl rfl ?_
              cases hp : posz v.f
              ·
                refine wo_call (v := .pv (.bool false)) (H' := [_]) rfl rfl rfl rfl rfl rfl ((cl60 _ _ _ _).trans (callPure_pv rfl (fun _ => rfl) (by rw [← hp]; exact zero_ok hv.f _ (by omega)))) rfl rfl rfl ?_
                refine wo_pick (v := .pv _) rfl rfl rfl rfl rfl rfl ?_
                refine wo_mpv rfl rfl rfl rfl rfl ?_
                refine wo_off rfl rfl rfl ?_
                refine wo_off rfl rfl rfl ?_
                refine wo_norm [_, _, _, _, _, _, _, _, _, _, _, _, _, _, _, _, _, _, _, _, _, _, _, _, _, _, _, _, _, _, _, _, _, _, _, _, _, _, _, _, _, _, _, _, _, _, _, _, _, _, _, _, _, _, _, _, _, _, _, _, _, _, _, _, _, _, _, _, _, _, _, _, _, _, _, _] rfl ?_
                refine wo_off rfl rfl rfl ?_
                refine wo_off rfl rfl rfl ?_
                refine wo_pick (v := .pv _) rfl rfl rfl rfl rfl rfl ?_
                refine wo_apv rfl rfl rfl rfl rfl ?_
                refine wo_nil ?_
                refine ⟨[_, _, _, _, _, _, _, _, _, _, _, _, _, _, _, _, _, _, _, _, _, _, _, _, _, _, _, _, _, _, _, _, _, _, _, _, _, _, _, _, _, _, _, _, _, _, _, _, _, _, _, _, _, _, _, _, _, _, _, _, _, _, _, _, _, _, _, _, _, _, _, _, _, _, _, _], rfl, ?_⟩
                refine wp_ret ?_
                have hR : v.right = false := by simp [V.right, *]
                rw [hR]
                exact ⟨trivial, _, rfl, leave_pure⟩
              ·
                refine wo_call (v := .pv (.bool true)) (H' := [_]) rfl rfl rfl rfl rfl rfl ((cl60 _ _ _ _).trans (callPure_pv rfl (fun _ => rfl) (by rw [← hp]; exact zero_ok hv.f _ (by omega)))) rfl rfl rfl ?_
                refine wo_pick (v := .pv _) rfl rfl rfl rfl rfl rfl ?_
                refine wo_mpv rfl rfl rfl rfl rfl ?_
                refine wo_faddr t40 t9 rfl rfl rfl rfl rfl rfl rfl ?_
                refine wo_load t9 rfl rfl rfl rfl rfl rfl ?_
                refine wo_norm [_, _, _, _, _, _, _, _, _, _, _, _, _, _, _, _, _, _, _, _, _, _, _, _, _, _, _, _, _, _, _, _, _, _, _, _, _, _, _, _, _, _, _, _, _, _, _, _, _, _, _, _, _, _, _, _, _, _, _, _, _, _, _, _, _, _, _, _, _, _, _, _, _, _, _, _] rfl ?_
                refine wo_len t9 rfl rfl rfl rfl rfl rfl rfl rfl rfl ?_
                refine wo_bsplit rfl rfl rfl rfl rfl (fun c11_12 => ?_) (fun c11_12 => ?_)
                ·
                  refine wo_pick (v := .pv _) rfl rfl rfl rfl rfl rfl ?_
                  refine wo_apv rfl rfl rfl rfl rfl ?_
                  refine wo_nil ?_
                  refine ⟨[_, _, _, _, _, _, _, _, _, _, _, _, _, _, _, _, _, _, _, _, _, _, _, _, _, _, _, _, _, _, _, _, _, _, _, _, _, _, _, _, _, _, _, _, _, _, _, _, _, _, _, _, _, _, _, _, _, _, _, _, _, _, _, _, _, _, _, _, _, _, _, _, _, _, _, _], rfl, ?_⟩
                  refine wp_ret ?_
                  have hR : v.right = true := by simp [V.right, *]
                  rw [hR]
                  exact ⟨trivial, _, rfl, leave_pure⟩
                ·
                  refine wo_pick (v := .pv _) rfl rfl rfl rfl rfl rfl ?_
                  refine wo_apv rfl rfl rfl rfl rfl ?_
                  refine wo_nil ?_
                  refine ⟨[_, _, _, _, _, _, _, _, _, _, _, _, _, _, _, _, _, _, _, _, _, _, _, _, _, _, _, _, _, _, _, _, _, _, _, _, _, _, _, _, _, _, _, _, _, _, _, _, _, _, _, _, _, _, _, _, _, _, _, _, _, _, _, _, _, _, _, _, _, _, _, _, _, _, _, _], rfl, ?_⟩
                  refine wp_ret ?_
                  have hR : v.right = false := by simp [V.right, *]
                  rw [hR]
                  exact ⟨trivial, _, rfl, leave_pure⟩
            ·
              refine wo_mpv rfl rfl rfl rfl rfl ?_
              refine wo_off rfl rfl rfl ?_
              refine wo_off rfl rfl rfl ?_
              refine wo_off rfl rfl rfl ?_
              refine wo_pick (v := .pv _) rfl rfl rfl rfl rfl rfl ?_
              refine wo_mpv rfl rfl rfl rfl rfl ?_
              refine wo_off rfl rfl rfl ?_
              refine wo_off rfl rfl rfl ?_
              refine wo_norm [_, _, _, _, _, _, _, _, _, _, _, _, _, _, _, _, _, _, _, _, _, _, _, _, _, _, _, _, _, _, _, _, _, _, _, _, _, _, _, _, _, _, _, _, _, _, _, _, _, _, _, _, _, _, _, _, _, _, _, _, _, _, _, _, _, _, _, _, _, _, _, _, _, _, _, _] rfl ?_
              refine wo_off rfl rfl rfl ?_
              refine wo_off rfl rfl rfl ?_
              refine wo_pick (v := .pv _) rfl rfl rfl rfl rfl rfl ?_
              refine wo_apv rfl rfl rfl rfl rfl ?_
              refine wo_nil ?_
              refine ⟨[_, _, _, _, _, _, _, _, _, _, _, _, _, _, _, _, _, _, _, _, _, _, _, _, _, _, _, _, _, _, _, _, _, _, _, _, _, _, _, _, _, _, _, _, _, _, _, _, _, _, _, _, _, _, _, _, _, _, _, _, _, _, _, _, _, _, _, _, _, _, _, _, _, _, _, _], rfl, ?_⟩
              refine wp_ret ?_
              have hR : v.right = false := by simp [V.right, *]
              rw [hR]
              exact ⟨trivial, _, rfl, leave_pure⟩
          ·
            refine wo_apv rfl rfl rfl rfl rfl ?_
            refine wo_nil ?_
            refine ⟨[_, _, _, _, _, _, _, _, _, _, _, _, _, _, _, _, _, _, _, _, _, _, _, _, _, _, _, _, _, _, _, _, _, _, _, _, _, _, _, _, _, _, _, _, _, _, _, _, _, _, _, _, _, _, _, _, _, _, _, _, _, _, _, _, _, _, _, _, _, _, _, _, _, _, _, _], rfl, ?_⟩
            refine wp_false rfl ?_
            refine wp_skip ?_
            refine wp_seq ?_
            refine wp_region rfl rfl ?_
            refine wo_apv rfl rfl rfl rfl rfl ?_
            refine wo_nil ?_
            refine ⟨[_, _, _, _, _, _, _, _, _, _, _, _, _, _, _, _, _, _, _, _, _, _, _, _, _, _, _, _, _, _, _, _, _, _, _, _, _, _, _, _, _, _, _, _, _, _, _, _, _, _, _, _, _, _, _, _, _, _, _, _, _, _, _, _, _, _, _, _, _, _, _, _, _, _, _, _], rfl, ?_⟩
            refine wp_ret ?_
            have hR : v.right = false := by simp [V.right, *]
            rw [hR]
            exact ⟨trivial, _, rfl, leave_pure⟩
end Go.Ab.Ytnfgpejdbmakkaa
