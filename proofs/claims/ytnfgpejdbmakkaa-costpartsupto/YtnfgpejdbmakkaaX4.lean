import Derived.Test.YtnfgpejdbmakkaaX3
import Derived.Test.YtnfgpejdbmakkaaX0
namespace Go.Ab.Ytnfgpejdbmakkaa
open Go Go.Ab
open Go.Proofs.Try
set_option maxRecDepth 100000
set_option maxHeartbeats 2000000
set_option linter.unusedSimpArgs false
set_option linter.unusedVariables false

theorem share_ok {a b : Nat} (ha : a < 2 ^ 64) (hb : b < 2 ^ 64) (N : Nat) (hN : 6 ≤ N) : call G N 38 [.pv (.int .u64 a), .pv (.int .u64 b), .pv (.int .u64 256)] [] = some (.ret (.pv (.int .u64 (capN (a * b / 256) : Nat))), []) := by
  obtain ⟨N, rfl⟩ : ∃ M, N = M + 1 := ⟨N - 1, by omega⟩
  have hm := mul64_ok ha hb N (by omega)
  have hb64 : a * b < 2 ^ 64 * 2 ^ 64 := Nat.mul_lt_mul'' ha hb
  generalize a * b = x at hm hb64 ⊢
  refine call_eq func38 rfl (show _ = [_, _, _, _, _, _, _, _, _, _, _, _, _, _, _, _, _, _, _, _, _, _, _, _, _, _, _, _, _, _, _, _, _, _, _] from rfl) ?_
  refine wp_seq ?_
  refine wp_region rfl rfl ?_
  refine wo_apv rfl rfl rfl rfl rfl ?_
  refine wo_nil ?_
  refine ⟨[_, _, _, _, _, _, _, _, _, _, _, _, _, _, _, _, _, _, _, _, _, _, _, _, _, _, _, _, _, _, _, _, _, _, _], rfl, ?_⟩
  refine wp_seq ?_
  refine wp_region rfl rfl ?_
  refine wo_mpv rfl rfl rfl rfl rfl ?_
  refine wo_mpv rfl rfl rfl rfl rfl ?_
  refine wo_call (v := .tup [.pv (.int .u64 ((x / 18446744073709551616 : Nat) : Int)), .pv (.int .u64 ((x % 18446744073709551616 : Nat) : Int))]) (H' := []) rfl rfl rfl rfl rfl rfl ((cl52 _ _ _ _).trans (callPure_any rfl (fun _ => rfl) rfl (hm))) rfl rfl rfl ?_
  refine wo_move (v := .tup _) rfl rfl rfl rfl rfl (fun h => AV.noConfusion h) ?_
  refine wo_extract (v := .pv _) rfl rfl rfl rfl rfl rfl ?_
  refine wo_extract (v := .pv _) rfl rfl rfl rfl rfl rfl ?_
  refine wo_apv rfl rfl rfl rfl rfl ?_
  refine wo_apv rfl rfl rfl rfl rfl ?_
  refine wo_nil ?_
  refine ⟨[_, _, _, _, _, _, _, _, _, _, _, _, _, _, _, _, _, _, _, _, _, _, _, _, _, _, _, _, _, _, _, _, _, _, _], rfl, ?_⟩
  refine wp_seq ?_
  refine wp_seq ?_
  refine wp_region rfl rfl ?_
  refine wo_mpv rfl rfl rfl rfl rfl ?_
  refine wo_esplit rfl rfl rfl rfl rfl (fun c2_1 => ?_) (fun c2_1 => ?_)
  ·
    refine wo_mpv rfl rfl rfl rfl rfl ?_
    refine wo_mpv rfl rfl rfl rfl rfl ?_
    refine wo_esplit rfl rfl rfl rfl rfl (fun c2_4 => ?_) (fun c2_4 => ?_)
    ·
      refine wo_pick (v := .pv _) rfl rfl rfl rfl rfl rfl ?_
      refine wo_nil ?_
      refine ⟨[_, _, _, _, _, _, _, _, _, _, _, _, _, _, _, _, _, _, _, _, _, _, _, _, _, _, _, _, _, _, _, _, _, _, _], rfl, ?_⟩
      refine wp_true rfl ?_
      refine wp_seq ?_
      refine wp_region rfl rfl ?_
      refine wo_apv rfl rfl rfl rfl rfl ?_
      refine wo_nil ?_
      refine ⟨[_, _, _, _, _, _, _, _, _, _, _, _, _, _, _, _, _, _, _, _, _, _, _, _, _, _, _, _, _, _, _, _, _, _, _], rfl, ?_⟩
      refine wp_ret ?_
      first
        | (rw [show capN (x / 256) = 0 by unfold capN; omega]; exact ⟨trivial, _, rfl, leave_pure⟩)
        | (rw [show capN (x / 256) = 18446744073709551615 by unfold capN; omega]; exact ⟨trivial, _, rfl, leave_pure⟩)
        | (rw [show capN (x / 256) = x / 18446744073709551616 * 72057594037927936 + x % 18446744073709551616 / 256 by unfold capN; omega]; exact ⟨trivial, _, rfl, leave_pure⟩)
    ·
      refine wo_pick (v := .pv _) rfl rfl rfl rfl rfl rfl ?_
      refine wo_nil ?_
      refine ⟨[_, _, _, _, _, _, _, _, _, _, _, _, _, _, _, _, _, _, _, _, _, _, _, _, _, _, _, _, _, _, _, _, _, _, _], rfl, ?_⟩
      refine wp_false rfl ?_
      refine wp_skip ?_
      refine wp_seq ?_
      refine wp_seq ?_
      refine wp_region rfl rfl ?_
      refine wo_mpv rfl rfl rfl rfl rfl ?_
      refine wo_mpv rfl rfl rfl rfl rfl ?_
      refine wo_bsplit rfl rfl rfl rfl rfl (fun c4_2 => ?_) (fun c4_2 => ?_)
      ·
        refine wo_nil ?_
        refine ⟨[_, _, _, _, _, _, _, _, _, _, _, _, _, _, _, _, _, _, _, _, _, _, _, _, _, _, _, _, _, _, _, _, _, _, _], rfl, ?_⟩
        refine wp_true rfl ?_
        refine wp_seq ?_
        refine wp_region rfl rfl ?_
        refine wo_call (v := .pv (.int .u64 18446744073709551615)) (H' := []) rfl rfl rfl rfl rfl rfl ((cl55 _ _ _ _).trans (callPure_pv rfl (fun _ => rfl) (cappedT_ok _ (by omega)))) rfl rfl rfl ?_
        refine wo_apv rfl rfl rfl rfl rfl ?_
        refine wo_nil ?_
        refine ⟨[_, _, _, _, _, _, _, _, _, _, _, _, _, _, _, _, _, _, _, _, _, _, _, _, _, _, _, _, _, _, _, _, _, _, _], rfl, ?_⟩
        refine wp_ret ?_
        first
          | (rw [show capN (x / 256) = 0 by unfold capN; omega]; exact ⟨trivial, _, rfl, leave_pure⟩)
          | (rw [show capN (x / 256) = 18446744073709551615 by unfold capN; omega]; exact ⟨trivial, _, rfl, leave_pure⟩)
          | (rw [show capN (x / 256) = x / 18446744073709551616 * 72057594037927936 + x % 18446744073709551616 / 256 by unfold capN; omega]; exact ⟨trivial, _, rfl, leave_pure⟩)
      ·
        refine wo_nil ?_
        refine ⟨[_, _, _, _, _, _, _, _, _, _, _, _, _, _, _, _, _, _, _, _, _, _, _, _, _, _, _, _, _, _, _, _, _, _, _], rfl, ?_⟩
        refine wp_false rfl ?_
        refine wp_skip ?_
        refine wp_seq ?_
        refine wp_region rfl rfl ?_
        refine wo_mpv rfl rfl rfl rfl rfl ?_
        refine wo_mpv rfl rfl rfl rfl rfl ?_
        refine wo_mpv rfl rfl rfl rfl rfl ?_
        obtain ⟨rr, hdv⟩ := div_ok (hi := x / 18446744073709551616) (lo := x % 18446744073709551616) (by omega) (by omega) N (by omega)
        refine wo_call (v := .tup [.pv (.int .u64 ((x / 18446744073709551616 * 72057594037927936 + x % 18446744073709551616 / 256 : Nat) : Int)), .pv rr]) (H' := []) rfl rfl rfl rfl rfl rfl ((cl56 _ _ _ _).trans (callPure_any rfl (fun _ => rfl) rfl hdv)) rfl rfl rfl ?_
        refine wo_move (v := .tup _) rfl rfl rfl rfl rfl (fun h => AV.noConfusion h) ?_
        refine wo_extract (v := .pv _) rfl rfl rfl rfl rfl rfl ?_
        refine wo_extract (v := .pv _) rfl rfl rfl rfl rfl rfl ?_
        refine wo_apv rfl rfl rfl rfl rfl ?_
        refine wo_apv rfl rfl rfl rfl rfl ?_
        refine wo_nil ?_
        refine ⟨[_, _, _, _, _, _, _, _, _, _, _, _, _, _, _, _, _, _, _, _, _, _, _, _, _, _, _, _, _, _, _, _, _, _, _], rfl, ?_⟩
        refine wp_seq ?_
        refine wp_region rfl rfl ?_
        refine wo_mpv rfl rfl rfl rfl rfl ?_
        refine wo_apv rfl rfl rfl rfl rfl ?_
        refine wo_nil ?_
        refine ⟨[_, _, _, _, _, _, _, _, _, _, _, _, _, _, _, _, _, _, _, _, _, _, _, _, _, _, _, _, _, _, _, _, _, _, _], rfl, ?_⟩
        refine wp_ret ?_
        first
          | (rw [show capN (x / 256) = 0 by unfold capN; omega]; exact ⟨trivial, _, rfl, leave_pure⟩)
          | (rw [show capN (x / 256) = 18446744073709551615 by unfold capN; omega]; exact ⟨trivial, _, rfl, leave_pure⟩)
          | (rw [show capN (x / 256) = x / 18446744073709551616 * 72057594037927936 + x % 18446744073709551616 / 256 by unfold capN; omega]; exact ⟨trivial, _, rfl, leave_pure⟩)
  ·
    refine wo_mpv rfl rfl rfl rfl rfl ?_
    refine wo_off rfl rfl rfl ?_
    refine wo_off rfl rfl rfl ?_
    refine wo_pick (v := .pv _) rfl rfl rfl rfl rfl rfl ?_
    refine wo_nil ?_
    refine ⟨[_, _, _, _, _, _, _, _, _, _, _, _, _, _, _, _, _, _, _, _, _, _, _, _, _, _, _, _, _, _, _, _, _, _, _], rfl, ?_⟩
    refine wp_false rfl ?_
    refine wp_skip ?_
    refine wp_seq ?_
    refine wp_seq ?_
    refine wp_region rfl rfl ?_
    refine wo_mpv rfl rfl rfl rfl rfl ?_
    refine wo_mpv rfl rfl rfl rfl rfl ?_
    refine wo_bsplit rfl rfl rfl rfl rfl (fun c4_2 => ?_) (fun c4_2 => ?_)
    ·
      refine wo_nil ?_
      refine ⟨[_, _, _, _, _, _, _, _, _, _, _, _, _, _, _, _, _, _, _, _, _, _, _, _, _, _, _, _, _, _, _, _, _, _, _], rfl, ?_⟩
      refine wp_true rfl ?_
      refine wp_seq ?_
      refine wp_region rfl rfl ?_
      refine wo_call (v := .pv (.int .u64 18446744073709551615)) (H' := []) rfl rfl rfl rfl rfl rfl ((cl55 _ _ _ _).trans (callPure_pv rfl (fun _ => rfl) (cappedT_ok _ (by omega)))) rfl rfl rfl ?_
      refine wo_apv rfl rfl rfl rfl rfl ?_
      refine wo_nil ?_
      refine ⟨[_, _, _, _, _, _, _, _, _, _, _, _, _, _, _, _, _, _, _, _, _, _, _, _, _, _, _, _, _, _, _, _, _, _, _], rfl, ?_⟩
      refine wp_ret ?_
      first
        | (rw [show capN (x / 256) = 0 by unfold capN; omega]; exact ⟨trivial, _, rfl, leave_pure⟩)
        | (rw [show capN (x / 256) = 18446744073709551615 by unfold capN; omega]; exact ⟨trivial, _, rfl, leave_pure⟩)
        | (rw [show capN (x / 256) = x / 18446744073709551616 * 72057594037927936 + x % 18446744073709551616 / 256 by unfold capN; omega]; exact ⟨trivial, _, rfl, leave_pure⟩)
    ·
      refine wo_nil ?_
      refine ⟨[_, _, _, _, _, _, _, _, _, _, _, _, _, _, _, _, _, _, _, _, _, _, _, _, _, _, _, _, _, _, _, _, _, _, _], rfl, ?_⟩
      refine wp_false rfl ?_
      refine wp_skip ?_
      refine wp_seq ?_
      refine wp_region rfl rfl ?_
      refine wo_mpv rfl rfl rfl rfl rfl ?_
      refine wo_mpv rfl rfl rfl rfl rfl ?_
      refine wo_mpv rfl rfl rfl rfl rfl ?_
      obtain ⟨rr, hdv⟩ := div_ok (hi := x / 18446744073709551616) (lo := x % 18446744073709551616) (by omega) (by omega) N (by omega)
      refine wo_call (v := .tup [.pv (.int .u64 ((x / 18446744073709551616 * 72057594037927936 + x % 18446744073709551616 / 256 : Nat) : Int)), .pv rr]) (H' := []) rfl rfl rfl rfl rfl rfl ((cl56 _ _ _ _).trans (callPure_any rfl (fun _ => rfl) rfl hdv)) rfl rfl rfl ?_
      refine wo_move (v := .tup _) rfl rfl rfl rfl rfl (fun h => AV.noConfusion h) ?_
      refine wo_extract (v := .pv _) rfl rfl rfl rfl rfl rfl ?_
      refine wo_extract (v := .pv _) rfl rfl rfl rfl rfl rfl ?_
      refine wo_apv rfl rfl rfl rfl rfl ?_
      refine wo_apv rfl rfl rfl rfl rfl ?_
      refine wo_nil ?_
      refine ⟨[_, _, _, _, _, _, _, _, _, _, _, _, _, _, _, _, _, _, _, _, _, _, _, _, _, _, _, _, _, _, _, _, _, _, _], rfl, ?_⟩
      refine wp_seq ?_
      refine wp_region rfl rfl ?_
      refine wo_mpv rfl rfl rfl rfl rfl ?_
      refine wo_apv rfl rfl rfl rfl rfl ?_
      refine wo_nil ?_
      refine ⟨[_, _, _, _, _, _, _, _, _, _, _, _, _, _, _, _, _, _, _, _, _, _, _, _, _, _, _, _, _, _, _, _, _, _, _], rfl, ?_⟩
      refine wp_ret ?_
      first
        | (rw [show capN (x / 256) = 0 by unfold capN; omega]; exact ⟨trivial, _, rfl, leave_pure⟩)
        | (rw [show capN (x / 256) = 18446744073709551615 by unfold capN; omega]; exact ⟨trivial, _, rfl, leave_pure⟩)
        | (rw [show capN (x / 256) = x / 18446744073709551616 * 72057594037927936 + x % 18446744073709551616 / 256 by unfold capN; omega]; exact ⟨trivial, _, rfl, leave_pure⟩)
theorem shrV {l k : Nat} (hk : k < 64) : shiftBin .shr .u64 (l : Int) (k : Int) = some (.pv (.int .u64 ((l / 2 ^ k : Nat) : Int))) := shrN k (2 ^ k) hk rfl l
theorem rshare_ok {a b : Nat} (ha : a < 2 ^ 64) (hb : b < 2 ^ 64) (N : Nat) (hN : 70 ≤ N) : call G N 40 [.pv (.int .u64 a), .pv (.int .u64 b), .pv (.int .u64 256)] [] = some (.ret (.pv (.int .u64 (capN (a * b / 256) : Nat))), []) := by
  obtain ⟨N, rfl⟩ : ∃ M, N = M + 1 := ⟨N - 1, by omega⟩
  have hm := wide_ok ha hb N (by omega)
  have hb64 : a * b < 2 ^ 64 * 2 ^ 64 := Nat.mul_lt_mul'' ha hb
  generalize a * b = x at hm hb64 ⊢
  have hstep : ∀ k, k < 64 → x / 2 ^ k = 2 * (x / 2 ^ (k + 1)) + x % 18446744073709551616 / 2 ^ k % 2 := by
    intro k hk
    have e1 : x / 2 ^ (k + 1) = x / 2 ^ k / 2 := by rw [Nat.pow_succ, Nat.div_div_eq_div_mul]
    have e2 : x % 18446744073709551616 / 2 ^ k % 2 = x / 2 ^ k % 2 := by
      have hp : 18446744073709551616 = 2 ^ k * 2 ^ (64 - k) := by rw [← Nat.pow_add, show k + (64 - k) = 64 by omega]
      rw [hp, Nat.mod_mul_right_div_self]
      have h2 : 2 ^ (64 - k) = 2 * 2 ^ (63 - k) := by rw [show 64 - k = (63 - k) + 1 by omega, Nat.pow_succ]; omega
      rw [h2, Nat.mod_mul_right_mod]
    rw [e1, e2]; omega
  have hbound : ∀ k, x / 18446744073709551616 < 256 → x / 2 ^ k / 256 < 2 ^ 64 := by
    intro k h
    have : x / 2 ^ k ≤ x := Nat.div_le_self _ _
    have h3 : x / 2 ^ k / 256 ≤ x / 256 := Nat.div_le_div_right this
    omega
  refine call_eq func40 rfl (show _ = [_, _, _, _, _, _, _, _, _, _, _, _, _, _, _, _, _, _, _, _, _, _, _, _, _, _, _, _, _, _, _, _, _, _, _, _, _, _, _, _, _, _, _, _, _, _, _, _, _, _, _, _, _, _, _, _, _, _, _, _, _, _, _] from rfl) ?_
  refine wp_seq ?_
  refine wp_region rfl rfl ?_
  refine wo_apv rfl rfl rfl rfl rfl ?_
  refine wo_nil ?_
  refine ⟨[_, _, _, _, _, _, _, _, _, _, _, _, _, _, _, _, _, _, _, _, _, _, _, _, _, _, _, _, _, _, _, _, _, _, _, _, _, _, _, _, _, _, _, _, _, _, _, _, _, _, _, _, _, _, _, _, _, _, _, _, _, _, _], rfl, ?_⟩
  refine wp_seq ?_
  refine wp_region rfl rfl ?_
  refine wo_mpv rfl rfl rfl rfl rfl ?_
  refine wo_mpv rfl rfl rfl rfl rfl ?_
  refine wo_call (v := .tup [.pv (.int .u64 ((x / 18446744073709551616 : Nat) : Int)), .pv (.int .u64 ((x % 18446744073709551616 : Nat) : Int))]) (H' := []) rfl rfl rfl rfl rfl rfl ((cl53 _ _ _ _).trans (callPure_any rfl (fun _ => rfl) rfl (hm))) rfl rfl rfl ?_
  refine wo_move (v := .tup _) rfl rfl rfl rfl rfl (fun h => AV.noConfusion h) ?_
  refine wo_extract (v := .pv _) rfl rfl rfl rfl rfl rfl ?_
  refine wo_extract (v := .pv _) rfl rfl rfl rfl rfl rfl ?_
  refine wo_apv rfl rfl rfl rfl rfl ?_
  refine wo_apv rfl rfl rfl rfl rfl ?_
  refine wo_nil ?_
  refine ⟨[_, _, _, _, _, _, _, _, _, _, _, _, _, _, _, _, _, _, _, _, _, _, _, _, _, _, _, _, _, _, _, _, _, _, _, _, _, _, _, _, _, _, _, _, _, _, _, _, _, _, _, _, _, _, _, _, _, _, _, _, _, _, _], rfl, ?_⟩
  refine wp_seq ?_
  refine wp_seq ?_
  refine wp_region rfl rfl ?_
  refine wo_mpv rfl rfl rfl rfl rfl ?_
  refine wo_esplit rfl rfl rfl rfl rfl (fun c2_1 => ?_) (fun c2_1 => ?_)
  ·
    refine wo_mpv rfl rfl rfl rfl rfl ?_
    refine wo_mpv rfl rfl rfl rfl rfl ?_
    refine wo_esplit rfl rfl rfl rfl rfl (fun c2_4 => ?_) (fun c2_4 => ?_)
    ·
      refine wo_pick (v := .pv _) rfl rfl rfl rfl rfl rfl ?_
      refine wo_nil ?_
      refine ⟨[_, _, _, _, _, _, _, _, _, _, _, _, _, _, _, _, _, _, _, _, _, _, _, _, _, _, _, _, _, _, _, _, _, _, _, _, _, _, _, _, _, _, _, _, _, _, _, _, _, _, _, _, _, _, _, _, _, _, _, _, _, _, _], rfl, ?_⟩
      refine wp_true rfl ?_
      refine wp_seq ?_
      refine wp_region rfl rfl ?_
      refine wo_apv rfl rfl rfl rfl rfl ?_
      refine wo_nil ?_
      refine ⟨[_, _, _, _, _, _, _, _, _, _, _, _, _, _, _, _, _, _, _, _, _, _, _, _, _, _, _, _, _, _, _, _, _, _, _, _, _, _, _, _, _, _, _, _, _, _, _, _, _, _, _, _, _, _, _, _, _, _, _, _, _, _, _], rfl, ?_⟩
      refine wp_ret ?_
      first
        | (rw [show capN (x / 256) = 0 by unfold capN; omega]; exact ⟨trivial, _, rfl, leave_pure⟩)
        | (rw [show capN (x / 256) = 18446744073709551615 by unfold capN; omega]; exact ⟨trivial, _, rfl, leave_pure⟩)
        | (obtain rfl : k = 0 := by omega
           rw [Nat.pow_zero, Nat.div_one] at hq
           rw [show capN (x / 256) = q by unfold capN; omega]
           exact ⟨trivial, _, rfl, leave_pure⟩)
    ·
      refine wo_pick (v := .pv _) rfl rfl rfl rfl rfl rfl ?_
      refine wo_nil ?_
      refine ⟨[_, _, _, _, _, _, _, _, _, _, _, _, _, _, _, _, _, _, _, _, _, _, _, _, _, _, _, _, _, _, _, _, _, _, _, _, _, _, _, _, _, _, _, _, _, _, _, _, _, _, _, _, _, _, _, _, _, _, _, _, _, _, _], rfl, ?_⟩
      refine wp_false rfl ?_
      refine wp_skip ?_
      refine wp_seq ?_
      refine wp_seq ?_
      refine wp_region rfl rfl ?_
      refine wo_mpv rfl rfl rfl rfl rfl ?_
      refine wo_bin (v := .pv (.bool false)) rfl rfl rfl rfl (eF (by decide)) ?_
      refine wo_mpv rfl rfl rfl rfl rfl ?_
      refine wo_mpv rfl rfl rfl rfl rfl ?_
      refine wo_mpv rfl rfl rfl rfl rfl ?_
      refine wo_bsplit rfl rfl rfl rfl rfl (fun c4_5 => ?_) (fun c4_5 => ?_)
      ·
        refine wo_pick (v := .pv _) rfl rfl rfl rfl rfl rfl ?_
        refine wo_nil ?_
        refine ⟨[_, _, _, _, _, _, _, _, _, _, _, _, _, _, _, _, _, _, _, _, _, _, _, _, _, _, _, _, _, _, _, _, _, _, _, _, _, _, _, _, _, _, _, _, _, _, _, _, _, _, _, _, _, _, _, _, _, _, _, _, _, _, _], rfl, ?_⟩
        refine wp_true rfl ?_
        refine wp_seq ?_
        refine wp_region rfl rfl ?_
        refine wo_apv rfl rfl rfl rfl rfl ?_
        refine wo_nil ?_
        refine ⟨[_, _, _, _, _, _, _, _, _, _, _, _, _, _, _, _, _, _, _, _, _, _, _, _, _, _, _, _, _, _, _, _, _, _, _, _, _, _, _, _, _, _, _, _, _, _, _, _, _, _, _, _, _, _, _, _, _, _, _, _, _, _, _], rfl, ?_⟩
        refine wp_ret ?_
        first
          | (rw [show capN (x / 256) = 0 by unfold capN; omega]; exact ⟨trivial, _, rfl, leave_pure⟩)
          | (rw [show capN (x / 256) = 18446744073709551615 by unfold capN; omega]; exact ⟨trivial, _, rfl, leave_pure⟩)
          | (obtain rfl : k = 0 := by omega
             rw [Nat.pow_zero, Nat.div_one] at hq
             rw [show capN (x / 256) = q by unfold capN; omega]
             exact ⟨trivial, _, rfl, leave_pure⟩)
      ·
        refine wo_pick (v := .pv _) rfl rfl rfl rfl rfl rfl ?_
        refine wo_nil ?_
        refine ⟨[_, _, _, _, _, _, _, _, _, _, _, _, _, _, _, _, _, _, _, _, _, _, _, _, _, _, _, _, _, _, _, _, _, _, _, _, _, _, _, _, _, _, _, _, _, _, _, _, _, _, _, _, _, _, _, _, _, _, _, _, _, _, _], rfl, ?_⟩
        refine wp_false rfl ?_
        refine wp_skip ?_
        refine wp_seq ?_
        refine wp_region rfl rfl ?_
        refine wo_mpv rfl rfl rfl rfl rfl ?_
        refine wo_apv rfl rfl rfl rfl rfl ?_
        refine wo_nil ?_
        refine ⟨[_, _, _, _, _, _, _, _, _, _, _, _, _, _, _, _, _, _, _, _, _, _, _, _, _, _, _, _, _, _, _, _, _, _, _, _, _, _, _, _, _, _, _, _, _, _, _, _, _, _, _, _, _, _, _, _, _, _, _, _, _, _, _], rfl, ?_⟩
        refine wp_seq ?_
        refine wp_region rfl rfl ?_
        refine wo_apv rfl rfl rfl rfl rfl ?_
        refine wo_nil ?_
        refine ⟨[_, _, _, _, _, _, _, _, _, _, _, _, _, _, _, _, _, _, _, _, _, _, _, _, _, _, _, _, _, _, _, _, _, _, _, _, _, _, _, _, _, _, _, _, _, _, _, _, _, _, _, _, _, _, _, _, _, _, _, _, _, _, _], rfl, ?_⟩
        refine wp_seq ?_
        refine wp_seq ?_
        refine wp_region rfl rfl ?_
        refine wo_apv rfl rfl rfl rfl rfl ?_
        refine wo_nil ?_
        refine ⟨[_, _, _, _, _, _, _, _, _, _, _, _, _, _, _, _, _, _, _, _, _, _, _, _, _, _, _, _, _, _, _, _, _, _, _, _, _, _, _, _, _, _, _, _, _, _, _, _, _, _, _, _, _, _, _, _, _, _, _, _, _, _, _], rfl, ?_⟩
        refine wp_block ?_
        have hh : x / 18446744073709551616 < 256 := by omega
        refine wp_loop (fun k t H => ∃ rest q : Nat, rest < 256 ∧ q * 256 + rest = x / 2 ^ k ∧ k ≤ 64 ∧ t = [.any, .any, .pv (.int .u64 256), .any, .any, .any, .any, .any, .pv (.int .u64 ((x % 18446744073709551616 : Nat) : Int)), .pv (.int .u64 (rest : Nat)), .pv (.int .u64 (q : Nat)), .pv (.int .i64 ((k : Nat) - 1 : Int)), .any, .any, .any, .any, .any, .any, .any, .any, .any, .any, .any, .any, .any, .any, .any, .any, .any, .any, .any, .any, .any, .any, .any, .any, .any, .any, .any, .any, .any, .any, .any, .any, .any, .any, .any, .any, .any, .any, .any, .any, .any, .any, .any, .any, .any, .any, .any, .any, .any, .any, .any] ∧ H = []) 64 ⟨x / 18446744073709551616, 0, hh, by omega, by omega, rfl, rfl⟩ (by omega) ?_
        rintro k _ _ hk ⟨rest, q, hrest, hq, hk64, rfl, rfl⟩
        refine wp_seq ?_
        refine wp_seq ?_
        refine wp_region rfl rfl ?_
        refine wo_mpv rfl rfl rfl rfl rfl ?_
        refine wo_bsplit rfl rfl rfl rfl rfl (fun c9_1 => ?_) (fun c9_1 => ?_)
        ·
          refine wo_nil ?_
          refine ⟨[_, _, _, _, _, _, _, _, _, _, _, _, _, _, _, _, _, _, _, _, _, _, _, _, _, _, _, _, _, _, _, _, _, _, _, _, _, _, _, _, _, _, _, _, _, _, _, _, _, _, _, _, _, _, _, _, _, _, _, _, _, _, _], rfl, ?_⟩
          refine wp_true rfl ?_
          refine wp_skip ?_
          refine wp_seq ?_
          refine wp_block ?_
          refine wp_seq ?_
          refine wp_region rfl rfl ?_
          obtain ⟨k', rfl⟩ : ∃ k', k = k' + 1 := ⟨k - 1, by omega⟩
          have hs := hstep k' (by omega)
          have hbd := hbound k' hh
          have hbit : x % 18446744073709551616 / 2 ^ k' % 2 < 2 := Nat.mod_lt _ (by decide)
          generalize hB : x % 18446744073709551616 / 2 ^ k' % 2 = bit at hs hbit
          refine wo_mpv rfl rfl rfl rfl rfl ?_
          refine wo_mpv rfl rfl rfl rfl rfl ?_
          refine wo_conv (v := .pv (.int .u64 (k' : Nat))) rfl rfl rfl rfl ((wconv t3 t67 rfl rfl).trans (iV (by rw [wrapU64 (by omega) (by omega)]; omega))) rfl ?_
          refine wo_bin (v := .pv (.int .u64 ((x % 18446744073709551616 / 2 ^ k' : Nat) : Int))) rfl rfl rfl rfl (shrV (by omega)) ?_
          refine wo_bin (v := .pv (.int .u64 (bit : Nat))) rfl rfl rfl rfl ((by rw [← hB]; rfl)) ?_
          refine wo_apv rfl rfl rfl rfl rfl ?_
          refine wo_nil ?_
          refine ⟨[_, _, _, _, _, _, _, _, _, _, _, _, _, _, _, _, _, _, _, _, _, _, _, _, _, _, _, _, _, _, _, _, _, _, _, _, _, _, _, _, _, _, _, _, _, _, _, _, _, _, _, _, _, _, _, _, _, _, _, _, _, _, _], rfl, ?_⟩
          refine wp_seq ?_
          refine wp_region rfl rfl ?_
          refine wo_mpv rfl rfl rfl rfl rfl ?_
          refine wo_bin (v := .pv (.bool false)) rfl rfl rfl rfl (bF (by omega)) ?_
          refine wo_apv rfl rfl rfl rfl rfl ?_
          refine wo_nil ?_
          refine ⟨[_, _, _, _, _, _, _, _, _, _, _, _, _, _, _, _, _, _, _, _, _, _, _, _, _, _, _, _, _, _, _, _, _, _, _, _, _, _, _, _, _, _, _, _, _, _, _, _, _, _, _, _, _, _, _, _, _, _, _, _, _, _, _], rfl, ?_⟩
          refine wp_seq ?_
          refine wp_region rfl rfl ?_
          refine wo_mpv rfl rfl rfl rfl rfl ?_
          refine wo_bin (v := .pv (.int .u64 ((rest * 2 : Nat) : Int))) rfl rfl rfl rfl (mulN (b := 2) (by omega)) ?_
          refine wo_mpv rfl rfl rfl rfl rfl ?_
          refine wo_bin (v := .pv (.int .u64 ((rest * 2 + bit : Nat) : Int))) rfl rfl rfl rfl (addN (by omega)) ?_
          refine wo_apv rfl rfl rfl rfl rfl ?_
          refine wo_nil ?_
          refine ⟨[_, _, _, _, _, _, _, _, _, _, _, _, _, _, _, _, _, _, _, _, _, _, _, _, _, _, _, _, _, _, _, _, _, _, _, _, _, _, _, _, _, _, _, _, _, _, _, _, _, _, _, _, _, _, _, _, _, _, _, _, _, _, _], rfl, ?_⟩
          refine wp_seq ?_
          refine wp_region rfl rfl ?_
          refine wo_mpv rfl rfl rfl rfl rfl ?_
          refine wo_bin (v := .pv (.int .u64 ((q * 2 : Nat) : Int))) rfl rfl rfl rfl (mulN (b := 2) (by omega)) ?_
          refine wo_apv rfl rfl rfl rfl rfl ?_
          refine wo_nil ?_
          refine ⟨[_, _, _, _, _, _, _, _, _, _, _, _, _, _, _, _, _, _, _, _, _, _, _, _, _, _, _, _, _, _, _, _, _, _, _, _, _, _, _, _, _, _, _, _, _, _, _, _, _, _, _, _, _, _, _, _, _, _, _, _, _, _, _], rfl, ?_⟩
          refine wp_seq ?_
          refine wp_region rfl rfl ?_
          refine wo_mpv rfl rfl rfl rfl rfl ?_
          refine wo_mpv rfl rfl rfl rfl rfl ?_
          refine wo_mpv rfl rfl rfl rfl rfl ?_
          refine wo_mpv rfl rfl rfl rfl rfl ?_
          refine wo_bsplit rfl rfl rfl rfl rfl (fun c15_4 => ?_) (fun c15_4 => ?_)
          ·
            refine wo_pick (v := .pv _) rfl rfl rfl rfl rfl rfl ?_
            refine wo_nil ?_
            refine ⟨[_, _, _, _, _, _, _, _, _, _, _, _, _, _, _, _, _, _, _, _, _, _, _, _, _, _, _, _, _, _, _, _, _, _, _, _, _, _, _, _, _, _, _, _, _, _, _, _, _, _, _, _, _, _, _, _, _, _, _, _, _, _, _], rfl, ?_⟩
            refine wp_true rfl ?_
            refine wp_seq ?_
            refine wp_region rfl rfl ?_
            refine wo_mpv rfl rfl rfl rfl rfl ?_
            refine wo_mpv rfl rfl rfl rfl rfl ?_
            refine wo_bin (v := .pv (.int .u64 ((rest * 2 + bit - 256 : Nat) : Int))) rfl rfl rfl rfl (subN (b := 256) (by omega) (by omega)) ?_
            refine wo_apv rfl rfl rfl rfl rfl ?_
            refine wo_nil ?_
            refine ⟨[_, _, _, _, _, _, _, _, _, _, _, _, _, _, _, _, _, _, _, _, _, _, _, _, _, _, _, _, _, _, _, _, _, _, _, _, _, _, _, _, _, _, _, _, _, _, _, _, _, _, _, _, _, _, _, _, _, _, _, _, _, _, _], rfl, ?_⟩
            refine wp_region rfl rfl ?_
            refine wo_mpv rfl rfl rfl rfl rfl ?_
            refine wo_bin (v := .pv (.int .u64 ((q * 2 + 1 : Nat) : Int))) rfl rfl rfl rfl (addN (b := 1) (by omega)) ?_
            refine wo_apv rfl rfl rfl rfl rfl ?_
            refine wo_nil ?_
            refine ⟨[_, _, _, _, _, _, _, _, _, _, _, _, _, _, _, _, _, _, _, _, _, _, _, _, _, _, _, _, _, _, _, _, _, _, _, _, _, _, _, _, _, _, _, _, _, _, _, _, _, _, _, _, _, _, _, _, _, _, _, _, _, _, _], rfl, ?_⟩
            refine wp_region rfl rfl ?_
            refine wo_mpv rfl rfl rfl rfl rfl ?_
            refine wo_bin (v := .pv (.int .i64 ((k' : Nat) - 1 : Int))) rfl rfl rfl rfl (iV (by rw [wrapI (by omega) (by omega)]; omega)) ?_
            refine wo_apv rfl rfl rfl rfl rfl ?_
            refine wo_nil ?_
            refine ⟨[_, _, _, _, _, _, _, _, _, _, _, _, _, _, _, _, _, _, _, _, _, _, _, _, _, _, _, _, _, _, _, _, _, _, _, _, _, _, _, _, _, _, _, _, _, _, _, _, _, _, _, _, _, _, _, _, _, _, _, _, _, _, _], rfl, ?_⟩
            exact ⟨_, _, tidy_norm (t' := [_, _, _, _, _, _, _, _, _, _, _, _, _, _, _, _, _, _, _, _, _, _, _, _, _, _, _, _, _, _, _, _, _, _, _, _, _, _, _, _, _, _, _, _, _, _, _, _, _, _, _, _, _, _, _, _, _, _, _, _, _, _, _]) rfl rfl rfl, k', by omega, _, _, by omega, by omega, by omega, rfl, rfl⟩
          ·
            refine wo_pick (v := .pv _) rfl rfl rfl rfl rfl rfl ?_
            refine wo_nil ?_
            refine ⟨[_, _, _, _, _, _, _, _, _, _, _, _, _, _, _, _, _, _, _, _, _, _, _, _, _, _, _, _, _, _, _, _, _, _, _, _, _, _, _, _, _, _, _, _, _, _, _, _, _, _, _, _, _, _, _, _, _, _, _, _, _, _, _], rfl, ?_⟩
            refine wp_false rfl ?_
            refine wp_skip ?_
            refine wp_region rfl rfl ?_
            refine wo_mpv rfl rfl rfl rfl rfl ?_
            refine wo_bin (v := .pv (.int .i64 ((k' : Nat) - 1 : Int))) rfl rfl rfl rfl (iV (by rw [wrapI (by omega) (by omega)]; omega)) ?_
            refine wo_apv rfl rfl rfl rfl rfl ?_
            refine wo_nil ?_
            refine ⟨[_, _, _, _, _, _, _, _, _, _, _, _, _, _, _, _, _, _, _, _, _, _, _, _, _, _, _, _, _, _, _, _, _, _, _, _, _, _, _, _, _, _, _, _, _, _, _, _, _, _, _, _, _, _, _, _, _, _, _, _, _, _, _], rfl, ?_⟩
            exact ⟨_, _, tidy_norm (t' := [_, _, _, _, _, _, _, _, _, _, _, _, _, _, _, _, _, _, _, _, _, _, _, _, _, _, _, _, _, _, _, _, _, _, _, _, _, _, _, _, _, _, _, _, _, _, _, _, _, _, _, _, _, _, _, _, _, _, _, _, _, _, _]) rfl rfl rfl, k', by omega, _, _, by omega, by omega, by omega, rfl, rfl⟩
        ·
          refine wo_nil ?_
          refine ⟨[_, _, _, _, _, _, _, _, _, _, _, _, _, _, _, _, _, _, _, _, _, _, _, _, _, _, _, _, _, _, _, _, _, _, _, _, _, _, _, _, _, _, _, _, _, _, _, _, _, _, _, _, _, _, _, _, _, _, _, _, _, _, _], rfl, ?_⟩
          refine wp_false rfl ?_
          refine wp_exit ?_
          refine wp_seq ?_
          refine wp_region rfl rfl ?_
          refine wo_mpv rfl rfl rfl rfl rfl ?_
          refine wo_apv rfl rfl rfl rfl rfl ?_
          refine wo_nil ?_
          refine ⟨[_, _, _, _, _, _, _, _, _, _, _, _, _, _, _, _, _, _, _, _, _, _, _, _, _, _, _, _, _, _, _, _, _, _, _, _, _, _, _, _, _, _, _, _, _, _, _, _, _, _, _, _, _, _, _, _, _, _, _, _, _, _, _], rfl, ?_⟩
          refine wp_ret ?_
          first
            | (rw [show capN (x / 256) = 0 by unfold capN; omega]; exact ⟨trivial, _, rfl, leave_pure⟩)
            | (rw [show capN (x / 256) = 18446744073709551615 by unfold capN; omega]; exact ⟨trivial, _, rfl, leave_pure⟩)
            | (obtain rfl : k = 0 := by omega
               rw [Nat.pow_zero, Nat.div_one] at hq
               rw [show capN (x / 256) = q by unfold capN; omega]
               exact ⟨trivial, _, rfl, leave_pure⟩)
  ·
    refine wo_mpv rfl rfl rfl rfl rfl ?_
    refine wo_off rfl rfl rfl ?_
    refine wo_off rfl rfl rfl ?_
    refine wo_pick (v := .pv _) rfl rfl rfl rfl rfl rfl ?_
    refine wo_nil ?_
    refine ⟨[_, _, _, _, _, _, _, _, _, _, _, _, _, _, _, _, _, _, _, _, _, _, _, _, _, _, _, _, _, _, _, _, _, _, _, _, _, _, _, _, _, _, _, _, _, _, _, _, _, _, _, _, _, _, _, _, _, _, _, _, _, _, _], rfl, ?_⟩
    refine wp_false rfl ?_
    refine wp_skip ?_
    refine wp_seq ?_
    refine wp_seq ?_
    refine wp_region rfl rfl ?_
    refine wo_mpv rfl rfl rfl rfl rfl ?_
    refine wo_bin (v := .pv (.bool false)) rfl rfl rfl rfl (eF (by decide)) ?_
    refine wo_mpv rfl rfl rfl rfl rfl ?_
    refine wo_mpv rfl rfl rfl rfl rfl ?_
    refine wo_mpv rfl rfl rfl rfl rfl ?_
    refine wo_bsplit rfl rfl rfl rfl rfl (fun c4_5 => ?_) (fun c4_5 => ?_)
    ·
      refine wo_pick (v := .pv _) rfl rfl rfl rfl rfl rfl ?_
      refine wo_nil ?_
      refine ⟨[_, _, _, _, _, _, _, _, _, _, _, _, _, _, _, _, _, _, _, _, _, _, _, _, _, _, _, _, _, _, _, _, _, _, _, _, _, _, _, _, _, _, _, _, _, _, _, _, _, _, _, _, _, _, _, _, _, _, _, _, _, _, _], rfl, ?_⟩
      refine wp_true rfl ?_
      refine wp_seq ?_
      refine wp_region rfl rfl ?_
      refine wo_apv rfl rfl rfl rfl rfl ?_
      refine wo_nil ?_
      refine ⟨[_, _, _, _, _, _, _, _, _, _, _, _, _, _, _, _, _, _, _, _, _, _, _, _, _, _, _, _, _, _, _, _, _, _, _, _, _, _, _, _, _, _, _, _, _, _, _, _, _, _, _, _, _, _, _, _, _, _, _, _, _, _, _], rfl, ?_⟩
      refine wp_ret ?_
      first
        | (rw [show capN (x / 256) = 0 by unfold capN; omega]; exact ⟨trivial, _, rfl, leave_pure⟩)
        | (rw [show capN (x / 256) = 18446744073709551615 by unfold capN; omega]; exact ⟨trivial, _, rfl, leave_pure⟩)
        | (obtain rfl : k = 0 := by omega
           rw [Nat.pow_zero, Nat.div_one] at hq
           rw [show capN (x / 256) = q by unfold capN; omega]
           exact ⟨trivial, _, rfl, leave_pure⟩)
    ·
      refine wo_pick (v := .pv _) rfl rfl rfl rfl rfl rfl ?_
      refine wo_nil ?_
      refine ⟨[_, _, _, _, _, _, _, _, _, _, _, _, _, _, _, _, _, _, _, _, _, _, _, _, _, _, _, _, _, _, _, _, _, _, _, _, _, _, _, _, _, _, _, _, _, _, _, _, _, _, _, _, _, _, _, _, _, _, _, _, _, _, _], rfl, ?_⟩
      refine wp_false rfl ?_
      refine wp_skip ?_
      refine wp_seq ?_
      refine wp_region rfl rfl ?_
      refine wo_mpv rfl rfl rfl rfl rfl ?_
      refine wo_apv rfl rfl rfl rfl rfl ?_
      refine wo_nil ?_
      refine ⟨[_, _, _, _, _, _, _, _, _, _, _, _, _, _, _, _, _, _, _, _, _, _, _, _, _, _, _, _, _, _, _, _, _, _, _, _, _, _, _, _, _, _, _, _, _, _, _, _, _, _, _, _, _, _, _, _, _, _, _, _, _, _, _], rfl, ?_⟩
      refine wp_seq ?_
      refine wp_region rfl rfl ?_
      refine wo_apv rfl rfl rfl rfl rfl ?_
      refine wo_nil ?_
      refine ⟨[_, _, _, _, _, _, _, _, _, _, _, _, _, _, _, _, _, _, _, _, _, _, _, _, _, _, _, _, _, _, _, _, _, _, _, _, _, _, _, _, _, _, _, _, _, _, _, _, _, _, _, _, _, _, _, _, _, _, _, _, _, _, _], rfl, ?_⟩
      refine wp_seq ?_
      refine wp_seq ?_
      refine wp_region rfl rfl ?_
      refine wo_apv rfl rfl rfl rfl rfl ?_
      refine wo_nil ?_
      refine ⟨[_, _, _, _, _, _, _, _, _, _, _, _, _, _, _, _, _, _, _, _, _, _, _, _, _, _, _, _, _, _, _, _, _, _, _, _, _, _, _, _, _, _, _, _, _, _, _, _, _, _, _, _, _, _, _, _, _, _, _, _, _, _, _], rfl, ?_⟩
      refine wp_block ?_
      have hh : x / 18446744073709551616 < 256 := by omega
      refine wp_loop (fun k t H => ∃ rest q : Nat, rest < 256 ∧ q * 256 + rest = x / 2 ^ k ∧ k ≤ 64 ∧ t = [.any, .any, .pv (.int .u64 256), .any, .any, .any, .any, .any, .pv (.int .u64 ((x % 18446744073709551616 : Nat) : Int)), .pv (.int .u64 (rest : Nat)), .pv (.int .u64 (q : Nat)), .pv (.int .i64 ((k : Nat) - 1 : Int)), .any, .any, .any, .any, .any, .any, .any, .any, .any, .any, .any, .any, .any, .any, .any, .any, .any, .any, .any, .any, .any, .any, .any, .any, .any, .any, .any, .any, .any, .any, .any, .any, .any, .any, .any, .any, .any, .any, .any, .any, .any, .any, .any, .any, .any, .any, .any, .any, .any, .any, .any] ∧ H = []) 64 ⟨x / 18446744073709551616, 0, hh, by omega, by omega, rfl, rfl⟩ (by omega) ?_
      rintro k _ _ hk ⟨rest, q, hrest, hq, hk64, rfl, rfl⟩
      refine wp_seq ?_
      refine wp_seq ?_
      refine wp_region rfl rfl ?_
      refine wo_mpv rfl rfl rfl rfl rfl ?_
      refine wo_bsplit rfl rfl rfl rfl rfl (fun c9_1 => ?_) (fun c9_1 => ?_)
      ·
        refine wo_nil ?_
        refine ⟨[_, _, _, _, _, _, _, _, _, _, _, _, _, _, _, _, _, _, _, _, _, _, _, _, _, _, _, _, _, _, _, _, _, _, _, _, _, _, _, _, _, _, _, _, _, _, _, _, _, _, _, _, _, _, _, _, _, _, _, _, _, _, _], rfl, ?_⟩
        refine wp_true rfl ?_
        refine wp_skip ?_
        refine wp_seq ?_
        refine wp_block ?_
        refine wp_seq ?_
        refine wp_region rfl rfl ?_
        obtain ⟨k', rfl⟩ : ∃ k', k = k' + 1 := ⟨k - 1, by omega⟩
        have hs := hstep k' (by omega)
        have hbd := hbound k' hh
        have hbit : x % 18446744073709551616 / 2 ^ k' % 2 < 2 := Nat.mod_lt _ (by decide)
        generalize hB : x % 18446744073709551616 / 2 ^ k' % 2 = bit at hs hbit
        refine wo_mpv rfl rfl rfl rfl rfl ?_
        refine wo_mpv rfl rfl rfl rfl rfl ?_
        refine wo_conv (v := .pv (.int .u64 (k' : Nat))) rfl rfl rfl rfl ((wconv t3 t67 rfl rfl).trans (iV (by rw [wrapU64 (by omega) (by omega)]; omega))) rfl ?_
        refine wo_bin (v := .pv (.int .u64 ((x % 18446744073709551616 / 2 ^ k' : Nat) : Int))) rfl rfl rfl rfl (shrV (by omega)) ?_
        refine wo_bin (v := .pv (.int .u64 (bit : Nat))) rfl rfl rfl rfl ((by rw [← hB]; rfl)) ?_
        refine wo_apv rfl rfl rfl rfl rfl ?_
        refine wo_nil ?_
        refine ⟨[_, _, _, _, _, _, _, _, _, _, _, _, _, _, _, _, _, _, _, _, _, _, _, _, _, _, _, _, _, _, _, _, _, _, _, _, _, _, _, _, _, _, _, _, _, _, _, _, _, _, _, _, _, _, _, _, _, _, _, _, _, _, _], rfl, ?_⟩
        refine wp_seq ?_
        refine wp_region rfl rfl ?_
        refine wo_mpv rfl rfl rfl rfl rfl ?_
        refine wo_bin (v := .pv (.bool false)) rfl rfl rfl rfl (bF (by omega)) ?_
        refine wo_apv rfl rfl rfl rfl rfl ?_
        refine wo_nil ?_
        refine ⟨[_, _, _, _, _, _, _, _, _, _, _, _, _, _, _, _, _, _, _, _, _, _, _, _, _, _, _, _, _, _, _, _, _, _, _, _, _, _, _, _, _, _, _, _, _, _, _, _, _, _, _, _, _, _, _, _, _, _, _, _, _, _, _], rfl, ?_⟩
        refine wp_seq ?_
        refine wp_region rfl rfl ?_
        refine wo_mpv rfl rfl rfl rfl rfl ?_
        refine wo_bin (v := .pv (.int .u64 ((rest * 2 : Nat) : Int))) rfl rfl rfl rfl (mulN (b := 2) (by omega)) ?_
        refine wo_mpv rfl rfl rfl rfl rfl ?_
        refine wo_bin (v := .pv (.int .u64 ((rest * 2 + bit : Nat) : Int))) rfl rfl rfl rfl (addN (by omega)) ?_
        refine wo_apv rfl rfl rfl rfl rfl ?_
        refine wo_nil ?_
        refine ⟨[_, _, _, _, _, _, _, _, _, _, _, _, _, _, _, _, _, _, _, _, _, _, _, _, _, _, _, _, _, _, _, _, _, _, _, _, _, _, _, _, _, _, _, _, _, _, _, _, _, _, _, _, _, _, _, _, _, _, _, _, _, _, _], rfl, ?_⟩
        refine wp_seq ?_
        refine wp_region rfl rfl ?_
        refine wo_mpv rfl rfl rfl rfl rfl ?_
        refine wo_bin (v := .pv (.int .u64 ((q * 2 : Nat) : Int))) rfl rfl rfl rfl (mulN (b := 2) (by omega)) ?_
        refine wo_apv rfl rfl rfl rfl rfl ?_
        refine wo_nil ?_
        refine ⟨[_, _, _, _, _, _, _, _, _, _, _, _, _, _, _, _, _, _, _, _, _, _, _, _, _, _, _, _, _, _, _, _, _, _, _, _, _, _, _, _, _, _, _, _, _, _, _, _, _, _, _, _, _, _, _, _, _, _, _, _, _, _, _], rfl, ?_⟩
        refine wp_seq ?_
        refine wp_region rfl rfl ?_
        refine wo_mpv rfl rfl rfl rfl rfl ?_
        refine wo_mpv rfl rfl rfl rfl rfl ?_
        refine wo_mpv rfl rfl rfl rfl rfl ?_
        refine wo_mpv rfl rfl rfl rfl rfl ?_
        refine wo_bsplit rfl rfl rfl rfl rfl (fun c15_4 => ?_) (fun c15_4 => ?_)
        ·
          refine wo_pick (v := .pv _) rfl rfl rfl rfl rfl rfl ?_
          refine wo_nil ?_
          refine ⟨[_, _, _, _, _, _, _, _, _, _, _, _, _, _, _, _, _, _, _, _, _, _, _, _, _, _, _, _, _, _, _, _, _, _, _, _, _, _, _, _, _, _, _, _, _, _, _, _, _, _, _, _, _, _, _, _, _, _, _, _, _, _, _], rfl, ?_⟩
          refine wp_true rfl ?_
          refine wp_seq ?_
          refine wp_region rfl rfl ?_
          refine wo_mpv rfl rfl rfl rfl rfl ?_
          refine wo_mpv rfl rfl rfl rfl rfl ?_
          refine wo_bin (v := .pv (.int .u64 ((rest * 2 + bit - 256 : Nat) : Int))) rfl rfl rfl rfl (subN (b := 256) (by omega) (by omega)) ?_
          refine wo_apv rfl rfl rfl rfl rfl ?_
          refine wo_nil ?_
          refine ⟨[_, _, _, _, _, _, _, _, _, _, _, _, _, _, _, _, _, _, _, _, _, _, _, _, _, _, _, _, _, _, _, _, _, _, _, _, _, _, _, _, _, _, _, _, _, _, _, _, _, _, _, _, _, _, _, _, _, _, _, _, _, _, _], rfl, ?_⟩
          refine wp_region rfl rfl ?_
          refine wo_mpv rfl rfl rfl rfl rfl ?_
          refine wo_bin (v := .pv (.int .u64 ((q * 2 + 1 : Nat) : Int))) rfl rfl rfl rfl (addN (b := 1) (by omega)) ?_
          refine wo_apv rfl rfl rfl rfl rfl ?_
          refine wo_nil ?_
          refine ⟨[_, _, _, _, _, _, _, _, _, _, _, _, _, _, _, _, _, _, _, _, _, _, _, _, _, _, _, _, _, _, _, _, _, _, _, _, _, _, _, _, _, _, _, _, _, _, _, _, _, _, _, _, _, _, _, _, _, _, _, _, _, _, _], rfl, ?_⟩
          refine wp_region rfl rfl ?_
          refine wo_mpv rfl rfl rfl rfl rfl ?_
          refine wo_bin (v := .pv (.int .i64 ((k' : Nat) - 1 : Int))) rfl rfl rfl rfl (iV (by rw [wrapI (by omega) (by omega)]; omega)) ?_
          refine wo_apv rfl rfl rfl rfl rfl ?_
          refine wo_nil ?_
          refine ⟨[_, _, _, _, _, _, _, _, _, _, _, _, _, _, _, _, _, _, _, _, _, _, _, _, _, _, _, _, _, _, _, _, _, _, _, _, _, _, _, _, _, _, _, _, _, _, _, _, _, _, _, _, _, _, _, _, _, _, _, _, _, _, _], rfl, ?_⟩
          exact ⟨_, _, tidy_norm (t' := [_, _, _, _, _, _, _, _, _, _, _, _, _, _, _, _, _, _, _, _, _, _, _, _, _, _, _, _, _, _, _, _, _, _, _, _, _, _, _, _, _, _, _, _, _, _, _, _, _, _, _, _, _, _, _, _, _, _, _, _, _, _, _]) rfl rfl rfl, k', by omega, _, _, by omega, by omega, by omega, rfl, rfl⟩
        ·
          refine wo_pick (v := .pv _) rfl rfl rfl rfl rfl rfl ?_
          refine wo_nil ?_
          refine ⟨[_, _, _, _, _, _, _, _, _, _, _, _, _, _, _, _, _, _, _, _, _, _, _, _, _, _, _, _, _, _, _, _, _, _, _, _, _, _, _, _, _, _, _, _, _, _, _, _, _, _, _, _, _, _, _, _, _, _, _, _, _, _, _], rfl, ?_⟩
          refine wp_false rfl ?_
          refine wp_skip ?_
          refine wp_region rfl rfl ?_
          refine wo_mpv rfl rfl rfl rfl rfl ?_
          refine wo_bin (v := .pv (.int .i64 ((k' : Nat) - 1 : Int))) rfl rfl rfl rfl (iV (by rw [wrapI (by omega) (by omega)]; omega)) ?_
          refine wo_apv rfl rfl rfl rfl rfl ?_
          refine wo_nil ?_
          refine ⟨[_, _, _, _, _, _, _, _, _, _, _, _, _, _, _, _, _, _, _, _, _, _, _, _, _, _, _, _, _, _, _, _, _, _, _, _, _, _, _, _, _, _, _, _, _, _, _, _, _, _, _, _, _, _, _, _, _, _, _, _, _, _, _], rfl, ?_⟩
          exact ⟨_, _, tidy_norm (t' := [_, _, _, _, _, _, _, _, _, _, _, _, _, _, _, _, _, _, _, _, _, _, _, _, _, _, _, _, _, _, _, _, _, _, _, _, _, _, _, _, _, _, _, _, _, _, _, _, _, _, _, _, _, _, _, _, _, _, _, _, _, _, _]) rfl rfl rfl, k', by omega, _, _, by omega, by omega, by omega, rfl, rfl⟩
      ·
        refine wo_nil ?_
        refine ⟨[_, _, _, _, _, _, _, _, _, _, _, _, _, _, _, _, _, _, _, _, _, _, _, _, _, _, _, _, _, _, _, _, _, _, _, _, _, _, _, _, _, _, _, _, _, _, _, _, _, _, _, _, _, _, _, _, _, _, _, _, _, _, _], rfl, ?_⟩
        refine wp_false rfl ?_
        refine wp_exit ?_
        refine wp_seq ?_
        refine wp_region rfl rfl ?_
        refine wo_mpv rfl rfl rfl rfl rfl ?_
        refine wo_apv rfl rfl rfl rfl rfl ?_
        refine wo_nil ?_
        refine ⟨[_, _, _, _, _, _, _, _, _, _, _, _, _, _, _, _, _, _, _, _, _, _, _, _, _, _, _, _, _, _, _, _, _, _, _, _, _, _, _, _, _, _, _, _, _, _, _, _, _, _, _, _, _, _, _, _, _, _, _, _, _, _, _], rfl, ?_⟩
        refine wp_ret ?_
        first
          | (rw [show capN (x / 256) = 0 by unfold capN; omega]; exact ⟨trivial, _, rfl, leave_pure⟩)
          | (rw [show capN (x / 256) = 18446744073709551615 by unfold capN; omega]; exact ⟨trivial, _, rfl, leave_pure⟩)
          | (obtain rfl : k = 0 := by omega
             rw [Nat.pow_zero, Nat.div_one] at hq
             rw [show capN (x / 256) = q by unfold capN; omega]
             exact ⟨trivial, _, rfl, leave_pure⟩)

/-! Sums -/
def rowQ (n : Nat) : List PV := [.int .u64 n]
def sumC (l : List Nat) : Nat := l.foldl (fun n x => capN (n + x)) 0
theorem sumC_snoc (l : List Nat) (x : Nat) : sumC (l ++ [x]) = capN (sumC l + x) := by simp [sumC, List.foldl_append]
theorem sumC_lt (l : List Nat) : sumC l < 2 ^ 64 := by
  rcases List.eq_nil_or_concat l with rfl | ⟨l, x, rfl⟩
  · decide
  · rw [List.concat_eq_append, sumC_snoc]; exact capN_lt _
theorem sumQ_get {l : List Nat} {i : Nat} (hi : i < l.length) {k : IntKind} {ix : Int} (hj : ix = (i : Int)) : aIndexAddr G.T 32 (.pv (.sl (l.map rowQ))) (.pv (.int k ix)) = some (.pv (.ptr (rowQ l[i]) 0)) :=
  iaddr_pv t32 t22 hj (by simp [List.getElem?_eq_getElem hi]) rfl
theorem sum_ok {l : List Nat} (hl : ∀ x ∈ l, x < 2 ^ 64) (hlen : l.length ≤ 10) (N : Nat) (hN : 15 ≤ N) : call G N 39 [.pv (.sl (l.map rowQ))] [] = some (.ret (.pv (.int .u64 (sumC l : Nat))), []) := by
  obtain ⟨N, rfl⟩ : ∃ M, N = M + 1 := ⟨N - 1, by omega⟩
  refine call_eq func39 rfl (show _ = [_, _, _, _, _, _, _, _, _, _, _, _, _, _, _, _, _] from rfl) ?_
  refine wp_seq ?_
  refine wp_region rfl rfl ?_
  refine wo_apv rfl rfl rfl rfl rfl ?_
  refine wo_nil ?_
  refine ⟨[_, _, _, _, _, _, _, _, _, _, _, _, _, _, _, _, _], rfl, ?_⟩
  refine wp_seq ?_
  refine wp_region rfl rfl ?_
  refine wo_apv rfl rfl rfl rfl rfl ?_
  refine wo_nil ?_
  refine ⟨[_, _, _, _, _, _, _, _, _, _, _, _, _, _, _, _, _], rfl, ?_⟩
  refine wp_seq ?_
  refine wp_seq ?_
  refine wp_region rfl rfl ?_
  refine wo_mpv rfl rfl rfl rfl rfl ?_
  refine wo_len (ln := l.length) t32 rfl rfl rfl rfl rfl rfl rfl ((congrArg some (by simp))) rfl ?_
  refine wo_mpv rfl rfl rfl rfl rfl ?_
  refine wo_nil ?_
  refine ⟨[_, _, _, _, _, _, _, _, _, _, _, _, _, _, _, _, _], rfl, ?_⟩
  refine wp_block ?_
  refine wp_loop (fun k t H => ∃ j : Nat, j + k = l.length ∧ t = [.any, .any, .any, .pv (.int .u64 (sumC (l.take j) : Nat)), .any, .any, .pv (.sl (l.map rowQ)), .pv (.int .i64 l.length), .pv (.int .i64 (j : Nat)), .any, .any, .any, .any, .any, .any, .any, .any] ∧ H = []) l.length ⟨0, by omega, rfl, rfl⟩ (by omega) ?_
  rintro k _ _ hk ⟨j, hj, rfl, rfl⟩
  refine wp_seq ?_
  refine wp_region rfl rfl ?_
  refine wo_bsplit rfl rfl rfl rfl rfl (fun c3_0 => ?_) (fun c3_0 => ?_)
  ·
    refine wo_nil ?_
    refine ⟨[_, _, _, _, _, _, _, _, _, _, _, _, _, _, _, _, _], rfl, ?_⟩
    refine wp_seq ?_
    refine wp_true rfl ?_
    refine wp_skip ?_
    refine wp_seq ?_
    refine wp_block ?_
    refine wp_seq ?_
    refine wp_region rfl rfl ?_
    have hjl : j < l.length := by omega
    have hs : sumC (l.take (j + 1)) = capN (sumC (l.take j) + l[j]) := by rw [← List.take_append_getElem hjl, sumC_snoc]
    refine wo_iaddr (v := .pv (.ptr (rowQ l[j]) 0)) rfl rfl rfl rfl (sumQ_get (i := j) hjl rfl) ?_
    refine wo_load t22 rfl rfl rfl rfl rfl rfl ?_
    refine wo_apv rfl rfl rfl rfl rfl ?_
    refine wo_nil ?_
    refine ⟨[_, _, _, _, _, _, _, _, _, _, _, _, _, _, _, _, _], rfl, ?_⟩
    refine wp_region rfl rfl ?_
    refine wo_mpv rfl rfl rfl rfl rfl ?_
    refine wo_mpv rfl rfl rfl rfl rfl ?_
    refine wo_call (v := .pv (.int .u64 (sumC (l.take (j + 1)) : Nat))) (H' := []) rfl rfl rfl rfl rfl rfl ((cl16 _ _ _ _).trans (callPure_pv rfl (fun _ => rfl) (by rw [hs]; exact add_ok (sumC_lt _) (hl _ (List.getElem_mem hjl)) _ (by omega)))) rfl rfl rfl ?_
    refine wo_apv rfl rfl rfl rfl rfl ?_
    refine wo_nil ?_
    refine ⟨[_, _, _, _, _, _, _, _, _, _, _, _, _, _, _, _, _], rfl, ?_⟩
    refine wp_region rfl rfl ?_
    refine wo_bin (v := .pv (.int .i64 ((j + 1 : Nat) : Int))) rfl rfl rfl rfl (iV (by rw [wrapI (by omega) (by omega)]; omega)) ?_
    refine wo_mpv rfl rfl rfl rfl rfl ?_
    refine wo_nil ?_
    refine ⟨[_, _, _, _, _, _, _, _, _, _, _, _, _, _, _, _, _], rfl, ?_⟩
    refine ⟨_, _, tidy_norm (t' := [_, _, _, _, _, _, _, _, _, _, _, _, _, _, _, _, _]) rfl rfl rfl, k - 1, by omega, j + 1, by omega, rfl, rfl⟩
  ·
    refine wo_nil ?_
    refine ⟨[_, _, _, _, _, _, _, _, _, _, _, _, _, _, _, _, _], rfl, ?_⟩
    refine wp_seq ?_
    refine wp_false rfl ?_
    refine wp_exit ?_
    refine wp_seq ?_
    refine wp_region rfl rfl ?_
    refine wo_mpv rfl rfl rfl rfl rfl ?_
    refine wo_apv rfl rfl rfl rfl rfl ?_
    refine wo_nil ?_
    refine ⟨[_, _, _, _, _, _, _, _, _, _, _, _, _, _, _, _, _], rfl, ?_⟩
    refine wp_ret ?_
    obtain rfl : j = l.length := by omega
    rw [List.take_length]
    exact ⟨trivial, _, rfl, leave_pure⟩
theorem rsum_ok {l : List Nat} (hl : ∀ x ∈ l, x < 2 ^ 64) (hlen : l.length ≤ 10) (N : Nat) (hN : 15 ≤ N) : call G N 41 [.pv (.sl (l.map rowQ))] [] = some (.ret (.pv (.int .u64 (sumC l : Nat))), []) := by
  obtain ⟨N, rfl⟩ : ∃ M, N = M + 1 := ⟨N - 1, by omega⟩
  refine call_eq func41 rfl (show _ = [_, _, _, _, _, _, _, _, _, _, _, _, _, _, _, _, _, _] from rfl) ?_
  refine wp_seq ?_
  refine wp_region rfl rfl ?_
  refine wo_apv rfl rfl rfl rfl rfl ?_
  refine wo_nil ?_
  refine ⟨[_, _, _, _, _, _, _, _, _, _, _, _, _, _, _, _, _, _], rfl, ?_⟩
  refine wp_seq ?_
  refine wp_region rfl rfl ?_
  refine wo_apv rfl rfl rfl rfl rfl ?_
  refine wo_nil ?_
  refine ⟨[_, _, _, _, _, _, _, _, _, _, _, _, _, _, _, _, _, _], rfl, ?_⟩
  refine wp_seq ?_
  refine wp_seq ?_
  refine wp_region rfl rfl ?_
  refine wo_apv rfl rfl rfl rfl rfl ?_
  refine wo_nil ?_
  refine ⟨[_, _, _, _, _, _, _, _, _, _, _, _, _, _, _, _, _, _], rfl, ?_⟩
  refine wp_block ?_
  refine wp_loop (fun k t H => ∃ j : Nat, j + k = l.length ∧ t = [.pv (.sl (l.map rowQ)), .any, .any, .pv (.int .u64 (sumC (l.take j) : Nat)), .pv (.int .i64 (j : Nat)), .any, .any, .any, .any, .any, .any, .any, .any, .any, .any, .any, .any, .any] ∧ H = []) l.length ⟨0, by omega, rfl, rfl⟩ (by omega) ?_
  rintro k _ _ hk ⟨j, hj, rfl, rfl⟩
  refine wp_seq ?_
  refine wp_seq ?_
  refine wp_region rfl rfl ?_
  refine wo_mpv rfl rfl rfl rfl rfl ?_
  refine wo_mpv rfl rfl rfl rfl rfl ?_
  refine wo_len (ln := l.length) t32 rfl rfl rfl rfl rfl rfl rfl ((congrArg some (by simp))) rfl ?_
  refine wo_bsplit rfl rfl rfl rfl rfl (fun c3_3 => ?_) (fun c3_3 => ?_)
  ·
    refine wo_nil ?_
    refine ⟨[_, _, _, _, _, _, _, _, _, _, _, _, _, _, _, _, _, _], rfl, ?_⟩
    refine wp_true rfl ?_
    refine wp_skip ?_
    refine wp_seq ?_
    refine wp_block ?_
    refine wp_region rfl rfl ?_
    refine wo_mpv rfl rfl rfl rfl rfl ?_
    refine wo_mpv rfl rfl rfl rfl rfl ?_
    refine wo_mpv rfl rfl rfl rfl rfl ?_
    have hjl : j < l.length := by omega
    have hs : sumC (l.take (j + 1)) = capN (sumC (l.take j) + l[j]) := by rw [← List.take_append_getElem hjl, sumC_snoc]
    refine wo_iaddr (v := .pv (.ptr (rowQ l[j]) 0)) rfl rfl rfl rfl (sumQ_get (i := j) hjl rfl) ?_
    refine wo_load t22 rfl rfl rfl rfl rfl rfl ?_
    refine wo_call (v := .pv (.int .u64 (sumC (l.take (j + 1)) : Nat))) (H' := []) rfl rfl rfl rfl rfl rfl ((cl34 _ _ _ _).trans (callPure_pv rfl (fun _ => rfl) (by rw [hs]; exact radd_ok (sumC_lt _) (hl _ (List.getElem_mem hjl)) _ (by omega)))) rfl rfl rfl ?_
    refine wo_apv rfl rfl rfl rfl rfl ?_
    refine wo_nil ?_
    refine ⟨[_, _, _, _, _, _, _, _, _, _, _, _, _, _, _, _, _, _], rfl, ?_⟩
    refine wp_region rfl rfl ?_
    refine wo_mpv rfl rfl rfl rfl rfl ?_
    refine wo_bin (v := .pv (.int .i64 ((j + 1 : Nat) : Int))) rfl rfl rfl rfl (iV (by rw [wrapI (by omega) (by omega)]; omega)) ?_
    refine wo_apv rfl rfl rfl rfl rfl ?_
    refine wo_nil ?_
    refine ⟨[_, _, _, _, _, _, _, _, _, _, _, _, _, _, _, _, _, _], rfl, ?_⟩
    refine ⟨_, _, tidy_norm (t' := [_, _, _, _, _, _, _, _, _, _, _, _, _, _, _, _, _, _]) rfl rfl rfl, k - 1, by omega, j + 1, by omega, rfl, rfl⟩
  ·
    refine wo_nil ?_
    refine ⟨[_, _, _, _, _, _, _, _, _, _, _, _, _, _, _, _, _, _], rfl, ?_⟩
    refine wp_false rfl ?_
    refine wp_exit ?_
    refine wp_seq ?_
    refine wp_region rfl rfl ?_
    refine wo_mpv rfl rfl rfl rfl rfl ?_
    refine wo_apv rfl rfl rfl rfl rfl ?_
    refine wo_nil ?_
    refine ⟨[_, _, _, _, _, _, _, _, _, _, _, _, _, _, _, _, _, _], rfl, ?_⟩
    refine wp_ret ?_
    obtain rfl : j = l.length := by omega
    rw [List.take_length]
    exact ⟨trivial, _, rfl, leave_pure⟩
/-- A function that only reads, given a row of numbers. -/
theorem callPure_q {C : CallF} {f k nid : Nat} {l : List Nat} {look : Look} {p : PV} (hl : look k = some (.row 22 1 ⟨l.map rowQ, 0, 0, 0, 0⟩)) (hft : (AV.pv p).flat = true) (hC : C f [.pv (.sl (l.map rowQ))] [] = some (.ret (.pv p), [])) {n : Nat} (hn : n = l.length) :
    callPure C f [.ref k 0 n 1 0 n] look nid = some (.ok ⟨.pv p, [], []⟩) := by
  subst hn
  have hR : reach look REACH (AV.idsL [.ref k 0 l.length 1 0 l.length]) [] = [k] := by
    show reach look (63 + 1) [k] [] = [k]
    simp only [reach, List.contains_nil, Bool.false_eq_true, if_false, hl]
    simp [Blk.ids, reach]
  have hq : puriL (fun i => if [k].contains i then look i else none) [.ref k 0 l.length 1 0 l.length] = some [.pv (.sl (l.map rowQ))] := by
    simp [puriL, AV.puri, AV.pureOf, hl, Row.valid, List.take_of_length_le]
  unfold callPure
  simp only [hR, hq, Option.bind_some, hC, hft, List.isEmpty_nil, Bool.and_self, if_true]
theorem bs32_4 (nid a b c d : Nat) : aBuildSlice G.T nid 32 4 [(0, .pv (.int .u64 a)), (1, .pv (.int .u64 b)), (2, .pv (.int .u64 c)), (3, .pv (.int .u64 d))] = some ⟨.ref nid 0 4 1 0 4, [], [.row 22 1 ⟨[a, b, c, d].map rowQ, 0, 0, 0, 0⟩]⟩ := by
  simp [aBuildSlice, t32, t22, aBuildParts, AV.cells, AV.one, splice, List.range, List.range.loop, pures, chunk, rowQ]
theorem bs32_3 (nid a b c : Nat) : aBuildSlice G.T nid 32 3 [(0, .pv (.int .u64 a)), (1, .pv (.int .u64 b)), (2, .pv (.int .u64 c))] = some ⟨.ref nid 0 3 1 0 3, [], [.row 22 1 ⟨[a, b, c].map rowQ, 0, 0, 0, 0⟩]⟩ := by
  simp [aBuildSlice, t32, t22, aBuildParts, AV.cells, AV.one, splice, List.range, List.range.loop, pures, chunk, rowQ]

def sortM (n : Nat) : Nat := capN (n * max (lenF 64 (n / 256)) 1)
def scanM (rows out : Nat) : Nat := capN (capN (256 * rows) + out)
theorem scan_ok {a b : Nat} (ha : a < 2 ^ 64) (hb : b < 2 ^ 64) (N : Nat) (hN : 3 ≤ N) : call G N 9 [.pv (.int .u64 a), .pv (.int .u64 b)] [] = some (.ret (.pv (.int .u64 (scanM a b : Nat))), []) := by
  obtain ⟨N, rfl⟩ : ∃ M, N = M + 1 := ⟨N - 1, by omega⟩
  refine call_eq func9 rfl (show _ = [_, _, _, _, _, _, _, _, _] from rfl) ?_
  refine wp_seq ?_
  refine wp_region rfl rfl ?_
  refine wo_apv rfl rfl rfl rfl rfl ?_
  refine wo_nil ?_
  refine ⟨[_, _, _, _, _, _, _, _, _], rfl, ?_⟩
  refine wp_seq ?_
  refine wp_region rfl rfl ?_
  refine wo_mpv rfl rfl rfl rfl rfl ?_
  refine wo_call (v := .pv (.int .u64 ((capN (256 * a) : Nat) : Int))) (H' := []) rfl rfl rfl rfl rfl rfl ((cl33 _ _ _ _).trans (callPure_pv rfl (fun _ => rfl) (mul_ok (a := 256) (by decide) ha _ (by omega)))) rfl rfl rfl ?_
  refine wo_mpv rfl rfl rfl rfl rfl ?_
  refine wo_call (v := .pv (.int .u64 ((scanM a b : Nat) : Int))) (H' := []) rfl rfl rfl rfl rfl rfl ((cl16 _ _ _ _).trans (callPure_pv rfl (fun _ => rfl) (add_ok (capN_lt _) hb _ (by omega)))) rfl rfl rfl ?_
  refine wo_apv rfl rfl rfl rfl rfl ?_
  refine wo_nil ?_
  refine ⟨[_, _, _, _, _, _, _, _, _], rfl, ?_⟩
  refine wp_ret ?_
  exact ⟨trivial, _, rfl, leave_pure⟩
theorem rscan_ok {a b : Nat} (ha : a < 2 ^ 64) (hb : b < 2 ^ 64) (N : Nat) (hN : 3 ≤ N) : call G N 10 [.pv (.int .u64 a), .pv (.int .u64 b)] [] = some (.ret (.pv (.int .u64 (scanM a b : Nat))), []) := by
  obtain ⟨N, rfl⟩ : ∃ M, N = M + 1 := ⟨N - 1, by omega⟩
  refine call_eq func10 rfl (show _ = [_, _, _, _, _, _, _, _, _] from rfl) ?_
  refine wp_seq ?_
  refine wp_region rfl rfl ?_
  refine wo_apv rfl rfl rfl rfl rfl ?_
  refine wo_nil ?_
  refine ⟨[_, _, _, _, _, _, _, _, _], rfl, ?_⟩
  refine wp_seq ?_
  refine wp_region rfl rfl ?_
  refine wo_mpv rfl rfl rfl rfl rfl ?_
  refine wo_call (v := .pv (.int .u64 ((capN (256 * a) : Nat) : Int))) (H' := []) rfl rfl rfl rfl rfl rfl ((cl35 _ _ _ _).trans (callPure_pv rfl (fun _ => rfl) (rmul_ok (a := 256) (by decide) ha _ (by omega)))) rfl rfl rfl ?_
  refine wo_mpv rfl rfl rfl rfl rfl ?_
  refine wo_call (v := .pv (.int .u64 ((scanM a b : Nat) : Int))) (H' := []) rfl rfl rfl rfl rfl rfl ((cl34 _ _ _ _).trans (callPure_pv rfl (fun _ => rfl) (radd_ok (capN_lt _) hb _ (by omega)))) rfl rfl rfl ?_
  refine wo_apv rfl rfl rfl rfl rfl ?_
  refine wo_nil ?_
  refine ⟨[_, _, _, _, _, _, _, _, _], rfl, ?_⟩
  refine wp_ret ?_
  exact ⟨trivial, _, rfl, leave_pure⟩
theorem sort_ok {n : Nat} (hn : n < 2 ^ 64) (N : Nat) (hN : 4 ≤ N) : call G N 11 [.pv (.int .u64 n)] [] = some (.ret (.pv (.int .u64 (sortM n : Nat))), []) := by
  obtain ⟨N, rfl⟩ : ∃ M, N = M + 1 := ⟨N - 1, by omega⟩
  have hl := lenF_le 64 (n / 256)
  refine call_eq func11 rfl (show _ = [_, _, _, _, _, _, _, _, _] from rfl) ?_
  refine wp_seq ?_
  refine wp_region rfl rfl ?_
  refine wo_apv rfl rfl rfl rfl rfl ?_
  refine wo_nil ?_
  refine ⟨[_, _, _, _, _, _, _, _, _], rfl, ?_⟩
  refine wp_seq ?_
  refine wp_region rfl rfl ?_
  refine wo_mpv rfl rfl rfl rfl rfl ?_
  refine wo_mpv rfl rfl rfl rfl rfl ?_
  refine wo_bin (v := .pv (.int .u64 ((n / 256 : Nat) : Int))) rfl rfl rfl rfl (quoN (b := 256) hn) ?_
  refine wo_call (v := .pv (.int .u64 ((lenF 64 (n / 256) : Nat) : Int))) (H' := []) rfl rfl rfl rfl rfl rfl ((cl36 _ _ _ _).trans (callPure_pv rfl (fun _ => rfl) (log_ok (by omega) _ (by omega)))) rfl rfl rfl ?_
  refine wo_fold (v := .pv (.int .u64 ((max (lenF 64 (n / 256)) 1 : Nat) : Int))) (.inr ⟨rfl, rfl⟩) rfl rfl rfl rfl rfl rfl (iV (by split <;> omega)) rfl ?_
  refine wo_call (v := .pv (.int .u64 ((sortM n : Nat) : Int))) (H' := []) rfl rfl rfl rfl rfl rfl ((cl33 _ _ _ _).trans (callPure_pv rfl (fun _ => rfl) (mul_ok (b := max (lenF 64 (n / 256)) 1) hn (by omega) _ (by omega)))) rfl rfl rfl ?_
  refine wo_apv rfl rfl rfl rfl rfl ?_
  refine wo_nil ?_
  refine ⟨[_, _, _, _, _, _, _, _, _], rfl, ?_⟩
  refine wp_ret ?_
  exact ⟨trivial, _, rfl, leave_pure⟩
theorem rsort_ok {n : Nat} (hn : n < 2 ^ 64) (N : Nat) (hN : 75 ≤ N) : call G N 12 [.pv (.int .u64 n)] [] = some (.ret (.pv (.int .u64 (sortM n : Nat))), []) := by
  obtain ⟨N, rfl⟩ : ∃ M, N = M + 1 := ⟨N - 1, by omega⟩
  have hl := lenF_le 64 (n / 256)
  refine call_eq func12 rfl (show _ = [_, _, _, _, _, _, _, _, _, _, _, _] from rfl) ?_
  refine wp_seq ?_
  refine wp_region rfl rfl ?_
  refine wo_apv rfl rfl rfl rfl rfl ?_
  refine wo_nil ?_
  refine ⟨[_, _, _, _, _, _, _, _, _, _, _, _], rfl, ?_⟩
  refine wp_seq ?_
  refine wp_region rfl rfl ?_
  refine wo_mpv rfl rfl rfl rfl rfl ?_
  refine wo_bin (v := .pv (.int .u64 ((n / 256 : Nat) : Int))) rfl rfl rfl rfl (quoN (b := 256) hn) ?_
  refine wo_call (v := .pv (.int .u64 ((lenF 64 (n / 256) : Nat) : Int))) (H' := []) rfl rfl rfl rfl rfl rfl ((cl37 _ _ _ _).trans (callPure_pv rfl (fun _ => rfl) (rlog_ok (by omega) _ (by omega)))) rfl rfl rfl ?_
  refine wo_apv rfl rfl rfl rfl rfl ?_
  refine wo_nil ?_
  refine ⟨[_, _, _, _, _, _, _, _, _, _, _, _], rfl, ?_⟩
  refine wp_seq ?_
  refine wp_seq ?_
  refine wp_region rfl rfl ?_
  refine wo_mpv rfl rfl rfl rfl rfl ?_
  refine wo_esplit rfl rfl rfl rfl rfl (fun c2_1 => ?_) (fun c2_1 => ?_)
  ·
    refine wo_nil ?_
    refine ⟨[_, _, _, _, _, _, _, _, _, _, _, _], rfl, ?_⟩
    refine wp_true rfl ?_
    refine wp_region rfl rfl ?_
    refine wo_apv rfl rfl rfl rfl rfl ?_
    refine wo_nil ?_
    refine ⟨[_, _, _, _, _, _, _, _, _, _, _, _], rfl, ?_⟩
    refine wp_seq ?_
    refine wp_region rfl rfl ?_
    refine wo_mpv rfl rfl rfl rfl rfl ?_
    refine wo_mpv rfl rfl rfl rfl rfl ?_
    refine wo_call (v := .pv (.int .u64 (sortM n : Nat))) (H' := []) rfl rfl rfl rfl rfl rfl ((cl35 _ _ _ _).trans (callPure_pv rfl (fun _ => rfl) (by first | (have h := rmul_ok (b := 1) hn (by decide) N (by omega); rw [show capN (n * 1) = sortM n by unfold sortM; rw [show max (lenF 64 (n / 256)) 1 = 1 by omega]] at h; exact h) | (have h := rmul_ok (b := lenF 64 (n / 256)) hn (by omega) N (by omega); rw [show capN (n * lenF 64 (n / 256)) = sortM n by unfold sortM; rw [show max (lenF 64 (n / 256)) 1 = lenF 64 (n / 256) by omega]] at h; exact h)))) rfl rfl rfl ?_
    refine wo_apv rfl rfl rfl rfl rfl ?_
    refine wo_nil ?_
    refine ⟨[_, _, _, _, _, _, _, _, _, _, _, _], rfl, ?_⟩
    refine wp_ret ?_
    exact ⟨trivial, _, rfl, leave_pure⟩
  ·
    refine wo_nil ?_
    refine ⟨[_, _, _, _, _, _, _, _, _, _, _, _], rfl, ?_⟩
    refine wp_false rfl ?_
    refine wp_skip ?_
    refine wp_seq ?_
    refine wp_region rfl rfl ?_
    refine wo_mpv rfl rfl rfl rfl rfl ?_
    refine wo_mpv rfl rfl rfl rfl rfl ?_
    refine wo_call (v := .pv (.int .u64 (sortM n : Nat))) (H' := []) rfl rfl rfl rfl rfl rfl ((cl35 _ _ _ _).trans (callPure_pv rfl (fun _ => rfl) (by first | (have h := rmul_ok (b := 1) hn (by decide) N (by omega); rw [show capN (n * 1) = sortM n by unfold sortM; rw [show max (lenF 64 (n / 256)) 1 = 1 by omega]] at h; exact h) | (have h := rmul_ok (b := lenF 64 (n / 256)) hn (by omega) N (by omega); rw [show capN (n * lenF 64 (n / 256)) = sortM n by unfold sortM; rw [show max (lenF 64 (n / 256)) 1 = lenF 64 (n / 256) by omega]] at h; exact h)))) rfl rfl rfl ?_
    refine wo_apv rfl rfl rfl rfl rfl ?_
    refine wo_nil ?_
    refine ⟨[_, _, _, _, _, _, _, _, _, _, _, _], rfl, ?_⟩
    refine wp_ret ?_
    exact ⟨trivial, _, rfl, leave_pure⟩
def ownM (k : Int) (a b : Nat) : Nat := if k = 2 then capN (a * b / 256) else if k = 3 then sumC [a, b, b, 4096] else capN (sortM a + sortM b)
def joinM (k : Int) (l r a b o : Nat) : Nat := if k = 2 ∨ k = 3 ∨ k = 4 then sumC [l, r, o, ownM k a b] else 18446744073709551615
theorem ownM_lt (k : Int) (a b : Nat) : ownM k a b < 2 ^ 64 := by
  unfold ownM; split
  · exact capN_lt _
  · split
    · exact sumC_lt _
    · exact capN_lt _
theorem in4 {a b c d : Nat} (ha : a < 2 ^ 64) (hb : b < 2 ^ 64) (hc : c < 2 ^ 64) (hd : d < 2 ^ 64) : ∀ x ∈ [a, b, c, d], x < 2 ^ 64 := by
  intro x hx; simp at hx; rcases hx with rfl | rfl | rfl | rfl <;> assumption
theorem in3 {a b c : Nat} (ha : a < 2 ^ 64) (hb : b < 2 ^ 64) (hc : c < 2 ^ 64) : ∀ x ∈ [a, b, c], x < 2 ^ 64 := by
  intro x hx; simp at hx; rcases hx with rfl | rfl | rfl <;> assumption
theorem sum_twice (a b : Nat) : sumC [a, capN (2 * b), 4096] = sumC [a, b, b, 4096] := by
  simp only [sumC, List.foldl_cons, List.foldl_nil, capN]; omega
theorem join_ok {k : Int} {l r a b o : Nat} (hl : l < 2 ^ 64) (hr : r < 2 ^ 64) (ha : a < 2 ^ 64) (hb : b < 2 ^ 64) (ho : o < 2 ^ 64) (N : Nat) (hN : 80 ≤ N) : call G N 13 [.pv (.int .i64 k), .pv (.int .u64 l), .pv (.int .u64 r), .pv (.int .u64 a), .pv (.int .u64 b), .pv (.int .u64 o)] [] = some (.ret (.pv (.int .u64 (joinM k l r a b o : Nat))), []) := by
  obtain ⟨N, rfl⟩ : ∃ M, N = M + 1 := ⟨N - 1, by omega⟩
  refine call_eq func13 rfl (show _ = [_, _, _, _, _, _, _, _, _, _, _, _, _, _, _, _, _, _, _, _, _, _, _, _, _, _, _, _, _, _, _, _, _, _, _, _, _, _, _, _] from rfl) ?_
  refine wp_seq ?_
  refine wp_region rfl rfl ?_
  refine wo_apv rfl rfl rfl rfl rfl ?_
  refine wo_nil ?_
  refine ⟨[_, _, _, _, _, _, _, _, _, _, _, _, _, _, _, _, _, _, _, _, _, _, _, _, _, _, _, _, _, _, _, _, _, _, _, _, _, _, _, _], rfl, ?_⟩
  refine wp_seq ?_
  refine wp_region rfl rfl ?_
  refine wo_apv rfl rfl rfl rfl rfl ?_
  refine wo_nil ?_
  refine ⟨[_, _, _, _, _, _, _, _, _, _, _, _, _, _, _, _, _, _, _, _, _, _, _, _, _, _, _, _, _, _, _, _, _, _, _, _, _, _, _, _], rfl, ?_⟩
  refine wp_seq ?_
  refine wp_seq ?_
  refine wp_region rfl rfl ?_
  refine wo_mpv rfl rfl rfl rfl rfl ?_
  refine wo_nil ?_
  refine ⟨[_, _, _, _, _, _, _, _, _, _, _, _, _, _, _, _, _, _, _, _, _, _, _, _, _, _, _, _, _, _, _, _, _, _, _, _, _, _, _, _], rfl, ?_⟩
  refine wp_block ?_
  refine wp_seq ?_
  refine wp_region rfl rfl ?_
  refine wo_esplit rfl rfl rfl rfl rfl (fun c4_0 => ?_) (fun c4_0 => ?_)
  ·
    refine wo_apv rfl rfl rfl rfl rfl ?_
    refine wo_nil ?_
    refine ⟨[_, _, _, _, _, _, _, _, _, _, _, _, _, _, _, _, _, _, _, _, _, _, _, _, _, _, _, _, _, _, _, _, _, _, _, _, _, _, _, _], rfl, ?_⟩
    refine wp_true rfl ?_
    refine wp_region rfl rfl ?_
    refine wo_mpv rfl rfl rfl rfl rfl ?_
    refine wo_mpv rfl rfl rfl rfl rfl ?_
    refine wo_call (v := .pv (.int .u64 (ownM k a b : Nat))) (H' := []) rfl rfl rfl rfl rfl rfl ((cl38 _ _ _ _).trans (callPure_pv rfl (fun _ => rfl) (by rw [show ownM k a b = capN (a * b / 256) by unfold ownM; rw [if_pos (by omega)]]; exact share_ok ha hb _ (by omega)))) rfl rfl rfl ?_
    refine wo_apv rfl rfl rfl rfl rfl ?_
    refine wo_nil ?_
    refine ⟨[_, _, _, _, _, _, _, _, _, _, _, _, _, _, _, _, _, _, _, _, _, _, _, _, _, _, _, _, _, _, _, _, _, _, _, _, _, _, _, _], rfl, ?_⟩
    refine wp_seq ?_
    refine wp_region rfl rfl ?_
    refine wo_mpv rfl rfl rfl rfl rfl ?_
    refine wo_mpv rfl rfl rfl rfl rfl ?_
    refine wo_mpv rfl rfl rfl rfl rfl ?_
    refine wo_mpv rfl rfl rfl rfl rfl ?_
    refine wo_buildSlice (H' := [_]) rfl rfl rfl rfl (bs32_4 _ _ _ _ _) rfl ?_
    refine wo_call (v := .pv (.int .u64 (sumC [l, r, o, ownM k a b] : Nat))) (H' := [_]) rfl rfl rfl rfl rfl rfl ((cl39 _ _ _ _).trans (callPure_q (l := [l, r, o, ownM k a b]) rfl rfl (sum_ok (in4 (by first | assumption | exact capN_lt _ | exact ownM_lt _ _ _ | decide) (by first | assumption | exact capN_lt _ | exact ownM_lt _ _ _ | decide) (by first | assumption | exact capN_lt _ | exact ownM_lt _ _ _ | decide) (by first | assumption | exact capN_lt _ | exact ownM_lt _ _ _ | decide)) (by simp) _ (by omega)) rfl)) rfl rfl rfl ?_
    refine wo_apv rfl rfl rfl rfl rfl ?_
    refine wo_nil ?_
    refine ⟨[_, _, _, _, _, _, _, _, _, _, _, _, _, _, _, _, _, _, _, _, _, _, _, _, _, _, _, _, _, _, _, _, _, _, _, _, _, _, _, _], rfl, ?_⟩
    refine wp_ret ?_
    first
      | exact ⟨trivial, _, rfl, by rw [show joinM k l r a b o = 18446744073709551615 by unfold joinM; rw [if_neg (by omega)]]; exact leave_pure⟩
      | exact ⟨trivial, _, rfl, by rw [show joinM k l r a b o = sumC [l, r, o, ownM k a b] by unfold joinM; rw [if_pos (by omega)]]; exact leave_pure⟩
  ·
    refine wo_apv rfl rfl rfl rfl rfl ?_
    refine wo_nil ?_
    refine ⟨[_, _, _, _, _, _, _, _, _, _, _, _, _, _, _, _, _, _, _, _, _, _, _, _, _, _, _, _, _, _, _, _, _, _, _, _, _, _, _, _], rfl, ?_⟩
    refine wp_false rfl ?_
    refine wp_seq ?_
    refine wp_region rfl rfl ?_
    refine wo_esplit rfl rfl rfl rfl rfl (fun c6_0 => ?_) (fun c6_0 => ?_)
    ·
      refine wo_apv rfl rfl rfl rfl rfl ?_
      refine wo_nil ?_
      refine ⟨[_, _, _, _, _, _, _, _, _, _, _, _, _, _, _, _, _, _, _, _, _, _, _, _, _, _, _, _, _, _, _, _, _, _, _, _, _, _, _, _], rfl, ?_⟩
      refine wp_true rfl ?_
      refine wp_region rfl rfl ?_
      refine wo_mpv rfl rfl rfl rfl rfl ?_
      refine wo_mpv rfl rfl rfl rfl rfl ?_
      refine wo_mpv rfl rfl rfl rfl rfl ?_
      refine wo_buildSlice (H' := [_]) rfl rfl rfl rfl (bs32_4 _ _ _ _ 4096) rfl ?_
      refine wo_call (v := .pv (.int .u64 (ownM k a b : Nat))) (H' := [_]) rfl rfl rfl rfl rfl rfl ((cl39 _ _ _ _).trans (by rw [show ownM k a b = sumC [a, b, b, 4096] by unfold ownM; rw [if_neg (by omega), if_pos (by omega)]]; exact callPure_q (l := [a, b, b, 4096]) rfl rfl (sum_ok (in4 ha hb hb (by decide)) (by simp) _ (by omega)) rfl)) rfl rfl rfl ?_
      refine wo_apv rfl rfl rfl rfl rfl ?_
      refine wo_nil ?_
      refine ⟨[_, _, _, _, _, _, _, _, _, _, _, _, _, _, _, _, _, _, _, _, _, _, _, _, _, _, _, _, _, _, _, _, _, _, _, _, _, _, _, _], rfl, ?_⟩
      refine wp_seq ?_
      refine wp_region rfl rfl ?_
      refine wo_mpv rfl rfl rfl rfl rfl ?_
      refine wo_mpv rfl rfl rfl rfl rfl ?_
      refine wo_mpv rfl rfl rfl rfl rfl ?_
      refine wo_mpv rfl rfl rfl rfl rfl ?_
      refine wo_buildSlice (H' := [_, _]) rfl rfl rfl rfl (bs32_4 _ _ _ _ _) rfl ?_
      refine wo_call (v := .pv (.int .u64 (sumC [l, r, o, ownM k a b] : Nat))) (H' := [_, _]) rfl rfl rfl rfl rfl rfl ((cl39 _ _ _ _).trans (callPure_q (l := [l, r, o, ownM k a b]) rfl rfl (sum_ok (in4 (by first | assumption | exact capN_lt _ | exact ownM_lt _ _ _ | decide) (by first | assumption | exact capN_lt _ | exact ownM_lt _ _ _ | decide) (by first | assumption | exact capN_lt _ | exact ownM_lt _ _ _ | decide) (by first | assumption | exact capN_lt _ | exact ownM_lt _ _ _ | decide)) (by simp) _ (by omega)) rfl)) rfl rfl rfl ?_
      refine wo_apv rfl rfl rfl rfl rfl ?_
      refine wo_nil ?_
      refine ⟨[_, _, _, _, _, _, _, _, _, _, _, _, _, _, _, _, _, _, _, _, _, _, _, _, _, _, _, _, _, _, _, _, _, _, _, _, _, _, _, _], rfl, ?_⟩
      refine wp_ret ?_
      first
        | exact ⟨trivial, _, rfl, by rw [show joinM k l r a b o = 18446744073709551615 by unfold joinM; rw [if_neg (by omega)]]; exact leave_pure⟩
        | exact ⟨trivial, _, rfl, by rw [show joinM k l r a b o = sumC [l, r, o, ownM k a b] by unfold joinM; rw [if_pos (by omega)]]; exact leave_pure⟩
    ·
      refine wo_apv rfl rfl rfl rfl rfl ?_
      refine wo_nil ?_
      refine ⟨[_, _, _, _, _, _, _, _, _, _, _, _, _, _, _, _, _, _, _, _, _, _, _, _, _, _, _, _, _, _, _, _, _, _, _, _, _, _, _, _], rfl, ?_⟩
      refine wp_false rfl ?_
      refine wp_seq ?_
      refine wp_region rfl rfl ?_
      refine wo_esplit rfl rfl rfl rfl rfl (fun c8_0 => ?_) (fun c8_0 => ?_)
      ·
        refine wo_apv rfl rfl rfl rfl rfl ?_
        refine wo_nil ?_
        refine ⟨[_, _, _, _, _, _, _, _, _, _, _, _, _, _, _, _, _, _, _, _, _, _, _, _, _, _, _, _, _, _, _, _, _, _, _, _, _, _, _, _], rfl, ?_⟩
        refine wp_true rfl ?_
        refine wp_region rfl rfl ?_
        refine wo_mpv rfl rfl rfl rfl rfl ?_
        refine wo_call (v := .pv (.int .u64 ((sortM a : Nat) : Int))) (H' := []) rfl rfl rfl rfl rfl rfl ((cl11 _ _ _ _).trans (callPure_pv rfl (fun _ => rfl) (sort_ok ha _ (by omega)))) rfl rfl rfl ?_
        refine wo_mpv rfl rfl rfl rfl rfl ?_
        refine wo_call (v := .pv (.int .u64 ((sortM b : Nat) : Int))) (H' := []) rfl rfl rfl rfl rfl rfl ((cl11 _ _ _ _).trans (callPure_pv rfl (fun _ => rfl) (sort_ok hb _ (by omega)))) rfl rfl rfl ?_
        refine wo_call (v := .pv (.int .u64 (ownM k a b : Nat))) (H' := []) rfl rfl rfl rfl rfl rfl ((cl16 _ _ _ _).trans (callPure_pv rfl (fun _ => rfl) (by rw [show ownM k a b = capN (sortM a + sortM b) by unfold ownM; rw [if_neg (by omega), if_neg (by omega)]]; exact add_ok (capN_lt _) (capN_lt _) _ (by omega)))) rfl rfl rfl ?_
        refine wo_apv rfl rfl rfl rfl rfl ?_
        refine wo_nil ?_
        refine ⟨[_, _, _, _, _, _, _, _, _, _, _, _, _, _, _, _, _, _, _, _, _, _, _, _, _, _, _, _, _, _, _, _, _, _, _, _, _, _, _, _], rfl, ?_⟩
        refine wp_seq ?_
        refine wp_region rfl rfl ?_
        refine wo_mpv rfl rfl rfl rfl rfl ?_
        refine wo_mpv rfl rfl rfl rfl rfl ?_
        refine wo_mpv rfl rfl rfl rfl rfl ?_
        refine wo_mpv rfl rfl rfl rfl rfl ?_
        refine wo_buildSlice (H' := [_]) rfl rfl rfl rfl (bs32_4 _ _ _ _ _) rfl ?_
        refine wo_call (v := .pv (.int .u64 (sumC [l, r, o, ownM k a b] : Nat))) (H' := [_]) rfl rfl rfl rfl rfl rfl ((cl39 _ _ _ _).trans (callPure_q (l := [l, r, o, ownM k a b]) rfl rfl (sum_ok (in4 (by first | assumption | exact capN_lt _ | exact ownM_lt _ _ _ | decide) (by first | assumption | exact capN_lt _ | exact ownM_lt _ _ _ | decide) (by first | assumption | exact capN_lt _ | exact ownM_lt _ _ _ | decide) (by first | assumption | exact capN_lt _ | exact ownM_lt _ _ _ | decide)) (by simp) _ (by omega)) rfl)) rfl rfl rfl ?_
        refine wo_apv rfl rfl rfl rfl rfl ?_
        refine wo_nil ?_
        refine ⟨[_, _, _, _, _, _, _, _, _, _, _, _, _, _, _, _, _, _, _, _, _, _, _, _, _, _, _, _, _, _, _, _, _, _, _, _, _, _, _, _], rfl, ?_⟩
        refine wp_ret ?_
        first
          | exact ⟨trivial, _, rfl, by rw [show joinM k l r a b o = 18446744073709551615 by unfold joinM; rw [if_neg (by omega)]]; exact leave_pure⟩
          | exact ⟨trivial, _, rfl, by rw [show joinM k l r a b o = sumC [l, r, o, ownM k a b] by unfold joinM; rw [if_pos (by omega)]]; exact leave_pure⟩
      ·
        refine wo_apv rfl rfl rfl rfl rfl ?_
        refine wo_nil ?_
        refine ⟨[_, _, _, _, _, _, _, _, _, _, _, _, _, _, _, _, _, _, _, _, _, _, _, _, _, _, _, _, _, _, _, _, _, _, _, _, _, _, _, _], rfl, ?_⟩
        refine wp_false rfl ?_
        refine wp_seq ?_
        refine wp_region rfl rfl ?_
        refine wo_apv rfl rfl rfl rfl rfl ?_
        refine wo_nil ?_
        refine ⟨[_, _, _, _, _, _, _, _, _, _, _, _, _, _, _, _, _, _, _, _, _, _, _, _, _, _, _, _, _, _, _, _, _, _, _, _, _, _, _, _], rfl, ?_⟩
        refine wp_ret ?_
        first
          | exact ⟨trivial, _, rfl, by rw [show joinM k l r a b o = 18446744073709551615 by unfold joinM; rw [if_neg (by omega)]]; exact leave_pure⟩
          | exact ⟨trivial, _, rfl, by rw [show joinM k l r a b o = sumC [l, r, o, ownM k a b] by unfold joinM; rw [if_pos (by omega)]]; exact leave_pure⟩
theorem rjoin_ok {k : Int} {l r a b o : Nat} (hl : l < 2 ^ 64) (hr : r < 2 ^ 64) (ha : a < 2 ^ 64) (hb : b < 2 ^ 64) (ho : o < 2 ^ 64) (N : Nat) (hN : 80 ≤ N) : call G N 14 [.pv (.int .i64 k), .pv (.int .u64 l), .pv (.int .u64 r), .pv (.int .u64 a), .pv (.int .u64 b), .pv (.int .u64 o)] [] = some (.ret (.pv (.int .u64 (joinM k l r a b o : Nat))), []) := by
  obtain ⟨N, rfl⟩ : ∃ M, N = M + 1 := ⟨N - 1, by omega⟩
  refine call_eq func14 rfl (show _ = [_, _, _, _, _, _, _, _, _, _, _, _, _, _, _, _, _, _, _, _, _, _, _, _, _, _, _, _, _, _, _, _, _, _, _, _, _, _, _, _] from rfl) ?_
  refine wp_seq ?_
  refine wp_region rfl rfl ?_
  refine wo_apv rfl rfl rfl rfl rfl ?_
  refine wo_nil ?_
  refine ⟨[_, _, _, _, _, _, _, _, _, _, _, _, _, _, _, _, _, _, _, _, _, _, _, _, _, _, _, _, _, _, _, _, _, _, _, _, _, _, _, _], rfl, ?_⟩
  refine wp_seq ?_
  refine wp_region rfl rfl ?_
  refine wo_apv rfl rfl rfl rfl rfl ?_
  refine wo_nil ?_
  refine ⟨[_, _, _, _, _, _, _, _, _, _, _, _, _, _, _, _, _, _, _, _, _, _, _, _, _, _, _, _, _, _, _, _, _, _, _, _, _, _, _, _], rfl, ?_⟩
  refine wp_seq ?_
  refine wp_seq ?_
  refine wp_region rfl rfl ?_
  refine wo_mpv rfl rfl rfl rfl rfl ?_
  refine wo_nil ?_
  refine ⟨[_, _, _, _, _, _, _, _, _, _, _, _, _, _, _, _, _, _, _, _, _, _, _, _, _, _, _, _, _, _, _, _, _, _, _, _, _, _, _, _], rfl, ?_⟩
  refine wp_block ?_
  refine wp_seq ?_
  refine wp_region rfl rfl ?_
  refine wo_esplit rfl rfl rfl rfl rfl (fun c4_0 => ?_) (fun c4_0 => ?_)
  ·
    refine wo_apv rfl rfl rfl rfl rfl ?_
    refine wo_nil ?_
    refine ⟨[_, _, _, _, _, _, _, _, _, _, _, _, _, _, _, _, _, _, _, _, _, _, _, _, _, _, _, _, _, _, _, _, _, _, _, _, _, _, _, _], rfl, ?_⟩
    refine wp_true rfl ?_
    refine wp_region rfl rfl ?_
    refine wo_mpv rfl rfl rfl rfl rfl ?_
    refine wo_mpv rfl rfl rfl rfl rfl ?_
    refine wo_call (v := .pv (.int .u64 (ownM k a b : Nat))) (H' := []) rfl rfl rfl rfl rfl rfl ((cl40 _ _ _ _).trans (callPure_pv rfl (fun _ => rfl) (by rw [show ownM k a b = capN (a * b / 256) by unfold ownM; rw [if_pos (by omega)]]; exact rshare_ok ha hb _ (by omega)))) rfl rfl rfl ?_
    refine wo_apv rfl rfl rfl rfl rfl ?_
    refine wo_nil ?_
    refine ⟨[_, _, _, _, _, _, _, _, _, _, _, _, _, _, _, _, _, _, _, _, _, _, _, _, _, _, _, _, _, _, _, _, _, _, _, _, _, _, _, _], rfl, ?_⟩
    refine wp_seq ?_
    refine wp_region rfl rfl ?_
    refine wo_mpv rfl rfl rfl rfl rfl ?_
    refine wo_mpv rfl rfl rfl rfl rfl ?_
    refine wo_mpv rfl rfl rfl rfl rfl ?_
    refine wo_mpv rfl rfl rfl rfl rfl ?_
    refine wo_buildSlice (H' := [_]) rfl rfl rfl rfl (bs32_4 _ _ _ _ _) rfl ?_
    refine wo_call (v := .pv (.int .u64 (sumC [l, r, o, ownM k a b] : Nat))) (H' := [_]) rfl rfl rfl rfl rfl rfl ((cl41 _ _ _ _).trans (callPure_q (l := [l, r, o, ownM k a b]) rfl rfl (rsum_ok (in4 (by first | assumption | exact capN_lt _ | exact ownM_lt _ _ _ | decide) (by first | assumption | exact capN_lt _ | exact ownM_lt _ _ _ | decide) (by first | assumption | exact capN_lt _ | exact ownM_lt _ _ _ | decide) (by first | assumption | exact capN_lt _ | exact ownM_lt _ _ _ | decide)) (by simp) _ (by omega)) rfl)) rfl rfl rfl ?_
    refine wo_apv rfl rfl rfl rfl rfl ?_
    refine wo_nil ?_
    refine ⟨[_, _, _, _, _, _, _, _, _, _, _, _, _, _, _, _, _, _, _, _, _, _, _, _, _, _, _, _, _, _, _, _, _, _, _, _, _, _, _, _], rfl, ?_⟩
    refine wp_ret ?_
    first
      | exact ⟨trivial, _, rfl, by rw [show joinM k l r a b o = 18446744073709551615 by unfold joinM; rw [if_neg (by omega)]]; exact leave_pure⟩
      | exact ⟨trivial, _, rfl, by rw [show joinM k l r a b o = sumC [l, r, o, ownM k a b] by unfold joinM; rw [if_pos (by omega)]]; exact leave_pure⟩
  ·
    refine wo_apv rfl rfl rfl rfl rfl ?_
    refine wo_nil ?_
    refine ⟨[_, _, _, _, _, _, _, _, _, _, _, _, _, _, _, _, _, _, _, _, _, _, _, _, _, _, _, _, _, _, _, _, _, _, _, _, _, _, _, _], rfl, ?_⟩
    refine wp_false rfl ?_
    refine wp_seq ?_
    refine wp_region rfl rfl ?_
    refine wo_esplit rfl rfl rfl rfl rfl (fun c6_0 => ?_) (fun c6_0 => ?_)
    ·
      refine wo_apv rfl rfl rfl rfl rfl ?_
      refine wo_nil ?_
      refine ⟨[_, _, _, _, _, _, _, _, _, _, _, _, _, _, _, _, _, _, _, _, _, _, _, _, _, _, _, _, _, _, _, _, _, _, _, _, _, _, _, _], rfl, ?_⟩
      refine wp_true rfl ?_
      refine wp_region rfl rfl ?_
      refine wo_mpv rfl rfl rfl rfl rfl ?_
      refine wo_mpv rfl rfl rfl rfl rfl ?_
      refine wo_call (v := .pv (.int .u64 ((capN (2 * b) : Nat) : Int))) (H' := []) rfl rfl rfl rfl rfl rfl ((cl35 _ _ _ _).trans (callPure_pv rfl (fun _ => rfl) (rmul_ok (a := 2) (by decide) hb _ (by omega)))) rfl rfl rfl ?_
      refine wo_buildSlice (H' := [_]) rfl rfl rfl rfl (bs32_3 _ _ _ 4096) rfl ?_
      refine wo_call (v := .pv (.int .u64 (ownM k a b : Nat))) (H' := [_]) rfl rfl rfl rfl rfl rfl ((cl41 _ _ _ _).trans (by rw [show ownM k a b = sumC [a, capN (2 * b), 4096] by unfold ownM; rw [if_neg (by omega), if_pos (by omega), sum_twice]]; exact callPure_q (l := [a, capN (2 * b), 4096]) rfl rfl (rsum_ok (in3 ha (capN_lt _) (by decide)) (by simp) _ (by omega)) rfl)) rfl rfl rfl ?_
      refine wo_apv rfl rfl rfl rfl rfl ?_
      refine wo_nil ?_
      refine ⟨[_, _, _, _, _, _, _, _, _, _, _, _, _, _, _, _, _, _, _, _, _, _, _, _, _, _, _, _, _, _, _, _, _, _, _, _, _, _, _, _], rfl, ?_⟩
      refine wp_seq ?_
      refine wp_region rfl rfl ?_
      refine wo_mpv rfl rfl rfl rfl rfl ?_
      refine wo_mpv rfl rfl rfl rfl rfl ?_
      refine wo_mpv rfl rfl rfl rfl rfl ?_
      refine wo_mpv rfl rfl rfl rfl rfl ?_
      refine wo_buildSlice (H' := [_, _]) rfl rfl rfl rfl (bs32_4 _ _ _ _ _) rfl ?_
      refine wo_call (v := .pv (.int .u64 (sumC [l, r, o, ownM k a b] : Nat))) (H' := [_, _]) rfl rfl rfl rfl rfl rfl ((cl41 _ _ _ _).trans (callPure_q (l := [l, r, o, ownM k a b]) rfl rfl (rsum_ok (in4 (by first | assumption | exact capN_lt _ | exact ownM_lt _ _ _ | decide) (by first | assumption | exact capN_lt _ | exact ownM_lt _ _ _ | decide) (by first | assumption | exact capN_lt _ | exact ownM_lt _ _ _ | decide) (by first | assumption | exact capN_lt _ | exact ownM_lt _ _ _ | decide)) (by simp) _ (by omega)) rfl)) rfl rfl rfl ?_
      refine wo_apv rfl rfl rfl rfl rfl ?_
      refine wo_nil ?_
      refine ⟨[_, _, _, _, _, _, _, _, _, _, _, _, _, _, _, _, _, _, _, _, _, _, _, _, _, _, _, _, _, _, _, _, _, _, _, _, _, _, _, _], rfl, ?_⟩
      refine wp_ret ?_
      first
        | exact ⟨trivial, _, rfl, by rw [show joinM k l r a b o = 18446744073709551615 by unfold joinM; rw [if_neg (by omega)]]; exact leave_pure⟩
        | exact ⟨trivial, _, rfl, by rw [show joinM k l r a b o = sumC [l, r, o, ownM k a b] by unfold joinM; rw [if_pos (by omega)]]; exact leave_pure⟩
    ·
      refine wo_apv rfl rfl rfl rfl rfl ?_
      refine wo_nil ?_
      refine ⟨[_, _, _, _, _, _, _, _, _, _, _, _, _, _, _, _, _, _, _, _, _, _, _, _, _, _, _, _, _, _, _, _, _, _, _, _, _, _, _, _], rfl, ?_⟩
      refine wp_false rfl ?_
      refine wp_seq ?_
      refine wp_region rfl rfl ?_
      refine wo_esplit rfl rfl rfl rfl rfl (fun c8_0 => ?_) (fun c8_0 => ?_)
      ·
        refine wo_apv rfl rfl rfl rfl rfl ?_
        refine wo_nil ?_
        refine ⟨[_, _, _, _, _, _, _, _, _, _, _, _, _, _, _, _, _, _, _, _, _, _, _, _, _, _, _, _, _, _, _, _, _, _, _, _, _, _, _, _], rfl, ?_⟩
        refine wp_true rfl ?_
        refine wp_region rfl rfl ?_
        refine wo_mpv rfl rfl rfl rfl rfl ?_
        refine wo_call (v := .pv (.int .u64 ((sortM a : Nat) : Int))) (H' := []) rfl rfl rfl rfl rfl rfl ((cl12 _ _ _ _).trans (callPure_pv rfl (fun _ => rfl) (rsort_ok ha _ (by omega)))) rfl rfl rfl ?_
        refine wo_mpv rfl rfl rfl rfl rfl ?_
        refine wo_call (v := .pv (.int .u64 ((sortM b : Nat) : Int))) (H' := []) rfl rfl rfl rfl rfl rfl ((cl12 _ _ _ _).trans (callPure_pv rfl (fun _ => rfl) (rsort_ok hb _ (by omega)))) rfl rfl rfl ?_
        refine wo_call (v := .pv (.int .u64 (ownM k a b : Nat))) (H' := []) rfl rfl rfl rfl rfl rfl ((cl34 _ _ _ _).trans (callPure_pv rfl (fun _ => rfl) (by rw [show ownM k a b = capN (sortM a + sortM b) by unfold ownM; rw [if_neg (by omega), if_neg (by omega)]]; exact radd_ok (capN_lt _) (capN_lt _) _ (by omega)))) rfl rfl rfl ?_
        refine wo_apv rfl rfl rfl rfl rfl ?_
        refine wo_nil ?_
        refine ⟨[_, _, _, _, _, _, _, _, _, _, _, _, _, _, _, _, _, _, _, _, _, _, _, _, _, _, _, _, _, _, _, _, _, _, _, _, _, _, _, _], rfl, ?_⟩
        refine wp_seq ?_
        refine wp_region rfl rfl ?_
        refine wo_mpv rfl rfl rfl rfl rfl ?_
        refine wo_mpv rfl rfl rfl rfl rfl ?_
        refine wo_mpv rfl rfl rfl rfl rfl ?_
        refine wo_mpv rfl rfl rfl rfl rfl ?_
        refine wo_buildSlice (H' := [_]) rfl rfl rfl rfl (bs32_4 _ _ _ _ _) rfl ?_
        refine wo_call (v := .pv (.int .u64 (sumC [l, r, o, ownM k a b] : Nat))) (H' := [_]) rfl rfl rfl rfl rfl rfl ((cl41 _ _ _ _).trans (callPure_q (l := [l, r, o, ownM k a b]) rfl rfl (rsum_ok (in4 (by first | assumption | exact capN_lt _ | exact ownM_lt _ _ _ | decide) (by first | assumption | exact capN_lt _ | exact ownM_lt _ _ _ | decide) (by first | assumption | exact capN_lt _ | exact ownM_lt _ _ _ | decide) (by first | assumption | exact capN_lt _ | exact ownM_lt _ _ _ | decide)) (by simp) _ (by omega)) rfl)) rfl rfl rfl ?_
        refine wo_apv rfl rfl rfl rfl rfl ?_
        refine wo_nil ?_
        refine ⟨[_, _, _, _, _, _, _, _, _, _, _, _, _, _, _, _, _, _, _, _, _, _, _, _, _, _, _, _, _, _, _, _, _, _, _, _, _, _, _, _], rfl, ?_⟩
        refine wp_ret ?_
        first
          | exact ⟨trivial, _, rfl, by rw [show joinM k l r a b o = 18446744073709551615 by unfold joinM; rw [if_neg (by omega)]]; exact leave_pure⟩
          | exact ⟨trivial, _, rfl, by rw [show joinM k l r a b o = sumC [l, r, o, ownM k a b] by unfold joinM; rw [if_pos (by omega)]]; exact leave_pure⟩
      ·
        refine wo_apv rfl rfl rfl rfl rfl ?_
        refine wo_nil ?_
        refine ⟨[_, _, _, _, _, _, _, _, _, _, _, _, _, _, _, _, _, _, _, _, _, _, _, _, _, _, _, _, _, _, _, _, _, _, _, _, _, _, _, _], rfl, ?_⟩
        refine wp_false rfl ?_
        refine wp_seq ?_
        refine wp_region rfl rfl ?_
        refine wo_apv rfl rfl rfl rfl rfl ?_
        refine wo_nil ?_
        refine ⟨[_, _, _, _, _, _, _, _, _, _, _, _, _, _, _, _, _, _, _, _, _, _, _, _, _, _, _, _, _, _, _, _, _, _, _, _, _, _, _, _], rfl, ?_⟩
        refine wp_ret ?_
        first
          | exact ⟨trivial, _, rfl, by rw [show joinM k l r a b o = 18446744073709551615 by unfold joinM; rw [if_neg (by omega)]]; exact leave_pure⟩
          | exact ⟨trivial, _, rfl, by rw [show joinM k l r a b o = sumC [l, r, o, ownM k a b] by unfold joinM; rw [if_pos (by omega)]]; exact leave_pure⟩
/-! What rises -/
theorem capN_mono {a b : Nat} (h : a ≤ b) : capN a ≤ capN b := by unfold capN; omega
theorem sortM_mono {a b : Nat} (h : a ≤ b) : sortM a ≤ sortM b := by
  unfold sortM
  refine capN_mono (Nat.mul_le_mul h ?_)
  have := lenF_mono 64 (a / 256) (b / 256) (Nat.div_le_div_right h)
  omega
theorem scanM_mono {a b o : Nat} (h : a ≤ b) : scanM a o ≤ scanM b o := by unfold scanM capN; omega
theorem ownM_mono {k : Int} {a b a' b' : Nat} (ha : a ≤ a') (hb : b ≤ b') : ownM k a b ≤ ownM k a' b' := by
  unfold ownM
  split
  · exact capN_mono (Nat.div_le_div_right (Nat.mul_le_mul ha hb))
  · split
    · simp only [sumC, List.foldl_cons, List.foldl_nil, capN]; omega
    · have := sortM_mono ha
      have := sortM_mono hb
      exact capN_mono (by omega)
theorem joinM_mono {k : Int} {l r a b o l' r' a' b' o' : Nat} (h1 : l ≤ l') (h2 : r ≤ r') (h3 : a ≤ a') (h4 : b ≤ b') (h5 : o ≤ o') : joinM k l r a b o ≤ joinM k l' r' a' b' o' := by
  unfold joinM
  split
  · have := ownM_mono (k := k) h3 h4
    generalize ownM k a b = w at *
    generalize ownM k a' b' = w' at *
    simp only [sumC, List.foldl_cons, List.foldl_nil, capN]; omega
  · exact Nat.le_refl _
theorem joinM_kids (k : Int) (l r a b o : Nat) : capN (l + r) ≤ joinM k l r a b o := by
  unfold joinM
  split
  · generalize ownM k a b = w
    simp only [sumC, List.foldl_cons, List.foldl_nil, capN]; omega
  · unfold capN; omega
theorem le_add {a m : Nat} (ha : a < 2 ^ 64) : a ≤ capN (a + m) := by unfold capN; omega
theorem rises {k : Int} {l r a b o m : Nat} (hl : l < 2 ^ 64) (hr : r < 2 ^ 64) (ha : a < 2 ^ 64) (hb : b < 2 ^ 64) (ho : o < 2 ^ 64) (hm : m < 2 ^ 64) (hw : call G 100 15 [] [] = some (.ret (.pv (.bool true)), [])) :
    call G 101 4 [.agg [.pv (.int .i64 k), .pv (.int .u64 l), .pv (.int .u64 r), .pv (.int .u64 a), .pv (.int .u64 b), .pv (.int .u64 o)], .pv (.int .u64 m)] [] = some (.ret (.pv (.bool true)), []) := by
  have r1 := joinM_kids k l r a b o
  have r2 := sortM_mono (le_add (m := m) ha)
  have r3 := scanM_mono (o := o) (le_add (m := m) ha)
  have r4 := joinM_mono (k := k) (le_add (m := m) hl) (Nat.le_refl r) (Nat.le_refl a) (Nat.le_refl b) (Nat.le_refl o)
  have r5 := joinM_mono (k := k) (Nat.le_refl l) (Nat.le_refl r) (le_add (m := m) ha) (Nat.le_refl b) (Nat.le_refl o)
  have r6 := joinM_mono (k := k) (Nat.le_refl l) (Nat.le_refl r) (Nat.le_refl a) (le_add (m := m) hb) (Nat.le_refl o)
  have r7 := joinM_mono (k := k) (Nat.le_refl l) (Nat.le_refl r) (Nat.le_refl a) (Nat.le_refl b) (le_add (m := m) ho)
  refine call_eq func4 rfl (show _ = [_, _, _, _, _, _, _, _, _, _, _, _, _, _, _, _, _, _, _, _, _, _, _, _, _, _, _, _, _, _, _, _, _, _, _, _, _, _, _, _, _, _, _, _, _, _, _, _, _, _, _, _, _, _, _, _, _, _, _, _, _, _, _, _, _, _, _, _, _, _, _, _, _, _, _, _, _, _, _, _, _, _, _, _, _, _, _, _, _, _, _, _, _, _, _, _, _, _, _, _, _, _, _, _, _, _, _, _, _, _, _, _, _, _, _, _, _, _, _, _, _, _, _, _, _, _, _, _, _, _, _, _, _, _, _, _] from rfl) ?_
  refine wp_seq ?_
  refine wp_region rfl rfl ?_
  refine wo_box (cs := [_, _, _, _, _, _]) (H' := [_]) rfl rfl rfl rfl rfl rfl ?_
  refine wo_apv rfl rfl rfl rfl rfl ?_
  refine wo_nil ?_
  refine ⟨[_, _, _, _, _, _, _, _, _, _, _, _, _, _, _, _, _, _, _, _, _, _, _, _, _, _, _, _, _, _, _, _, _, _, _, _, _, _, _, _, _, _, _, _, _, _, _, _, _, _, _, _, _, _, _, _, _, _, _, _, _, _, _, _, _, _, _, _, _, _, _, _, _, _, _, _, _, _, _, _, _, _, _, _, _, _, _, _, _, _, _, _, _, _, _, _, _, _, _, _, _, _, _, _, _, _, _, _, _, _, _, _, _, _, _, _, _, _, _, _, _, _, _, _, _, _, _, _, _, _, _, _, _, _, _, _], rfl, ?_⟩
  refine wp_seq ?_
  refine wp_seq ?_
  refine wp_region rfl rfl ?_
  refine wo_call (v := .pv (.bool true)) (H' := [_]) rfl rfl rfl rfl rfl rfl ((cl15 _ _ _ _).trans (callPure_pv rfl (fun _ => rfl) hw)) rfl rfl rfl ?_
  refine wo_un rfl rfl rfl rfl rfl ?_
  refine wo_nil ?_
  refine ⟨[_, _, _, _, _, _, _, _, _, _, _, _, _, _, _, _, _, _, _, _, _, _, _, _, _, _, _, _, _, _, _, _, _, _, _, _, _, _, _, _, _, _, _, _, _, _, _, _, _, _, _, _, _, _, _, _, _, _, _, _, _, _, _, _, _, _, _, _, _, _, _, _, _, _, _, _, _, _, _, _, _, _, _, _, _, _, _, _, _, _, _, _, _, _, _, _, _, _, _, _, _, _, _, _, _, _, _, _, _, _, _, _, _, _, _, _, _, _, _, _, _, _, _, _, _, _, _, _, _, _, _, _, _, _, _, _], rfl, ?_⟩
  refine wp_false rfl ?_
  refine wp_skip ?_
  refine wp_seq ?_
  refine wp_region rfl rfl ?_
  refine wo_faddr t24 t3 rfl rfl rfl rfl rfl rfl rfl ?_
  refine wo_load t3 rfl rfl rfl rfl rfl rfl ?_
  refine wo_faddr t24 t22 rfl rfl rfl rfl rfl rfl rfl ?_
  refine wo_load t22 rfl rfl rfl rfl rfl rfl ?_
  refine wo_faddr t24 t22 rfl rfl rfl rfl rfl rfl rfl ?_
  refine wo_load t22 rfl rfl rfl rfl rfl rfl ?_
  refine wo_faddr t24 t22 rfl rfl rfl rfl rfl rfl rfl ?_
  refine wo_load t22 rfl rfl rfl rfl rfl rfl ?_
  refine wo_faddr t24 t22 rfl rfl rfl rfl rfl rfl rfl ?_
  refine wo_load t22 rfl rfl rfl rfl rfl rfl ?_
  refine wo_faddr t24 t22 rfl rfl rfl rfl rfl rfl rfl ?_
  refine wo_norm [_, _, _, _, _, _, _, _, _, _, _, _, _, _, _, _, _, _, _, _, _, _, _, _, _, _, _, _, _, _, _, _, _, _, _, _, _, _, _, _, _, _, _, _, _, _, _, _, _, _, _, _, _, _, _, _, _, _, _, _, _, _, _, _, _, _, _, _, _, _, _, _, _, _, _, _, _, _, _, _, _, _, _, _, _, _, _, _, _, _, _, _, _, _, _, _, _, _, _, _, _, _, _, _, _, _, _, _, _, _, _, _, _, _, _, _, _, _, _, _, _, _, _, _, _, _, _, _, _, _, _, _, _, _, _, _] rfl ?_
  refine wo_load t22 rfl rfl rfl rfl rfl rfl ?_
  refine wo_call (v := .pv (.int .u64 (joinM k l r a b o : Nat))) (H' := [_]) rfl rfl rfl rfl rfl rfl ((cl13 _ _ _ _).trans (callPure_pv rfl (fun _ => rfl) (join_ok hl hr ha hb ho _ (by omega)))) rfl rfl rfl ?_
  refine wo_apv rfl rfl rfl rfl rfl ?_
  refine wo_nil ?_
  refine ⟨[_, _, _, _, _, _, _, _, _, _, _, _, _, _, _, _, _, _, _, _, _, _, _, _, _, _, _, _, _, _, _, _, _, _, _, _, _, _, _, _, _, _, _, _, _, _, _, _, _, _, _, _, _, _, _, _, _, _, _, _, _, _, _, _, _, _, _, _, _, _, _, _, _, _, _, _, _, _, _, _, _, _, _, _, _, _, _, _, _, _, _, _, _, _, _, _, _, _, _, _, _, _, _, _, _, _, _, _, _, _, _, _, _, _, _, _, _, _, _, _, _, _, _, _, _, _, _, _, _, _, _, _, _, _, _, _], rfl, ?_⟩
  refine wp_seq ?_
  refine wp_seq ?_
  refine wp_drawn rfl rfl (by kernel_rfl) ?_
  refine wo_mpv rfl rfl rfl rfl rfl ?_
  refine wo_faddr t24 t22 rfl rfl rfl rfl rfl rfl rfl ?_
  refine wo_load t22 rfl rfl rfl rfl rfl rfl ?_
  refine wo_faddr t24 t22 rfl rfl rfl rfl rfl rfl rfl ?_
  refine wo_load t22 rfl rfl rfl rfl rfl rfl ?_
  refine wo_call (v := .pv (.int .u64 ((capN (l + r) : Nat) : Int))) (H' := [_]) rfl rfl rfl rfl rfl rfl ((cl16 _ _ _ _).trans (callPure_pv rfl (fun _ => rfl) (add_ok hl hr _ (by omega)))) rfl rfl rfl ?_
  refine wo_bin (v := .pv (.bool false)) rfl rfl rfl rfl (bF (by omega)) ?_
  refine wo_mpv rfl rfl rfl rfl rfl ?_
  refine wo_faddr t24 t22 rfl rfl rfl rfl rfl rfl rfl ?_
  refine wo_load t22 rfl rfl rfl rfl rfl rfl ?_
  refine wo_mpv rfl rfl rfl rfl rfl ?_
  refine wo_norm [_, _, _, _, _, _, _, _, _, _, _, _, _, _, _, _, _, _, _, _, _, _, _, _, _, _, _, _, _, _, _, _, _, _, _, _, _, _, _, _, _, _, _, _, _, _, _, _, _, _, _, _, _, _, _, _, _, _, _, _, _, _, _, _, _, _, _, _, _, _, _, _, _, _, _, _, _, _, _, _, _, _, _, _, _, _, _, _, _, _, _, _, _, _, _, _, _, _, _, _, _, _, _, _, _, _, _, _, _, _, _, _, _, _, _, _, _, _, _, _, _, _, _, _, _, _, _, _, _, _, _, _, _, _, _, _] rfl ?_
  refine wo_call (v := .pv (.int .u64 ((capN (a + m) : Nat) : Int))) (H' := [_]) rfl rfl rfl rfl rfl rfl ((cl16 _ _ _ _).trans (callPure_pv rfl (fun _ => rfl) (add_ok ha hm _ (by omega)))) rfl rfl rfl ?_
  refine wo_call (v := .pv (.int .u64 ((sortM (capN (a + m)) : Nat) : Int))) (H' := [_]) rfl rfl rfl rfl rfl rfl ((cl11 _ _ _ _).trans (callPure_pv rfl (fun _ => rfl) (sort_ok (capN_lt _) _ (by omega)))) rfl rfl rfl ?_
  refine wo_faddr t24 t22 rfl rfl rfl rfl rfl rfl rfl ?_
  refine wo_load t22 rfl rfl rfl rfl rfl rfl ?_
  refine wo_call (v := .pv (.int .u64 ((sortM a : Nat) : Int))) (H' := [_]) rfl rfl rfl rfl rfl rfl ((cl11 _ _ _ _).trans (callPure_pv rfl (fun _ => rfl) (sort_ok ha _ (by omega)))) rfl rfl rfl ?_
  refine wo_bin (v := .pv (.bool false)) rfl rfl rfl rfl (bF (by omega)) ?_
  refine wo_pick (v := .pv _) rfl rfl rfl rfl rfl rfl ?_
  refine wo_mpv rfl rfl rfl rfl rfl ?_
  refine wo_faddr t24 t22 rfl rfl rfl rfl rfl rfl rfl ?_
  refine wo_load t22 rfl rfl rfl rfl rfl rfl ?_
  refine wo_mpv rfl rfl rfl rfl rfl ?_
  refine wo_call (v := .pv (.int .u64 ((capN (a + m) : Nat) : Int))) (H' := [_]) rfl rfl rfl rfl rfl rfl ((cl16 _ _ _ _).trans (callPure_pv rfl (fun _ => rfl) (add_ok ha hm _ (by omega)))) rfl rfl rfl ?_
  refine wo_norm [_, _, _, _, _, _, _, _, _, _, _, _, _, _, _, _, _, _, _, _, _, _, _, _, _, _, _, _, _, _, _, _, _, _, _, _, _, _, _, _, _, _, _, _, _, _, _, _, _, _, _, _, _, _, _, _, _, _, _, _, _, _, _, _, _, _, _, _, _, _, _, _, _, _, _, _, _, _, _, _, _, _, _, _, _, _, _, _, _, _, _, _, _, _, _, _, _, _, _, _, _, _, _, _, _, _, _, _, _, _, _, _, _, _, _, _, _, _, _, _, _, _, _, _, _, _, _, _, _, _, _, _, _, _, _, _] rfl ?_
  refine wo_faddr t24 t22 rfl rfl rfl rfl rfl rfl rfl ?_
  refine wo_load t22 rfl rfl rfl rfl rfl rfl ?_
  refine wo_call (v := .pv (.int .u64 ((scanM (capN (a + m)) o : Nat) : Int))) (H' := [_]) rfl rfl rfl rfl rfl rfl ((cl9 _ _ _ _).trans (callPure_pv rfl (fun _ => rfl) (scan_ok (capN_lt _) ho _ (by omega)))) rfl rfl rfl ?_
  refine wo_faddr t24 t22 rfl rfl rfl rfl rfl rfl rfl ?_
  refine wo_load t22 rfl rfl rfl rfl rfl rfl ?_
  refine wo_faddr t24 t22 rfl rfl rfl rfl rfl rfl rfl ?_
  refine wo_load t22 rfl rfl rfl rfl rfl rfl ?_
  refine wo_call (v := .pv (.int .u64 ((scanM a o : Nat) : Int))) (H' := [_]) rfl rfl rfl rfl rfl rfl ((cl9 _ _ _ _).trans (callPure_pv rfl (fun _ => rfl) (scan_ok ha ho _ (by omega)))) rfl rfl rfl ?_
  refine wo_bin (v := .pv (.bool false)) rfl rfl rfl rfl (bF (by omega)) ?_
  refine wo_pick (v := .pv _) rfl rfl rfl rfl rfl rfl ?_
  refine wo_nil ?_
  refine ⟨by kernel_rfl, ?_⟩
  refine ⟨[_, _, _, _, _, _, _, _, _, _, _, _, _, _, _, _, _, _, _, _, _, _, _, _, _, _, _, _, _, _, _, _, _, _, _, _, _, _, _, _, _, _, _, _, _, _, _, _, _, _, _, _, _, _, _, _, _, _, _, _, _, _, _, _, _, _, _, _, _, _, _, _, _, _, _, _, _, _, _, _, _, _, _, _, _, _, _, _, _, _, _, _, _, _, _, _, _, _, _, _, _, _, _, _, _, _, _, _, _, _, _, _, _, _, _, _, _, _, _, _, _, _, _, _, _, _, _, _, _, _, _, _, _, _, _, _], rfl, ?_⟩
  refine wp_false rfl ?_
  refine wp_skip ?_
  refine wp_seq ?_
  refine wp_drawn rfl rfl (by kernel_rfl) ?_
  refine wo_faddr t24 t3 rfl rfl rfl rfl rfl rfl rfl ?_
  refine wo_load t3 rfl rfl rfl rfl rfl rfl ?_
  refine wo_faddr t24 t22 rfl rfl rfl rfl rfl rfl rfl ?_
  refine wo_load t22 rfl rfl rfl rfl rfl rfl ?_
  refine wo_mpv rfl rfl rfl rfl rfl ?_
  refine wo_call (v := .pv (.int .u64 ((capN (l + m) : Nat) : Int))) (H' := [_]) rfl rfl rfl rfl rfl rfl ((cl16 _ _ _ _).trans (callPure_pv rfl (fun _ => rfl) (add_ok hl hm _ (by omega)))) rfl rfl rfl ?_
  refine wo_faddr t24 t22 rfl rfl rfl rfl rfl rfl rfl ?_
  refine wo_load t22 rfl rfl rfl rfl rfl rfl ?_
  refine wo_faddr t24 t22 rfl rfl rfl rfl rfl rfl rfl ?_
  refine wo_load t22 rfl rfl rfl rfl rfl rfl ?_
  refine wo_faddr t24 t22 rfl rfl rfl rfl rfl rfl rfl ?_
  refine wo_norm [_, _, _, _, _, _, _, _, _, _, _, _, _, _, _, _, _, _, _, _, _, _, _, _, _, _, _, _, _, _, _, _, _, _, _, _, _, _, _, _, _, _, _, _, _, _, _, _, _, _, _, _, _, _, _, _, _, _, _, _, _, _, _, _, _, _, _, _, _, _, _, _, _, _, _, _, _, _, _, _, _, _, _, _, _, _, _, _, _, _, _, _, _, _, _, _, _, _, _, _, _, _, _, _, _, _, _, _, _, _, _, _, _, _, _, _, _, _, _, _, _, _, _, _, _, _, _, _, _, _, _, _, _, _, _, _] rfl ?_
  refine wo_load t22 rfl rfl rfl rfl rfl rfl ?_
  refine wo_faddr t24 t22 rfl rfl rfl rfl rfl rfl rfl ?_
  refine wo_load t22 rfl rfl rfl rfl rfl rfl ?_
  refine wo_call (v := .pv (.int .u64 (joinM k (capN (l + m)) r a b o : Nat))) (H' := [_]) rfl rfl rfl rfl rfl rfl ((cl13 _ _ _ _).trans (callPure_pv rfl (fun _ => rfl) (join_ok (capN_lt _) hr ha hb ho _ (by omega)))) rfl rfl rfl ?_
  refine wo_apv rfl rfl rfl rfl rfl ?_
  refine wo_nil ?_
  refine ⟨by kernel_rfl, ?_⟩
  refine ⟨[_, _, _, _, _, _, _, _, _, _, _, _, _, _, _, _, _, _, _, _, _, _, _, _, _, _, _, _, _, _, _, _, _, _, _, _, _, _, _, _, _, _, _, _, _, _, _, _, _, _, _, _, _, _, _, _, _, _, _, _, _, _, _, _, _, _, _, _, _, _, _, _, _, _, _, _, _, _, _, _, _, _, _, _, _, _, _, _, _, _, _, _, _, _, _, _, _, _, _, _, _, _, _, _, _, _, _, _, _, _, _, _, _, _, _, _, _, _, _, _, _, _, _, _, _, _, _, _, _, _, _, _, _, _, _, _], rfl, ?_⟩
  refine wp_seq ?_
  refine wp_drawn rfl rfl (by kernel_rfl) ?_
  refine wo_faddr t24 t3 rfl rfl rfl rfl rfl rfl rfl ?_
  refine wo_load t3 rfl rfl rfl rfl rfl rfl ?_
  refine wo_faddr t24 t22 rfl rfl rfl rfl rfl rfl rfl ?_
  refine wo_load t22 rfl rfl rfl rfl rfl rfl ?_
  refine wo_faddr t24 t22 rfl rfl rfl rfl rfl rfl rfl ?_
  refine wo_load t22 rfl rfl rfl rfl rfl rfl ?_
  refine wo_faddr t24 t22 rfl rfl rfl rfl rfl rfl rfl ?_
  refine wo_load t22 rfl rfl rfl rfl rfl rfl ?_
  refine wo_mpv rfl rfl rfl rfl rfl ?_
  refine wo_call (v := .pv (.int .u64 ((capN (a + m) : Nat) : Int))) (H' := [_]) rfl rfl rfl rfl rfl rfl ((cl16 _ _ _ _).trans (callPure_pv rfl (fun _ => rfl) (add_ok ha hm _ (by omega)))) rfl rfl rfl ?_
  refine wo_faddr t24 t22 rfl rfl rfl rfl rfl rfl rfl ?_
  refine wo_norm [_, _, _, _, _, _, _, _, _, _, _, _, _, _, _, _, _, _, _, _, _, _, _, _, _, _, _, _, _, _, _, _, _, _, _, _, _, _, _, _, _, _, _, _, _, _, _, _, _, _, _, _, _, _, _, _, _, _, _, _, _, _, _, _, _, _, _, _, _, _, _, _, _, _, _, _, _, _, _, _, _, _, _, _, _, _, _, _, _, _, _, _, _, _, _, _, _, _, _, _, _, _, _, _, _, _, _, _, _, _, _, _, _, _, _, _, _, _, _, _, _, _, _, _, _, _, _, _, _, _, _, _, _, _, _, _] rfl ?_
  refine wo_load t22 rfl rfl rfl rfl rfl rfl ?_
  refine wo_faddr t24 t22 rfl rfl rfl rfl rfl rfl rfl ?_
  refine wo_load t22 rfl rfl rfl rfl rfl rfl ?_
  refine wo_call (v := .pv (.int .u64 (joinM k l r (capN (a + m)) b o : Nat))) (H' := [_]) rfl rfl rfl rfl rfl rfl ((cl13 _ _ _ _).trans (callPure_pv rfl (fun _ => rfl) (join_ok hl hr (capN_lt _) hb ho _ (by omega)))) rfl rfl rfl ?_
  refine wo_apv rfl rfl rfl rfl rfl ?_
  refine wo_nil ?_
  refine ⟨by kernel_rfl, ?_⟩
  refine ⟨[_, _, _, _, _, _, _, _, _, _, _, _, _, _, _, _, _, _, _, _, _, _, _, _, _, _, _, _, _, _, _, _, _, _, _, _, _, _, _, _, _, _, _, _, _, _, _, _, _, _, _, _, _, _, _, _, _, _, _, _, _, _, _, _, _, _, _, _, _, _, _, _, _, _, _, _, _, _, _, _, _, _, _, _, _, _, _, _, _, _, _, _, _, _, _, _, _, _, _, _, _, _, _, _, _, _, _, _, _, _, _, _, _, _, _, _, _, _, _, _, _, _, _, _, _, _, _, _, _, _, _, _, _, _, _, _], rfl, ?_⟩
  refine wp_seq ?_
  refine wp_drawn rfl rfl (by kernel_rfl) ?_
  refine wo_faddr t24 t3 rfl rfl rfl rfl rfl rfl rfl ?_
  refine wo_load t3 rfl rfl rfl rfl rfl rfl ?_
  refine wo_faddr t24 t22 rfl rfl rfl rfl rfl rfl rfl ?_
  refine wo_load t22 rfl rfl rfl rfl rfl rfl ?_
  refine wo_faddr t24 t22 rfl rfl rfl rfl rfl rfl rfl ?_
  refine wo_load t22 rfl rfl rfl rfl rfl rfl ?_
  refine wo_faddr t24 t22 rfl rfl rfl rfl rfl rfl rfl ?_
  refine wo_load t22 rfl rfl rfl rfl rfl rfl ?_
  refine wo_faddr t24 t22 rfl rfl rfl rfl rfl rfl rfl ?_
  refine wo_load t22 rfl rfl rfl rfl rfl rfl ?_
  refine wo_mpv rfl rfl rfl rfl rfl ?_
  refine wo_norm [_, _, _, _, _, _, _, _, _, _, _, _, _, _, _, _, _, _, _, _, _, _, _, _, _, _, _, _, _, _, _, _, _, _, _, _, _, _, _, _, _, _, _, _, _, _, _, _, _, _, _, _, _, _, _, _, _, _, _, _, _, _, _, _, _, _, _, _, _, _, _, _, _, _, _, _, _, _, _, _, _, _, _, _, _, _, _, _, _, _, _, _, _, _, _, _, _, _, _, _, _, _, _, _, _, _, _, _, _, _, _, _, _, _, _, _, _, _, _, _, _, _, _, _, _, _, _, _, _, _, _, _, _, _, _, _] rfl ?_
  refine wo_call (v := .pv (.int .u64 ((capN (b + m) : Nat) : Int))) (H' := [_]) rfl rfl rfl rfl rfl rfl ((cl16 _ _ _ _).trans (callPure_pv rfl (fun _ => rfl) (add_ok hb hm _ (by omega)))) rfl rfl rfl ?_
  refine wo_faddr t24 t22 rfl rfl rfl rfl rfl rfl rfl ?_
  refine wo_load t22 rfl rfl rfl rfl rfl rfl ?_
  refine wo_call (v := .pv (.int .u64 (joinM k l r a (capN (b + m)) o : Nat))) (H' := [_]) rfl rfl rfl rfl rfl rfl ((cl13 _ _ _ _).trans (callPure_pv rfl (fun _ => rfl) (join_ok hl hr ha (capN_lt _) ho _ (by omega)))) rfl rfl rfl ?_
  refine wo_apv rfl rfl rfl rfl rfl ?_
  refine wo_nil ?_
  refine ⟨by kernel_rfl, ?_⟩
  refine ⟨[_, _, _, _, _, _, _, _, _, _, _, _, _, _, _, _, _, _, _, _, _, _, _, _, _, _, _, _, _, _, _, _, _, _, _, _, _, _, _, _, _, _, _, _, _, _, _, _, _, _, _, _, _, _, _, _, _, _, _, _, _, _, _, _, _, _, _, _, _, _, _, _, _, _, _, _, _, _, _, _, _, _, _, _, _, _, _, _, _, _, _, _, _, _, _, _, _, _, _, _, _, _, _, _, _, _, _, _, _, _, _, _, _, _, _, _, _, _, _, _, _, _, _, _, _, _, _, _, _, _, _, _, _, _, _, _], rfl, ?_⟩
  refine wp_seq ?_
  refine wp_drawn rfl rfl (by kernel_rfl) ?_
  refine wo_faddr t24 t3 rfl rfl rfl rfl rfl rfl rfl ?_
  refine wo_load t3 rfl rfl rfl rfl rfl rfl ?_
  refine wo_faddr t24 t22 rfl rfl rfl rfl rfl rfl rfl ?_
  refine wo_load t22 rfl rfl rfl rfl rfl rfl ?_
  refine wo_faddr t24 t22 rfl rfl rfl rfl rfl rfl rfl ?_
  refine wo_load t22 rfl rfl rfl rfl rfl rfl ?_
  refine wo_faddr t24 t22 rfl rfl rfl rfl rfl rfl rfl ?_
  refine wo_load t22 rfl rfl rfl rfl rfl rfl ?_
  refine wo_faddr t24 t22 rfl rfl rfl rfl rfl rfl rfl ?_
  refine wo_load t22 rfl rfl rfl rfl rfl rfl ?_
  refine wo_faddr t24 t22 rfl rfl rfl rfl rfl rfl rfl ?_
  refine wo_norm [_, _, _, _, _, _, _, _, _, _, _, _, _, _, _, _, _, _, _, _, _, _, _, _, _, _, _, _, _, _, _, _, _, _, _, _, _, _, _, _, _, _, _, _, _, _, _, _, _, _, _, _, _, _, _, _, _, _, _, _, _, _, _, _, _, _, _, _, _, _, _, _, _, _, _, _, _, _, _, _, _, _, _, _, _, _, _, _, _, _, _, _, _, _, _, _, _, _, _, _, _, _, _, _, _, _, _, _, _, _, _, _, _, _, _, _, _, _, _, _, _, _, _, _, _, _, _, _, _, _, _, _, _, _, _, _] rfl ?_
  refine wo_load t22 rfl rfl rfl rfl rfl rfl ?_
  refine wo_mpv rfl rfl rfl rfl rfl ?_
  refine wo_call (v := .pv (.int .u64 ((capN (o + m) : Nat) : Int))) (H' := [_]) rfl rfl rfl rfl rfl rfl ((cl16 _ _ _ _).trans (callPure_pv rfl (fun _ => rfl) (add_ok ho hm _ (by omega)))) rfl rfl rfl ?_
  refine wo_call (v := .pv (.int .u64 (joinM k l r a b (capN (o + m)) : Nat))) (H' := [_]) rfl rfl rfl rfl rfl rfl ((cl13 _ _ _ _).trans (callPure_pv rfl (fun _ => rfl) (join_ok hl hr ha hb (capN_lt _) _ (by omega)))) rfl rfl rfl ?_
  refine wo_apv rfl rfl rfl rfl rfl ?_
  refine wo_nil ?_
  refine ⟨by kernel_rfl, ?_⟩
  refine ⟨[_, _, _, _, _, _, _, _, _, _, _, _, _, _, _, _, _, _, _, _, _, _, _, _, _, _, _, _, _, _, _, _, _, _, _, _, _, _, _, _, _, _, _, _, _, _, _, _, _, _, _, _, _, _, _, _, _, _, _, _, _, _, _, _, _, _, _, _, _, _, _, _, _, _, _, _, _, _, _, _, _, _, _, _, _, _, _, _, _, _, _, _, _, _, _, _, _, _, _, _, _, _, _, _, _, _, _, _, _, _, _, _, _, _, _, _, _, _, _, _, _, _, _, _, _, _, _, _, _, _, _, _, _, _, _, _], rfl, ?_⟩
  refine wp_seq ?_
  refine wp_region rfl rfl ?_
  refine wo_mpv rfl rfl rfl rfl rfl ?_
  refine wo_mpv rfl rfl rfl rfl rfl ?_
  refine wo_bin (v := .pv (.bool true)) rfl rfl rfl rfl (bT (by omega)) ?_
  refine wo_mpv rfl rfl rfl rfl rfl ?_
  refine wo_mpv rfl rfl rfl rfl rfl ?_
  refine wo_mpv rfl rfl rfl rfl rfl ?_
  refine wo_bin (v := .pv (.bool true)) rfl rfl rfl rfl (bT (by omega)) ?_
  refine wo_pick (v := .pv _) rfl rfl rfl rfl rfl rfl ?_
  refine wo_mpv rfl rfl rfl rfl rfl ?_
  refine wo_mpv rfl rfl rfl rfl rfl ?_
  refine wo_mpv rfl rfl rfl rfl rfl ?_
  refine wo_norm [_, _, _, _, _, _, _, _, _, _, _, _, _, _, _, _, _, _, _, _, _, _, _, _, _, _, _, _, _, _, _, _, _, _, _, _, _, _, _, _, _, _, _, _, _, _, _, _, _, _, _, _, _, _, _, _, _, _, _, _, _, _, _, _, _, _, _, _, _, _, _, _, _, _, _, _, _, _, _, _, _, _, _, _, _, _, _, _, _, _, _, _, _, _, _, _, _, _, _, _, _, _, _, _, _, _, _, _, _, _, _, _, _, _, _, _, _, _, _, _, _, _, _, _, _, _, _, _, _, _, _, _, _, _, _, _] rfl ?_
  refine wo_bin (v := .pv (.bool true)) rfl rfl rfl rfl (bT (by omega)) ?_
  refine wo_pick (v := .pv _) rfl rfl rfl rfl rfl rfl ?_
  refine wo_mpv rfl rfl rfl rfl rfl ?_
  refine wo_mpv rfl rfl rfl rfl rfl ?_
  refine wo_mpv rfl rfl rfl rfl rfl ?_
  refine wo_bin (v := .pv (.bool true)) rfl rfl rfl rfl (bT (by omega)) ?_
  refine wo_pick (v := .pv _) rfl rfl rfl rfl rfl rfl ?_
  refine wo_apv rfl rfl rfl rfl rfl ?_
  refine wo_nil ?_
  refine ⟨[_, _, _, _, _, _, _, _, _, _, _, _, _, _, _, _, _, _, _, _, _, _, _, _, _, _, _, _, _, _, _, _, _, _, _, _, _, _, _, _, _, _, _, _, _, _, _, _, _, _, _, _, _, _, _, _, _, _, _, _, _, _, _, _, _, _, _, _, _, _, _, _, _, _, _, _, _, _, _, _, _, _, _, _, _, _, _, _, _, _, _, _, _, _, _, _, _, _, _, _, _, _, _, _, _, _, _, _, _, _, _, _, _, _, _, _, _, _, _, _, _, _, _, _, _, _, _, _, _, _, _, _, _, _, _, _], rfl, ?_⟩
  refine wp_ret ?_
  exact ⟨trivial, _, rfl, leave_pure⟩
end Go.Ab.Ytnfgpejdbmakkaa
