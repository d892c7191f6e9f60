import Derived.Test.YtnfgpejdbmakkaaW2
import Derived.Test.YtnfgpejdbmakkaaAbNat
namespace Go.Ab.Ytnfgpejdbmakkaa
open Go Go.Ab
open Go.Proofs.Try
set_option maxRecDepth 100000
set_option maxHeartbeats 1000000
set_option linter.unusedSimpArgs false
set_option linter.unusedVariables false

def capN (n : Nat) : Nat := min n 18446744073709551615
theorem capN_lt (n : Nat) : capN n < 2 ^ 64 := by unfold capN; omega
theorem cl42 (C : CallF) (a b : Nat) (look : Look) (nid : Nat) : aCall G C (.pv (.fn 42 [] [])) [.pv (.int .u64 a), .pv (.int .u64 b), .pv (.int .u64 0)] look nid = some (.ok ⟨.tup [.pv (.int .u64 (((a + b) % 18446744073709551616 : Nat) : Int)), .pv (.int .u64 (((a + b) / 18446744073709551616 : Nat) : Int))], [], []⟩) := aCall_x func42 (by kernel_rfl) (by kernel_rfl) (x := fun
    | [.pv (.int .u64 x), .pv (.int .u64 y), .pv (.int .u64 (.ofNat 0))] =>
        some (.tup [.pv (.int .u64 (Int.ofNat ((x.toNat + y.toNat) % Extern.MathBitsCarry.m64))), .pv (.int .u64 (Int.ofNat ((x.toNat + y.toNat) / Extern.MathBitsCarry.m64)))])
    | _ => none) (by kernel_rfl) rfl
theorem capped_ok (n b : Nat) (N : Nat) (hN : 1 ≤ N) : call G N 43 [.pv (.int .u64 n), .pv (.int .u64 b)] [] = some (.ret (.pv (.int .u64 ((if b = 0 then n else 18446744073709551615 : Nat) : Int))), []) := by
  obtain ⟨N, rfl⟩ : ∃ M, N = M + 1 := ⟨N - 1, by omega⟩
  refine call_eq func43 rfl (show _ = [_, _, _, _, _, _, _, _, _, _] from rfl) ?_
  refine wp_seq ?_
  refine wp_region rfl rfl ?_
  refine wo_apv rfl rfl rfl rfl rfl ?_
  refine wo_nil ?_
  refine ⟨[_, _, _, _, _, _, _, _, _, _], rfl, ?_⟩
  refine wp_seq ?_
  refine wp_region rfl rfl ?_
  refine wo_apv rfl rfl rfl rfl rfl ?_
  refine wo_nil ?_
  refine ⟨[_, _, _, _, _, _, _, _, _, _], rfl, ?_⟩
  refine wp_seq ?_
  refine wp_seq ?_
  refine wp_region rfl rfl ?_
  refine wo_mpv rfl rfl rfl rfl rfl ?_
  refine wo_mpv rfl rfl rfl rfl rfl ?_
  refine wo_nsplit rfl rfl rfl rfl rfl (fun c2_2 => ?_) (fun c2_2 => ?_)
  ·
    refine wo_nil ?_
    refine ⟨[_, _, _, _, _, _, _, _, _, _], rfl, ?_⟩
    refine wp_true rfl ?_
    refine wp_seq ?_
    refine wp_region rfl rfl ?_
    refine wo_apv rfl rfl rfl rfl rfl ?_
    refine wo_nil ?_
    refine ⟨[_, _, _, _, _, _, _, _, _, _], rfl, ?_⟩
    refine wp_ret ?_
    first
      | (rw [if_neg (by omega)]; exact ⟨trivial, _, rfl, leave_pure⟩)
      | (rw [if_pos (by omega)]; exact ⟨trivial, _, rfl, leave_pure⟩)
  ·
    refine wo_nil ?_
    refine ⟨[_, _, _, _, _, _, _, _, _, _], rfl, ?_⟩
    refine wp_false rfl ?_
    refine wp_skip ?_
    refine wp_seq ?_
    refine wp_region rfl rfl ?_
    refine wo_mpv rfl rfl rfl rfl rfl ?_
    refine wo_apv rfl rfl rfl rfl rfl ?_
    refine wo_nil ?_
    refine ⟨[_, _, _, _, _, _, _, _, _, _], rfl, ?_⟩
    refine wp_ret ?_
    first
      | (rw [if_neg (by omega)]; exact ⟨trivial, _, rfl, leave_pure⟩)
      | (rw [if_pos (by omega)]; exact ⟨trivial, _, rfl, leave_pure⟩)
theorem cappedT_ok (N : Nat) (hN : 1 ≤ N) : call G N 55 [.pv (.int .u64 0), .pv (.bool true)] [] = some (.ret (.pv (.int .u64 18446744073709551615)), []) := by
  obtain ⟨N, rfl⟩ : ∃ M, N = M + 1 := ⟨N - 1, by omega⟩
  refine call_eq func55 rfl (show _ = [_, _, _, _, _, _, _, _, _, _] from rfl) ?_
  refine wp_seq ?_
  refine wp_region rfl rfl ?_
  refine wo_apv rfl rfl rfl rfl rfl ?_
  refine wo_nil ?_
  refine ⟨[_, _, _, _, _, _, _, _, _, _], rfl, ?_⟩
  refine wp_seq ?_
  refine wp_region rfl rfl ?_
  refine wo_apv rfl rfl rfl rfl rfl ?_
  refine wo_nil ?_
  refine ⟨[_, _, _, _, _, _, _, _, _, _], rfl, ?_⟩
  refine wp_seq ?_
  refine wp_seq ?_
  refine wp_region rfl rfl ?_
  refine wo_mpv rfl rfl rfl rfl rfl ?_
  refine wo_mpv rfl rfl rfl rfl rfl ?_
  refine wo_bint t4 (v := .pv (.bool true)) rfl rfl rfl rfl (rfl) ?_
  refine wo_nil ?_
  refine ⟨[_, _, _, _, _, _, _, _, _, _], rfl, ?_⟩
  refine wp_true rfl ?_
  refine wp_seq ?_
  refine wp_region rfl rfl ?_
  refine wo_apv rfl rfl rfl rfl rfl ?_
  refine wo_nil ?_
  refine ⟨[_, _, _, _, _, _, _, _, _, _], rfl, ?_⟩
  refine wp_ret ?_
  exact ⟨trivial, _, rfl, leave_pure⟩
theorem add_ok {a b : Nat} (ha : a < 2 ^ 64) (hb : b < 2 ^ 64) (N : Nat) (hN : 2 ≤ N) : call G N 16 [.pv (.int .u64 a), .pv (.int .u64 b)] [] = some (.ret (.pv (.int .u64 (capN (a + b) : Nat))), []) := by
  obtain ⟨N, rfl⟩ : ∃ M, N = M + 1 := ⟨N - 1, by omega⟩
  have hc := capped_ok ((a + b) % 18446744073709551616) ((a + b) / 18446744073709551616) N (by omega)
  rw [show (if (a + b) / 18446744073709551616 = 0 then (a + b) % 18446744073709551616 else 18446744073709551615) = capN (a + b) by unfold capN; split <;> omega] at hc
  refine call_eq func16 rfl (show _ = [_, _, _, _, _, _, _, _, _, _, _, _, _, _, _, _] from rfl) ?_
  refine wp_seq ?_
  refine wp_region rfl rfl ?_
  refine wo_apv rfl rfl rfl rfl rfl ?_
  refine wo_nil ?_
  refine ⟨[_, _, _, _, _, _, _, _, _, _, _, _, _, _, _, _], rfl, ?_⟩
  refine wp_seq ?_
  refine wp_region rfl rfl ?_
  refine wo_mpv rfl rfl rfl rfl rfl ?_
  refine wo_mpv rfl rfl rfl rfl rfl ?_
  refine wo_call (v := .tup [.pv (.int .u64 (((a + b) % 18446744073709551616 : Nat) : Int)), .pv (.int .u64 (((a + b) / 18446744073709551616 : Nat) : Int))]) (H' := []) rfl rfl rfl rfl rfl rfl (cl42 _ _ _ _ _) rfl rfl rfl ?_
  refine wo_move (v := .tup _) rfl rfl rfl rfl rfl (fun h => AV.noConfusion h) ?_
  refine wo_extract (v := .pv _) rfl rfl rfl rfl rfl rfl ?_
  refine wo_extract (v := .pv _) rfl rfl rfl rfl rfl rfl ?_
  refine wo_apv rfl rfl rfl rfl rfl ?_
  refine wo_apv rfl rfl rfl rfl rfl ?_
  refine wo_nil ?_
  refine ⟨[_, _, _, _, _, _, _, _, _, _, _, _, _, _, _, _], rfl, ?_⟩
  refine wp_seq ?_
  refine wp_region rfl rfl ?_
  refine wo_mpv rfl rfl rfl rfl rfl ?_
  refine wo_mpv rfl rfl rfl rfl rfl ?_
  refine wo_call (v := .pv (.int .u64 ((capN (a + b) : Nat) : Int))) (H' := []) rfl rfl rfl rfl rfl rfl ((cl43 _ _ _ _).trans (callPure_pv rfl (fun _ => rfl) (hc))) rfl rfl rfl ?_
  refine wo_apv rfl rfl rfl rfl rfl ?_
  refine wo_nil ?_
  refine ⟨[_, _, _, _, _, _, _, _, _, _, _, _, _, _, _, _], rfl, ?_⟩
  refine wp_ret ?_
  exact ⟨trivial, _, rfl, leave_pure⟩
theorem radd_ok {a b : Nat} (ha : a < 2 ^ 64) (hb : b < 2 ^ 64) (N : Nat) (hN : 1 ≤ N) : call G N 34 [.pv (.int .u64 a), .pv (.int .u64 b)] [] = some (.ret (.pv (.int .u64 (capN (a + b) : Nat))), []) := by
  obtain ⟨N, rfl⟩ : ∃ M, N = M + 1 := ⟨N - 1, by omega⟩
  refine call_eq func34 rfl (show _ = [_, _, _, _, _, _, _, _, _, _, _, _] from rfl) ?_
  refine wp_seq ?_
  refine wp_region rfl rfl ?_
  refine wo_apv rfl rfl rfl rfl rfl ?_
  refine wo_nil ?_
  refine ⟨[_, _, _, _, _, _, _, _, _, _, _, _], rfl, ?_⟩
  refine wp_seq ?_
  refine wp_seq ?_
  refine wp_region rfl rfl ?_
  refine wo_mpv rfl rfl rfl rfl rfl ?_
  refine wo_mpv rfl rfl rfl rfl rfl ?_
  refine wo_bin (v := .pv (.int .u64 ((18446744073709551615 - a : Nat) : Int))) rfl rfl rfl rfl (subN (a := 18446744073709551615) (by omega) (by decide)) ?_
  refine wo_bsplit rfl rfl rfl rfl rfl (fun c1_3 => ?_) (fun c1_3 => ?_)
  ·
    refine wo_nil ?_
    refine ⟨[_, _, _, _, _, _, _, _, _, _, _, _], rfl, ?_⟩
    refine wp_true rfl ?_
    refine wp_seq ?_
    refine wp_region rfl rfl ?_
    refine wo_apv rfl rfl rfl rfl rfl ?_
    refine wo_nil ?_
    refine ⟨[_, _, _, _, _, _, _, _, _, _, _, _], rfl, ?_⟩
    refine wp_ret ?_
    first
      | (rw [show capN (a + b) = 18446744073709551615 by unfold capN; omega]; exact ⟨trivial, _, rfl, leave_pure⟩)
      | (rw [show capN (a + b) = a + b by unfold capN; omega]; exact ⟨trivial, _, rfl, leave_pure⟩)
  ·
    refine wo_nil ?_
    refine ⟨[_, _, _, _, _, _, _, _, _, _, _, _], rfl, ?_⟩
    refine wp_false rfl ?_
    refine wp_skip ?_
    refine wp_seq ?_
    refine wp_region rfl rfl ?_
    refine wo_mpv rfl rfl rfl rfl rfl ?_
    refine wo_mpv rfl rfl rfl rfl rfl ?_
    refine wo_bin (v := .pv (.int .u64 ((a + b : Nat) : Int))) rfl rfl rfl rfl (addN (by omega)) ?_
    refine wo_apv rfl rfl rfl rfl rfl ?_
    refine wo_nil ?_
    refine ⟨[_, _, _, _, _, _, _, _, _, _, _, _], rfl, ?_⟩
    refine wp_ret ?_
    first
      | (rw [show capN (a + b) = 18446744073709551615 by unfold capN; omega]; exact ⟨trivial, _, rfl, leave_pure⟩)
      | (rw [show capN (a + b) = a + b by unfold capN; omega]; exact ⟨trivial, _, rfl, leave_pure⟩)
theorem mul_split (a b : Nat) : a * b = 18446744073709551616 * ((a / 4294967296) * (b / 4294967296)) + 4294967296 * ((a / 4294967296) * (b % 4294967296)) + 4294967296 * ((a % 4294967296) * (b / 4294967296)) + (a % 4294967296) * (b % 4294967296) := by
  conv => lhs; rw [← Nat.div_add_mod a 4294967296, ← Nat.div_add_mod b 4294967296]
  generalize a / 4294967296 = x1
  generalize a % 4294967296 = x0
  generalize b / 4294967296 = y1
  generalize b % 4294967296 = y0
  rw [Nat.mul_add, Nat.add_mul, Nat.add_mul]
  have e1 : 4294967296 * x1 * (4294967296 * y1) = 18446744073709551616 * (x1 * y1) := by rw [Nat.mul_mul_mul_comm]
  have e2 : x0 * (4294967296 * y1) = 4294967296 * (x0 * y1) := Nat.mul_left_comm _ _ _
  have e3 : 4294967296 * x1 * y0 = 4294967296 * (x1 * y0) := Nat.mul_assoc _ _ _
  omega
structure Halves (a b p q r s : Nat) : Prop where
  xp : (a % 4294967296) * (b % 4294967296) = p
  xq : (a / 4294967296) * (b % 4294967296) = q
  xr : (a % 4294967296) * (b / 4294967296) = r
  xs : (a / 4294967296) * (b / 4294967296) = s
  e : a * b = 18446744073709551616 * s + 4294967296 * q + 4294967296 * r + p
  p1 : p ≤ 18446744065119617025
  q1 : q ≤ 18446744065119617025
  r1 : r ≤ 18446744065119617025
  s1 : s ≤ 18446744065119617025
theorem halves {a b : Nat} (ha : a < 2 ^ 64) (hb : b < 2 ^ 64) : ∃ p q r s, Halves a b p q r s := by
  have h1 : a % 4294967296 ≤ 4294967295 := by omega
  have h2 : a / 4294967296 ≤ 4294967295 := by omega
  have h3 : b % 4294967296 ≤ 4294967295 := by omega
  have h4 : b / 4294967296 ≤ 4294967295 := by omega
  exact ⟨_, _, _, _, rfl, rfl, rfl, rfl, mul_split a b, Nat.mul_le_mul h1 h3, Nat.mul_le_mul h2 h3, Nat.mul_le_mul h1 h4, Nat.mul_le_mul h2 h4⟩
theorem mul64_ok {a b : Nat} (ha : a < 2 ^ 64) (hb : b < 2 ^ 64) (N : Nat) (hN : 1 ≤ N) : call G N 52 [.pv (.int .u64 a), .pv (.int .u64 b)] [] = some (.ret (.tup [.pv (.int .u64 ((a * b / 18446744073709551616 : Nat) : Int)), .pv (.int .u64 ((a * b % 18446744073709551616 : Nat) : Int))]), []) := by
  obtain ⟨N, rfl⟩ : ∃ M, N = M + 1 := ⟨N - 1, by omega⟩
  obtain ⟨p, q, r, s, h⟩ := halves ha hb
  have hE := h.e
  have hp := h.p1
  have hq := h.q1
  have hr := h.r1
  have hs := h.s1
  have hHi : s + (q + p / 4294967296) / 4294967296 + ((q + p / 4294967296) % 4294967296 + r) / 4294967296 = a * b / 18446744073709551616 := by omega
  have hb64 : a * b < 2 ^ 64 * 2 ^ 64 := Nat.mul_lt_mul'' ha hb
  refine call_eq func52 rfl (show _ = [_, _, _, _, _, _, _, _, _, _, _, _, _, _, _, _, _, _, _, _, _, _, _, _, _, _, _, _, _, _, _, _, _, _, _, _, _, _, _, _, _, _, _, _, _, _, _, _, _, _, _] from rfl) ?_
  refine wp_seq ?_
  refine wp_region rfl rfl ?_
  refine wo_apv rfl rfl rfl rfl rfl ?_
  refine wo_apv rfl rfl rfl rfl rfl ?_
  refine wo_nil ?_
  refine ⟨[_, _, _, _, _, _, _, _, _, _, _, _, _, _, _, _, _, _, _, _, _, _, _, _, _, _, _, _, _, _, _, _, _, _, _, _, _, _, _, _, _, _, _, _, _, _, _, _, _, _, _], rfl, ?_⟩
  refine wp_seq ?_
  refine wp_region rfl rfl ?_
  refine wo_mpv rfl rfl rfl rfl rfl ?_
  refine wo_bin (v := .pv (.int .u64 ((a % 4294967296 : Nat) : Int))) rfl rfl rfl rfl (andN 32 _ (by decide) (by decide) ha) ?_
  refine wo_apv rfl rfl rfl rfl rfl ?_
  refine wo_nil ?_
  refine ⟨[_, _, _, _, _, _, _, _, _, _, _, _, _, _, _, _, _, _, _, _, _, _, _, _, _, _, _, _, _, _, _, _, _, _, _, _, _, _, _, _, _, _, _, _, _, _, _, _, _, _, _], rfl, ?_⟩
  refine wp_seq ?_
  refine wp_region rfl rfl ?_
  refine wo_mpv rfl rfl rfl rfl rfl ?_
  refine wo_bin (v := .pv (.int .u64 ((a / 4294967296 : Nat) : Int))) rfl rfl rfl rfl (shrN 32 4294967296 (by decide) (by decide) a) ?_
  refine wo_apv rfl rfl rfl rfl rfl ?_
  refine wo_nil ?_
  refine ⟨[_, _, _, _, _, _, _, _, _, _, _, _, _, _, _, _, _, _, _, _, _, _, _, _, _, _, _, _, _, _, _, _, _, _, _, _, _, _, _, _, _, _, _, _, _, _, _, _, _, _, _], rfl, ?_⟩
  refine wp_seq ?_
  refine wp_region rfl rfl ?_
  refine wo_mpv rfl rfl rfl rfl rfl ?_
  refine wo_bin (v := .pv (.int .u64 ((b % 4294967296 : Nat) : Int))) rfl rfl rfl rfl (andN 32 _ (by decide) (by decide) hb) ?_
  refine wo_apv rfl rfl rfl rfl rfl ?_
  refine wo_nil ?_
  refine ⟨[_, _, _, _, _, _, _, _, _, _, _, _, _, _, _, _, _, _, _, _, _, _, _, _, _, _, _, _, _, _, _, _, _, _, _, _, _, _, _, _, _, _, _, _, _, _, _, _, _, _, _], rfl, ?_⟩
  refine wp_seq ?_
  refine wp_region rfl rfl ?_
  refine wo_mpv rfl rfl rfl rfl rfl ?_
  refine wo_bin (v := .pv (.int .u64 ((b / 4294967296 : Nat) : Int))) rfl rfl rfl rfl (shrN 32 4294967296 (by decide) (by decide) b) ?_
  refine wo_apv rfl rfl rfl rfl rfl ?_
  refine wo_nil ?_
  refine ⟨[_, _, _, _, _, _, _, _, _, _, _, _, _, _, _, _, _, _, _, _, _, _, _, _, _, _, _, _, _, _, _, _, _, _, _, _, _, _, _, _, _, _, _, _, _, _, _, _, _, _, _], rfl, ?_⟩
  refine wp_seq ?_
  refine wp_region rfl rfl ?_
  refine wo_mpv rfl rfl rfl rfl rfl ?_
  refine wo_mpv rfl rfl rfl rfl rfl ?_
  refine wo_bin (v := .pv (.int .u64 ((p : Nat) : Int))) rfl rfl rfl rfl ((mulN (by rw [h.xp]; omega)).trans (by rw [h.xp])) ?_
  refine wo_apv rfl rfl rfl rfl rfl ?_
  refine wo_nil ?_
  refine ⟨[_, _, _, _, _, _, _, _, _, _, _, _, _, _, _, _, _, _, _, _, _, _, _, _, _, _, _, _, _, _, _, _, _, _, _, _, _, _, _, _, _, _, _, _, _, _, _, _, _, _, _], rfl, ?_⟩
  refine wp_seq ?_
  refine wp_region rfl rfl ?_
  refine wo_mpv rfl rfl rfl rfl rfl ?_
  refine wo_mpv rfl rfl rfl rfl rfl ?_
  refine wo_bin (v := .pv (.int .u64 ((q : Nat) : Int))) rfl rfl rfl rfl ((mulN (by rw [h.xq]; omega)).trans (by rw [h.xq])) ?_
  refine wo_mpv rfl rfl rfl rfl rfl ?_
  refine wo_bin (v := .pv (.int .u64 ((p / 4294967296 : Nat) : Int))) rfl rfl rfl rfl (shrN 32 4294967296 (by decide) (by decide) p) ?_
  refine wo_bin (v := .pv (.int .u64 (((q + p / 4294967296) : Nat) : Int))) rfl rfl rfl rfl (addN (by omega)) ?_
  refine wo_apv rfl rfl rfl rfl rfl ?_
  refine wo_nil ?_
  refine ⟨[_, _, _, _, _, _, _, _, _, _, _, _, _, _, _, _, _, _, _, _, _, _, _, _, _, _, _, _, _, _, _, _, _, _, _, _, _, _, _, _, _, _, _, _, _, _, _, _, _, _, _], rfl, ?_⟩
  refine wp_seq ?_
  refine wp_region rfl rfl ?_
  refine wo_mpv rfl rfl rfl rfl rfl ?_
  refine wo_bin (v := .pv (.int .u64 (((q + p / 4294967296) % 4294967296 : Nat) : Int))) rfl rfl rfl rfl (andN 32 _ (by decide) (by decide) (by omega)) ?_
  refine wo_apv rfl rfl rfl rfl rfl ?_
  refine wo_nil ?_
  refine ⟨[_, _, _, _, _, _, _, _, _, _, _, _, _, _, _, _, _, _, _, _, _, _, _, _, _, _, _, _, _, _, _, _, _, _, _, _, _, _, _, _, _, _, _, _, _, _, _, _, _, _, _], rfl, ?_⟩
  refine wp_seq ?_
  refine wp_region rfl rfl ?_
  refine wo_mpv rfl rfl rfl rfl rfl ?_
  refine wo_bin (v := .pv (.int .u64 (((q + p / 4294967296) / 4294967296 : Nat) : Int))) rfl rfl rfl rfl (shrN 32 4294967296 (by decide) (by decide) _) ?_
  refine wo_apv rfl rfl rfl rfl rfl ?_
  refine wo_nil ?_
  refine ⟨[_, _, _, _, _, _, _, _, _, _, _, _, _, _, _, _, _, _, _, _, _, _, _, _, _, _, _, _, _, _, _, _, _, _, _, _, _, _, _, _, _, _, _, _, _, _, _, _, _, _, _], rfl, ?_⟩
  refine wp_seq ?_
  refine wp_region rfl rfl ?_
  refine wo_mpv rfl rfl rfl rfl rfl ?_
  refine wo_mpv rfl rfl rfl rfl rfl ?_
  refine wo_mpv rfl rfl rfl rfl rfl ?_
  refine wo_bin (v := .pv (.int .u64 ((r : Nat) : Int))) rfl rfl rfl rfl ((mulN (by rw [h.xr]; omega)).trans (by rw [h.xr])) ?_
  refine wo_bin (v := .pv (.int .u64 ((((q + p / 4294967296) % 4294967296 + r) : Nat) : Int))) rfl rfl rfl rfl (addN (by omega)) ?_
  refine wo_apv rfl rfl rfl rfl rfl ?_
  refine wo_nil ?_
  refine ⟨[_, _, _, _, _, _, _, _, _, _, _, _, _, _, _, _, _, _, _, _, _, _, _, _, _, _, _, _, _, _, _, _, _, _, _, _, _, _, _, _, _, _, _, _, _, _, _, _, _, _, _], rfl, ?_⟩
  refine wp_seq ?_
  refine wp_region rfl rfl ?_
  refine wo_mpv rfl rfl rfl rfl rfl ?_
  refine wo_mpv rfl rfl rfl rfl rfl ?_
  refine wo_bin (v := .pv (.int .u64 ((s : Nat) : Int))) rfl rfl rfl rfl ((mulN (by rw [h.xs]; omega)).trans (by rw [h.xs])) ?_
  refine wo_mpv rfl rfl rfl rfl rfl ?_
  refine wo_bin (v := .pv (.int .u64 ((s + (q + p / 4294967296) / 4294967296 : Nat) : Int))) rfl rfl rfl rfl (addN (by omega)) ?_
  refine wo_mpv rfl rfl rfl rfl rfl ?_
  refine wo_bin (v := .pv (.int .u64 ((((q + p / 4294967296) % 4294967296 + r) / 4294967296 : Nat) : Int))) rfl rfl rfl rfl (shrN 32 4294967296 (by decide) (by decide) _) ?_
  refine wo_bin (v := .pv (.int .u64 ((a * b / 18446744073709551616 : Nat) : Int))) rfl rfl rfl rfl ((addN (by omega)).trans (by rw [hHi])) ?_
  refine wo_apv rfl rfl rfl rfl rfl ?_
  refine wo_nil ?_
  refine ⟨[_, _, _, _, _, _, _, _, _, _, _, _, _, _, _, _, _, _, _, _, _, _, _, _, _, _, _, _, _, _, _, _, _, _, _, _, _, _, _, _, _, _, _, _, _, _, _, _, _, _, _], rfl, ?_⟩
  refine wp_seq ?_
  refine wp_region rfl rfl ?_
  refine wo_mpv rfl rfl rfl rfl rfl ?_
  refine wo_mpv rfl rfl rfl rfl rfl ?_
  refine wo_bin (v := .pv (.int .u64 ((a * b % 18446744073709551616 : Nat) : Int))) rfl rfl rfl rfl (wmulN) ?_
  refine wo_apv rfl rfl rfl rfl rfl ?_
  refine wo_nil ?_
  refine ⟨[_, _, _, _, _, _, _, _, _, _, _, _, _, _, _, _, _, _, _, _, _, _, _, _, _, _, _, _, _, _, _, _, _, _, _, _, _, _, _, _, _, _, _, _, _, _, _, _, _, _, _], rfl, ?_⟩
  refine wp_ret ?_
  exact ⟨trivial, _, rfl, rfl⟩
theorem wide_ok {a b : Nat} (ha : a < 2 ^ 64) (hb : b < 2 ^ 64) (N : Nat) (hN : 1 ≤ N) : call G N 53 [.pv (.int .u64 a), .pv (.int .u64 b)] [] = some (.ret (.tup [.pv (.int .u64 ((a * b / 18446744073709551616 : Nat) : Int)), .pv (.int .u64 ((a * b % 18446744073709551616 : Nat) : Int))]), []) := by
  obtain ⟨N, rfl⟩ : ∃ M, N = M + 1 := ⟨N - 1, by omega⟩
  obtain ⟨p, q, r, s, h⟩ := halves ha hb
  have hE := h.e
  have hp := h.p1
  have hq := h.q1
  have hr := h.r1
  have hs := h.s1
  have hb64 : a * b < 2 ^ 64 * 2 ^ 64 := Nat.mul_lt_mul'' ha hb
  have hHi : s + (q + p / 4294967296) / 4294967296 + (r + (q + p / 4294967296) % 4294967296) / 4294967296 = a * b / 18446744073709551616 := by omega
  have hLo : (r + (q + p / 4294967296) % 4294967296) % 4294967296 * 4294967296 + p % 4294967296 = a * b % 18446744073709551616 := by omega
  refine call_eq func53 rfl (show _ = [_, _, _, _, _, _, _, _, _, _, _, _, _, _, _, _, _, _, _, _, _, _, _, _, _, _, _, _, _, _, _, _, _, _, _, _, _, _, _, _, _, _, _, _, _, _, _, _, _, _, _, _, _, _, _, _, _, _, _, _, _, _, _, _, _] from rfl) ?_
  refine wp_seq ?_
  refine wp_region rfl rfl ?_
  refine wo_apv rfl rfl rfl rfl rfl ?_
  refine wo_apv rfl rfl rfl rfl rfl ?_
  refine wo_nil ?_
  refine ⟨[_, _, _, _, _, _, _, _, _, _, _, _, _, _, _, _, _, _, _, _, _, _, _, _, _, _, _, _, _, _, _, _, _, _, _, _, _, _, _, _, _, _, _, _, _, _, _, _, _, _, _, _, _, _, _, _, _, _, _, _, _, _, _, _, _], rfl, ?_⟩
  refine wp_seq ?_
  refine wp_region rfl rfl ?_
  refine wo_apv rfl rfl rfl rfl rfl ?_
  refine wo_nil ?_
  refine ⟨[_, _, _, _, _, _, _, _, _, _, _, _, _, _, _, _, _, _, _, _, _, _, _, _, _, _, _, _, _, _, _, _, _, _, _, _, _, _, _, _, _, _, _, _, _, _, _, _, _, _, _, _, _, _, _, _, _, _, _, _, _, _, _, _, _], rfl, ?_⟩
  refine wp_seq ?_
  refine wp_region rfl rfl ?_
  refine wo_mpv rfl rfl rfl rfl rfl ?_
  refine wo_mpv rfl rfl rfl rfl rfl ?_
  refine wo_bin (v := .pv (.int .u64 ((a / 4294967296 : Nat) : Int))) rfl rfl rfl rfl (quoN (b := 4294967296) (by omega)) ?_
  refine wo_apv rfl rfl rfl rfl rfl ?_
  refine wo_nil ?_
  refine ⟨[_, _, _, _, _, _, _, _, _, _, _, _, _, _, _, _, _, _, _, _, _, _, _, _, _, _, _, _, _, _, _, _, _, _, _, _, _, _, _, _, _, _, _, _, _, _, _, _, _, _, _, _, _, _, _, _, _, _, _, _, _, _, _, _, _], rfl, ?_⟩
  refine wp_seq ?_
  refine wp_region rfl rfl ?_
  refine wo_mpv rfl rfl rfl rfl rfl ?_
  refine wo_mpv rfl rfl rfl rfl rfl ?_
  refine wo_bin (v := .pv (.int .u64 ((a % 4294967296 : Nat) : Int))) rfl rfl rfl rfl (rfl) ?_
  refine wo_apv rfl rfl rfl rfl rfl ?_
  refine wo_nil ?_
  refine ⟨[_, _, _, _, _, _, _, _, _, _, _, _, _, _, _, _, _, _, _, _, _, _, _, _, _, _, _, _, _, _, _, _, _, _, _, _, _, _, _, _, _, _, _, _, _, _, _, _, _, _, _, _, _, _, _, _, _, _, _, _, _, _, _, _, _], rfl, ?_⟩
  refine wp_seq ?_
  refine wp_region rfl rfl ?_
  refine wo_mpv rfl rfl rfl rfl rfl ?_
  refine wo_mpv rfl rfl rfl rfl rfl ?_
  refine wo_bin (v := .pv (.int .u64 ((b / 4294967296 : Nat) : Int))) rfl rfl rfl rfl (quoN (b := 4294967296) (by omega)) ?_
  refine wo_apv rfl rfl rfl rfl rfl ?_
  refine wo_nil ?_
  refine ⟨[_, _, _, _, _, _, _, _, _, _, _, _, _, _, _, _, _, _, _, _, _, _, _, _, _, _, _, _, _, _, _, _, _, _, _, _, _, _, _, _, _, _, _, _, _, _, _, _, _, _, _, _, _, _, _, _, _, _, _, _, _, _, _, _, _], rfl, ?_⟩
  refine wp_seq ?_
  refine wp_region rfl rfl ?_
  refine wo_mpv rfl rfl rfl rfl rfl ?_
  refine wo_mpv rfl rfl rfl rfl rfl ?_
  refine wo_bin (v := .pv (.int .u64 ((b % 4294967296 : Nat) : Int))) rfl rfl rfl rfl (rfl) ?_
  refine wo_apv rfl rfl rfl rfl rfl ?_
  refine wo_nil ?_
  refine ⟨[_, _, _, _, _, _, _, _, _, _, _, _, _, _, _, _, _, _, _, _, _, _, _, _, _, _, _, _, _, _, _, _, _, _, _, _, _, _, _, _, _, _, _, _, _, _, _, _, _, _, _, _, _, _, _, _, _, _, _, _, _, _, _, _, _], rfl, ?_⟩
  refine wp_seq ?_
  refine wp_region rfl rfl ?_
  refine wo_mpv rfl rfl rfl rfl rfl ?_
  refine wo_mpv rfl rfl rfl rfl rfl ?_
  refine wo_bin (v := .pv (.int .u64 ((p : Nat) : Int))) rfl rfl rfl rfl ((mulN (by rw [h.xp]; omega)).trans (by rw [h.xp])) ?_
  refine wo_apv rfl rfl rfl rfl rfl ?_
  refine wo_nil ?_
  refine ⟨[_, _, _, _, _, _, _, _, _, _, _, _, _, _, _, _, _, _, _, _, _, _, _, _, _, _, _, _, _, _, _, _, _, _, _, _, _, _, _, _, _, _, _, _, _, _, _, _, _, _, _, _, _, _, _, _, _, _, _, _, _, _, _, _, _], rfl, ?_⟩
  refine wp_seq ?_
  refine wp_region rfl rfl ?_
  refine wo_mpv rfl rfl rfl rfl rfl ?_
  refine wo_mpv rfl rfl rfl rfl rfl ?_
  refine wo_bin (v := .pv (.int .u64 ((q : Nat) : Int))) rfl rfl rfl rfl ((mulN (by rw [h.xq]; omega)).trans (by rw [h.xq])) ?_
  refine wo_mpv rfl rfl rfl rfl rfl ?_
  refine wo_mpv rfl rfl rfl rfl rfl ?_
  refine wo_bin (v := .pv (.int .u64 ((p / 4294967296 : Nat) : Int))) rfl rfl rfl rfl (quoN (b := 4294967296) (by omega)) ?_
  refine wo_bin (v := .pv (.int .u64 (((q + p / 4294967296) : Nat) : Int))) rfl rfl rfl rfl (addN (by omega)) ?_
  refine wo_apv rfl rfl rfl rfl rfl ?_
  refine wo_nil ?_
  refine ⟨[_, _, _, _, _, _, _, _, _, _, _, _, _, _, _, _, _, _, _, _, _, _, _, _, _, _, _, _, _, _, _, _, _, _, _, _, _, _, _, _, _, _, _, _, _, _, _, _, _, _, _, _, _, _, _, _, _, _, _, _, _, _, _, _, _], rfl, ?_⟩
  refine wp_seq ?_
  refine wp_region rfl rfl ?_
  refine wo_mpv rfl rfl rfl rfl rfl ?_
  refine wo_mpv rfl rfl rfl rfl rfl ?_
  refine wo_bin (v := .pv (.int .u64 ((r : Nat) : Int))) rfl rfl rfl rfl ((mulN (by rw [h.xr]; omega)).trans (by rw [h.xr])) ?_
  refine wo_mpv rfl rfl rfl rfl rfl ?_
  refine wo_mpv rfl rfl rfl rfl rfl ?_
  refine wo_bin (v := .pv (.int .u64 (((q + p / 4294967296) % 4294967296 : Nat) : Int))) rfl rfl rfl rfl (rfl) ?_
  refine wo_bin (v := .pv (.int .u64 (((r + (q + p / 4294967296) % 4294967296) : Nat) : Int))) rfl rfl rfl rfl (addN (by omega)) ?_
  refine wo_apv rfl rfl rfl rfl rfl ?_
  refine wo_nil ?_
  refine ⟨[_, _, _, _, _, _, _, _, _, _, _, _, _, _, _, _, _, _, _, _, _, _, _, _, _, _, _, _, _, _, _, _, _, _, _, _, _, _, _, _, _, _, _, _, _, _, _, _, _, _, _, _, _, _, _, _, _, _, _, _, _, _, _, _, _], rfl, ?_⟩
  refine wp_seq ?_
  refine wp_drawn rfl rfl (by kernel_rfl) ?_
  refine wo_mpv rfl rfl rfl rfl rfl ?_
  refine wo_mpv rfl rfl rfl rfl rfl ?_
  refine wo_bin (v := .pv (.int .u64 ((s : Nat) : Int))) rfl rfl rfl rfl ((mulN (by rw [h.xs]; omega)).trans (by rw [h.xs])) ?_
  refine wo_mpv rfl rfl rfl rfl rfl ?_
  refine wo_mpv rfl rfl rfl rfl rfl ?_
  refine wo_bin (v := .pv (.int .u64 (((q + p / 4294967296) / 4294967296 : Nat) : Int))) rfl rfl rfl rfl (quoN (b := 4294967296) (by omega)) ?_
  refine wo_bin (v := .pv (.int .u64 ((s + (q + p / 4294967296) / 4294967296 : Nat) : Int))) rfl rfl rfl rfl (addN (by omega)) ?_
  refine wo_mpv rfl rfl rfl rfl rfl ?_
  refine wo_mpv rfl rfl rfl rfl rfl ?_
  refine wo_bin (v := .pv (.int .u64 (((r + (q + p / 4294967296) % 4294967296) / 4294967296 : Nat) : Int))) rfl rfl rfl rfl (quoN (b := 4294967296) (by omega)) ?_
  refine wo_bin (v := .pv (.int .u64 ((a * b / 18446744073709551616 : Nat) : Int))) rfl rfl rfl rfl ((addN (by omega)).trans (by rw [hHi])) ?_
  refine wo_norm [_, _, _, _, _, _, _, _, _, _, _, _, _, _, _, _, _, _, _, _, _, _, _, _, _, _, _, _, _, _, _, _, _, _, _, _, _, _, _, _, _, _, _, _, _, _, _, _, _, _, _, _, _, _, _, _, _, _, _, _, _, _, _, _, _] rfl ?_
  refine wo_apv rfl rfl rfl rfl rfl ?_
  refine wo_nil ?_
  refine ⟨by kernel_rfl, ?_⟩
  refine ⟨[_, _, _, _, _, _, _, _, _, _, _, _, _, _, _, _, _, _, _, _, _, _, _, _, _, _, _, _, _, _, _, _, _, _, _, _, _, _, _, _, _, _, _, _, _, _, _, _, _, _, _, _, _, _, _, _, _, _, _, _, _, _, _, _, _], rfl, ?_⟩
  refine wp_seq ?_
  refine wp_drawn rfl rfl (by kernel_rfl) ?_
  refine wo_mpv rfl rfl rfl rfl rfl ?_
  refine wo_mpv rfl rfl rfl rfl rfl ?_
  refine wo_mpv rfl rfl rfl rfl rfl ?_
  refine wo_bin (v := .pv (.int .u64 (((r + (q + p / 4294967296) % 4294967296) % 4294967296 : Nat) : Int))) rfl rfl rfl rfl (rfl) ?_
  refine wo_mpv rfl rfl rfl rfl rfl ?_
  refine wo_bin (v := .pv (.int .u64 (((r + (q + p / 4294967296) % 4294967296) % 4294967296 * 4294967296 : Nat) : Int))) rfl rfl rfl rfl (mulN (b := 4294967296) (by omega)) ?_
  refine wo_mpv rfl rfl rfl rfl rfl ?_
  refine wo_mpv rfl rfl rfl rfl rfl ?_
  refine wo_bin (v := .pv (.int .u64 ((p % 4294967296 : Nat) : Int))) rfl rfl rfl rfl (rfl) ?_
  refine wo_bin (v := .pv (.int .u64 ((a * b % 18446744073709551616 : Nat) : Int))) rfl rfl rfl rfl ((addN (by omega)).trans (by rw [hLo])) ?_
  refine wo_apv rfl rfl rfl rfl rfl ?_
  refine wo_norm [_, _, _, _, _, _, _, _, _, _, _, _, _, _, _, _, _, _, _, _, _, _, _, _, _, _, _, _, _, _, _, _, _, _, _, _, _, _, _, _, _, _, _, _, _, _, _, _, _, _, _, _, _, _, _, _, _, _, _, _, _, _, _, _, _] rfl ?_
  refine wo_apv rfl rfl rfl rfl rfl ?_
  refine wo_nil ?_
  refine ⟨by kernel_rfl, ?_⟩
  refine ⟨[_, _, _, _, _, _, _, _, _, _, _, _, _, _, _, _, _, _, _, _, _, _, _, _, _, _, _, _, _, _, _, _, _, _, _, _, _, _, _, _, _, _, _, _, _, _, _, _, _, _, _, _, _, _, _, _, _, _, _, _, _, _, _, _, _], rfl, ?_⟩
  refine wp_ret ?_
  exact ⟨trivial, _, rfl, rfl⟩
theorem mul_ok {a b : Nat} (ha : a < 2 ^ 64) (hb : b < 2 ^ 64) (N : Nat) (hN : 2 ≤ N) : call G N 33 [.pv (.int .u64 a), .pv (.int .u64 b)] [] = some (.ret (.pv (.int .u64 (capN (a * b) : Nat))), []) := by
  obtain ⟨N, rfl⟩ : ∃ M, N = M + 1 := ⟨N - 1, by omega⟩
  have hc := capped_ok (a * b % 18446744073709551616) (a * b / 18446744073709551616) N (by omega)
  rw [show (if a * b / 18446744073709551616 = 0 then a * b % 18446744073709551616 else 18446744073709551615) = capN (a * b) by unfold capN; generalize a * b = x; split <;> omega] at hc
  refine call_eq func33 rfl (show _ = [_, _, _, _, _, _, _, _, _, _, _, _, _, _, _, _] from rfl) ?_
  refine wp_seq ?_
  refine wp_region rfl rfl ?_
  refine wo_apv rfl rfl rfl rfl rfl ?_
  refine wo_nil ?_
  refine ⟨[_, _, _, _, _, _, _, _, _, _, _, _, _, _, _, _], rfl, ?_⟩
  refine wp_seq ?_
  refine wp_region rfl rfl ?_
  refine wo_mpv rfl rfl rfl rfl rfl ?_
  refine wo_mpv rfl rfl rfl rfl rfl ?_
  refine wo_call (v := .tup [.pv (.int .u64 ((a * b / 18446744073709551616 : Nat) : Int)), .pv (.int .u64 ((a * b % 18446744073709551616 : Nat) : Int))]) (H' := []) rfl rfl rfl rfl rfl rfl ((cl52 _ _ _ _).trans (callPure_any rfl (fun _ => rfl) rfl (mul64_ok ha hb _ (by omega)))) rfl rfl rfl ?_
  refine wo_move (v := .tup _) rfl rfl rfl rfl rfl (fun h => AV.noConfusion h) ?_
  refine wo_extract (v := .pv _) rfl rfl rfl rfl rfl rfl ?_
  refine wo_extract (v := .pv _) rfl rfl rfl rfl rfl rfl ?_
  refine wo_apv rfl rfl rfl rfl rfl ?_
  refine wo_apv rfl rfl rfl rfl rfl ?_
  refine wo_nil ?_
  refine ⟨[_, _, _, _, _, _, _, _, _, _, _, _, _, _, _, _], rfl, ?_⟩
  refine wp_seq ?_
  refine wp_region rfl rfl ?_
  refine wo_mpv rfl rfl rfl rfl rfl ?_
  refine wo_mpv rfl rfl rfl rfl rfl ?_
  refine wo_call (v := .pv (.int .u64 ((capN (a * b) : Nat) : Int))) (H' := []) rfl rfl rfl rfl rfl rfl ((cl43 _ _ _ _).trans (callPure_pv rfl (fun _ => rfl) (hc))) rfl rfl rfl ?_
  refine wo_apv rfl rfl rfl rfl rfl ?_
  refine wo_nil ?_
  refine ⟨[_, _, _, _, _, _, _, _, _, _, _, _, _, _, _, _], rfl, ?_⟩
  refine wp_ret ?_
  exact ⟨trivial, _, rfl, leave_pure⟩
theorem rmul_ok {a b : Nat} (ha : a < 2 ^ 64) (hb : b < 2 ^ 64) (N : Nat) (hN : 2 ≤ N) : call G N 35 [.pv (.int .u64 a), .pv (.int .u64 b)] [] = some (.ret (.pv (.int .u64 (capN (a * b) : Nat))), []) := by
  obtain ⟨N, rfl⟩ : ∃ M, N = M + 1 := ⟨N - 1, by omega⟩
  refine call_eq func35 rfl (show _ = [_, _, _, _, _, _, _, _, _, _, _, _, _, _, _, _] from rfl) ?_
  refine wp_seq ?_
  refine wp_region rfl rfl ?_
  refine wo_apv rfl rfl rfl rfl rfl ?_
  refine wo_nil ?_
  refine ⟨[_, _, _, _, _, _, _, _, _, _, _, _, _, _, _, _], rfl, ?_⟩
  refine wp_seq ?_
  refine wp_region rfl rfl ?_
  refine wo_mpv rfl rfl rfl rfl rfl ?_
  refine wo_mpv rfl rfl rfl rfl rfl ?_
  refine wo_call (v := .tup [.pv (.int .u64 ((a * b / 18446744073709551616 : Nat) : Int)), .pv (.int .u64 ((a * b % 18446744073709551616 : Nat) : Int))]) (H' := []) rfl rfl rfl rfl rfl rfl ((cl53 _ _ _ _).trans (callPure_any rfl (fun _ => rfl) rfl (wide_ok ha hb _ (by omega)))) rfl rfl rfl ?_
  refine wo_move (v := .tup _) rfl rfl rfl rfl rfl (fun h => AV.noConfusion h) ?_
  refine wo_extract (v := .pv _) rfl rfl rfl rfl rfl rfl ?_
  refine wo_extract (v := .pv _) rfl rfl rfl rfl rfl rfl ?_
  refine wo_apv rfl rfl rfl rfl rfl ?_
  refine wo_apv rfl rfl rfl rfl rfl ?_
  refine wo_nil ?_
  refine ⟨[_, _, _, _, _, _, _, _, _, _, _, _, _, _, _, _], rfl, ?_⟩
  refine wp_seq ?_
  refine wp_seq ?_
  refine wp_region rfl rfl ?_
  refine wo_mpv rfl rfl rfl rfl rfl ?_
  refine wo_bsplit rfl rfl rfl rfl rfl (fun c2_1 => ?_) (fun c2_1 => ?_)
  ·
    refine wo_nil ?_
    refine ⟨[_, _, _, _, _, _, _, _, _, _, _, _, _, _, _, _], rfl, ?_⟩
    refine wp_true rfl ?_
    refine wp_seq ?_
    refine wp_region rfl rfl ?_
    refine wo_apv rfl rfl rfl rfl rfl ?_
    refine wo_nil ?_
    refine ⟨[_, _, _, _, _, _, _, _, _, _, _, _, _, _, _, _], rfl, ?_⟩
    refine wp_ret ?_
    generalize a * b = x at *
    first
      | (rw [show capN x = 18446744073709551615 by unfold capN; omega]; exact ⟨trivial, _, rfl, leave_pure⟩)
      | (rw [show capN x = x % 18446744073709551616 by unfold capN; omega]; exact ⟨trivial, _, rfl, leave_pure⟩)
  ·
    refine wo_nil ?_
    refine ⟨[_, _, _, _, _, _, _, _, _, _, _, _, _, _, _, _], rfl, ?_⟩
    refine wp_false rfl ?_
    refine wp_skip ?_
    refine wp_seq ?_
    refine wp_region rfl rfl ?_
    refine wo_mpv rfl rfl rfl rfl rfl ?_
    refine wo_apv rfl rfl rfl rfl rfl ?_
    refine wo_nil ?_
    refine ⟨[_, _, _, _, _, _, _, _, _, _, _, _, _, _, _, _], rfl, ?_⟩
    refine wp_ret ?_
    generalize a * b = x at *
    first
      | (rw [show capN x = 18446744073709551615 by unfold capN; omega]; exact ⟨trivial, _, rfl, leave_pure⟩)
      | (rw [show capN x = x % 18446744073709551616 by unfold capN; omega]; exact ⟨trivial, _, rfl, leave_pure⟩)

/-! Digits -/
def lenF : Nat → Nat → Nat
  | 0, _ => 0
  | k + 1, n => if n = 0 then 0 else lenF k (n / 2) + 1
theorem lenF_zero : ∀ k, lenF k 0 = 0
  | 0 => rfl
  | k + 1 => rfl
theorem lenF_le : ∀ k n, lenF k n ≤ k
  | 0, _ => Nat.le_refl _
  | k + 1, n => by
    simp only [lenF]
    split
    · omega
    · have := lenF_le k (n / 2); omega
theorem lenF_mono : ∀ k a b, a ≤ b → lenF k a ≤ lenF k b
  | 0, _, _, _ => Nat.le_refl _
  | k + 1, a, b, h => by
    simp only [lenF]
    split
    · omega
    · rw [if_neg (by omega)]
      have := lenF_mono k (a / 2) (b / 2) (Nat.div_le_div_right h)
      omega
theorem lenF_fuel : ∀ (k m n : Nat), n < 2 ^ k → lenF (k + m) n = lenF k n
  | 0, m, n, h => by
    have : n = 0 := by simpa using h
    subst this; rw [lenF_zero, lenF_zero]
  | k + 1, m, n, h => by
    rw [show k + 1 + m = (k + m) + 1 by omega]
    simp only [lenF]
    split
    · rfl
    · rw [lenF_fuel k m (n / 2) (by rw [Nat.pow_succ] at h; omega)]
theorem lenF_shift : ∀ (j k n : Nat), 2 ^ j ≤ n → lenF (k + j) n = lenF k (n / 2 ^ j) + j
  | 0, k, n, h => by simp
  | j + 1, k, n, h => by
    have hn : n ≠ 0 := by have := Nat.pow_pos (n := j + 1) (show 0 < 2 by decide); omega
    rw [show k + (j + 1) = (k + j) + 1 by omega]
    simp only [lenF, if_neg hn]
    have e := lenF_shift j k (n / 2) (by rw [Nat.pow_succ] at h; omega)
    rw [e, Nat.div_div_eq_div_mul, show 2 * 2 ^ j = 2 ^ (j + 1) by rw [Nat.pow_succ]; omega]; omega
theorem rlog_ok {n : Nat} (hn : n < 2 ^ 64) (N : Nat) (hN : 70 ≤ N) : call G N 37 [.pv (.int .u64 n)] [] = some (.ret (.pv (.int .u64 (lenF 64 n : Nat))), []) := by
  obtain ⟨N, rfl⟩ : ∃ M, N = M + 1 := ⟨N - 1, by omega⟩
  refine call_eq func37 rfl (show _ = [_, _, _, _, _, _, _, _, _, _, _] from rfl) ?_
  refine wp_seq ?_
  refine wp_region rfl rfl ?_
  refine wo_apv rfl rfl rfl rfl rfl ?_
  refine wo_nil ?_
  refine ⟨[_, _, _, _, _, _, _, _, _, _, _], rfl, ?_⟩
  refine wp_seq ?_
  refine wp_region rfl rfl ?_
  refine wo_apv rfl rfl rfl rfl rfl ?_
  refine wo_nil ?_
  refine ⟨[_, _, _, _, _, _, _, _, _, _, _], rfl, ?_⟩
  refine wp_seq ?_
  refine wp_block ?_
  refine wp_loop (fun k t H => ∃ m c : Nat, m < 2 ^ k ∧ k ≤ 64 ∧ c + k ≤ 64 ∧ c + lenF k m = lenF 64 n ∧ t = [.pv (.int .u64 (m : Nat)), .any, .any, .pv (.int .u64 (c : Nat)), .any, .any, .any, .any, .any, .any, .any] ∧ H = []) 64 ⟨n, 0, hn, by omega, by omega, by omega, rfl, rfl⟩ (by omega) ?_
  rintro k _ _ hk ⟨m, c, hm, hk6, hck, hM, rfl, rfl⟩
  refine wp_seq ?_
  refine wp_seq ?_
  refine wp_region rfl rfl ?_
  refine wo_mpv rfl rfl rfl rfl rfl ?_
  refine wo_bsplit rfl rfl rfl rfl rfl (fun c2_1 => ?_) (fun c2_1 => ?_)
  ·
    refine wo_nil ?_
    refine ⟨[_, _, _, _, _, _, _, _, _, _, _], rfl, ?_⟩
    refine wp_true rfl ?_
    refine wp_skip ?_
    refine wp_block ?_
    refine wp_seq ?_
    refine wp_region rfl rfl ?_
    refine wo_mpv rfl rfl rfl rfl rfl ?_
    have hm64 : m < 2 ^ 64 := Nat.lt_of_lt_of_le hm (Nat.pow_le_pow_right (by decide) hk6)
    refine wo_bin (v := .pv (.int .u64 ((m / 2 : Nat) : Int))) rfl rfl rfl rfl (quoN (b := 2) hm64) ?_
    refine wo_apv rfl rfl rfl rfl rfl ?_
    refine wo_nil ?_
    refine ⟨[_, _, _, _, _, _, _, _, _, _, _], rfl, ?_⟩
    refine wp_region rfl rfl ?_
    refine wo_mpv rfl rfl rfl rfl rfl ?_
    refine wo_bin (v := .pv (.int .u64 ((c + 1 : Nat) : Int))) rfl rfl rfl rfl (addN (b := 1) (by have := lenF_le 64 n; omega)) ?_
    refine wo_apv rfl rfl rfl rfl rfl ?_
    refine wo_nil ?_
    refine ⟨[_, _, _, _, _, _, _, _, _, _, _], rfl, ?_⟩
    obtain ⟨k, rfl⟩ : ∃ k', k = k' + 1 := ⟨k - 1, by rcases k with _ | k <;> simp at hm ⊢; omega⟩
    refine ⟨_, _, tidy_norm (t' := [_, _, _, _, _, _, _, _, _, _, _]) rfl rfl rfl, k, by omega, m / 2, c + 1, by rw [Nat.pow_succ] at hm; omega, by omega, by omega, ?_, rfl, rfl⟩
    rw [← hM]; simp only [lenF]; rw [if_neg (by omega)]; omega
  ·
    refine wo_nil ?_
    refine ⟨[_, _, _, _, _, _, _, _, _, _, _], rfl, ?_⟩
    refine wp_false rfl ?_
    refine wp_exit ?_
    refine wp_seq ?_
    refine wp_region rfl rfl ?_
    refine wo_mpv rfl rfl rfl rfl rfl ?_
    refine wo_apv rfl rfl rfl rfl rfl ?_
    refine wo_nil ?_
    refine ⟨[_, _, _, _, _, _, _, _, _, _, _], rfl, ?_⟩
    refine wp_ret ?_
    obtain rfl : m = 0 := by omega
    rw [lenF_zero, Nat.add_zero] at hM
    rw [← hM]
    exact ⟨trivial, _, rfl, leave_pure⟩
end Go.Ab.Ytnfgpejdbmakkaa
