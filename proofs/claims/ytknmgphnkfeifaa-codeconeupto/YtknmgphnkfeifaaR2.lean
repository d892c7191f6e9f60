import Derived.Test.YtknmgphnkfeifaaR1
import Derived.Test.YtknmgphnkfeifaaAbWP
namespace Go.Ab.Ytknmgphnkfeifaa
open Go Go.Ab
open Go.Proofs.Try
set_option maxRecDepth 100000
set_option linter.unusedSimpArgs false
set_option linter.unusedVariables false

theorem fail_ok (p : PV) (e e' : Int) (N : Nat) (hN : 1 ≤ N) : call G N 54 [.ptr 0 0, .pv (.int .i64 e')] [.box (bx p e) false] = some (.ret (.tup []), [.box (bx .nils e') false]) := by
  obtain ⟨N, rfl⟩ : ∃ M, N = M + 1 := ⟨N - 1, by omega⟩
  refine call_eq func54 rfl (show _ = [_, _, _, _, _, _, _, _, _, _, _] from rfl) ?_
  refine wp_region rfl rfl ?_
  refine wo_move (v := .ptr _ _) rfl rfl rfl rfl rfl (fun h => AV.noConfusion h) ?_
  refine wo_move (v := .ptr _ _) rfl rfl rfl rfl rfl (fun h => AV.noConfusion h) ?_
  refine wo_mpv rfl rfl rfl rfl rfl ?_
  refine wo_nilCheck (v := .ptr _ _) rfl rfl rfl rfl rfl rfl ?_
  refine wo_faddr t61 t35 rfl rfl rfl rfl rfl rfl rfl ?_
  refine wo_store (cs' := [_, _, _]) (H' := [_]) t35 rfl rfl rfl rfl rfl rfl rfl rfl rfl ?_
  refine wo_nilCheck (v := .ptr _ _) rfl rfl rfl rfl rfl rfl ?_
  refine wo_faddr t61 t28 rfl rfl rfl rfl rfl rfl rfl ?_
  refine wo_store (cs' := [_, _, _]) (H' := [_]) t28 rfl rfl rfl rfl rfl rfl rfl rfl rfl ?_
  refine wo_nil ?_
  refine ⟨[_, _, _, _, _, _, _, _, _, _, _], rfl, ?_⟩
  exact ⟨trivial, _, rfl, leave_same (.inl rfl) rfl⟩

/-- take, of a reader, where there are so many bytes. -/
theorem take_some {p : PV} {l : List Int} (e : Int) {n : Nat} (hp : SL p l) (hn : n ≤ l.length) (N : Nat) (hN : 2 ≤ N) : ∃ q r, SL q (l.take n) ∧ SL r (l.drop n) ∧ call G N 55 [.ptr 0 0, .pv (.int .i64 n)] [.box (bx p e) false] =
    some (.ret (.tup [.pv q, .pv (.bool true)]), [.box (bx r e) false]) := by
  obtain ⟨N, rfl⟩ : ∃ M, N = M + 1 := ⟨N - 1, by omega⟩
  obtain ⟨q, hq, hq'⟩ := hp.to hn
  obtain ⟨r, hr, hr'⟩ := hp.from hn
  refine ⟨q, r, hq', hr', ?_⟩
  refine call_eq func55 rfl (show _ = [_, _, _, _, _, _, _, _, _, _, _, _, _, _, _, _, _, _, _, _, _, _, _, _, _, _, _, _, _, _, _, _] from rfl) ?_
  refine wp_seq ?_
  refine wp_region rfl rfl ?_
  refine wo_apv rfl rfl rfl rfl rfl ?_
  refine wo_apv rfl rfl rfl rfl rfl ?_
  refine wo_nil ?_
  refine ⟨[_, _, _, _, _, _, _, _, _, _, _, _, _, _, _, _, _, _, _, _, _, _, _, _, _, _, _, _, _, _, _, _], rfl, ?_⟩
  refine wp_seq ?_
  refine wp_seq ?_
  refine wp_region rfl rfl ?_
  refine wo_mpv rfl rfl rfl rfl rfl ?_
  refine wo_move (v := .ptr _ _) rfl rfl rfl rfl rfl (fun h => AV.noConfusion h) ?_
  refine wo_nilCheck (v := .ptr _ _) rfl rfl rfl rfl rfl rfl ?_
  refine wo_faddr t61 t35 rfl rfl rfl rfl rfl rfl rfl ?_
  refine wo_load t35 rfl rfl rfl rfl rfl rfl ?_
  refine wo_len (ln := l.length) t35 rfl rfl rfl rfl rfl rfl rfl (hp.len 5) rfl ?_
  refine wo_bin (v := .pv (.bool false)) rfl rfl rfl rfl (bF (by omega)) ?_
  refine wo_nil ?_
  refine ⟨[_, _, _, _, _, _, _, _, _, _, _, _, _, _, _, _, _, _, _, _, _, _, _, _, _, _, _, _, _, _, _, _], rfl, ?_⟩
  refine wp_false rfl ?_
  refine wp_skip ?_
  refine wp_seq ?_
  refine wp_region rfl rfl ?_
  refine wo_move (v := .ptr _ _) rfl rfl rfl rfl rfl (fun h => AV.noConfusion h) ?_
  refine wo_nilCheck (v := .ptr _ _) rfl rfl rfl rfl rfl rfl ?_
  refine wo_faddr t61 t35 rfl rfl rfl rfl rfl rfl rfl ?_
  refine wo_load t35 rfl rfl rfl rfl rfl rfl ?_
  refine wo_mpv rfl rfl rfl rfl rfl ?_
  refine wo_slice (v := .pv q) t35 t5 rfl rfl rfl rfl hp.noStr (hq) ?_
  refine wo_apv rfl rfl rfl rfl rfl ?_
  refine wo_nil ?_
  refine ⟨[_, _, _, _, _, _, _, _, _, _, _, _, _, _, _, _, _, _, _, _, _, _, _, _, _, _, _, _, _, _, _, _], rfl, ?_⟩
  refine wp_seq ?_
  refine wp_region rfl rfl ?_
  refine wo_move (v := .ptr _ _) rfl rfl rfl rfl rfl (fun h => AV.noConfusion h) ?_
  refine wo_move (v := .ptr _ _) rfl rfl rfl rfl rfl (fun h => AV.noConfusion h) ?_
  refine wo_nilCheck (v := .ptr _ _) rfl rfl rfl rfl rfl rfl ?_
  refine wo_faddr t61 t35 rfl rfl rfl rfl rfl rfl rfl ?_
  refine wo_load t35 rfl rfl rfl rfl rfl rfl ?_
  refine wo_mpv rfl rfl rfl rfl rfl ?_
  refine wo_slice (v := .pv r) t35 t5 rfl rfl rfl rfl hp.noStr (hr) ?_
  refine wo_nilCheck (v := .ptr _ _) rfl rfl rfl rfl rfl rfl ?_
  refine wo_faddr t61 t35 rfl rfl rfl rfl rfl rfl rfl ?_
  refine wo_store (cs' := [_, _, _]) (H' := [_]) t35 rfl rfl rfl rfl rfl rfl rfl rfl rfl ?_
  refine wo_nil ?_
  refine ⟨[_, _, _, _, _, _, _, _, _, _, _, _, _, _, _, _, _, _, _, _, _, _, _, _, _, _, _, _, _, _, _, _], rfl, ?_⟩
  refine wp_seq ?_
  refine wp_region rfl rfl ?_
  refine wo_mpv rfl rfl rfl rfl rfl ?_
  refine wo_apv rfl rfl rfl rfl rfl ?_
  refine wo_apv rfl rfl rfl rfl rfl ?_
  refine wo_nil ?_
  refine ⟨[_, _, _, _, _, _, _, _, _, _, _, _, _, _, _, _, _, _, _, _, _, _, _, _, _, _, _, _, _, _, _, _], rfl, ?_⟩
  refine wp_ret ?_
  exact ⟨trivial, _, rfl, leave_same (.inl rfl) rfl⟩
theorem take_none {p : PV} {l : List Int} (e : Int) {n : Nat} (hp : SL p l) (hn : l.length < n) (N : Nat) (hN : 2 ≤ N) : call G N 55 [.ptr 0 0, .pv (.int .i64 n)] [.box (bx p e) false] =
    some (.ret (.tup [.pv .nils, .pv (.bool false)]), [.box (bx .nils 21) false]) := by
  obtain ⟨N, rfl⟩ : ∃ M, N = M + 1 := ⟨N - 1, by omega⟩
  refine call_eq func55 rfl (show _ = [_, _, _, _, _, _, _, _, _, _, _, _, _, _, _, _, _, _, _, _, _, _, _, _, _, _, _, _, _, _, _, _] from rfl) ?_
  refine wp_seq ?_
  refine wp_region rfl rfl ?_
  refine wo_apv rfl rfl rfl rfl rfl ?_
  refine wo_apv rfl rfl rfl rfl rfl ?_
  refine wo_nil ?_
  refine ⟨[_, _, _, _, _, _, _, _, _, _, _, _, _, _, _, _, _, _, _, _, _, _, _, _, _, _, _, _, _, _, _, _], rfl, ?_⟩
  refine wp_seq ?_
  refine wp_seq ?_
  refine wp_region rfl rfl ?_
  refine wo_mpv rfl rfl rfl rfl rfl ?_
  refine wo_move (v := .ptr _ _) rfl rfl rfl rfl rfl (fun h => AV.noConfusion h) ?_
  refine wo_nilCheck (v := .ptr _ _) rfl rfl rfl rfl rfl rfl ?_
  refine wo_faddr t61 t35 rfl rfl rfl rfl rfl rfl rfl ?_
  refine wo_load t35 rfl rfl rfl rfl rfl rfl ?_
  refine wo_len (ln := l.length) t35 rfl rfl rfl rfl rfl rfl rfl (hp.len 5) rfl ?_
  refine wo_bin (v := .pv (.bool true)) rfl rfl rfl rfl (bT (by omega)) ?_
  refine wo_nil ?_
  refine ⟨[_, _, _, _, _, _, _, _, _, _, _, _, _, _, _, _, _, _, _, _, _, _, _, _, _, _, _, _, _, _, _, _], rfl, ?_⟩
  refine wp_true rfl ?_
  refine wp_seq ?_
  refine wp_region rfl rfl ?_
  refine wo_move (v := .ptr _ _) rfl rfl rfl rfl rfl (fun h => AV.noConfusion h) ?_
  refine wo_call (v := _) (H' := [_]) rfl rfl rfl rfl rfl rfl ((cl54 _ _ _ _).trans (callRef_box rfl rfl rfl rfl rfl (fail_ok _ _ _ _ (by omega)))) rfl rfl rfl ?_
  refine wo_nil ?_
  refine ⟨[_, _, _, _, _, _, _, _, _, _, _, _, _, _, _, _, _, _, _, _, _, _, _, _, _, _, _, _, _, _, _, _], rfl, ?_⟩
  refine wp_seq ?_
  refine wp_region rfl rfl ?_
  refine wo_apv rfl rfl rfl rfl rfl ?_
  refine wo_apv rfl rfl rfl rfl rfl ?_
  refine wo_nil ?_
  refine ⟨[_, _, _, _, _, _, _, _, _, _, _, _, _, _, _, _, _, _, _, _, _, _, _, _, _, _, _, _, _, _, _, _], rfl, ?_⟩
  refine wp_ret ?_
  exact ⟨trivial, _, rfl, leave_same (.inl rfl) rfl⟩

/-- A number's bytes, read. -/
def rdU : Nat → Nat → Nat → List Int → Option (Nat × List Int)
  | 0, _, _, _ => none
  | _ + 1, _, _, [] => none
  | k + 1, i, acc, c :: l => if (i = 9 ∧ c > 1) ∨ (i > 0 ∧ c = 0) then none else if c < 128 then some (acc + (c % 128).toNat * 2 ^ (7 * i), l) else rdU k (i + 1) (acc + (c % 128).toNat * 2 ^ (7 * i)) l
theorem rdU_zero {i acc : Nat} {l : List Int} : rdU 0 i acc l = none := by rw [rdU]
theorem rdU_nil {k i acc : Nat} : rdU (k + 1) i acc [] = none := by rw [rdU]
theorem rdU_bad {k i acc : Nat} {c : Int} {l : List Int} (h : (i = 9 ∧ c > 1) ∨ (i > 0 ∧ c = 0)) : rdU (k + 1) i acc (c :: l) = none := by rw [rdU, if_pos h]
theorem rdU_last {k i acc : Nat} {c : Int} {l : List Int} (h : ¬ ((i = 9 ∧ c > 1) ∨ (i > 0 ∧ c = 0))) (hc : c < 128) : rdU (k + 1) i acc (c :: l) = some (acc + (c % 128).toNat * 2 ^ (7 * i), l) := by rw [rdU, if_neg h, if_pos hc]
theorem rdU_next {k i acc : Nat} {c : Int} {l : List Int} (h : ¬ ((i = 9 ∧ c > 1) ∨ (i > 0 ∧ c = 0))) (hc : ¬ c < 128) : rdU (k + 1) i acc (c :: l) = rdU k (i + 1) (acc + (c % 128).toNat * 2 ^ (7 * i)) l := by rw [rdU, if_neg h, if_neg hc]

theorem and127 {c : Int} (h0 : 0 ≤ c) (h1 : c < 256) : IntKind.u8.wrap ((BitVec.ofInt IntKind.u8.bits c &&& BitVec.ofInt IntKind.u8.bits 127).toNat : Int) = c % 128 := by
  have h : ∀ x : BitVec 8, (x &&& 127#8).toNat = x.toNat % 128 := by decide
  have e : (BitVec.ofInt IntKind.u8.bits c &&& BitVec.ofInt IntKind.u8.bits 127).toNat = (BitVec.ofInt 8 c).toNat % 128 := h _
  rw [e, BitVec.toNat_ofInt]
  simp [IntKind.wrap, IntKind.signed, IntKind.bits]
  omega
theorem shl7 {c : Nat} {i : Nat} (hc : c < 128) (hi : i ≤ 9) (h9 : i = 9 → c ≤ 1) : shiftBin .shl .u64 (c : Int) (7 * i) = some (.pv (.int .u64 ((c * 2 ^ (7 * i) : Nat) : Int))) := by
  unfold shiftBin
  rw [if_neg (by omega)]
  have e2 : min (7 * (i : Int)).toNat IntKind.u64.bits = 7 * i := by simp [IntKind.bits]; omega
  simp only [e2]
  have hb : c * 2 ^ (7 * i) < 2 ^ 64 := by
    rcases Nat.lt_or_ge i 9 with h | h
    · have : 2 ^ (7 * i) ≤ 2 ^ 56 := Nat.pow_le_pow_right (by omega) (by omega)
      have : c * 2 ^ (7 * i) ≤ 127 * 2 ^ 56 := Nat.mul_le_mul (by omega) this
      omega
    · have h9' : i = 9 := by omega
      subst h9'
      have := h9 rfl
      omega
  have e3 : ((c : Int) * 2 ^ (7 * i)) = ((c * 2 ^ (7 * i) : Nat) : Int) := by simp
  rw [e3, wrapU64 (by omega) (by omega)]
theorem orU {a b s : Nat} (ha : a < 2 ^ s) (hb : a + b * 2 ^ s < 2 ^ 64) : IntKind.u64.wrap ((BitVec.ofInt IntKind.u64.bits (a : Int) ||| BitVec.ofInt IntKind.u64.bits ((b * 2 ^ s : Nat) : Int)).toNat : Int) = ((a + b * 2 ^ s : Nat) : Int) := by
  have e1 : (BitVec.ofInt IntKind.u64.bits (a : Int)).toNat = a := by simp [IntKind.bits]; omega
  have e2 : (BitVec.ofInt IntKind.u64.bits ((b * 2 ^ s : Nat) : Int)).toNat = b * 2 ^ s := by
    rw [BitVec.toNat_ofInt]; simp only [IntKind.bits]; omega
  rw [BitVec.toNat_or, e1, e2, Nat.or_comm, Nat.mul_comm b, ← Nat.two_pow_add_eq_or_of_lt ha, Nat.add_comm]
  rw [Nat.mul_comm b] at hb
  exact wrapU64 (by omega) (by omega)

theorem acc_lt2 {acc i : Nat} {c : Int} (ha : acc < 2 ^ (7 * i)) (hc : 0 ≤ c ∧ c < 256) (hi : i ≤ 9) (h9 : i = 9 → c ≤ 1) : acc + (c % 128).toNat * 2 ^ (7 * i) < 2 ^ 64 := by
  rcases Nat.lt_or_ge i 9 with h | h
  · have h1 : 2 ^ (7 * i) ≤ 2 ^ 56 := Nat.pow_le_pow_right (by omega) (by omega)
    have h2 : (c % 128).toNat * 2 ^ (7 * i) ≤ 127 * 2 ^ 56 := Nat.mul_le_mul (by omega) h1
    omega
  · have h9' : i = 9 := by omega
    subst h9'
    have := h9 rfl
    have : (c % 128).toNat ≤ 1 := by omega
    have : (c % 128).toNat * 2 ^ (7 * 9) ≤ 1 * 2 ^ 63 := Nat.mul_le_mul this (by omega)
    omega
theorem acc_lt {acc i : Nat} {c : Int} (ha : acc < 2 ^ (7 * i)) (hc : 0 ≤ c ∧ c < 256) : acc + (c % 128).toNat * 2 ^ (7 * i) < 2 ^ (7 * (i + 1)) := by
  have h2 : (c % 128).toNat * 2 ^ (7 * i) ≤ 127 * 2 ^ (7 * i) := Nat.mul_le_mul (by omega) (Nat.le_refl _)
  have : 2 ^ (7 * (i + 1)) = 128 * 2 ^ (7 * i) := by rw [show 7 * (i + 1) = 7 * i + 7 by omega, Nat.pow_add]; omega
  omega

/-- What reading a number tells. -/
def NumOut (x : Option (Nat × List Int)) (e : Int) (v : AV) (H : List Blk) : Prop :=
  match x with
  | some (n, rest) => ∃ r, SL r rest ∧ v = .tup [.pv (.int .u64 n), .pv (.bool true)] ∧ H = [.box (bx r e) false]
  | none => ∃ e', e' ≠ 0 ∧ v = .tup [.pv (.int .u64 0), .pv (.bool false)] ∧ H = [.box (bx .nils e') false]

def Bytes (l : List Int) : Prop := ∀ x ∈ l, 0 ≤ x ∧ x < 256

theorem number_ok {p0 : PV} {l0 : List Int} (e : Int) (hp0 : SL p0 l0) (hl0 : Bytes l0) (N : Nat) (hN : 20 ≤ N) : ∃ v H', call G N 53 [.ptr 0 0] [.box (bx p0 e) false] = some (.ret v, H') ∧ NumOut (rdU 10 0 0 l0) e v H' := by
  obtain ⟨N, rfl⟩ : ∃ M, N = M + 1 := ⟨N - 1, by omega⟩
  refine call_wp func53 rfl (show _ = [_, _, _, _, _, _, _, _, _, _, _, _, _, _, _, _, _, _, _, _, _, _, _, _, _, _, _, _, _, _, _, _, _, _, _, _, _, _, _, _, _, _, _, _, _, _, _, _, _, _, _, _] from rfl) ?_
  refine wp_seq ?_
  refine wp_region rfl rfl ?_
  refine wo_apv rfl rfl rfl rfl rfl ?_
  refine wo_apv rfl rfl rfl rfl rfl ?_
  refine wo_nil ?_
  refine ⟨[_, _, _, _, _, _, _, _, _, _, _, _, _, _, _, _, _, _, _, _, _, _, _, _, _, _, _, _, _, _, _, _, _, _, _, _, _, _, _, _, _, _, _, _, _, _, _, _, _, _, _, _], rfl, ?_⟩
  refine wp_scope ?_
  refine wp_seq ?_
  refine wp_region rfl rfl ?_
  refine wo_apv rfl rfl rfl rfl rfl ?_
  refine wo_nil ?_
  refine ⟨[_, _, _, _, _, _, _, _, _, _, _, _, _, _, _, _, _, _, _, _, _, _, _, _, _, _, _, _, _, _, _, _, _, _, _, _, _, _, _, _, _, _, _, _, _, _, _, _, _, _, _, _], rfl, ?_⟩
  refine wp_seq ?_
  refine wp_seq ?_
  refine wp_region rfl rfl ?_
  refine wo_apv rfl rfl rfl rfl rfl ?_
  refine wo_nil ?_
  refine ⟨[_, _, _, _, _, _, _, _, _, _, _, _, _, _, _, _, _, _, _, _, _, _, _, _, _, _, _, _, _, _, _, _, _, _, _, _, _, _, _, _, _, _, _, _, _, _, _, _, _, _, _, _], rfl, ?_⟩
  refine wp_block ?_
  refine wp_loop (fun k t H => ∃ (i acc : Nat) (p : PV) (l : List Int), SL p l ∧ Bytes l ∧ acc < 2 ^ (7 * i) ∧ i + k = 10 ∧ rdU k i acc l = rdU 10 0 0 l0 ∧ t = [.ptr 0 0, .any, .pv (.int .u64 acc), .any, .pv (.int .i64 22), .pv (.int .i64 i), .any, .any, .any, .any, .any, .any, .any, .any, .any, .any, .any, .any, .any, .any, .any, .any, .any, .any, .any, .any, .any, .any, .any, .any, .any, .any, .any, .any, .any, .any, .any, .any, .any, .any, .any, .any, .any, .any, .any, .any, .any, .any, .any, .any, .any, .any] ∧ H = [.box (bx p e) false]) 10 ⟨0, 0, p0, l0, hp0, hl0, by decide, rfl, rfl, rfl, rfl⟩ (by omega) ?_
  rintro k _ _ hk ⟨i, acc, p, l, hp, hl, ha, hi, hr, rfl, rfl⟩
  refine wp_seq ?_
  refine wp_block ?_
  refine wp_seq ?_
  refine wp_seq ?_
  refine wp_region rfl rfl ?_
  refine wo_mpv rfl rfl rfl rfl rfl ?_
  refine wo_esplit rfl rfl rfl rfl rfl (fun c4_1 => ?_) (fun c4_1 => ?_)
  ·
    refine wo_nil ?_
    refine ⟨[_, _, _, _, _, _, _, _, _, _, _, _, _, _, _, _, _, _, _, _, _, _, _, _, _, _, _, _, _, _, _, _, _, _, _, _, _, _, _, _, _, _, _, _, _, _, _, _, _, _, _, _], rfl, ?_⟩
    refine wp_true rfl ?_
    refine wp_goto ?_
    refine ⟨rfl, ?_⟩
    refine wp_seq_r rfl ?_
    refine wp_seq_r rfl ?_
    refine wp_seq_l rfl ?_
    refine wp_label_l ?_
    refine wp_seq ?_
    refine wp_region rfl rfl ?_
    refine wo_move (v := .ptr _ _) rfl rfl rfl rfl rfl (fun h => AV.noConfusion h) ?_
    refine wo_mpv rfl rfl rfl rfl rfl ?_
    refine wo_call (v := _) (H' := [_]) rfl rfl rfl rfl rfl rfl ((cl54 _ _ _ _).trans (callRef_box rfl rfl rfl rfl rfl (fail_ok _ _ _ _ (by omega)))) rfl rfl rfl ?_
    refine wo_nil ?_
    refine ⟨[_, _, _, _, _, _, _, _, _, _, _, _, _, _, _, _, _, _, _, _, _, _, _, _, _, _, _, _, _, _, _, _, _, _, _, _, _, _, _, _, _, _, _, _, _, _, _, _, _, _, _, _], rfl, ?_⟩
    refine wp_seq ?_
    refine wp_region rfl rfl ?_
    refine wo_apv rfl rfl rfl rfl rfl ?_
    refine wo_apv rfl rfl rfl rfl rfl ?_
    refine wo_nil ?_
    refine ⟨[_, _, _, _, _, _, _, _, _, _, _, _, _, _, _, _, _, _, _, _, _, _, _, _, _, _, _, _, _, _, _, _, _, _, _, _, _, _, _, _, _, _, _, _, _, _, _, _, _, _, _, _], rfl, ?_⟩
    refine wp_ret ?_
    refine ⟨trivial, _, rfl, _, _, leave_same (.inl rfl) rfl, ?_⟩
    have hnone : rdU 10 0 0 l0 = none := by rw [← hr]; first | exact rdU_nil | exact rdU_bad (by omega) | (rw [show k = 0 by omega]; exact rdU_zero)
    rw [hnone]; exact ⟨_, by decide, rfl, rfl⟩
  ·
    refine wo_nil ?_
    refine ⟨[_, _, _, _, _, _, _, _, _, _, _, _, _, _, _, _, _, _, _, _, _, _, _, _, _, _, _, _, _, _, _, _, _, _, _, _, _, _, _, _, _, _, _, _, _, _, _, _, _, _, _, _], rfl, ?_⟩
    refine wp_false rfl ?_
    refine wp_skip ?_
    refine wp_seq ?_
    refine wp_region rfl rfl ?_
    refine wo_move (v := .ptr _ _) rfl rfl rfl rfl rfl (fun h => AV.noConfusion h) ?_
    obtain ⟨k, rfl⟩ : ∃ k', k = k' + 1 := ⟨k - 1, by omega⟩
    rcases l with _ | ⟨c, l⟩
    ·
      refine wo_call (v := .tup [.pv .nils, .pv (.bool false)]) (H' := [_]) rfl rfl rfl rfl rfl rfl ((cl55 _ _ _ _).trans (callRef_box rfl rfl rfl rfl rfl (take_none (n := 1) _ hp (by simp) _ (by omega)))) rfl rfl rfl ?_
      refine wo_move (v := .tup _) rfl rfl rfl rfl rfl (fun h => AV.noConfusion h) ?_
      refine wo_extract (v := .pv _) rfl rfl rfl rfl rfl rfl ?_
      refine wo_extract (v := .pv _) rfl rfl rfl rfl rfl rfl ?_
      refine wo_apv rfl rfl rfl rfl rfl ?_
      refine wo_apv rfl rfl rfl rfl rfl ?_
      refine wo_nil ?_
      refine ⟨[_, _, _, _, _, _, _, _, _, _, _, _, _, _, _, _, _, _, _, _, _, _, _, _, _, _, _, _, _, _, _, _, _, _, _, _, _, _, _, _, _, _, _, _, _, _, _, _, _, _, _, _], rfl, ?_⟩
      refine wp_seq ?_
      refine wp_seq ?_
      refine wp_region rfl rfl ?_
      refine wo_mpv rfl rfl rfl rfl rfl ?_
      refine wo_un rfl rfl rfl rfl rfl ?_
      refine wo_nil ?_
      refine ⟨[_, _, _, _, _, _, _, _, _, _, _, _, _, _, _, _, _, _, _, _, _, _, _, _, _, _, _, _, _, _, _, _, _, _, _, _, _, _, _, _, _, _, _, _, _, _, _, _, _, _, _, _], rfl, ?_⟩
      refine wp_true rfl ?_
      refine wp_seq ?_
      refine wp_region rfl rfl ?_
      refine wo_apv rfl rfl rfl rfl rfl ?_
      refine wo_apv rfl rfl rfl rfl rfl ?_
      refine wo_nil ?_
      refine ⟨[_, _, _, _, _, _, _, _, _, _, _, _, _, _, _, _, _, _, _, _, _, _, _, _, _, _, _, _, _, _, _, _, _, _, _, _, _, _, _, _, _, _, _, _, _, _, _, _, _, _, _, _], rfl, ?_⟩
      refine wp_ret ?_
      refine ⟨trivial, _, rfl, _, _, leave_same (.inl rfl) rfl, ?_⟩
      have hnone : rdU 10 0 0 l0 = none := by rw [← hr]; first | exact rdU_nil | exact rdU_bad (by omega) | (rw [show k = 0 by omega]; exact rdU_zero)
      rw [hnone]; exact ⟨_, by decide, rfl, rfl⟩
    ·
      obtain ⟨q, r, hq, hr2, htk⟩ := take_some (n := 1) e hp (by simp) N (by omega)
      obtain rfl := hq.cons
      have hc := hl c (by simp)
      have hl2 : Bytes l := fun x hx => hl x (by simp [hx])
      refine wo_call (v := .tup [.pv (.sl [rowB c]), .pv (.bool true)]) (H' := [_]) rfl rfl rfl rfl rfl rfl ((cl55 _ _ _ _).trans (callRef_box rfl rfl rfl rfl rfl htk)) rfl rfl rfl ?_
      refine wo_move (v := .tup _) rfl rfl rfl rfl rfl (fun h => AV.noConfusion h) ?_
      refine wo_extract (v := .pv _) rfl rfl rfl rfl rfl rfl ?_
      refine wo_extract (v := .pv _) rfl rfl rfl rfl rfl rfl ?_
      refine wo_apv rfl rfl rfl rfl rfl ?_
      refine wo_apv rfl rfl rfl rfl rfl ?_
      refine wo_nil ?_
      refine ⟨[_, _, _, _, _, _, _, _, _, _, _, _, _, _, _, _, _, _, _, _, _, _, _, _, _, _, _, _, _, _, _, _, _, _, _, _, _, _, _, _, _, _, _, _, _, _, _, _, _, _, _, _], rfl, ?_⟩
      refine wp_seq ?_
      refine wp_seq ?_
      refine wp_region rfl rfl ?_
      refine wo_mpv rfl rfl rfl rfl rfl ?_
      refine wo_un rfl rfl rfl rfl rfl ?_
      refine wo_nil ?_
      refine ⟨[_, _, _, _, _, _, _, _, _, _, _, _, _, _, _, _, _, _, _, _, _, _, _, _, _, _, _, _, _, _, _, _, _, _, _, _, _, _, _, _, _, _, _, _, _, _, _, _, _, _, _, _], rfl, ?_⟩
      refine wp_false rfl ?_
      refine wp_skip ?_
      refine wp_seq ?_
      refine wp_region rfl rfl ?_
      refine wo_mpv rfl rfl rfl rfl rfl ?_
      refine wo_iaddr (v := .pv (.ptr (rowB c) 0)) rfl rfl rfl rfl (iaddr_pv t35 t5 rfl rfl rfl) ?_
      refine wo_load t5 rfl rfl rfl rfl rfl rfl ?_
      refine wo_apv rfl rfl rfl rfl rfl ?_
      refine wo_nil ?_
      refine ⟨[_, _, _, _, _, _, _, _, _, _, _, _, _, _, _, _, _, _, _, _, _, _, _, _, _, _, _, _, _, _, _, _, _, _, _, _, _, _, _, _, _, _, _, _, _, _, _, _, _, _, _, _], rfl, ?_⟩
      refine wp_seq ?_
      refine wp_seq ?_
      refine wp_region rfl rfl ?_
      refine wo_mpv rfl rfl rfl rfl rfl ?_
      refine wo_esplit rfl rfl rfl rfl rfl (fun c9_1 => ?_) (fun c9_1 => ?_)
      ·
        refine wo_mpv rfl rfl rfl rfl rfl ?_
        refine wo_mpv rfl rfl rfl rfl rfl ?_
        refine wo_bsplit rfl rfl rfl rfl rfl (fun c9_4 => ?_) (fun c9_4 => ?_)
        ·
          refine wo_pick (v := .pv _) rfl rfl rfl rfl rfl rfl ?_
          refine wo_mpv rfl rfl rfl rfl rfl ?_
          refine wo_off rfl rfl rfl ?_
          refine wo_off rfl rfl rfl ?_
          refine wo_off rfl rfl rfl ?_
          refine wo_off rfl rfl rfl ?_
          refine wo_norm [_, _, _, _, _, _, _, _, _, _, _, _, _, _, _, _, _, _, _, _, _, _, _, _, _, _, _, _, _, _, _, _, _, _, _, _, _, _, _, _, _, _, _, _, _, _, _, _, _, _, _, _] rfl ?_
          refine wo_off rfl rfl rfl ?_
          refine wo_off rfl rfl rfl ?_
          refine wo_pick (v := .pv _) rfl rfl rfl rfl rfl rfl ?_
          refine wo_nil ?_
          refine ⟨[_, _, _, _, _, _, _, _, _, _, _, _, _, _, _, _, _, _, _, _, _, _, _, _, _, _, _, _, _, _, _, _, _, _, _, _, _, _, _, _, _, _, _, _, _, _, _, _, _, _, _, _], rfl, ?_⟩
          refine wp_true rfl ?_
          refine wp_goto ?_
          refine ⟨rfl, ?_⟩
          refine wp_seq_r rfl ?_
          refine wp_seq_r rfl ?_
          refine wp_seq_l rfl ?_
          refine wp_label_l ?_
          refine wp_seq ?_
          refine wp_region rfl rfl ?_
          refine wo_move (v := .ptr _ _) rfl rfl rfl rfl rfl (fun h => AV.noConfusion h) ?_
          refine wo_mpv rfl rfl rfl rfl rfl ?_
          refine wo_call (v := _) (H' := [_]) rfl rfl rfl rfl rfl rfl ((cl54 _ _ _ _).trans (callRef_box rfl rfl rfl rfl rfl (fail_ok _ _ _ _ (by omega)))) rfl rfl rfl ?_
          refine wo_nil ?_
          refine ⟨[_, _, _, _, _, _, _, _, _, _, _, _, _, _, _, _, _, _, _, _, _, _, _, _, _, _, _, _, _, _, _, _, _, _, _, _, _, _, _, _, _, _, _, _, _, _, _, _, _, _, _, _], rfl, ?_⟩
          refine wp_seq ?_
          refine wp_region rfl rfl ?_
          refine wo_apv rfl rfl rfl rfl rfl ?_
          refine wo_apv rfl rfl rfl rfl rfl ?_
          refine wo_nil ?_
          refine ⟨[_, _, _, _, _, _, _, _, _, _, _, _, _, _, _, _, _, _, _, _, _, _, _, _, _, _, _, _, _, _, _, _, _, _, _, _, _, _, _, _, _, _, _, _, _, _, _, _, _, _, _, _], rfl, ?_⟩
          refine wp_ret ?_
          refine ⟨trivial, _, rfl, _, _, leave_same (.inl rfl) rfl, ?_⟩
          have hnone : rdU 10 0 0 l0 = none := by rw [← hr]; first | exact rdU_nil | exact rdU_bad (by omega) | (rw [show k = 0 by omega]; exact rdU_zero)
          rw [hnone]; exact ⟨_, by decide, rfl, rfl⟩
        ·
          refine wo_pick (v := .pv _) rfl rfl rfl rfl rfl rfl ?_
          refine wo_mpv rfl rfl rfl rfl rfl ?_
          refine wo_mpv rfl rfl rfl rfl rfl ?_
          refine wo_bsplit rfl rfl rfl rfl rfl (fun c9_8 => ?_) (fun c9_8 => ?_)
          ·
            refine wo_mpv rfl rfl rfl rfl rfl ?_
            refine wo_mpv rfl rfl rfl rfl rfl ?_
            refine wo_norm [_, _, _, _, _, _, _, _, _, _, _, _, _, _, _, _, _, _, _, _, _, _, _, _, _, _, _, _, _, _, _, _, _, _, _, _, _, _, _, _, _, _, _, _, _, _, _, _, _, _, _, _] rfl ?_
            refine wo_esplit rfl rfl rfl rfl rfl (fun c9_11 => ?_) (fun c9_11 => ?_)
            ·
              refine wo_pick (v := .pv _) rfl rfl rfl rfl rfl rfl ?_
              refine wo_pick (v := .pv _) rfl rfl rfl rfl rfl rfl ?_
              refine wo_nil ?_
              refine ⟨[_, _, _, _, _, _, _, _, _, _, _, _, _, _, _, _, _, _, _, _, _, _, _, _, _, _, _, _, _, _, _, _, _, _, _, _, _, _, _, _, _, _, _, _, _, _, _, _, _, _, _, _], rfl, ?_⟩
              refine wp_true rfl ?_
              refine wp_goto ?_
              refine ⟨rfl, ?_⟩
              refine wp_seq_r rfl ?_
              refine wp_seq_r rfl ?_
              refine wp_seq_l rfl ?_
              refine wp_label_l ?_
              refine wp_seq ?_
              refine wp_region rfl rfl ?_
              refine wo_move (v := .ptr _ _) rfl rfl rfl rfl rfl (fun h => AV.noConfusion h) ?_
              refine wo_mpv rfl rfl rfl rfl rfl ?_
              refine wo_call (v := _) (H' := [_]) rfl rfl rfl rfl rfl rfl ((cl54 _ _ _ _).trans (callRef_box rfl rfl rfl rfl rfl (fail_ok _ _ _ _ (by omega)))) rfl rfl rfl ?_
              refine wo_nil ?_
              refine ⟨[_, _, _, _, _, _, _, _, _, _, _, _, _, _, _, _, _, _, _, _, _, _, _, _, _, _, _, _, _, _, _, _, _, _, _, _, _, _, _, _, _, _, _, _, _, _, _, _, _, _, _, _], rfl, ?_⟩
              refine wp_seq ?_
              refine wp_region rfl rfl ?_
              refine wo_apv rfl rfl rfl rfl rfl ?_
              refine wo_apv rfl rfl rfl rfl rfl ?_
              refine wo_nil ?_
              refine ⟨[_, _, _, _, _, _, _, _, _, _, _, _, _, _, _, _, _, _, _, _, _, _, _, _, _, _, _, _, _, _, _, _, _, _, _, _, _, _, _, _, _, _, _, _, _, _, _, _, _, _, _, _], rfl, ?_⟩
              refine wp_ret ?_
              refine ⟨trivial, _, rfl, _, _, leave_same (.inl rfl) rfl, ?_⟩
              have hnone : rdU 10 0 0 l0 = none := by rw [← hr]; first | exact rdU_nil | exact rdU_bad (by omega) | (rw [show k = 0 by omega]; exact rdU_zero)
              rw [hnone]; exact ⟨_, by decide, rfl, rfl⟩
            ·
              refine wo_pick (v := .pv _) rfl rfl rfl rfl rfl rfl ?_
              refine wo_pick (v := .pv _) rfl rfl rfl rfl rfl rfl ?_
              refine wo_nil ?_
              refine ⟨[_, _, _, _, _, _, _, _, _, _, _, _, _, _, _, _, _, _, _, _, _, _, _, _, _, _, _, _, _, _, _, _, _, _, _, _, _, _, _, _, _, _, _, _, _, _, _, _, _, _, _, _], rfl, ?_⟩
              refine wp_false rfl ?_
              refine wp_skip ?_
              refine wp_seq ?_
              refine wp_region rfl rfl ?_
              refine wo_mpv rfl rfl rfl rfl rfl ?_
              refine wo_mpv rfl rfl rfl rfl rfl ?_
              refine wo_bin (v := .pv (.int .u8 (c % 128))) rfl rfl rfl rfl (iV (and127 hc.1 hc.2)) ?_
              refine wo_conv (v := .pv (.int .u64 ((c % 128).toNat : Int))) rfl rfl rfl rfl ((wconv t5 t36 rfl rfl).trans (iV (by rw [wrapU64 (by omega) (by omega)]; omega))) rfl ?_
              refine wo_mpv rfl rfl rfl rfl rfl ?_
              refine wo_bin (v := .pv (.int .i64 (7 * i))) rfl rfl rfl rfl (iV (wrapI (by omega) (by omega))) ?_
              refine wo_conv (v := .pv (.int .u64 (7 * i))) rfl rfl rfl rfl ((wconv t3 t81 rfl rfl).trans (iV (wrapU64 (by omega) (by omega)))) rfl ?_
              refine wo_bin (v := .pv (.int .u64 (((c % 128).toNat * 2 ^ (7 * i) : Nat) : Int))) rfl rfl rfl rfl (shl7 (by omega) (by omega) (by omega)) ?_
              refine wo_bin (v := .pv (.int .u64 ((acc + (c % 128).toNat * 2 ^ (7 * i) : Nat) : Int))) rfl rfl rfl rfl (iV (orU ha (acc_lt2 ha hc (by omega) (by omega)))) ?_
              refine wo_apv rfl rfl rfl rfl rfl ?_
              refine wo_nil ?_
              refine ⟨[_, _, _, _, _, _, _, _, _, _, _, _, _, _, _, _, _, _, _, _, _, _, _, _, _, _, _, _, _, _, _, _, _, _, _, _, _, _, _, _, _, _, _, _, _, _, _, _, _, _, _, _], rfl, ?_⟩
              refine wp_seq ?_
              refine wp_region rfl rfl ?_
              refine wo_mpv rfl rfl rfl rfl rfl ?_
              refine wo_bsplit rfl rfl rfl rfl rfl (fun c11_1 => ?_) (fun c11_1 => ?_)
              ·
                refine wo_nil ?_
                refine ⟨[_, _, _, _, _, _, _, _, _, _, _, _, _, _, _, _, _, _, _, _, _, _, _, _, _, _, _, _, _, _, _, _, _, _, _, _, _, _, _, _, _, _, _, _, _, _, _, _, _, _, _, _], rfl, ?_⟩
                refine wp_true rfl ?_
                refine wp_seq ?_
                refine wp_region rfl rfl ?_
                refine wo_mpv rfl rfl rfl rfl rfl ?_
                refine wo_apv rfl rfl rfl rfl rfl ?_
                refine wo_apv rfl rfl rfl rfl rfl ?_
                refine wo_nil ?_
                refine ⟨[_, _, _, _, _, _, _, _, _, _, _, _, _, _, _, _, _, _, _, _, _, _, _, _, _, _, _, _, _, _, _, _, _, _, _, _, _, _, _, _, _, _, _, _, _, _, _, _, _, _, _, _], rfl, ?_⟩
                refine wp_ret ?_
                exact ⟨trivial, _, rfl, _, _, leave_same (.inl rfl) rfl, by rw [← hr, rdU_last (by omega) (by omega)]; exact ⟨_, hr2, rfl, rfl⟩⟩
              ·
                refine wo_nil ?_
                refine ⟨[_, _, _, _, _, _, _, _, _, _, _, _, _, _, _, _, _, _, _, _, _, _, _, _, _, _, _, _, _, _, _, _, _, _, _, _, _, _, _, _, _, _, _, _, _, _, _, _, _, _, _, _], rfl, ?_⟩
                refine wp_false rfl ?_
                refine wp_skip ?_
                refine wp_region rfl rfl ?_
                refine wo_mpv rfl rfl rfl rfl rfl ?_
                refine wo_bin (v := .pv (.int .i64 ((i + 1 : Nat) : Int))) rfl rfl rfl rfl (iV (by rw [wrapI (by omega) (by omega)]; omega)) ?_
                refine wo_apv rfl rfl rfl rfl rfl ?_
                refine wo_nil ?_
                refine ⟨[_, _, _, _, _, _, _, _, _, _, _, _, _, _, _, _, _, _, _, _, _, _, _, _, _, _, _, _, _, _, _, _, _, _, _, _, _, _, _, _, _, _, _, _, _, _, _, _, _, _, _, _], rfl, ?_⟩
                refine ⟨_, _, tidy_norm (t' := [_, _, _, _, _, _, _, _, _, _, _, _, _, _, _, _, _, _, _, _, _, _, _, _, _, _, _, _, _, _, _, _, _, _, _, _, _, _, _, _, _, _, _, _, _, _, _, _, _, _, _, _]) rfl rfl rfl, k, by omega, i + 1, acc + (c % 128).toNat * 2 ^ (7 * i), r, l, hr2, hl2, ?_, by omega, by rw [← hr, rdU_next (by omega) (by omega)], rfl, rfl⟩
                exact acc_lt ha hc
          ·
            refine wo_mpv rfl rfl rfl rfl rfl ?_
            refine wo_off rfl rfl rfl ?_
            refine wo_norm [_, _, _, _, _, _, _, _, _, _, _, _, _, _, _, _, _, _, _, _, _, _, _, _, _, _, _, _, _, _, _, _, _, _, _, _, _, _, _, _, _, _, _, _, _, _, _, _, _, _, _, _] rfl ?_
            refine wo_off rfl rfl rfl ?_
            refine wo_pick (v := .pv _) rfl rfl rfl rfl rfl rfl ?_
            refine wo_pick (v := .pv _) rfl rfl rfl rfl rfl rfl ?_
            refine wo_nil ?_
            refine ⟨[_, _, _, _, _, _, _, _, _, _, _, _, _, _, _, _, _, _, _, _, _, _, _, _, _, _, _, _, _, _, _, _, _, _, _, _, _, _, _, _, _, _, _, _, _, _, _, _, _, _, _, _], rfl, ?_⟩
            refine wp_false rfl ?_
            refine wp_skip ?_
            refine wp_seq ?_
            refine wp_region rfl rfl ?_
            refine wo_mpv rfl rfl rfl rfl rfl ?_
            refine wo_mpv rfl rfl rfl rfl rfl ?_
            refine wo_bin (v := .pv (.int .u8 (c % 128))) rfl rfl rfl rfl (iV (and127 hc.1 hc.2)) ?_
            refine wo_conv (v := .pv (.int .u64 ((c % 128).toNat : Int))) rfl rfl rfl rfl ((wconv t5 t36 rfl rfl).trans (iV (by rw [wrapU64 (by omega) (by omega)]; omega))) rfl ?_
            refine wo_mpv rfl rfl rfl rfl rfl ?_
            refine wo_bin (v := .pv (.int .i64 (7 * i))) rfl rfl rfl rfl (iV (wrapI (by omega) (by omega))) ?_
            refine wo_conv (v := .pv (.int .u64 (7 * i))) rfl rfl rfl rfl ((wconv t3 t81 rfl rfl).trans (iV (wrapU64 (by omega) (by omega)))) rfl ?_
            refine wo_bin (v := .pv (.int .u64 (((c % 128).toNat * 2 ^ (7 * i) : Nat) : Int))) rfl rfl rfl rfl (shl7 (by omega) (by omega) (by omega)) ?_
            refine wo_bin (v := .pv (.int .u64 ((acc + (c % 128).toNat * 2 ^ (7 * i) : Nat) : Int))) rfl rfl rfl rfl (iV (orU ha (acc_lt2 ha hc (by omega) (by omega)))) ?_
            refine wo_apv rfl rfl rfl rfl rfl ?_
            refine wo_nil ?_
            refine ⟨[_, _, _, _, _, _, _, _, _, _, _, _, _, _, _, _, _, _, _, _, _, _, _, _, _, _, _, _, _, _, _, _, _, _, _, _, _, _, _, _, _, _, _, _, _, _, _, _, _, _, _, _], rfl, ?_⟩
            refine wp_seq ?_
            refine wp_region rfl rfl ?_
            refine wo_mpv rfl rfl rfl rfl rfl ?_
            refine wo_bsplit rfl rfl rfl rfl rfl (fun c11_1 => ?_) (fun c11_1 => ?_)
            ·
              refine wo_nil ?_
              refine ⟨[_, _, _, _, _, _, _, _, _, _, _, _, _, _, _, _, _, _, _, _, _, _, _, _, _, _, _, _, _, _, _, _, _, _, _, _, _, _, _, _, _, _, _, _, _, _, _, _, _, _, _, _], rfl, ?_⟩
              refine wp_true rfl ?_
              refine wp_seq ?_
              refine wp_region rfl rfl ?_
              refine wo_mpv rfl rfl rfl rfl rfl ?_
              refine wo_apv rfl rfl rfl rfl rfl ?_
              refine wo_apv rfl rfl rfl rfl rfl ?_
              refine wo_nil ?_
              refine ⟨[_, _, _, _, _, _, _, _, _, _, _, _, _, _, _, _, _, _, _, _, _, _, _, _, _, _, _, _, _, _, _, _, _, _, _, _, _, _, _, _, _, _, _, _, _, _, _, _, _, _, _, _], rfl, ?_⟩
              refine wp_ret ?_
              exact ⟨trivial, _, rfl, _, _, leave_same (.inl rfl) rfl, by rw [← hr, rdU_last (by omega) (by omega)]; exact ⟨_, hr2, rfl, rfl⟩⟩
            ·
              refine wo_nil ?_
              refine ⟨[_, _, _, _, _, _, _, _, _, _, _, _, _, _, _, _, _, _, _, _, _, _, _, _, _, _, _, _, _, _, _, _, _, _, _, _, _, _, _, _, _, _, _, _, _, _, _, _, _, _, _, _], rfl, ?_⟩
              refine wp_false rfl ?_
              refine wp_skip ?_
              refine wp_region rfl rfl ?_
              refine wo_mpv rfl rfl rfl rfl rfl ?_
              refine wo_bin (v := .pv (.int .i64 ((i + 1 : Nat) : Int))) rfl rfl rfl rfl (iV (by rw [wrapI (by omega) (by omega)]; omega)) ?_
              refine wo_apv rfl rfl rfl rfl rfl ?_
              refine wo_nil ?_
              refine ⟨[_, _, _, _, _, _, _, _, _, _, _, _, _, _, _, _, _, _, _, _, _, _, _, _, _, _, _, _, _, _, _, _, _, _, _, _, _, _, _, _, _, _, _, _, _, _, _, _, _, _, _, _], rfl, ?_⟩
              refine ⟨_, _, tidy_norm (t' := [_, _, _, _, _, _, _, _, _, _, _, _, _, _, _, _, _, _, _, _, _, _, _, _, _, _, _, _, _, _, _, _, _, _, _, _, _, _, _, _, _, _, _, _, _, _, _, _, _, _, _, _]) rfl rfl rfl, k, by omega, i + 1, acc + (c % 128).toNat * 2 ^ (7 * i), r, l, hr2, hl2, ?_, by omega, by rw [← hr, rdU_next (by omega) (by omega)], rfl, rfl⟩
              exact acc_lt ha hc
      ·
        refine wo_mpv rfl rfl rfl rfl rfl ?_
        refine wo_off rfl rfl rfl ?_
        refine wo_off rfl rfl rfl ?_
        refine wo_pick (v := .pv _) rfl rfl rfl rfl rfl rfl ?_
        refine wo_mpv rfl rfl rfl rfl rfl ?_
        refine wo_mpv rfl rfl rfl rfl rfl ?_
        refine wo_bsplit rfl rfl rfl rfl rfl (fun c9_8 => ?_) (fun c9_8 => ?_)
        ·
          refine wo_mpv rfl rfl rfl rfl rfl ?_
          refine wo_mpv rfl rfl rfl rfl rfl ?_
          refine wo_norm [_, _, _, _, _, _, _, _, _, _, _, _, _, _, _, _, _, _, _, _, _, _, _, _, _, _, _, _, _, _, _, _, _, _, _, _, _, _, _, _, _, _, _, _, _, _, _, _, _, _, _, _] rfl ?_
          refine wo_esplit rfl rfl rfl rfl rfl (fun c9_11 => ?_) (fun c9_11 => ?_)
          ·
            refine wo_pick (v := .pv _) rfl rfl rfl rfl rfl rfl ?_
            refine wo_pick (v := .pv _) rfl rfl rfl rfl rfl rfl ?_
            refine wo_nil ?_
            refine ⟨[_, _, _, _, _, _, _, _, _, _, _, _, _, _, _, _, _, _, _, _, _, _, _, _, _, _, _, _, _, _, _, _, _, _, _, _, _, _, _, _, _, _, _, _, _, _, _, _, _, _, _, _], rfl, ?_⟩
            refine wp_true rfl ?_
            refine wp_goto ?_
            refine ⟨rfl, ?_⟩
            refine wp_seq_r rfl ?_
            refine wp_seq_r rfl ?_
            refine wp_seq_l rfl ?_
            refine wp_label_l ?_
            refine wp_seq ?_
            refine wp_region rfl rfl ?_
            refine wo_move (v := .ptr _ _) rfl rfl rfl rfl rfl (fun h => AV.noConfusion h) ?_
            refine wo_mpv rfl rfl rfl rfl rfl ?_
            refine wo_call (v := _) (H' := [_]) rfl rfl rfl rfl rfl rfl ((cl54 _ _ _ _).trans (callRef_box rfl rfl rfl rfl rfl (fail_ok _ _ _ _ (by omega)))) rfl rfl rfl ?_
            refine wo_nil ?_
            refine ⟨[_, _, _, _, _, _, _, _, _, _, _, _, _, _, _, _, _, _, _, _, _, _, _, _, _, _, _, _, _, _, _, _, _, _, _, _, _, _, _, _, _, _, _, _, _, _, _, _, _, _, _, _], rfl, ?_⟩
            refine wp_seq ?_
            refine wp_region rfl rfl ?_
            refine wo_apv rfl rfl rfl rfl rfl ?_
            refine wo_apv rfl rfl rfl rfl rfl ?_
            refine wo_nil ?_
            refine ⟨[_, _, _, _, _, _, _, _, _, _, _, _, _, _, _, _, _, _, _, _, _, _, _, _, _, _, _, _, _, _, _, _, _, _, _, _, _, _, _, _, _, _, _, _, _, _, _, _, _, _, _, _], rfl, ?_⟩
            refine wp_ret ?_
            refine ⟨trivial, _, rfl, _, _, leave_same (.inl rfl) rfl, ?_⟩
            have hnone : rdU 10 0 0 l0 = none := by rw [← hr]; first | exact rdU_nil | exact rdU_bad (by omega) | (rw [show k = 0 by omega]; exact rdU_zero)
            rw [hnone]; exact ⟨_, by decide, rfl, rfl⟩
          ·
            refine wo_pick (v := .pv _) rfl rfl rfl rfl rfl rfl ?_
            refine wo_pick (v := .pv _) rfl rfl rfl rfl rfl rfl ?_
            refine wo_nil ?_
            refine ⟨[_, _, _, _, _, _, _, _, _, _, _, _, _, _, _, _, _, _, _, _, _, _, _, _, _, _, _, _, _, _, _, _, _, _, _, _, _, _, _, _, _, _, _, _, _, _, _, _, _, _, _, _], rfl, ?_⟩
            refine wp_false rfl ?_
            refine wp_skip ?_
            refine wp_seq ?_
            refine wp_region rfl rfl ?_
            refine wo_mpv rfl rfl rfl rfl rfl ?_
            refine wo_mpv rfl rfl rfl rfl rfl ?_
            refine wo_bin (v := .pv (.int .u8 (c % 128))) rfl rfl rfl rfl (iV (and127 hc.1 hc.2)) ?_
            refine wo_conv (v := .pv (.int .u64 ((c % 128).toNat : Int))) rfl rfl rfl rfl ((wconv t5 t36 rfl rfl).trans (iV (by rw [wrapU64 (by omega) (by omega)]; omega))) rfl ?_
            refine wo_mpv rfl rfl rfl rfl rfl ?_
            refine wo_bin (v := .pv (.int .i64 (7 * i))) rfl rfl rfl rfl (iV (wrapI (by omega) (by omega))) ?_
            refine wo_conv (v := .pv (.int .u64 (7 * i))) rfl rfl rfl rfl ((wconv t3 t81 rfl rfl).trans (iV (wrapU64 (by omega) (by omega)))) rfl ?_
            refine wo_bin (v := .pv (.int .u64 (((c % 128).toNat * 2 ^ (7 * i) : Nat) : Int))) rfl rfl rfl rfl (shl7 (by omega) (by omega) (by omega)) ?_
            refine wo_bin (v := .pv (.int .u64 ((acc + (c % 128).toNat * 2 ^ (7 * i) : Nat) : Int))) rfl rfl rfl rfl (iV (orU ha (acc_lt2 ha hc (by omega) (by omega)))) ?_
            refine wo_apv rfl rfl rfl rfl rfl ?_
            refine wo_nil ?_
            refine ⟨[_, _, _, _, _, _, _, _, _, _, _, _, _, _, _, _, _, _, _, _, _, _, _, _, _, _, _, _, _, _, _, _, _, _, _, _, _, _, _, _, _, _, _, _, _, _, _, _, _, _, _, _], rfl, ?_⟩
            refine wp_seq ?_
            refine wp_region rfl rfl ?_
            refine wo_mpv rfl rfl rfl rfl rfl ?_
            refine wo_bsplit rfl rfl rfl rfl rfl (fun c11_1 => ?_) (fun c11_1 => ?_)
            ·
              refine wo_nil ?_
              refine ⟨[_, _, _, _, _, _, _, _, _, _, _, _, _, _, _, _, _, _, _, _, _, _, _, _, _, _, _, _, _, _, _, _, _, _, _, _, _, _, _, _, _, _, _, _, _, _, _, _, _, _, _, _], rfl, ?_⟩
              refine wp_true rfl ?_
              refine wp_seq ?_
              refine wp_region rfl rfl ?_
              refine wo_mpv rfl rfl rfl rfl rfl ?_
              refine wo_apv rfl rfl rfl rfl rfl ?_
              refine wo_apv rfl rfl rfl rfl rfl ?_
              refine wo_nil ?_
              refine ⟨[_, _, _, _, _, _, _, _, _, _, _, _, _, _, _, _, _, _, _, _, _, _, _, _, _, _, _, _, _, _, _, _, _, _, _, _, _, _, _, _, _, _, _, _, _, _, _, _, _, _, _, _], rfl, ?_⟩
              refine wp_ret ?_
              exact ⟨trivial, _, rfl, _, _, leave_same (.inl rfl) rfl, by rw [← hr, rdU_last (by omega) (by omega)]; exact ⟨_, hr2, rfl, rfl⟩⟩
            ·
              refine wo_nil ?_
              refine ⟨[_, _, _, _, _, _, _, _, _, _, _, _, _, _, _, _, _, _, _, _, _, _, _, _, _, _, _, _, _, _, _, _, _, _, _, _, _, _, _, _, _, _, _, _, _, _, _, _, _, _, _, _], rfl, ?_⟩
              refine wp_false rfl ?_
              refine wp_skip ?_
              refine wp_region rfl rfl ?_
              refine wo_mpv rfl rfl rfl rfl rfl ?_
              refine wo_bin (v := .pv (.int .i64 ((i + 1 : Nat) : Int))) rfl rfl rfl rfl (iV (by rw [wrapI (by omega) (by omega)]; omega)) ?_
              refine wo_apv rfl rfl rfl rfl rfl ?_
              refine wo_nil ?_
              refine ⟨[_, _, _, _, _, _, _, _, _, _, _, _, _, _, _, _, _, _, _, _, _, _, _, _, _, _, _, _, _, _, _, _, _, _, _, _, _, _, _, _, _, _, _, _, _, _, _, _, _, _, _, _], rfl, ?_⟩
              refine ⟨_, _, tidy_norm (t' := [_, _, _, _, _, _, _, _, _, _, _, _, _, _, _, _, _, _, _, _, _, _, _, _, _, _, _, _, _, _, _, _, _, _, _, _, _, _, _, _, _, _, _, _, _, _, _, _, _, _, _, _]) rfl rfl rfl, k, by omega, i + 1, acc + (c % 128).toNat * 2 ^ (7 * i), r, l, hr2, hl2, ?_, by omega, by rw [← hr, rdU_next (by omega) (by omega)], rfl, rfl⟩
              exact acc_lt ha hc
        ·
          refine wo_mpv rfl rfl rfl rfl rfl ?_
          refine wo_off rfl rfl rfl ?_
          refine wo_norm [_, _, _, _, _, _, _, _, _, _, _, _, _, _, _, _, _, _, _, _, _, _, _, _, _, _, _, _, _, _, _, _, _, _, _, _, _, _, _, _, _, _, _, _, _, _, _, _, _, _, _, _] rfl ?_
          refine wo_off rfl rfl rfl ?_
          refine wo_pick (v := .pv _) rfl rfl rfl rfl rfl rfl ?_
          refine wo_pick (v := .pv _) rfl rfl rfl rfl rfl rfl ?_
          refine wo_nil ?_
          refine ⟨[_, _, _, _, _, _, _, _, _, _, _, _, _, _, _, _, _, _, _, _, _, _, _, _, _, _, _, _, _, _, _, _, _, _, _, _, _, _, _, _, _, _, _, _, _, _, _, _, _, _, _, _], rfl, ?_⟩
          refine wp_false rfl ?_
          refine wp_skip ?_
          refine wp_seq ?_
          refine wp_region rfl rfl ?_
          refine wo_mpv rfl rfl rfl rfl rfl ?_
          refine wo_mpv rfl rfl rfl rfl rfl ?_
          refine wo_bin (v := .pv (.int .u8 (c % 128))) rfl rfl rfl rfl (iV (and127 hc.1 hc.2)) ?_
          refine wo_conv (v := .pv (.int .u64 ((c % 128).toNat : Int))) rfl rfl rfl rfl ((wconv t5 t36 rfl rfl).trans (iV (by rw [wrapU64 (by omega) (by omega)]; omega))) rfl ?_
          refine wo_mpv rfl rfl rfl rfl rfl ?_
          refine wo_bin (v := .pv (.int .i64 (7 * i))) rfl rfl rfl rfl (iV (wrapI (by omega) (by omega))) ?_
          refine wo_conv (v := .pv (.int .u64 (7 * i))) rfl rfl rfl rfl ((wconv t3 t81 rfl rfl).trans (iV (wrapU64 (by omega) (by omega)))) rfl ?_
          refine wo_bin (v := .pv (.int .u64 (((c % 128).toNat * 2 ^ (7 * i) : Nat) : Int))) rfl rfl rfl rfl (shl7 (by omega) (by omega) (by omega)) ?_
          refine wo_bin (v := .pv (.int .u64 ((acc + (c % 128).toNat * 2 ^ (7 * i) : Nat) : Int))) rfl rfl rfl rfl (iV (orU ha (acc_lt2 ha hc (by omega) (by omega)))) ?_
          refine wo_apv rfl rfl rfl rfl rfl ?_
          refine wo_nil ?_
          refine ⟨[_, _, _, _, _, _, _, _, _, _, _, _, _, _, _, _, _, _, _, _, _, _, _, _, _, _, _, _, _, _, _, _, _, _, _, _, _, _, _, _, _, _, _, _, _, _, _, _, _, _, _, _], rfl, ?_⟩
          refine wp_seq ?_
          refine wp_region rfl rfl ?_
          refine wo_mpv rfl rfl rfl rfl rfl ?_
          refine wo_bsplit rfl rfl rfl rfl rfl (fun c11_1 => ?_) (fun c11_1 => ?_)
          ·
            refine wo_nil ?_
            refine ⟨[_, _, _, _, _, _, _, _, _, _, _, _, _, _, _, _, _, _, _, _, _, _, _, _, _, _, _, _, _, _, _, _, _, _, _, _, _, _, _, _, _, _, _, _, _, _, _, _, _, _, _, _], rfl, ?_⟩
            refine wp_true rfl ?_
            refine wp_seq ?_
            refine wp_region rfl rfl ?_
            refine wo_mpv rfl rfl rfl rfl rfl ?_
            refine wo_apv rfl rfl rfl rfl rfl ?_
            refine wo_apv rfl rfl rfl rfl rfl ?_
            refine wo_nil ?_
            refine ⟨[_, _, _, _, _, _, _, _, _, _, _, _, _, _, _, _, _, _, _, _, _, _, _, _, _, _, _, _, _, _, _, _, _, _, _, _, _, _, _, _, _, _, _, _, _, _, _, _, _, _, _, _], rfl, ?_⟩
            refine wp_ret ?_
            exact ⟨trivial, _, rfl, _, _, leave_same (.inl rfl) rfl, by rw [← hr, rdU_last (by omega) (by omega)]; exact ⟨_, hr2, rfl, rfl⟩⟩
          ·
            refine wo_nil ?_
            refine ⟨[_, _, _, _, _, _, _, _, _, _, _, _, _, _, _, _, _, _, _, _, _, _, _, _, _, _, _, _, _, _, _, _, _, _, _, _, _, _, _, _, _, _, _, _, _, _, _, _, _, _, _, _], rfl, ?_⟩
            refine wp_false rfl ?_
            refine wp_skip ?_
            refine wp_region rfl rfl ?_
            refine wo_mpv rfl rfl rfl rfl rfl ?_
            refine wo_bin (v := .pv (.int .i64 ((i + 1 : Nat) : Int))) rfl rfl rfl rfl (iV (by rw [wrapI (by omega) (by omega)]; omega)) ?_
            refine wo_apv rfl rfl rfl rfl rfl ?_
            refine wo_nil ?_
            refine ⟨[_, _, _, _, _, _, _, _, _, _, _, _, _, _, _, _, _, _, _, _, _, _, _, _, _, _, _, _, _, _, _, _, _, _, _, _, _, _, _, _, _, _, _, _, _, _, _, _, _, _, _, _], rfl, ?_⟩
            refine ⟨_, _, tidy_norm (t' := [_, _, _, _, _, _, _, _, _, _, _, _, _, _, _, _, _, _, _, _, _, _, _, _, _, _, _, _, _, _, _, _, _, _, _, _, _, _, _, _, _, _, _, _, _, _, _, _, _, _, _, _]) rfl rfl rfl, k, by omega, i + 1, acc + (c % 128).toNat * 2 ^ (7 * i), r, l, hr2, hl2, ?_, by omega, by rw [← hr, rdU_next (by omega) (by omega)], rfl, rfl⟩
            exact acc_lt ha hc
end Go.Ab.Ytknmgphnkfeifaa
