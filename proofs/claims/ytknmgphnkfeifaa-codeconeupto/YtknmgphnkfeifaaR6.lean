import Derived.Test.YtknmgphnkfeifaaR5
namespace Go.Ab.Ytknmgphnkfeifaa
open Go Go.Ab
open Go.Proofs.Try
set_option maxRecDepth 100000
set_option maxHeartbeats 1000000
set_option linter.unusedSimpArgs false
set_option linter.unusedVariables false

theorem works31 : call G 60 31 [] [] = some (.ret (.pv (.bool true)), []) := by kernel_rfl

theorem bytes_ubytes : ∀ (v : Nat), Bytes (ubytes v) := by
  intro v
  induction v using Nat.strongRecOn with
  | ind v ih =>
    by_cases h : v < 128
    · rw [ubytes_lt h]; intro x hx; simp at hx; omega
    · rw [ubytes_ge h]
      intro x hx
      rcases List.mem_cons.1 hx with rfl | hx
      · omega
      · exact ih (v / 128) (by omega) x hx
theorem Bytes.app {a b : List Int} (ha : Bytes a) (hb : Bytes b) : Bytes (a ++ b) := fun x hx => by
  rcases List.mem_append.1 hx with h | h
  · exact ha x h
  · exact hb x h
/-- A number's bytes are read as the number. -/
theorem rdU_ubytes (rest : List Int) : ∀ (k i acc n : Nat), k + i = 10 → n * 2 ^ (7 * i) < 2 ^ 64 → (0 < i → 0 < n) → i ≤ 9 → rdU k i acc (ubytes n ++ rest) = some (acc + n * 2 ^ (7 * i), rest)
  | 0, i, acc, n, hk, hn, h0, hi => by omega
  | k + 1, i, acc, n, hk, hn, h0, hi => by
    have h9 : i = 9 → n ≤ 1 := by
      intro h; subst h
      rcases Nat.lt_or_ge 1 n with h | h
      · have : 2 * 2 ^ (7 * 9) ≤ n * 2 ^ (7 * 9) := Nat.mul_le_mul h (Nat.le_refl _)
        omega
      · exact h
    by_cases h : n < 128
    · rw [ubytes_lt h, List.cons_append, List.nil_append, rdU_last (by omega) (by omega)]
      have : ((n : Int) % 128).toNat = n := by omega
      rw [this]
    · rw [ubytes_ge h, List.cons_append, rdU_next (by omega) (by omega)]
      have e1 : (((n % 128 + 128 : Nat) : Int) % 128).toNat = n % 128 := by omega
      have hi8 : i ≤ 8 := by omega
      have e2 : n / 128 * 2 ^ (7 * (i + 1)) ≤ n * 2 ^ (7 * i) := by
        rw [show 7 * (i + 1) = 7 * i + 7 by omega, Nat.pow_add, show 2 ^ 7 = 128 from rfl, Nat.mul_comm (2 ^ (7 * i)) 128, ← Nat.mul_assoc]
        exact Nat.mul_le_mul (Nat.div_mul_le_self n 128) (Nat.le_refl _)
      rw [e1, rdU_ubytes rest k (i + 1) _ (n / 128) (by omega) (by omega) (by omega) (by omega)]
      congr 2
      rw [show 7 * (i + 1) = 7 * i + 7 by omega, Nat.pow_add, show 2 ^ 7 = 128 from rfl, Nat.mul_comm (2 ^ (7 * i)) 128, ← Nat.mul_assoc, Nat.add_assoc, ← Nat.add_mul]
      congr 2
      omega
theorem rdU_put {n : Nat} (hn : n < 2 ^ 64) (rest : List Int) : rdU 10 0 0 (ubytes n ++ rest) = some (n, rest) := by
  rw [rdU_ubytes rest 10 0 0 n (by omega) (by omega) (by omega) (by omega)]; simp

theorem bounds {n : Nat} (hn : n < 2 ^ 64) (most : Int) (s : ByteArray) (long : Int) (hlong : long < 9223372036854775808) : call G 61 5 [.pv (.int .u64 n), .pv (.int .u64 most), .pv (.str s), .pv (.int .i64 long)] [] = some (.ret (.pv (.bool true)), []) := by
  have hw := works31
  have hb7 : Bytes (ubytes n ++ [7]) := (bytes_ubytes n).app (by intro x hx; simp at hx; omega)
  have hub := ubytes_len hn
  obtain ⟨v1, H1, h1, o1⟩ := uint_ok (p := .sl ((ubytes n ++ [7]).map rowB)) (.inl rfl) hb7 most 60 (by omega)
  rw [rdU_put hn] at o1
  have o1 : ite _ _ _ := o1
  refine call_eq func5 rfl (show _ = [_, _, _, _, _, _, _, _, _, _, _, _, _, _, _, _, _, _, _, _, _, _, _, _, _, _, _, _, _, _, _, _, _, _, _, _, _, _, _, _, _, _, _, _, _, _, _, _, _, _, _, _, _, _, _, _, _, _, _, _, _, _, _, _, _, _, _, _, _, _, _, _, _, _, _, _, _, _, _, _, _, _, _, _, _, _, _, _, _, _, _, _, _, _, _, _, _, _, _, _, _] from rfl) ?_
  refine wp_seq ?_
  refine wp_region rfl rfl ?_
  refine wo_apv rfl rfl rfl rfl rfl ?_
  refine wo_nil ?_
  refine ⟨[_, _, _, _, _, _, _, _, _, _, _, _, _, _, _, _, _, _, _, _, _, _, _, _, _, _, _, _, _, _, _, _, _, _, _, _, _, _, _, _, _, _, _, _, _, _, _, _, _, _, _, _, _, _, _, _, _, _, _, _, _, _, _, _, _, _, _, _, _, _, _, _, _, _, _, _, _, _, _, _, _, _, _, _, _, _, _, _, _, _, _, _, _, _, _, _, _, _, _, _, _], rfl, ?_⟩
  refine wp_seq ?_
  refine wp_seq ?_
  refine wp_region rfl rfl ?_
  refine wo_call (v := .pv (.bool true)) (H' := []) rfl rfl rfl rfl rfl rfl ((cl31 _ _ _ _).trans (callPure_pv rfl (fun _ => rfl) hw)) rfl rfl rfl ?_
  refine wo_un rfl rfl rfl rfl rfl ?_
  refine wo_nil ?_
  refine ⟨[_, _, _, _, _, _, _, _, _, _, _, _, _, _, _, _, _, _, _, _, _, _, _, _, _, _, _, _, _, _, _, _, _, _, _, _, _, _, _, _, _, _, _, _, _, _, _, _, _, _, _, _, _, _, _, _, _, _, _, _, _, _, _, _, _, _, _, _, _, _, _, _, _, _, _, _, _, _, _, _, _, _, _, _, _, _, _, _, _, _, _, _, _, _, _, _, _, _, _, _, _], rfl, ?_⟩
  refine wp_false rfl ?_
  refine wp_skip ?_
  refine wp_seq ?_
  refine wp_region rfl rfl ?_
  refine wo_mpv rfl rfl rfl rfl rfl ?_
  refine wo_call (v := RF 0 (ubytes n)) (H' := [_]) rfl rfl rfl rfl rfl rfl ((cl21 _ _ _ _).trans (callRef_new rfl row_ren (putUint_nil hn _ (by omega)))) rfl rfl rfl ?_
  refine wo_buildSlice (H' := [_, _]) rfl rfl rfl rfl (bs35 _ _) rfl ?_
  refine wo_append (v := RF 0 (ubytes n ++ [7])) (H' := [_, _]) t35 rfl rfl rfl rfl rfl rfl rfl rfl (show _ = some ([(7 : Int)].map rowB) from rfl) (RB.app (e := 5) (a := [7]) t35 rfl t5 rfl rfl rfl rfl (by simp) (by simp; omega)) rfl rfl rfl ?_
  refine wo_call (v := .ptr 2 0) (H' := [_, _, _]) rfl rfl rfl rfl rfl rfl ((cl32 _ _ _ _).trans (callPure_rf rfl rfl (read_ok _ _ (by omega)))) rfl rfl rfl ?_
  refine wo_assign (v := .ptr _ _) rfl rfl rfl rfl rfl (fun h => AV.noConfusion h) ?_
  refine wo_nil ?_
  refine ⟨[_, _, _, _, _, _, _, _, _, _, _, _, _, _, _, _, _, _, _, _, _, _, _, _, _, _, _, _, _, _, _, _, _, _, _, _, _, _, _, _, _, _, _, _, _, _, _, _, _, _, _, _, _, _, _, _, _, _, _, _, _, _, _, _, _, _, _, _, _, _, _, _, _, _, _, _, _, _, _, _, _, _, _, _, _, _, _, _, _, _, _, _, _, _, _, _, _, _, _, _, _], rfl, ?_⟩
  refine wp_seq ?_
  refine wp_seq ?_
  refine wp_region rfl rfl ?_
  refine wo_move (v := .ptr _ _) rfl rfl rfl rfl rfl (fun h => AV.noConfusion h) ?_
  refine wo_bint t49 rfl rfl rfl rfl rfl ?_
  refine wo_nil ?_
  refine ⟨[_, _, _, _, _, _, _, _, _, _, _, _, _, _, _, _, _, _, _, _, _, _, _, _, _, _, _, _, _, _, _, _, _, _, _, _, _, _, _, _, _, _, _, _, _, _, _, _, _, _, _, _, _, _, _, _, _, _, _, _, _, _, _, _, _, _, _, _, _, _, _, _, _, _, _, _, _, _, _, _, _, _, _, _, _, _, _, _, _, _, _, _, _, _, _, _, _, _, _, _, _], rfl, ?_⟩
  refine wp_false rfl ?_
  refine wp_skip ?_
  refine wp_seq ?_
  refine wp_region rfl rfl ?_
  refine wo_move (v := .ptr _ _) rfl rfl rfl rfl rfl (fun h => AV.noConfusion h) ?_
  refine wo_mpv rfl rfl rfl rfl rfl ?_
  by_cases hbig : (n : Int) > most
  ·
    rw [if_pos hbig] at o1
    obtain ⟨rfl, rfl⟩ := o1
    refine wo_call (v := .pv _) (H' := [_, _, _]) rfl rfl rfl rfl rfl rfl ((cl33 _ _ _ _).trans (callRef_box rfl rfl rfl rfl rfl (h1))) rfl rfl rfl ?_
    refine wo_apv rfl rfl rfl rfl rfl ?_
    refine wo_nil ?_
    refine ⟨[_, _, _, _, _, _, _, _, _, _, _, _, _, _, _, _, _, _, _, _, _, _, _, _, _, _, _, _, _, _, _, _, _, _, _, _, _, _, _, _, _, _, _, _, _, _, _, _, _, _, _, _, _, _, _, _, _, _, _, _, _, _, _, _, _, _, _, _, _, _, _, _, _, _, _, _, _, _, _, _, _, _, _, _, _, _, _, _, _, _, _, _, _, _, _, _, _, _, _, _, _], rfl, ?_⟩
    refine wp_seq ?_
    refine wp_seq ?_
    refine wp_region rfl rfl ?_
    refine wo_mpv rfl rfl rfl rfl rfl ?_
    refine wo_mpv rfl rfl rfl rfl rfl ?_
    refine wo_bin (v := .pv (.bool true)) rfl rfl rfl rfl (bT hbig) ?_
    refine wo_mpv rfl rfl rfl rfl rfl ?_
    refine wo_mpv rfl rfl rfl rfl rfl ?_
    refine wo_bin (v := .pv (.bool false)) rfl rfl rfl rfl (nF rfl) ?_
    refine wo_mpv rfl rfl rfl rfl rfl ?_
    refine wo_move (v := .ptr _ _) rfl rfl rfl rfl rfl (fun h => AV.noConfusion h) ?_
    refine wo_call (v := .pv _) (H' := [_, _, _]) rfl rfl rfl rfl rfl rfl ((cl34 _ _ _ _).trans (callRef_box rfl rfl rfl rfl rfl (err_ok _ _ _ (by omega)))) rfl rfl rfl ?_
    refine wo_bin (v := .pv (.bool false)) rfl rfl rfl rfl (nF rfl) ?_
    refine wo_pick (v := .pv _) rfl rfl rfl rfl rfl rfl ?_
    refine wo_norm [_, _, _, _, _, _, _, _, _, _, _, _, _, _, _, _, _, _, _, _, _, _, _, _, _, _, _, _, _, _, _, _, _, _, _, _, _, _, _, _, _, _, _, _, _, _, _, _, _, _, _, _, _, _, _, _, _, _, _, _, _, _, _, _, _, _, _, _, _, _, _, _, _, _, _, _, _, _, _, _, _, _, _, _, _, _, _, _, _, _, _, _, _, _, _, _, _, _, _, _, _] rfl ?_
    refine wo_mpv rfl rfl rfl rfl rfl ?_
    refine wo_move (v := .ptr _ _) rfl rfl rfl rfl rfl (fun h => AV.noConfusion h) ?_
    refine wo_call (v := .pv _) (H' := [_, _, _]) rfl rfl rfl rfl rfl rfl ((cl35 _ _ _ _).trans (callRef_box rfl rfl rfl rfl rfl (byte_err _ (by decide) _ (by omega)))) rfl rfl rfl ?_
    refine wo_bin (v := .pv (.bool false)) rfl rfl rfl rfl (nF rfl) ?_
    refine wo_pick (v := .pv _) rfl rfl rfl rfl rfl rfl ?_
    refine wo_mpv rfl rfl rfl rfl rfl ?_
    refine wo_move (v := .ptr _ _) rfl rfl rfl rfl rfl (fun h => AV.noConfusion h) ?_
    refine wo_call (v := .pv _) (H' := [_, _, _]) rfl rfl rfl rfl rfl rfl ((cl36 _ _ _ _).trans (callRef_box rfl rfl rfl rfl rfl (left_err _ (by decide) _ (by omega)))) rfl rfl rfl ?_
    refine wo_bin (v := .pv (.bool false)) rfl rfl rfl rfl (nF rfl) ?_
    refine wo_pick (v := .pv _) rfl rfl rfl rfl rfl rfl ?_
    refine wo_pick (v := .pv _) rfl rfl rfl rfl rfl rfl ?_
    refine wo_mpv rfl rfl rfl rfl rfl ?_
    refine wo_norm [_, _, _, _, _, _, _, _, _, _, _, _, _, _, _, _, _, _, _, _, _, _, _, _, _, _, _, _, _, _, _, _, _, _, _, _, _, _, _, _, _, _, _, _, _, _, _, _, _, _, _, _, _, _, _, _, _, _, _, _, _, _, _, _, _, _, _, _, _, _, _, _, _, _, _, _, _, _, _, _, _, _, _, _, _, _, _, _, _, _, _, _, _, _, _, _, _, _, _, _, _] rfl ?_
    refine wo_mpv rfl rfl rfl rfl rfl ?_
    refine wo_mpv rfl rfl rfl rfl rfl ?_
    refine wo_bin (v := .pv (.bool false)) rfl rfl rfl rfl (bF (by omega)) ?_
    refine wo_mpv rfl rfl rfl rfl rfl ?_
    refine wo_off rfl rfl rfl ?_
    refine wo_off rfl rfl rfl ?_
    refine wo_off rfl rfl rfl ?_
    refine wo_off rfl rfl rfl ?_
    refine wo_off rfl rfl rfl ?_
    refine wo_off rfl rfl rfl ?_
    refine wo_off rfl rfl rfl ?_
    refine wo_off rfl rfl rfl ?_
    refine wo_norm [_, _, _, _, _, _, _, _, _, _, _, _, _, _, _, _, _, _, _, _, _, _, _, _, _, _, _, _, _, _, _, _, _, _, _, _, _, _, _, _, _, _, _, _, _, _, _, _, _, _, _, _, _, _, _, _, _, _, _, _, _, _, _, _, _, _, _, _, _, _, _, _, _, _, _, _, _, _, _, _, _, _, _, _, _, _, _, _, _, _, _, _, _, _, _, _, _, _, _, _, _] rfl ?_
    refine wo_off rfl rfl rfl ?_
    refine wo_off rfl rfl rfl ?_
    refine wo_off rfl rfl rfl ?_
    refine wo_off rfl rfl rfl ?_
    refine wo_off rfl rfl rfl ?_
    refine wo_pick (v := .pv _) rfl rfl rfl rfl rfl rfl ?_
    refine wo_pick (v := .pv _) rfl rfl rfl rfl rfl rfl ?_
    refine wo_nil ?_
    refine ⟨[_, _, _, _, _, _, _, _, _, _, _, _, _, _, _, _, _, _, _, _, _, _, _, _, _, _, _, _, _, _, _, _, _, _, _, _, _, _, _, _, _, _, _, _, _, _, _, _, _, _, _, _, _, _, _, _, _, _, _, _, _, _, _, _, _, _, _, _, _, _, _, _, _, _, _, _, _, _, _, _, _, _, _, _, _, _, _, _, _, _, _, _, _, _, _, _, _, _, _, _, _], rfl, ?_⟩
    refine wp_false rfl ?_
    refine wp_skip ?_
    refine wp_seq ?_
    refine wp_seq ?_
    refine wp_region rfl rfl ?_
    refine wo_mpv rfl rfl rfl rfl rfl ?_
    refine wo_len t9 rfl rfl rfl rfl rfl rfl rfl rfl rfl ?_
    refine wo_bsplit rfl rfl rfl rfl rfl (fun c9_2 => ?_) (fun c9_2 => ?_)
    ·
      refine wo_nil ?_
      refine ⟨[_, _, _, _, _, _, _, _, _, _, _, _, _, _, _, _, _, _, _, _, _, _, _, _, _, _, _, _, _, _, _, _, _, _, _, _, _, _, _, _, _, _, _, _, _, _, _, _, _, _, _, _, _, _, _, _, _, _, _, _, _, _, _, _, _, _, _, _, _, _, _, _, _, _, _, _, _, _, _, _, _, _, _, _, _, _, _, _, _, _, _, _, _, _, _, _, _, _, _, _, _], rfl, ?_⟩
      refine wp_true rfl ?_
      refine wp_seq ?_
      refine wp_region rfl rfl ?_
      refine wo_apv rfl rfl rfl rfl rfl ?_
      refine wo_nil ?_
      refine ⟨[_, _, _, _, _, _, _, _, _, _, _, _, _, _, _, _, _, _, _, _, _, _, _, _, _, _, _, _, _, _, _, _, _, _, _, _, _, _, _, _, _, _, _, _, _, _, _, _, _, _, _, _, _, _, _, _, _, _, _, _, _, _, _, _, _, _, _, _, _, _, _, _, _, _, _, _, _, _, _, _, _, _, _, _, _, _, _, _, _, _, _, _, _, _, _, _, _, _, _, _, _], rfl, ?_⟩
      refine wp_ret ?_
      exact ⟨trivial, _, rfl, leave_pure⟩
    ·
      refine wo_nil ?_
      refine ⟨[_, _, _, _, _, _, _, _, _, _, _, _, _, _, _, _, _, _, _, _, _, _, _, _, _, _, _, _, _, _, _, _, _, _, _, _, _, _, _, _, _, _, _, _, _, _, _, _, _, _, _, _, _, _, _, _, _, _, _, _, _, _, _, _, _, _, _, _, _, _, _, _, _, _, _, _, _, _, _, _, _, _, _, _, _, _, _, _, _, _, _, _, _, _, _, _, _, _, _, _, _], rfl, ?_⟩
      refine wp_false rfl ?_
      refine wp_skip ?_
      refine wp_seq ?_
      refine wp_region rfl rfl ?_
      refine wo_mpv rfl rfl rfl rfl rfl ?_
      refine wo_call (v := RF 3 (ubytes s.size ++ bytesL s)) (H' := [_, _, _, _]) rfl rfl rfl rfl rfl rfl ((cl25 _ _ _ _).trans (callRef_new rfl row_ren (putText_nil (by omega) _ (by omega)))) rfl rfl rfl ?_
      refine wo_call (v := .ptr 4 0) (H' := [_, _, _, _, _]) rfl rfl rfl rfl rfl rfl ((cl32 _ _ _ _).trans (callPure_rf rfl rfl (read_ok _ _ (by omega)))) rfl rfl rfl ?_
      refine wo_assign (v := .ptr _ _) rfl rfl rfl rfl rfl (fun h => AV.noConfusion h) ?_
      refine wo_nil ?_
      refine ⟨[_, _, _, _, _, _, _, _, _, _, _, _, _, _, _, _, _, _, _, _, _, _, _, _, _, _, _, _, _, _, _, _, _, _, _, _, _, _, _, _, _, _, _, _, _, _, _, _, _, _, _, _, _, _, _, _, _, _, _, _, _, _, _, _, _, _, _, _, _, _, _, _, _, _, _, _, _, _, _, _, _, _, _, _, _, _, _, _, _, _, _, _, _, _, _, _, _, _, _, _, _], rfl, ?_⟩
      refine wp_seq ?_
      refine wp_seq ?_
      refine wp_region rfl rfl ?_
      refine wo_move (v := .ptr _ _) rfl rfl rfl rfl rfl (fun h => AV.noConfusion h) ?_
      refine wo_bint t49 rfl rfl rfl rfl rfl ?_
      refine wo_nil ?_
      refine ⟨[_, _, _, _, _, _, _, _, _, _, _, _, _, _, _, _, _, _, _, _, _, _, _, _, _, _, _, _, _, _, _, _, _, _, _, _, _, _, _, _, _, _, _, _, _, _, _, _, _, _, _, _, _, _, _, _, _, _, _, _, _, _, _, _, _, _, _, _, _, _, _, _, _, _, _, _, _, _, _, _, _, _, _, _, _, _, _, _, _, _, _, _, _, _, _, _, _, _, _, _, _], rfl, ?_⟩
      refine wp_false rfl ?_
      refine wp_skip ?_
      refine wp_seq ?_
      refine wp_region rfl rfl ?_
      refine wo_move (v := .ptr _ _) rfl rfl rfl rfl rfl (fun h => AV.noConfusion h) ?_
      refine wo_mpv rfl rfl rfl rfl rfl ?_
      obtain ⟨m, hm⟩ : ∃ m : Nat, max long 0 = m := ⟨(max long 0).toNat, by omega⟩
      obtain ⟨v2, H2, h2, o2⟩ := text_ok (p := .sl ((ubytes s.size ++ bytesL s).map rowB)) (.inl rfl) ((bytes_ubytes _).app (bytesL_range s)) long m hm (by omega) 60 (by omega)
      rw [rdU_put (by omega)] at o2
      have o2 : ite _ _ _ := o2
      have hbl := Go.Ab.bytesL_length s
      by_cases hbig2 : s.size > m
      ·
        rw [if_pos hbig2] at o2
        obtain ⟨rfl, rfl⟩ := o2
        refine wo_call (v := .pv _) (H' := [_, _, _, _, _]) rfl rfl rfl rfl rfl rfl ((cl37 _ _ _ _).trans (callRef_box rfl rfl rfl rfl rfl (h2))) rfl rfl rfl ?_
        refine wo_apv rfl rfl rfl rfl rfl ?_
        refine wo_nil ?_
        refine ⟨[_, _, _, _, _, _, _, _, _, _, _, _, _, _, _, _, _, _, _, _, _, _, _, _, _, _, _, _, _, _, _, _, _, _, _, _, _, _, _, _, _, _, _, _, _, _, _, _, _, _, _, _, _, _, _, _, _, _, _, _, _, _, _, _, _, _, _, _, _, _, _, _, _, _, _, _, _, _, _, _, _, _, _, _, _, _, _, _, _, _, _, _, _, _, _, _, _, _, _, _, _], rfl, ?_⟩
        refine wp_seq ?_
        refine wp_seq ?_
        refine wp_region rfl rfl ?_
        refine wo_mpv rfl rfl rfl rfl rfl ?_
        refine wo_len t9 rfl rfl rfl rfl rfl rfl rfl rfl rfl ?_
        refine wo_mpv rfl rfl rfl rfl rfl ?_
        refine wo_bin (v := .pv (.bool true)) rfl rfl rfl rfl (bT (by omega)) ?_
        refine wo_mpv rfl rfl rfl rfl rfl ?_
        refine wo_mpv rfl rfl rfl rfl rfl ?_
        refine wo_len t9 rfl rfl rfl rfl rfl rfl rfl rfl rfl ?_
        refine wo_bin (v := .pv (.bool true)) rfl rfl rfl rfl (bT (by omega)) ?_
        refine wo_pick (v := .pv _) rfl rfl rfl rfl rfl rfl ?_
        refine wo_nil ?_
        refine ⟨[_, _, _, _, _, _, _, _, _, _, _, _, _, _, _, _, _, _, _, _, _, _, _, _, _, _, _, _, _, _, _, _, _, _, _, _, _, _, _, _, _, _, _, _, _, _, _, _, _, _, _, _, _, _, _, _, _, _, _, _, _, _, _, _, _, _, _, _, _, _, _, _, _, _, _, _, _, _, _, _, _, _, _, _, _, _, _, _, _, _, _, _, _, _, _, _, _, _, _, _, _], rfl, ?_⟩
        refine wp_true rfl ?_
        refine wp_seq ?_
        refine wp_region rfl rfl ?_
        refine wo_mpv rfl rfl rfl rfl rfl ?_
        refine wo_bin (v := .pv (.bool true)) rfl rfl rfl rfl (strEq _) ?_
        refine wo_mpv rfl rfl rfl rfl rfl ?_
        refine wo_move (v := .ptr _ _) rfl rfl rfl rfl rfl (fun h => AV.noConfusion h) ?_
        refine wo_call (v := .pv _) (H' := [_, _, _, _, _]) rfl rfl rfl rfl rfl rfl ((cl34 _ _ _ _).trans (callRef_box rfl rfl rfl rfl rfl (err_ok _ _ _ (by omega)))) rfl rfl rfl ?_
        refine wo_bin (v := .pv (.bool true)) rfl rfl rfl rfl (eT rfl) ?_
        refine wo_pick (v := .pv _) rfl rfl rfl rfl rfl rfl ?_
        refine wo_apv rfl rfl rfl rfl rfl ?_
        refine wo_nil ?_
        refine ⟨[_, _, _, _, _, _, _, _, _, _, _, _, _, _, _, _, _, _, _, _, _, _, _, _, _, _, _, _, _, _, _, _, _, _, _, _, _, _, _, _, _, _, _, _, _, _, _, _, _, _, _, _, _, _, _, _, _, _, _, _, _, _, _, _, _, _, _, _, _, _, _, _, _, _, _, _, _, _, _, _, _, _, _, _, _, _, _, _, _, _, _, _, _, _, _, _, _, _, _, _, _], rfl, ?_⟩
        refine wp_ret ?_
        exact ⟨trivial, _, rfl, leave_pure⟩
      ·
        rw [if_neg hbig2, if_pos (by omega)] at o2
        obtain ⟨r2, hr2, rfl, rfl⟩ := o2
        rw [List.drop_of_length_le (by omega)] at hr2
        rw [List.take_of_length_le (by omega), strOf_bytesL] at h2
        refine wo_call (v := .pv (.str s)) (H' := [_, _, _, _, _]) rfl rfl rfl rfl rfl rfl ((cl37 _ _ _ _).trans (callRef_box rfl rfl rfl rfl rfl (h2))) rfl rfl rfl ?_
        refine wo_apv rfl rfl rfl rfl rfl ?_
        refine wo_nil ?_
        refine ⟨[_, _, _, _, _, _, _, _, _, _, _, _, _, _, _, _, _, _, _, _, _, _, _, _, _, _, _, _, _, _, _, _, _, _, _, _, _, _, _, _, _, _, _, _, _, _, _, _, _, _, _, _, _, _, _, _, _, _, _, _, _, _, _, _, _, _, _, _, _, _, _, _, _, _, _, _, _, _, _, _, _, _, _, _, _, _, _, _, _, _, _, _, _, _, _, _, _, _, _, _, _], rfl, ?_⟩
        refine wp_seq ?_
        refine wp_seq ?_
        refine wp_region rfl rfl ?_
        refine wo_mpv rfl rfl rfl rfl rfl ?_
        refine wo_len t9 rfl rfl rfl rfl rfl rfl rfl rfl rfl ?_
        refine wo_mpv rfl rfl rfl rfl rfl ?_
        refine wo_bsplit rfl rfl rfl rfl rfl (fun c15_3 => ?_) (fun c15_3 => ?_)
        ·
          refine wo_mpv rfl rfl rfl rfl rfl ?_
          refine wo_mpv rfl rfl rfl rfl rfl ?_
          refine wo_len t9 rfl rfl rfl rfl rfl rfl rfl rfl rfl ?_
          refine wo_bin (v := .pv (.bool false)) rfl rfl rfl rfl (bF (by omega)) ?_
          refine wo_pick (v := .pv _) rfl rfl rfl rfl rfl rfl ?_
          refine wo_nil ?_
          refine ⟨[_, _, _, _, _, _, _, _, _, _, _, _, _, _, _, _, _, _, _, _, _, _, _, _, _, _, _, _, _, _, _, _, _, _, _, _, _, _, _, _, _, _, _, _, _, _, _, _, _, _, _, _, _, _, _, _, _, _, _, _, _, _, _, _, _, _, _, _, _, _, _, _, _, _, _, _, _, _, _, _, _, _, _, _, _, _, _, _, _, _, _, _, _, _, _, _, _, _, _, _, _], rfl, ?_⟩
          refine wp_false rfl ?_
          refine wp_skip ?_
          refine wp_seq ?_
          refine wp_region rfl rfl ?_
          refine wo_mpv rfl rfl rfl rfl rfl ?_
          refine wo_mpv rfl rfl rfl rfl rfl ?_
          refine wo_bin (v := .pv (.bool true)) rfl rfl rfl rfl (strEq _) ?_
          refine wo_mpv rfl rfl rfl rfl rfl ?_
          refine wo_move (v := .ptr _ _) rfl rfl rfl rfl rfl (fun h => AV.noConfusion h) ?_
          refine wo_call (v := .pv _) (H' := [_, _, _, _, _]) rfl rfl rfl rfl rfl rfl ((cl38 _ _ _ _).trans (callRef_box rfl rfl rfl rfl rfl (end_ok hr2 _ (by omega)))) rfl rfl rfl ?_
          refine wo_bin (v := .pv (.bool true)) rfl rfl rfl rfl (eT rfl) ?_
          refine wo_pick (v := .pv _) rfl rfl rfl rfl rfl rfl ?_
          refine wo_apv rfl rfl rfl rfl rfl ?_
          refine wo_nil ?_
          refine ⟨[_, _, _, _, _, _, _, _, _, _, _, _, _, _, _, _, _, _, _, _, _, _, _, _, _, _, _, _, _, _, _, _, _, _, _, _, _, _, _, _, _, _, _, _, _, _, _, _, _, _, _, _, _, _, _, _, _, _, _, _, _, _, _, _, _, _, _, _, _, _, _, _, _, _, _, _, _, _, _, _, _, _, _, _, _, _, _, _, _, _, _, _, _, _, _, _, _, _, _, _, _], rfl, ?_⟩
          refine wp_ret ?_
          exact ⟨trivial, _, rfl, leave_pure⟩
        ·
          refine wo_mpv rfl rfl rfl rfl rfl ?_
          refine wo_off rfl rfl rfl ?_
          refine wo_off rfl rfl rfl ?_
          refine wo_off rfl rfl rfl ?_
          refine wo_pick (v := .pv _) rfl rfl rfl rfl rfl rfl ?_
          refine wo_nil ?_
          refine ⟨[_, _, _, _, _, _, _, _, _, _, _, _, _, _, _, _, _, _, _, _, _, _, _, _, _, _, _, _, _, _, _, _, _, _, _, _, _, _, _, _, _, _, _, _, _, _, _, _, _, _, _, _, _, _, _, _, _, _, _, _, _, _, _, _, _, _, _, _, _, _, _, _, _, _, _, _, _, _, _, _, _, _, _, _, _, _, _, _, _, _, _, _, _, _, _, _, _, _, _, _, _], rfl, ?_⟩
          refine wp_false rfl ?_
          refine wp_skip ?_
          refine wp_seq ?_
          refine wp_region rfl rfl ?_
          refine wo_mpv rfl rfl rfl rfl rfl ?_
          refine wo_mpv rfl rfl rfl rfl rfl ?_
          refine wo_bin (v := .pv (.bool true)) rfl rfl rfl rfl (strEq _) ?_
          refine wo_mpv rfl rfl rfl rfl rfl ?_
          refine wo_move (v := .ptr _ _) rfl rfl rfl rfl rfl (fun h => AV.noConfusion h) ?_
          refine wo_call (v := .pv _) (H' := [_, _, _, _, _]) rfl rfl rfl rfl rfl rfl ((cl38 _ _ _ _).trans (callRef_box rfl rfl rfl rfl rfl (end_ok hr2 _ (by omega)))) rfl rfl rfl ?_
          refine wo_bin (v := .pv (.bool true)) rfl rfl rfl rfl (eT rfl) ?_
          refine wo_pick (v := .pv _) rfl rfl rfl rfl rfl rfl ?_
          refine wo_apv rfl rfl rfl rfl rfl ?_
          refine wo_nil ?_
          refine ⟨[_, _, _, _, _, _, _, _, _, _, _, _, _, _, _, _, _, _, _, _, _, _, _, _, _, _, _, _, _, _, _, _, _, _, _, _, _, _, _, _, _, _, _, _, _, _, _, _, _, _, _, _, _, _, _, _, _, _, _, _, _, _, _, _, _, _, _, _, _, _, _, _, _, _, _, _, _, _, _, _, _, _, _, _, _, _, _, _, _, _, _, _, _, _, _, _, _, _, _, _, _], rfl, ?_⟩
          refine wp_ret ?_
          exact ⟨trivial, _, rfl, leave_pure⟩
  ·
    rw [if_neg hbig] at o1
    obtain ⟨r, hr, rfl, rfl⟩ := o1
    obtain ⟨r3, v3, H3, h3, hr3, rfl, rfl⟩ := byte_ok hr (fun x hx => by simp at hx; omega) 60 (by omega)
    refine wo_call (v := .pv _) (H' := [_, _, _]) rfl rfl rfl rfl rfl rfl ((cl33 _ _ _ _).trans (callRef_box rfl rfl rfl rfl rfl (h1))) rfl rfl rfl ?_
    refine wo_apv rfl rfl rfl rfl rfl ?_
    refine wo_nil ?_
    refine ⟨[_, _, _, _, _, _, _, _, _, _, _, _, _, _, _, _, _, _, _, _, _, _, _, _, _, _, _, _, _, _, _, _, _, _, _, _, _, _, _, _, _, _, _, _, _, _, _, _, _, _, _, _, _, _, _, _, _, _, _, _, _, _, _, _, _, _, _, _, _, _, _, _, _, _, _, _, _, _, _, _, _, _, _, _, _, _, _, _, _, _, _, _, _, _, _, _, _, _, _, _, _], rfl, ?_⟩
    refine wp_seq ?_
    refine wp_seq ?_
    refine wp_region rfl rfl ?_
    refine wo_mpv rfl rfl rfl rfl rfl ?_
    refine wo_mpv rfl rfl rfl rfl rfl ?_
    refine wo_bin (v := .pv (.bool false)) rfl rfl rfl rfl (bF hbig) ?_
    refine wo_mpv rfl rfl rfl rfl rfl ?_
    refine wo_off rfl rfl rfl ?_
    refine wo_off rfl rfl rfl ?_
    refine wo_off rfl rfl rfl ?_
    refine wo_off rfl rfl rfl ?_
    refine wo_off rfl rfl rfl ?_
    refine wo_off rfl rfl rfl ?_
    refine wo_off rfl rfl rfl ?_
    refine wo_norm [_, _, _, _, _, _, _, _, _, _, _, _, _, _, _, _, _, _, _, _, _, _, _, _, _, _, _, _, _, _, _, _, _, _, _, _, _, _, _, _, _, _, _, _, _, _, _, _, _, _, _, _, _, _, _, _, _, _, _, _, _, _, _, _, _, _, _, _, _, _, _, _, _, _, _, _, _, _, _, _, _, _, _, _, _, _, _, _, _, _, _, _, _, _, _, _, _, _, _, _, _] rfl ?_
    refine wo_off rfl rfl rfl ?_
    refine wo_off rfl rfl rfl ?_
    refine wo_off rfl rfl rfl ?_
    refine wo_off rfl rfl rfl ?_
    refine wo_off rfl rfl rfl ?_
    refine wo_off rfl rfl rfl ?_
    refine wo_off rfl rfl rfl ?_
    refine wo_off rfl rfl rfl ?_
    refine wo_off rfl rfl rfl ?_
    refine wo_off rfl rfl rfl ?_
    refine wo_pick (v := .pv _) rfl rfl rfl rfl rfl rfl ?_
    refine wo_mpv rfl rfl rfl rfl rfl ?_
    refine wo_norm [_, _, _, _, _, _, _, _, _, _, _, _, _, _, _, _, _, _, _, _, _, _, _, _, _, _, _, _, _, _, _, _, _, _, _, _, _, _, _, _, _, _, _, _, _, _, _, _, _, _, _, _, _, _, _, _, _, _, _, _, _, _, _, _, _, _, _, _, _, _, _, _, _, _, _, _, _, _, _, _, _, _, _, _, _, _, _, _, _, _, _, _, _, _, _, _, _, _, _, _, _] rfl ?_
    refine wo_mpv rfl rfl rfl rfl rfl ?_
    refine wo_mpv rfl rfl rfl rfl rfl ?_
    refine wo_bin (v := .pv (.bool true)) rfl rfl rfl rfl (bT (by omega)) ?_
    refine wo_mpv rfl rfl rfl rfl rfl ?_
    refine wo_mpv rfl rfl rfl rfl rfl ?_
    refine wo_mpv rfl rfl rfl rfl rfl ?_
    refine wo_bin (v := .pv (.bool false)) rfl rfl rfl rfl (nF rfl) ?_
    refine wo_mpv rfl rfl rfl rfl rfl ?_
    refine wo_move (v := .ptr _ _) rfl rfl rfl rfl rfl (fun h => AV.noConfusion h) ?_
    refine wo_call (v := .pv _) (H' := [_, _, _]) rfl rfl rfl rfl rfl rfl ((cl36 _ _ _ _).trans (callRef_box rfl rfl rfl rfl rfl (left_ok hr _ (by omega)))) rfl rfl rfl ?_
    refine wo_bin (v := .pv (.bool false)) rfl rfl rfl rfl (nF rfl) ?_
    refine wo_pick (v := .pv _) rfl rfl rfl rfl rfl rfl ?_
    refine wo_norm [_, _, _, _, _, _, _, _, _, _, _, _, _, _, _, _, _, _, _, _, _, _, _, _, _, _, _, _, _, _, _, _, _, _, _, _, _, _, _, _, _, _, _, _, _, _, _, _, _, _, _, _, _, _, _, _, _, _, _, _, _, _, _, _, _, _, _, _, _, _, _, _, _, _, _, _, _, _, _, _, _, _, _, _, _, _, _, _, _, _, _, _, _, _, _, _, _, _, _, _, _] rfl ?_
    refine wo_mpv rfl rfl rfl rfl rfl ?_
    refine wo_move (v := .ptr _ _) rfl rfl rfl rfl rfl (fun h => AV.noConfusion h) ?_
    refine wo_call (v := .pv _) (H' := [_, _, _]) rfl rfl rfl rfl rfl rfl ((cl35 _ _ _ _).trans (callRef_box rfl rfl rfl rfl rfl (h3))) rfl rfl rfl ?_
    refine wo_bin (v := .pv (.bool false)) rfl rfl rfl rfl (nF rfl) ?_
    refine wo_pick (v := .pv _) rfl rfl rfl rfl rfl rfl ?_
    refine wo_pick (v := .pv _) rfl rfl rfl rfl rfl rfl ?_
    refine wo_pick (v := .pv _) rfl rfl rfl rfl rfl rfl ?_
    refine wo_nil ?_
    refine ⟨[_, _, _, _, _, _, _, _, _, _, _, _, _, _, _, _, _, _, _, _, _, _, _, _, _, _, _, _, _, _, _, _, _, _, _, _, _, _, _, _, _, _, _, _, _, _, _, _, _, _, _, _, _, _, _, _, _, _, _, _, _, _, _, _, _, _, _, _, _, _, _, _, _, _, _, _, _, _, _, _, _, _, _, _, _, _, _, _, _, _, _, _, _, _, _, _, _, _, _, _, _], rfl, ?_⟩
    refine wp_false rfl ?_
    refine wp_skip ?_
    refine wp_seq ?_
    refine wp_seq ?_
    refine wp_region rfl rfl ?_
    refine wo_mpv rfl rfl rfl rfl rfl ?_
    refine wo_len t9 rfl rfl rfl rfl rfl rfl rfl rfl rfl ?_
    refine wo_bsplit rfl rfl rfl rfl rfl (fun c9_2 => ?_) (fun c9_2 => ?_)
    ·
      refine wo_nil ?_
      refine ⟨[_, _, _, _, _, _, _, _, _, _, _, _, _, _, _, _, _, _, _, _, _, _, _, _, _, _, _, _, _, _, _, _, _, _, _, _, _, _, _, _, _, _, _, _, _, _, _, _, _, _, _, _, _, _, _, _, _, _, _, _, _, _, _, _, _, _, _, _, _, _, _, _, _, _, _, _, _, _, _, _, _, _, _, _, _, _, _, _, _, _, _, _, _, _, _, _, _, _, _, _, _], rfl, ?_⟩
      refine wp_true rfl ?_
      refine wp_seq ?_
      refine wp_region rfl rfl ?_
      refine wo_apv rfl rfl rfl rfl rfl ?_
      refine wo_nil ?_
      refine ⟨[_, _, _, _, _, _, _, _, _, _, _, _, _, _, _, _, _, _, _, _, _, _, _, _, _, _, _, _, _, _, _, _, _, _, _, _, _, _, _, _, _, _, _, _, _, _, _, _, _, _, _, _, _, _, _, _, _, _, _, _, _, _, _, _, _, _, _, _, _, _, _, _, _, _, _, _, _, _, _, _, _, _, _, _, _, _, _, _, _, _, _, _, _, _, _, _, _, _, _, _, _], rfl, ?_⟩
      refine wp_ret ?_
      exact ⟨trivial, _, rfl, leave_pure⟩
    ·
      refine wo_nil ?_
      refine ⟨[_, _, _, _, _, _, _, _, _, _, _, _, _, _, _, _, _, _, _, _, _, _, _, _, _, _, _, _, _, _, _, _, _, _, _, _, _, _, _, _, _, _, _, _, _, _, _, _, _, _, _, _, _, _, _, _, _, _, _, _, _, _, _, _, _, _, _, _, _, _, _, _, _, _, _, _, _, _, _, _, _, _, _, _, _, _, _, _, _, _, _, _, _, _, _, _, _, _, _, _, _], rfl, ?_⟩
      refine wp_false rfl ?_
      refine wp_skip ?_
      refine wp_seq ?_
      refine wp_region rfl rfl ?_
      refine wo_mpv rfl rfl rfl rfl rfl ?_
      refine wo_call (v := RF 3 (ubytes s.size ++ bytesL s)) (H' := [_, _, _, _]) rfl rfl rfl rfl rfl rfl ((cl25 _ _ _ _).trans (callRef_new rfl row_ren (putText_nil (by omega) _ (by omega)))) rfl rfl rfl ?_
      refine wo_call (v := .ptr 4 0) (H' := [_, _, _, _, _]) rfl rfl rfl rfl rfl rfl ((cl32 _ _ _ _).trans (callPure_rf rfl rfl (read_ok _ _ (by omega)))) rfl rfl rfl ?_
      refine wo_assign (v := .ptr _ _) rfl rfl rfl rfl rfl (fun h => AV.noConfusion h) ?_
      refine wo_nil ?_
      refine ⟨[_, _, _, _, _, _, _, _, _, _, _, _, _, _, _, _, _, _, _, _, _, _, _, _, _, _, _, _, _, _, _, _, _, _, _, _, _, _, _, _, _, _, _, _, _, _, _, _, _, _, _, _, _, _, _, _, _, _, _, _, _, _, _, _, _, _, _, _, _, _, _, _, _, _, _, _, _, _, _, _, _, _, _, _, _, _, _, _, _, _, _, _, _, _, _, _, _, _, _, _, _], rfl, ?_⟩
      refine wp_seq ?_
      refine wp_seq ?_
      refine wp_region rfl rfl ?_
      refine wo_move (v := .ptr _ _) rfl rfl rfl rfl rfl (fun h => AV.noConfusion h) ?_
      refine wo_bint t49 rfl rfl rfl rfl rfl ?_
      refine wo_nil ?_
      refine ⟨[_, _, _, _, _, _, _, _, _, _, _, _, _, _, _, _, _, _, _, _, _, _, _, _, _, _, _, _, _, _, _, _, _, _, _, _, _, _, _, _, _, _, _, _, _, _, _, _, _, _, _, _, _, _, _, _, _, _, _, _, _, _, _, _, _, _, _, _, _, _, _, _, _, _, _, _, _, _, _, _, _, _, _, _, _, _, _, _, _, _, _, _, _, _, _, _, _, _, _, _, _], rfl, ?_⟩
      refine wp_false rfl ?_
      refine wp_skip ?_
      refine wp_seq ?_
      refine wp_region rfl rfl ?_
      refine wo_move (v := .ptr _ _) rfl rfl rfl rfl rfl (fun h => AV.noConfusion h) ?_
      refine wo_mpv rfl rfl rfl rfl rfl ?_
      obtain ⟨m, hm⟩ : ∃ m : Nat, max long 0 = m := ⟨(max long 0).toNat, by omega⟩
      obtain ⟨v2, H2, h2, o2⟩ := text_ok (p := .sl ((ubytes s.size ++ bytesL s).map rowB)) (.inl rfl) ((bytes_ubytes _).app (bytesL_range s)) long m hm (by omega) 60 (by omega)
      rw [rdU_put (by omega)] at o2
      have o2 : ite _ _ _ := o2
      have hbl := Go.Ab.bytesL_length s
      by_cases hbig2 : s.size > m
      ·
        rw [if_pos hbig2] at o2
        obtain ⟨rfl, rfl⟩ := o2
        refine wo_call (v := .pv _) (H' := [_, _, _, _, _]) rfl rfl rfl rfl rfl rfl ((cl37 _ _ _ _).trans (callRef_box rfl rfl rfl rfl rfl (h2))) rfl rfl rfl ?_
        refine wo_apv rfl rfl rfl rfl rfl ?_
        refine wo_nil ?_
        refine ⟨[_, _, _, _, _, _, _, _, _, _, _, _, _, _, _, _, _, _, _, _, _, _, _, _, _, _, _, _, _, _, _, _, _, _, _, _, _, _, _, _, _, _, _, _, _, _, _, _, _, _, _, _, _, _, _, _, _, _, _, _, _, _, _, _, _, _, _, _, _, _, _, _, _, _, _, _, _, _, _, _, _, _, _, _, _, _, _, _, _, _, _, _, _, _, _, _, _, _, _, _, _], rfl, ?_⟩
        refine wp_seq ?_
        refine wp_seq ?_
        refine wp_region rfl rfl ?_
        refine wo_mpv rfl rfl rfl rfl rfl ?_
        refine wo_len t9 rfl rfl rfl rfl rfl rfl rfl rfl rfl ?_
        refine wo_mpv rfl rfl rfl rfl rfl ?_
        refine wo_bin (v := .pv (.bool true)) rfl rfl rfl rfl (bT (by omega)) ?_
        refine wo_mpv rfl rfl rfl rfl rfl ?_
        refine wo_mpv rfl rfl rfl rfl rfl ?_
        refine wo_len t9 rfl rfl rfl rfl rfl rfl rfl rfl rfl ?_
        refine wo_bin (v := .pv (.bool true)) rfl rfl rfl rfl (bT (by omega)) ?_
        refine wo_pick (v := .pv _) rfl rfl rfl rfl rfl rfl ?_
        refine wo_nil ?_
        refine ⟨[_, _, _, _, _, _, _, _, _, _, _, _, _, _, _, _, _, _, _, _, _, _, _, _, _, _, _, _, _, _, _, _, _, _, _, _, _, _, _, _, _, _, _, _, _, _, _, _, _, _, _, _, _, _, _, _, _, _, _, _, _, _, _, _, _, _, _, _, _, _, _, _, _, _, _, _, _, _, _, _, _, _, _, _, _, _, _, _, _, _, _, _, _, _, _, _, _, _, _, _, _], rfl, ?_⟩
        refine wp_true rfl ?_
        refine wp_seq ?_
        refine wp_region rfl rfl ?_
        refine wo_mpv rfl rfl rfl rfl rfl ?_
        refine wo_bin (v := .pv (.bool true)) rfl rfl rfl rfl (strEq _) ?_
        refine wo_mpv rfl rfl rfl rfl rfl ?_
        refine wo_move (v := .ptr _ _) rfl rfl rfl rfl rfl (fun h => AV.noConfusion h) ?_
        refine wo_call (v := .pv _) (H' := [_, _, _, _, _]) rfl rfl rfl rfl rfl rfl ((cl34 _ _ _ _).trans (callRef_box rfl rfl rfl rfl rfl (err_ok _ _ _ (by omega)))) rfl rfl rfl ?_
        refine wo_bin (v := .pv (.bool true)) rfl rfl rfl rfl (eT rfl) ?_
        refine wo_pick (v := .pv _) rfl rfl rfl rfl rfl rfl ?_
        refine wo_apv rfl rfl rfl rfl rfl ?_
        refine wo_nil ?_
        refine ⟨[_, _, _, _, _, _, _, _, _, _, _, _, _, _, _, _, _, _, _, _, _, _, _, _, _, _, _, _, _, _, _, _, _, _, _, _, _, _, _, _, _, _, _, _, _, _, _, _, _, _, _, _, _, _, _, _, _, _, _, _, _, _, _, _, _, _, _, _, _, _, _, _, _, _, _, _, _, _, _, _, _, _, _, _, _, _, _, _, _, _, _, _, _, _, _, _, _, _, _, _, _], rfl, ?_⟩
        refine wp_ret ?_
        exact ⟨trivial, _, rfl, leave_pure⟩
      ·
        rw [if_neg hbig2, if_pos (by omega)] at o2
        obtain ⟨r2, hr2, rfl, rfl⟩ := o2
        rw [List.drop_of_length_le (by omega)] at hr2
        rw [List.take_of_length_le (by omega), strOf_bytesL] at h2
        refine wo_call (v := .pv (.str s)) (H' := [_, _, _, _, _]) rfl rfl rfl rfl rfl rfl ((cl37 _ _ _ _).trans (callRef_box rfl rfl rfl rfl rfl (h2))) rfl rfl rfl ?_
        refine wo_apv rfl rfl rfl rfl rfl ?_
        refine wo_nil ?_
        refine ⟨[_, _, _, _, _, _, _, _, _, _, _, _, _, _, _, _, _, _, _, _, _, _, _, _, _, _, _, _, _, _, _, _, _, _, _, _, _, _, _, _, _, _, _, _, _, _, _, _, _, _, _, _, _, _, _, _, _, _, _, _, _, _, _, _, _, _, _, _, _, _, _, _, _, _, _, _, _, _, _, _, _, _, _, _, _, _, _, _, _, _, _, _, _, _, _, _, _, _, _, _, _], rfl, ?_⟩
        refine wp_seq ?_
        refine wp_seq ?_
        refine wp_region rfl rfl ?_
        refine wo_mpv rfl rfl rfl rfl rfl ?_
        refine wo_len t9 rfl rfl rfl rfl rfl rfl rfl rfl rfl ?_
        refine wo_mpv rfl rfl rfl rfl rfl ?_
        refine wo_bsplit rfl rfl rfl rfl rfl (fun c15_3 => ?_) (fun c15_3 => ?_)
        ·
          refine wo_mpv rfl rfl rfl rfl rfl ?_
          refine wo_mpv rfl rfl rfl rfl rfl ?_
          refine wo_len t9 rfl rfl rfl rfl rfl rfl rfl rfl rfl ?_
          refine wo_bin (v := .pv (.bool false)) rfl rfl rfl rfl (bF (by omega)) ?_
          refine wo_pick (v := .pv _) rfl rfl rfl rfl rfl rfl ?_
          refine wo_nil ?_
          refine ⟨[_, _, _, _, _, _, _, _, _, _, _, _, _, _, _, _, _, _, _, _, _, _, _, _, _, _, _, _, _, _, _, _, _, _, _, _, _, _, _, _, _, _, _, _, _, _, _, _, _, _, _, _, _, _, _, _, _, _, _, _, _, _, _, _, _, _, _, _, _, _, _, _, _, _, _, _, _, _, _, _, _, _, _, _, _, _, _, _, _, _, _, _, _, _, _, _, _, _, _, _, _], rfl, ?_⟩
          refine wp_false rfl ?_
          refine wp_skip ?_
          refine wp_seq ?_
          refine wp_region rfl rfl ?_
          refine wo_mpv rfl rfl rfl rfl rfl ?_
          refine wo_mpv rfl rfl rfl rfl rfl ?_
          refine wo_bin (v := .pv (.bool true)) rfl rfl rfl rfl (strEq _) ?_
          refine wo_mpv rfl rfl rfl rfl rfl ?_
          refine wo_move (v := .ptr _ _) rfl rfl rfl rfl rfl (fun h => AV.noConfusion h) ?_
          refine wo_call (v := .pv _) (H' := [_, _, _, _, _]) rfl rfl rfl rfl rfl rfl ((cl38 _ _ _ _).trans (callRef_box rfl rfl rfl rfl rfl (end_ok hr2 _ (by omega)))) rfl rfl rfl ?_
          refine wo_bin (v := .pv (.bool true)) rfl rfl rfl rfl (eT rfl) ?_
          refine wo_pick (v := .pv _) rfl rfl rfl rfl rfl rfl ?_
          refine wo_apv rfl rfl rfl rfl rfl ?_
          refine wo_nil ?_
          refine ⟨[_, _, _, _, _, _, _, _, _, _, _, _, _, _, _, _, _, _, _, _, _, _, _, _, _, _, _, _, _, _, _, _, _, _, _, _, _, _, _, _, _, _, _, _, _, _, _, _, _, _, _, _, _, _, _, _, _, _, _, _, _, _, _, _, _, _, _, _, _, _, _, _, _, _, _, _, _, _, _, _, _, _, _, _, _, _, _, _, _, _, _, _, _, _, _, _, _, _, _, _, _], rfl, ?_⟩
          refine wp_ret ?_
          exact ⟨trivial, _, rfl, leave_pure⟩
        ·
          refine wo_mpv rfl rfl rfl rfl rfl ?_
          refine wo_off rfl rfl rfl ?_
          refine wo_off rfl rfl rfl ?_
          refine wo_off rfl rfl rfl ?_
          refine wo_pick (v := .pv _) rfl rfl rfl rfl rfl rfl ?_
          refine wo_nil ?_
          refine ⟨[_, _, _, _, _, _, _, _, _, _, _, _, _, _, _, _, _, _, _, _, _, _, _, _, _, _, _, _, _, _, _, _, _, _, _, _, _, _, _, _, _, _, _, _, _, _, _, _, _, _, _, _, _, _, _, _, _, _, _, _, _, _, _, _, _, _, _, _, _, _, _, _, _, _, _, _, _, _, _, _, _, _, _, _, _, _, _, _, _, _, _, _, _, _, _, _, _, _, _, _, _], rfl, ?_⟩
          refine wp_false rfl ?_
          refine wp_skip ?_
          refine wp_seq ?_
          refine wp_region rfl rfl ?_
          refine wo_mpv rfl rfl rfl rfl rfl ?_
          refine wo_mpv rfl rfl rfl rfl rfl ?_
          refine wo_bin (v := .pv (.bool true)) rfl rfl rfl rfl (strEq _) ?_
          refine wo_mpv rfl rfl rfl rfl rfl ?_
          refine wo_move (v := .ptr _ _) rfl rfl rfl rfl rfl (fun h => AV.noConfusion h) ?_
          refine wo_call (v := .pv _) (H' := [_, _, _, _, _]) rfl rfl rfl rfl rfl rfl ((cl38 _ _ _ _).trans (callRef_box rfl rfl rfl rfl rfl (end_ok hr2 _ (by omega)))) rfl rfl rfl ?_
          refine wo_bin (v := .pv (.bool true)) rfl rfl rfl rfl (eT rfl) ?_
          refine wo_pick (v := .pv _) rfl rfl rfl rfl rfl rfl ?_
          refine wo_apv rfl rfl rfl rfl rfl ?_
          refine wo_nil ?_
          refine ⟨[_, _, _, _, _, _, _, _, _, _, _, _, _, _, _, _, _, _, _, _, _, _, _, _, _, _, _, _, _, _, _, _, _, _, _, _, _, _, _, _, _, _, _, _, _, _, _, _, _, _, _, _, _, _, _, _, _, _, _, _, _, _, _, _, _, _, _, _, _, _, _, _, _, _, _, _, _, _, _, _, _, _, _, _, _, _, _, _, _, _, _, _, _, _, _, _, _, _, _, _, _], rfl, ?_⟩
          refine wp_ret ?_
          exact ⟨trivial, _, rfl, leave_pure⟩
end Go.Ab.Ytknmgphnkfeifaa
