import Derived.Test.YtknmgphnkfeifaaR3
import Derived.Test.YtknmgphnkfeifaaAbStr
namespace Go.Ab.Ytknmgphnkfeifaa
open Go Go.Ab
open Go.Proofs.Try
set_option maxRecDepth 100000
set_option linter.unusedSimpArgs false
set_option linter.unusedVariables false

/-- What Text tells. -/
def TOut (x : Option (Nat × List Int)) (m : Nat) (v : AV) (H : List Blk) : Prop :=
  match x with
  | some (n, rest) => if n > m then v = .pv (.str ByteArray.empty) ∧ H = [.box (bx .nils 3) false] else
      if n ≤ rest.length then ∃ r, SL r (rest.drop n) ∧ v = .pv (.str (strOf (rest.take n))) ∧ H = [.box (bx r 0) false]
      else v = .pv (.str (strOf [])) ∧ H = [.box (bx .nils 21) false]
  | none => ∃ e', e' ≠ 0 ∧ v = .pv (.str ByteArray.empty) ∧ H = [.box (bx .nils e') false]
theorem text_ok {p : PV} {l : List Int} (hp : SL p l) (hl : Bytes l) (most : Int) (m : Nat) (hm : max most 0 = m) (hm2 : m < 9223372036854775808) (N : Nat) (hN : 24 ≤ N) :
    ∃ v H', call G N 37 [.ptr 0 0, .pv (.int .i64 most)] [.box (bx p 0) false] = some (.ret v, H') ∧ TOut (rdU 10 0 0 l) m v H' := by
  obtain ⟨N, rfl⟩ : ∃ M, N = M + 1 := ⟨N - 1, by omega⟩
  obtain ⟨v1, H1, h1, o1⟩ := uint_ok hp hl (m : Int) N (by omega)
  rcases hx : rdU 10 0 0 l with _ | ⟨n, rest⟩
  · rw [hx] at o1
    obtain ⟨e', he', rfl, rfl⟩ := o1
    refine call_wp func37 rfl (show _ = [_, _, _, _, _, _, _, _, _, _, _, _, _, _, _, _, _, _, _, _, _, _, _, _, _] from rfl) ?_
    refine wp_seq ?_
    refine wp_region rfl rfl ?_
    refine wo_apv rfl rfl rfl rfl rfl ?_
    refine wo_nil ?_
    refine ⟨[_, _, _, _, _, _, _, _, _, _, _, _, _, _, _, _, _, _, _, _, _, _, _, _, _], rfl, ?_⟩
    refine wp_seq ?_
    refine wp_region rfl rfl ?_
    refine wo_move (v := .ptr _ _) rfl rfl rfl rfl rfl (fun h => AV.noConfusion h) ?_
    refine wo_mpv rfl rfl rfl rfl rfl ?_
    refine wo_fold (v := .pv (.int .i64 m)) (.inr ⟨rfl, rfl⟩) rfl rfl rfl rfl rfl rfl (iV (by rw [← hm]; split <;> omega)) rfl ?_
    refine wo_conv (v := .pv (.int .u64 m)) rfl rfl rfl rfl ((wconv t3 t36 rfl rfl).trans (iV (wrapU64 (by omega) (by omega)))) rfl ?_
    refine wo_call (v := .pv _) (H' := [_]) rfl rfl rfl rfl rfl rfl ((cl33 _ _ _ _).trans (callRef_box rfl rfl rfl rfl rfl (h1))) rfl rfl rfl ?_
    refine wo_apv rfl rfl rfl rfl rfl ?_
    refine wo_nil ?_
    refine ⟨[_, _, _, _, _, _, _, _, _, _, _, _, _, _, _, _, _, _, _, _, _, _, _, _, _], rfl, ?_⟩
    refine wp_seq ?_
    refine wp_seq ?_
    refine wp_region rfl rfl ?_
    refine wo_move (v := .ptr _ _) rfl rfl rfl rfl rfl (fun h => AV.noConfusion h) ?_
    refine wo_call (v := .pv (.bool false)) (H' := [_]) rfl rfl rfl rfl rfl rfl ((cl52 _ _ _ _).trans (callRef_box rfl rfl rfl rfl rfl (ready_err (by omega) _ (by omega)))) rfl rfl rfl ?_
    refine wo_un rfl rfl rfl rfl rfl ?_
    refine wo_nil ?_
    refine ⟨[_, _, _, _, _, _, _, _, _, _, _, _, _, _, _, _, _, _, _, _, _, _, _, _, _], rfl, ?_⟩
    refine wp_true rfl ?_
    refine wp_seq ?_
    refine wp_region rfl rfl ?_
    refine wo_apv rfl rfl rfl rfl rfl ?_
    refine wo_nil ?_
    refine ⟨[_, _, _, _, _, _, _, _, _, _, _, _, _, _, _, _, _, _, _, _, _, _, _, _, _], rfl, ?_⟩
    refine wp_ret ?_
    exact ⟨trivial, _, rfl, _, _, leave_same (.inl rfl) rfl, e', he', rfl, rfl⟩
  · rw [hx] at o1
    have hb := rdU_bound 10 0 0 l hl (by decide) (by omega) n rest hx
    by_cases hbig : (n : Int) > m
    · have o1 : ite _ _ _ := o1
      rw [if_pos hbig] at o1
      obtain ⟨rfl, rfl⟩ := o1
      show ∃ v H', _ ∧ ite _ _ _
      simp only [if_pos (show n > m by omega)]
      refine call_wp func37 rfl (show _ = [_, _, _, _, _, _, _, _, _, _, _, _, _, _, _, _, _, _, _, _, _, _, _, _, _] from rfl) ?_
      refine wp_seq ?_
      refine wp_region rfl rfl ?_
      refine wo_apv rfl rfl rfl rfl rfl ?_
      refine wo_nil ?_
      refine ⟨[_, _, _, _, _, _, _, _, _, _, _, _, _, _, _, _, _, _, _, _, _, _, _, _, _], rfl, ?_⟩
      refine wp_seq ?_
      refine wp_region rfl rfl ?_
      refine wo_move (v := .ptr _ _) rfl rfl rfl rfl rfl (fun h => AV.noConfusion h) ?_
      refine wo_mpv rfl rfl rfl rfl rfl ?_
      refine wo_fold (v := .pv (.int .i64 m)) (.inr ⟨rfl, rfl⟩) rfl rfl rfl rfl rfl rfl (iV (by rw [← hm]; split <;> omega)) rfl ?_
      refine wo_conv (v := .pv (.int .u64 m)) rfl rfl rfl rfl ((wconv t3 t36 rfl rfl).trans (iV (wrapU64 (by omega) (by omega)))) rfl ?_
      refine wo_call (v := .pv _) (H' := [_]) rfl rfl rfl rfl rfl rfl ((cl33 _ _ _ _).trans (callRef_box rfl rfl rfl rfl rfl (h1))) rfl rfl rfl ?_
      refine wo_apv rfl rfl rfl rfl rfl ?_
      refine wo_nil ?_
      refine ⟨[_, _, _, _, _, _, _, _, _, _, _, _, _, _, _, _, _, _, _, _, _, _, _, _, _], rfl, ?_⟩
      refine wp_seq ?_
      refine wp_seq ?_
      refine wp_region rfl rfl ?_
      refine wo_move (v := .ptr _ _) rfl rfl rfl rfl rfl (fun h => AV.noConfusion h) ?_
      refine wo_call (v := .pv (.bool false)) (H' := [_]) rfl rfl rfl rfl rfl rfl ((cl52 _ _ _ _).trans (callRef_box rfl rfl rfl rfl rfl (ready_err (by omega) _ (by omega)))) rfl rfl rfl ?_
      refine wo_un rfl rfl rfl rfl rfl ?_
      refine wo_nil ?_
      refine ⟨[_, _, _, _, _, _, _, _, _, _, _, _, _, _, _, _, _, _, _, _, _, _, _, _, _], rfl, ?_⟩
      refine wp_true rfl ?_
      refine wp_seq ?_
      refine wp_region rfl rfl ?_
      refine wo_apv rfl rfl rfl rfl rfl ?_
      refine wo_nil ?_
      refine ⟨[_, _, _, _, _, _, _, _, _, _, _, _, _, _, _, _, _, _, _, _, _, _, _, _, _], rfl, ?_⟩
      refine wp_ret ?_
      exact ⟨trivial, _, rfl, _, _, leave_same (.inl rfl) rfl, rfl, rfl⟩
    · have o1 : ite _ _ _ := o1
      rw [if_neg hbig] at o1
      obtain ⟨r, hr, rfl, rfl⟩ := o1
      show ∃ v H', _ ∧ ite _ _ _
      simp only [if_neg (show ¬ n > m by omega)]
      by_cases hs : n ≤ rest.length
      · simp only [if_pos hs]
        obtain ⟨q, r2, hq, hr2, htk⟩ := take_some 0 hr hs N (by omega)
        refine call_wp func37 rfl (show _ = [_, _, _, _, _, _, _, _, _, _, _, _, _, _, _, _, _, _, _, _, _, _, _, _, _] from rfl) ?_
        refine wp_seq ?_
        refine wp_region rfl rfl ?_
        refine wo_apv rfl rfl rfl rfl rfl ?_
        refine wo_nil ?_
        refine ⟨[_, _, _, _, _, _, _, _, _, _, _, _, _, _, _, _, _, _, _, _, _, _, _, _, _], rfl, ?_⟩
        refine wp_seq ?_
        refine wp_region rfl rfl ?_
        refine wo_move (v := .ptr _ _) rfl rfl rfl rfl rfl (fun h => AV.noConfusion h) ?_
        refine wo_mpv rfl rfl rfl rfl rfl ?_
        refine wo_fold (v := .pv (.int .i64 m)) (.inr ⟨rfl, rfl⟩) rfl rfl rfl rfl rfl rfl (iV (by rw [← hm]; split <;> omega)) rfl ?_
        refine wo_conv (v := .pv (.int .u64 m)) rfl rfl rfl rfl ((wconv t3 t36 rfl rfl).trans (iV (wrapU64 (by omega) (by omega)))) rfl ?_
        refine wo_call (v := .pv _) (H' := [_]) rfl rfl rfl rfl rfl rfl ((cl33 _ _ _ _).trans (callRef_box rfl rfl rfl rfl rfl (h1))) rfl rfl rfl ?_
        refine wo_apv rfl rfl rfl rfl rfl ?_
        refine wo_nil ?_
        refine ⟨[_, _, _, _, _, _, _, _, _, _, _, _, _, _, _, _, _, _, _, _, _, _, _, _, _], rfl, ?_⟩
        refine wp_seq ?_
        refine wp_seq ?_
        refine wp_region rfl rfl ?_
        refine wo_move (v := .ptr _ _) rfl rfl rfl rfl rfl (fun h => AV.noConfusion h) ?_
        refine wo_call (v := .pv (.bool true)) (H' := [_]) rfl rfl rfl rfl rfl rfl ((cl52 _ _ _ _).trans (callRef_box rfl rfl rfl rfl rfl (ready_ok _ 0 _ (by omega)))) rfl rfl rfl ?_
        refine wo_un rfl rfl rfl rfl rfl ?_
        refine wo_nil ?_
        refine ⟨[_, _, _, _, _, _, _, _, _, _, _, _, _, _, _, _, _, _, _, _, _, _, _, _, _], rfl, ?_⟩
        refine wp_false rfl ?_
        refine wp_skip ?_
        refine wp_seq ?_
        refine wp_region rfl rfl ?_
        refine wo_move (v := .ptr _ _) rfl rfl rfl rfl rfl (fun h => AV.noConfusion h) ?_
        refine wo_mpv rfl rfl rfl rfl rfl ?_
        refine wo_conv (v := .pv (.int .i64 n)) rfl rfl rfl rfl ((wconv t36 t3 rfl rfl).trans (iV (wrapI (by omega) (by omega)))) rfl ?_
        refine wo_call (v := .tup [.pv q, .pv (.bool true)]) (H' := [_]) rfl rfl rfl rfl rfl rfl ((cl55 _ _ _ _).trans (callRef_box rfl rfl rfl rfl rfl (htk))) rfl rfl rfl ?_
        refine wo_move (v := .tup _) rfl rfl rfl rfl rfl (fun h => AV.noConfusion h) ?_
        refine wo_extract (v := .pv _) rfl rfl rfl rfl rfl rfl ?_
        refine wo_extract (v := .pv _) rfl rfl rfl rfl rfl rfl ?_
        refine wo_apv rfl rfl rfl rfl rfl ?_
        refine wo_apv rfl rfl rfl rfl rfl ?_
        refine wo_nil ?_
        refine ⟨[_, _, _, _, _, _, _, _, _, _, _, _, _, _, _, _, _, _, _, _, _, _, _, _, _], rfl, ?_⟩
        refine wp_seq ?_
        refine wp_region rfl rfl ?_
        refine wo_mpv rfl rfl rfl rfl rfl ?_
        refine wo_conv (v := .pv (.str (strOf (rest.take n)))) rfl rfl rfl rfl (conv_rows t35 rfl t9 rfl t5 hq.noStr (hq.rows _)) rfl ?_
        refine wo_apv rfl rfl rfl rfl rfl ?_
        refine wo_nil ?_
        refine ⟨[_, _, _, _, _, _, _, _, _, _, _, _, _, _, _, _, _, _, _, _, _, _, _, _, _], rfl, ?_⟩
        refine wp_ret ?_
        exact ⟨trivial, _, rfl, _, _, leave_same (.inl rfl) rfl, r2, hr2, rfl, rfl⟩
      · simp only [if_neg hs]
        refine call_wp func37 rfl (show _ = [_, _, _, _, _, _, _, _, _, _, _, _, _, _, _, _, _, _, _, _, _, _, _, _, _] from rfl) ?_
        refine wp_seq ?_
        refine wp_region rfl rfl ?_
        refine wo_apv rfl rfl rfl rfl rfl ?_
        refine wo_nil ?_
        refine ⟨[_, _, _, _, _, _, _, _, _, _, _, _, _, _, _, _, _, _, _, _, _, _, _, _, _], rfl, ?_⟩
        refine wp_seq ?_
        refine wp_region rfl rfl ?_
        refine wo_move (v := .ptr _ _) rfl rfl rfl rfl rfl (fun h => AV.noConfusion h) ?_
        refine wo_mpv rfl rfl rfl rfl rfl ?_
        refine wo_fold (v := .pv (.int .i64 m)) (.inr ⟨rfl, rfl⟩) rfl rfl rfl rfl rfl rfl (iV (by rw [← hm]; split <;> omega)) rfl ?_
        refine wo_conv (v := .pv (.int .u64 m)) rfl rfl rfl rfl ((wconv t3 t36 rfl rfl).trans (iV (wrapU64 (by omega) (by omega)))) rfl ?_
        refine wo_call (v := .pv _) (H' := [_]) rfl rfl rfl rfl rfl rfl ((cl33 _ _ _ _).trans (callRef_box rfl rfl rfl rfl rfl (h1))) rfl rfl rfl ?_
        refine wo_apv rfl rfl rfl rfl rfl ?_
        refine wo_nil ?_
        refine ⟨[_, _, _, _, _, _, _, _, _, _, _, _, _, _, _, _, _, _, _, _, _, _, _, _, _], rfl, ?_⟩
        refine wp_seq ?_
        refine wp_seq ?_
        refine wp_region rfl rfl ?_
        refine wo_move (v := .ptr _ _) rfl rfl rfl rfl rfl (fun h => AV.noConfusion h) ?_
        refine wo_call (v := .pv (.bool true)) (H' := [_]) rfl rfl rfl rfl rfl rfl ((cl52 _ _ _ _).trans (callRef_box rfl rfl rfl rfl rfl (ready_ok _ 0 _ (by omega)))) rfl rfl rfl ?_
        refine wo_un rfl rfl rfl rfl rfl ?_
        refine wo_nil ?_
        refine ⟨[_, _, _, _, _, _, _, _, _, _, _, _, _, _, _, _, _, _, _, _, _, _, _, _, _], rfl, ?_⟩
        refine wp_false rfl ?_
        refine wp_skip ?_
        refine wp_seq ?_
        refine wp_region rfl rfl ?_
        refine wo_move (v := .ptr _ _) rfl rfl rfl rfl rfl (fun h => AV.noConfusion h) ?_
        refine wo_mpv rfl rfl rfl rfl rfl ?_
        refine wo_conv (v := .pv (.int .i64 n)) rfl rfl rfl rfl ((wconv t36 t3 rfl rfl).trans (iV (wrapI (by omega) (by omega)))) rfl ?_
        refine wo_call (v := .tup [.pv .nils, .pv (.bool false)]) (H' := [_]) rfl rfl rfl rfl rfl rfl ((cl55 _ _ _ _).trans (callRef_box rfl rfl rfl rfl rfl (take_none 0 hr (by omega) _ (by omega)))) rfl rfl rfl ?_
        refine wo_move (v := .tup _) rfl rfl rfl rfl rfl (fun h => AV.noConfusion h) ?_
        refine wo_extract (v := .pv _) rfl rfl rfl rfl rfl rfl ?_
        refine wo_extract (v := .pv _) rfl rfl rfl rfl rfl rfl ?_
        refine wo_apv rfl rfl rfl rfl rfl ?_
        refine wo_apv rfl rfl rfl rfl rfl ?_
        refine wo_nil ?_
        refine ⟨[_, _, _, _, _, _, _, _, _, _, _, _, _, _, _, _, _, _, _, _, _, _, _, _, _], rfl, ?_⟩
        refine wp_seq ?_
        refine wp_region rfl rfl ?_
        refine wo_mpv rfl rfl rfl rfl rfl ?_
        refine wo_conv (v := .pv (.str (strOf []))) rfl rfl rfl rfl (conv_rows t35 rfl t9 rfl t5 rfl rfl) rfl ?_
        refine wo_apv rfl rfl rfl rfl rfl ?_
        refine wo_nil ?_
        refine ⟨[_, _, _, _, _, _, _, _, _, _, _, _, _, _, _, _, _, _, _, _, _, _, _, _, _], rfl, ?_⟩
        refine wp_ret ?_
        exact ⟨trivial, _, rfl, _, _, leave_same (.inl rfl) rfl, rfl, rfl⟩

/-- A number of bytes, the greatest first. -/
def beN (n : Nat) : List Int → Nat
  | [] => n
  | c :: l => beN (n * 256 + c.toNat) l
theorem beN_append (n : Nat) : ∀ (a : List Int) (c : Int), beN n (a ++ [c]) = beN n a * 256 + c.toNat
  | [], c => rfl
  | x :: a, c => by simp only [List.cons_append, beN]; exact beN_append _ a c
theorem beN_lt : ∀ (l : List Int) (n k : Nat), Bytes l → n < 256 ^ k → beN n l < 256 ^ (k + l.length)
  | [], n, k, _, h => h
  | c :: l, n, k, hl, h => by
    have hc := hl c (by simp)
    have := beN_lt l (n * 256 + c.toNat) (k + 1) (fun x hx => hl x (by simp [hx])) (by rw [Nat.pow_succ]; omega)
    rw [List.length_cons, show k + (l.length + 1) = k + 1 + l.length by omega]
    exact this
theorem shl8 {n : Nat} (h : n * 256 < 2 ^ 64) : shiftBin .shl .u64 (n : Int) 8 = some (.pv (.int .u64 ((n * 2 ^ 8 : Nat) : Int))) := by
  unfold shiftBin
  rw [if_neg (by omega)]
  have e2 : min (8 : Int).toNat IntKind.u64.bits = 8 := by decide
  simp only [e2]
  have e3 : ((n : Int) * 2 ^ 8) = ((n * 2 ^ 8 : Nat) : Int) := by simp
  rw [e3, wrapU64 (by omega) (by omega)]
theorem orU' {a b s : Nat} (ha : a < 2 ^ s) (hb : a + b * 2 ^ s < 2 ^ 64) : IntKind.u64.wrap ((BitVec.ofInt IntKind.u64.bits ((b * 2 ^ s : Nat) : Int) ||| BitVec.ofInt IntKind.u64.bits (a : Int)).toNat : Int) = ((b * 2 ^ s + a : Nat) : Int) := by
  rw [BitVec.or_comm, orU ha hb, Nat.add_comm]

/-- Fixed, of a reader with so many bytes. -/
theorem fixed_ok {p : PV} {l : List Int} (hp : SL p l) (hl : Bytes l) (size : Int) (hs : clip size ≤ l.length) (N : Nat) (hN : 12 ≤ N) :
    ∃ r v H', call G N 41 [.ptr 0 0, .pv (.int .i64 size)] [.box (bx p 0) false] = some (.ret v, H') ∧ SL r (l.drop (clip size)) ∧ v = .pv (.int .u64 (beN 0 (l.take (clip size)) : Nat)) ∧ H' = [.box (bx r 0) false] := by
  obtain ⟨N, rfl⟩ : ∃ M, N = M + 1 := ⟨N - 1, by omega⟩
  obtain ⟨q, r, hq, hr, htk⟩ := take_some 0 hp hs N (by omega)
  have hcl := clip_le size
  have hmm : (if (8 : Int) < (if (0 : Int) > size then 0 else size) then (8 : Int) else (if (0 : Int) > size then 0 else size)) = clip size := by unfold clip; split <;> split <;> omega
  generalize hk : clip size = k at hs htk hq hr hmm hcl
  generalize hL : l.take k = L at hq
  have hLl : L.length = k := by rw [← hL]; simp [hs]
  have hLb : Bytes L := fun x hx => hl x (by rw [← hL] at hx; exact List.mem_of_mem_take hx)
  refine ⟨r, ?_⟩
  refine call_wp func41 rfl (show _ = [_, _, _, _, _, _, _, _, _, _, _, _, _, _, _, _, _, _, _, _, _, _, _, _, _, _, _, _, _, _, _, _, _, _] from rfl) ?_
  refine wp_seq ?_
  refine wp_region rfl rfl ?_
  refine wo_apv rfl rfl rfl rfl rfl ?_
  refine wo_nil ?_
  refine ⟨[_, _, _, _, _, _, _, _, _, _, _, _, _, _, _, _, _, _, _, _, _, _, _, _, _, _, _, _, _, _, _, _, _, _], rfl, ?_⟩
  refine wp_seq ?_
  refine wp_seq ?_
  refine wp_region rfl rfl ?_
  refine wo_move (v := .ptr _ _) rfl rfl rfl rfl rfl (fun h => AV.noConfusion h) ?_
  refine wo_call (v := .pv (.bool true)) (H' := [_]) rfl rfl rfl rfl rfl rfl ((cl52 _ _ _ _).trans (callRef_box rfl rfl rfl rfl rfl (ready_ok _ 0 _ (by omega)))) rfl rfl rfl ?_
  refine wo_un rfl rfl rfl rfl rfl ?_
  refine wo_nil ?_
  refine ⟨[_, _, _, _, _, _, _, _, _, _, _, _, _, _, _, _, _, _, _, _, _, _, _, _, _, _, _, _, _, _, _, _, _, _], rfl, ?_⟩
  refine wp_false rfl ?_
  refine wp_skip ?_
  refine wp_seq ?_
  refine wp_region rfl rfl ?_
  refine wo_move (v := .ptr _ _) rfl rfl rfl rfl rfl (fun h => AV.noConfusion h) ?_
  refine wo_mpv rfl rfl rfl rfl rfl ?_
  refine wo_fold (v := .pv (.int .i64 (if (0 : Int) > size then 0 else size))) (.inr ⟨rfl, rfl⟩) rfl rfl rfl rfl rfl rfl (rfl) rfl ?_
  refine wo_fold (v := .pv (.int .i64 k)) (.inl ⟨rfl, rfl⟩) rfl rfl rfl rfl rfl rfl (iV hmm) rfl ?_
  refine wo_call (v := .tup [.pv q, .pv (.bool true)]) (H' := [_]) rfl rfl rfl rfl rfl rfl ((cl55 _ _ _ _).trans (callRef_box rfl rfl rfl rfl rfl (htk))) rfl rfl rfl ?_
  refine wo_move (v := .tup _) rfl rfl rfl rfl rfl (fun h => AV.noConfusion h) ?_
  refine wo_extract (v := .pv _) rfl rfl rfl rfl rfl rfl ?_
  refine wo_extract (v := .pv _) rfl rfl rfl rfl rfl rfl ?_
  refine wo_apv rfl rfl rfl rfl rfl ?_
  refine wo_apv rfl rfl rfl rfl rfl ?_
  refine wo_nil ?_
  refine ⟨[_, _, _, _, _, _, _, _, _, _, _, _, _, _, _, _, _, _, _, _, _, _, _, _, _, _, _, _, _, _, _, _, _, _], rfl, ?_⟩
  refine wp_seq ?_
  refine wp_region rfl rfl ?_
  refine wo_apv rfl rfl rfl rfl rfl ?_
  refine wo_nil ?_
  refine ⟨[_, _, _, _, _, _, _, _, _, _, _, _, _, _, _, _, _, _, _, _, _, _, _, _, _, _, _, _, _, _, _, _, _, _], rfl, ?_⟩
  refine wp_seq ?_
  refine wp_seq ?_
  refine wp_region rfl rfl ?_
  refine wo_mpv rfl rfl rfl rfl rfl ?_
  refine wo_len (ln := L.length) t35 rfl rfl rfl rfl rfl rfl rfl (hq.len 5) rfl ?_
  refine wo_mpv rfl rfl rfl rfl rfl ?_
  refine wo_nil ?_
  refine ⟨[_, _, _, _, _, _, _, _, _, _, _, _, _, _, _, _, _, _, _, _, _, _, _, _, _, _, _, _, _, _, _, _, _, _], rfl, ?_⟩
  refine wp_block ?_
  refine wp_loop (fun k t H => ∃ j : Nat, j + k = L.length ∧ t = [.any, .any, .any, .any, .any, .any, .any, .pv (.int .u64 (beN 0 (L.take j) : Nat)), .any, .any, .any, .any, .any, .any, .any, .any, .any, .any, .any, .any, .any, .pv q, .pv (.int .i64 L.length), .pv (.int .i64 (j : Nat)), .any, .any, .any, .any, .any, .any, .any, .any, .any, .any] ∧ H = [.box (bx r 0) false]) L.length ⟨0, by omega, rfl, rfl⟩ (by omega) ?_
  rintro k _ _ hk ⟨j, hj, rfl, rfl⟩
  refine wp_seq ?_
  refine wp_region rfl rfl ?_
  refine wo_bsplit rfl rfl rfl rfl rfl (fun c6_0 => ?_) (fun c6_0 => ?_)
  ·
    refine wo_nil ?_
    refine ⟨[_, _, _, _, _, _, _, _, _, _, _, _, _, _, _, _, _, _, _, _, _, _, _, _, _, _, _, _, _, _, _, _, _, _], rfl, ?_⟩
    refine wp_seq ?_
    refine wp_true rfl ?_
    refine wp_skip ?_
    refine wp_seq ?_
    refine wp_block ?_
    refine wp_seq ?_
    refine wp_region rfl rfl ?_
    have hjl : j < L.length := by omega
    have hc := hLb L[j] (List.getElem_mem hjl)
    have hlt : beN 0 (L.take j) < 256 ^ (0 + (L.take j).length) := beN_lt _ 0 0 (fun x hx => hLb x (List.mem_of_mem_take hx)) (by decide)
    have htl : (L.take j).length = j := by simp; omega
    rw [htl] at hlt
    have hlt2 : 256 ^ (0 + j) ≤ 256 ^ 7 := Nat.pow_le_pow_right (by omega) (by omega)
    have hnx : beN 0 (L.take (j + 1)) = beN 0 (L.take j) * 2 ^ 8 + (L[j]).toNat := by rw [← List.take_append_getElem hjl, beN_append]
    refine wo_iaddr (v := .pv (.ptr (rowB L[j]) 0)) rfl rfl rfl rfl (hq.get (i := j) hjl t35 t5 rfl rfl) ?_
    refine wo_load t5 rfl rfl rfl rfl rfl rfl ?_
    refine wo_apv rfl rfl rfl rfl rfl ?_
    refine wo_nil ?_
    refine ⟨[_, _, _, _, _, _, _, _, _, _, _, _, _, _, _, _, _, _, _, _, _, _, _, _, _, _, _, _, _, _, _, _, _, _], rfl, ?_⟩
    refine wp_region rfl rfl ?_
    refine wo_mpv rfl rfl rfl rfl rfl ?_
    refine wo_bin (v := .pv (.int .u64 ((beN 0 (L.take j) * 2 ^ 8 : Nat) : Int))) rfl rfl rfl rfl (shl8 (by omega)) ?_
    refine wo_mpv rfl rfl rfl rfl rfl ?_
    refine wo_conv (v := .pv (.int .u64 ((L[j]).toNat : Nat))) rfl rfl rfl rfl ((wconv t5 t36 rfl rfl).trans (iV (by rw [wrapU64 (by omega) (by omega)]; omega))) rfl ?_
    refine wo_bin (v := .pv (.int .u64 (beN 0 (L.take (j + 1)) : Nat))) rfl rfl rfl rfl (iV (by rw [hnx]; exact orU' (by omega) (by omega))) ?_
    refine wo_apv rfl rfl rfl rfl rfl ?_
    refine wo_nil ?_
    refine ⟨[_, _, _, _, _, _, _, _, _, _, _, _, _, _, _, _, _, _, _, _, _, _, _, _, _, _, _, _, _, _, _, _, _, _], rfl, ?_⟩
    refine wp_region rfl rfl ?_
    refine wo_bin (v := .pv (.int .i64 ((j + 1 : Nat) : Int))) rfl rfl rfl rfl (iV (by rw [wrapI (by omega) (by omega)]; omega)) ?_
    refine wo_mpv rfl rfl rfl rfl rfl ?_
    refine wo_nil ?_
    refine ⟨[_, _, _, _, _, _, _, _, _, _, _, _, _, _, _, _, _, _, _, _, _, _, _, _, _, _, _, _, _, _, _, _, _, _], rfl, ?_⟩
    refine ⟨_, _, tidy_norm (t' := [_, _, _, _, _, _, _, _, _, _, _, _, _, _, _, _, _, _, _, _, _, _, _, _, _, _, _, _, _, _, _, _, _, _]) rfl rfl rfl, k - 1, by omega, j + 1, by omega, rfl, rfl⟩
  ·
    refine wo_nil ?_
    refine ⟨[_, _, _, _, _, _, _, _, _, _, _, _, _, _, _, _, _, _, _, _, _, _, _, _, _, _, _, _, _, _, _, _, _, _], rfl, ?_⟩
    refine wp_seq ?_
    refine wp_false rfl ?_
    refine wp_exit ?_
    refine wp_seq ?_
    refine wp_region rfl rfl ?_
    refine wo_mpv rfl rfl rfl rfl rfl ?_
    refine wo_apv rfl rfl rfl rfl rfl ?_
    refine wo_nil ?_
    refine ⟨[_, _, _, _, _, _, _, _, _, _, _, _, _, _, _, _, _, _, _, _, _, _, _, _, _, _, _, _, _, _, _, _, _, _], rfl, ?_⟩
    refine wp_ret ?_
    obtain rfl : j = L.length := by omega
    exact ⟨trivial, _, rfl, _, _, leave_same (.inl rfl) rfl, hr, by rw [List.take_length]; rfl, rfl⟩
theorem fixed_short {p : PV} {l : List Int} (hp : SL p l) (size : Int) (hs : l.length < clip size) (N : Nat) (hN : 12 ≤ N) :
    ∃ v H', call G N 41 [.ptr 0 0, .pv (.int .i64 size)] [.box (bx p 0) false] = some (.ret v, H') ∧ v = .pv (.int .u64 0) ∧ H' = [.box (bx .nils 21) false] := by
  obtain ⟨N, rfl⟩ : ∃ M, N = M + 1 := ⟨N - 1, by omega⟩
  have hcl := clip_le size
  have hmm : (if (8 : Int) < (if (0 : Int) > size then 0 else size) then (8 : Int) else (if (0 : Int) > size then 0 else size)) = clip size := by unfold clip; split <;> split <;> omega
  refine call_wp func41 rfl (show _ = [_, _, _, _, _, _, _, _, _, _, _, _, _, _, _, _, _, _, _, _, _, _, _, _, _, _, _, _, _, _, _, _, _, _] from rfl) ?_
  refine wp_seq ?_
  refine wp_region rfl rfl ?_
  refine wo_apv rfl rfl rfl rfl rfl ?_
  refine wo_nil ?_
  refine ⟨[_, _, _, _, _, _, _, _, _, _, _, _, _, _, _, _, _, _, _, _, _, _, _, _, _, _, _, _, _, _, _, _, _, _], rfl, ?_⟩
  refine wp_seq ?_
  refine wp_seq ?_
  refine wp_region rfl rfl ?_
  refine wo_move (v := .ptr _ _) rfl rfl rfl rfl rfl (fun h => AV.noConfusion h) ?_
  refine wo_call (v := .pv (.bool true)) (H' := [_]) rfl rfl rfl rfl rfl rfl ((cl52 _ _ _ _).trans (callRef_box rfl rfl rfl rfl rfl (ready_ok _ 0 _ (by omega)))) rfl rfl rfl ?_
  refine wo_un rfl rfl rfl rfl rfl ?_
  refine wo_nil ?_
  refine ⟨[_, _, _, _, _, _, _, _, _, _, _, _, _, _, _, _, _, _, _, _, _, _, _, _, _, _, _, _, _, _, _, _, _, _], rfl, ?_⟩
  refine wp_false rfl ?_
  refine wp_skip ?_
  refine wp_seq ?_
  refine wp_region rfl rfl ?_
  refine wo_move (v := .ptr _ _) rfl rfl rfl rfl rfl (fun h => AV.noConfusion h) ?_
  refine wo_mpv rfl rfl rfl rfl rfl ?_
  refine wo_fold (v := .pv (.int .i64 (if (0 : Int) > size then 0 else size))) (.inr ⟨rfl, rfl⟩) rfl rfl rfl rfl rfl rfl (rfl) rfl ?_
  refine wo_fold (v := .pv (.int .i64 (clip size))) (.inl ⟨rfl, rfl⟩) rfl rfl rfl rfl rfl rfl (iV hmm) rfl ?_
  refine wo_call (v := .tup [.pv .nils, .pv (.bool false)]) (H' := [_]) rfl rfl rfl rfl rfl rfl ((cl55 _ _ _ _).trans (callRef_box rfl rfl rfl rfl rfl (take_none 0 hp hs _ (by omega)))) rfl rfl rfl ?_
  refine wo_move (v := .tup _) rfl rfl rfl rfl rfl (fun h => AV.noConfusion h) ?_
  refine wo_extract (v := .pv _) rfl rfl rfl rfl rfl rfl ?_
  refine wo_extract (v := .pv _) rfl rfl rfl rfl rfl rfl ?_
  refine wo_apv rfl rfl rfl rfl rfl ?_
  refine wo_apv rfl rfl rfl rfl rfl ?_
  refine wo_nil ?_
  refine ⟨[_, _, _, _, _, _, _, _, _, _, _, _, _, _, _, _, _, _, _, _, _, _, _, _, _, _, _, _, _, _, _, _, _, _], rfl, ?_⟩
  refine wp_seq ?_
  refine wp_region rfl rfl ?_
  refine wo_apv rfl rfl rfl rfl rfl ?_
  refine wo_nil ?_
  refine ⟨[_, _, _, _, _, _, _, _, _, _, _, _, _, _, _, _, _, _, _, _, _, _, _, _, _, _, _, _, _, _, _, _, _, _], rfl, ?_⟩
  refine wp_seq ?_
  refine wp_seq ?_
  refine wp_region rfl rfl ?_
  refine wo_mpv rfl rfl rfl rfl rfl ?_
  refine wo_len t35 rfl rfl rfl rfl rfl rfl rfl rfl rfl ?_
  refine wo_mpv rfl rfl rfl rfl rfl ?_
  refine wo_nil ?_
  refine ⟨[_, _, _, _, _, _, _, _, _, _, _, _, _, _, _, _, _, _, _, _, _, _, _, _, _, _, _, _, _, _, _, _, _, _], rfl, ?_⟩
  refine wp_block ?_
  refine wp_loop (fun k t H => t = [.any, .any, .any, .any, .any, .any, .any, .pv (.int .u64 0), .any, .any, .any, .any, .any, .any, .any, .any, .any, .any, .any, .any, .any, .pv .nils, .pv (.int .i64 0), .pv (.int .i64 0), .any, .any, .any, .any, .any, .any, .any, .any, .any, .any] ∧ H = [.box (bx .nils 21) false]) 0 ⟨rfl, rfl⟩ (by omega) ?_
  rintro k _ _ hk ⟨rfl, rfl⟩
  refine wp_seq ?_
  refine wp_region rfl rfl ?_
  refine wo_bin (v := .pv (.bool false)) rfl rfl rfl rfl (bF (by decide)) ?_
  refine wo_nil ?_
  refine ⟨[_, _, _, _, _, _, _, _, _, _, _, _, _, _, _, _, _, _, _, _, _, _, _, _, _, _, _, _, _, _, _, _, _, _], rfl, ?_⟩
  refine wp_seq ?_
  refine wp_false rfl ?_
  refine wp_exit ?_
  refine wp_seq ?_
  refine wp_region rfl rfl ?_
  refine wo_mpv rfl rfl rfl rfl rfl ?_
  refine wo_apv rfl rfl rfl rfl rfl ?_
  refine wo_nil ?_
  refine ⟨[_, _, _, _, _, _, _, _, _, _, _, _, _, _, _, _, _, _, _, _, _, _, _, _, _, _, _, _, _, _, _, _, _, _], rfl, ?_⟩
  refine wp_ret ?_
  exact ⟨trivial, _, rfl, _, _, leave_same (.inl rfl) rfl, rfl, rfl⟩
theorem fixed_err (p : PV) {e : Int} (he : e ≠ 0) (size : Int) (N : Nat) (hN : 2 ≤ N) : call G N 41 [.ptr 0 0, .pv (.int .i64 size)] [.box (bx p e) false] = some (.ret (.pv (.int .u64 0)), [.box (bx p e) false]) := by
  obtain ⟨N, rfl⟩ : ∃ M, N = M + 1 := ⟨N - 1, by omega⟩
  refine call_eq func41 rfl (show _ = [_, _, _, _, _, _, _, _, _, _, _, _, _, _, _, _, _, _, _, _, _, _, _, _, _, _, _, _, _, _, _, _, _, _] from rfl) ?_
  refine wp_seq ?_
  refine wp_region rfl rfl ?_
  refine wo_apv rfl rfl rfl rfl rfl ?_
  refine wo_nil ?_
  refine ⟨[_, _, _, _, _, _, _, _, _, _, _, _, _, _, _, _, _, _, _, _, _, _, _, _, _, _, _, _, _, _, _, _, _, _], rfl, ?_⟩
  refine wp_seq ?_
  refine wp_seq ?_
  refine wp_region rfl rfl ?_
  refine wo_move (v := .ptr _ _) rfl rfl rfl rfl rfl (fun h => AV.noConfusion h) ?_
  refine wo_call (v := .pv (.bool false)) (H' := [_]) rfl rfl rfl rfl rfl rfl ((cl52 _ _ _ _).trans (callRef_box rfl rfl rfl rfl rfl (ready_err (by omega) _ (by omega)))) rfl rfl rfl ?_
  refine wo_un rfl rfl rfl rfl rfl ?_
  refine wo_nil ?_
  refine ⟨[_, _, _, _, _, _, _, _, _, _, _, _, _, _, _, _, _, _, _, _, _, _, _, _, _, _, _, _, _, _, _, _, _, _], rfl, ?_⟩
  refine wp_true rfl ?_
  refine wp_seq ?_
  refine wp_region rfl rfl ?_
  refine wo_apv rfl rfl rfl rfl rfl ?_
  refine wo_nil ?_
  refine ⟨[_, _, _, _, _, _, _, _, _, _, _, _, _, _, _, _, _, _, _, _, _, _, _, _, _, _, _, _, _, _, _, _, _, _], rfl, ?_⟩
  refine wp_ret ?_
  exact ⟨trivial, _, rfl, leave_same (.inl rfl) rfl⟩
theorem byte_err (p : PV) {e : Int} (he : e ≠ 0) (N : Nat) (hN : 3 ≤ N) : call G N 35 [.ptr 0 0] [.box (bx p e) false] = some (.ret (.pv (.int .u8 0)), [.box (bx p e) false]) := by
  obtain ⟨N, rfl⟩ : ∃ M, N = M + 1 := ⟨N - 1, by omega⟩
  refine call_eq func35 rfl (show _ = [_, _, _, _, _, _] from rfl) ?_
  refine wp_seq ?_
  refine wp_region rfl rfl ?_
  refine wo_apv rfl rfl rfl rfl rfl ?_
  refine wo_nil ?_
  refine ⟨[_, _, _, _, _, _], rfl, ?_⟩
  refine wp_seq ?_
  refine wp_region rfl rfl ?_
  refine wo_move (v := .ptr _ _) rfl rfl rfl rfl rfl (fun h => AV.noConfusion h) ?_
  refine wo_call (v := .pv _) (H' := [_]) rfl rfl rfl rfl rfl rfl ((cl41 _ _ _ _).trans (callRef_box rfl rfl rfl rfl rfl (fixed_err _ he _ _ (by omega)))) rfl rfl rfl ?_
  refine wo_convi t36 t5 rfl rfl rfl rfl rfl rfl ?_
  refine wo_apv rfl rfl rfl rfl rfl ?_
  refine wo_nil ?_
  refine ⟨[_, _, _, _, _, _], rfl, ?_⟩
  refine wp_ret ?_
  exact ⟨trivial, _, rfl, leave_same (.inl rfl) rfl⟩
theorem byte_ok {p : PV} {c : Int} {l : List Int} (hp : SL p (c :: l)) (hl : Bytes (c :: l)) (N : Nat) (hN : 13 ≤ N) :
    ∃ r v H', call G N 35 [.ptr 0 0] [.box (bx p 0) false] = some (.ret v, H') ∧ SL r l ∧ v = .pv (.int .u8 c) ∧ H' = [.box (bx r 0) false] := by
  obtain ⟨N, rfl⟩ : ∃ M, N = M + 1 := ⟨N - 1, by omega⟩
  obtain ⟨r, v, H', h1, hr, rfl, rfl⟩ := fixed_ok hp hl 1 (by rw [show clip 1 = 1 by decide]; simp) N (by omega)
  have hc := hl c (by simp)
  have hbe : beN 0 ((c :: l).take (clip 1)) = c.toNat := by rw [show clip 1 = 1 by decide]; simp [beN]
  rw [hbe] at h1
  refine ⟨r, ?_⟩
  refine call_wp func35 rfl (show _ = [_, _, _, _, _, _] from rfl) ?_
  refine wp_seq ?_
  refine wp_region rfl rfl ?_
  refine wo_apv rfl rfl rfl rfl rfl ?_
  refine wo_nil ?_
  refine ⟨[_, _, _, _, _, _], rfl, ?_⟩
  refine wp_seq ?_
  refine wp_region rfl rfl ?_
  refine wo_move (v := .ptr _ _) rfl rfl rfl rfl rfl (fun h => AV.noConfusion h) ?_
  refine wo_call (v := .pv _) (H' := [_]) rfl rfl rfl rfl rfl rfl ((cl41 _ _ _ _).trans (callRef_box rfl rfl rfl rfl rfl (h1))) rfl rfl rfl ?_
  refine wo_conv (v := .pv (.int .u8 c)) rfl rfl rfl rfl ((wconv t36 t5 rfl rfl).trans (iV (by rw [wrapU8 (by omega) (by omega)]; omega))) rfl ?_
  refine wo_apv rfl rfl rfl rfl rfl ?_
  refine wo_nil ?_
  refine ⟨[_, _, _, _, _, _], rfl, ?_⟩
  refine wp_ret ?_
  exact ⟨trivial, _, rfl, _, _, leave_same (.inl rfl) rfl, hr, rfl, rfl⟩
end Go.Ab.Ytknmgphnkfeifaa
