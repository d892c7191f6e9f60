import Derived.Test.YtknmgphnkfeifaaR7
namespace Go.Ab.Ytknmgphnkfeifaa
open Go Go.Ab
open Go.Proofs.Try
set_option maxRecDepth 100000
set_option maxHeartbeats 1000000
set_option linter.unusedSimpArgs false
set_option linter.unusedVariables false

theorem ord_symm : ∀ d e : Ieee.Datum, d.order e = some .eq → e.order d = some .eq := by
  intro d e h
  cases d <;> cases e <;> simp only [Ieee.Datum.order] at h ⊢ <;> (try (cases h; done))
  all_goals first
    | (exfalso; revert h; split <;> simp; done)
    | (simp only [Option.some.injEq, Std.LawfulEqCmp.compare_eq_iff_eq] at h ⊢; first | exact h.symm | (rw [Int.min_comm]; exact h.symm))
theorem order_symm (x y : Nat) (h : (FloatKind.f64.format.order x y == some .eq) = true) : (FloatKind.f64.format.order y x == some .eq) = true := by
  rw [beq_iff_eq] at h ⊢
  exact ord_symm _ _ h

/-- Whether a float is not itself, or zero. -/
def isNan (f : Nat) : Bool := FloatKind.f64.format.order f f != some .eq
def isZero (f : Nat) : Bool := FloatKind.f64.format.order f 0 == some .eq
theorem fbits_nan {f : Nat} (h : isNan f = true) : fbits f = 9221120237041090561 := by unfold fbits; rw [if_pos (show (FloatKind.f64.format.order f f != some .eq) = true from h)]
theorem fbits_zero {f : Nat} (h : isNan f = false) (hz : isZero f = true) : fbits f = 0 := by
  unfold fbits; rw [if_neg (by unfold isNan at h; rw [h]; decide), if_pos (show (FloatKind.f64.format.order f 0 == some .eq) = true from hz)]
theorem fbits_else {f : Nat} (h : isNan f = false) (hz : isZero f = false) : fbits f = f := by
  unfold fbits; rw [if_neg (by unfold isNan at h; rw [h]; decide), if_neg (by unfold isZero at hz; rw [hz]; decide)]
theorem fbits_fbits (f : Nat) : fbits (fbits f) = fbits f := by
  cases h : isNan f with
  | true => rw [fbits_nan h]; kernel_rfl
  | false =>
    cases hz : isZero f with
    | true => rw [fbits_zero h hz]; kernel_rfl
    | false => rw [fbits_else h hz, fbits_else h hz]

theorem signbit_nan : call G 60 42 [.pv (.flt .f64 9221120237041090561)] [] = some (.ret (.pv (.bool false)), []) := by kernel_rfl
theorem signbit_zero : call G 60 42 [.pv (.flt .f64 0)] [] = some (.ret (.pv (.bool false)), []) := by kernel_rfl

theorem Bytes.fixedB (n : Nat) : ∀ k, Bytes (fixedB n k)
  | 0 => fun x hx => by simp [Ytknmgphnkfeifaa.fixedB] at hx
  | k + 1 => fun x hx => by
    rcases List.mem_cons.1 hx with rfl | hx
    · omega
    · exact Bytes.fixedB n k x hx

theorem unz_zz (i : Int) : unz (zz i) = i := by
  unfold zz
  split
  · rw [unz_odd (by omega)]; omega
  · rw [unz_even (by omega)]; omega
theorem back {n : Nat} (hn : n < 2 ^ 64) {i : Int} (hi1 : -9223372036854775808 ≤ i) (hi2 : i < 9223372036854775808) (s : ByteArray) {f : Nat} (hf : f < 2 ^ 64) {p : PV} {x : List Int} (hp : SL p x) (hx : Bytes x) :
    call G 61 8 [.pv (.int .u64 n), .pv (.int .i64 i), .pv (.str s), .pv (.flt .f64 f), .pv p] [] = some (.ret (.pv (.bool true)), []) := by
  have hw := works31
  have hub := ubytes_len hn
  have hub2 := ubytes_len (zz_lt hi1 hi2)
  have hbl := Go.Ab.bytesL_length s
  refine call_eq func8 rfl (show _ = [_, _, _, _, _, _, _, _, _, _, _, _, _, _, _, _, _, _, _, _, _, _, _, _, _, _, _, _, _, _, _, _, _, _, _, _, _, _, _, _, _, _, _, _, _, _, _, _, _, _, _, _, _, _, _, _, _, _, _, _, _, _, _, _, _, _, _, _, _, _, _, _, _, _, _, _, _, _, _, _, _, _, _, _, _, _, _, _, _, _, _, _, _, _, _, _, _, _, _, _, _, _, _, _, _, _, _, _] from rfl) ?_
  refine wp_seq ?_
  refine wp_region rfl rfl ?_
  refine wo_apv rfl rfl rfl rfl rfl ?_
  refine wo_nil ?_
  refine ⟨[_, _, _, _, _, _, _, _, _, _, _, _, _, _, _, _, _, _, _, _, _, _, _, _, _, _, _, _, _, _, _, _, _, _, _, _, _, _, _, _, _, _, _, _, _, _, _, _, _, _, _, _, _, _, _, _, _, _, _, _, _, _, _, _, _, _, _, _, _, _, _, _, _, _, _, _, _, _, _, _, _, _, _, _, _, _, _, _, _, _, _, _, _, _, _, _, _, _, _, _, _, _, _, _, _, _, _, _], rfl, ?_⟩
  refine wp_seq ?_
  refine wp_seq ?_
  refine wp_region rfl rfl ?_
  refine wo_call (v := .pv (.bool true)) (H' := []) rfl rfl rfl rfl rfl rfl ((cl31 _ _ _ _).trans (callPure_pv rfl (fun _ => rfl) hw)) rfl rfl rfl ?_
  refine wo_un rfl rfl rfl rfl rfl ?_
  refine wo_nil ?_
  refine ⟨[_, _, _, _, _, _, _, _, _, _, _, _, _, _, _, _, _, _, _, _, _, _, _, _, _, _, _, _, _, _, _, _, _, _, _, _, _, _, _, _, _, _, _, _, _, _, _, _, _, _, _, _, _, _, _, _, _, _, _, _, _, _, _, _, _, _, _, _, _, _, _, _, _, _, _, _, _, _, _, _, _, _, _, _, _, _, _, _, _, _, _, _, _, _, _, _, _, _, _, _, _, _, _, _, _, _, _, _], rfl, ?_⟩
  refine wp_false rfl ?_
  refine wp_skip ?_
  refine wp_seq ?_
  refine wp_seq ?_
  refine wp_region rfl rfl ?_
  refine wo_mpv rfl rfl rfl rfl rfl ?_
  refine wo_len t9 rfl rfl rfl rfl rfl rfl rfl rfl rfl ?_
  refine wo_bsplit rfl rfl rfl rfl rfl (fun c3_2 => ?_) (fun c3_2 => ?_)
  ·
    refine wo_mpv rfl rfl rfl rfl rfl ?_
    refine wo_off rfl rfl rfl ?_
    refine wo_off rfl rfl rfl ?_
    refine wo_off rfl rfl rfl ?_
    refine wo_pick (v := .pv _) rfl rfl rfl rfl rfl rfl ?_
    refine wo_nil ?_
    refine ⟨[_, _, _, _, _, _, _, _, _, _, _, _, _, _, _, _, _, _, _, _, _, _, _, _, _, _, _, _, _, _, _, _, _, _, _, _, _, _, _, _, _, _, _, _, _, _, _, _, _, _, _, _, _, _, _, _, _, _, _, _, _, _, _, _, _, _, _, _, _, _, _, _, _, _, _, _, _, _, _, _, _, _, _, _, _, _, _, _, _, _, _, _, _, _, _, _, _, _, _, _, _, _, _, _, _, _, _, _], rfl, ?_⟩
    refine wp_true rfl ?_
    refine wp_seq ?_
    refine wp_region rfl rfl ?_
    refine wo_apv rfl rfl rfl rfl rfl ?_
    refine wo_nil ?_
    refine ⟨[_, _, _, _, _, _, _, _, _, _, _, _, _, _, _, _, _, _, _, _, _, _, _, _, _, _, _, _, _, _, _, _, _, _, _, _, _, _, _, _, _, _, _, _, _, _, _, _, _, _, _, _, _, _, _, _, _, _, _, _, _, _, _, _, _, _, _, _, _, _, _, _, _, _, _, _, _, _, _, _, _, _, _, _, _, _, _, _, _, _, _, _, _, _, _, _, _, _, _, _, _, _, _, _, _, _, _, _], rfl, ?_⟩
    refine wp_ret ?_
    exact ⟨trivial, _, rfl, leave_pure⟩
  ·
    refine wo_mpv rfl rfl rfl rfl rfl ?_
    refine wo_mpv rfl rfl rfl rfl rfl ?_
    refine wo_len (ln := x.length) t35 rfl rfl rfl rfl rfl rfl rfl (hp.len 5) rfl ?_
    refine wo_bsplit rfl rfl rfl rfl rfl (fun c3_6 => ?_) (fun c3_6 => ?_)
    ·
      refine wo_pick (v := .pv _) rfl rfl rfl rfl rfl rfl ?_
      refine wo_nil ?_
      refine ⟨[_, _, _, _, _, _, _, _, _, _, _, _, _, _, _, _, _, _, _, _, _, _, _, _, _, _, _, _, _, _, _, _, _, _, _, _, _, _, _, _, _, _, _, _, _, _, _, _, _, _, _, _, _, _, _, _, _, _, _, _, _, _, _, _, _, _, _, _, _, _, _, _, _, _, _, _, _, _, _, _, _, _, _, _, _, _, _, _, _, _, _, _, _, _, _, _, _, _, _, _, _, _, _, _, _, _, _, _], rfl, ?_⟩
      refine wp_true rfl ?_
      refine wp_seq ?_
      refine wp_region rfl rfl ?_
      refine wo_apv rfl rfl rfl rfl rfl ?_
      refine wo_nil ?_
      refine ⟨[_, _, _, _, _, _, _, _, _, _, _, _, _, _, _, _, _, _, _, _, _, _, _, _, _, _, _, _, _, _, _, _, _, _, _, _, _, _, _, _, _, _, _, _, _, _, _, _, _, _, _, _, _, _, _, _, _, _, _, _, _, _, _, _, _, _, _, _, _, _, _, _, _, _, _, _, _, _, _, _, _, _, _, _, _, _, _, _, _, _, _, _, _, _, _, _, _, _, _, _, _, _, _, _, _, _, _, _], rfl, ?_⟩
      refine wp_ret ?_
      exact ⟨trivial, _, rfl, leave_pure⟩
    ·
      refine wo_pick (v := .pv _) rfl rfl rfl rfl rfl rfl ?_
      refine wo_nil ?_
      refine ⟨[_, _, _, _, _, _, _, _, _, _, _, _, _, _, _, _, _, _, _, _, _, _, _, _, _, _, _, _, _, _, _, _, _, _, _, _, _, _, _, _, _, _, _, _, _, _, _, _, _, _, _, _, _, _, _, _, _, _, _, _, _, _, _, _, _, _, _, _, _, _, _, _, _, _, _, _, _, _, _, _, _, _, _, _, _, _, _, _, _, _, _, _, _, _, _, _, _, _, _, _, _, _, _, _, _, _, _, _], rfl, ?_⟩
      refine wp_false rfl ?_
      refine wp_skip ?_
      refine wp_seq ?_
      refine wp_region rfl rfl ?_
      refine wo_mpv rfl rfl rfl rfl rfl ?_
      refine wo_call (v := RF 0 (ubytes n)) (H' := [_]) rfl rfl rfl rfl rfl rfl ((cl21 _ _ _ _).trans (callRef_new rfl row_ren (putUint_nil hn _ (by omega)))) rfl rfl rfl ?_
      refine wo_assign (v := .ref _ _ _ _ _ _) rfl rfl rfl rfl rfl (fun h => AV.noConfusion h) ?_
      refine wo_nil ?_
      refine ⟨[_, _, _, _, _, _, _, _, _, _, _, _, _, _, _, _, _, _, _, _, _, _, _, _, _, _, _, _, _, _, _, _, _, _, _, _, _, _, _, _, _, _, _, _, _, _, _, _, _, _, _, _, _, _, _, _, _, _, _, _, _, _, _, _, _, _, _, _, _, _, _, _, _, _, _, _, _, _, _, _, _, _, _, _, _, _, _, _, _, _, _, _, _, _, _, _, _, _, _, _, _, _, _, _, _, _, _, _], rfl, ?_⟩
      refine wp_seq ?_
      refine wp_region rfl rfl ?_
      refine wo_move (v := .ref _ _ _ _ _ _) rfl rfl rfl rfl rfl (fun h => AV.noConfusion h) ?_
      refine wo_mpv rfl rfl rfl rfl rfl ?_
      refine wo_call (v := RF 0 (ubytes n ++ ubytes (zz i))) (H' := [_]) rfl rfl rfl rfl rfl rfl ((cl23 _ _ _ _).trans (callRef_row rfl rfl rfl row_ren row_ren (putInt_rf hi1 hi2 (by have := ubytes_len (v := s.size) (by omega); (try simp only [List.length_append, fixedB_length]); omega) _ (by omega)))) rfl rfl rfl ?_
      refine wo_mpv rfl rfl rfl rfl rfl ?_
      refine wo_call (v := RF 0 ((ubytes n ++ ubytes (zz i)) ++ (ubytes s.size ++ bytesL s))) (H' := [_]) rfl rfl rfl rfl rfl rfl ((cl25 _ _ _ _).trans (callRef_row rfl rfl rfl row_ren row_ren (putText_rf (by omega) (by have := ubytes_len (v := s.size) (by omega); (try simp only [List.length_append, fixedB_length]); omega) _ (by omega)))) rfl rfl rfl ?_
      refine wo_assign (v := .ref _ _ _ _ _ _) rfl rfl rfl rfl rfl (fun h => AV.noConfusion h) ?_
      refine wo_nil ?_
      refine ⟨[_, _, _, _, _, _, _, _, _, _, _, _, _, _, _, _, _, _, _, _, _, _, _, _, _, _, _, _, _, _, _, _, _, _, _, _, _, _, _, _, _, _, _, _, _, _, _, _, _, _, _, _, _, _, _, _, _, _, _, _, _, _, _, _, _, _, _, _, _, _, _, _, _, _, _, _, _, _, _, _, _, _, _, _, _, _, _, _, _, _, _, _, _, _, _, _, _, _, _, _, _, _, _, _, _, _, _, _], rfl, ?_⟩
      refine wp_seq ?_
      refine wp_region rfl rfl ?_
      refine wo_move (v := .ref _ _ _ _ _ _) rfl rfl rfl rfl rfl (fun h => AV.noConfusion h) ?_
      refine wo_mpv rfl rfl rfl rfl rfl ?_
      refine wo_call (v := RF 0 (((ubytes n ++ ubytes (zz i)) ++ (ubytes s.size ++ bytesL s)) ++ fixedB (fbits f) 8)) (H' := [_]) rfl rfl rfl rfl rfl rfl ((cl27 _ _ _ _).trans (callRef_row rfl rfl rfl row_ren row_ren (putFloat_rf f (by have := ubytes_len (v := s.size) (by omega); (try simp only [List.length_append, fixedB_length]); omega) _ (by omega)))) rfl rfl rfl ?_
      refine wo_mpv rfl rfl rfl rfl rfl ?_
      refine wo_call (v := RF 0 ((((ubytes n ++ ubytes (zz i)) ++ (ubytes s.size ++ bytesL s)) ++ fixedB (fbits f) 8) ++ fixedB n 3)) (H' := [_]) rfl rfl rfl rfl rfl rfl ((cl29 _ _ _ _).trans (callRef_row rfl rfl rfl row_ren row_ren (putFixed_rf 3 (by have := ubytes_len (v := s.size) (by omega); (try simp only [List.length_append, fixedB_length]); omega) (by decide) _ (by omega)))) rfl rfl rfl ?_
      refine wo_assign (v := .ref _ _ _ _ _ _) rfl rfl rfl rfl rfl (fun h => AV.noConfusion h) ?_
      refine wo_nil ?_
      refine ⟨[_, _, _, _, _, _, _, _, _, _, _, _, _, _, _, _, _, _, _, _, _, _, _, _, _, _, _, _, _, _, _, _, _, _, _, _, _, _, _, _, _, _, _, _, _, _, _, _, _, _, _, _, _, _, _, _, _, _, _, _, _, _, _, _, _, _, _, _, _, _, _, _, _, _, _, _, _, _, _, _, _, _, _, _, _, _, _, _, _, _, _, _, _, _, _, _, _, _, _, _, _, _, _, _, _, _, _, _], rfl, ?_⟩
      refine wp_seq ?_
      refine wp_region rfl rfl ?_
      refine wo_move (v := .ref _ _ _ _ _ _) rfl rfl rfl rfl rfl (fun h => AV.noConfusion h) ?_
      refine wo_mpv rfl rfl rfl rfl rfl ?_
      by_cases hz : x = []
      ·
        have hB : ((((ubytes n ++ ubytes (zz i)) ++ (ubytes s.size ++ bytesL s)) ++ fixedB (fbits f) 8) ++ fixedB n 3) = (ubytes n ++ (ubytes (zz i) ++ (ubytes s.size ++ (bytesL s ++ (fixedB (fbits f) 8 ++ (fixedB n 3 ++ x)))))) := by rw [hz]; simp only [List.append_assoc]; simp
        have hp0 : SL (.sl ((((((ubytes n ++ ubytes (zz i)) ++ (ubytes s.size ++ bytesL s)) ++ fixedB (fbits f) 8) ++ fixedB n 3)).map rowB)) (ubytes n ++ (ubytes (zz i) ++ (ubytes s.size ++ (bytesL s ++ (fixedB (fbits f) 8 ++ (fixedB n 3 ++ x)))))) := .inl (by rw [hB])
        have hb5 : Bytes (fixedB n 3 ++ x) := (Bytes.fixedB n 3).app hx
        have hb4 : Bytes (fixedB (fbits f) 8 ++ (fixedB n 3 ++ x)) := (Bytes.fixedB _ 8).app hb5
        have hb3 : Bytes (ubytes s.size ++ (bytesL s ++ (fixedB (fbits f) 8 ++ (fixedB n 3 ++ x)))) := (bytes_ubytes _).app (Bytes.app (bytesL_range s) hb4)
        have hb2 : Bytes (ubytes (zz i) ++ (ubytes s.size ++ (bytesL s ++ (fixedB (fbits f) 8 ++ (fixedB n 3 ++ x))))) := (bytes_ubytes _).app hb3
        have hb1 : Bytes (ubytes n ++ (ubytes (zz i) ++ (ubytes s.size ++ (bytesL s ++ (fixedB (fbits f) 8 ++ (fixedB n 3 ++ x)))))) := (bytes_ubytes _).app hb2
        obtain ⟨v1, H1, h1, o1⟩ := uint_ok hp0 hb1 n 60 (by omega)
        rw [rdU_put hn] at o1
        have o1 : ite _ _ _ := o1
        rw [if_neg (by omega)] at o1
        obtain ⟨r1, hr1, rfl, rfl⟩ := o1
        obtain ⟨v2, H2, h2, o2⟩ := int_ok hr1 hb2 60 (by omega)
        rw [rdU_put (zz_lt hi1 hi2)] at o2
        obtain ⟨r2, hr2, rfl, rfl⟩ := o2
        rw [unz_zz] at h2
        obtain ⟨v3, H3, h3, o3⟩ := text_ok hr2 hb3 s.size s.size (by omega) (by omega) 60 (by omega)
        rw [rdU_put (by omega)] at o3
        have o3 : ite _ _ _ := o3
        rw [if_neg (by omega), if_pos (by rw [List.length_append]; omega)] at o3
        obtain ⟨r3, hr3, rfl, rfl⟩ := o3
        rw [List.take_left' hbl, strOf_bytesL] at h3
        rw [List.drop_left' hbl] at hr3
        obtain ⟨g, r4, e4, h4, hg, k4, q4⟩ := float_any hr3 hb4 60 (by omega)
        obtain ⟨rfl, rfl⟩ := q4 (fbits f) _ (fbits_lt hf) (fbits_fbits f) rfl
        obtain ⟨rest, hr4, hcat, _⟩ := k4 rfl
        have hrest := List.append_cancel_left hcat
        subst hrest
        obtain ⟨r5, v5, H5, h5, hr5, rfl, rfl⟩ := fixed_ok hr4 hb5 3 (by rw [show clip 3 = 3 by decide]; simp [fixedB_length]) 60 (by omega)
        rw [show clip 3 = 3 by decide, List.take_left' (fixedB_length n 3), fixedB_low 3 n (n % 256 ^ 3) (by simp), beN_fixedB 3 _ 0 (Nat.mod_lt _ (by decide))] at h5
        rw [show clip 3 = 3 by decide, List.drop_left' (fixedB_length n 3)] at hr5
        refine wo_append (v := RF 0 ((((ubytes n ++ ubytes (zz i)) ++ (ubytes s.size ++ bytesL s)) ++ fixedB (fbits f) 8) ++ fixedB n 3)) (H' := [_]) t35 rfl rfl rfl rfl rfl rfl rfl rfl (show _ = some [] from (srcRows_sl hp _).trans (congrArg (fun z => some (List.map rowB z)) hz)) (RB.app0 (e := 5) t35 rfl t5 rfl rfl rfl rfl (by have := ubytes_len (v := s.size) (by omega); (try simp only [List.length_append, fixedB_length]); omega)) rfl rfl rfl ?_
        refine wo_call (v := .ptr 1 0) (H' := [_, _]) rfl rfl rfl rfl rfl rfl ((cl32 _ _ _ _).trans (callPure_rf rfl rfl (read_ok _ _ (by omega)))) rfl rfl rfl ?_
        refine wo_assign (v := .ptr _ _) rfl rfl rfl rfl rfl (fun h => AV.noConfusion h) ?_
        refine wo_nil ?_
        refine ⟨[_, _, _, _, _, _, _, _, _, _, _, _, _, _, _, _, _, _, _, _, _, _, _, _, _, _, _, _, _, _, _, _, _, _, _, _, _, _, _, _, _, _, _, _, _, _, _, _, _, _, _, _, _, _, _, _, _, _, _, _, _, _, _, _, _, _, _, _, _, _, _, _, _, _, _, _, _, _, _, _, _, _, _, _, _, _, _, _, _, _, _, _, _, _, _, _, _, _, _, _, _, _, _, _, _, _, _, _], rfl, ?_⟩
        refine wp_seq ?_
        refine wp_seq ?_
        refine wp_region rfl rfl ?_
        refine wo_move (v := .ptr _ _) rfl rfl rfl rfl rfl (fun h => AV.noConfusion h) ?_
        refine wo_bint t49 rfl rfl rfl rfl rfl ?_
        refine wo_mpv rfl rfl rfl rfl rfl ?_
        refine wo_move (v := .ptr _ _) rfl rfl rfl rfl rfl (fun h => AV.noConfusion h) ?_
        refine wo_mpv rfl rfl rfl rfl rfl ?_
        refine wo_call (v := .pv _) (H' := [_, _]) rfl rfl rfl rfl rfl rfl ((cl33 _ _ _ _).trans (callRef_box rfl rfl rfl rfl rfl (h1))) rfl rfl rfl ?_
        refine wo_mpv rfl rfl rfl rfl rfl ?_
        refine wo_bin (v := .pv (.bool false)) rfl rfl rfl rfl (nF rfl) ?_
        refine wo_pick (v := .pv _) rfl rfl rfl rfl rfl rfl ?_
        refine wo_mpv rfl rfl rfl rfl rfl ?_
        refine wo_move (v := .ptr _ _) rfl rfl rfl rfl rfl (fun h => AV.noConfusion h) ?_
        refine wo_norm [_, _, _, _, _, _, _, _, _, _, _, _, _, _, _, _, _, _, _, _, _, _, _, _, _, _, _, _, _, _, _, _, _, _, _, _, _, _, _, _, _, _, _, _, _, _, _, _, _, _, _, _, _, _, _, _, _, _, _, _, _, _, _, _, _, _, _, _, _, _, _, _, _, _, _, _, _, _, _, _, _, _, _, _, _, _, _, _, _, _, _, _, _, _, _, _, _, _, _, _, _, _, _, _, _, _, _, _] rfl ?_
        refine wo_call (v := .pv _) (H' := [_, _]) rfl rfl rfl rfl rfl rfl ((cl39 _ _ _ _).trans (callRef_box rfl rfl rfl rfl rfl (h2))) rfl rfl rfl ?_
        refine wo_mpv rfl rfl rfl rfl rfl ?_
        refine wo_bin (v := .pv (.bool false)) rfl rfl rfl rfl (nF rfl) ?_
        refine wo_pick (v := .pv _) rfl rfl rfl rfl rfl rfl ?_
        refine wo_mpv rfl rfl rfl rfl rfl ?_
        refine wo_move (v := .ptr _ _) rfl rfl rfl rfl rfl (fun h => AV.noConfusion h) ?_
        refine wo_mpv rfl rfl rfl rfl rfl ?_
        refine wo_len t9 rfl rfl rfl rfl rfl rfl rfl rfl rfl ?_
        refine wo_call (v := .pv _) (H' := [_, _]) rfl rfl rfl rfl rfl rfl ((cl37 _ _ _ _).trans (callRef_box rfl rfl rfl rfl rfl (h3))) rfl rfl rfl ?_
        refine wo_mpv rfl rfl rfl rfl rfl ?_
        refine wo_bin (v := .pv (.bool false)) rfl rfl rfl rfl (strNe _) ?_
        refine wo_pick (v := .pv _) rfl rfl rfl rfl rfl rfl ?_
        refine wo_nil ?_
        refine ⟨[_, _, _, _, _, _, _, _, _, _, _, _, _, _, _, _, _, _, _, _, _, _, _, _, _, _, _, _, _, _, _, _, _, _, _, _, _, _, _, _, _, _, _, _, _, _, _, _, _, _, _, _, _, _, _, _, _, _, _, _, _, _, _, _, _, _, _, _, _, _, _, _, _, _, _, _, _, _, _, _, _, _, _, _, _, _, _, _, _, _, _, _, _, _, _, _, _, _, _, _, _, _, _, _, _, _, _, _], rfl, ?_⟩
        refine wp_false rfl ?_
        refine wp_skip ?_
        refine wp_seq ?_
        refine wp_region rfl rfl ?_
        refine wo_move (v := .ptr _ _) rfl rfl rfl rfl rfl (fun h => AV.noConfusion h) ?_
        refine wo_call (v := .pv (.flt .f64 (fbits f))) (H' := [_, _]) rfl rfl rfl rfl rfl rfl ((cl40 _ _ _ _).trans (callRef_box rfl rfl rfl rfl rfl (h4))) rfl rfl rfl ?_
        refine wo_apv rfl rfl rfl rfl rfl ?_
        refine wo_nil ?_
        refine ⟨[_, _, _, _, _, _, _, _, _, _, _, _, _, _, _, _, _, _, _, _, _, _, _, _, _, _, _, _, _, _, _, _, _, _, _, _, _, _, _, _, _, _, _, _, _, _, _, _, _, _, _, _, _, _, _, _, _, _, _, _, _, _, _, _, _, _, _, _, _, _, _, _, _, _, _, _, _, _, _, _, _, _, _, _, _, _, _, _, _, _, _, _, _, _, _, _, _, _, _, _, _, _, _, _, _, _, _, _], rfl, ?_⟩
        refine wp_seq ?_
        refine wp_seq ?_
        refine wp_region rfl rfl ?_
        refine wo_mpv rfl rfl rfl rfl rfl ?_
        refine wo_mpv rfl rfl rfl rfl rfl ?_
        cases hnan : isNan f
        ·
          refine wo_bin (v := .pv (.bool false)) rfl rfl rfl rfl (vF hnan) ?_
          refine wo_mpv rfl rfl rfl rfl rfl ?_
          refine wo_off rfl rfl rfl ?_
          refine wo_off rfl rfl rfl ?_
          refine wo_off rfl rfl rfl ?_
          refine wo_pick (v := .pv _) rfl rfl rfl rfl rfl rfl ?_
          refine wo_mpv rfl rfl rfl rfl rfl ?_
          refine wo_mpv rfl rfl rfl rfl rfl ?_
          refine wo_mpv rfl rfl rfl rfl rfl ?_
          refine wo_norm [_, _, _, _, _, _, _, _, _, _, _, _, _, _, _, _, _, _, _, _, _, _, _, _, _, _, _, _, _, _, _, _, _, _, _, _, _, _, _, _, _, _, _, _, _, _, _, _, _, _, _, _, _, _, _, _, _, _, _, _, _, _, _, _, _, _, _, _, _, _, _, _, _, _, _, _, _, _, _, _, _, _, _, _, _, _, _, _, _, _, _, _, _, _, _, _, _, _, _, _, _, _, _, _, _, _, _, _] rfl ?_
          refine wo_bin (v := .pv (.bool true)) rfl rfl rfl rfl (vT (by unfold isNan at hnan; simpa using hnan)) ?_
          refine wo_mpv rfl rfl rfl rfl rfl ?_
          refine wo_mpv rfl rfl rfl rfl rfl ?_
          refine wo_mpv rfl rfl rfl rfl rfl ?_
          cases hzero : isZero f
          ·
            refine wo_bin (v := .pv (.bool false)) rfl rfl rfl rfl ((by rw [fbits_else hnan hzero]; exact vF hnan)) ?_
            refine wo_pick (v := .pv _) rfl rfl rfl rfl rfl rfl ?_
            refine wo_pick (v := .pv _) rfl rfl rfl rfl rfl rfl ?_
            refine wo_mpv rfl rfl rfl rfl rfl ?_
            refine wo_mpv rfl rfl rfl rfl rfl ?_
            refine wo_bin (v := .pv (.bool false)) rfl rfl rfl rfl (vF hzero) ?_
            refine wo_mpv rfl rfl rfl rfl rfl ?_
            refine wo_off rfl rfl rfl ?_
            refine wo_norm [_, _, _, _, _, _, _, _, _, _, _, _, _, _, _, _, _, _, _, _, _, _, _, _, _, _, _, _, _, _, _, _, _, _, _, _, _, _, _, _, _, _, _, _, _, _, _, _, _, _, _, _, _, _, _, _, _, _, _, _, _, _, _, _, _, _, _, _, _, _, _, _, _, _, _, _, _, _, _, _, _, _, _, _, _, _, _, _, _, _, _, _, _, _, _, _, _, _, _, _, _, _, _, _, _, _, _, _] rfl ?_
            refine wo_off rfl rfl rfl ?_
            refine wo_pick (v := .pv _) rfl rfl rfl rfl rfl rfl ?_
            refine wo_pick (v := .pv _) rfl rfl rfl rfl rfl rfl ?_
            refine wo_nil ?_
            refine ⟨[_, _, _, _, _, _, _, _, _, _, _, _, _, _, _, _, _, _, _, _, _, _, _, _, _, _, _, _, _, _, _, _, _, _, _, _, _, _, _, _, _, _, _, _, _, _, _, _, _, _, _, _, _, _, _, _, _, _, _, _, _, _, _, _, _, _, _, _, _, _, _, _, _, _, _, _, _, _, _, _, _, _, _, _, _, _, _, _, _, _, _, _, _, _, _, _, _, _, _, _, _, _, _, _, _, _, _, _], rfl, ?_⟩
            refine wp_false rfl ?_
            refine wp_skip ?_
            refine wp_seq ?_
            refine wp_region rfl rfl ?_
            refine wo_move (v := .ptr _ _) rfl rfl rfl rfl rfl (fun h => AV.noConfusion h) ?_
            refine wo_call (v := .pv _) (H' := [_, _]) rfl rfl rfl rfl rfl rfl ((cl41 _ _ _ _).trans (callRef_box rfl rfl rfl rfl rfl (h5))) rfl rfl rfl ?_
            refine wo_mpv rfl rfl rfl rfl rfl ?_
            refine wo_bin (v := .pv (.int .u64 ((n % 256 ^ 3 : Nat) : Int))) rfl rfl rfl rfl (rfl) ?_
            refine wo_bin (v := .pv (.bool true)) rfl rfl rfl rfl (eT (by simp)) ?_
            refine wo_mpv rfl rfl rfl rfl rfl ?_
            refine wo_move (v := .ptr _ _) rfl rfl rfl rfl rfl (fun h => AV.noConfusion h) ?_
            refine wo_call (v := .pv _) (H' := [_, _]) rfl rfl rfl rfl rfl rfl ((cl36 _ _ _ _).trans (callRef_box rfl rfl rfl rfl rfl (left_ok hr5 _ (by omega)))) rfl rfl rfl ?_
            refine wo_mpv rfl rfl rfl rfl rfl ?_
            refine wo_len (ln := x.length) t35 rfl rfl rfl rfl rfl rfl rfl (hp.len 5) rfl ?_
            refine wo_bin (v := .pv (.bool true)) rfl rfl rfl rfl (eT rfl) ?_
            refine wo_norm [_, _, _, _, _, _, _, _, _, _, _, _, _, _, _, _, _, _, _, _, _, _, _, _, _, _, _, _, _, _, _, _, _, _, _, _, _, _, _, _, _, _, _, _, _, _, _, _, _, _, _, _, _, _, _, _, _, _, _, _, _, _, _, _, _, _, _, _, _, _, _, _, _, _, _, _, _, _, _, _, _, _, _, _, _, _, _, _, _, _, _, _, _, _, _, _, _, _, _, _, _, _, _, _, _, _, _, _] rfl ?_
            refine wo_pick (v := .pv _) rfl rfl rfl rfl rfl rfl ?_
            refine wo_mpv rfl rfl rfl rfl rfl ?_
            refine wo_move (v := .ptr _ _) rfl rfl rfl rfl rfl (fun h => AV.noConfusion h) ?_
            refine wo_call (v := .pv _) (H' := [_, _]) rfl rfl rfl rfl rfl rfl ((cl34 _ _ _ _).trans (callRef_box rfl rfl rfl rfl rfl (err_ok _ _ _ (by omega)))) rfl rfl rfl ?_
            refine wo_bin (v := .pv (.bool true)) rfl rfl rfl rfl (eT rfl) ?_
            refine wo_pick (v := .pv _) rfl rfl rfl rfl rfl rfl ?_
            refine wo_apv rfl rfl rfl rfl rfl ?_
            refine wo_nil ?_
            refine ⟨[_, _, _, _, _, _, _, _, _, _, _, _, _, _, _, _, _, _, _, _, _, _, _, _, _, _, _, _, _, _, _, _, _, _, _, _, _, _, _, _, _, _, _, _, _, _, _, _, _, _, _, _, _, _, _, _, _, _, _, _, _, _, _, _, _, _, _, _, _, _, _, _, _, _, _, _, _, _, _, _, _, _, _, _, _, _, _, _, _, _, _, _, _, _, _, _, _, _, _, _, _, _, _, _, _, _, _, _], rfl, ?_⟩
            refine wp_ret ?_
            exact ⟨trivial, _, rfl, leave_pure⟩
          ·
            refine wo_bin (v := .pv (.bool false)) rfl rfl rfl rfl ((by rw [fbits_zero hnan hzero]; exact vF (by simpa using order_symm f 0 hzero))) ?_
            refine wo_pick (v := .pv _) rfl rfl rfl rfl rfl rfl ?_
            refine wo_pick (v := .pv _) rfl rfl rfl rfl rfl rfl ?_
            refine wo_mpv rfl rfl rfl rfl rfl ?_
            refine wo_mpv rfl rfl rfl rfl rfl ?_
            refine wo_bin (v := .pv (.bool true)) rfl rfl rfl rfl (vT hzero) ?_
            refine wo_mpv rfl rfl rfl rfl rfl ?_
            refine wo_mpv rfl rfl rfl rfl rfl ?_
            refine wo_norm [_, _, _, _, _, _, _, _, _, _, _, _, _, _, _, _, _, _, _, _, _, _, _, _, _, _, _, _, _, _, _, _, _, _, _, _, _, _, _, _, _, _, _, _, _, _, _, _, _, _, _, _, _, _, _, _, _, _, _, _, _, _, _, _, _, _, _, _, _, _, _, _, _, _, _, _, _, _, _, _, _, _, _, _, _, _, _, _, _, _, _, _, _, _, _, _, _, _, _, _, _, _, _, _, _, _, _, _] rfl ?_
            refine wo_call (v := .pv (.bool false)) (H' := [_, _]) rfl rfl rfl rfl rfl rfl ((cl42 _ _ _ _).trans (callPure_pv rfl (fun _ => rfl) (by rw [fbits_zero hnan hzero]; exact signbit_zero))) rfl rfl rfl ?_
            refine wo_pick (v := .pv _) rfl rfl rfl rfl rfl rfl ?_
            refine wo_pick (v := .pv _) rfl rfl rfl rfl rfl rfl ?_
            refine wo_nil ?_
            refine ⟨[_, _, _, _, _, _, _, _, _, _, _, _, _, _, _, _, _, _, _, _, _, _, _, _, _, _, _, _, _, _, _, _, _, _, _, _, _, _, _, _, _, _, _, _, _, _, _, _, _, _, _, _, _, _, _, _, _, _, _, _, _, _, _, _, _, _, _, _, _, _, _, _, _, _, _, _, _, _, _, _, _, _, _, _, _, _, _, _, _, _, _, _, _, _, _, _, _, _, _, _, _, _, _, _, _, _, _, _], rfl, ?_⟩
            refine wp_false rfl ?_
            refine wp_skip ?_
            refine wp_seq ?_
            refine wp_region rfl rfl ?_
            refine wo_move (v := .ptr _ _) rfl rfl rfl rfl rfl (fun h => AV.noConfusion h) ?_
            refine wo_call (v := .pv _) (H' := [_, _]) rfl rfl rfl rfl rfl rfl ((cl41 _ _ _ _).trans (callRef_box rfl rfl rfl rfl rfl (h5))) rfl rfl rfl ?_
            refine wo_mpv rfl rfl rfl rfl rfl ?_
            refine wo_bin (v := .pv (.int .u64 ((n % 256 ^ 3 : Nat) : Int))) rfl rfl rfl rfl (rfl) ?_
            refine wo_bin (v := .pv (.bool true)) rfl rfl rfl rfl (eT (by simp)) ?_
            refine wo_mpv rfl rfl rfl rfl rfl ?_
            refine wo_move (v := .ptr _ _) rfl rfl rfl rfl rfl (fun h => AV.noConfusion h) ?_
            refine wo_call (v := .pv _) (H' := [_, _]) rfl rfl rfl rfl rfl rfl ((cl36 _ _ _ _).trans (callRef_box rfl rfl rfl rfl rfl (left_ok hr5 _ (by omega)))) rfl rfl rfl ?_
            refine wo_mpv rfl rfl rfl rfl rfl ?_
            refine wo_len (ln := x.length) t35 rfl rfl rfl rfl rfl rfl rfl (hp.len 5) rfl ?_
            refine wo_bin (v := .pv (.bool true)) rfl rfl rfl rfl (eT rfl) ?_
            refine wo_norm [_, _, _, _, _, _, _, _, _, _, _, _, _, _, _, _, _, _, _, _, _, _, _, _, _, _, _, _, _, _, _, _, _, _, _, _, _, _, _, _, _, _, _, _, _, _, _, _, _, _, _, _, _, _, _, _, _, _, _, _, _, _, _, _, _, _, _, _, _, _, _, _, _, _, _, _, _, _, _, _, _, _, _, _, _, _, _, _, _, _, _, _, _, _, _, _, _, _, _, _, _, _, _, _, _, _, _, _] rfl ?_
            refine wo_pick (v := .pv _) rfl rfl rfl rfl rfl rfl ?_
            refine wo_mpv rfl rfl rfl rfl rfl ?_
            refine wo_move (v := .ptr _ _) rfl rfl rfl rfl rfl (fun h => AV.noConfusion h) ?_
            refine wo_call (v := .pv _) (H' := [_, _]) rfl rfl rfl rfl rfl rfl ((cl34 _ _ _ _).trans (callRef_box rfl rfl rfl rfl rfl (err_ok _ _ _ (by omega)))) rfl rfl rfl ?_
            refine wo_bin (v := .pv (.bool true)) rfl rfl rfl rfl (eT rfl) ?_
            refine wo_pick (v := .pv _) rfl rfl rfl rfl rfl rfl ?_
            refine wo_apv rfl rfl rfl rfl rfl ?_
            refine wo_nil ?_
            refine ⟨[_, _, _, _, _, _, _, _, _, _, _, _, _, _, _, _, _, _, _, _, _, _, _, _, _, _, _, _, _, _, _, _, _, _, _, _, _, _, _, _, _, _, _, _, _, _, _, _, _, _, _, _, _, _, _, _, _, _, _, _, _, _, _, _, _, _, _, _, _, _, _, _, _, _, _, _, _, _, _, _, _, _, _, _, _, _, _, _, _, _, _, _, _, _, _, _, _, _, _, _, _, _, _, _, _, _, _, _], rfl, ?_⟩
            refine wp_ret ?_
            exact ⟨trivial, _, rfl, leave_pure⟩
        ·
          refine wo_bin (v := .pv (.bool true)) rfl rfl rfl rfl (vT hnan) ?_
          refine wo_mpv rfl rfl rfl rfl rfl ?_
          refine wo_mpv rfl rfl rfl rfl rfl ?_
          refine wo_mpv rfl rfl rfl rfl rfl ?_
          refine wo_bin (v := .pv (.bool false)) rfl rfl rfl rfl ((by rw [fbits_nan hnan]; kernel_rfl)) ?_
          refine wo_pick (v := .pv _) rfl rfl rfl rfl rfl rfl ?_
          refine wo_mpv rfl rfl rfl rfl rfl ?_
          refine wo_mpv rfl rfl rfl rfl rfl ?_
          refine wo_mpv rfl rfl rfl rfl rfl ?_
          refine wo_norm [_, _, _, _, _, _, _, _, _, _, _, _, _, _, _, _, _, _, _, _, _, _, _, _, _, _, _, _, _, _, _, _, _, _, _, _, _, _, _, _, _, _, _, _, _, _, _, _, _, _, _, _, _, _, _, _, _, _, _, _, _, _, _, _, _, _, _, _, _, _, _, _, _, _, _, _, _, _, _, _, _, _, _, _, _, _, _, _, _, _, _, _, _, _, _, _, _, _, _, _, _, _, _, _, _, _, _, _] rfl ?_
          refine wo_bin (v := .pv (.bool false)) rfl rfl rfl rfl (vF (by unfold isNan at hnan; simpa using hnan)) ?_
          refine wo_mpv rfl rfl rfl rfl rfl ?_
          refine wo_off rfl rfl rfl ?_
          refine wo_off rfl rfl rfl ?_
          refine wo_off rfl rfl rfl ?_
          refine wo_pick (v := .pv _) rfl rfl rfl rfl rfl rfl ?_
          refine wo_pick (v := .pv _) rfl rfl rfl rfl rfl rfl ?_
          refine wo_mpv rfl rfl rfl rfl rfl ?_
          refine wo_mpv rfl rfl rfl rfl rfl ?_
          cases hzero : isZero f
          ·
            refine wo_bin (v := .pv (.bool false)) rfl rfl rfl rfl (vF hzero) ?_
            refine wo_mpv rfl rfl rfl rfl rfl ?_
            refine wo_off rfl rfl rfl ?_
            refine wo_norm [_, _, _, _, _, _, _, _, _, _, _, _, _, _, _, _, _, _, _, _, _, _, _, _, _, _, _, _, _, _, _, _, _, _, _, _, _, _, _, _, _, _, _, _, _, _, _, _, _, _, _, _, _, _, _, _, _, _, _, _, _, _, _, _, _, _, _, _, _, _, _, _, _, _, _, _, _, _, _, _, _, _, _, _, _, _, _, _, _, _, _, _, _, _, _, _, _, _, _, _, _, _, _, _, _, _, _, _] rfl ?_
            refine wo_off rfl rfl rfl ?_
            refine wo_pick (v := .pv _) rfl rfl rfl rfl rfl rfl ?_
            refine wo_pick (v := .pv _) rfl rfl rfl rfl rfl rfl ?_
            refine wo_nil ?_
            refine ⟨[_, _, _, _, _, _, _, _, _, _, _, _, _, _, _, _, _, _, _, _, _, _, _, _, _, _, _, _, _, _, _, _, _, _, _, _, _, _, _, _, _, _, _, _, _, _, _, _, _, _, _, _, _, _, _, _, _, _, _, _, _, _, _, _, _, _, _, _, _, _, _, _, _, _, _, _, _, _, _, _, _, _, _, _, _, _, _, _, _, _, _, _, _, _, _, _, _, _, _, _, _, _, _, _, _, _, _, _], rfl, ?_⟩
            refine wp_false rfl ?_
            refine wp_skip ?_
            refine wp_seq ?_
            refine wp_region rfl rfl ?_
            refine wo_move (v := .ptr _ _) rfl rfl rfl rfl rfl (fun h => AV.noConfusion h) ?_
            refine wo_call (v := .pv _) (H' := [_, _]) rfl rfl rfl rfl rfl rfl ((cl41 _ _ _ _).trans (callRef_box rfl rfl rfl rfl rfl (h5))) rfl rfl rfl ?_
            refine wo_mpv rfl rfl rfl rfl rfl ?_
            refine wo_bin (v := .pv (.int .u64 ((n % 256 ^ 3 : Nat) : Int))) rfl rfl rfl rfl (rfl) ?_
            refine wo_bin (v := .pv (.bool true)) rfl rfl rfl rfl (eT (by simp)) ?_
            refine wo_mpv rfl rfl rfl rfl rfl ?_
            refine wo_move (v := .ptr _ _) rfl rfl rfl rfl rfl (fun h => AV.noConfusion h) ?_
            refine wo_call (v := .pv _) (H' := [_, _]) rfl rfl rfl rfl rfl rfl ((cl36 _ _ _ _).trans (callRef_box rfl rfl rfl rfl rfl (left_ok hr5 _ (by omega)))) rfl rfl rfl ?_
            refine wo_mpv rfl rfl rfl rfl rfl ?_
            refine wo_len (ln := x.length) t35 rfl rfl rfl rfl rfl rfl rfl (hp.len 5) rfl ?_
            refine wo_bin (v := .pv (.bool true)) rfl rfl rfl rfl (eT rfl) ?_
            refine wo_norm [_, _, _, _, _, _, _, _, _, _, _, _, _, _, _, _, _, _, _, _, _, _, _, _, _, _, _, _, _, _, _, _, _, _, _, _, _, _, _, _, _, _, _, _, _, _, _, _, _, _, _, _, _, _, _, _, _, _, _, _, _, _, _, _, _, _, _, _, _, _, _, _, _, _, _, _, _, _, _, _, _, _, _, _, _, _, _, _, _, _, _, _, _, _, _, _, _, _, _, _, _, _, _, _, _, _, _, _] rfl ?_
            refine wo_pick (v := .pv _) rfl rfl rfl rfl rfl rfl ?_
            refine wo_mpv rfl rfl rfl rfl rfl ?_
            refine wo_move (v := .ptr _ _) rfl rfl rfl rfl rfl (fun h => AV.noConfusion h) ?_
            refine wo_call (v := .pv _) (H' := [_, _]) rfl rfl rfl rfl rfl rfl ((cl34 _ _ _ _).trans (callRef_box rfl rfl rfl rfl rfl (err_ok _ _ _ (by omega)))) rfl rfl rfl ?_
            refine wo_bin (v := .pv (.bool true)) rfl rfl rfl rfl (eT rfl) ?_
            refine wo_pick (v := .pv _) rfl rfl rfl rfl rfl rfl ?_
            refine wo_apv rfl rfl rfl rfl rfl ?_
            refine wo_nil ?_
            refine ⟨[_, _, _, _, _, _, _, _, _, _, _, _, _, _, _, _, _, _, _, _, _, _, _, _, _, _, _, _, _, _, _, _, _, _, _, _, _, _, _, _, _, _, _, _, _, _, _, _, _, _, _, _, _, _, _, _, _, _, _, _, _, _, _, _, _, _, _, _, _, _, _, _, _, _, _, _, _, _, _, _, _, _, _, _, _, _, _, _, _, _, _, _, _, _, _, _, _, _, _, _, _, _, _, _, _, _, _, _], rfl, ?_⟩
            refine wp_ret ?_
            exact ⟨trivial, _, rfl, leave_pure⟩
          ·
            refine wo_bin (v := .pv (.bool true)) rfl rfl rfl rfl (vT hzero) ?_
            refine wo_mpv rfl rfl rfl rfl rfl ?_
            refine wo_mpv rfl rfl rfl rfl rfl ?_
            refine wo_norm [_, _, _, _, _, _, _, _, _, _, _, _, _, _, _, _, _, _, _, _, _, _, _, _, _, _, _, _, _, _, _, _, _, _, _, _, _, _, _, _, _, _, _, _, _, _, _, _, _, _, _, _, _, _, _, _, _, _, _, _, _, _, _, _, _, _, _, _, _, _, _, _, _, _, _, _, _, _, _, _, _, _, _, _, _, _, _, _, _, _, _, _, _, _, _, _, _, _, _, _, _, _, _, _, _, _, _, _] rfl ?_
            refine wo_call (v := .pv (.bool false)) (H' := [_, _]) rfl rfl rfl rfl rfl rfl ((cl42 _ _ _ _).trans (callPure_pv rfl (fun _ => rfl) (by rw [fbits_nan hnan]; exact signbit_nan))) rfl rfl rfl ?_
            refine wo_pick (v := .pv _) rfl rfl rfl rfl rfl rfl ?_
            refine wo_pick (v := .pv _) rfl rfl rfl rfl rfl rfl ?_
            refine wo_nil ?_
            refine ⟨[_, _, _, _, _, _, _, _, _, _, _, _, _, _, _, _, _, _, _, _, _, _, _, _, _, _, _, _, _, _, _, _, _, _, _, _, _, _, _, _, _, _, _, _, _, _, _, _, _, _, _, _, _, _, _, _, _, _, _, _, _, _, _, _, _, _, _, _, _, _, _, _, _, _, _, _, _, _, _, _, _, _, _, _, _, _, _, _, _, _, _, _, _, _, _, _, _, _, _, _, _, _, _, _, _, _, _, _], rfl, ?_⟩
            refine wp_false rfl ?_
            refine wp_skip ?_
            refine wp_seq ?_
            refine wp_region rfl rfl ?_
            refine wo_move (v := .ptr _ _) rfl rfl rfl rfl rfl (fun h => AV.noConfusion h) ?_
            refine wo_call (v := .pv _) (H' := [_, _]) rfl rfl rfl rfl rfl rfl ((cl41 _ _ _ _).trans (callRef_box rfl rfl rfl rfl rfl (h5))) rfl rfl rfl ?_
            refine wo_mpv rfl rfl rfl rfl rfl ?_
            refine wo_bin (v := .pv (.int .u64 ((n % 256 ^ 3 : Nat) : Int))) rfl rfl rfl rfl (rfl) ?_
            refine wo_bin (v := .pv (.bool true)) rfl rfl rfl rfl (eT (by simp)) ?_
            refine wo_mpv rfl rfl rfl rfl rfl ?_
            refine wo_move (v := .ptr _ _) rfl rfl rfl rfl rfl (fun h => AV.noConfusion h) ?_
            refine wo_call (v := .pv _) (H' := [_, _]) rfl rfl rfl rfl rfl rfl ((cl36 _ _ _ _).trans (callRef_box rfl rfl rfl rfl rfl (left_ok hr5 _ (by omega)))) rfl rfl rfl ?_
            refine wo_mpv rfl rfl rfl rfl rfl ?_
            refine wo_len (ln := x.length) t35 rfl rfl rfl rfl rfl rfl rfl (hp.len 5) rfl ?_
            refine wo_bin (v := .pv (.bool true)) rfl rfl rfl rfl (eT rfl) ?_
            refine wo_norm [_, _, _, _, _, _, _, _, _, _, _, _, _, _, _, _, _, _, _, _, _, _, _, _, _, _, _, _, _, _, _, _, _, _, _, _, _, _, _, _, _, _, _, _, _, _, _, _, _, _, _, _, _, _, _, _, _, _, _, _, _, _, _, _, _, _, _, _, _, _, _, _, _, _, _, _, _, _, _, _, _, _, _, _, _, _, _, _, _, _, _, _, _, _, _, _, _, _, _, _, _, _, _, _, _, _, _, _] rfl ?_
            refine wo_pick (v := .pv _) rfl rfl rfl rfl rfl rfl ?_
            refine wo_mpv rfl rfl rfl rfl rfl ?_
            refine wo_move (v := .ptr _ _) rfl rfl rfl rfl rfl (fun h => AV.noConfusion h) ?_
            refine wo_call (v := .pv _) (H' := [_, _]) rfl rfl rfl rfl rfl rfl ((cl34 _ _ _ _).trans (callRef_box rfl rfl rfl rfl rfl (err_ok _ _ _ (by omega)))) rfl rfl rfl ?_
            refine wo_bin (v := .pv (.bool true)) rfl rfl rfl rfl (eT rfl) ?_
            refine wo_pick (v := .pv _) rfl rfl rfl rfl rfl rfl ?_
            refine wo_apv rfl rfl rfl rfl rfl ?_
            refine wo_nil ?_
            refine ⟨[_, _, _, _, _, _, _, _, _, _, _, _, _, _, _, _, _, _, _, _, _, _, _, _, _, _, _, _, _, _, _, _, _, _, _, _, _, _, _, _, _, _, _, _, _, _, _, _, _, _, _, _, _, _, _, _, _, _, _, _, _, _, _, _, _, _, _, _, _, _, _, _, _, _, _, _, _, _, _, _, _, _, _, _, _, _, _, _, _, _, _, _, _, _, _, _, _, _, _, _, _, _, _, _, _, _, _, _], rfl, ?_⟩
            refine wp_ret ?_
            exact ⟨trivial, _, rfl, leave_pure⟩
      ·
        have hB : (((((ubytes n ++ ubytes (zz i)) ++ (ubytes s.size ++ bytesL s)) ++ fixedB (fbits f) 8) ++ fixedB n 3) ++ x) = (ubytes n ++ (ubytes (zz i) ++ (ubytes s.size ++ (bytesL s ++ (fixedB (fbits f) 8 ++ (fixedB n 3 ++ x)))))) := by simp only [List.append_assoc]
        have hp0 : SL (.sl (((((((ubytes n ++ ubytes (zz i)) ++ (ubytes s.size ++ bytesL s)) ++ fixedB (fbits f) 8) ++ fixedB n 3) ++ x)).map rowB)) (ubytes n ++ (ubytes (zz i) ++ (ubytes s.size ++ (bytesL s ++ (fixedB (fbits f) 8 ++ (fixedB n 3 ++ x)))))) := .inl (by rw [hB])
        have hb5 : Bytes (fixedB n 3 ++ x) := (Bytes.fixedB n 3).app hx
        have hb4 : Bytes (fixedB (fbits f) 8 ++ (fixedB n 3 ++ x)) := (Bytes.fixedB _ 8).app hb5
        have hb3 : Bytes (ubytes s.size ++ (bytesL s ++ (fixedB (fbits f) 8 ++ (fixedB n 3 ++ x)))) := (bytes_ubytes _).app (Bytes.app (bytesL_range s) hb4)
        have hb2 : Bytes (ubytes (zz i) ++ (ubytes s.size ++ (bytesL s ++ (fixedB (fbits f) 8 ++ (fixedB n 3 ++ x))))) := (bytes_ubytes _).app hb3
        have hb1 : Bytes (ubytes n ++ (ubytes (zz i) ++ (ubytes s.size ++ (bytesL s ++ (fixedB (fbits f) 8 ++ (fixedB n 3 ++ x)))))) := (bytes_ubytes _).app hb2
        obtain ⟨v1, H1, h1, o1⟩ := uint_ok hp0 hb1 n 60 (by omega)
        rw [rdU_put hn] at o1
        have o1 : ite _ _ _ := o1
        rw [if_neg (by omega)] at o1
        obtain ⟨r1, hr1, rfl, rfl⟩ := o1
        obtain ⟨v2, H2, h2, o2⟩ := int_ok hr1 hb2 60 (by omega)
        rw [rdU_put (zz_lt hi1 hi2)] at o2
        obtain ⟨r2, hr2, rfl, rfl⟩ := o2
        rw [unz_zz] at h2
        obtain ⟨v3, H3, h3, o3⟩ := text_ok hr2 hb3 s.size s.size (by omega) (by omega) 60 (by omega)
        rw [rdU_put (by omega)] at o3
        have o3 : ite _ _ _ := o3
        rw [if_neg (by omega), if_pos (by rw [List.length_append]; omega)] at o3
        obtain ⟨r3, hr3, rfl, rfl⟩ := o3
        rw [List.take_left' hbl, strOf_bytesL] at h3
        rw [List.drop_left' hbl] at hr3
        obtain ⟨g, r4, e4, h4, hg, k4, q4⟩ := float_any hr3 hb4 60 (by omega)
        obtain ⟨rfl, rfl⟩ := q4 (fbits f) _ (fbits_lt hf) (fbits_fbits f) rfl
        obtain ⟨rest, hr4, hcat, _⟩ := k4 rfl
        have hrest := List.append_cancel_left hcat
        subst hrest
        obtain ⟨r5, v5, H5, h5, hr5, rfl, rfl⟩ := fixed_ok hr4 hb5 3 (by rw [show clip 3 = 3 by decide]; simp [fixedB_length]) 60 (by omega)
        rw [show clip 3 = 3 by decide, List.take_left' (fixedB_length n 3), fixedB_low 3 n (n % 256 ^ 3) (by simp), beN_fixedB 3 _ 0 (Nat.mod_lt _ (by decide))] at h5
        rw [show clip 3 = 3 by decide, List.drop_left' (fixedB_length n 3)] at hr5
        refine wo_append (v := RF 0 (((((ubytes n ++ ubytes (zz i)) ++ (ubytes s.size ++ bytesL s)) ++ fixedB (fbits f) 8) ++ fixedB n 3) ++ x)) (H' := [_]) t35 rfl rfl rfl rfl rfl rfl rfl rfl (srcRows_sl hp _) (RB.app (e := 5) (a := x) t35 rfl t5 rfl rfl rfl rfl hz (by have := ubytes_len (v := s.size) (by omega); (try simp only [List.length_append, fixedB_length]); omega)) rfl rfl rfl ?_
        refine wo_call (v := .ptr 1 0) (H' := [_, _]) rfl rfl rfl rfl rfl rfl ((cl32 _ _ _ _).trans (callPure_rf rfl rfl (read_ok _ _ (by omega)))) rfl rfl rfl ?_
        refine wo_assign (v := .ptr _ _) rfl rfl rfl rfl rfl (fun h => AV.noConfusion h) ?_
        refine wo_nil ?_
        refine ⟨[_, _, _, _, _, _, _, _, _, _, _, _, _, _, _, _, _, _, _, _, _, _, _, _, _, _, _, _, _, _, _, _, _, _, _, _, _, _, _, _, _, _, _, _, _, _, _, _, _, _, _, _, _, _, _, _, _, _, _, _, _, _, _, _, _, _, _, _, _, _, _, _, _, _, _, _, _, _, _, _, _, _, _, _, _, _, _, _, _, _, _, _, _, _, _, _, _, _, _, _, _, _, _, _, _, _, _, _], rfl, ?_⟩
        refine wp_seq ?_
        refine wp_seq ?_
        refine wp_region rfl rfl ?_
        refine wo_move (v := .ptr _ _) rfl rfl rfl rfl rfl (fun h => AV.noConfusion h) ?_
        refine wo_bint t49 rfl rfl rfl rfl rfl ?_
        refine wo_mpv rfl rfl rfl rfl rfl ?_
        refine wo_move (v := .ptr _ _) rfl rfl rfl rfl rfl (fun h => AV.noConfusion h) ?_
        refine wo_mpv rfl rfl rfl rfl rfl ?_
        refine wo_call (v := .pv _) (H' := [_, _]) rfl rfl rfl rfl rfl rfl ((cl33 _ _ _ _).trans (callRef_box rfl rfl rfl rfl rfl (h1))) rfl rfl rfl ?_
        refine wo_mpv rfl rfl rfl rfl rfl ?_
        refine wo_bin (v := .pv (.bool false)) rfl rfl rfl rfl (nF rfl) ?_
        refine wo_pick (v := .pv _) rfl rfl rfl rfl rfl rfl ?_
        refine wo_mpv rfl rfl rfl rfl rfl ?_
        refine wo_move (v := .ptr _ _) rfl rfl rfl rfl rfl (fun h => AV.noConfusion h) ?_
        refine wo_norm [_, _, _, _, _, _, _, _, _, _, _, _, _, _, _, _, _, _, _, _, _, _, _, _, _, _, _, _, _, _, _, _, _, _, _, _, _, _, _, _, _, _, _, _, _, _, _, _, _, _, _, _, _, _, _, _, _, _, _, _, _, _, _, _, _, _, _, _, _, _, _, _, _, _, _, _, _, _, _, _, _, _, _, _, _, _, _, _, _, _, _, _, _, _, _, _, _, _, _, _, _, _, _, _, _, _, _, _] rfl ?_
        refine wo_call (v := .pv _) (H' := [_, _]) rfl rfl rfl rfl rfl rfl ((cl39 _ _ _ _).trans (callRef_box rfl rfl rfl rfl rfl (h2))) rfl rfl rfl ?_
        refine wo_mpv rfl rfl rfl rfl rfl ?_
        refine wo_bin (v := .pv (.bool false)) rfl rfl rfl rfl (nF rfl) ?_
        refine wo_pick (v := .pv _) rfl rfl rfl rfl rfl rfl ?_
        refine wo_mpv rfl rfl rfl rfl rfl ?_
        refine wo_move (v := .ptr _ _) rfl rfl rfl rfl rfl (fun h => AV.noConfusion h) ?_
        refine wo_mpv rfl rfl rfl rfl rfl ?_
        refine wo_len t9 rfl rfl rfl rfl rfl rfl rfl rfl rfl ?_
        refine wo_call (v := .pv _) (H' := [_, _]) rfl rfl rfl rfl rfl rfl ((cl37 _ _ _ _).trans (callRef_box rfl rfl rfl rfl rfl (h3))) rfl rfl rfl ?_
        refine wo_mpv rfl rfl rfl rfl rfl ?_
        refine wo_bin (v := .pv (.bool false)) rfl rfl rfl rfl (strNe _) ?_
        refine wo_pick (v := .pv _) rfl rfl rfl rfl rfl rfl ?_
        refine wo_nil ?_
        refine ⟨[_, _, _, _, _, _, _, _, _, _, _, _, _, _, _, _, _, _, _, _, _, _, _, _, _, _, _, _, _, _, _, _, _, _, _, _, _, _, _, _, _, _, _, _, _, _, _, _, _, _, _, _, _, _, _, _, _, _, _, _, _, _, _, _, _, _, _, _, _, _, _, _, _, _, _, _, _, _, _, _, _, _, _, _, _, _, _, _, _, _, _, _, _, _, _, _, _, _, _, _, _, _, _, _, _, _, _, _], rfl, ?_⟩
        refine wp_false rfl ?_
        refine wp_skip ?_
        refine wp_seq ?_
        refine wp_region rfl rfl ?_
        refine wo_move (v := .ptr _ _) rfl rfl rfl rfl rfl (fun h => AV.noConfusion h) ?_
        refine wo_call (v := .pv (.flt .f64 (fbits f))) (H' := [_, _]) rfl rfl rfl rfl rfl rfl ((cl40 _ _ _ _).trans (callRef_box rfl rfl rfl rfl rfl (h4))) rfl rfl rfl ?_
        refine wo_apv rfl rfl rfl rfl rfl ?_
        refine wo_nil ?_
        refine ⟨[_, _, _, _, _, _, _, _, _, _, _, _, _, _, _, _, _, _, _, _, _, _, _, _, _, _, _, _, _, _, _, _, _, _, _, _, _, _, _, _, _, _, _, _, _, _, _, _, _, _, _, _, _, _, _, _, _, _, _, _, _, _, _, _, _, _, _, _, _, _, _, _, _, _, _, _, _, _, _, _, _, _, _, _, _, _, _, _, _, _, _, _, _, _, _, _, _, _, _, _, _, _, _, _, _, _, _, _], rfl, ?_⟩
        refine wp_seq ?_
        refine wp_seq ?_
        refine wp_region rfl rfl ?_
        refine wo_mpv rfl rfl rfl rfl rfl ?_
        refine wo_mpv rfl rfl rfl rfl rfl ?_
        cases hnan : isNan f
        ·
          refine wo_bin (v := .pv (.bool false)) rfl rfl rfl rfl (vF hnan) ?_
          refine wo_mpv rfl rfl rfl rfl rfl ?_
          refine wo_off rfl rfl rfl ?_
          refine wo_off rfl rfl rfl ?_
          refine wo_off rfl rfl rfl ?_
          refine wo_pick (v := .pv _) rfl rfl rfl rfl rfl rfl ?_
          refine wo_mpv rfl rfl rfl rfl rfl ?_
          refine wo_mpv rfl rfl rfl rfl rfl ?_
          refine wo_mpv rfl rfl rfl rfl rfl ?_
          refine wo_norm [_, _, _, _, _, _, _, _, _, _, _, _, _, _, _, _, _, _, _, _, _, _, _, _, _, _, _, _, _, _, _, _, _, _, _, _, _, _, _, _, _, _, _, _, _, _, _, _, _, _, _, _, _, _, _, _, _, _, _, _, _, _, _, _, _, _, _, _, _, _, _, _, _, _, _, _, _, _, _, _, _, _, _, _, _, _, _, _, _, _, _, _, _, _, _, _, _, _, _, _, _, _, _, _, _, _, _, _] rfl ?_
          refine wo_bin (v := .pv (.bool true)) rfl rfl rfl rfl (vT (by unfold isNan at hnan; simpa using hnan)) ?_
          refine wo_mpv rfl rfl rfl rfl rfl ?_
          refine wo_mpv rfl rfl rfl rfl rfl ?_
          refine wo_mpv rfl rfl rfl rfl rfl ?_
          cases hzero : isZero f
          ·
            refine wo_bin (v := .pv (.bool false)) rfl rfl rfl rfl ((by rw [fbits_else hnan hzero]; exact vF hnan)) ?_
            refine wo_pick (v := .pv _) rfl rfl rfl rfl rfl rfl ?_
            refine wo_pick (v := .pv _) rfl rfl rfl rfl rfl rfl ?_
            refine wo_mpv rfl rfl rfl rfl rfl ?_
            refine wo_mpv rfl rfl rfl rfl rfl ?_
            refine wo_bin (v := .pv (.bool false)) rfl rfl rfl rfl (vF hzero) ?_
            refine wo_mpv rfl rfl rfl rfl rfl ?_
            refine wo_off rfl rfl rfl ?_
            refine wo_norm [_, _, _, _, _, _, _, _, _, _, _, _, _, _, _, _, _, _, _, _, _, _, _, _, _, _, _, _, _, _, _, _, _, _, _, _, _, _, _, _, _, _, _, _, _, _, _, _, _, _, _, _, _, _, _, _, _, _, _, _, _, _, _, _, _, _, _, _, _, _, _, _, _, _, _, _, _, _, _, _, _, _, _, _, _, _, _, _, _, _, _, _, _, _, _, _, _, _, _, _, _, _, _, _, _, _, _, _] rfl ?_
            refine wo_off rfl rfl rfl ?_
            refine wo_pick (v := .pv _) rfl rfl rfl rfl rfl rfl ?_
            refine wo_pick (v := .pv _) rfl rfl rfl rfl rfl rfl ?_
            refine wo_nil ?_
            refine ⟨[_, _, _, _, _, _, _, _, _, _, _, _, _, _, _, _, _, _, _, _, _, _, _, _, _, _, _, _, _, _, _, _, _, _, _, _, _, _, _, _, _, _, _, _, _, _, _, _, _, _, _, _, _, _, _, _, _, _, _, _, _, _, _, _, _, _, _, _, _, _, _, _, _, _, _, _, _, _, _, _, _, _, _, _, _, _, _, _, _, _, _, _, _, _, _, _, _, _, _, _, _, _, _, _, _, _, _, _], rfl, ?_⟩
            refine wp_false rfl ?_
            refine wp_skip ?_
            refine wp_seq ?_
            refine wp_region rfl rfl ?_
            refine wo_move (v := .ptr _ _) rfl rfl rfl rfl rfl (fun h => AV.noConfusion h) ?_
            refine wo_call (v := .pv _) (H' := [_, _]) rfl rfl rfl rfl rfl rfl ((cl41 _ _ _ _).trans (callRef_box rfl rfl rfl rfl rfl (h5))) rfl rfl rfl ?_
            refine wo_mpv rfl rfl rfl rfl rfl ?_
            refine wo_bin (v := .pv (.int .u64 ((n % 256 ^ 3 : Nat) : Int))) rfl rfl rfl rfl (rfl) ?_
            refine wo_bin (v := .pv (.bool true)) rfl rfl rfl rfl (eT (by simp)) ?_
            refine wo_mpv rfl rfl rfl rfl rfl ?_
            refine wo_move (v := .ptr _ _) rfl rfl rfl rfl rfl (fun h => AV.noConfusion h) ?_
            refine wo_call (v := .pv _) (H' := [_, _]) rfl rfl rfl rfl rfl rfl ((cl36 _ _ _ _).trans (callRef_box rfl rfl rfl rfl rfl (left_ok hr5 _ (by omega)))) rfl rfl rfl ?_
            refine wo_mpv rfl rfl rfl rfl rfl ?_
            refine wo_len (ln := x.length) t35 rfl rfl rfl rfl rfl rfl rfl (hp.len 5) rfl ?_
            refine wo_bin (v := .pv (.bool true)) rfl rfl rfl rfl (eT rfl) ?_
            refine wo_norm [_, _, _, _, _, _, _, _, _, _, _, _, _, _, _, _, _, _, _, _, _, _, _, _, _, _, _, _, _, _, _, _, _, _, _, _, _, _, _, _, _, _, _, _, _, _, _, _, _, _, _, _, _, _, _, _, _, _, _, _, _, _, _, _, _, _, _, _, _, _, _, _, _, _, _, _, _, _, _, _, _, _, _, _, _, _, _, _, _, _, _, _, _, _, _, _, _, _, _, _, _, _, _, _, _, _, _, _] rfl ?_
            refine wo_pick (v := .pv _) rfl rfl rfl rfl rfl rfl ?_
            refine wo_mpv rfl rfl rfl rfl rfl ?_
            refine wo_move (v := .ptr _ _) rfl rfl rfl rfl rfl (fun h => AV.noConfusion h) ?_
            refine wo_call (v := .pv _) (H' := [_, _]) rfl rfl rfl rfl rfl rfl ((cl34 _ _ _ _).trans (callRef_box rfl rfl rfl rfl rfl (err_ok _ _ _ (by omega)))) rfl rfl rfl ?_
            refine wo_bin (v := .pv (.bool true)) rfl rfl rfl rfl (eT rfl) ?_
            refine wo_pick (v := .pv _) rfl rfl rfl rfl rfl rfl ?_
            refine wo_apv rfl rfl rfl rfl rfl ?_
            refine wo_nil ?_
            refine ⟨[_, _, _, _, _, _, _, _, _, _, _, _, _, _, _, _, _, _, _, _, _, _, _, _, _, _, _, _, _, _, _, _, _, _, _, _, _, _, _, _, _, _, _, _, _, _, _, _, _, _, _, _, _, _, _, _, _, _, _, _, _, _, _, _, _, _, _, _, _, _, _, _, _, _, _, _, _, _, _, _, _, _, _, _, _, _, _, _, _, _, _, _, _, _, _, _, _, _, _, _, _, _, _, _, _, _, _, _], rfl, ?_⟩
            refine wp_ret ?_
            exact ⟨trivial, _, rfl, leave_pure⟩
          ·
            refine wo_bin (v := .pv (.bool false)) rfl rfl rfl rfl ((by rw [fbits_zero hnan hzero]; exact vF (by simpa using order_symm f 0 hzero))) ?_
            refine wo_pick (v := .pv _) rfl rfl rfl rfl rfl rfl ?_
            refine wo_pick (v := .pv _) rfl rfl rfl rfl rfl rfl ?_
            refine wo_mpv rfl rfl rfl rfl rfl ?_
            refine wo_mpv rfl rfl rfl rfl rfl ?_
            refine wo_bin (v := .pv (.bool true)) rfl rfl rfl rfl (vT hzero) ?_
            refine wo_mpv rfl rfl rfl rfl rfl ?_
            refine wo_mpv rfl rfl rfl rfl rfl ?_
            refine wo_norm [_, _, _, _, _, _, _, _, _, _, _, _, _, _, _, _, _, _, _, _, _, _, _, _, _, _, _, _, _, _, _, _, _, _, _, _, _, _, _, _, _, _, _, _, _, _, _, _, _, _, _, _, _, _, _, _, _, _, _, _, _, _, _, _, _, _, _, _, _, _, _, _, _, _, _, _, _, _, _, _, _, _, _, _, _, _, _, _, _, _, _, _, _, _, _, _, _, _, _, _, _, _, _, _, _, _, _, _] rfl ?_
            refine wo_call (v := .pv (.bool false)) (H' := [_, _]) rfl rfl rfl rfl rfl rfl ((cl42 _ _ _ _).trans (callPure_pv rfl (fun _ => rfl) (by rw [fbits_zero hnan hzero]; exact signbit_zero))) rfl rfl rfl ?_
            refine wo_pick (v := .pv _) rfl rfl rfl rfl rfl rfl ?_
            refine wo_pick (v := .pv _) rfl rfl rfl rfl rfl rfl ?_
            refine wo_nil ?_
            refine ⟨[_, _, _, _, _, _, _, _, _, _, _, _, _, _, _, _, _, _, _, _, _, _, _, _, _, _, _, _, _, _, _, _, _, _, _, _, _, _, _, _, _, _, _, _, _, _, _, _, _, _, _, _, _, _, _, _, _, _, _, _, _, _, _, _, _, _, _, _, _, _, _, _, _, _, _, _, _, _, _, _, _, _, _, _, _, _, _, _, _, _, _, _, _, _, _, _, _, _, _, _, _, _, _, _, _, _, _, _], rfl, ?_⟩
            refine wp_false rfl ?_
            refine wp_skip ?_
            refine wp_seq ?_
            refine wp_region rfl rfl ?_
            refine wo_move (v := .ptr _ _) rfl rfl rfl rfl rfl (fun h => AV.noConfusion h) ?_
            refine wo_call (v := .pv _) (H' := [_, _]) rfl rfl rfl rfl rfl rfl ((cl41 _ _ _ _).trans (callRef_box rfl rfl rfl rfl rfl (h5))) rfl rfl rfl ?_
            refine wo_mpv rfl rfl rfl rfl rfl ?_
            refine wo_bin (v := .pv (.int .u64 ((n % 256 ^ 3 : Nat) : Int))) rfl rfl rfl rfl (rfl) ?_
            refine wo_bin (v := .pv (.bool true)) rfl rfl rfl rfl (eT (by simp)) ?_
            refine wo_mpv rfl rfl rfl rfl rfl ?_
            refine wo_move (v := .ptr _ _) rfl rfl rfl rfl rfl (fun h => AV.noConfusion h) ?_
            refine wo_call (v := .pv _) (H' := [_, _]) rfl rfl rfl rfl rfl rfl ((cl36 _ _ _ _).trans (callRef_box rfl rfl rfl rfl rfl (left_ok hr5 _ (by omega)))) rfl rfl rfl ?_
            refine wo_mpv rfl rfl rfl rfl rfl ?_
            refine wo_len (ln := x.length) t35 rfl rfl rfl rfl rfl rfl rfl (hp.len 5) rfl ?_
            refine wo_bin (v := .pv (.bool true)) rfl rfl rfl rfl (eT rfl) ?_
            refine wo_norm [_, _, _, _, _, _, _, _, _, _, _, _, _, _, _, _, _, _, _, _, _, _, _, _, _, _, _, _, _, _, _, _, _, _, _, _, _, _, _, _, _, _, _, _, _, _, _, _, _, _, _, _, _, _, _, _, _, _, _, _, _, _, _, _, _, _, _, _, _, _, _, _, _, _, _, _, _, _, _, _, _, _, _, _, _, _, _, _, _, _, _, _, _, _, _, _, _, _, _, _, _, _, _, _, _, _, _, _] rfl ?_
            refine wo_pick (v := .pv _) rfl rfl rfl rfl rfl rfl ?_
            refine wo_mpv rfl rfl rfl rfl rfl ?_
            refine wo_move (v := .ptr _ _) rfl rfl rfl rfl rfl (fun h => AV.noConfusion h) ?_
            refine wo_call (v := .pv _) (H' := [_, _]) rfl rfl rfl rfl rfl rfl ((cl34 _ _ _ _).trans (callRef_box rfl rfl rfl rfl rfl (err_ok _ _ _ (by omega)))) rfl rfl rfl ?_
            refine wo_bin (v := .pv (.bool true)) rfl rfl rfl rfl (eT rfl) ?_
            refine wo_pick (v := .pv _) rfl rfl rfl rfl rfl rfl ?_
            refine wo_apv rfl rfl rfl rfl rfl ?_
            refine wo_nil ?_
            refine ⟨[_, _, _, _, _, _, _, _, _, _, _, _, _, _, _, _, _, _, _, _, _, _, _, _, _, _, _, _, _, _, _, _, _, _, _, _, _, _, _, _, _, _, _, _, _, _, _, _, _, _, _, _, _, _, _, _, _, _, _, _, _, _, _, _, _, _, _, _, _, _, _, _, _, _, _, _, _, _, _, _, _, _, _, _, _, _, _, _, _, _, _, _, _, _, _, _, _, _, _, _, _, _, _, _, _, _, _, _], rfl, ?_⟩
            refine wp_ret ?_
            exact ⟨trivial, _, rfl, leave_pure⟩
        ·
          refine wo_bin (v := .pv (.bool true)) rfl rfl rfl rfl (vT hnan) ?_
          refine wo_mpv rfl rfl rfl rfl rfl ?_
          refine wo_mpv rfl rfl rfl rfl rfl ?_
          refine wo_mpv rfl rfl rfl rfl rfl ?_
          refine wo_bin (v := .pv (.bool false)) rfl rfl rfl rfl ((by rw [fbits_nan hnan]; kernel_rfl)) ?_
          refine wo_pick (v := .pv _) rfl rfl rfl rfl rfl rfl ?_
          refine wo_mpv rfl rfl rfl rfl rfl ?_
          refine wo_mpv rfl rfl rfl rfl rfl ?_
          refine wo_mpv rfl rfl rfl rfl rfl ?_
          refine wo_norm [_, _, _, _, _, _, _, _, _, _, _, _, _, _, _, _, _, _, _, _, _, _, _, _, _, _, _, _, _, _, _, _, _, _, _, _, _, _, _, _, _, _, _, _, _, _, _, _, _, _, _, _, _, _, _, _, _, _, _, _, _, _, _, _, _, _, _, _, _, _, _, _, _, _, _, _, _, _, _, _, _, _, _, _, _, _, _, _, _, _, _, _, _, _, _, _, _, _, _, _, _, _, _, _, _, _, _, _] rfl ?_
          refine wo_bin (v := .pv (.bool false)) rfl rfl rfl rfl (vF (by unfold isNan at hnan; simpa using hnan)) ?_
          refine wo_mpv rfl rfl rfl rfl rfl ?_
          refine wo_off rfl rfl rfl ?_
          refine wo_off rfl rfl rfl ?_
          refine wo_off rfl rfl rfl ?_
          refine wo_pick (v := .pv _) rfl rfl rfl rfl rfl rfl ?_
          refine wo_pick (v := .pv _) rfl rfl rfl rfl rfl rfl ?_
          refine wo_mpv rfl rfl rfl rfl rfl ?_
          refine wo_mpv rfl rfl rfl rfl rfl ?_
          cases hzero : isZero f
          ·
            refine wo_bin (v := .pv (.bool false)) rfl rfl rfl rfl (vF hzero) ?_
            refine wo_mpv rfl rfl rfl rfl rfl ?_
            refine wo_off rfl rfl rfl ?_
            refine wo_norm [_, _, _, _, _, _, _, _, _, _, _, _, _, _, _, _, _, _, _, _, _, _, _, _, _, _, _, _, _, _, _, _, _, _, _, _, _, _, _, _, _, _, _, _, _, _, _, _, _, _, _, _, _, _, _, _, _, _, _, _, _, _, _, _, _, _, _, _, _, _, _, _, _, _, _, _, _, _, _, _, _, _, _, _, _, _, _, _, _, _, _, _, _, _, _, _, _, _, _, _, _, _, _, _, _, _, _, _] rfl ?_
            refine wo_off rfl rfl rfl ?_
            refine wo_pick (v := .pv _) rfl rfl rfl rfl rfl rfl ?_
            refine wo_pick (v := .pv _) rfl rfl rfl rfl rfl rfl ?_
            refine wo_nil ?_
            refine ⟨[_, _, _, _, _, _, _, _, _, _, _, _, _, _, _, _, _, _, _, _, _, _, _, _, _, _, _, _, _, _, _, _, _, _, _, _, _, _, _, _, _, _, _, _, _, _, _, _, _, _, _, _, _, _, _, _, _, _, _, _, _, _, _, _, _, _, _, _, _, _, _, _, _, _, _, _, _, _, _, _, _, _, _, _, _, _, _, _, _, _, _, _, _, _, _, _, _, _, _, _, _, _, _, _, _, _, _, _], rfl, ?_⟩
            refine wp_false rfl ?_
            refine wp_skip ?_
            refine wp_seq ?_
            refine wp_region rfl rfl ?_
            refine wo_move (v := .ptr _ _) rfl rfl rfl rfl rfl (fun h => AV.noConfusion h) ?_
            refine wo_call (v := .pv _) (H' := [_, _]) rfl rfl rfl rfl rfl rfl ((cl41 _ _ _ _).trans (callRef_box rfl rfl rfl rfl rfl (h5))) rfl rfl rfl ?_
            refine wo_mpv rfl rfl rfl rfl rfl ?_
            refine wo_bin (v := .pv (.int .u64 ((n % 256 ^ 3 : Nat) : Int))) rfl rfl rfl rfl (rfl) ?_
            refine wo_bin (v := .pv (.bool true)) rfl rfl rfl rfl (eT (by simp)) ?_
            refine wo_mpv rfl rfl rfl rfl rfl ?_
            refine wo_move (v := .ptr _ _) rfl rfl rfl rfl rfl (fun h => AV.noConfusion h) ?_
            refine wo_call (v := .pv _) (H' := [_, _]) rfl rfl rfl rfl rfl rfl ((cl36 _ _ _ _).trans (callRef_box rfl rfl rfl rfl rfl (left_ok hr5 _ (by omega)))) rfl rfl rfl ?_
            refine wo_mpv rfl rfl rfl rfl rfl ?_
            refine wo_len (ln := x.length) t35 rfl rfl rfl rfl rfl rfl rfl (hp.len 5) rfl ?_
            refine wo_bin (v := .pv (.bool true)) rfl rfl rfl rfl (eT rfl) ?_
            refine wo_norm [_, _, _, _, _, _, _, _, _, _, _, _, _, _, _, _, _, _, _, _, _, _, _, _, _, _, _, _, _, _, _, _, _, _, _, _, _, _, _, _, _, _, _, _, _, _, _, _, _, _, _, _, _, _, _, _, _, _, _, _, _, _, _, _, _, _, _, _, _, _, _, _, _, _, _, _, _, _, _, _, _, _, _, _, _, _, _, _, _, _, _, _, _, _, _, _, _, _, _, _, _, _, _, _, _, _, _, _] rfl ?_
            refine wo_pick (v := .pv _) rfl rfl rfl rfl rfl rfl ?_
            refine wo_mpv rfl rfl rfl rfl rfl ?_
            refine wo_move (v := .ptr _ _) rfl rfl rfl rfl rfl (fun h => AV.noConfusion h) ?_
            refine wo_call (v := .pv _) (H' := [_, _]) rfl rfl rfl rfl rfl rfl ((cl34 _ _ _ _).trans (callRef_box rfl rfl rfl rfl rfl (err_ok _ _ _ (by omega)))) rfl rfl rfl ?_
            refine wo_bin (v := .pv (.bool true)) rfl rfl rfl rfl (eT rfl) ?_
            refine wo_pick (v := .pv _) rfl rfl rfl rfl rfl rfl ?_
            refine wo_apv rfl rfl rfl rfl rfl ?_
            refine wo_nil ?_
            refine ⟨[_, _, _, _, _, _, _, _, _, _, _, _, _, _, _, _, _, _, _, _, _, _, _, _, _, _, _, _, _, _, _, _, _, _, _, _, _, _, _, _, _, _, _, _, _, _, _, _, _, _, _, _, _, _, _, _, _, _, _, _, _, _, _, _, _, _, _, _, _, _, _, _, _, _, _, _, _, _, _, _, _, _, _, _, _, _, _, _, _, _, _, _, _, _, _, _, _, _, _, _, _, _, _, _, _, _, _, _], rfl, ?_⟩
            refine wp_ret ?_
            exact ⟨trivial, _, rfl, leave_pure⟩
          ·
            refine wo_bin (v := .pv (.bool true)) rfl rfl rfl rfl (vT hzero) ?_
            refine wo_mpv rfl rfl rfl rfl rfl ?_
            refine wo_mpv rfl rfl rfl rfl rfl ?_
            refine wo_norm [_, _, _, _, _, _, _, _, _, _, _, _, _, _, _, _, _, _, _, _, _, _, _, _, _, _, _, _, _, _, _, _, _, _, _, _, _, _, _, _, _, _, _, _, _, _, _, _, _, _, _, _, _, _, _, _, _, _, _, _, _, _, _, _, _, _, _, _, _, _, _, _, _, _, _, _, _, _, _, _, _, _, _, _, _, _, _, _, _, _, _, _, _, _, _, _, _, _, _, _, _, _, _, _, _, _, _, _] rfl ?_
            refine wo_call (v := .pv (.bool false)) (H' := [_, _]) rfl rfl rfl rfl rfl rfl ((cl42 _ _ _ _).trans (callPure_pv rfl (fun _ => rfl) (by rw [fbits_nan hnan]; exact signbit_nan))) rfl rfl rfl ?_
            refine wo_pick (v := .pv _) rfl rfl rfl rfl rfl rfl ?_
            refine wo_pick (v := .pv _) rfl rfl rfl rfl rfl rfl ?_
            refine wo_nil ?_
            refine ⟨[_, _, _, _, _, _, _, _, _, _, _, _, _, _, _, _, _, _, _, _, _, _, _, _, _, _, _, _, _, _, _, _, _, _, _, _, _, _, _, _, _, _, _, _, _, _, _, _, _, _, _, _, _, _, _, _, _, _, _, _, _, _, _, _, _, _, _, _, _, _, _, _, _, _, _, _, _, _, _, _, _, _, _, _, _, _, _, _, _, _, _, _, _, _, _, _, _, _, _, _, _, _, _, _, _, _, _, _], rfl, ?_⟩
            refine wp_false rfl ?_
            refine wp_skip ?_
            refine wp_seq ?_
            refine wp_region rfl rfl ?_
            refine wo_move (v := .ptr _ _) rfl rfl rfl rfl rfl (fun h => AV.noConfusion h) ?_
            refine wo_call (v := .pv _) (H' := [_, _]) rfl rfl rfl rfl rfl rfl ((cl41 _ _ _ _).trans (callRef_box rfl rfl rfl rfl rfl (h5))) rfl rfl rfl ?_
            refine wo_mpv rfl rfl rfl rfl rfl ?_
            refine wo_bin (v := .pv (.int .u64 ((n % 256 ^ 3 : Nat) : Int))) rfl rfl rfl rfl (rfl) ?_
            refine wo_bin (v := .pv (.bool true)) rfl rfl rfl rfl (eT (by simp)) ?_
            refine wo_mpv rfl rfl rfl rfl rfl ?_
            refine wo_move (v := .ptr _ _) rfl rfl rfl rfl rfl (fun h => AV.noConfusion h) ?_
            refine wo_call (v := .pv _) (H' := [_, _]) rfl rfl rfl rfl rfl rfl ((cl36 _ _ _ _).trans (callRef_box rfl rfl rfl rfl rfl (left_ok hr5 _ (by omega)))) rfl rfl rfl ?_
            refine wo_mpv rfl rfl rfl rfl rfl ?_
            refine wo_len (ln := x.length) t35 rfl rfl rfl rfl rfl rfl rfl (hp.len 5) rfl ?_
            refine wo_bin (v := .pv (.bool true)) rfl rfl rfl rfl (eT rfl) ?_
            refine wo_norm [_, _, _, _, _, _, _, _, _, _, _, _, _, _, _, _, _, _, _, _, _, _, _, _, _, _, _, _, _, _, _, _, _, _, _, _, _, _, _, _, _, _, _, _, _, _, _, _, _, _, _, _, _, _, _, _, _, _, _, _, _, _, _, _, _, _, _, _, _, _, _, _, _, _, _, _, _, _, _, _, _, _, _, _, _, _, _, _, _, _, _, _, _, _, _, _, _, _, _, _, _, _, _, _, _, _, _, _] rfl ?_
            refine wo_pick (v := .pv _) rfl rfl rfl rfl rfl rfl ?_
            refine wo_mpv rfl rfl rfl rfl rfl ?_
            refine wo_move (v := .ptr _ _) rfl rfl rfl rfl rfl (fun h => AV.noConfusion h) ?_
            refine wo_call (v := .pv _) (H' := [_, _]) rfl rfl rfl rfl rfl rfl ((cl34 _ _ _ _).trans (callRef_box rfl rfl rfl rfl rfl (err_ok _ _ _ (by omega)))) rfl rfl rfl ?_
            refine wo_bin (v := .pv (.bool true)) rfl rfl rfl rfl (eT rfl) ?_
            refine wo_pick (v := .pv _) rfl rfl rfl rfl rfl rfl ?_
            refine wo_apv rfl rfl rfl rfl rfl ?_
            refine wo_nil ?_
            refine ⟨[_, _, _, _, _, _, _, _, _, _, _, _, _, _, _, _, _, _, _, _, _, _, _, _, _, _, _, _, _, _, _, _, _, _, _, _, _, _, _, _, _, _, _, _, _, _, _, _, _, _, _, _, _, _, _, _, _, _, _, _, _, _, _, _, _, _, _, _, _, _, _, _, _, _, _, _, _, _, _, _, _, _, _, _, _, _, _, _, _, _, _, _, _, _, _, _, _, _, _, _, _, _, _, _, _, _, _, _], rfl, ?_⟩
            refine wp_ret ?_
            exact ⟨trivial, _, rfl, leave_pure⟩
end Go.Ab.Ytknmgphnkfeifaa
