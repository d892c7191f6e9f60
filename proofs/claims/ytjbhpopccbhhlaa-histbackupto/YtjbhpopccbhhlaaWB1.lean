import Derived.Test.YtjbhpopccbhhlaaS1
import Derived.Test.YtjbhpopccbhhlaaPA
namespace Go.Ab.S1
open Go Go.Ab Go.Pl
open Go.Proofs.Try
set_option linter.unusedVariables false
set_option linter.unusedSimpArgs false
set_option maxRecDepth 100000
theorem run_law19_works : call G 3999999 30 [] [] = some (.ret (aB true), []) := by kernel_rfl
theorem ok_law19_works {n : Nat} {r : Bool} (hm : law19_works n = some r) :
    call G n 30 [] [] = some (.ret (aB r), []) := by
  unfold law19_works at hm
  have hn : n = 3999999 := by
    cases h : n == 3999999 with
    | true => exact eq_of_beq h
    | false => rw [h] at hm; cases hm
  subst hn
  have h2 : some true = some r := hm
  obtain rfl := Option.some.inj h2
  exact run_law19_works
theorem ok_law19_Given {n : Nat} {a0 : (Option (List tabularyref19_Bucket))} {r : (Option (List hist_Bucket))} (hm : law19_Given n a0 = some r) :
    call G n 31 [.pv (encSl R_tabularyref19_Bucket a0)] [] = some (.ret (.pv (encSl R_hist_Bucket r)), []) := by
  unfold law19_Given at hm
  obtain ⟨n, rfl, h0⟩ := at1_some hm
  replace hm := h0; clear h0
  refine callL 18 [(0, .pv (encSl R_tabularyref19_Bucket a0))] func31 rfl (by kernel_rfl) (sq (detn [(0, .pv (encSl R_tabularyref19_Bucket a0))] (by kernel_rfl) (sq (detn [(0, .pv (encSl R_tabularyref19_Bucket a0)), (3, .pv .nils)] (by kernel_rfl) ?_))))
  obtain ⟨k4, hk4, hm⟩ := withK_some hm
  refine mid (fun t H => (∃ (w1 : AV) (w2 : AV), k4 none = some r ∧ t = mk 18 [(3, .pv .nils), (6, .pv (encSl R_tabularyref19_Bucket a0)), (7, aI ((sll a0).length : Int)), (8, w1), (9, w2)] ∧ H = []) ∨ (∃ (y3 : (List hist_Bucket)) (w1 : AV) (w2 : AV), k4 (some y3) = some r ∧ t = mk 18 [(3, aR 0 10 y3.length), (6, .pv (encSl R_tabularyref19_Bucket a0)), (7, aI ((sll a0).length : Int)), (8, w1), (9, w2)] ∧ H = [bR 77 10 R_hist_Bucket y3 0 0])) ?_ ?_
  ·
   rintro _ _ (⟨w1, w2, hm, rfl, rfl⟩ | ⟨y3, w1, w2, hm, rfl, rfl⟩)
   ·
    subst hk4
    refine sq (detn [(2, .pv .nils)] (by kernel_rfl) (wp_ret ?_))
    obtain rfl := Option.some.inj hm
    exact ⟨trivial, by kernel_rfl⟩
   ·
    subst hk4
    refine sq (detn [(2, aR 0 10 y3.length)] (by kernel_rfl) (wp_ret ?_))
    obtain rfl := Option.some.inj hm
    exact ret_pure (v := aR 0 10 y3.length) trivial rfl (by kernel_rfl) (pA_ref (pur_ref' (n := y3.length) (id := 0) (l := y3) (R := R_hist_Bucket) rfl rfl (Nat.zero_le _)))
  refine sq (rg (sh 1 [(6, .pv (encSl R_tabularyref19_Bucket a0))] (by kernel_rfl) (dv 7 (v := aI ((sll a0).length : Int)) (len_slO R_tabularyref19_Bucket a0 t56 (by kernel_rfl)) (by kernel_rfl) (sh 1 [(8, aI 0)] (by kernel_rfl) (fin [(3, .pv .nils), (6, .pv (encSl R_tabularyref19_Bucket a0)), (7, aI ((sll a0).length : Int)), (8, aI 0)] rfl (by kernel_rfl) (bq ?_))))))
  refine loopF (fun mm t H => (∃ (y9 : Int), law19_Given_l3 n a0 k4 mm none y9 = some r ∧ t = mk 18 [(3, .pv .nils), (6, .pv (encSl R_tabularyref19_Bucket a0)), (7, aI ((sll a0).length : Int)), (8, aI y9)] ∧ H = []) ∨ (∃ (y8 : (List hist_Bucket)) (y9 : Int), law19_Given_l3 n a0 k4 mm (some y8) y9 = some r ∧ t = mk 18 [(3, aR 0 10 y8.length), (6, .pv (encSl R_tabularyref19_Bucket a0)), (7, aI ((sll a0).length : Int)), (8, aI y9)] ∧ H = [bR 77 10 R_hist_Bucket y8 0 0])) (.inl ⟨0, hm, rfl, rfl⟩) ?_ ?_
  · rintro _ _ (⟨y9, hm, _⟩ | ⟨y8, y9, hm, _⟩) <;> exact nomatch hm
  rintro m10 _ _ (⟨y9, hm, rfl, rfl⟩ | ⟨y8, y9, hm, rfl, rfl⟩)
  ·
   simp only [law19_Given_l3] at hm
   refine sq (detn [(3, .pv .nils), (6, .pv (encSl R_tabularyref19_Bucket a0)), (7, aI ((sll a0).length : Int)), (8, aI y9), (9, aB (decide (y9 < ((sll a0).length : Int))))] (by kernel_rfl) ?_)
   refine sq ?_
   rcases bif_some hm with ⟨h11, hm⟩ | ⟨h11, hm⟩
   ·
    refine ct h11 (by kernel_rfl) (wp_skip (sq (bq (sq (rg ?_)))))
    obtain ⟨x12, h13, hm⟩ := bs hm
    refine dv 10 (v := .pv (.ptr (R_tabularyref19_Bucket x12) 0)) (ia_slO R_tabularyref19_Bucket a0 .i64 t56 t80 h13 rfl (by kernel_rfl)) (by kernel_rfl) (st 3 [(5, .ptr 0 0), (11, .agg [aI x12.fLow.fKind, aI x12.fLow.fInt, aF x12.fLow.fFloat, aS x12.fLow.fText, aI x12.fHigh.fKind, aI x12.fHigh.fInt, aF x12.fHigh.fFloat, aS x12.fHigh.fText, aI x12.fCount, aI x12.fDistinct])] [.box [aI x12.fLow.fKind, aI x12.fLow.fInt, aF x12.fLow.fFloat, aS x12.fLow.fText, aI x12.fHigh.fKind, aI x12.fHigh.fInt, aF x12.fHigh.fFloat, aS x12.fHigh.fText, aI x12.fCount, aI x12.fDistinct] false] (by kernel_rfl) (fin [(3, .pv .nils), (5, .ptr 0 0), (6, .pv (encSl R_tabularyref19_Bucket a0)), (7, aI ((sll a0).length : Int)), (8, aI y9)] rfl (by kernel_rfl) (rg (st 3 [(14, aR 1 10 1), (13, .agg [aI x12.fLow.fKind, aI x12.fLow.fInt, aF x12.fLow.fFloat, aS x12.fLow.fText, aI x12.fHigh.fKind, aI x12.fHigh.fInt, aF x12.fHigh.fFloat, aS x12.fHigh.fText, aI x12.fCount, aI x12.fDistinct]), (12, .pv .nils)] [.box [aI x12.fLow.fKind, aI x12.fLow.fInt, aF x12.fLow.fFloat, aS x12.fLow.fText, aI x12.fHigh.fKind, aI x12.fHigh.fInt, aF x12.fHigh.fFloat, aS x12.fHigh.fText, aI x12.fCount, aI x12.fDistinct] false, bR 77 10 R_hist_Bucket ([(hist_Bucket.mk x12.fLow x12.fHigh x12.fCount x12.fDistinct)] : List hist_Bucket) 0 0] (by kernel_rfl) ?_))))
    obtain ⟨_, h14, hm⟩ := bs hm
    refine dO [(15, aR 2 10 (([(hist_Bucket.mk x12.fLow x12.fHigh x12.fCount x12.fDistinct)] : List hist_Bucket).length))] [.box [aI x12.fLow.fKind, aI x12.fLow.fInt, aF x12.fLow.fFloat, aS x12.fLow.fText, aI x12.fHigh.fKind, aI x12.fHigh.fInt, aF x12.fHigh.fFloat, aS x12.fHigh.fText, aI x12.fCount, aI x12.fDistinct] false, bR 77 10 R_hist_Bucket ([(hist_Bucket.mk x12.fLow x12.fHigh x12.fCount x12.fDistinct)] : List hist_Bucket) 0 0, bR 77 10 R_hist_Bucket ([(hist_Bucket.mk x12.fLow x12.fHigh x12.fCount x12.fDistinct)] : List hist_Bucket) 0 0] (app_nilO (u := 0) R_hist_Bucket ([(hist_Bucket.mk x12.fLow x12.fHigh x12.fCount x12.fDistinct)] : List hist_Bucket) (b := 96) t53 t77 rfl rfl rfl (fun _ => rfl) rfl h14 (show srcRows (aR 1 10 1) _ = some (([(hist_Bucket.mk x12.fLow x12.fHigh x12.fCount x12.fDistinct)] : List hist_Bucket).map R_hist_Bucket) from by kernel_rfl) (by kernel_rfl)) (by kernel_rfl) (sh 1 [(3, aR 2 10 (([(hist_Bucket.mk x12.fLow x12.fHigh x12.fCount x12.fDistinct)] : List hist_Bucket).length))] (by kernel_rfl) (fin [(3, aR 2 10 (([(hist_Bucket.mk x12.fLow x12.fHigh x12.fCount x12.fDistinct)] : List hist_Bucket).length)), (6, .pv (encSl R_tabularyref19_Bucket a0)), (7, aI ((sll a0).length : Int)), (8, aI y9)] rfl (by kernel_rfl) (detn [(3, aR 2 10 (([(hist_Bucket.mk x12.fLow x12.fHigh x12.fCount x12.fDistinct)] : List hist_Bucket).length)), (6, .pv (encSl R_tabularyref19_Bucket a0)), (7, aI ((sll a0).length : Int)), (8, aI (IntKind.wrap .i64 (y9 + 1)))] (by kernel_rfl) ?_)))
    exact ⟨_, _, tidyL [(3, aR 0 10 (([(hist_Bucket.mk x12.fLow x12.fHigh x12.fCount x12.fDistinct)] : List hist_Bucket).length)), (6, .pv (encSl R_tabularyref19_Bucket a0)), (7, aI ((sll a0).length : Int)), (8, aI (IntKind.wrap .i64 (y9 + 1)))] [bR 77 10 R_hist_Bucket ([(hist_Bucket.mk x12.fLow x12.fHigh x12.fCount x12.fDistinct)] : List hist_Bucket) 0 0] (by kernel_rfl), .inr (⟨([(hist_Bucket.mk x12.fLow x12.fHigh x12.fCount x12.fDistinct)] : List hist_Bucket), (IntKind.wrap .i64 (y9 + 1)), hm, rfl, rfl⟩)⟩
   ·
    refine cf h11 (by kernel_rfl) (wp_exit ?_)
    exact .inl ⟨aI y9, aB (decide (y9 < ((sll a0).length : Int))), hm, (mk_same (by kernel_rfl)), rfl⟩
  ·
   simp only [law19_Given_l3] at hm
   refine sq (detn [(3, aR 0 10 y8.length), (6, .pv (encSl R_tabularyref19_Bucket a0)), (7, aI ((sll a0).length : Int)), (8, aI y9), (9, aB (decide (y9 < ((sll a0).length : Int))))] (by kernel_rfl) ?_)
   refine sq ?_
   rcases bif_some hm with ⟨h15, hm⟩ | ⟨h15, hm⟩
   ·
    refine ct h15 (by kernel_rfl) (wp_skip (sq (bq (sq (rg ?_)))))
    obtain ⟨x16, h17, hm⟩ := bs hm
    refine dv 10 (v := .pv (.ptr (R_tabularyref19_Bucket x16) 0)) (ia_slO R_tabularyref19_Bucket a0 .i64 t56 t80 h17 rfl (by kernel_rfl)) (by kernel_rfl) (st 3 [(5, .ptr 1 0), (11, .agg [aI x16.fLow.fKind, aI x16.fLow.fInt, aF x16.fLow.fFloat, aS x16.fLow.fText, aI x16.fHigh.fKind, aI x16.fHigh.fInt, aF x16.fHigh.fFloat, aS x16.fHigh.fText, aI x16.fCount, aI x16.fDistinct])] [bR 77 10 R_hist_Bucket y8 0 0, .box [aI x16.fLow.fKind, aI x16.fLow.fInt, aF x16.fLow.fFloat, aS x16.fLow.fText, aI x16.fHigh.fKind, aI x16.fHigh.fInt, aF x16.fHigh.fFloat, aS x16.fHigh.fText, aI x16.fCount, aI x16.fDistinct] false] (by kernel_rfl) (fin [(3, aR 0 10 y8.length), (5, .ptr 1 0), (6, .pv (encSl R_tabularyref19_Bucket a0)), (7, aI ((sll a0).length : Int)), (8, aI y9)] rfl (by kernel_rfl) (rg (st 3 [(14, aR 2 10 1), (13, .agg [aI x16.fLow.fKind, aI x16.fLow.fInt, aF x16.fLow.fFloat, aS x16.fLow.fText, aI x16.fHigh.fKind, aI x16.fHigh.fInt, aF x16.fHigh.fFloat, aS x16.fHigh.fText, aI x16.fCount, aI x16.fDistinct]), (12, aR 0 10 y8.length)] [bR 77 10 R_hist_Bucket y8 0 0, .box [aI x16.fLow.fKind, aI x16.fLow.fInt, aF x16.fLow.fFloat, aS x16.fLow.fText, aI x16.fHigh.fKind, aI x16.fHigh.fInt, aF x16.fHigh.fFloat, aS x16.fHigh.fText, aI x16.fCount, aI x16.fDistinct] false, bR 77 10 R_hist_Bucket ([(hist_Bucket.mk x16.fLow x16.fHigh x16.fCount x16.fDistinct)] : List hist_Bucket) 0 0] (by kernel_rfl) ?_))))
    obtain ⟨_, h18, hm⟩ := bs hm
    refine dO [(15, aR 0 10 ((y8 ++ ([(hist_Bucket.mk x16.fLow x16.fHigh x16.fCount x16.fDistinct)] : List hist_Bucket)).length))] [bR 77 10 R_hist_Bucket (y8 ++ ([(hist_Bucket.mk x16.fLow x16.fHigh x16.fCount x16.fDistinct)] : List hist_Bucket)) 0 0, .box [aI x16.fLow.fKind, aI x16.fLow.fInt, aF x16.fLow.fFloat, aS x16.fLow.fText, aI x16.fHigh.fKind, aI x16.fHigh.fInt, aF x16.fHigh.fFloat, aS x16.fHigh.fText, aI x16.fCount, aI x16.fDistinct] false, bR 77 10 R_hist_Bucket ([(hist_Bucket.mk x16.fLow x16.fHigh x16.fCount x16.fDistinct)] : List hist_Bucket) 0 0] (app_refO (u := 0) (n := y8.length) (id := 0) R_hist_Bucket y8 ([(hist_Bucket.mk x16.fLow x16.fHigh x16.fCount x16.fDistinct)] : List hist_Bucket) (b := 96) t53 t77 rfl rfl rfl (fun _ => rfl) rfl h18 rfl rfl (Nat.zero_le _) (show srcRows (aR 2 10 1) _ = some (([(hist_Bucket.mk x16.fLow x16.fHigh x16.fCount x16.fDistinct)] : List hist_Bucket).map R_hist_Bucket) from by kernel_rfl) (by kernel_rfl)) (by kernel_rfl) (sh 1 [(3, aR 0 10 ((y8 ++ ([(hist_Bucket.mk x16.fLow x16.fHigh x16.fCount x16.fDistinct)] : List hist_Bucket)).length))] (by kernel_rfl) (fin [(3, aR 0 10 ((y8 ++ ([(hist_Bucket.mk x16.fLow x16.fHigh x16.fCount x16.fDistinct)] : List hist_Bucket)).length)), (6, .pv (encSl R_tabularyref19_Bucket a0)), (7, aI ((sll a0).length : Int)), (8, aI y9)] rfl (by kernel_rfl) (detn [(3, aR 0 10 ((y8 ++ ([(hist_Bucket.mk x16.fLow x16.fHigh x16.fCount x16.fDistinct)] : List hist_Bucket)).length)), (6, .pv (encSl R_tabularyref19_Bucket a0)), (7, aI ((sll a0).length : Int)), (8, aI (IntKind.wrap .i64 (y9 + 1)))] (by kernel_rfl) ?_)))
    exact ⟨_, _, tidyL [(3, aR 0 10 ((y8 ++ ([(hist_Bucket.mk x16.fLow x16.fHigh x16.fCount x16.fDistinct)] : List hist_Bucket)).length)), (6, .pv (encSl R_tabularyref19_Bucket a0)), (7, aI ((sll a0).length : Int)), (8, aI (IntKind.wrap .i64 (y9 + 1)))] [bR 77 10 R_hist_Bucket (y8 ++ ([(hist_Bucket.mk x16.fLow x16.fHigh x16.fCount x16.fDistinct)] : List hist_Bucket)) 0 0] (by kernel_rfl), .inr (⟨(y8 ++ ([(hist_Bucket.mk x16.fLow x16.fHigh x16.fCount x16.fDistinct)] : List hist_Bucket)), (IntKind.wrap .i64 (y9 + 1)), hm, rfl, rfl⟩)⟩
   ·
    refine cf h15 (by kernel_rfl) (wp_exit ?_)
    exact .inr (⟨y8, aI y9, aB (decide (y9 < ((sll a0).length : Int))), hm, (mk_same (by kernel_rfl)), rfl⟩)
theorem ok_math_Signbit {n : Nat} {a0 : Nat} {r : Bool} (hm : math_Signbit n a0 = some r) :
    call G n 81 [aF a0] [] = some (.ret (aB r), []) := by
  unfold math_Signbit at hm
  obtain ⟨n, rfl, h0⟩ := at1_some hm
  replace hm := h0; clear h0
  refine callL 7 [(0, aF a0)] func81 rfl (by kernel_rfl) (sq (detn [(0, aF a0)] (by kernel_rfl) (sq (rg (sh 1 [(3, aF a0)] (by kernel_rfl) (sh 1 [(4, aU (a0 : Int))] (by kernel_rfl) (sh 3 [(2, aB (decide ((IntKind.wrap .i64 (a0 : Int)) < 0))), (6, aB (decide ((IntKind.wrap .i64 (a0 : Int)) < 0))), (5, aI (IntKind.wrap .i64 (a0 : Int)))] (by kernel_rfl) (fin [(2, aB (decide ((IntKind.wrap .i64 (a0 : Int)) < 0)))] rfl (by kernel_rfl) (wp_ret ?_)))))))))
  obtain rfl := Option.some.inj hm
  exact ⟨trivial, by kernel_rfl⟩
theorem ok_value_Right {n : Nat} {a0 : api_Value} {r : Bool} (hm : value_Right n a0 = some r) :
    call G n 42 [.agg [aI a0.fKind, aI a0.fInt, aF a0.fFloat, aS a0.fText]] [] = some (.ret (aB r), []) := by
  unfold value_Right at hm
  obtain ⟨n, rfl, h0⟩ := at1_some hm
  replace hm := h0; clear h0
  refine callL 70 [(0, .agg [aI a0.fKind, aI a0.fInt, aF a0.fFloat, aS a0.fText])] func42 rfl (by kernel_rfl) (sq (det [(1, .ptr 0 0)] [.box [aI a0.fKind, aI a0.fInt, aF a0.fFloat, aS a0.fText] false] (by kernel_rfl) ?_))
  obtain ⟨k2, hk2, hm⟩ := withK_some hm
  refine mid (fun t H => (∃ (y1 : Bool), k2 y1 = some r ∧ t = mk 70 [(1, .ptr 0 0), (3, aB y1)] ∧ H = [.box [aI a0.fKind, aI a0.fInt, aF a0.fFloat, aS a0.fText] false])) ?_ ?_
  ·
   rintro _ _ ⟨y1, hm, rfl, rfl⟩
   subst hk2
   refine sq (sq (detn [(1, .ptr 0 0), (3, aB y1), (14, aI a0.fKind)] (by kernel_rfl) (bq ?_)))
   refine sq (bq ?_)
   refine sq (bq ?_)
   obtain ⟨k6, hk6, hm⟩ := withK_some hm
   refine mid (fun t H => (∃ (w3 : AV) (w4 : AV) (w5 : AV), k6 () = some r ∧ t = mk 70 [(1, .ptr 0 0), (3, aB y1), (14, w3), (19, w4), (43, w5)] ∧ H = [.box [aI a0.fKind, aI a0.fInt, aF a0.fFloat, aS a0.fText] false])) ?_ ?_
   ·
    rintro _ _ ⟨w3, w4, w5, hm, rfl, rfl⟩
    subst hk6
    refine sq (sq (rg (sh 2 [(45, aB y1), (44, aB y1)] (by kernel_rfl) ?_)))
    refine seg y1 [45, 44, 3] (fun b => [(49, aB (b && (sEq a0.fText ByteArray.empty))), (48, ifA b (aB (sEq a0.fText ByteArray.empty)) (.undef)), (47, ifA b (aS a0.fText) (.undef)), (46, ifA b (.ptr 0 3) (.undef))]) 6 (by kernel_rfl) ?_ ?_ ?_
    ·
     intro Q h
     refine sh 4 [(49, aB (sEq a0.fText ByteArray.empty)), (48, aB (sEq a0.fText ByteArray.empty)), (47, aS a0.fText), (46, .ptr 0 3)] (by kernel_rfl) ?_
     exact sameN (by kernel_rfl) (by kernel_rfl) h
    ·
     intro Q h
     refine sh 4 [(49, aB false), (48, .undef), (47, .undef), (46, .undef)] (by kernel_rfl) ?_
     exact sameN (by kernel_rfl) (by kernel_rfl) h
    refine sh 1 [(2, aB (y1 && (sEq a0.fText ByteArray.empty)))] (by kernel_rfl) (fin [(2, aB (y1 && (sEq a0.fText ByteArray.empty)))] rfl (by kernel_rfl) (wp_ret ?_))
    obtain rfl := Option.some.inj hm
    exact ⟨trivial, by kernel_rfl⟩
   refine bq ?_
   refine sq (bq ?_)
   refine sq (bq (sq ?_))
   refine sq (sq (detn [(1, .ptr 0 0), (3, aB y1), (14, aI a0.fKind), (15, aB (a0.fKind == 0))] (by kernel_rfl) ?_))
   rcases bif_some hm with ⟨h7, hm⟩ | ⟨h7, hm⟩
   ·
    refine ct h7 (by kernel_rfl) (wp_exit (sq (sq (rg (sh 4 [(28, aB (a0.fInt == 0)), (27, aB (a0.fInt == 0)), (26, aI a0.fInt), (25, .ptr 0 1)] (by kernel_rfl) ?_)))))
    refine seg (a0.fInt == 0) [28, 27] (fun b => [(30, aB (b && y1)), (29, ifA b (aB y1) (.undef))]) 6 (by kernel_rfl) ?_ ?_ ?_
    ·
     intro Q h
     refine sh 2 [(30, aB y1), (29, aB y1)] (by kernel_rfl) ?_
     exact sameN (by kernel_rfl) (by kernel_rfl) h
    ·
     intro Q h
     refine sh 2 [(30, aB false), (29, .undef)] (by kernel_rfl) ?_
     exact sameN (by kernel_rfl) (by kernel_rfl) h
    refine sh 1 [(31, aB ((a0.fInt == 0) && y1))] (by kernel_rfl) ?_
    refine seg ((a0.fInt == 0) && y1) [31, 30] (fun b => [(35, aB (b && (sEq a0.fText ByteArray.empty))), (34, ifA b (aB (sEq a0.fText ByteArray.empty)) (.undef)), (33, ifA b (aS a0.fText) (.undef)), (32, ifA b (.ptr 0 3) (.undef))]) 11 (by kernel_rfl) ?_ ?_ ?_
    ·
     intro Q h
     refine sh 4 [(35, aB (sEq a0.fText ByteArray.empty)), (34, aB (sEq a0.fText ByteArray.empty)), (33, aS a0.fText), (32, .ptr 0 3)] (by kernel_rfl) ?_
     exact sameN (by kernel_rfl) (by kernel_rfl) h
    ·
     intro Q h
     refine sh 4 [(35, aB false), (34, .undef), (33, .undef), (32, .undef)] (by kernel_rfl) ?_
     exact sameN (by kernel_rfl) (by kernel_rfl) h
    refine sh 1 [(2, aB (((a0.fInt == 0) && y1) && (sEq a0.fText ByteArray.empty)))] (by kernel_rfl) (fin [(2, aB (((a0.fInt == 0) && y1) && (sEq a0.fText ByteArray.empty)))] rfl (by kernel_rfl) (wp_ret ?_))
    obtain rfl := Option.some.inj hm
    exact ⟨trivial, by kernel_rfl⟩
   ·
    refine cf h7 (by kernel_rfl) (wp_skip (sq (sq (detn [(1, .ptr 0 0), (3, aB y1), (14, aI a0.fKind), (17, aB (a0.fKind == 1))] (by kernel_rfl) ?_))))
    rcases bif_some hm with ⟨h8, hm⟩ | ⟨h8, hm⟩
    ·
     refine ct h8 (by kernel_rfl) (wp_exit (sq (rg (sh 4 [(39, aB (a0.fInt != 0)), (38, aB (a0.fInt != 0)), (37, aI a0.fInt), (36, .ptr 0 1)] (by kernel_rfl) ?_))))
     refine seg (a0.fInt != 0) [39, 38] (fun b => [(43, aB (b && (a0.fInt != 1))), (42, ifA b (aB (a0.fInt != 1)) (.undef)), (41, ifA b (aI a0.fInt) (.undef)), (40, ifA b (.ptr 0 1) (.undef))]) 8 (by kernel_rfl) ?_ ?_ ?_
     ·
      intro Q h
      refine sh 4 [(43, aB (a0.fInt != 1)), (42, aB (a0.fInt != 1)), (41, aI a0.fInt), (40, .ptr 0 1)] (by kernel_rfl) ?_
      exact sameN (by kernel_rfl) (by kernel_rfl) h
     ·
      intro Q h
      refine sh 4 [(43, aB false), (42, .undef), (41, .undef), (40, .undef)] (by kernel_rfl) ?_
      exact sameN (by kernel_rfl) (by kernel_rfl) h
     refine fin [(1, .ptr 0 0), (3, aB y1), (43, aB ((a0.fInt != 0) && (a0.fInt != 1)))] rfl (by kernel_rfl) ?_
     rcases bif_some hm with ⟨h9, hm⟩ | ⟨h9, hm⟩
     ·
      refine ct h9 (by kernel_rfl) (sq (detn [(2, aB false)] (by kernel_rfl) (wp_ret ?_)))
      obtain rfl := Option.some.inj hm
      exact ⟨trivial, by kernel_rfl⟩
     ·
      refine cf h9 (by kernel_rfl) (wp_skip ?_)
      exact ⟨.any, .any, aB ((a0.fInt != 0) && (a0.fInt != 1)), hm, (mk_same (by kernel_rfl)), rfl⟩
    ·
     refine cf h8 (by kernel_rfl) (wp_skip (sq (sq (detn [(1, .ptr 0 0), (3, aB y1), (14, aI a0.fKind), (19, aB (a0.fKind == 2))] (by kernel_rfl) ?_))))
     rcases bif_some hm with ⟨h10, hm⟩ | ⟨h10, hm⟩
     ·
      refine ct h10 (by kernel_rfl) (wp_exit ?_)
      exact ⟨aI a0.fKind, aB (a0.fKind == 2), .any, hm, (mk_same (by kernel_rfl)), rfl⟩
     ·
      refine cf h10 (by kernel_rfl) (wp_skip (sq (sq (detn [(1, .ptr 0 0), (3, aB y1), (14, aI a0.fKind), (21, aB (a0.fKind == 3))] (by kernel_rfl) ?_))))
      rcases bif_some hm with ⟨h11, hm⟩ | ⟨h11, hm⟩
      ·
       refine ct h11 (by kernel_rfl) (wp_exit (sq (sq (rg (sh 4 [(53, aB (a0.fInt == 0)), (52, aB (a0.fInt == 0)), (51, aI a0.fInt), (50, .ptr 0 1)] (by kernel_rfl) ?_)))))
       refine seg (a0.fInt == 0) [53, 52] (fun b => [(57, aB (b && (sEq a0.fText ByteArray.empty))), (56, ifA b (aB (sEq a0.fText ByteArray.empty)) (.undef)), (55, ifA b (aS a0.fText) (.undef)), (54, ifA b (.ptr 0 3) (.undef))]) 8 (by kernel_rfl) ?_ ?_ ?_
       ·
        intro Q h
        refine sh 4 [(57, aB (sEq a0.fText ByteArray.empty)), (56, aB (sEq a0.fText ByteArray.empty)), (55, aS a0.fText), (54, .ptr 0 3)] (by kernel_rfl) ?_
        exact sameN (by kernel_rfl) (by kernel_rfl) h
       ·
        intro Q h
        refine sh 4 [(57, aB false), (56, .undef), (55, .undef), (54, .undef)] (by kernel_rfl) ?_
        exact sameN (by kernel_rfl) (by kernel_rfl) h
       refine sh 1 [(2, aB ((a0.fInt == 0) && (sEq a0.fText ByteArray.empty)))] (by kernel_rfl) (fin [(2, aB ((a0.fInt == 0) && (sEq a0.fText ByteArray.empty)))] rfl (by kernel_rfl) (wp_ret ?_))
       obtain rfl := Option.some.inj hm
       exact ⟨trivial, by kernel_rfl⟩
      ·
       refine cf h11 (by kernel_rfl) (wp_skip (sq (detn [(1, .ptr 0 0), (3, aB y1), (23, aB (a0.fKind == 4))] (by kernel_rfl) ?_)))
       rcases bif_some hm with ⟨h12, hm⟩ | ⟨h12, hm⟩
       ·
        refine ct h12 (by kernel_rfl) (wp_exit (sq (sq (rg (sh 4 [(61, aB (a0.fInt == 0)), (60, aB (a0.fInt == 0)), (59, aI a0.fInt), (58, .ptr 0 1)] (by kernel_rfl) ?_)))))
        refine seg (a0.fInt == 0) [61, 60] (fun b => [(63, aB (b && y1)), (62, ifA b (aB y1) (.undef))]) 6 (by kernel_rfl) ?_ ?_ ?_
        ·
         intro Q h
         refine sh 2 [(63, aB y1), (62, aB y1)] (by kernel_rfl) ?_
         exact sameN (by kernel_rfl) (by kernel_rfl) h
        ·
         intro Q h
         refine sh 2 [(63, aB false), (62, .undef)] (by kernel_rfl) ?_
         exact sameN (by kernel_rfl) (by kernel_rfl) h
        refine sh 1 [(64, aB ((a0.fInt == 0) && y1))] (by kernel_rfl) ?_
        refine seg ((a0.fInt == 0) && y1) [64, 63] (fun b => [(69, aB (b && (decide ((a0.fText.size : Int) ≤ 64)))), (68, ifA b (aB (decide ((a0.fText.size : Int) ≤ 64))) (.undef)), (67, ifA b (aI (a0.fText.size : Int)) (.undef)), (66, ifA b (aS a0.fText) (.undef)), (65, ifA b (.ptr 0 3) (.undef))]) 12 (by kernel_rfl) ?_ ?_ ?_
        ·
         intro Q h
         refine sh 5 [(69, aB (decide ((a0.fText.size : Int) ≤ 64))), (68, aB (decide ((a0.fText.size : Int) ≤ 64))), (67, aI (a0.fText.size : Int)), (66, aS a0.fText), (65, .ptr 0 3)] (by kernel_rfl) ?_
         exact sameN (by kernel_rfl) (by kernel_rfl) h
        ·
         intro Q h
         refine sh 5 [(69, aB false), (68, .undef), (67, .undef), (66, .undef), (65, .undef)] (by kernel_rfl) ?_
         exact sameN (by kernel_rfl) (by kernel_rfl) h
        refine sh 1 [(2, aB (((a0.fInt == 0) && y1) && (decide ((a0.fText.size : Int) ≤ 64))))] (by kernel_rfl) (fin [(2, aB (((a0.fInt == 0) && y1) && (decide ((a0.fText.size : Int) ≤ 64))))] rfl (by kernel_rfl) (wp_ret ?_))
        obtain rfl := Option.some.inj hm
        exact ⟨trivial, by kernel_rfl⟩
       ·
        refine cf h12 (by kernel_rfl) (wp_skip (wp_exit (sq (detn [(2, aB false)] (by kernel_rfl) (wp_ret ?_)))))
        obtain rfl := Option.some.inj hm
        exact ⟨trivial, by kernel_rfl⟩
  refine rg (sh 4 [(7, aB ((FloatKind.format .f64).order a0.fFloat 0 == some .eq)), (6, aB ((FloatKind.format .f64).order a0.fFloat 0 == some .eq)), (5, aF a0.fFloat), (4, .ptr 0 2)] (by kernel_rfl) ?_)
  rcases bif_some hm with ⟨h13, hm⟩ | ⟨h13, hm⟩
  ·
   refine known [7, 6] h13 (by kernel_rfl) (sh 2 [(9, aF a0.fFloat), (8, .ptr 0 2)] (by kernel_rfl) ?_)
   obtain ⟨x14, h15, hm⟩ := bs hm
   refine dv 10 (cpure (by kernel_rfl) (ok_math_Signbit h15) (by kernel_rfl) (by kernel_rfl) (by kernel_rfl)) (by kernel_rfl) (sh 3 [(3, aB (!x14)), (12, aB (!x14)), (11, aB (!x14))] (by kernel_rfl) (fin [(1, .ptr 0 0), (3, aB (!x14))] rfl (by kernel_rfl) ?_))
   exact ⟨(!x14), hm, rfl, rfl⟩
  ·
   refine known [7, 6] h13 (by kernel_rfl) (sh 6 [(3, aB false), (12, aB false), (11, .undef), (10, .undef), (9, .undef), (8, .undef)] (by kernel_rfl) (fin [(1, .ptr 0 0), (3, aB false)] rfl (by kernel_rfl) ?_))
   exact ⟨false, hm, rfl, rfl⟩
theorem ok_hist_plain {n : Nat} {a0 : api_Value} {r : Bool} (hm : hist_plain n a0 = some r) :
    call G n 104 [.agg [aI a0.fKind, aI a0.fInt, aF a0.fFloat, aS a0.fText]] [] = some (.ret (aB r), []) := by
  unfold hist_plain at hm
  obtain ⟨n, rfl, h0⟩ := at1_some hm
  replace hm := h0; clear h0
  refine callL 21 [(0, .agg [aI a0.fKind, aI a0.fInt, aF a0.fFloat, aS a0.fText])] func104 rfl (by kernel_rfl) (sq (det [(1, .ptr 0 0)] [.box [aI a0.fKind, aI a0.fInt, aF a0.fFloat, aS a0.fText] false] (by kernel_rfl) (sq (rg (sh 1 [(3, .agg [aI a0.fKind, aI a0.fInt, aF a0.fFloat, aS a0.fText])] (by kernel_rfl) ?_)))))
  obtain ⟨x1, h2, hm⟩ := bs hm
  refine dv 4 (cpure (by kernel_rfl) (ok_value_Right h2) (by kernel_rfl) (by kernel_rfl) (by kernel_rfl)) (by kernel_rfl) (sh 1 [(5, aB x1)] (by kernel_rfl) ?_)
  refine seg x1 [5, 4] (fun b => [(9, aB (b && (a0.fKind != 0))), (8, ifA b (aB (a0.fKind != 0)) (.undef)), (7, ifA b (aI a0.fKind) (.undef)), (6, ifA b (.ptr 0 0) (.undef))]) 7 (by kernel_rfl) ?_ ?_ ?_
  ·
   intro Q h
   refine sh 4 [(9, aB (a0.fKind != 0)), (8, aB (a0.fKind != 0)), (7, aI a0.fKind), (6, .ptr 0 0)] (by kernel_rfl) ?_
   exact sameN (by kernel_rfl) (by kernel_rfl) h
  ·
   intro Q h
   refine sh 4 [(9, aB false), (8, .undef), (7, .undef), (6, .undef)] (by kernel_rfl) ?_
   exact sameN (by kernel_rfl) (by kernel_rfl) h
  refine sh 1 [(10, aB (x1 && (a0.fKind != 0)))] (by kernel_rfl) ?_
  rcases bif_some hm with ⟨h3, hm⟩ | ⟨h3, hm⟩
  ·
   refine known [10, 9] h3 (by kernel_rfl) (sh 4 [(14, aB ((FloatKind.format .f64).order a0.fFloat 0 != some .eq)), (13, aB ((FloatKind.format .f64).order a0.fFloat 0 != some .eq)), (12, aF a0.fFloat), (11, .ptr 0 2)] (by kernel_rfl) ?_)
   rcases bif_some hm with ⟨h4, hm⟩ | ⟨h4, hm⟩
   ·
    refine known [14, 13] h4 (by kernel_rfl) (sh 7 [(2, aB true), (20, aB true), (19, aB true), (18, .undef), (17, .undef), (16, .undef), (15, .undef)] (by kernel_rfl) (fin [(2, aB true)] rfl (by kernel_rfl) (wp_ret ?_)))
    obtain rfl := Option.some.inj hm
    exact ⟨trivial, by kernel_rfl⟩
   ·
    refine known [14, 13] h4 (by kernel_rfl) (sh 2 [(16, aF a0.fFloat), (15, .ptr 0 2)] (by kernel_rfl) ?_)
    obtain ⟨x5, h6, hm⟩ := bs hm
    refine dv 17 (cpure (by kernel_rfl) (ok_math_Signbit h6) (by kernel_rfl) (by kernel_rfl) (by kernel_rfl)) (by kernel_rfl) (sh 4 [(2, aB (!x5)), (20, aB (!x5)), (19, aB (!x5)), (18, aB (!x5))] (by kernel_rfl) (fin [(2, aB (!x5))] rfl (by kernel_rfl) (wp_ret ?_)))
    obtain rfl := Option.some.inj hm
    exact ⟨trivial, by kernel_rfl⟩
  ·
   refine known [10, 9] h3 (by kernel_rfl) (sh 11 [(2, aB false), (20, aB false), (19, .undef), (18, .undef), (17, .undef), (16, .undef), (15, .undef), (14, .undef), (13, .undef), (12, .undef), (11, .undef)] (by kernel_rfl) (fin [(2, aB false)] rfl (by kernel_rfl) (wp_ret ?_)))
   obtain rfl := Option.some.inj hm
   exact ⟨trivial, by kernel_rfl⟩
theorem ok_math_IsNaN {n : Nat} {a0 : Nat} {r : Bool} (hm : math_IsNaN n a0 = some r) :
    call G n 106 [aF a0] [] = some (.ret (aB r), []) := by
  unfold math_IsNaN at hm
  obtain ⟨n, rfl, h0⟩ := at1_some hm
  replace hm := h0; clear h0
  refine callL 6 [(0, aF a0)] func106 rfl (by kernel_rfl) (sq (detn [(0, aF a0)] (by kernel_rfl) (sq (detn [(2, aB ((FloatKind.format .f64).order a0 a0 != some .eq))] (by kernel_rfl) (wp_ret ?_)))))
  obtain rfl := Option.some.inj hm
  exact ⟨trivial, by kernel_rfl⟩
theorem ok_value_Plain {n : Nat} {a0 : api_Value} {r : api_Value} (hm : value_Plain n a0 = some r) :
    call G n 76 [.agg [aI a0.fKind, aI a0.fInt, aF a0.fFloat, aS a0.fText]] [] = some (.ret (.agg [aI r.fKind, aI r.fInt, aF r.fFloat, aS r.fText]), []) := by
  unfold value_Plain at hm
  obtain ⟨n, rfl, h0⟩ := at1_some hm
  replace hm := h0; clear h0
  refine callL 30 [(0, .agg [aI a0.fKind, aI a0.fInt, aF a0.fFloat, aS a0.fText])] func76 rfl (by kernel_rfl) (sq (det [(1, .ptr 0 0), (2, .ptr 1 0)] [.box [aI a0.fKind, aI a0.fInt, aF a0.fFloat, aS a0.fText] false, .box [aI 0, aI 0, aF 0, aS ByteArray.empty] false] (by kernel_rfl) (sq (bq (sq (rg (sh 1 [(4, .agg [aI a0.fKind, aI a0.fInt, aF a0.fFloat, aS a0.fText])] (by kernel_rfl) ?_)))))))
  obtain ⟨x1, h2, hm⟩ := bs hm
  refine dv 5 (cpure (by kernel_rfl) (ok_value_Right h2) (by kernel_rfl) (by kernel_rfl) (by kernel_rfl)) (by kernel_rfl) (sh 2 [(3, aB (!x1)), (6, aB (!x1))] (by kernel_rfl) (fin [(1, .ptr 0 0), (2, .ptr 1 0), (3, aB (!x1))] rfl (by kernel_rfl) ?_))
  rcases bif_some hm with ⟨h3, hm⟩ | ⟨h3, hm⟩
  ·
   refine ct h3 (by kernel_rfl) (sq (detn [(2, .ptr 1 0)] (by kernel_rfl) (wp_ret ?_)))
   obtain rfl := Option.some.inj hm
   exact ⟨trivial, by kernel_rfl⟩
  ·
   refine cf h3 (by kernel_rfl) ?_
   obtain ⟨k5, hk5, hm⟩ := withK_some hm
   refine mid (fun t H => (∃ (y4 : Bool), k5 y4 = some r ∧ t = mk 30 [(1, .ptr 0 0), (2, .ptr 1 0), (8, aB y4)] ∧ H = [.box [aI a0.fKind, aI a0.fInt, aF a0.fFloat, aS a0.fText] false, .box [aI 0, aI 0, aF 0, aS ByteArray.empty] false])) ?_ ?_
   ·
    rintro _ _ ⟨y4, hm, rfl, rfl⟩
    subst hk5
    rcases bif_some hm with ⟨h6, hm⟩ | ⟨h6, hm⟩
    ·
     refine ct h6 (by kernel_rfl) (rg (sh 1 [(17, aF (Int.toNat 9221120237041090561))] (by kernel_rfl) (st 2 [(18, .ptr 0 2)] [.box [aI a0.fKind, aI a0.fInt, aF (Int.toNat 9221120237041090561), aS a0.fText] false, .box [aI 0, aI 0, aF 0, aS ByteArray.empty] false] (by kernel_rfl) (fin [(1, .ptr 0 0), (2, .ptr 1 0)] rfl (by kernel_rfl) (sq (det [(2, .ptr 1 0)] [.box [aI a0.fKind, aI a0.fInt, aF (Int.toNat 9221120237041090561), aS a0.fText] false, .box [aI a0.fKind, aI a0.fInt, aF (Int.toNat 9221120237041090561), aS a0.fText] false] (by kernel_rfl) (wp_ret ?_)))))))
     obtain rfl := Option.some.inj hm
     exact ⟨trivial, by kernel_rfl⟩
    ·
     refine cf h6 (by kernel_rfl) (sq (rg (sh 4 [(23, aB (a0.fKind == 3)), (22, aB (a0.fKind == 3)), (21, aI a0.fKind), (20, .ptr 0 0)] (by kernel_rfl) ?_)))
     refine seg (a0.fKind == 3) [23, 22] (fun b => [(27, aB (b && ((FloatKind.format .f64).order a0.fFloat 0 == some .eq))), (26, ifA b (aB ((FloatKind.format .f64).order a0.fFloat 0 == some .eq)) (.undef)), (25, ifA b (aF a0.fFloat) (.undef)), (24, ifA b (.ptr 0 2) (.undef))]) 8 (by kernel_rfl) ?_ ?_ ?_
     ·
      intro Q h
      refine sh 4 [(27, aB ((FloatKind.format .f64).order a0.fFloat 0 == some .eq)), (26, aB ((FloatKind.format .f64).order a0.fFloat 0 == some .eq)), (25, aF a0.fFloat), (24, .ptr 0 2)] (by kernel_rfl) ?_
      exact sameN (by kernel_rfl) (by kernel_rfl) h
     ·
      intro Q h
      refine sh 4 [(27, aB false), (26, .undef), (25, .undef), (24, .undef)] (by kernel_rfl) ?_
      exact sameN (by kernel_rfl) (by kernel_rfl) h
     refine sh 1 [(19, aB ((a0.fKind == 3) && ((FloatKind.format .f64).order a0.fFloat 0 == some .eq)))] (by kernel_rfl) (fin [(1, .ptr 0 0), (2, .ptr 1 0), (19, aB ((a0.fKind == 3) && ((FloatKind.format .f64).order a0.fFloat 0 == some .eq)))] rfl (by kernel_rfl) ?_)
     rcases bif_some hm with ⟨h7, hm⟩ | ⟨h7, hm⟩
     ·
      refine ct h7 (by kernel_rfl) (det [(1, .ptr 0 0), (2, .ptr 1 0)] [.box [aI a0.fKind, aI a0.fInt, aF 0, aS a0.fText] false, .box [aI 0, aI 0, aF 0, aS ByteArray.empty] false] (by kernel_rfl) (sq (det [(2, .ptr 1 0)] [.box [aI a0.fKind, aI a0.fInt, aF 0, aS a0.fText] false, .box [aI a0.fKind, aI a0.fInt, aF 0, aS a0.fText] false] (by kernel_rfl) (wp_ret ?_))))
      obtain rfl := Option.some.inj hm
      exact ⟨trivial, by kernel_rfl⟩
     ·
      refine cf h7 (by kernel_rfl) (wp_skip (sq (det [(2, .ptr 1 0)] [.box [aI a0.fKind, aI a0.fInt, aF a0.fFloat, aS a0.fText] false, .box [aI a0.fKind, aI a0.fInt, aF a0.fFloat, aS a0.fText] false] (by kernel_rfl) (wp_ret ?_))))
      obtain rfl := Option.some.inj hm
      exact ⟨trivial, by kernel_rfl⟩
   refine rg (sh 4 [(12, aB (a0.fKind == 3)), (11, aB (a0.fKind == 3)), (10, aI a0.fKind), (9, .ptr 0 0)] (by kernel_rfl) ?_)
   rcases bif_some hm with ⟨h8, hm⟩ | ⟨h8, hm⟩
   ·
    refine known [12, 11] h8 (by kernel_rfl) (sh 2 [(14, aF a0.fFloat), (13, .ptr 0 2)] (by kernel_rfl) ?_)
    obtain ⟨x9, h10, hm⟩ := bs hm
    refine dv 15 (cpure (by kernel_rfl) (ok_math_IsNaN h10) (by kernel_rfl) (by kernel_rfl) (by kernel_rfl)) (by kernel_rfl) (sh 2 [(8, aB x9), (16, aB x9)] (by kernel_rfl) (fin [(1, .ptr 0 0), (2, .ptr 1 0), (8, aB x9)] rfl (by kernel_rfl) ?_))
    exact ⟨x9, hm, rfl, rfl⟩
   ·
    refine known [12, 11] h8 (by kernel_rfl) (sh 5 [(8, aB false), (16, aB false), (15, .undef), (14, .undef), (13, .undef)] (by kernel_rfl) (fin [(1, .ptr 0 0), (2, .ptr 1 0), (8, aB false)] rfl (by kernel_rfl) ?_))
    exact ⟨false, hm, rfl, rfl⟩
theorem ok_cmp_isNaN_int {n : Nat} {a0 : Int} {r : Bool} (hm : cmp_isNaN_int n a0 = some r) :
    call G n 108 [aI a0] [] = some (.ret (aB r), []) := by
  unfold cmp_isNaN_int at hm
  obtain ⟨n, rfl, h0⟩ := at1_some hm
  replace hm := h0; clear h0
  refine callL 6 [(0, aI a0)] func108 rfl (by kernel_rfl) (sq (detn [(0, aI a0)] (by kernel_rfl) (sq (detn [(2, aB (a0 != a0))] (by kernel_rfl) (wp_ret ?_)))))
  obtain rfl := Option.some.inj hm
  exact ⟨trivial, by kernel_rfl⟩
theorem ok_cmp_Compare_int {n : Nat} {a0 : Int} {a1 : Int} {r : Int} (hm : cmp_Compare_int n a0 a1 = some r) :
    call G n 77 [aI a0, aI a1] [] = some (.ret (aI r), []) := by
  unfold cmp_Compare_int at hm
  obtain ⟨n, rfl, h0⟩ := at1_some hm
  replace hm := h0; clear h0
  refine callL 20 [(0, aI a0), (1, aI a1)] func77 rfl (by kernel_rfl) (sq (detn [(0, aI a0), (1, aI a1)] (by kernel_rfl) (sq (rg (sh 1 [(7, aI a0)] (by kernel_rfl) ?_)))))
  obtain ⟨x1, h2, hm⟩ := bs hm
  refine dv 8 (cpure (by kernel_rfl) (ok_cmp_isNaN_int h2) (by kernel_rfl) (by kernel_rfl) (by kernel_rfl)) (by kernel_rfl) (sh 1 [(5, aB x1)] (by kernel_rfl) (fin [(0, aI a0), (1, aI a1), (5, aB x1)] rfl (by kernel_rfl) (sq (rg (sh 1 [(9, aI a1)] (by kernel_rfl) ?_)))))
  obtain ⟨x3, h4, hm⟩ := bs hm
  refine dv 10 (cpure (by kernel_rfl) (ok_cmp_isNaN_int h4) (by kernel_rfl) (by kernel_rfl) (by kernel_rfl)) (by kernel_rfl) (sh 1 [(6, aB x3)] (by kernel_rfl) (fin [(0, aI a0), (1, aI a1), (5, aB x1), (6, aB x3)] rfl (by kernel_rfl) ?_))
  refine sq (sq (detn [(0, aI a0), (1, aI a1), (6, aB x3), (11, aB x1)] (by kernel_rfl) ?_))
  rcases bif_some hm with ⟨h5, hm⟩ | ⟨h5, hm⟩
  ·
   refine ct h5 (by kernel_rfl) (sq (sq (detn [(12, aB x3)] (by kernel_rfl) ?_)))
   rcases bif_some hm with ⟨h6, hm⟩ | ⟨h6, hm⟩
   ·
    refine ct h6 (by kernel_rfl) (sq (detn [(4, aI 0)] (by kernel_rfl) (wp_ret ?_)))
    obtain rfl := Option.some.inj hm
    exact ⟨trivial, by kernel_rfl⟩
   ·
    refine cf h6 (by kernel_rfl) (wp_skip (sq (detn [(4, aI (-1))] (by kernel_rfl) (wp_ret ?_))))
    obtain rfl := Option.some.inj hm
    exact ⟨trivial, by kernel_rfl⟩
  ·
   refine cf h5 (by kernel_rfl) (wp_skip ?_)
   refine sq (sq (detn [(0, aI a0), (1, aI a1), (13, aB x3)] (by kernel_rfl) ?_))
   rcases bif_some hm with ⟨h7, hm⟩ | ⟨h7, hm⟩
   ·
    refine ct h7 (by kernel_rfl) (sq (detn [(4, aI 1)] (by kernel_rfl) (wp_ret ?_)))
    obtain rfl := Option.some.inj hm
    exact ⟨trivial, by kernel_rfl⟩
   ·
    refine cf h7 (by kernel_rfl) (wp_skip (sq (sq (detn [(0, aI a0), (1, aI a1), (16, aB (decide (a0 < a1)))] (by kernel_rfl) ?_))))
    rcases bif_some hm with ⟨h8, hm⟩ | ⟨h8, hm⟩
    ·
     refine ct h8 (by kernel_rfl) (sq (detn [(4, aI (-1))] (by kernel_rfl) (wp_ret ?_)))
     obtain rfl := Option.some.inj hm
     exact ⟨trivial, by kernel_rfl⟩
    ·
     refine cf h8 (by kernel_rfl) (wp_skip (sq (sq (detn [(19, aB (decide (a0 > a1)))] (by kernel_rfl) ?_))))
     rcases bif_some hm with ⟨h9, hm⟩ | ⟨h9, hm⟩
     ·
      refine ct h9 (by kernel_rfl) (sq (detn [(4, aI 1)] (by kernel_rfl) (wp_ret ?_)))
      obtain rfl := Option.some.inj hm
      exact ⟨trivial, by kernel_rfl⟩
     ·
      refine cf h9 (by kernel_rfl) (wp_skip (sq (detn [(4, aI 0)] (by kernel_rfl) (wp_ret ?_))))
      obtain rfl := Option.some.inj hm
      exact ⟨trivial, by kernel_rfl⟩
theorem ok_value_floats {n : Nat} {a0 : Nat} {a1 : Nat} {r : Int} (hm : value_floats n a0 a1 = some r) :
    call G n 78 [aF a0, aF a1] [] = some (.ret (aI r), []) := by
  unfold value_floats at hm
  obtain ⟨n, rfl, h0⟩ := at1_some hm
  replace hm := h0; clear h0
  refine callL 28 [(0, aF a0), (1, aF a1)] func78 rfl (by kernel_rfl) (sq (detn [(0, aF a0), (1, aF a1)] (by kernel_rfl) (sq (sq (rg (sh 1 [(7, aF a0)] (by kernel_rfl) ?_))))))
  obtain ⟨x1, h2, hm⟩ := bs hm
  refine dv 8 (cpure (by kernel_rfl) (ok_math_IsNaN h2) (by kernel_rfl) (by kernel_rfl) (by kernel_rfl)) (by kernel_rfl) (sh 1 [(9, aF a1)] (by kernel_rfl) ?_)
  obtain ⟨x3, h4, hm⟩ := bs hm
  refine dv 10 (cpure (by kernel_rfl) (ok_math_IsNaN h4) (by kernel_rfl) (by kernel_rfl) (by kernel_rfl)) (by kernel_rfl) (sh 2 [(6, aB x3), (5, aB x1)] (by kernel_rfl) (fin [(0, aF a0), (1, aF a1), (5, aB x1), (6, aB x3)] rfl (by kernel_rfl) (bq ?_)))
  refine sq (rg (sh 2 [(13, aB x1), (12, aB x1)] (by kernel_rfl) ?_))
  refine seg x1 [13, 12, 5] (fun b => [(15, aB (b && x3)), (14, ifA b (aB x3) (.undef))]) 4 (by kernel_rfl) ?_ ?_ ?_
  ·
   intro Q h
   refine sh 2 [(15, aB x3), (14, aB x3)] (by kernel_rfl) ?_
   exact sameN (by kernel_rfl) (by kernel_rfl) h
  ·
   intro Q h
   refine sh 2 [(15, aB false), (14, .undef)] (by kernel_rfl) ?_
   exact sameN (by kernel_rfl) (by kernel_rfl) h
  refine sh 1 [(11, aB (x1 && x3))] (by kernel_rfl) (fin [(0, aF a0), (1, aF a1), (5, aB x1), (6, aB x3), (11, aB (x1 && x3))] rfl (by kernel_rfl) ?_)
  rcases bif_some hm with ⟨h5, hm⟩ | ⟨h5, hm⟩
  ·
   refine ct h5 (by kernel_rfl) (sq (detn [(4, aI 0)] (by kernel_rfl) (wp_ret ?_)))
   obtain rfl := Option.some.inj hm
   exact ⟨trivial, by kernel_rfl⟩
  ·
   refine cf h5 (by kernel_rfl) (sq (detn [(0, aF a0), (1, aF a1), (6, aB x3), (16, aB x1)] (by kernel_rfl) ?_))
   rcases bif_some hm with ⟨h6, hm⟩ | ⟨h6, hm⟩
   ·
    refine ct h6 (by kernel_rfl) (sq (detn [(4, aI 1)] (by kernel_rfl) (wp_ret ?_)))
    obtain rfl := Option.some.inj hm
    exact ⟨trivial, by kernel_rfl⟩
   ·
    refine cf h6 (by kernel_rfl) (sq (detn [(0, aF a0), (1, aF a1), (18, aB x3)] (by kernel_rfl) ?_))
    rcases bif_some hm with ⟨h7, hm⟩ | ⟨h7, hm⟩
    ·
     refine ct h7 (by kernel_rfl) (sq (detn [(4, aI (-1))] (by kernel_rfl) (wp_ret ?_)))
     obtain rfl := Option.some.inj hm
     exact ⟨trivial, by kernel_rfl⟩
    ·
     refine cf h7 (by kernel_rfl) (sq (detn [(0, aF a0), (1, aF a1), (20, aB ((FloatKind.format .f64).order a0 a1 == some .lt))] (by kernel_rfl) ?_))
     rcases bif_some hm with ⟨h8, hm⟩ | ⟨h8, hm⟩
     ·
      refine ct h8 (by kernel_rfl) (sq (detn [(4, aI (-1))] (by kernel_rfl) (wp_ret ?_)))
      obtain rfl := Option.some.inj hm
      exact ⟨trivial, by kernel_rfl⟩
     ·
      refine cf h8 (by kernel_rfl) (sq (detn [(24, aB ((FloatKind.format .f64).order a0 a1 == some .gt))] (by kernel_rfl) ?_))
      rcases bif_some hm with ⟨h9, hm⟩ | ⟨h9, hm⟩
      ·
       refine ct h9 (by kernel_rfl) (sq (detn [(4, aI 1)] (by kernel_rfl) (wp_ret ?_)))
       obtain rfl := Option.some.inj hm
       exact ⟨trivial, by kernel_rfl⟩
      ·
       refine cf h9 (by kernel_rfl) (wp_skip (sq (detn [(4, aI 0)] (by kernel_rfl) (wp_ret ?_))))
       obtain rfl := Option.some.inj hm
       exact ⟨trivial, by kernel_rfl⟩
theorem ok_cmp_isNaN_string {n : Nat} {a0 : ByteArray} {r : Bool} (hm : cmp_isNaN_string n a0 = some r) :
    call G n 109 [aS a0] [] = some (.ret (aB r), []) := by
  unfold cmp_isNaN_string at hm
  obtain ⟨n, rfl, h0⟩ := at1_some hm
  replace hm := h0; clear h0
  refine callL 6 [(0, aS a0)] func109 rfl (by kernel_rfl) (sq (detn [(0, aS a0)] (by kernel_rfl) (sq (detn [(2, aB (!(sEq a0 a0)))] (by kernel_rfl) (wp_ret ?_)))))
  obtain rfl := Option.some.inj hm
  exact ⟨trivial, by kernel_rfl⟩
theorem ok_cmp_Compare_string {n : Nat} {a0 : ByteArray} {a1 : ByteArray} {r : Int} (hm : cmp_Compare_string n a0 a1 = some r) :
    call G n 79 [aS a0, aS a1] [] = some (.ret (aI r), []) := by
  unfold cmp_Compare_string at hm
  obtain ⟨n, rfl, h0⟩ := at1_some hm
  replace hm := h0; clear h0
  refine callL 20 [(0, aS a0), (1, aS a1)] func79 rfl (by kernel_rfl) (sq (detn [(0, aS a0), (1, aS a1)] (by kernel_rfl) (sq (rg (sh 1 [(7, aS a0)] (by kernel_rfl) ?_)))))
  obtain ⟨x1, h2, hm⟩ := bs hm
  refine dv 8 (cpure (by kernel_rfl) (ok_cmp_isNaN_string h2) (by kernel_rfl) (by kernel_rfl) (by kernel_rfl)) (by kernel_rfl) (sh 1 [(5, aB x1)] (by kernel_rfl) (fin [(0, aS a0), (1, aS a1), (5, aB x1)] rfl (by kernel_rfl) (sq (rg (sh 1 [(9, aS a1)] (by kernel_rfl) ?_)))))
  obtain ⟨x3, h4, hm⟩ := bs hm
  refine dv 10 (cpure (by kernel_rfl) (ok_cmp_isNaN_string h4) (by kernel_rfl) (by kernel_rfl) (by kernel_rfl)) (by kernel_rfl) (sh 1 [(6, aB x3)] (by kernel_rfl) (fin [(0, aS a0), (1, aS a1), (5, aB x1), (6, aB x3)] rfl (by kernel_rfl) ?_))
  refine sq (sq (detn [(0, aS a0), (1, aS a1), (6, aB x3), (11, aB x1)] (by kernel_rfl) ?_))
  rcases bif_some hm with ⟨h5, hm⟩ | ⟨h5, hm⟩
  ·
   refine ct h5 (by kernel_rfl) (sq (sq (detn [(12, aB x3)] (by kernel_rfl) ?_)))
   rcases bif_some hm with ⟨h6, hm⟩ | ⟨h6, hm⟩
   ·
    refine ct h6 (by kernel_rfl) (sq (detn [(4, aI 0)] (by kernel_rfl) (wp_ret ?_)))
    obtain rfl := Option.some.inj hm
    exact ⟨trivial, by kernel_rfl⟩
   ·
    refine cf h6 (by kernel_rfl) (wp_skip (sq (detn [(4, aI (-1))] (by kernel_rfl) (wp_ret ?_))))
    obtain rfl := Option.some.inj hm
    exact ⟨trivial, by kernel_rfl⟩
  ·
   refine cf h5 (by kernel_rfl) (wp_skip ?_)
   refine sq (sq (detn [(0, aS a0), (1, aS a1), (13, aB x3)] (by kernel_rfl) ?_))
   rcases bif_some hm with ⟨h7, hm⟩ | ⟨h7, hm⟩
   ·
    refine ct h7 (by kernel_rfl) (sq (detn [(4, aI 1)] (by kernel_rfl) (wp_ret ?_)))
    obtain rfl := Option.some.inj hm
    exact ⟨trivial, by kernel_rfl⟩
   ·
    refine cf h7 (by kernel_rfl) (wp_skip (sq (sq (detn [(0, aS a0), (1, aS a1), (16, aB (sLt a0 a1))] (by kernel_rfl) ?_))))
    rcases bif_some hm with ⟨h8, hm⟩ | ⟨h8, hm⟩
    ·
     refine ct h8 (by kernel_rfl) (sq (detn [(4, aI (-1))] (by kernel_rfl) (wp_ret ?_)))
     obtain rfl := Option.some.inj hm
     exact ⟨trivial, by kernel_rfl⟩
    ·
     refine cf h8 (by kernel_rfl) (wp_skip (sq (sq (detn [(19, aB (!(sLt a0 a1 || sEq a0 a1)))] (by kernel_rfl) ?_))))
     rcases bif_some hm with ⟨h9, hm⟩ | ⟨h9, hm⟩
     ·
      refine ct h9 (by kernel_rfl) (sq (detn [(4, aI 1)] (by kernel_rfl) (wp_ret ?_)))
      obtain rfl := Option.some.inj hm
      exact ⟨trivial, by kernel_rfl⟩
     ·
      refine cf h9 (by kernel_rfl) (wp_skip (sq (detn [(4, aI 0)] (by kernel_rfl) (wp_ret ?_))))
      obtain rfl := Option.some.inj hm
      exact ⟨trivial, by kernel_rfl⟩
theorem ok_cmp_isNaN_int64 {n : Nat} {a0 : Int} {r : Bool} (hm : cmp_isNaN_int64 n a0 = some r) :
    call G n 110 [aI a0] [] = some (.ret (aB r), []) := by
  unfold cmp_isNaN_int64 at hm
  obtain ⟨n, rfl, h0⟩ := at1_some hm
  replace hm := h0; clear h0
  refine callL 6 [(0, aI a0)] func110 rfl (by kernel_rfl) (sq (detn [(0, aI a0)] (by kernel_rfl) (sq (detn [(2, aB (a0 != a0))] (by kernel_rfl) (wp_ret ?_)))))
  obtain rfl := Option.some.inj hm
  exact ⟨trivial, by kernel_rfl⟩
theorem ok_cmp_Compare_int64 {n : Nat} {a0 : Int} {a1 : Int} {r : Int} (hm : cmp_Compare_int64 n a0 a1 = some r) :
    call G n 80 [aI a0, aI a1] [] = some (.ret (aI r), []) := by
  unfold cmp_Compare_int64 at hm
  obtain ⟨n, rfl, h0⟩ := at1_some hm
  replace hm := h0; clear h0
  refine callL 20 [(0, aI a0), (1, aI a1)] func80 rfl (by kernel_rfl) (sq (detn [(0, aI a0), (1, aI a1)] (by kernel_rfl) (sq (rg (sh 1 [(7, aI a0)] (by kernel_rfl) ?_)))))
  obtain ⟨x1, h2, hm⟩ := bs hm
  refine dv 8 (cpure (by kernel_rfl) (ok_cmp_isNaN_int64 h2) (by kernel_rfl) (by kernel_rfl) (by kernel_rfl)) (by kernel_rfl) (sh 1 [(5, aB x1)] (by kernel_rfl) (fin [(0, aI a0), (1, aI a1), (5, aB x1)] rfl (by kernel_rfl) (sq (rg (sh 1 [(9, aI a1)] (by kernel_rfl) ?_)))))
  obtain ⟨x3, h4, hm⟩ := bs hm
  refine dv 10 (cpure (by kernel_rfl) (ok_cmp_isNaN_int64 h4) (by kernel_rfl) (by kernel_rfl) (by kernel_rfl)) (by kernel_rfl) (sh 1 [(6, aB x3)] (by kernel_rfl) (fin [(0, aI a0), (1, aI a1), (5, aB x1), (6, aB x3)] rfl (by kernel_rfl) ?_))
  refine sq (sq (detn [(0, aI a0), (1, aI a1), (6, aB x3), (11, aB x1)] (by kernel_rfl) ?_))
  rcases bif_some hm with ⟨h5, hm⟩ | ⟨h5, hm⟩
  ·
   refine ct h5 (by kernel_rfl) (sq (sq (detn [(12, aB x3)] (by kernel_rfl) ?_)))
   rcases bif_some hm with ⟨h6, hm⟩ | ⟨h6, hm⟩
   ·
    refine ct h6 (by kernel_rfl) (sq (detn [(4, aI 0)] (by kernel_rfl) (wp_ret ?_)))
    obtain rfl := Option.some.inj hm
    exact ⟨trivial, by kernel_rfl⟩
   ·
    refine cf h6 (by kernel_rfl) (wp_skip (sq (detn [(4, aI (-1))] (by kernel_rfl) (wp_ret ?_))))
    obtain rfl := Option.some.inj hm
    exact ⟨trivial, by kernel_rfl⟩
  ·
   refine cf h5 (by kernel_rfl) (wp_skip ?_)
   refine sq (sq (detn [(0, aI a0), (1, aI a1), (13, aB x3)] (by kernel_rfl) ?_))
   rcases bif_some hm with ⟨h7, hm⟩ | ⟨h7, hm⟩
   ·
    refine ct h7 (by kernel_rfl) (sq (detn [(4, aI 1)] (by kernel_rfl) (wp_ret ?_)))
    obtain rfl := Option.some.inj hm
    exact ⟨trivial, by kernel_rfl⟩
   ·
    refine cf h7 (by kernel_rfl) (wp_skip (sq (sq (detn [(0, aI a0), (1, aI a1), (16, aB (decide (a0 < a1)))] (by kernel_rfl) ?_))))
    rcases bif_some hm with ⟨h8, hm⟩ | ⟨h8, hm⟩
    ·
     refine ct h8 (by kernel_rfl) (sq (detn [(4, aI (-1))] (by kernel_rfl) (wp_ret ?_)))
     obtain rfl := Option.some.inj hm
     exact ⟨trivial, by kernel_rfl⟩
    ·
     refine cf h8 (by kernel_rfl) (wp_skip (sq (sq (detn [(19, aB (decide (a0 > a1)))] (by kernel_rfl) ?_))))
     rcases bif_some hm with ⟨h9, hm⟩ | ⟨h9, hm⟩
     ·
      refine ct h9 (by kernel_rfl) (sq (detn [(4, aI 1)] (by kernel_rfl) (wp_ret ?_)))
      obtain rfl := Option.some.inj hm
      exact ⟨trivial, by kernel_rfl⟩
     ·
      refine cf h9 (by kernel_rfl) (wp_skip (sq (detn [(4, aI 0)] (by kernel_rfl) (wp_ret ?_))))
      obtain rfl := Option.some.inj hm
      exact ⟨trivial, by kernel_rfl⟩
theorem ok_value_Cmp {n : Nat} {a0 : api_Value} {a1 : api_Value} {r : Int} (hm : value_Cmp n a0 a1 = some r) :
    call G n 41 [.agg [aI a0.fKind, aI a0.fInt, aF a0.fFloat, aS a0.fText], .agg [aI a1.fKind, aI a1.fInt, aF a1.fFloat, aS a1.fText]] [] = some (.ret (aI r), []) := by
  unfold value_Cmp at hm
  obtain ⟨n, rfl, h0⟩ := at1_some hm
  replace hm := h0; clear h0
  refine callL 40 [(0, .agg [aI a0.fKind, aI a0.fInt, aF a0.fFloat, aS a0.fText]), (1, .agg [aI a1.fKind, aI a1.fInt, aF a1.fFloat, aS a1.fText])] func41 rfl (by kernel_rfl) (sq (det [(2, .ptr 0 0), (3, .ptr 1 0)] [.box [aI a0.fKind, aI a0.fInt, aF a0.fFloat, aS a0.fText] false, .box [aI a1.fKind, aI a1.fInt, aF a1.fFloat, aS a1.fText] false] (by kernel_rfl) (sq (rgd (shd 1 [(5, .agg [aI a0.fKind, aI a0.fInt, aF a0.fFloat, aS a0.fText])] (by kernel_rfl) ?_)))))
  obtain ⟨x1, h2, hm⟩ := bs hm
  refine dvd 6 (cpure (by kernel_rfl) (ok_value_Plain h2) (by kernel_rfl) (by kernel_rfl) (by kernel_rfl)) (by kernel_rfl) (shd 1 [(7, .agg [aI a1.fKind, aI a1.fInt, aF a1.fFloat, aS a1.fText])] (by kernel_rfl) ?_)
  obtain ⟨x3, h4, hm⟩ := bs hm
  refine dvd 8 (cpure (by kernel_rfl) (ok_value_Plain h4) (by kernel_rfl) (by kernel_rfl) (by kernel_rfl)) (by kernel_rfl) (std 2 [] [.box [aI x1.fKind, aI x1.fInt, aF x1.fFloat, aS x1.fText] false, .box [aI x3.fKind, aI x3.fInt, aF x3.fFloat, aS x3.fText] false] (by kernel_rfl) (find [(2, .ptr 0 0), (3, .ptr 1 0)] rfl (by kernel_rfl) (by kernel_rfl) ?_))
  refine sq (sq (detn [(2, .ptr 0 0), (3, .ptr 1 0), (13, aB (x1.fKind != x3.fKind))] (by kernel_rfl) ?_))
  rcases bif_some hm with ⟨h5, hm⟩ | ⟨h5, hm⟩
  ·
   refine ct h5 (by kernel_rfl) (sq (rg (sh 4 [(17, aI x3.fKind), (16, .ptr 1 0), (15, aI x1.fKind), (14, .ptr 0 0)] (by kernel_rfl) ?_)))
   obtain ⟨x6, h7, hm⟩ := bs hm
   refine dv 18 (cpure (by kernel_rfl) (ok_cmp_Compare_int h7) (by kernel_rfl) (by kernel_rfl) (by kernel_rfl)) (by kernel_rfl) (sh 1 [(4, aI x6)] (by kernel_rfl) (fin [(4, aI x6)] rfl (by kernel_rfl) (wp_ret ?_)))
   obtain rfl := Option.some.inj hm
   exact ⟨trivial, by kernel_rfl⟩
  ·
   refine cf h5 (by kernel_rfl) (wp_skip (sq (sq (detn [(2, .ptr 0 0), (3, .ptr 1 0), (20, aI x1.fKind)] (by kernel_rfl) (bq (sq (detn [(2, .ptr 0 0), (3, .ptr 1 0), (20, aI x1.fKind), (21, aB (x1.fKind == 3))] (by kernel_rfl) ?_)))))))
   rcases bif_some hm with ⟨h8, hm⟩ | ⟨h8, hm⟩
   ·
    refine ct h8 (by kernel_rfl) (sq (rg (sh 4 [(26, aF x3.fFloat), (25, .ptr 1 2), (24, aF x1.fFloat), (23, .ptr 0 2)] (by kernel_rfl) ?_)))
    obtain ⟨x9, h10, hm⟩ := bs hm
    refine dv 27 (cpure (by kernel_rfl) (ok_value_floats h10) (by kernel_rfl) (by kernel_rfl) (by kernel_rfl)) (by kernel_rfl) (sh 1 [(4, aI x9)] (by kernel_rfl) (fin [(4, aI x9)] rfl (by kernel_rfl) (wp_ret ?_)))
    obtain rfl := Option.some.inj hm
    exact ⟨trivial, by kernel_rfl⟩
   ·
    refine cf h8 (by kernel_rfl) (sq (detn [(2, .ptr 0 0), (3, .ptr 1 0), (28, aB (x1.fKind == 4))] (by kernel_rfl) ?_))
    rcases bif_some hm with ⟨h11, hm⟩ | ⟨h11, hm⟩
    ·
     refine ct h11 (by kernel_rfl) (sq (rg (sh 4 [(33, aS x3.fText), (32, .ptr 1 3), (31, aS x1.fText), (30, .ptr 0 3)] (by kernel_rfl) ?_)))
     obtain ⟨x12, h13, hm⟩ := bs hm
     refine dv 34 (cpure (by kernel_rfl) (ok_cmp_Compare_string h13) (by kernel_rfl) (by kernel_rfl) (by kernel_rfl)) (by kernel_rfl) (sh 1 [(4, aI x12)] (by kernel_rfl) (fin [(4, aI x12)] rfl (by kernel_rfl) (wp_ret ?_)))
     obtain rfl := Option.some.inj hm
     exact ⟨trivial, by kernel_rfl⟩
    ·
     refine cf h11 (by kernel_rfl) (wp_skip (sq (rg (sh 4 [(38, aI x3.fInt), (37, .ptr 1 1), (36, aI x1.fInt), (35, .ptr 0 1)] (by kernel_rfl) ?_))))
     obtain ⟨x14, h15, hm⟩ := bs hm
     refine dv 39 (cpure (by kernel_rfl) (ok_cmp_Compare_int64 h15) (by kernel_rfl) (by kernel_rfl) (by kernel_rfl)) (by kernel_rfl) (sh 1 [(4, aI x14)] (by kernel_rfl) (fin [(4, aI x14)] rfl (by kernel_rfl) (wp_ret ?_)))
     obtain rfl := Option.some.inj hm
     exact ⟨trivial, by kernel_rfl⟩
theorem ok_hist_sound {n : Nat} {a0 : hist_Bucket} {r : Bool} (hm : hist_sound n a0 = some r) :
    call G n 69 [.agg [aI a0.fLow.fKind, aI a0.fLow.fInt, aF a0.fLow.fFloat, aS a0.fLow.fText, aI a0.fHigh.fKind, aI a0.fHigh.fInt, aF a0.fHigh.fFloat, aS a0.fHigh.fText, aI a0.fCount, aI a0.fDistinct]] [] = some (.ret (aB r), []) := by
  unfold hist_sound at hm
  obtain ⟨n, rfl, h0⟩ := at1_some hm
  replace hm := h0; clear h0
  refine callL 60 [(0, .agg [aI a0.fLow.fKind, aI a0.fLow.fInt, aF a0.fLow.fFloat, aS a0.fLow.fText, aI a0.fHigh.fKind, aI a0.fHigh.fInt, aF a0.fHigh.fFloat, aS a0.fHigh.fText, aI a0.fCount, aI a0.fDistinct])] func69 rfl (by kernel_rfl) (sq (det [(1, .ptr 0 0)] [.box [aI a0.fLow.fKind, aI a0.fLow.fInt, aF a0.fLow.fFloat, aS a0.fLow.fText, aI a0.fHigh.fKind, aI a0.fHigh.fInt, aF a0.fHigh.fFloat, aS a0.fHigh.fText, aI a0.fCount, aI a0.fDistinct] false] (by kernel_rfl) ?_))
  refine sq (sq (rg (sh 2 [(5, .agg [aI a0.fLow.fKind, aI a0.fLow.fInt, aF a0.fLow.fFloat, aS a0.fLow.fText]), (4, .ptr 0 0)] (by kernel_rfl) ?_)))
  obtain ⟨x1, h2, hm⟩ := bs hm
  refine dv 6 (cpure (by kernel_rfl) (ok_hist_plain h2) (by kernel_rfl) (by kernel_rfl) (by kernel_rfl)) (by kernel_rfl) (sh 2 [(8, aB (!x1)), (7, aB (!x1))] (by kernel_rfl) ?_)
  rcases bif_some hm with ⟨h3, hm⟩ | ⟨h3, hm⟩
  ·
   refine known [8, 7] h3 (by kernel_rfl) (sh 14 [(22, aB true), (21, .undef), (20, .undef), (19, .undef), (18, .undef), (17, .undef), (16, .undef), (15, .undef), (14, aB true), (13, aB true), (12, .undef), (11, .undef), (10, .undef), (9, .undef)] (by kernel_rfl) (fin [(1, .ptr 0 0), (22, aB true)] rfl (by kernel_rfl) (cT (by kernel_rfl) (sq (detn [(2, aB false)] (by kernel_rfl) (wp_ret ?_))))))
   obtain rfl := Option.some.inj hm
   exact ⟨trivial, by kernel_rfl⟩
  ·
   refine known [8, 7] h3 (by kernel_rfl) (sh 2 [(10, .agg [aI a0.fHigh.fKind, aI a0.fHigh.fInt, aF a0.fHigh.fFloat, aS a0.fHigh.fText]), (9, .ptr 0 4)] (by kernel_rfl) ?_)
   obtain ⟨x4, h5, hm⟩ := bs hm
   refine dv 11 (cpure (by kernel_rfl) (ok_hist_plain h5) (by kernel_rfl) (by kernel_rfl) (by kernel_rfl)) (by kernel_rfl) (sh 3 [(14, aB (!x4)), (13, aB (!x4)), (12, aB (!x4))] (by kernel_rfl) ?_)
   refine seg (!x4) [14, 13, 12] (fun b => [(22, aB (b || (a0.fLow.fKind != a0.fHigh.fKind))), (21, ifA b (.undef) (aB (a0.fLow.fKind != a0.fHigh.fKind))), (20, ifA b (.undef) (aI a0.fHigh.fKind)), (19, ifA b (.undef) (.ptr 0 4)), (18, ifA b (.undef) (.ptr 0 4)), (17, ifA b (.undef) (aI a0.fLow.fKind)), (16, ifA b (.undef) (.ptr 0 0)), (15, ifA b (.undef) (.ptr 0 0))]) 19 (by kernel_rfl) ?_ ?_ ?_
   ·
    intro Q h
    refine sh 8 [(22, aB true), (21, .undef), (20, .undef), (19, .undef), (18, .undef), (17, .undef), (16, .undef), (15, .undef)] (by kernel_rfl) ?_
    exact sameN (by kernel_rfl) (by kernel_rfl) h
   ·
    intro Q h
    refine sh 8 [(22, aB (a0.fLow.fKind != a0.fHigh.fKind)), (21, aB (a0.fLow.fKind != a0.fHigh.fKind)), (20, aI a0.fHigh.fKind), (19, .ptr 0 4), (18, .ptr 0 4), (17, aI a0.fLow.fKind), (16, .ptr 0 0), (15, .ptr 0 0)] (by kernel_rfl) ?_
    exact sameN (by kernel_rfl) (by kernel_rfl) h
   refine fin [(1, .ptr 0 0), (22, aB ((!x4) || (a0.fLow.fKind != a0.fHigh.fKind)))] rfl (by kernel_rfl) ?_
   rcases bif_some hm with ⟨h6, hm⟩ | ⟨h6, hm⟩
   ·
    refine ct h6 (by kernel_rfl) (sq (detn [(2, aB false)] (by kernel_rfl) (wp_ret ?_)))
    obtain rfl := Option.some.inj hm
    exact ⟨trivial, by kernel_rfl⟩
   ·
    refine cf h6 (by kernel_rfl) (wp_skip (sq (rg (sh 4 [(26, .agg [aI a0.fHigh.fKind, aI a0.fHigh.fInt, aF a0.fHigh.fFloat, aS a0.fHigh.fText]), (25, .ptr 0 4), (24, .agg [aI a0.fLow.fKind, aI a0.fLow.fInt, aF a0.fLow.fFloat, aS a0.fLow.fText]), (23, .ptr 0 0)] (by kernel_rfl) ?_))))
    obtain ⟨x7, h8, hm⟩ := bs hm
    refine dv 27 (cpure (by kernel_rfl) (ok_value_Cmp h8) (by kernel_rfl) (by kernel_rfl) (by kernel_rfl)) (by kernel_rfl) (sh 1 [(3, aI x7)] (by kernel_rfl) (fin [(1, .ptr 0 0), (3, aI x7)] rfl (by kernel_rfl) (sq (rg (sh 3 [(30, aB (decide (x7 ≤ 0))), (29, aB (decide (x7 ≤ 0))), (28, aI x7)] (by kernel_rfl) ?_)))))
    refine seg (decide (x7 ≤ 0)) [30, 29] (fun b => [(34, aB (b && (decide (a0.fCount ≥ 1)))), (33, ifA b (aB (decide (a0.fCount ≥ 1))) (.undef)), (32, ifA b (aI a0.fCount) (.undef)), (31, ifA b (.ptr 0 8) (.undef))]) 7 (by kernel_rfl) ?_ ?_ ?_
    ·
     intro Q h
     refine sh 4 [(34, aB (decide (a0.fCount ≥ 1))), (33, aB (decide (a0.fCount ≥ 1))), (32, aI a0.fCount), (31, .ptr 0 8)] (by kernel_rfl) ?_
     exact sameN (by kernel_rfl) (by kernel_rfl) h
    ·
     intro Q h
     refine sh 4 [(34, aB false), (33, .undef), (32, .undef), (31, .undef)] (by kernel_rfl) ?_
     exact sameN (by kernel_rfl) (by kernel_rfl) h
    refine sh 1 [(35, aB ((decide (x7 ≤ 0)) && (decide (a0.fCount ≥ 1))))] (by kernel_rfl) ?_
    refine seg ((decide (x7 ≤ 0)) && (decide (a0.fCount ≥ 1))) [35, 34] (fun b => [(39, aB (b && (decide (a0.fCount ≤ 1000000)))), (38, ifA b (aB (decide (a0.fCount ≤ 1000000))) (.undef)), (37, ifA b (aI a0.fCount) (.undef)), (36, ifA b (.ptr 0 8) (.undef))]) 12 (by kernel_rfl) ?_ ?_ ?_
    ·
     intro Q h
     refine sh 4 [(39, aB (decide (a0.fCount ≤ 1000000))), (38, aB (decide (a0.fCount ≤ 1000000))), (37, aI a0.fCount), (36, .ptr 0 8)] (by kernel_rfl) ?_
     exact sameN (by kernel_rfl) (by kernel_rfl) h
    ·
     intro Q h
     refine sh 4 [(39, aB false), (38, .undef), (37, .undef), (36, .undef)] (by kernel_rfl) ?_
     exact sameN (by kernel_rfl) (by kernel_rfl) h
    refine sh 1 [(40, aB (((decide (x7 ≤ 0)) && (decide (a0.fCount ≥ 1))) && (decide (a0.fCount ≤ 1000000))))] (by kernel_rfl) ?_
    refine seg (((decide (x7 ≤ 0)) && (decide (a0.fCount ≥ 1))) && (decide (a0.fCount ≤ 1000000))) [40, 39] (fun b => [(44, aB (b && (decide (a0.fDistinct ≥ 1)))), (43, ifA b (aB (decide (a0.fDistinct ≥ 1))) (.undef)), (42, ifA b (aI a0.fDistinct) (.undef)), (41, ifA b (.ptr 0 9) (.undef))]) 17 (by kernel_rfl) ?_ ?_ ?_
    ·
     intro Q h
     refine sh 4 [(44, aB (decide (a0.fDistinct ≥ 1))), (43, aB (decide (a0.fDistinct ≥ 1))), (42, aI a0.fDistinct), (41, .ptr 0 9)] (by kernel_rfl) ?_
     exact sameN (by kernel_rfl) (by kernel_rfl) h
    ·
     intro Q h
     refine sh 4 [(44, aB false), (43, .undef), (42, .undef), (41, .undef)] (by kernel_rfl) ?_
     exact sameN (by kernel_rfl) (by kernel_rfl) h
    refine sh 1 [(45, aB ((((decide (x7 ≤ 0)) && (decide (a0.fCount ≥ 1))) && (decide (a0.fCount ≤ 1000000))) && (decide (a0.fDistinct ≥ 1))))] (by kernel_rfl) ?_
    refine seg ((((decide (x7 ≤ 0)) && (decide (a0.fCount ≥ 1))) && (decide (a0.fCount ≤ 1000000))) && (decide (a0.fDistinct ≥ 1))) [45, 44] (fun b => [(51, aB (b && (decide (a0.fDistinct ≤ a0.fCount)))), (50, ifA b (aB (decide (a0.fDistinct ≤ a0.fCount))) (.undef)), (49, ifA b (aI a0.fCount) (.undef)), (48, ifA b (.ptr 0 8) (.undef)), (47, ifA b (aI a0.fDistinct) (.undef)), (46, ifA b (.ptr 0 9) (.undef))]) 24 (by kernel_rfl) ?_ ?_ ?_
    ·
     intro Q h
     refine sh 6 [(51, aB (decide (a0.fDistinct ≤ a0.fCount))), (50, aB (decide (a0.fDistinct ≤ a0.fCount))), (49, aI a0.fCount), (48, .ptr 0 8), (47, aI a0.fDistinct), (46, .ptr 0 9)] (by kernel_rfl) ?_
     exact sameN (by kernel_rfl) (by kernel_rfl) h
    ·
     intro Q h
     refine sh 6 [(51, aB false), (50, .undef), (49, .undef), (48, .undef), (47, .undef), (46, .undef)] (by kernel_rfl) ?_
     exact sameN (by kernel_rfl) (by kernel_rfl) h
    refine sh 1 [(52, aB (((((decide (x7 ≤ 0)) && (decide (a0.fCount ≥ 1))) && (decide (a0.fCount ≤ 1000000))) && (decide (a0.fDistinct ≥ 1))) && (decide (a0.fDistinct ≤ a0.fCount))))] (by kernel_rfl) ?_
    refine seg (((((decide (x7 ≤ 0)) && (decide (a0.fCount ≥ 1))) && (decide (a0.fCount ≤ 1000000))) && (decide (a0.fDistinct ≥ 1))) && (decide (a0.fDistinct ≤ a0.fCount))) [52, 51] (fun b => [(59, aB (b && ((x7 == 0) == (a0.fDistinct == 1)))), (58, ifA b (aB ((x7 == 0) == (a0.fDistinct == 1))) (.undef)), (57, ifA b (aB (a0.fDistinct == 1)) (.undef)), (56, ifA b (aI a0.fDistinct) (.undef)), (55, ifA b (.ptr 0 9) (.undef)), (54, ifA b (aB (x7 == 0)) (.undef)), (53, ifA b (aI x7) (.undef))]) 32 (by kernel_rfl) ?_ ?_ ?_
    ·
     intro Q h
     refine sh 7 [(59, aB ((x7 == 0) == (a0.fDistinct == 1))), (58, aB ((x7 == 0) == (a0.fDistinct == 1))), (57, aB (a0.fDistinct == 1)), (56, aI a0.fDistinct), (55, .ptr 0 9), (54, aB (x7 == 0)), (53, aI x7)] (by kernel_rfl) ?_
     exact sameN (by kernel_rfl) (by kernel_rfl) h
    ·
     intro Q h
     refine sh 7 [(59, aB false), (58, .undef), (57, .undef), (56, .undef), (55, .undef), (54, .undef), (53, .undef)] (by kernel_rfl) ?_
     exact sameN (by kernel_rfl) (by kernel_rfl) h
    refine sh 1 [(2, aB ((((((decide (x7 ≤ 0)) && (decide (a0.fCount ≥ 1))) && (decide (a0.fCount ≤ 1000000))) && (decide (a0.fDistinct ≥ 1))) && (decide (a0.fDistinct ≤ a0.fCount))) && ((x7 == 0) == (a0.fDistinct == 1))))] (by kernel_rfl) (fin [(2, aB ((((((decide (x7 ≤ 0)) && (decide (a0.fCount ≥ 1))) && (decide (a0.fCount ≤ 1000000))) && (decide (a0.fDistinct ≥ 1))) && (decide (a0.fDistinct ≤ a0.fCount))) && ((x7 == 0) == (a0.fDistinct == 1))))] rfl (by kernel_rfl) (wp_ret ?_))
    obtain rfl := Option.some.inj hm
    exact ⟨trivial, by kernel_rfl⟩
theorem ok_hist_Right {n : Nat} {a0 : (Option (List hist_Bucket))} {r : Bool} (hm : hist_Right n a0 = some r) :
    call G n 32 [.pv (encSl R_hist_Bucket a0)] [] = some (.ret (aB r), []) := by
  unfold hist_Right at hm
  obtain ⟨n, rfl, h0⟩ := at1_some hm
  replace hm := h0; clear h0
  refine callL 46 [(0, .pv (encSl R_hist_Bucket a0))] func32 rfl (by kernel_rfl) (sq (detn [(0, .pv (encSl R_hist_Bucket a0))] (by kernel_rfl) ?_))
  refine sq (sq (rg (sh 1 [(5, .pv (encSl R_hist_Bucket a0))] (by kernel_rfl) (dv 6 (v := aI ((sll a0).length : Int)) (len_slO R_hist_Bucket a0 t53 (by kernel_rfl)) (by kernel_rfl) (sh 1 [(7, aB (decide (((sll a0).length : Int) > 50)))] (by kernel_rfl) (fin [(0, .pv (encSl R_hist_Bucket a0)), (7, aB (decide (((sll a0).length : Int) > 50)))] rfl (by kernel_rfl) ?_))))))
  rcases bif_some hm with ⟨h1, hm⟩ | ⟨h1, hm⟩
  ·
   refine ct h1 (by kernel_rfl) (sq (detn [(2, aB false)] (by kernel_rfl) (wp_ret ?_)))
   obtain rfl := Option.some.inj hm
   exact ⟨trivial, by kernel_rfl⟩
  ·
   refine cf h1 (by kernel_rfl) (wp_skip ?_)
   obtain ⟨k4, hk4, hm⟩ := withK_some hm
   refine mid (fun t H => (∃ (y2 : Int) (y3 : Bool), k4 () = some r ∧ t = mk 46 [(0, .pv (encSl R_hist_Bucket a0)), (8, .pv (encSl R_hist_Bucket a0)), (9, aI ((sll a0).length : Int)), (10, aI y2), (11, aB y3)] ∧ H = [])) ?_ ?_
   ·
    rintro _ _ ⟨y2, y3, hm, rfl, rfl⟩
    subst hk4
    refine sq (detn [(2, aB true)] (by kernel_rfl) (wp_ret ?_))
    obtain rfl := Option.some.inj hm
    exact ⟨trivial, by kernel_rfl⟩
   refine sq (rg (sh 1 [(8, .pv (encSl R_hist_Bucket a0))] (by kernel_rfl) (dv 9 (v := aI ((sll a0).length : Int)) (len_slO R_hist_Bucket a0 t53 (by kernel_rfl)) (by kernel_rfl) (sh 1 [(10, aI 0)] (by kernel_rfl) (fin [(0, .pv (encSl R_hist_Bucket a0)), (8, .pv (encSl R_hist_Bucket a0)), (9, aI ((sll a0).length : Int)), (10, aI 0)] rfl (by kernel_rfl) (bq ?_))))))
   refine loopF (fun mm t H => (∃ (y6 : Int), hist_Right_l4 n a0 k4 mm y6 = some r ∧ t = mk 46 [(0, .pv (encSl R_hist_Bucket a0)), (8, .pv (encSl R_hist_Bucket a0)), (9, aI ((sll a0).length : Int)), (10, aI y6)] ∧ H = [])) (⟨0, hm, rfl, rfl⟩) ?_ ?_
   · rintro _ _ ⟨y6, hm, _⟩; exact nomatch hm
   rintro m7 _ _ ⟨y6, hm, rfl, rfl⟩
   simp only [hist_Right_l4] at hm
   refine sq (detn [(0, .pv (encSl R_hist_Bucket a0)), (8, .pv (encSl R_hist_Bucket a0)), (9, aI ((sll a0).length : Int)), (10, aI y6), (11, aB (decide (y6 < ((sll a0).length : Int))))] (by kernel_rfl) ?_)
   refine sq ?_
   rcases bif_some hm with ⟨h8, hm⟩ | ⟨h8, hm⟩
   ·
    refine ct h8 (by kernel_rfl) (wp_skip (sq (bq (sq (rg (sh 1 [(12, aI y6)] (by kernel_rfl) ?_))))))
    obtain ⟨x9, h10, hm⟩ := bs hm
    refine dv 13 (v := .pv (.ptr (R_hist_Bucket x9) 0)) (ia_slO R_hist_Bucket a0 .i64 t53 t77 h10 rfl (by kernel_rfl)) (by kernel_rfl) (st 4 [(3, aI y6), (4, .ptr 0 0), (14, .agg [aI x9.fLow.fKind, aI x9.fLow.fInt, aF x9.fLow.fFloat, aS x9.fLow.fText, aI x9.fHigh.fKind, aI x9.fHigh.fInt, aF x9.fHigh.fFloat, aS x9.fHigh.fText, aI x9.fCount, aI x9.fDistinct])] [.box [aI x9.fLow.fKind, aI x9.fLow.fInt, aF x9.fLow.fFloat, aS x9.fLow.fText, aI x9.fHigh.fKind, aI x9.fHigh.fInt, aF x9.fHigh.fFloat, aS x9.fHigh.fText, aI x9.fCount, aI x9.fDistinct] false] (by kernel_rfl) (fin [(0, .pv (encSl R_hist_Bucket a0)), (3, aI y6), (4, .ptr 0 0), (8, .pv (encSl R_hist_Bucket a0)), (9, aI ((sll a0).length : Int)), (10, aI y6)] rfl (by kernel_rfl) (sq (rgd (shd 1 [(15, .agg [aI x9.fLow.fKind, aI x9.fLow.fInt, aF x9.fLow.fFloat, aS x9.fLow.fText, aI x9.fHigh.fKind, aI x9.fHigh.fInt, aF x9.fHigh.fFloat, aS x9.fHigh.fText, aI x9.fCount, aI x9.fDistinct])] (by kernel_rfl) ?_)))))
    obtain ⟨x11, h12, hm⟩ := bs hm
    refine dvd 16 (cpure (by kernel_rfl) (ok_hist_sound h12) (by kernel_rfl) (by kernel_rfl) (by kernel_rfl)) (by kernel_rfl) (shd 2 [(18, aB (!x11)), (17, aB (!x11))] (by kernel_rfl) ?_)
    rcases bif_some hm with ⟨h13, hm⟩ | ⟨h13, hm⟩
    ·
     refine knownd [18, 17] h13 (by kernel_rfl) (shd 26 [(44, aB true), (43, .undef), (42, .undef), (41, .undef), (40, .undef), (39, .undef), (38, .undef), (37, .undef), (36, .undef), (35, .undef), (34, .undef), (33, .undef), (32, .undef), (31, .undef), (30, .undef), (29, .undef), (28, .undef), (27, .undef), (26, .undef), (25, .undef), (24, .undef), (23, .undef), (22, .undef), (21, .undef), (20, .undef), (19, .undef)] (by kernel_rfl) (find [(0, .pv (encSl R_hist_Bucket a0)), (8, .pv (encSl R_hist_Bucket a0)), (9, aI ((sll a0).length : Int)), (10, aI y6), (44, aB true)] rfl (by kernel_rfl) (by kernel_rfl) (cT (by kernel_rfl) (sq (detn [(2, aB false)] (by kernel_rfl) (wp_ret ?_))))))
     obtain rfl := Option.some.inj hm
     exact ⟨trivial, by kernel_rfl⟩
    ·
     refine knownd [18, 17] h13 (by kernel_rfl) (shd 3 [(21, aB (decide (y6 > 0))), (20, aB (decide (y6 > 0))), (19, aI y6)] (by kernel_rfl) ?_)
     rcases bif_some hm with ⟨h14, hm⟩ | ⟨h14, hm⟩
     ·
      refine knownd [21, 20] h14 (by kernel_rfl) (shd 4 [(25, .pv (encSl R_hist_Bucket a0)), (24, aI x9.fLow.fKind), (23, .ptr 0 0), (22, .ptr 0 0)] (by kernel_rfl) ?_)
      obtain ⟨x15, h16, hm⟩ := bs hm
      refine dvd 26 (v := .pv (.ptr (R_hist_Bucket x15) 0)) (ia_slO R_hist_Bucket a0 .i64 t53 t77 h16 rfl (by kernel_rfl)) (by kernel_rfl) (shd 5 [(31, aB (x9.fLow.fKind != x15.fLow.fKind)), (30, aB (x9.fLow.fKind != x15.fLow.fKind)), (29, aI x15.fLow.fKind), (28, .pv (.ptr (R_hist_Bucket x15) 0)), (27, .pv (.ptr (R_hist_Bucket x15) 0))] (by kernel_rfl) ?_)
      rcases bif_some hm with ⟨h17, hm⟩ | ⟨h17, hm⟩
      ·
       refine knownd [31, 30] h17 (by kernel_rfl) (shd 13 [(44, aB true), (43, aB true), (42, aB true), (41, .undef), (40, .undef), (39, .undef), (38, .undef), (37, .undef), (36, .undef), (35, .undef), (34, .undef), (33, .undef), (32, .undef)] (by kernel_rfl) (find [(0, .pv (encSl R_hist_Bucket a0)), (8, .pv (encSl R_hist_Bucket a0)), (9, aI ((sll a0).length : Int)), (10, aI y6), (44, aB true)] rfl (by kernel_rfl) (by kernel_rfl) (cT (by kernel_rfl) (sq (detn [(2, aB false)] (by kernel_rfl) (wp_ret ?_))))))
       obtain rfl := Option.some.inj hm
       exact ⟨trivial, by kernel_rfl⟩
      ·
       refine knownd [31, 30] h17 (by kernel_rfl) (shd 3 [(34, aI (IntKind.wrap .i64 (y6 - 1))), (33, aI y6), (32, .pv (encSl R_hist_Bucket a0))] (by kernel_rfl) ?_)
       obtain ⟨x18, h19, hm⟩ := bs hm
       refine dvd 35 (v := .pv (.ptr (R_hist_Bucket x18) 0)) (ia_slO R_hist_Bucket a0 .i64 t53 t77 h19 rfl (by kernel_rfl)) (by kernel_rfl) (shd 4 [(39, .agg [aI x9.fLow.fKind, aI x9.fLow.fInt, aF x9.fLow.fFloat, aS x9.fLow.fText]), (38, .ptr 0 0), (37, .agg [aI x18.fHigh.fKind, aI x18.fHigh.fInt, aF x18.fHigh.fFloat, aS x18.fHigh.fText]), (36, .pv (.ptr (R_hist_Bucket x18) 4))] (by kernel_rfl) ?_)
       obtain ⟨x20, h21, hm⟩ := bs hm
       refine dvd 40 (cpure (by kernel_rfl) (ok_value_Cmp h21) (by kernel_rfl) (by kernel_rfl) (by kernel_rfl)) (by kernel_rfl) (shd 4 [(44, aB (decide (x20 ≥ 0))), (43, aB (decide (x20 ≥ 0))), (42, aB (decide (x20 ≥ 0))), (41, aB (decide (x20 ≥ 0)))] (by kernel_rfl) (find [(0, .pv (encSl R_hist_Bucket a0)), (8, .pv (encSl R_hist_Bucket a0)), (9, aI ((sll a0).length : Int)), (10, aI y6), (44, aB (decide (x20 ≥ 0)))] rfl (by kernel_rfl) (by kernel_rfl) ?_))
       rcases bif_some hm with ⟨h22, hm⟩ | ⟨h22, hm⟩
       ·
        refine ct h22 (by kernel_rfl) (sq (detn [(2, aB false)] (by kernel_rfl) (wp_ret ?_)))
        obtain rfl := Option.some.inj hm
        exact ⟨trivial, by kernel_rfl⟩
       ·
        refine cf h22 (by kernel_rfl) (wp_skip (detn [(0, .pv (encSl R_hist_Bucket a0)), (8, .pv (encSl R_hist_Bucket a0)), (9, aI ((sll a0).length : Int)), (10, aI (IntKind.wrap .i64 (y6 + 1)))] (by kernel_rfl) ?_))
        exact ⟨_, _, tidyL [(0, .pv (encSl R_hist_Bucket a0)), (8, .pv (encSl R_hist_Bucket a0)), (9, aI ((sll a0).length : Int)), (10, aI (IntKind.wrap .i64 (y6 + 1)))] [] (by kernel_rfl), ⟨(IntKind.wrap .i64 (y6 + 1)), hm, rfl, rfl⟩⟩
     ·
      refine knownd [21, 20] h14 (by kernel_rfl) (shd 23 [(44, aB false), (43, aB false), (42, .undef), (41, .undef), (40, .undef), (39, .undef), (38, .undef), (37, .undef), (36, .undef), (35, .undef), (34, .undef), (33, .undef), (32, .undef), (31, .undef), (30, .undef), (29, .undef), (28, .undef), (27, .undef), (26, .undef), (25, .undef), (24, .undef), (23, .undef), (22, .undef)] (by kernel_rfl) (find [(0, .pv (encSl R_hist_Bucket a0)), (8, .pv (encSl R_hist_Bucket a0)), (9, aI ((sll a0).length : Int)), (10, aI y6), (44, aB false)] rfl (by kernel_rfl) (by kernel_rfl) (cF (by kernel_rfl) (wp_skip (detn [(0, .pv (encSl R_hist_Bucket a0)), (8, .pv (encSl R_hist_Bucket a0)), (9, aI ((sll a0).length : Int)), (10, aI (IntKind.wrap .i64 (y6 + 1)))] (by kernel_rfl) ?_)))))
      exact ⟨_, _, tidyL [(0, .pv (encSl R_hist_Bucket a0)), (8, .pv (encSl R_hist_Bucket a0)), (9, aI ((sll a0).length : Int)), (10, aI (IntKind.wrap .i64 (y6 + 1)))] [] (by kernel_rfl), ⟨(IntKind.wrap .i64 (y6 + 1)), hm, rfl, rfl⟩⟩
   ·
    refine cf h8 (by kernel_rfl) (wp_exit ?_)
    exact ⟨y6, (decide (y6 < ((sll a0).length : Int))), hm, rfl, rfl⟩
theorem ok_codec_PutUint_nil {n : Nat} {a0 : Int} {r : (List Int)} (hm : codec_PutUint_nil n a0 = some r) :
    ∃ vv H1, call G n 82 [.pv .nils, aU a0] [] = some (.ret vv, H1) ∧ (match r with | r0 => (vv = aR 0 1 r0.length ∧ H1 = [bR 5 1 (rI .u8) r0 0 0])) := by
  unfold codec_PutUint_nil at hm
  obtain ⟨n, rfl, h0⟩ := at1_some hm
  replace hm := h0; clear h0
  refine callE 20 [(0, .pv .nils), (1, aU a0)] func82 rfl (by kernel_rfl) (sq (detn [(0, .pv .nils), (1, aU a0)] (by kernel_rfl) ?_))
  obtain ⟨k4, hk4, hm⟩ := withK_some hm
  refine mid (fun t H => (∃ (y3 : Int) (w1 : AV), k4 none y3 = some r ∧ t = mk 20 [(0, .pv .nils), (1, aU y3), (6, w1)] ∧ H = []) ∨ (∃ (y2 : (List Int)) (y3 : Int) (w1 : AV), k4 (some y2) y3 = some r ∧ t = mk 20 [(0, aR 0 1 y2.length), (1, aU y3), (6, w1)] ∧ H = [bR 5 1 (rI .u8) y2 0 0])) ?_ ?_
  ·
   rintro _ _ (⟨y3, w1, hm, rfl, rfl⟩ | ⟨y2, y3, w1, hm, rfl, rfl⟩)
   ·
    subst hk4
    refine sq (rg (st 4 [(18, aR 0 1 1), (17, aY (IntKind.wrap .u8 y3)), (16, aU y3), (15, .pv .nils)] [bR 5 1 (rI .u8) ([(IntKind.wrap .u8 y3)] : List Int) 0 0] (by kernel_rfl) ?_))
    obtain ⟨_, h5, hm⟩ := bs hm
    refine dO [(19, aR 1 1 (([(IntKind.wrap .u8 y3)] : List Int).length))] [bR 5 1 (rI .u8) ([(IntKind.wrap .u8 y3)] : List Int) 0 0, bR 5 1 (rI .u8) ([(IntKind.wrap .u8 y3)] : List Int) 0 0] (app_nilO (u := 0) (rI .u8) ([(IntKind.wrap .u8 y3)] : List Int) (b := 1) t43 t5 rfl rfl rfl (fun _ => rfl) rfl h5 (show srcRows (aR 0 1 1) _ = some (([(IntKind.wrap .u8 y3)] : List Int).map (rI .u8)) from by kernel_rfl) (by kernel_rfl)) (by kernel_rfl) (sh 1 [(4, aR 1 1 (([(IntKind.wrap .u8 y3)] : List Int).length))] (by kernel_rfl) (fin [(4, aR 1 1 (([(IntKind.wrap .u8 y3)] : List Int).length))] rfl (by kernel_rfl) (wp_ret ?_)))
    obtain rfl := Option.some.inj hm
    exact ⟨trivial, aR 0 1 (([(IntKind.wrap .u8 y3)] : List Int).length), [bR 5 1 (rI .u8) ([(IntKind.wrap .u8 y3)] : List Int) 0 0], by kernel_rfl, rfl, rfl⟩
   ·
    subst hk4
    refine sq (rg (st 4 [(18, aR 1 1 1), (17, aY (IntKind.wrap .u8 y3)), (16, aU y3), (15, aR 0 1 y2.length)] [bR 5 1 (rI .u8) y2 0 0, bR 5 1 (rI .u8) ([(IntKind.wrap .u8 y3)] : List Int) 0 0] (by kernel_rfl) ?_))
    obtain ⟨_, h6, hm⟩ := bs hm
    refine dO [(19, aR 0 1 ((y2 ++ ([(IntKind.wrap .u8 y3)] : List Int)).length))] [bR 5 1 (rI .u8) (y2 ++ ([(IntKind.wrap .u8 y3)] : List Int)) 0 0, bR 5 1 (rI .u8) ([(IntKind.wrap .u8 y3)] : List Int) 0 0] (app_refO (u := 0) (n := y2.length) (id := 0) (rI .u8) y2 ([(IntKind.wrap .u8 y3)] : List Int) (b := 1) t43 t5 rfl rfl rfl (fun _ => rfl) rfl h6 rfl rfl (Nat.zero_le _) (show srcRows (aR 1 1 1) _ = some (([(IntKind.wrap .u8 y3)] : List Int).map (rI .u8)) from by kernel_rfl) (by kernel_rfl)) (by kernel_rfl) (sh 1 [(4, aR 0 1 ((y2 ++ ([(IntKind.wrap .u8 y3)] : List Int)).length))] (by kernel_rfl) (fin [(4, aR 0 1 ((y2 ++ ([(IntKind.wrap .u8 y3)] : List Int)).length))] rfl (by kernel_rfl) (wp_ret ?_)))
    obtain rfl := Option.some.inj hm
    exact ⟨trivial, aR 0 1 ((y2 ++ ([(IntKind.wrap .u8 y3)] : List Int)).length), [bR 5 1 (rI .u8) (y2 ++ ([(IntKind.wrap .u8 y3)] : List Int)) 0 0], by kernel_rfl, rfl, rfl⟩
  refine bq ?_
  refine loopF (fun mm t H => (∃ (y12 : Int), codec_PutUint_nil_l1 n k4 mm none y12 = some r ∧ t = mk 20 [(0, .pv .nils), (1, aU y12)] ∧ H = []) ∨ (∃ (y11 : (List Int)) (y12 : Int), codec_PutUint_nil_l1 n k4 mm (some y11) y12 = some r ∧ t = mk 20 [(0, aR 0 1 y11.length), (1, aU y12)] ∧ H = [bR 5 1 (rI .u8) y11 0 0])) (.inl ⟨a0, hm, rfl, rfl⟩) ?_ ?_
  · rintro _ _ (⟨y12, hm, _⟩ | ⟨y11, y12, hm, _⟩) <;> exact nomatch hm
  rintro m13 _ _ (⟨y12, hm, rfl, rfl⟩ | ⟨y11, y12, hm, rfl, rfl⟩)
  ·
   simp only [codec_PutUint_nil_l1] at hm
   refine sq (sq (detn [(0, .pv .nils), (1, aU y12), (6, aB (decide (y12 ≥ 128)))] (by kernel_rfl) ?_))
   rcases bif_some hm with ⟨h14, hm⟩ | ⟨h14, hm⟩
   ·
    refine ct h14 (by kernel_rfl) (wp_skip (bq (sq (rg (st 5 [(11, aR 0 1 1), (10, aY (iOr .u8 (IntKind.wrap .u8 y12) 128)), (9, aY (IntKind.wrap .u8 y12)), (8, aU y12), (7, .pv .nils)] [bR 5 1 (rI .u8) ([(iOr .u8 (IntKind.wrap .u8 y12) 128)] : List Int) 0 0] (by kernel_rfl) ?_)))))
    obtain ⟨_, h15, hm⟩ := bs hm
    refine dO [(12, aR 1 1 (([(iOr .u8 (IntKind.wrap .u8 y12) 128)] : List Int).length))] [bR 5 1 (rI .u8) ([(iOr .u8 (IntKind.wrap .u8 y12) 128)] : List Int) 0 0, bR 5 1 (rI .u8) ([(iOr .u8 (IntKind.wrap .u8 y12) 128)] : List Int) 0 0] (app_nilO (u := 0) (rI .u8) ([(iOr .u8 (IntKind.wrap .u8 y12) 128)] : List Int) (b := 1) t43 t5 rfl rfl rfl (fun _ => rfl) rfl h15 (show srcRows (aR 0 1 1) _ = some (([(iOr .u8 (IntKind.wrap .u8 y12) 128)] : List Int).map (rI .u8)) from by kernel_rfl) (by kernel_rfl)) (by kernel_rfl) (sh 1 [(0, aR 1 1 (([(iOr .u8 (IntKind.wrap .u8 y12) 128)] : List Int).length))] (by kernel_rfl) (fin [(0, aR 1 1 (([(iOr .u8 (IntKind.wrap .u8 y12) 128)] : List Int).length)), (1, aU y12)] rfl (by kernel_rfl) (detn [(0, aR 1 1 (([(iOr .u8 (IntKind.wrap .u8 y12) 128)] : List Int).length)), (1, aU (iShr .u64 y12 7))] (by kernel_rfl) ?_)))
    exact ⟨_, _, tidyL [(0, aR 0 1 (([(iOr .u8 (IntKind.wrap .u8 y12) 128)] : List Int).length)), (1, aU (iShr .u64 y12 7))] [bR 5 1 (rI .u8) ([(iOr .u8 (IntKind.wrap .u8 y12) 128)] : List Int) 0 0] (by kernel_rfl), .inr (⟨([(iOr .u8 (IntKind.wrap .u8 y12) 128)] : List Int), (iShr .u64 y12 7), hm, rfl, rfl⟩)⟩
   ·
    refine cf h14 (by kernel_rfl) (wp_exit ?_)
    exact .inl ⟨y12, aB (decide (y12 ≥ 128)), hm, (mk_same (by kernel_rfl)), rfl⟩
  ·
   simp only [codec_PutUint_nil_l1] at hm
   refine sq (sq (detn [(0, aR 0 1 y11.length), (1, aU y12), (6, aB (decide (y12 ≥ 128)))] (by kernel_rfl) ?_))
   rcases bif_some hm with ⟨h16, hm⟩ | ⟨h16, hm⟩
   ·
    refine ct h16 (by kernel_rfl) (wp_skip (bq (sq (rg (st 5 [(11, aR 1 1 1), (10, aY (iOr .u8 (IntKind.wrap .u8 y12) 128)), (9, aY (IntKind.wrap .u8 y12)), (8, aU y12), (7, aR 0 1 y11.length)] [bR 5 1 (rI .u8) y11 0 0, bR 5 1 (rI .u8) ([(iOr .u8 (IntKind.wrap .u8 y12) 128)] : List Int) 0 0] (by kernel_rfl) ?_)))))
    obtain ⟨_, h17, hm⟩ := bs hm
    refine dO [(12, aR 0 1 ((y11 ++ ([(iOr .u8 (IntKind.wrap .u8 y12) 128)] : List Int)).length))] [bR 5 1 (rI .u8) (y11 ++ ([(iOr .u8 (IntKind.wrap .u8 y12) 128)] : List Int)) 0 0, bR 5 1 (rI .u8) ([(iOr .u8 (IntKind.wrap .u8 y12) 128)] : List Int) 0 0] (app_refO (u := 0) (n := y11.length) (id := 0) (rI .u8) y11 ([(iOr .u8 (IntKind.wrap .u8 y12) 128)] : List Int) (b := 1) t43 t5 rfl rfl rfl (fun _ => rfl) rfl h17 rfl rfl (Nat.zero_le _) (show srcRows (aR 1 1 1) _ = some (([(iOr .u8 (IntKind.wrap .u8 y12) 128)] : List Int).map (rI .u8)) from by kernel_rfl) (by kernel_rfl)) (by kernel_rfl) (sh 1 [(0, aR 0 1 ((y11 ++ ([(iOr .u8 (IntKind.wrap .u8 y12) 128)] : List Int)).length))] (by kernel_rfl) (fin [(0, aR 0 1 ((y11 ++ ([(iOr .u8 (IntKind.wrap .u8 y12) 128)] : List Int)).length)), (1, aU y12)] rfl (by kernel_rfl) (detn [(0, aR 0 1 ((y11 ++ ([(iOr .u8 (IntKind.wrap .u8 y12) 128)] : List Int)).length)), (1, aU (iShr .u64 y12 7))] (by kernel_rfl) ?_)))
    exact ⟨_, _, tidyL [(0, aR 0 1 ((y11 ++ ([(iOr .u8 (IntKind.wrap .u8 y12) 128)] : List Int)).length)), (1, aU (iShr .u64 y12 7))] [bR 5 1 (rI .u8) (y11 ++ ([(iOr .u8 (IntKind.wrap .u8 y12) 128)] : List Int)) 0 0] (by kernel_rfl), .inr (⟨(y11 ++ ([(iOr .u8 (IntKind.wrap .u8 y12) 128)] : List Int)), (iShr .u64 y12 7), hm, rfl, rfl⟩)⟩
   ·
    refine cf h16 (by kernel_rfl) (wp_exit ?_)
    exact .inr (⟨y11, y12, aB (decide (y12 ≥ 128)), hm, (mk_same (by kernel_rfl)), rfl⟩)
theorem ok_codec_PutUint_r (m0 : Nat) (f0 : Nat) {n : Nat} {a0 : (List Int)} {a1 : Int} {r : (List Int)} (hm0 : a0.length = m0) (hf0 : f0 ≤ a0.length) (hm : codec_PutUint_r n a0 a1 = some r) :
    ∃ vv H1, call G n 82 [aR 0 1 m0, aU a1] [bR 5 1 (rI .u8) a0 f0 0] = some (.ret vv, H1) ∧ (match r with | r0 => (∃ (e1 : Nat), e1 ≤ r0.length ∧ vv = aR 0 1 r0.length ∧ H1 = [bR 5 1 (rI .u8) r0 e1 0])) := by
  unfold codec_PutUint_r at hm
  obtain ⟨n, rfl, h0⟩ := at1_some hm
  replace hm := h0; clear h0
  refine callE 20 [(0, aR 0 1 m0), (1, aU a1)] func82 rfl (by kernel_rfl) (sq (detn [(0, aR 0 1 m0), (1, aU a1)] (by kernel_rfl) ?_))
  obtain ⟨k8, hk8, hm⟩ := withK_some hm
  refine mid (fun t H => (∃ (y1 : (List Int)) (y2 : Int) (y3 : Bool) (g4 : Nat) (g6 : Nat), k8 y1 y2 = some r ∧ t = mk 20 [(0, aR 0 1 g4), (1, aU y2), (6, aB y3)] ∧ H = [bR 5 1 (rI .u8) y1 g6 0] ∧ y1.length = g4 ∧ g6 ≤ y1.length)) ?_ ?_
  ·
   rintro _ _ ⟨y1, y2, y3, g4, g6, hm, rfl, rfl, q5, q7⟩
   subst hk8
   refine sq (rg (st 4 [(18, aR 1 1 1), (17, aY (IntKind.wrap .u8 y2)), (16, aU y2), (15, aR 0 1 g4)] [bR 5 1 (rI .u8) y1 g6 0, bR 5 1 (rI .u8) ([(IntKind.wrap .u8 y2)] : List Int) 0 0] (by kernel_rfl) ?_))
   obtain ⟨_, h9, hm⟩ := bs hm
   refine dO [(19, aR 0 1 ((y1 ++ ([(IntKind.wrap .u8 y2)] : List Int)).length))] [bR 5 1 (rI .u8) (y1 ++ ([(IntKind.wrap .u8 y2)] : List Int)) g6 0, bR 5 1 (rI .u8) ([(IntKind.wrap .u8 y2)] : List Int) 0 0] (app_refO (u := 0) (n := g4) (id := 0) (rI .u8) y1 ([(IntKind.wrap .u8 y2)] : List Int) (b := 1) t43 t5 rfl rfl rfl (fun _ => rfl) rfl h9 rfl (by omega) (by omega) (show srcRows (aR 1 1 1) _ = some (([(IntKind.wrap .u8 y2)] : List Int).map (rI .u8)) from by kernel_rfl) (by kernel_rfl)) (by kernel_rfl) (sh 1 [(4, aR 0 1 ((y1 ++ ([(IntKind.wrap .u8 y2)] : List Int)).length))] (by kernel_rfl) (fin [(4, aR 0 1 ((y1 ++ ([(IntKind.wrap .u8 y2)] : List Int)).length))] rfl (by kernel_rfl) (wp_ret ?_)))
   obtain rfl := Option.some.inj hm
   exact ⟨trivial, aR 0 1 ((y1 ++ ([(IntKind.wrap .u8 y2)] : List Int)).length), [bR 5 1 (rI .u8) (y1 ++ ([(IntKind.wrap .u8 y2)] : List Int)) g6 0], by kernel_rfl, g6, (by first | exact Nat.zero_le _ | exact Nat.le_refl _ | assumption | omega | (simp only [List.length_set, List.length_append, List.length_cons, List.length_nil, List.length_replicate, List.length_drop] at * <;> omega)), rfl, rfl⟩
  refine bq ?_
  refine loopF (fun mm t H => (∃ (y16 : (List Int)) (y17 : Int) (g18 : Nat) (g20 : Nat), codec_PutUint_r_l1 n k8 mm y16 y17 = some r ∧ t = mk 20 [(0, aR 0 1 g18), (1, aU y17)] ∧ H = [bR 5 1 (rI .u8) y16 g20 0] ∧ y16.length = g18 ∧ g20 ≤ y16.length)) (⟨a0, a1, m0, f0, hm, rfl, rfl, (by first | rfl | assumption | omega | (simp only [List.length_set, List.length_append, List.length_cons, List.length_nil, List.length_replicate, List.length_drop] at * <;> omega)), (by first | exact Nat.zero_le _ | exact Nat.le_refl _ | assumption | omega | (simp only [List.length_set, List.length_append, List.length_cons, List.length_nil, List.length_replicate, List.length_drop] at * <;> omega))⟩) ?_ ?_
  · rintro _ _ ⟨y16, y17, g18, g20, hm, _⟩; exact nomatch hm
  rintro m22 _ _ ⟨y16, y17, g18, g20, hm, rfl, rfl, q19, q21⟩
  simp only [codec_PutUint_r_l1] at hm
  refine sq (sq (detn [(0, aR 0 1 g18), (1, aU y17), (6, aB (decide (y17 ≥ 128)))] (by kernel_rfl) ?_))
  rcases bif_some hm with ⟨h23, hm⟩ | ⟨h23, hm⟩
  ·
   refine ct h23 (by kernel_rfl) (wp_skip (bq (sq (rg (st 5 [(11, aR 1 1 1), (10, aY (iOr .u8 (IntKind.wrap .u8 y17) 128)), (9, aY (IntKind.wrap .u8 y17)), (8, aU y17), (7, aR 0 1 g18)] [bR 5 1 (rI .u8) y16 g20 0, bR 5 1 (rI .u8) ([(iOr .u8 (IntKind.wrap .u8 y17) 128)] : List Int) 0 0] (by kernel_rfl) ?_)))))
   obtain ⟨_, h24, hm⟩ := bs hm
   refine dO [(12, aR 0 1 ((y16 ++ ([(iOr .u8 (IntKind.wrap .u8 y17) 128)] : List Int)).length))] [bR 5 1 (rI .u8) (y16 ++ ([(iOr .u8 (IntKind.wrap .u8 y17) 128)] : List Int)) g20 0, bR 5 1 (rI .u8) ([(iOr .u8 (IntKind.wrap .u8 y17) 128)] : List Int) 0 0] (app_refO (u := 0) (n := g18) (id := 0) (rI .u8) y16 ([(iOr .u8 (IntKind.wrap .u8 y17) 128)] : List Int) (b := 1) t43 t5 rfl rfl rfl (fun _ => rfl) rfl h24 rfl (by omega) (by omega) (show srcRows (aR 1 1 1) _ = some (([(iOr .u8 (IntKind.wrap .u8 y17) 128)] : List Int).map (rI .u8)) from by kernel_rfl) (by kernel_rfl)) (by kernel_rfl) (sh 1 [(0, aR 0 1 ((y16 ++ ([(iOr .u8 (IntKind.wrap .u8 y17) 128)] : List Int)).length))] (by kernel_rfl) (fin [(0, aR 0 1 ((y16 ++ ([(iOr .u8 (IntKind.wrap .u8 y17) 128)] : List Int)).length)), (1, aU y17)] rfl (by kernel_rfl) (detn [(0, aR 0 1 ((y16 ++ ([(iOr .u8 (IntKind.wrap .u8 y17) 128)] : List Int)).length)), (1, aU (iShr .u64 y17 7))] (by kernel_rfl) ?_)))
   exact ⟨_, _, tidyL [(0, aR 0 1 ((y16 ++ ([(iOr .u8 (IntKind.wrap .u8 y17) 128)] : List Int)).length)), (1, aU (iShr .u64 y17 7))] [bR 5 1 (rI .u8) (y16 ++ ([(iOr .u8 (IntKind.wrap .u8 y17) 128)] : List Int)) g20 0] (by kernel_rfl), ⟨(y16 ++ ([(iOr .u8 (IntKind.wrap .u8 y17) 128)] : List Int)), (iShr .u64 y17 7), (y16 ++ ([(iOr .u8 (IntKind.wrap .u8 y17) 128)] : List Int)).length, g20, hm, rfl, rfl, (by first | rfl | assumption | omega | (simp only [List.length_set, List.length_append, List.length_cons, List.length_nil, List.length_replicate, List.length_drop] at * <;> omega)), (by first | exact Nat.zero_le _ | exact Nat.le_refl _ | assumption | omega | (simp only [List.length_set, List.length_append, List.length_cons, List.length_nil, List.length_replicate, List.length_drop] at * <;> omega))⟩⟩
  ·
   refine cf h23 (by kernel_rfl) (wp_exit ?_)
   exact ⟨y16, y17, (decide (y17 ≥ 128)), g18, g20, hm, rfl, rfl, (by first | rfl | assumption | omega | (simp only [List.length_set, List.length_append, List.length_cons, List.length_nil, List.length_replicate, List.length_drop] at * <;> omega)), (by first | exact Nat.zero_le _ | exact Nat.le_refl _ | assumption | omega | (simp only [List.length_set, List.length_append, List.length_cons, List.length_nil, List.length_replicate, List.length_drop] at * <;> omega))⟩
theorem ok_codec_PutInt_r (m0 : Nat) (f0 : Nat) {n : Nat} {a0 : (List Int)} {a1 : Int} {r : (List Int)} (hm0 : a0.length = m0) (hf0 : f0 ≤ a0.length) (hm : codec_PutInt_r n a0 a1 = some r) :
    ∃ vv H1, call G n 94 [aR 0 1 m0, aI a1] [bR 5 1 (rI .u8) a0 f0 0] = some (.ret vv, H1) ∧ (match r with | r0 => (∃ (e1 : Nat), e1 ≤ r0.length ∧ vv = aR 0 1 r0.length ∧ H1 = [bR 5 1 (rI .u8) r0 e1 0])) := by
  unfold codec_PutInt_r at hm
  obtain ⟨n, rfl, h0⟩ := at1_some hm
  replace hm := h0; clear h0
  refine callE 16 [(0, aR 0 1 m0), (1, aI a1)] func94 rfl (by kernel_rfl) (sq (detn [(0, aR 0 1 m0), (1, aI a1)] (by kernel_rfl) (sq (detn [(0, aR 0 1 m0), (1, aI a1), (5, aU (iShl .u64 (IntKind.wrap .u64 a1) 1))] (by kernel_rfl) (sq (sq (detn [(0, aR 0 1 m0), (5, aU (iShl .u64 (IntKind.wrap .u64 a1) 1)), (10, aB (decide (a1 < 0)))] (by kernel_rfl) ?_)))))))
  rcases bif_some hm with ⟨h1, hm⟩ | ⟨h1, hm⟩
  ·
   refine ct h1 (by kernel_rfl) (detn [(0, aR 0 1 m0), (5, aU (notI .u64 (iShl .u64 (IntKind.wrap .u64 a1) 1)))] (by kernel_rfl) (sq (rg (sh 2 [(14, aU (notI .u64 (iShl .u64 (IntKind.wrap .u64 a1) 1))), (13, aR 0 1 m0)] (by kernel_rfl) ?_))))
   obtain ⟨x3, h2, hm⟩ := bs hm
   obtain ⟨vv, H1, hC, g4, q5, rfl, rfl⟩ := ok_codec_PutUint_r m0 f0 (by first | rfl | assumption | omega | (simp only [List.length_set, List.length_append, List.length_cons, List.length_nil, List.length_replicate, List.length_drop] at * <;> omega)) (by first | exact Nat.zero_le _ | exact Nat.le_refl _ | assumption | omega | (simp only [List.length_set, List.length_append, List.length_cons, List.length_nil, List.length_replicate, List.length_drop] at * <;> omega)) h2
   refine dR [(15, aR 0 1 x3.length)] [bR 5 1 (rI .u8) x3 g4 0] [0] [aR 0 1 m0, aU (notI .u64 (iShl .u64 (IntKind.wrap .u64 a1) 1))] (by kernel_rfl) (by kernel_rfl) (by kernel_rfl) hC (by kernel_rfl) (sh 1 [(4, aR 0 1 x3.length)] (by kernel_rfl) (fin [(4, aR 0 1 x3.length)] rfl (by kernel_rfl) (wp_ret ?_)))
   obtain rfl := Option.some.inj hm
   exact ⟨trivial, aR 0 1 x3.length, [bR 5 1 (rI .u8) x3 g4 0], by kernel_rfl, g4, (by first | exact Nat.zero_le _ | exact Nat.le_refl _ | assumption | omega | (simp only [List.length_set, List.length_append, List.length_cons, List.length_nil, List.length_replicate, List.length_drop] at * <;> omega)), rfl, rfl⟩
  ·
   refine cf h1 (by kernel_rfl) (wp_skip (sq (rg (sh 2 [(14, aU (iShl .u64 (IntKind.wrap .u64 a1) 1)), (13, aR 0 1 m0)] (by kernel_rfl) ?_))))
   obtain ⟨x7, h6, hm⟩ := bs hm
   obtain ⟨vv, H1, hC, g8, q9, rfl, rfl⟩ := ok_codec_PutUint_r m0 f0 (by first | rfl | assumption | omega | (simp only [List.length_set, List.length_append, List.length_cons, List.length_nil, List.length_replicate, List.length_drop] at * <;> omega)) (by first | exact Nat.zero_le _ | exact Nat.le_refl _ | assumption | omega | (simp only [List.length_set, List.length_append, List.length_cons, List.length_nil, List.length_replicate, List.length_drop] at * <;> omega)) h6
   refine dR [(15, aR 0 1 x7.length)] [bR 5 1 (rI .u8) x7 g8 0] [0] [aR 0 1 m0, aU (iShl .u64 (IntKind.wrap .u64 a1) 1)] (by kernel_rfl) (by kernel_rfl) (by kernel_rfl) hC (by kernel_rfl) (sh 1 [(4, aR 0 1 x7.length)] (by kernel_rfl) (fin [(4, aR 0 1 x7.length)] rfl (by kernel_rfl) (wp_ret ?_)))
   obtain rfl := Option.some.inj hm
   exact ⟨trivial, aR 0 1 x7.length, [bR 5 1 (rI .u8) x7 g8 0], by kernel_rfl, g8, (by first | exact Nat.zero_le _ | exact Nat.le_refl _ | assumption | omega | (simp only [List.length_set, List.length_append, List.length_cons, List.length_nil, List.length_replicate, List.length_drop] at * <;> omega)), rfl, rfl⟩
theorem ok_codec_bits {n : Nat} {a0 : Nat} {r : Int} (hm : codec_bits n a0 = some r) :
    call G n 117 [aF a0] [] = some (.ret (aU r), []) := by
  unfold codec_bits at hm
  obtain ⟨n, rfl, h0⟩ := at1_some hm
  replace hm := h0; clear h0
  refine callL 12 [(0, aF a0)] func117 rfl (by kernel_rfl) (sq (detn [(0, aF a0)] (by kernel_rfl) (sq (bq (sq (detn [(0, aF a0), (3, aB ((FloatKind.format .f64).order a0 a0 != some .eq))] (by kernel_rfl) ?_))))))
  rcases bif_some hm with ⟨h1, hm⟩ | ⟨h1, hm⟩
  ·
   refine ct h1 (by kernel_rfl) (sq (detn [(2, aU 9221120237041090561)] (by kernel_rfl) (wp_ret ?_)))
   obtain rfl := Option.some.inj hm
   exact ⟨trivial, by kernel_rfl⟩
  ·
   refine cf h1 (by kernel_rfl) (sq (detn [(0, aF a0), (7, aB ((FloatKind.format .f64).order a0 0 == some .eq))] (by kernel_rfl) ?_))
   rcases bif_some hm with ⟨h2, hm⟩ | ⟨h2, hm⟩
   ·
    refine ct h2 (by kernel_rfl) (sq (detn [(2, aU 0)] (by kernel_rfl) (wp_ret ?_)))
    obtain rfl := Option.some.inj hm
    exact ⟨trivial, by kernel_rfl⟩
   ·
    refine cf h2 (by kernel_rfl) (wp_skip (sq (rg (sh 1 [(10, aF a0)] (by kernel_rfl) (sh 1 [(11, aU (a0 : Int))] (by kernel_rfl) (sh 1 [(2, aU (a0 : Int))] (by kernel_rfl) (fin [(2, aU (a0 : Int))] rfl (by kernel_rfl) (wp_ret ?_))))))))
    obtain rfl := Option.some.inj hm
    exact ⟨trivial, by kernel_rfl⟩
theorem ok_codec_PutFixed_r (m0 : Nat) (f0 : Nat) {n : Nat} {a0 : (List Int)} {a1 : Int} {a2 : Int} {r : (List Int)} (hm0 : a0.length = m0) (hf0 : f0 ≤ a0.length) (hm : codec_PutFixed_r n a0 a1 a2 = some r) :
    ∃ vv H1, call G n 116 [aR 0 1 m0, aU a1, aI a2] [bR 5 1 (rI .u8) a0 f0 0] = some (.ret vv, H1) ∧ (match r with | r0 => (∃ (e1 : Nat) (e2 : Nat), r0.length = e1 ∧ e2 ≤ r0.length ∧ vv = aR 0 1 e1 ∧ H1 = [bR 5 1 (rI .u8) r0 e2 0])) := by
  unfold codec_PutFixed_r at hm
  obtain ⟨n, rfl, h0⟩ := at1_some hm
  replace hm := h0; clear h0
  refine callE 26 [(0, aR 0 1 m0), (1, aU a1), (2, aI a2)] func116 rfl (by kernel_rfl) (sq (detn [(0, aR 0 1 m0), (1, aU a1), (2, aI a2)] (by kernel_rfl) ?_))
  obtain ⟨k8, hk8, hm⟩ := withK_some hm
  refine mid (fun t H => (∃ (y1 : (List Int)) (y2 : Bool) (y3 : Int) (g4 : Nat) (g6 : Nat), k8 y1 = some r ∧ t = mk 26 [(0, aR 0 1 g4), (1, aU a1), (7, aI y3), (13, aB y2)] ∧ H = [bR 5 1 (rI .u8) y1 g6 0] ∧ y1.length = g4 ∧ g6 ≤ y1.length)) ?_ ?_
  ·
   rintro _ _ ⟨y1, y2, y3, g4, g6, hm, rfl, rfl, q5, q7⟩
   subst hk8
   refine sq (detn [(6, aR 0 1 g4)] (by kernel_rfl) (wp_ret ?_))
   obtain rfl := Option.some.inj hm
   exact ⟨trivial, aR 0 1 g4, [bR 5 1 (rI .u8) y1 g6 0], by kernel_rfl, g4, g6, (by first | rfl | assumption | omega | (simp only [List.length_set, List.length_append, List.length_cons, List.length_nil, List.length_replicate, List.length_drop] at * <;> omega)), (by first | exact Nat.zero_le _ | exact Nat.le_refl _ | assumption | omega | (simp only [List.length_set, List.length_append, List.length_cons, List.length_nil, List.length_replicate, List.length_drop] at * <;> omega)), rfl, rfl⟩
  refine sq (detn [(0, aR 0 1 m0), (1, aU a1), (7, aI (IntKind.wrap .i64 ((if 8 < (if 0 > a2 then 0 else a2) then 8 else (if 0 > a2 then 0 else a2)) - 1)))] (by kernel_rfl) (bq ?_))
  refine loopF (fun mm t H => (∃ (y15 : (List Int)) (y16 : Int) (g17 : Nat) (g19 : Nat), codec_PutFixed_r_l2 n a1 k8 mm y15 y16 = some r ∧ t = mk 26 [(0, aR 0 1 g17), (1, aU a1), (7, aI y16)] ∧ H = [bR 5 1 (rI .u8) y15 g19 0] ∧ y15.length = g17 ∧ g19 ≤ y15.length)) (⟨a0, (IntKind.wrap .i64 ((if 8 < (if 0 > a2 then 0 else a2) then 8 else (if 0 > a2 then 0 else a2)) - 1)), m0, f0, hm, rfl, rfl, (by first | rfl | assumption | omega | (simp only [List.length_set, List.length_append, List.length_cons, List.length_nil, List.length_replicate, List.length_drop] at * <;> omega)), (by first | exact Nat.zero_le _ | exact Nat.le_refl _ | assumption | omega | (simp only [List.length_set, List.length_append, List.length_cons, List.length_nil, List.length_replicate, List.length_drop] at * <;> omega))⟩) ?_ ?_
  · rintro _ _ ⟨y15, y16, g17, g19, hm, _⟩; exact nomatch hm
  rintro m21 _ _ ⟨y15, y16, g17, g19, hm, rfl, rfl, q18, q20⟩
  simp only [codec_PutFixed_r_l2] at hm
  refine sq (sq (detn [(0, aR 0 1 g17), (1, aU a1), (7, aI y16), (13, aB (decide (y16 ≥ 0)))] (by kernel_rfl) ?_))
  rcases bif_some hm with ⟨h22, hm⟩ | ⟨h22, hm⟩
  ·
   refine ct h22 (by kernel_rfl) (wp_skip (sq (bq (rg (sh 5 [(20, aU (IntKind.wrap .u64 (IntKind.wrap .i64 (8 * y16)))), (19, aI (IntKind.wrap .i64 (8 * y16))), (18, aI y16), (17, aU a1), (16, aR 0 1 g17)] (by kernel_rfl) ?_)))))
   obtain ⟨_, h23, hm⟩ := bs hm
   refine dv 21 (v := aU (iShr .u64 a1 (IntKind.wrap .u64 (IntKind.wrap .i64 (8 * y16))))) (shrO h23 (by kernel_rfl)) (by kernel_rfl) (st 2 [(23, aR 1 1 1), (22, aY (IntKind.wrap .u8 (iShr .u64 a1 (IntKind.wrap .u64 (IntKind.wrap .i64 (8 * y16))))))] [bR 5 1 (rI .u8) y15 g19 0, bR 5 1 (rI .u8) ([(IntKind.wrap .u8 (iShr .u64 a1 (IntKind.wrap .u64 (IntKind.wrap .i64 (8 * y16)))))] : List Int) 0 0] (by kernel_rfl) ?_)
   obtain ⟨_, h24, hm⟩ := bs hm
   refine dO [(24, aR 0 1 ((y15 ++ ([(IntKind.wrap .u8 (iShr .u64 a1 (IntKind.wrap .u64 (IntKind.wrap .i64 (8 * y16)))))] : List Int)).length))] [bR 5 1 (rI .u8) (y15 ++ ([(IntKind.wrap .u8 (iShr .u64 a1 (IntKind.wrap .u64 (IntKind.wrap .i64 (8 * y16)))))] : List Int)) g19 0, bR 5 1 (rI .u8) ([(IntKind.wrap .u8 (iShr .u64 a1 (IntKind.wrap .u64 (IntKind.wrap .i64 (8 * y16)))))] : List Int) 0 0] (app_refO (u := 0) (n := g17) (id := 0) (rI .u8) y15 ([(IntKind.wrap .u8 (iShr .u64 a1 (IntKind.wrap .u64 (IntKind.wrap .i64 (8 * y16)))))] : List Int) (b := 1) t43 t5 rfl rfl rfl (fun _ => rfl) rfl h24 rfl (by omega) (by omega) (show srcRows (aR 1 1 1) _ = some (([(IntKind.wrap .u8 (iShr .u64 a1 (IntKind.wrap .u64 (IntKind.wrap .i64 (8 * y16)))))] : List Int).map (rI .u8)) from by kernel_rfl) (by kernel_rfl)) (by kernel_rfl) (sh 1 [(0, aR 0 1 ((y15 ++ ([(IntKind.wrap .u8 (iShr .u64 a1 (IntKind.wrap .u64 (IntKind.wrap .i64 (8 * y16)))))] : List Int)).length))] (by kernel_rfl) (fin [(0, aR 0 1 ((y15 ++ ([(IntKind.wrap .u8 (iShr .u64 a1 (IntKind.wrap .u64 (IntKind.wrap .i64 (8 * y16)))))] : List Int)).length)), (1, aU a1), (7, aI y16)] rfl (by kernel_rfl) (detn [(0, aR 0 1 ((y15 ++ ([(IntKind.wrap .u8 (iShr .u64 a1 (IntKind.wrap .u64 (IntKind.wrap .i64 (8 * y16)))))] : List Int)).length)), (1, aU a1), (7, aI (IntKind.wrap .i64 (y16 - 1)))] (by kernel_rfl) ?_)))
   exact ⟨_, _, tidyL [(0, aR 0 1 ((y15 ++ ([(IntKind.wrap .u8 (iShr .u64 a1 (IntKind.wrap .u64 (IntKind.wrap .i64 (8 * y16)))))] : List Int)).length)), (1, aU a1), (7, aI (IntKind.wrap .i64 (y16 - 1)))] [bR 5 1 (rI .u8) (y15 ++ ([(IntKind.wrap .u8 (iShr .u64 a1 (IntKind.wrap .u64 (IntKind.wrap .i64 (8 * y16)))))] : List Int)) g19 0] (by kernel_rfl), ⟨(y15 ++ ([(IntKind.wrap .u8 (iShr .u64 a1 (IntKind.wrap .u64 (IntKind.wrap .i64 (8 * y16)))))] : List Int)), (IntKind.wrap .i64 (y16 - 1)), (y15 ++ ([(IntKind.wrap .u8 (iShr .u64 a1 (IntKind.wrap .u64 (IntKind.wrap .i64 (8 * y16)))))] : List Int)).length, g19, hm, rfl, rfl, (by first | rfl | assumption | omega | (simp only [List.length_set, List.length_append, List.length_cons, List.length_nil, List.length_replicate, List.length_drop] at * <;> omega)), (by first | exact Nat.zero_le _ | exact Nat.le_refl _ | assumption | omega | (simp only [List.length_set, List.length_append, List.length_cons, List.length_nil, List.length_replicate, List.length_drop] at * <;> omega))⟩⟩
  ·
   refine cf h22 (by kernel_rfl) (wp_exit ?_)
   exact ⟨y15, (decide (y16 ≥ 0)), y16, g17, g19, hm, rfl, rfl, (by first | rfl | assumption | omega | (simp only [List.length_set, List.length_append, List.length_cons, List.length_nil, List.length_replicate, List.length_drop] at * <;> omega)), (by first | exact Nat.zero_le _ | exact Nat.le_refl _ | assumption | omega | (simp only [List.length_set, List.length_append, List.length_cons, List.length_nil, List.length_replicate, List.length_drop] at * <;> omega))⟩
theorem ok_codec_PutFloat_r (m0 : Nat) (f0 : Nat) {n : Nat} {a0 : (List Int)} {a1 : Nat} {r : (List Int)} (hm0 : a0.length = m0) (hf0 : f0 ≤ a0.length) (hm : codec_PutFloat_r n a0 a1 = some r) :
    ∃ vv H1, call G n 95 [aR 0 1 m0, aF a1] [bR 5 1 (rI .u8) a0 f0 0] = some (.ret vv, H1) ∧ (match r with | r0 => (∃ (e1 : Nat) (e2 : Nat), r0.length = e1 ∧ e2 ≤ r0.length ∧ vv = aR 0 1 e1 ∧ H1 = [bR 5 1 (rI .u8) r0 e2 0])) := by
  unfold codec_PutFloat_r at hm
  obtain ⟨n, rfl, h0⟩ := at1_some hm
  replace hm := h0; clear h0
  refine callE 9 [(0, aR 0 1 m0), (1, aF a1)] func95 rfl (by kernel_rfl) (sq (detn [(0, aR 0 1 m0), (1, aF a1)] (by kernel_rfl) (sq (rg (sh 2 [(6, aF a1), (5, aR 0 1 m0)] (by kernel_rfl) ?_)))))
  obtain ⟨x1, h2, hm⟩ := bs hm
  refine dv 7 (cpure (by kernel_rfl) (ok_codec_bits h2) (by kernel_rfl) (by kernel_rfl) (by kernel_rfl)) (by kernel_rfl) ?_
  obtain ⟨x4, h3, hm⟩ := bs hm
  obtain ⟨vv, H1, hC, g5, g6, q7, q8, rfl, rfl⟩ := ok_codec_PutFixed_r m0 f0 (by first | rfl | assumption | omega | (simp only [List.length_set, List.length_append, List.length_cons, List.length_nil, List.length_replicate, List.length_drop] at * <;> omega)) (by first | exact Nat.zero_le _ | exact Nat.le_refl _ | assumption | omega | (simp only [List.length_set, List.length_append, List.length_cons, List.length_nil, List.length_replicate, List.length_drop] at * <;> omega)) h3
  refine dR [(8, aR 0 1 g5)] [bR 5 1 (rI .u8) x4 g6 0] [0] [aR 0 1 m0, aU x1, aI 8] (by kernel_rfl) (by kernel_rfl) (by kernel_rfl) hC (by kernel_rfl) (sh 1 [(4, aR 0 1 g5)] (by kernel_rfl) (fin [(4, aR 0 1 g5)] rfl (by kernel_rfl) (wp_ret ?_)))
  obtain rfl := Option.some.inj hm
  exact ⟨trivial, aR 0 1 g5, [bR 5 1 (rI .u8) x4 g6 0], by kernel_rfl, g5, g6, (by first | rfl | assumption | omega | (simp only [List.length_set, List.length_append, List.length_cons, List.length_nil, List.length_replicate, List.length_drop] at * <;> omega)), (by first | exact Nat.zero_le _ | exact Nat.le_refl _ | assumption | omega | (simp only [List.length_set, List.length_append, List.length_cons, List.length_nil, List.length_replicate, List.length_drop] at * <;> omega)), rfl, rfl⟩
theorem ok_codec_PutText_r (m0 : Nat) (f0 : Nat) {n : Nat} {a0 : (List Int)} {a1 : ByteArray} {r : (List Int)} (hm0 : a0.length = m0) (hf0 : f0 ≤ a0.length) (hm : codec_PutText_r n a0 a1 = some r) :
    ∃ vv H1, call G n 96 [aR 0 1 m0, aS a1] [bR 5 1 (rI .u8) a0 f0 0] = some (.ret vv, H1) ∧ (match r with | r0 => (∃ (e1 : Nat), e1 ≤ r0.length ∧ vv = aR 0 1 r0.length ∧ H1 = [bR 5 1 (rI .u8) r0 e1 0])) := by
  unfold codec_PutText_r at hm
  obtain ⟨n, rfl, h0⟩ := at1_some hm
  replace hm := h0; clear h0
  refine callE 12 [(0, aR 0 1 m0), (1, aS a1)] func96 rfl (by kernel_rfl) (sq (detn [(0, aR 0 1 m0), (1, aS a1)] (by kernel_rfl) (sq (rg (sh 4 [(8, aU (IntKind.wrap .u64 (a1.size : Int))), (7, aI (a1.size : Int)), (6, aS a1), (5, aR 0 1 m0)] (by kernel_rfl) ?_)))))
  obtain ⟨x2, h1, hm⟩ := bs hm
  obtain ⟨vv, H1, hC, g3, q4, rfl, rfl⟩ := ok_codec_PutUint_r m0 f0 (by first | rfl | assumption | omega | (simp only [List.length_set, List.length_append, List.length_cons, List.length_nil, List.length_replicate, List.length_drop] at * <;> omega)) (by first | exact Nat.zero_le _ | exact Nat.le_refl _ | assumption | omega | (simp only [List.length_set, List.length_append, List.length_cons, List.length_nil, List.length_replicate, List.length_drop] at * <;> omega)) h1
  refine dR [(9, aR 0 1 x2.length)] [bR 5 1 (rI .u8) x2 g3 0] [0] [aR 0 1 m0, aU (IntKind.wrap .u64 (a1.size : Int))] (by kernel_rfl) (by kernel_rfl) (by kernel_rfl) hC (by kernel_rfl) (sh 1 [(10, aS a1)] (by kernel_rfl) ?_)
  rcases bif_some hm with ⟨h5, hm⟩ | ⟨h5, hm⟩
  ·
   obtain ⟨_, h6, hm⟩ := bs hm
   refine dv 11 (v := aR 0 1 x2.length) (app_ref0O (u := 0) (y := aS a1) (n := x2.length) (id := 0) (rI .u8) x2 (bytesL a1) (b := 1) t43 t5 rfl rfl rfl h5 h6 rfl rfl (by omega) (src_str (s := a1)) (by kernel_rfl)) (by kernel_rfl) (sh 1 [(4, aR 0 1 x2.length)] (by kernel_rfl) (fin [(4, aR 0 1 x2.length)] rfl (by kernel_rfl) (wp_ret ?_)))
   obtain rfl := Option.some.inj hm
   exact ⟨trivial, aR 0 1 x2.length, [bR 5 1 (rI .u8) x2 g3 0], by kernel_rfl, g3, (by first | exact Nat.zero_le _ | exact Nat.le_refl _ | assumption | omega | (simp only [List.length_set, List.length_append, List.length_cons, List.length_nil, List.length_replicate, List.length_drop] at * <;> omega)), rfl, rfl⟩
  ·
   obtain ⟨_, h7, hm⟩ := bs hm
   refine dO [(11, aR 0 1 ((x2 ++ (bytesL a1)).length))] [bR 5 1 (rI .u8) (x2 ++ (bytesL a1)) g3 0] (app_refO (u := 0) (n := x2.length) (id := 0) (rI .u8) x2 (bytesL a1) (b := 1) t43 t5 rfl rfl rfl (fun _ => rfl) h5 h7 rfl rfl (by omega) (src_str (s := a1)) (by kernel_rfl)) (by kernel_rfl) (sh 1 [(4, aR 0 1 ((x2 ++ (bytesL a1)).length))] (by kernel_rfl) (fin [(4, aR 0 1 ((x2 ++ (bytesL a1)).length))] rfl (by kernel_rfl) (wp_ret ?_)))
   obtain rfl := Option.some.inj hm
   exact ⟨trivial, aR 0 1 ((x2 ++ (bytesL a1)).length), [bR 5 1 (rI .u8) (x2 ++ (bytesL a1)) g3 0], by kernel_rfl, g3, (by first | exact Nat.zero_le _ | exact Nat.le_refl _ | assumption | omega | (simp only [List.length_set, List.length_append, List.length_cons, List.length_nil, List.length_replicate, List.length_drop] at * <;> omega)), rfl, rfl⟩
theorem ok_value_Put_r (m0 : Nat) (f0 : Nat) {n : Nat} {a0 : (List Int)} {a1 : api_Value} {r : (List Int)} (hm0 : a0.length = m0) (hf0 : f0 ≤ a0.length) (hm : value_Put_r n a0 a1 = some r) :
    ∃ vv H1, call G n 56 [aR 0 1 m0, .agg [aI a1.fKind, aI a1.fInt, aF a1.fFloat, aS a1.fText]] [bR 5 1 (rI .u8) a0 f0 0] = some (.ret vv, H1) ∧ (match r with | r0 => (∃ (e1 : Nat) (e2 : Nat), r0.length = e1 ∧ e2 ≤ r0.length ∧ vv = aR 0 1 e1 ∧ H1 = [bR 5 1 (rI .u8) r0 e2 0])) := by
  unfold value_Put_r at hm
  obtain ⟨n, rfl, h0⟩ := at1_some hm
  replace hm := h0; clear h0
  refine callE 42 [(0, aR 0 1 m0), (1, .agg [aI a1.fKind, aI a1.fInt, aF a1.fFloat, aS a1.fText])] func56 rfl (by kernel_rfl) (sq (det [(0, aR 0 1 m0), (3, .ptr 1 0)] [bR 5 1 (rI .u8) a0 f0 0, .box [aI a1.fKind, aI a1.fInt, aF a1.fFloat, aS a1.fText] false] (by kernel_rfl) (sq (rg (sh 1 [(5, .agg [aI a1.fKind, aI a1.fInt, aF a1.fFloat, aS a1.fText])] (by kernel_rfl) ?_)))))
  obtain ⟨x1, h2, hm⟩ := bs hm
  refine dv 6 (cpure (by kernel_rfl) (ok_value_Plain h2) (by kernel_rfl) (by kernel_rfl) (by kernel_rfl)) (by kernel_rfl) (st 1 [] [bR 5 1 (rI .u8) a0 f0 0, .box [aI x1.fKind, aI x1.fInt, aF x1.fFloat, aS x1.fText] false] (by kernel_rfl) (fin [(0, aR 0 1 m0), (3, .ptr 1 0)] rfl (by kernel_rfl) (sq (rg (st 5 [(11, aR 2 1 1), (10, aY (IntKind.wrap .u8 x1.fKind)), (9, aI x1.fKind), (8, .ptr 1 0), (7, aR 0 1 m0)] [bR 5 1 (rI .u8) a0 f0 0, .box [aI x1.fKind, aI x1.fInt, aF x1.fFloat, aS x1.fText] false, bR 5 1 (rI .u8) ([(IntKind.wrap .u8 x1.fKind)] : List Int) 0 0] (by kernel_rfl) ?_)))))
  obtain ⟨_, h3, hm⟩ := bs hm
  refine dO [(12, aR 0 1 ((a0 ++ ([(IntKind.wrap .u8 x1.fKind)] : List Int)).length))] [bR 5 1 (rI .u8) (a0 ++ ([(IntKind.wrap .u8 x1.fKind)] : List Int)) f0 0, .box [aI x1.fKind, aI x1.fInt, aF x1.fFloat, aS x1.fText] false, bR 5 1 (rI .u8) ([(IntKind.wrap .u8 x1.fKind)] : List Int) 0 0] (app_refO (u := 0) (n := m0) (id := 0) (rI .u8) a0 ([(IntKind.wrap .u8 x1.fKind)] : List Int) (b := 1) t43 t5 rfl rfl rfl (fun _ => rfl) rfl h3 rfl (by omega) (by omega) (show srcRows (aR 2 1 1) _ = some (([(IntKind.wrap .u8 x1.fKind)] : List Int).map (rI .u8)) from by kernel_rfl) (by kernel_rfl)) (by kernel_rfl) (sh 1 [(0, aR 0 1 ((a0 ++ ([(IntKind.wrap .u8 x1.fKind)] : List Int)).length))] (by kernel_rfl) (fin [(0, aR 0 1 ((a0 ++ ([(IntKind.wrap .u8 x1.fKind)] : List Int)).length)), (3, .ptr 1 0)] rfl (by kernel_rfl) (sq (sq (detn [(0, aR 0 1 ((a0 ++ ([(IntKind.wrap .u8 x1.fKind)] : List Int)).length)), (3, .ptr 1 0), (14, aI x1.fKind)] (by kernel_rfl) (bq (sq (detn [(0, aR 0 1 ((a0 ++ ([(IntKind.wrap .u8 x1.fKind)] : List Int)).length)), (3, .ptr 1 0), (14, aI x1.fKind), (15, aB (x1.fKind == 1))] (by kernel_rfl) ?_))))))))
  rcases bif_some hm with ⟨h4, hm⟩ | ⟨h4, hm⟩
  ·
   refine ct h4 (by kernel_rfl) (sq (rg (st 5 [(21, aR 3 1 1), (20, aY (IntKind.wrap .u8 x1.fInt)), (19, aI x1.fInt), (18, .ptr 1 1), (17, aR 0 1 ((a0 ++ ([(IntKind.wrap .u8 x1.fKind)] : List Int)).length))] [bR 5 1 (rI .u8) (a0 ++ ([(IntKind.wrap .u8 x1.fKind)] : List Int)) f0 0, .box [aI x1.fKind, aI x1.fInt, aF x1.fFloat, aS x1.fText] false, bR 5 1 (rI .u8) ([(IntKind.wrap .u8 x1.fKind)] : List Int) 0 0, bR 5 1 (rI .u8) ([(IntKind.wrap .u8 x1.fInt)] : List Int) 0 0] (by kernel_rfl) ?_)))
   obtain ⟨_, h5, hm⟩ := bs hm
   refine dO [(22, aR 0 1 (((a0 ++ ([(IntKind.wrap .u8 x1.fKind)] : List Int)) ++ ([(IntKind.wrap .u8 x1.fInt)] : List Int)).length))] [bR 5 1 (rI .u8) ((a0 ++ ([(IntKind.wrap .u8 x1.fKind)] : List Int)) ++ ([(IntKind.wrap .u8 x1.fInt)] : List Int)) f0 0, .box [aI x1.fKind, aI x1.fInt, aF x1.fFloat, aS x1.fText] false, bR 5 1 (rI .u8) ([(IntKind.wrap .u8 x1.fKind)] : List Int) 0 0, bR 5 1 (rI .u8) ([(IntKind.wrap .u8 x1.fInt)] : List Int) 0 0] (app_refO (u := 0) (n := (a0 ++ ([(IntKind.wrap .u8 x1.fKind)] : List Int)).length) (id := 0) (rI .u8) (a0 ++ ([(IntKind.wrap .u8 x1.fKind)] : List Int)) ([(IntKind.wrap .u8 x1.fInt)] : List Int) (b := 1) t43 t5 rfl rfl rfl (fun _ => rfl) rfl h5 rfl rfl (by first | exact Nat.zero_le _ | exact Nat.le_refl _ | assumption | omega | (simp only [List.length_set, List.length_append, List.length_cons, List.length_nil, List.length_replicate, List.length_drop] at * <;> omega)) (show srcRows (aR 3 1 1) _ = some (([(IntKind.wrap .u8 x1.fInt)] : List Int).map (rI .u8)) from by kernel_rfl) (by kernel_rfl)) (by kernel_rfl) (sh 1 [(4, aR 0 1 (((a0 ++ ([(IntKind.wrap .u8 x1.fKind)] : List Int)) ++ ([(IntKind.wrap .u8 x1.fInt)] : List Int)).length))] (by kernel_rfl) (fin [(4, aR 0 1 (((a0 ++ ([(IntKind.wrap .u8 x1.fKind)] : List Int)) ++ ([(IntKind.wrap .u8 x1.fInt)] : List Int)).length))] rfl (by kernel_rfl) (wp_ret ?_)))
   obtain rfl := Option.some.inj hm
   exact ⟨trivial, aR 0 1 (((a0 ++ ([(IntKind.wrap .u8 x1.fKind)] : List Int)) ++ ([(IntKind.wrap .u8 x1.fInt)] : List Int)).length), [bR 5 1 (rI .u8) ((a0 ++ ([(IntKind.wrap .u8 x1.fKind)] : List Int)) ++ ([(IntKind.wrap .u8 x1.fInt)] : List Int)) f0 0], by kernel_rfl, ((a0 ++ ([(IntKind.wrap .u8 x1.fKind)] : List Int)) ++ ([(IntKind.wrap .u8 x1.fInt)] : List Int)).length, f0, (by first | rfl | assumption | omega | (simp only [List.length_set, List.length_append, List.length_cons, List.length_nil, List.length_replicate, List.length_drop] at * <;> omega)), (by first | exact Nat.zero_le _ | exact Nat.le_refl _ | assumption | omega | (simp only [List.length_set, List.length_append, List.length_cons, List.length_nil, List.length_replicate, List.length_drop] at * <;> omega)), rfl, rfl⟩
  ·
   refine cf h4 (by kernel_rfl) (sq (detn [(0, aR 0 1 ((a0 ++ ([(IntKind.wrap .u8 x1.fKind)] : List Int)).length)), (3, .ptr 1 0), (14, aI x1.fKind), (23, aB (x1.fKind == 2))] (by kernel_rfl) ?_))
   rcases bif_some hm with ⟨h6, hm⟩ | ⟨h6, hm⟩
   ·
    refine ct h6 (by kernel_rfl) (sq (rg (sh 3 [(27, aI x1.fInt), (26, .ptr 1 1), (25, aR 0 1 ((a0 ++ ([(IntKind.wrap .u8 x1.fKind)] : List Int)).length))] (by kernel_rfl) ?_)))
    obtain ⟨x8, h7, hm⟩ := bs hm
    obtain ⟨vv, H1, hC, g9, q10, rfl, rfl⟩ := ok_codec_PutInt_r ((a0 ++ ([(IntKind.wrap .u8 x1.fKind)] : List Int)).length) f0 (by first | rfl | assumption | omega | (simp only [List.length_set, List.length_append, List.length_cons, List.length_nil, List.length_replicate, List.length_drop] at * <;> omega)) (by first | exact Nat.zero_le _ | exact Nat.le_refl _ | assumption | omega | (simp only [List.length_set, List.length_append, List.length_cons, List.length_nil, List.length_replicate, List.length_drop] at * <;> omega)) h7
    refine dR [(28, aR 0 1 x8.length)] [bR 5 1 (rI .u8) x8 g9 0, .box [aI x1.fKind, aI x1.fInt, aF x1.fFloat, aS x1.fText] false, bR 5 1 (rI .u8) ([(IntKind.wrap .u8 x1.fKind)] : List Int) 0 0] [0] [aR 0 1 ((a0 ++ ([(IntKind.wrap .u8 x1.fKind)] : List Int)).length), aI x1.fInt] (by kernel_rfl) (by kernel_rfl) (by kernel_rfl) hC (by kernel_rfl) (sh 1 [(4, aR 0 1 x8.length)] (by kernel_rfl) (fin [(4, aR 0 1 x8.length)] rfl (by kernel_rfl) (wp_ret ?_)))
    obtain rfl := Option.some.inj hm
    exact ⟨trivial, aR 0 1 x8.length, [bR 5 1 (rI .u8) x8 g9 0], by kernel_rfl, x8.length, g9, (by first | rfl | assumption | omega | (simp only [List.length_set, List.length_append, List.length_cons, List.length_nil, List.length_replicate, List.length_drop] at * <;> omega)), (by first | exact Nat.zero_le _ | exact Nat.le_refl _ | assumption | omega | (simp only [List.length_set, List.length_append, List.length_cons, List.length_nil, List.length_replicate, List.length_drop] at * <;> omega)), rfl, rfl⟩
   ·
    refine cf h6 (by kernel_rfl) (sq (detn [(0, aR 0 1 ((a0 ++ ([(IntKind.wrap .u8 x1.fKind)] : List Int)).length)), (3, .ptr 1 0), (14, aI x1.fKind), (29, aB (x1.fKind == 3))] (by kernel_rfl) ?_))
    rcases bif_some hm with ⟨h11, hm⟩ | ⟨h11, hm⟩
    ·
     refine ct h11 (by kernel_rfl) (sq (rg (sh 3 [(33, aF x1.fFloat), (32, .ptr 1 2), (31, aR 0 1 ((a0 ++ ([(IntKind.wrap .u8 x1.fKind)] : List Int)).length))] (by kernel_rfl) ?_)))
     obtain ⟨x13, h12, hm⟩ := bs hm
     obtain ⟨vv, H1, hC, g14, g15, q16, q17, rfl, rfl⟩ := ok_codec_PutFloat_r ((a0 ++ ([(IntKind.wrap .u8 x1.fKind)] : List Int)).length) f0 (by first | rfl | assumption | omega | (simp only [List.length_set, List.length_append, List.length_cons, List.length_nil, List.length_replicate, List.length_drop] at * <;> omega)) (by first | exact Nat.zero_le _ | exact Nat.le_refl _ | assumption | omega | (simp only [List.length_set, List.length_append, List.length_cons, List.length_nil, List.length_replicate, List.length_drop] at * <;> omega)) h12
     refine dR [(34, aR 0 1 g14)] [bR 5 1 (rI .u8) x13 g15 0, .box [aI x1.fKind, aI x1.fInt, aF x1.fFloat, aS x1.fText] false, bR 5 1 (rI .u8) ([(IntKind.wrap .u8 x1.fKind)] : List Int) 0 0] [0] [aR 0 1 ((a0 ++ ([(IntKind.wrap .u8 x1.fKind)] : List Int)).length), aF x1.fFloat] (by kernel_rfl) (by kernel_rfl) (by kernel_rfl) hC (by kernel_rfl) (sh 1 [(4, aR 0 1 g14)] (by kernel_rfl) (fin [(4, aR 0 1 g14)] rfl (by kernel_rfl) (wp_ret ?_)))
     obtain rfl := Option.some.inj hm
     exact ⟨trivial, aR 0 1 g14, [bR 5 1 (rI .u8) x13 g15 0], by kernel_rfl, g14, g15, (by first | rfl | assumption | omega | (simp only [List.length_set, List.length_append, List.length_cons, List.length_nil, List.length_replicate, List.length_drop] at * <;> omega)), (by first | exact Nat.zero_le _ | exact Nat.le_refl _ | assumption | omega | (simp only [List.length_set, List.length_append, List.length_cons, List.length_nil, List.length_replicate, List.length_drop] at * <;> omega)), rfl, rfl⟩
    ·
     refine cf h11 (by kernel_rfl) (sq (detn [(0, aR 0 1 ((a0 ++ ([(IntKind.wrap .u8 x1.fKind)] : List Int)).length)), (3, .ptr 1 0), (35, aB (x1.fKind == 4))] (by kernel_rfl) ?_))
     rcases bif_some hm with ⟨h18, hm⟩ | ⟨h18, hm⟩
     ·
      refine ct h18 (by kernel_rfl) (sq (rg (sh 3 [(39, aS x1.fText), (38, .ptr 1 3), (37, aR 0 1 ((a0 ++ ([(IntKind.wrap .u8 x1.fKind)] : List Int)).length))] (by kernel_rfl) ?_)))
      obtain ⟨x20, h19, hm⟩ := bs hm
      obtain ⟨vv, H1, hC, g21, q22, rfl, rfl⟩ := ok_codec_PutText_r ((a0 ++ ([(IntKind.wrap .u8 x1.fKind)] : List Int)).length) f0 (by first | rfl | assumption | omega | (simp only [List.length_set, List.length_append, List.length_cons, List.length_nil, List.length_replicate, List.length_drop] at * <;> omega)) (by first | exact Nat.zero_le _ | exact Nat.le_refl _ | assumption | omega | (simp only [List.length_set, List.length_append, List.length_cons, List.length_nil, List.length_replicate, List.length_drop] at * <;> omega)) h19
      refine dR [(40, aR 0 1 x20.length)] [bR 5 1 (rI .u8) x20 g21 0, .box [aI x1.fKind, aI x1.fInt, aF x1.fFloat, aS x1.fText] false, bR 5 1 (rI .u8) ([(IntKind.wrap .u8 x1.fKind)] : List Int) 0 0] [0] [aR 0 1 ((a0 ++ ([(IntKind.wrap .u8 x1.fKind)] : List Int)).length), aS x1.fText] (by kernel_rfl) (by kernel_rfl) (by kernel_rfl) hC (by kernel_rfl) (sh 1 [(4, aR 0 1 x20.length)] (by kernel_rfl) (fin [(4, aR 0 1 x20.length)] rfl (by kernel_rfl) (wp_ret ?_)))
      obtain rfl := Option.some.inj hm
      exact ⟨trivial, aR 0 1 x20.length, [bR 5 1 (rI .u8) x20 g21 0], by kernel_rfl, x20.length, g21, (by first | rfl | assumption | omega | (simp only [List.length_set, List.length_append, List.length_cons, List.length_nil, List.length_replicate, List.length_drop] at * <;> omega)), (by first | exact Nat.zero_le _ | exact Nat.le_refl _ | assumption | omega | (simp only [List.length_set, List.length_append, List.length_cons, List.length_nil, List.length_replicate, List.length_drop] at * <;> omega)), rfl, rfl⟩
     ·
      refine cf h18 (by kernel_rfl) (wp_skip (sq (detn [(4, aR 0 1 ((a0 ++ ([(IntKind.wrap .u8 x1.fKind)] : List Int)).length))] (by kernel_rfl) (wp_ret ?_))))
      obtain rfl := Option.some.inj hm
      exact ⟨trivial, aR 0 1 ((a0 ++ ([(IntKind.wrap .u8 x1.fKind)] : List Int)).length), [bR 5 1 (rI .u8) (a0 ++ ([(IntKind.wrap .u8 x1.fKind)] : List Int)) f0 0], by kernel_rfl, (a0 ++ ([(IntKind.wrap .u8 x1.fKind)] : List Int)).length, f0, (by first | rfl | assumption | omega | (simp only [List.length_set, List.length_append, List.length_cons, List.length_nil, List.length_replicate, List.length_drop] at * <;> omega)), (by first | exact Nat.zero_le _ | exact Nat.le_refl _ | assumption | omega | (simp only [List.length_set, List.length_append, List.length_cons, List.length_nil, List.length_replicate, List.length_drop] at * <;> omega)), rfl, rfl⟩
theorem ok_hist_Put_nil {n : Nat} {a0 : (Option (List hist_Bucket))} {r : (List Int)} (hm : hist_Put_nil n a0 = some r) :
    ∃ vv H1, call G n 43 [.pv .nils, .pv (encSl R_hist_Bucket a0)] [] = some (.ret vv, H1) ∧ (match r with | r0 => (∃ (e1 : Nat), e1 ≤ r0.length ∧ vv = aR 0 1 r0.length ∧ H1 = [bR 5 1 (rI .u8) r0 e1 0])) := by
  unfold hist_Put_nil at hm
  obtain ⟨n, rfl, h0⟩ := at1_some hm
  replace hm := h0; clear h0
  refine callE 36 [(0, .pv .nils), (1, .pv (encSl R_hist_Bucket a0))] func43 rfl (by kernel_rfl) (sq (detn [(0, .pv .nils), (1, .pv (encSl R_hist_Bucket a0))] (by kernel_rfl) (sq (rg (sh 2 [(8, .pv (encSl R_hist_Bucket a0)), (7, .pv .nils)] (by kernel_rfl) (dv 9 (v := aI ((sll a0).length : Int)) (len_slO R_hist_Bucket a0 t53 (by kernel_rfl)) (by kernel_rfl) (sh 1 [(10, aU (IntKind.wrap .u64 ((sll a0).length : Int)))] (by kernel_rfl) ?_)))))))
  obtain ⟨x2, h1, hm⟩ := bs hm
  obtain ⟨vv, H1, hC, rfl, rfl⟩ := ok_codec_PutUint_nil h1
  refine dR [(11, aR 0 1 x2.length)] [bR 5 1 (rI .u8) x2 0 0] [] [.pv .nils, aU (IntKind.wrap .u64 ((sll a0).length : Int))] (by kernel_rfl) (by kernel_rfl) (by kernel_rfl) hC (by kernel_rfl) (sh 1 [(0, aR 0 1 x2.length)] (by kernel_rfl) (fin [(0, aR 0 1 x2.length), (1, .pv (encSl R_hist_Bucket a0))] rfl (by kernel_rfl) ?_))
  obtain ⟨k8, hk8, hm⟩ := withK_some hm
  refine mid (fun t H => (∃ (y3 : (List Int)) (y4 : Int) (y5 : Bool) (g6 : Nat), k8 y3 = some r ∧ t = mk 36 [(0, aR 0 1 y3.length), (12, .pv (encSl R_hist_Bucket a0)), (13, aI ((sll a0).length : Int)), (14, aI y4), (15, aB y5)] ∧ H = [bR 5 1 (rI .u8) y3 g6 0] ∧ g6 ≤ y3.length)) ?_ ?_
  ·
   rintro _ _ ⟨y3, y4, y5, g6, hm, rfl, rfl, q7⟩
   subst hk8
   refine sq (detn [(4, aR 0 1 y3.length)] (by kernel_rfl) (wp_ret ?_))
   obtain rfl := Option.some.inj hm
   exact ⟨trivial, aR 0 1 y3.length, [bR 5 1 (rI .u8) y3 g6 0], by kernel_rfl, g6, (by first | exact Nat.zero_le _ | exact Nat.le_refl _ | assumption | omega | (simp only [List.length_set, List.length_append, List.length_cons, List.length_nil, List.length_replicate, List.length_drop] at * <;> omega)), rfl, rfl⟩
  refine sq (rg (sh 1 [(12, .pv (encSl R_hist_Bucket a0))] (by kernel_rfl) (dv 13 (v := aI ((sll a0).length : Int)) (len_slO R_hist_Bucket a0 t53 (by kernel_rfl)) (by kernel_rfl) (sh 1 [(14, aI 0)] (by kernel_rfl) (fin [(0, aR 0 1 x2.length), (12, .pv (encSl R_hist_Bucket a0)), (13, aI ((sll a0).length : Int)), (14, aI 0)] rfl (by kernel_rfl) (bq ?_))))))
  refine loopF (fun mm t H => (∃ (y13 : (List Int)) (y14 : Int) (g15 : Nat), hist_Put_nil_l3 n a0 k8 mm y13 y14 = some r ∧ t = mk 36 [(0, aR 0 1 y13.length), (12, .pv (encSl R_hist_Bucket a0)), (13, aI ((sll a0).length : Int)), (14, aI y14)] ∧ H = [bR 5 1 (rI .u8) y13 g15 0] ∧ g15 ≤ y13.length)) (⟨x2, 0, 0, hm, rfl, rfl, (by first | exact Nat.zero_le _ | exact Nat.le_refl _ | assumption | omega | (simp only [List.length_set, List.length_append, List.length_cons, List.length_nil, List.length_replicate, List.length_drop] at * <;> omega))⟩) ?_ ?_
  · rintro _ _ ⟨y13, y14, g15, hm, _⟩; exact nomatch hm
  rintro m17 _ _ ⟨y13, y14, g15, hm, rfl, rfl, q16⟩
  simp only [hist_Put_nil_l3] at hm
  refine sq (detn [(0, aR 0 1 y13.length), (12, .pv (encSl R_hist_Bucket a0)), (13, aI ((sll a0).length : Int)), (14, aI y14), (15, aB (decide (y14 < ((sll a0).length : Int))))] (by kernel_rfl) ?_)
  refine sq ?_
  rcases bif_some hm with ⟨h18, hm⟩ | ⟨h18, hm⟩
  ·
   refine ct h18 (by kernel_rfl) (wp_skip (sq (bq (sq (rg ?_)))))
   obtain ⟨x19, h20, hm⟩ := bs hm
   refine dv 16 (v := .pv (.ptr (R_hist_Bucket x19) 0)) (ia_slO R_hist_Bucket a0 .i64 t53 t77 h20 rfl (by kernel_rfl)) (by kernel_rfl) (st 3 [(6, .ptr 1 0), (17, .agg [aI x19.fLow.fKind, aI x19.fLow.fInt, aF x19.fLow.fFloat, aS x19.fLow.fText, aI x19.fHigh.fKind, aI x19.fHigh.fInt, aF x19.fHigh.fFloat, aS x19.fHigh.fText, aI x19.fCount, aI x19.fDistinct])] [bR 5 1 (rI .u8) y13 g15 0, .box [aI x19.fLow.fKind, aI x19.fLow.fInt, aF x19.fLow.fFloat, aS x19.fLow.fText, aI x19.fHigh.fKind, aI x19.fHigh.fInt, aF x19.fHigh.fFloat, aS x19.fHigh.fText, aI x19.fCount, aI x19.fDistinct] false] (by kernel_rfl) (fin [(0, aR 0 1 y13.length), (6, .ptr 1 0), (12, .pv (encSl R_hist_Bucket a0)), (13, aI ((sll a0).length : Int)), (14, aI y14)] rfl (by kernel_rfl) (sq (rgd (shd 3 [(20, .agg [aI x19.fLow.fKind, aI x19.fLow.fInt, aF x19.fLow.fFloat, aS x19.fLow.fText]), (19, .ptr 1 0), (18, aR 0 1 y13.length)] (by kernel_rfl) ?_)))))
   obtain ⟨x22, h21, hm⟩ := bs hm
   obtain ⟨vv, H1, hC, g23, g24, q25, q26, rfl, rfl⟩ := ok_value_Put_r y13.length g15 (by first | rfl | assumption | omega | (simp only [List.length_set, List.length_append, List.length_cons, List.length_nil, List.length_replicate, List.length_drop] at * <;> omega)) (by first | exact Nat.zero_le _ | exact Nat.le_refl _ | assumption | omega | (simp only [List.length_set, List.length_append, List.length_cons, List.length_nil, List.length_replicate, List.length_drop] at * <;> omega)) h21
   refine dRd [(21, aR 0 1 g23)] [bR 5 1 (rI .u8) x22 g24 0, .box [aI x19.fLow.fKind, aI x19.fLow.fInt, aF x19.fLow.fFloat, aS x19.fLow.fText, aI x19.fHigh.fKind, aI x19.fHigh.fInt, aF x19.fHigh.fFloat, aS x19.fHigh.fText, aI x19.fCount, aI x19.fDistinct] false] [0] [aR 0 1 y13.length, .agg [aI x19.fLow.fKind, aI x19.fLow.fInt, aF x19.fLow.fFloat, aS x19.fLow.fText]] (by kernel_rfl) (by kernel_rfl) (by kernel_rfl) hC (by kernel_rfl) (shd 2 [(23, .agg [aI x19.fHigh.fKind, aI x19.fHigh.fInt, aF x19.fHigh.fFloat, aS x19.fHigh.fText]), (22, .ptr 1 4)] (by kernel_rfl) ?_)
   obtain ⟨x28, h27, hm⟩ := bs hm
   obtain ⟨vv, H1, hC, g29, g30, q31, q32, rfl, rfl⟩ := ok_value_Put_r g23 g24 (by first | rfl | assumption | omega | (simp only [List.length_set, List.length_append, List.length_cons, List.length_nil, List.length_replicate, List.length_drop] at * <;> omega)) (by first | exact Nat.zero_le _ | exact Nat.le_refl _ | assumption | omega | (simp only [List.length_set, List.length_append, List.length_cons, List.length_nil, List.length_replicate, List.length_drop] at * <;> omega)) h27
   refine dRd [(24, aR 0 1 g29)] [bR 5 1 (rI .u8) x28 g30 0, .box [aI x19.fLow.fKind, aI x19.fLow.fInt, aF x19.fLow.fFloat, aS x19.fLow.fText, aI x19.fHigh.fKind, aI x19.fHigh.fInt, aF x19.fHigh.fFloat, aS x19.fHigh.fText, aI x19.fCount, aI x19.fDistinct] false] [0] [aR 0 1 g23, .agg [aI x19.fHigh.fKind, aI x19.fHigh.fInt, aF x19.fHigh.fFloat, aS x19.fHigh.fText]] (by kernel_rfl) (by kernel_rfl) (by kernel_rfl) hC (by kernel_rfl) (shd 1 [(0, aR 0 1 g29)] (by kernel_rfl) (find [(0, aR 0 1 g29), (6, .ptr 1 0), (12, .pv (encSl R_hist_Bucket a0)), (13, aI ((sll a0).length : Int)), (14, aI y14)] rfl (by kernel_rfl) (by kernel_rfl) (rgd (shd 4 [(28, aU (IntKind.wrap .u64 x19.fCount)), (27, aI x19.fCount), (26, .ptr 1 8), (25, aR 0 1 g29)] (by kernel_rfl) ?_))))
   obtain ⟨x34, h33, hm⟩ := bs hm
   obtain ⟨vv, H1, hC, g35, q36, rfl, rfl⟩ := ok_codec_PutUint_r g29 g30 (by first | rfl | assumption | omega | (simp only [List.length_set, List.length_append, List.length_cons, List.length_nil, List.length_replicate, List.length_drop] at * <;> omega)) (by first | exact Nat.zero_le _ | exact Nat.le_refl _ | assumption | omega | (simp only [List.length_set, List.length_append, List.length_cons, List.length_nil, List.length_replicate, List.length_drop] at * <;> omega)) h33
   refine dRd [(29, aR 0 1 x34.length)] [bR 5 1 (rI .u8) x34 g35 0, .box [aI x19.fLow.fKind, aI x19.fLow.fInt, aF x19.fLow.fFloat, aS x19.fLow.fText, aI x19.fHigh.fKind, aI x19.fHigh.fInt, aF x19.fHigh.fFloat, aS x19.fHigh.fText, aI x19.fCount, aI x19.fDistinct] false] [0] [aR 0 1 g29, aU (IntKind.wrap .u64 x19.fCount)] (by kernel_rfl) (by kernel_rfl) (by kernel_rfl) hC (by kernel_rfl) (shd 3 [(32, aU (IntKind.wrap .u64 x19.fDistinct)), (31, aI x19.fDistinct), (30, .ptr 1 9)] (by kernel_rfl) ?_)
   obtain ⟨x38, h37, hm⟩ := bs hm
   obtain ⟨vv, H1, hC, g39, q40, rfl, rfl⟩ := ok_codec_PutUint_r x34.length g35 (by first | rfl | assumption | omega | (simp only [List.length_set, List.length_append, List.length_cons, List.length_nil, List.length_replicate, List.length_drop] at * <;> omega)) (by first | exact Nat.zero_le _ | exact Nat.le_refl _ | assumption | omega | (simp only [List.length_set, List.length_append, List.length_cons, List.length_nil, List.length_replicate, List.length_drop] at * <;> omega)) h37
   refine dRd [(33, aR 0 1 x38.length)] [bR 5 1 (rI .u8) x38 g39 0, .box [aI x19.fLow.fKind, aI x19.fLow.fInt, aF x19.fLow.fFloat, aS x19.fLow.fText, aI x19.fHigh.fKind, aI x19.fHigh.fInt, aF x19.fHigh.fFloat, aS x19.fHigh.fText, aI x19.fCount, aI x19.fDistinct] false] [0] [aR 0 1 x34.length, aU (IntKind.wrap .u64 x19.fDistinct)] (by kernel_rfl) (by kernel_rfl) (by kernel_rfl) hC (by kernel_rfl) (shd 1 [(0, aR 0 1 x38.length)] (by kernel_rfl) (find [(0, aR 0 1 x38.length), (12, .pv (encSl R_hist_Bucket a0)), (13, aI ((sll a0).length : Int)), (14, aI y14)] rfl (by kernel_rfl) (by kernel_rfl) (detn [(0, aR 0 1 x38.length), (12, .pv (encSl R_hist_Bucket a0)), (13, aI ((sll a0).length : Int)), (14, aI (IntKind.wrap .i64 (y14 + 1)))] (by kernel_rfl) ?_)))
   exact ⟨_, _, tidyL [(0, aR 0 1 x38.length), (12, .pv (encSl R_hist_Bucket a0)), (13, aI ((sll a0).length : Int)), (14, aI (IntKind.wrap .i64 (y14 + 1)))] [bR 5 1 (rI .u8) x38 g39 0] (by kernel_rfl), ⟨x38, (IntKind.wrap .i64 (y14 + 1)), g39, hm, rfl, rfl, (by first | exact Nat.zero_le _ | exact Nat.le_refl _ | assumption | omega | (simp only [List.length_set, List.length_append, List.length_cons, List.length_nil, List.length_replicate, List.length_drop] at * <;> omega))⟩⟩
  ·
   refine cf h18 (by kernel_rfl) (wp_exit ?_)
   exact ⟨y13, y14, (decide (y14 < ((sll a0).length : Int))), g15, hm, rfl, rfl, (by first | exact Nat.zero_le _ | exact Nat.le_refl _ | assumption | omega | (simp only [List.length_set, List.length_append, List.length_cons, List.length_nil, List.length_replicate, List.length_drop] at * <;> omega))⟩
theorem ok_codec_Read {n : Nat} {a0 : (Option (List Int))} {r : Unit} (hm : codec_Read n a0 = some r) :
    ∃ vv H1, call G n 23 [.pv (encSl (rI .u8) a0)] [] = some (.ret vv, H1) ∧ (vv = .ptr 0 0 ∧ H1 = [.box [aB true, .pv (encSl (rI .u8) a0), aI 0] false]) := by
  unfold codec_Read at hm
  obtain ⟨n, rfl, h0⟩ := at1_some hm
  replace hm := h0; clear h0
  refine callE 6 [(0, .pv (encSl (rI .u8) a0))] func23 rfl (by kernel_rfl) (sq (detn [(0, .pv (encSl (rI .u8) a0))] (by kernel_rfl) (sq (det [(2, .ptr 0 0)] [.box [aB true, .pv (encSl (rI .u8) a0), aI 0] false] (by kernel_rfl) (wp_ret ?_)))))
  obtain rfl := Option.some.inj hm
  exact ⟨trivial, .ptr 0 0, [.box [aB true, .pv (encSl (rI .u8) a0), aI 0] false], by kernel_rfl, rfl, rfl⟩
theorem ok_codec_Reader_ready {n : Nat} {a0 : codec_Reader} {r : Unit} (hm : codec_Reader_ready n a0 = some r) :
    ∃ vv H1, call G n 61 [.ptr 0 0] [.box [aB a0.fmade, .pv (encSl (rI .u8) a0.fb), aI a0.fe] false] = some (.ret vv, H1) ∧ (vv = aB (a0.fmade && (a0.fe == 0)) ∧ H1 = [.box [aB a0.fmade, .pv (encSl (rI .u8) a0.fb), aI a0.fe] false]) := by
  unfold codec_Reader_ready at hm
  obtain ⟨n, rfl, h0⟩ := at1_some hm
  replace hm := h0; clear h0
  refine callE 18 [(0, .ptr 0 0)] func61 rfl (by kernel_rfl) (sq (detn [(0, .ptr 0 0)] (by kernel_rfl) (sq (rg (sh 9 [(11, aB a0.fmade), (10, aB a0.fmade), (9, aB a0.fmade), (8, .ptr 0 0), (7, .ptr 0 0), (6, .ptr 0 0), (5, aB true), (4, aB true), (3, .ptr 0 0)] (by kernel_rfl) ?_)))))
  refine seg a0.fmade [11, 10, 9] (fun b => [(17, aB (b && (a0.fe == 0))), (16, ifA b (aB (a0.fe == 0)) (.undef)), (15, ifA b (aI a0.fe) (.undef)), (14, ifA b (.ptr 0 2) (.undef)), (13, ifA b (.ptr 0 0) (.undef)), (12, ifA b (.ptr 0 0) (.undef))]) 15 (by kernel_rfl) ?_ ?_ ?_
  ·
   intro Q h
   refine sh 6 [(17, aB (a0.fe == 0)), (16, aB (a0.fe == 0)), (15, aI a0.fe), (14, .ptr 0 2), (13, .ptr 0 0), (12, .ptr 0 0)] (by kernel_rfl) ?_
   exact sameN (by kernel_rfl) (by kernel_rfl) h
  ·
   intro Q h
   refine sh 6 [(17, aB false), (16, .undef), (15, .undef), (14, .undef), (13, .undef), (12, .undef)] (by kernel_rfl) ?_
   exact sameN (by kernel_rfl) (by kernel_rfl) h
  refine sh 1 [(2, aB (a0.fmade && (a0.fe == 0)))] (by kernel_rfl) (fin [(2, aB (a0.fmade && (a0.fe == 0)))] rfl (by kernel_rfl) (wp_ret ?_))
  obtain rfl := Option.some.inj hm
  exact ⟨trivial, aB (a0.fmade && (a0.fe == 0)), [.box [aB a0.fmade, .pv (encSl (rI .u8) a0.fb), aI a0.fe] false], by kernel_rfl, rfl, rfl⟩
theorem ok_codec_Reader_fail {n : Nat} {a0 : codec_Reader} {a1 : Int} {r : Unit} (hm : codec_Reader_fail n a0 a1 = some r) :
    ∃ vv H1, call G n 98 [.ptr 0 0, aI a1] [.box [aB a0.fmade, .pv (encSl (rI .u8) a0.fb), aI a0.fe] false] = some (.ret vv, H1) ∧ (vv = .tup [] ∧ H1 = [.box [aB a0.fmade, .pv .nils, aI a1] false]) := by
  unfold codec_Reader_fail at hm
  obtain ⟨n, rfl, h0⟩ := at1_some hm
  replace hm := h0; clear h0
  refine callE 11 [(0, .ptr 0 0), (1, aI a1)] func98 rfl (by kernel_rfl) (det [] [.box [aB a0.fmade, .pv .nils, aI a1] false] (by kernel_rfl) ?_)
  obtain rfl := Option.some.inj hm
  exact ⟨trivial, .tup [], [.box [aB a0.fmade, .pv .nils, aI a1] false], by kernel_rfl, rfl, rfl⟩
theorem ok_codec_Reader_take {n : Nat} {a0 : codec_Reader} {a1 : Int} {r : (Option (List Int)) × Int × (Option (List Int)) × Bool} (hm : codec_Reader_take n a0 a1 = some r) :
    ∃ vv H1, call G n 118 [.ptr 0 0, aI a1] [.box [aB a0.fmade, .pv (encSl (rI .u8) a0.fb), aI a0.fe] false] = some (.ret vv, H1) ∧ (match r with | (r0, r1, r2, r3) => (vv = .tup [.pv (encSl (rI .u8) r2), aB r3] ∧ H1 = [.box [aB a0.fmade, .pv (encSl (rI .u8) r0), aI r1] false])) := by
  unfold codec_Reader_take at hm
  obtain ⟨n, rfl, h0⟩ := at1_some hm
  replace hm := h0; clear h0
  refine callE 32 [(0, .ptr 0 0), (1, aI a1)] func118 rfl (by kernel_rfl) (sq (detn [(0, .ptr 0 0), (1, aI a1)] (by kernel_rfl) ?_))
  refine sq (sq (rg (sh 5 [(11, .pv (encSl (rI .u8) a0.fb)), (10, .ptr 0 1), (9, .ptr 0 0), (8, .ptr 0 0), (7, aI a1)] (by kernel_rfl) (dv 12 (v := aI ((sll a0.fb).length : Int)) (len_slO (rI .u8) a0.fb t43 (by kernel_rfl)) (by kernel_rfl) (sh 1 [(13, aB (decide (a1 > ((sll a0.fb).length : Int))))] (by kernel_rfl) (fin [(0, .ptr 0 0), (1, aI a1), (13, aB (decide (a1 > ((sll a0.fb).length : Int))))] rfl (by kernel_rfl) ?_))))))
  rcases bif_some hm with ⟨h1, hm⟩ | ⟨h1, hm⟩
  ·
   refine ct h1 (by kernel_rfl) (sq (rg (sh 1 [(14, .ptr 0 0)] (by kernel_rfl) ?_)))
   obtain ⟨_, h2, hm⟩ := bs hm
   obtain ⟨vv, H1, hC, rfl, rfl⟩ := ok_codec_Reader_fail h2
   refine dR [(15, .tup [])] [.box [aB a0.fmade, .pv .nils, aI 21] false] [0] [.ptr 0 0, aI 21] (by kernel_rfl) (by kernel_rfl) (by kernel_rfl) hC (by kernel_rfl) (fin [] rfl (by kernel_rfl) (sq (detn [(4, .pv .nils), (5, aB false)] (by kernel_rfl) (wp_ret ?_))))
   obtain rfl := Option.some.inj hm
   exact ⟨trivial, .tup [.pv .nils, aB false], [.box [aB a0.fmade, .pv .nils, aI 21] false], by kernel_rfl, rfl, rfl⟩
  ·
   refine cf h1 (by kernel_rfl) (wp_skip (sq (rg (sh 5 [(20, aI a1), (19, .pv (encSl (rI .u8) a0.fb)), (18, .ptr 0 1), (17, .ptr 0 0), (16, .ptr 0 0)] (by kernel_rfl) ?_))))
   obtain ⟨_, h3, hm⟩ := bs hm
   refine dv 21 (v := .pv (encSl (rI .u8) (subSl a0.fb 0 a1))) (slice_slO (rI .u8) a0.fb (k := .i64) (k' := .i64) (xl := none) (xh := some (aI a1)) (esz := 1) h3 (fun _ => rfl) (.inl ⟨rfl, rfl⟩) (.inr rfl) (by kernel_rfl)) (by kernel_rfl) (sh 1 [(6, .pv (encSl (rI .u8) (subSl a0.fb 0 a1)))] (by kernel_rfl) (fin [(0, .ptr 0 0), (1, aI a1), (6, .pv (encSl (rI .u8) (subSl a0.fb 0 a1)))] rfl (by kernel_rfl) (sq (rg (sh 6 [(27, aI a1), (26, .pv (encSl (rI .u8) a0.fb)), (25, .ptr 0 1), (24, .ptr 0 0), (23, .ptr 0 0), (22, .ptr 0 0)] (by kernel_rfl) ?_)))))
   obtain ⟨_, h4, hm⟩ := bs hm
   refine dv 28 (v := .pv (encSl (rI .u8) (subSl a0.fb a1 ((sll a0.fb).length : Int)))) (slice_slO (rI .u8) a0.fb (k := .i64) (k' := .i64) (xl := some (aI a1)) (xh := none) (esz := 1) h4 (fun _ => rfl) (.inr rfl) (.inl ⟨rfl, rfl⟩) (by kernel_rfl)) (by kernel_rfl) (st 3 [(30, .ptr 0 1), (29, .ptr 0 0)] [.box [aB a0.fmade, .pv (encSl (rI .u8) (subSl a0.fb a1 ((sll a0.fb).length : Int))), aI a0.fe] false] (by kernel_rfl) (fin [(6, .pv (encSl (rI .u8) (subSl a0.fb 0 a1)))] rfl (by kernel_rfl) (sq (detn [(4, .pv (encSl (rI .u8) (subSl a0.fb 0 a1))), (5, aB true)] (by kernel_rfl) (wp_ret ?_)))))
   obtain rfl := Option.some.inj hm
   exact ⟨trivial, .tup [.pv (encSl (rI .u8) (subSl a0.fb 0 a1)), aB true], [.box [aB a0.fmade, .pv (encSl (rI .u8) (subSl a0.fb a1 ((sll a0.fb).length : Int))), aI a0.fe] false], by kernel_rfl, rfl, rfl⟩
theorem ok_codec_Reader_number {n : Nat} {a0 : codec_Reader} {r : Bool × (Option (List Int)) × Int × Int × Bool} (hm : codec_Reader_number n a0 = some r) :
    ∃ vv H1, call G n 97 [.ptr 0 0] [.box [aB a0.fmade, .pv (encSl (rI .u8) a0.fb), aI a0.fe] false] = some (.ret vv, H1) ∧ (match r with | (r0, r1, r2, r3, r4) => (vv = .tup [aU r3, aB r4] ∧ H1 = [.box [aB r0, .pv (encSl (rI .u8) r1), aI r2] false])) := by
  unfold codec_Reader_number at hm
  obtain ⟨n, rfl, h0⟩ := at1_some hm
  replace hm := h0; clear h0
  refine callE 52 [(0, .ptr 0 0)] func97 rfl (by kernel_rfl) (sq (detn [(0, .ptr 0 0), (2, aU 0)] (by kernel_rfl) (scq (sq (detn [(0, .ptr 0 0), (2, aU 0), (4, aI 22)] (by kernel_rfl) ?_)))))
  refine sq (sq (detn [(0, .ptr 0 0), (2, aU 0), (4, aI 22), (5, aI 0)] (by kernel_rfl) (bq ?_)))
  refine loopF (fun mm t H => (∃ (y10 : Bool) (y11 : (Option (List Int))) (y12 : Int) (y13 : Int) (y14 : Int), codec_Reader_number_l4 n mm y10 y11 y12 y13 y14 = some r ∧ t = mk 52 [(0, .ptr 0 0), (2, aU y13), (4, aI 22), (5, aI y14)] ∧ H = [.box [aB y10, .pv (encSl (rI .u8) y11), aI y12] false])) (⟨a0.fmade, a0.fb, a0.fe, 0, 0, hm, rfl, rfl⟩) ?_ ?_
  · rintro _ _ ⟨y10, y11, y12, y13, y14, hm, _⟩; exact nomatch hm
  rintro m15 _ _ ⟨y10, y11, y12, y13, y14, hm, rfl, rfl⟩
  simp only [codec_Reader_number_l4] at hm
  refine sq (bq ?_)
  refine sq (sq (detn [(0, .ptr 0 0), (2, aU y13), (4, aI 22), (5, aI y14), (12, aB (y14 == 10))] (by kernel_rfl) ?_))
  rcases bif_some hm with ⟨h16, hm⟩ | ⟨h16, hm⟩
  ·
   refine ct h16 (by kernel_rfl) (wp_goto ?_)
   refine ⟨by kernel_rfl, ?_⟩
   refine wp_seq_r (by kernel_rfl) (wp_seq_r (by kernel_rfl) (sql (by kernel_rfl) (wp_label_l (sq (rg (sh 2 [(50, aI 22), (49, .ptr 0 0)] (by kernel_rfl) ?_))))))
   obtain ⟨_, h17, hm⟩ := bs hm
   obtain ⟨vv, H1, hC, rfl, rfl⟩ := ok_codec_Reader_fail h17
   refine dR [(51, .tup [])] [.box [aB ((codec_Reader.mk y10 y11 y12).fmade), .pv .nils, aI 22] false] [0] [.ptr 0 0, aI 22] (by kernel_rfl) (by kernel_rfl) (by kernel_rfl) hC (by kernel_rfl) (fin [] rfl (by kernel_rfl) (sq (detn [(2, aU 0), (3, aB false)] (by kernel_rfl) (wp_ret ?_))))
   obtain rfl := Option.some.inj hm
   exact ⟨trivial, .tup [aU 0, aB false], [.box [aB ((codec_Reader.mk y10 y11 y12).fmade), .pv .nils, aI 22] false], by kernel_rfl, rfl, rfl⟩
  ·
   refine cf h16 (by kernel_rfl) (wp_skip (sq (rg (sh 1 [(14, .ptr 0 0)] (by kernel_rfl) ?_))))
   obtain ⟨⟨x19, x20, x21, x22⟩, h18, hm⟩ := bs hm
   obtain ⟨vv, H1, hC, rfl, rfl⟩ := ok_codec_Reader_take h18
   refine dR [(15, .tup [.pv (encSl (rI .u8) x21), aB x22])] [.box [aB ((codec_Reader.mk y10 y11 y12).fmade), .pv (encSl (rI .u8) x19), aI x20] false] [0] [.ptr 0 0, aI 1] (by kernel_rfl) (by kernel_rfl) (by kernel_rfl) hC (by kernel_rfl) (sh 5 [(7, aB x22), (6, .pv (encSl (rI .u8) x21)), (17, aB x22), (16, .pv (encSl (rI .u8) x21)), (13, .tup [.pv (encSl (rI .u8) x21), aB x22])] (by kernel_rfl) (fin [(0, .ptr 0 0), (2, aU y13), (4, aI 22), (5, aI y14), (6, .pv (encSl (rI .u8) x21)), (7, aB x22)] rfl (by kernel_rfl) ?_))
   refine sq (sq (detn [(0, .ptr 0 0), (2, aU y13), (4, aI 22), (5, aI y14), (6, .pv (encSl (rI .u8) x21)), (19, aB (!x22))] (by kernel_rfl) ?_))
   rcases bif_some hm with ⟨h23, hm⟩ | ⟨h23, hm⟩
   ·
    refine ct h23 (by kernel_rfl) (sq (detn [(2, aU 0), (3, aB false)] (by kernel_rfl) (wp_ret ?_)))
    obtain rfl := Option.some.inj hm
    exact ⟨trivial, .tup [aU 0, aB false], [.box [aB ((codec_Reader.mk y10 y11 y12).fmade), .pv (encSl (rI .u8) x19), aI x20] false], by kernel_rfl, rfl, rfl⟩
   ·
    refine cf h23 (by kernel_rfl) (wp_skip (sq (rg (sh 1 [(20, .pv (encSl (rI .u8) x21))] (by kernel_rfl) ?_))))
    obtain ⟨x24, h25, hm⟩ := bs hm
    refine dv 21 (v := .pv (.ptr ((rI .u8) x24) 0)) (ia_slO (rI .u8) x21 .i64 t43 t5 h25 rfl (by kernel_rfl)) (by kernel_rfl) (sh 2 [(8, aY x24), (22, aY x24)] (by kernel_rfl) (fin [(0, .ptr 0 0), (2, aU y13), (4, aI 22), (5, aI y14), (8, aY x24)] rfl (by kernel_rfl) ?_))
    refine sq (sq (rg (sh 3 [(25, aB (y14 == 9)), (24, aB (y14 == 9)), (23, aI y14)] (by kernel_rfl) ?_)))
    refine seg (y14 == 9) [25, 24] (fun b => [(28, aB (b && (decide (x24 > 1)))), (27, ifA b (aB (decide (x24 > 1))) (.undef)), (26, ifA b (aY x24) (.undef))]) 6 (by kernel_rfl) ?_ ?_ ?_
    ·
     intro Q h
     refine sh 3 [(28, aB (decide (x24 > 1))), (27, aB (decide (x24 > 1))), (26, aY x24)] (by kernel_rfl) ?_
     exact sameN (by kernel_rfl) (by kernel_rfl) h
    ·
     intro Q h
     refine sh 3 [(28, aB false), (27, .undef), (26, .undef)] (by kernel_rfl) ?_
     exact sameN (by kernel_rfl) (by kernel_rfl) h
    refine sh 1 [(29, aB ((y14 == 9) && (decide (x24 > 1))))] (by kernel_rfl) ?_
    refine seg ((y14 == 9) && (decide (x24 > 1))) [29, 28] (fun b => [(36, aB (b || ((decide (y14 > 0)) && (x24 == 0)))), (35, ifA b (.undef) (aB ((decide (y14 > 0)) && (x24 == 0)))), (34, ifA b (.undef) (ifA (decide (y14 > 0)) (aB (x24 == 0)) (.undef))), (33, ifA b (.undef) (ifA (decide (y14 > 0)) (aY x24) (.undef))), (32, ifA b (.undef) (aB (decide (y14 > 0)))), (31, ifA b (.undef) (aB (decide (y14 > 0)))), (30, ifA b (.undef) (aI y14))]) 14 (by kernel_rfl) ?_ ?_ ?_
    ·
     intro Q h
     refine sh 7 [(36, aB true), (35, .undef), (34, .undef), (33, .undef), (32, .undef), (31, .undef), (30, .undef)] (by kernel_rfl) ?_
     exact sameN (by kernel_rfl) (by kernel_rfl) h
    ·
     intro Q h
     refine sh 3 [(32, aB (decide (y14 > 0))), (31, aB (decide (y14 > 0))), (30, aI y14)] (by kernel_rfl) ?_
     refine seg (decide (y14 > 0)) [32, 31] (fun b => [(35, aB (b && (x24 == 0))), (34, ifA b (aB (x24 == 0)) (.undef)), (33, ifA b (aY x24) (.undef))]) 13 (by kernel_rfl) ?_ ?_ ?_
     ·
      intro Q h
      refine sh 3 [(35, aB (x24 == 0)), (34, aB (x24 == 0)), (33, aY x24)] (by kernel_rfl) ?_
      exact sameN (by kernel_rfl) (by kernel_rfl) h
     ·
      intro Q h
      refine sh 3 [(35, aB false), (34, .undef), (33, .undef)] (by kernel_rfl) ?_
      exact sameN (by kernel_rfl) (by kernel_rfl) h
     refine sh 1 [(36, aB ((decide (y14 > 0)) && (x24 == 0)))] (by kernel_rfl) ?_
     exact sameN (by kernel_rfl) (by kernel_rfl) h
    refine fin [(0, .ptr 0 0), (2, aU y13), (4, aI 22), (5, aI y14), (8, aY x24), (36, aB (((y14 == 9) && (decide (x24 > 1))) || ((decide (y14 > 0)) && (x24 == 0))))] rfl (by kernel_rfl) ?_
    rcases bif_some hm with ⟨h26, hm⟩ | ⟨h26, hm⟩
    ·
     refine ct h26 (by kernel_rfl) (wp_goto ?_)
     refine ⟨by kernel_rfl, ?_⟩
     refine wp_seq_r (by kernel_rfl) (wp_seq_r (by kernel_rfl) (sql (by kernel_rfl) (wp_label_l (sq (rg (sh 2 [(50, aI 22), (49, .ptr 0 0)] (by kernel_rfl) ?_))))))
     obtain ⟨_, h27, hm⟩ := bs hm
     obtain ⟨vv, H1, hC, rfl, rfl⟩ := ok_codec_Reader_fail h27
     refine dR [(51, .tup [])] [.box [aB ((codec_Reader.mk ((codec_Reader.mk y10 y11 y12).fmade) x19 x20).fmade), .pv .nils, aI 22] false] [0] [.ptr 0 0, aI 22] (by kernel_rfl) (by kernel_rfl) (by kernel_rfl) hC (by kernel_rfl) (fin [] rfl (by kernel_rfl) (sq (detn [(2, aU 0), (3, aB false)] (by kernel_rfl) (wp_ret ?_))))
     obtain rfl := Option.some.inj hm
     exact ⟨trivial, .tup [aU 0, aB false], [.box [aB ((codec_Reader.mk ((codec_Reader.mk y10 y11 y12).fmade) x19 x20).fmade), .pv .nils, aI 22] false], by kernel_rfl, rfl, rfl⟩
    ·
     refine cf h26 (by kernel_rfl) (wp_skip (sq (rg (sh 7 [(43, aU (IntKind.wrap .u64 (IntKind.wrap .i64 (7 * y14)))), (42, aI (IntKind.wrap .i64 (7 * y14))), (41, aI y14), (40, aU (IntKind.wrap .u64 (iAnd .u8 x24 127))), (39, aY (iAnd .u8 x24 127)), (38, aY x24), (37, aU y13)] (by kernel_rfl) ?_))))
     obtain ⟨_, h28, hm⟩ := bs hm
     refine dv 44 (v := aU (iShl .u64 (IntKind.wrap .u64 (iAnd .u8 x24 127)) (IntKind.wrap .u64 (IntKind.wrap .i64 (7 * y14))))) (shlO h28 (by kernel_rfl)) (by kernel_rfl) (sh 2 [(2, aU (iOr .u64 y13 (iShl .u64 (IntKind.wrap .u64 (iAnd .u8 x24 127)) (IntKind.wrap .u64 (IntKind.wrap .i64 (7 * y14)))))), (45, aU (iOr .u64 y13 (iShl .u64 (IntKind.wrap .u64 (iAnd .u8 x24 127)) (IntKind.wrap .u64 (IntKind.wrap .i64 (7 * y14))))))] (by kernel_rfl) (fin [(0, .ptr 0 0), (2, aU (iOr .u64 y13 (iShl .u64 (IntKind.wrap .u64 (iAnd .u8 x24 127)) (IntKind.wrap .u64 (IntKind.wrap .i64 (7 * y14)))))), (4, aI 22), (5, aI y14), (8, aY x24)] rfl (by kernel_rfl) (sq (detn [(0, .ptr 0 0), (2, aU (iOr .u64 y13 (iShl .u64 (IntKind.wrap .u64 (iAnd .u8 x24 127)) (IntKind.wrap .u64 (IntKind.wrap .i64 (7 * y14)))))), (4, aI 22), (5, aI y14), (47, aB (decide (x24 < 128)))] (by kernel_rfl) ?_))))
     rcases bif_some hm with ⟨h29, hm⟩ | ⟨h29, hm⟩
     ·
      refine ct h29 (by kernel_rfl) (sq (detn [(2, aU (iOr .u64 y13 (iShl .u64 (IntKind.wrap .u64 (iAnd .u8 x24 127)) (IntKind.wrap .u64 (IntKind.wrap .i64 (7 * y14)))))), (3, aB true)] (by kernel_rfl) (wp_ret ?_)))
      obtain rfl := Option.some.inj hm
      exact ⟨trivial, .tup [aU (iOr .u64 y13 (iShl .u64 (IntKind.wrap .u64 (iAnd .u8 x24 127)) (IntKind.wrap .u64 (IntKind.wrap .i64 (7 * y14))))), aB true], [.box [aB ((codec_Reader.mk y10 y11 y12).fmade), .pv (encSl (rI .u8) x19), aI x20] false], by kernel_rfl, rfl, rfl⟩
     ·
      refine cf h29 (by kernel_rfl) (wp_skip (detn [(0, .ptr 0 0), (2, aU (iOr .u64 y13 (iShl .u64 (IntKind.wrap .u64 (iAnd .u8 x24 127)) (IntKind.wrap .u64 (IntKind.wrap .i64 (7 * y14)))))), (4, aI 22), (5, aI (IntKind.wrap .i64 (y14 + 1)))] (by kernel_rfl) ?_))
      exact ⟨_, _, tidyL [(0, .ptr 0 0), (2, aU (iOr .u64 y13 (iShl .u64 (IntKind.wrap .u64 (iAnd .u8 x24 127)) (IntKind.wrap .u64 (IntKind.wrap .i64 (7 * y14)))))), (4, aI 22), (5, aI (IntKind.wrap .i64 (y14 + 1)))] [.box [aB ((codec_Reader.mk y10 y11 y12).fmade), .pv (encSl (rI .u8) x19), aI x20] false] (by kernel_rfl), ⟨((codec_Reader.mk y10 y11 y12).fmade), x19, x20, (iOr .u64 y13 (iShl .u64 (IntKind.wrap .u64 (iAnd .u8 x24 127)) (IntKind.wrap .u64 (IntKind.wrap .i64 (7 * y14))))), (IntKind.wrap .i64 (y14 + 1)), hm, rfl, rfl⟩⟩
theorem ok_codec_Reader_Uint {n : Nat} {a0 : codec_Reader} {a1 : Int} {r : Bool × (Option (List Int)) × Int × Int} (hm : codec_Reader_Uint n a0 a1 = some r) :
    ∃ vv H1, call G n 58 [.ptr 0 0, aU a1] [.box [aB a0.fmade, .pv (encSl (rI .u8) a0.fb), aI a0.fe] false] = some (.ret vv, H1) ∧ (match r with | (r0, r1, r2, r3) => (vv = aU r3 ∧ H1 = [.box [aB r0, .pv (encSl (rI .u8) r1), aI r2] false])) := by
  unfold codec_Reader_Uint at hm
  obtain ⟨n, rfl, h0⟩ := at1_some hm
  replace hm := h0; clear h0
  refine callE 24 [(0, .ptr 0 0), (1, aU a1)] func58 rfl (by kernel_rfl) (sq (detn [(0, .ptr 0 0), (1, aU a1)] (by kernel_rfl) ?_))
  refine sq (sq (rg (sh 1 [(7, .ptr 0 0)] (by kernel_rfl) ?_)))
  obtain ⟨_, h1, hm⟩ := bs hm
  obtain ⟨vv, H1, hC, rfl, rfl⟩ := ok_codec_Reader_ready h1
  refine dR [(8, aB (a0.fmade && (a0.fe == 0)))] [.box [aB a0.fmade, .pv (encSl (rI .u8) a0.fb), aI a0.fe] false] [0] [.ptr 0 0] (by kernel_rfl) (by kernel_rfl) (by kernel_rfl) hC (by kernel_rfl) (sh 1 [(9, aB (!(a0.fmade && (a0.fe == 0))))] (by kernel_rfl) (fin [(0, .ptr 0 0), (1, aU a1), (9, aB (!(a0.fmade && (a0.fe == 0))))] rfl (by kernel_rfl) ?_))
  rcases bif_some hm with ⟨h2, hm⟩ | ⟨h2, hm⟩
  ·
   refine ct h2 (by kernel_rfl) (sq (detn [(4, aU 0)] (by kernel_rfl) (wp_ret ?_)))
   obtain rfl := Option.some.inj hm
   exact ⟨trivial, aU 0, [.box [aB a0.fmade, .pv (encSl (rI .u8) a0.fb), aI a0.fe] false], by kernel_rfl, rfl, rfl⟩
  ·
   refine cf h2 (by kernel_rfl) (wp_skip (sq (rg (sh 1 [(11, .ptr 0 0)] (by kernel_rfl) ?_))))
   obtain ⟨⟨x4, x5, x6, x7, x8⟩, h3, hm⟩ := bs hm
   obtain ⟨vv, H1, hC, rfl, rfl⟩ := ok_codec_Reader_number h3
   refine dR [(12, .tup [aU x7, aB x8])] [.box [aB x4, .pv (encSl (rI .u8) x5), aI x6] false] [0] [.ptr 0 0] (by kernel_rfl) (by kernel_rfl) (by kernel_rfl) hC (by kernel_rfl) (sh 5 [(6, aB x8), (5, aU x7), (14, aB x8), (13, aU x7), (10, .tup [aU x7, aB x8])] (by kernel_rfl) (fin [(0, .ptr 0 0), (1, aU a1), (5, aU x7), (6, aB x8)] rfl (by kernel_rfl) (sq (sq (rg (sh 2 [(16, aB x8), (15, aB x8)] (by kernel_rfl) ?_))))))
   refine seg x8 [16, 15, 6] (fun b => [(20, aB (b && (decide (x7 > a1)))), (19, ifA b (aB (decide (x7 > a1))) (.undef)), (18, ifA b (aU a1) (.undef)), (17, ifA b (aU x7) (.undef))]) 6 (by kernel_rfl) ?_ ?_ ?_
   ·
    intro Q h
    refine sh 4 [(20, aB (decide (x7 > a1))), (19, aB (decide (x7 > a1))), (18, aU a1), (17, aU x7)] (by kernel_rfl) ?_
    exact sameN (by kernel_rfl) (by kernel_rfl) h
   ·
    intro Q h
    refine sh 4 [(20, aB false), (19, .undef), (18, .undef), (17, .undef)] (by kernel_rfl) ?_
    exact sameN (by kernel_rfl) (by kernel_rfl) h
   refine fin [(0, .ptr 0 0), (5, aU x7), (20, aB (x8 && (decide (x7 > a1))))] rfl (by kernel_rfl) ?_
   rcases bif_some hm with ⟨h9, hm⟩ | ⟨h9, hm⟩
   ·
    refine ct h9 (by kernel_rfl) (sq (rg (sh 1 [(21, .ptr 0 0)] (by kernel_rfl) ?_)))
    obtain ⟨_, h10, hm⟩ := bs hm
    obtain ⟨vv, H1, hC, rfl, rfl⟩ := ok_codec_Reader_fail h10
    refine dR [(22, .tup [])] [.box [aB ((codec_Reader.mk x4 x5 x6).fmade), .pv .nils, aI 3] false] [0] [.ptr 0 0, aI 3] (by kernel_rfl) (by kernel_rfl) (by kernel_rfl) hC (by kernel_rfl) (fin [] rfl (by kernel_rfl) (sq (detn [(4, aU 0)] (by kernel_rfl) (wp_ret ?_))))
    obtain rfl := Option.some.inj hm
    exact ⟨trivial, aU 0, [.box [aB ((codec_Reader.mk x4 x5 x6).fmade), .pv .nils, aI 3] false], by kernel_rfl, rfl, rfl⟩
   ·
    refine cf h9 (by kernel_rfl) (wp_skip (sq (detn [(4, aU x7)] (by kernel_rfl) (wp_ret ?_))))
    obtain rfl := Option.some.inj hm
    exact ⟨trivial, aU x7, [.box [aB x4, .pv (encSl (rI .u8) x5), aI x6] false], by kernel_rfl, rfl, rfl⟩
theorem ok_codec_Reader_Fixed {n : Nat} {a0 : codec_Reader} {a1 : Int} {r : (Option (List Int)) × Int × Int} (hm : codec_Reader_Fixed n a0 a1 = some r) :
    ∃ vv H1, call G n 119 [.ptr 0 0, aI a1] [.box [aB a0.fmade, .pv (encSl (rI .u8) a0.fb), aI a0.fe] false] = some (.ret vv, H1) ∧ (match r with | (r0, r1, r2) => (vv = aU r2 ∧ H1 = [.box [aB a0.fmade, .pv (encSl (rI .u8) r0), aI r1] false])) := by
  unfold codec_Reader_Fixed at hm
  obtain ⟨n, rfl, h0⟩ := at1_some hm
  replace hm := h0; clear h0
  refine callE 34 [(0, .ptr 0 0), (1, aI a1)] func119 rfl (by kernel_rfl) (sq (detn [(0, .ptr 0 0), (1, aI a1)] (by kernel_rfl) ?_))
  refine sq (sq (rg (sh 1 [(10, .ptr 0 0)] (by kernel_rfl) ?_)))
  obtain ⟨_, h1, hm⟩ := bs hm
  obtain ⟨vv, H1, hC, rfl, rfl⟩ := ok_codec_Reader_ready h1
  refine dR [(11, aB (a0.fmade && (a0.fe == 0)))] [.box [aB a0.fmade, .pv (encSl (rI .u8) a0.fb), aI a0.fe] false] [0] [.ptr 0 0] (by kernel_rfl) (by kernel_rfl) (by kernel_rfl) hC (by kernel_rfl) (sh 1 [(12, aB (!(a0.fmade && (a0.fe == 0))))] (by kernel_rfl) (fin [(0, .ptr 0 0), (1, aI a1), (12, aB (!(a0.fmade && (a0.fe == 0))))] rfl (by kernel_rfl) ?_))
  rcases bif_some hm with ⟨h2, hm⟩ | ⟨h2, hm⟩
  ·
   refine ct h2 (by kernel_rfl) (sq (detn [(4, aU 0)] (by kernel_rfl) (wp_ret ?_)))
   obtain rfl := Option.some.inj hm
   exact ⟨trivial, aU 0, [.box [aB a0.fmade, .pv (encSl (rI .u8) a0.fb), aI a0.fe] false], by kernel_rfl, rfl, rfl⟩
  ·
   refine cf h2 (by kernel_rfl) (wp_skip (sq (rg (sh 4 [(17, aI (if 8 < (if 0 > a1 then 0 else a1) then 8 else (if 0 > a1 then 0 else a1))), (16, aI (if 0 > a1 then 0 else a1)), (15, aI a1), (14, .ptr 0 0)] (by kernel_rfl) ?_))))
   obtain ⟨⟨x4, x5, x6, x7⟩, h3, hm⟩ := bs hm
   obtain ⟨vv, H1, hC, rfl, rfl⟩ := ok_codec_Reader_take h3
   refine dR [(18, .tup [.pv (encSl (rI .u8) x6), aB x7])] [.box [aB a0.fmade, .pv (encSl (rI .u8) x4), aI x5] false] [0] [.ptr 0 0, aI (if 8 < (if 0 > a1 then 0 else a1) then 8 else (if 0 > a1 then 0 else a1))] (by kernel_rfl) (by kernel_rfl) (by kernel_rfl) hC (by kernel_rfl) (sh 5 [(6, aB x7), (5, .pv (encSl (rI .u8) x6)), (20, aB x7), (19, .pv (encSl (rI .u8) x6)), (13, .tup [.pv (encSl (rI .u8) x6), aB x7])] (by kernel_rfl) (fin [(5, .pv (encSl (rI .u8) x6))] rfl (by kernel_rfl) (sq (detn [(5, .pv (encSl (rI .u8) x6)), (7, aU 0)] (by kernel_rfl) ?_))))
   obtain ⟨k11, hk11, hm⟩ := withK_some hm
   refine mid (fun t H => (∃ (y8 : Int) (y9 : Bool) (y10 : Int), k11 y10 = some r ∧ t = mk 34 [(7, aU y10), (21, .pv (encSl (rI .u8) x6)), (22, aI ((sll x6).length : Int)), (23, aI y8), (24, aB y9)] ∧ H = [.box [aB a0.fmade, .pv (encSl (rI .u8) x4), aI x5] false])) ?_ ?_
   ·
    rintro _ _ ⟨y8, y9, y10, hm, rfl, rfl⟩
    subst hk11
    refine sq (detn [(4, aU y10)] (by kernel_rfl) (wp_ret ?_))
    obtain rfl := Option.some.inj hm
    exact ⟨trivial, aU y10, [.box [aB a0.fmade, .pv (encSl (rI .u8) x4), aI x5] false], by kernel_rfl, rfl, rfl⟩
   refine sq (rg (sh 1 [(21, .pv (encSl (rI .u8) x6))] (by kernel_rfl) (dv 22 (v := aI ((sll x6).length : Int)) (len_slO (rI .u8) x6 t43 (by kernel_rfl)) (by kernel_rfl) (sh 1 [(23, aI 0)] (by kernel_rfl) (fin [(7, aU 0), (21, .pv (encSl (rI .u8) x6)), (22, aI ((sll x6).length : Int)), (23, aI 0)] rfl (by kernel_rfl) (bq ?_))))))
   refine loopF (fun mm t H => (∃ (y14 : Int) (y15 : Int), codec_Reader_Fixed_l6 n x6 k11 mm y14 y15 = some r ∧ t = mk 34 [(7, aU y15), (21, .pv (encSl (rI .u8) x6)), (22, aI ((sll x6).length : Int)), (23, aI y14)] ∧ H = [.box [aB a0.fmade, .pv (encSl (rI .u8) x4), aI x5] false])) (⟨0, 0, hm, rfl, rfl⟩) ?_ ?_
   · rintro _ _ ⟨y14, y15, hm, _⟩; exact nomatch hm
   rintro m16 _ _ ⟨y14, y15, hm, rfl, rfl⟩
   simp only [codec_Reader_Fixed_l6] at hm
   refine sq (detn [(7, aU y15), (21, .pv (encSl (rI .u8) x6)), (22, aI ((sll x6).length : Int)), (23, aI y14), (24, aB (decide (y14 < ((sll x6).length : Int))))] (by kernel_rfl) ?_)
   refine sq ?_
   rcases bif_some hm with ⟨h17, hm⟩ | ⟨h17, hm⟩
   ·
    refine ct h17 (by kernel_rfl) (wp_skip (sq (bq (sq (rg ?_)))))
    obtain ⟨x18, h19, hm⟩ := bs hm
    refine dv 25 (v := .pv (.ptr ((rI .u8) x18) 0)) (ia_slO (rI .u8) x6 .i64 t43 t5 h19 rfl (by kernel_rfl)) (by kernel_rfl) (sh 2 [(9, aY x18), (26, aY x18)] (by kernel_rfl) (fin [(7, aU y15), (9, aY x18), (21, .pv (encSl (rI .u8) x6)), (22, aI ((sll x6).length : Int)), (23, aI y14)] rfl (by kernel_rfl) (detn [(7, aU (iOr .u64 (iShl .u64 y15 8) (IntKind.wrap .u64 x18))), (21, .pv (encSl (rI .u8) x6)), (22, aI ((sll x6).length : Int)), (23, aI y14)] (by kernel_rfl) (detn [(7, aU (iOr .u64 (iShl .u64 y15 8) (IntKind.wrap .u64 x18))), (21, .pv (encSl (rI .u8) x6)), (22, aI ((sll x6).length : Int)), (23, aI (IntKind.wrap .i64 (y14 + 1)))] (by kernel_rfl) ?_))))
    exact ⟨_, _, tidyL [(7, aU (iOr .u64 (iShl .u64 y15 8) (IntKind.wrap .u64 x18))), (21, .pv (encSl (rI .u8) x6)), (22, aI ((sll x6).length : Int)), (23, aI (IntKind.wrap .i64 (y14 + 1)))] [.box [aB a0.fmade, .pv (encSl (rI .u8) x4), aI x5] false] (by kernel_rfl), ⟨(IntKind.wrap .i64 (y14 + 1)), (iOr .u64 (iShl .u64 y15 8) (IntKind.wrap .u64 x18)), hm, rfl, rfl⟩⟩
   ·
    refine cf h17 (by kernel_rfl) (wp_exit ?_)
    exact ⟨y14, (decide (y14 < ((sll x6).length : Int))), y15, hm, rfl, rfl⟩
theorem ok_codec_Reader_Byte {n : Nat} {a0 : codec_Reader} {r : (Option (List Int)) × Int × Int} (hm : codec_Reader_Byte n a0 = some r) :
    ∃ vv H1, call G n 99 [.ptr 0 0] [.box [aB a0.fmade, .pv (encSl (rI .u8) a0.fb), aI a0.fe] false] = some (.ret vv, H1) ∧ (match r with | (r0, r1, r2) => (vv = aY r2 ∧ H1 = [.box [aB a0.fmade, .pv (encSl (rI .u8) r0), aI r1] false])) := by
  unfold codec_Reader_Byte at hm
  obtain ⟨n, rfl, h0⟩ := at1_some hm
  replace hm := h0; clear h0
  refine callE 6 [(0, .ptr 0 0)] func99 rfl (by kernel_rfl) (sq (detn [(0, .ptr 0 0)] (by kernel_rfl) (sq (rg (sh 1 [(3, .ptr 0 0)] (by kernel_rfl) ?_)))))
  obtain ⟨⟨x2, x3, x4⟩, h1, hm⟩ := bs hm
  obtain ⟨vv, H1, hC, rfl, rfl⟩ := ok_codec_Reader_Fixed h1
  refine dR [(4, aU x4)] [.box [aB a0.fmade, .pv (encSl (rI .u8) x2), aI x3] false] [0] [.ptr 0 0, aI 1] (by kernel_rfl) (by kernel_rfl) (by kernel_rfl) hC (by kernel_rfl) (sh 2 [(2, aY (IntKind.wrap .u8 x4)), (5, aY (IntKind.wrap .u8 x4))] (by kernel_rfl) (fin [(2, aY (IntKind.wrap .u8 x4))] rfl (by kernel_rfl) (wp_ret ?_)))
  obtain rfl := Option.some.inj hm
  exact ⟨trivial, aY (IntKind.wrap .u8 x4), [.box [aB a0.fmade, .pv (encSl (rI .u8) x2), aI x3] false], by kernel_rfl, rfl, rfl⟩
theorem ok_codec_Reader_Int {n : Nat} {a0 : codec_Reader} {r : Bool × (Option (List Int)) × Int × Int} (hm : codec_Reader_Int n a0 = some r) :
    ∃ vv H1, call G n 112 [.ptr 0 0] [.box [aB a0.fmade, .pv (encSl (rI .u8) a0.fb), aI a0.fe] false] = some (.ret vv, H1) ∧ (match r with | (r0, r1, r2, r3) => (vv = aI r3 ∧ H1 = [.box [aB r0, .pv (encSl (rI .u8) r1), aI r2] false])) := by
  unfold codec_Reader_Int at hm
  obtain ⟨n, rfl, h0⟩ := at1_some hm
  replace hm := h0; clear h0
  refine callE 16 [(0, .ptr 0 0)] func112 rfl (by kernel_rfl) (sq (detn [(0, .ptr 0 0)] (by kernel_rfl) (sq (rg (sh 1 [(4, .ptr 0 0)] (by kernel_rfl) ?_)))))
  obtain ⟨⟨x2, x3, x4, x5⟩, h1, hm⟩ := bs hm
  obtain ⟨vv, H1, hC, rfl, rfl⟩ := ok_codec_Reader_Uint h1
  refine dR [(5, aU x5)] [.box [aB x2, .pv (encSl (rI .u8) x3), aI x4] false] [0] [.ptr 0 0, aU 18446744073709551615] (by kernel_rfl) (by kernel_rfl) (by kernel_rfl) hC (by kernel_rfl) (sh 1 [(3, aU x5)] (by kernel_rfl) (fin [(3, aU x5)] rfl (by kernel_rfl) (sq (sq (detn [(3, aU x5), (8, aB ((iAnd .u64 x5 1) == 1))] (by kernel_rfl) ?_)))))
  rcases bif_some hm with ⟨h6, hm⟩ | ⟨h6, hm⟩
  ·
   refine ct h6 (by kernel_rfl) (sq (detn [(2, aI (IntKind.wrap .i64 (notI .u64 (iShr .u64 x5 1))))] (by kernel_rfl) (wp_ret ?_)))
   obtain rfl := Option.some.inj hm
   exact ⟨trivial, aI (IntKind.wrap .i64 (notI .u64 (iShr .u64 x5 1))), [.box [aB x2, .pv (encSl (rI .u8) x3), aI x4] false], by kernel_rfl, rfl, rfl⟩
  ·
   refine cf h6 (by kernel_rfl) (wp_skip (sq (detn [(2, aI (IntKind.wrap .i64 (iShr .u64 x5 1)))] (by kernel_rfl) (wp_ret ?_))))
   obtain rfl := Option.some.inj hm
   exact ⟨trivial, aI (IntKind.wrap .i64 (iShr .u64 x5 1)), [.box [aB x2, .pv (encSl (rI .u8) x3), aI x4] false], by kernel_rfl, rfl, rfl⟩
theorem ok_codec_Reader_Float {n : Nat} {a0 : codec_Reader} {r : Bool × (Option (List Int)) × Int × Nat} (hm : codec_Reader_Float n a0 = some r) :
    ∃ vv H1, call G n 113 [.ptr 0 0] [.box [aB a0.fmade, .pv (encSl (rI .u8) a0.fb), aI a0.fe] false] = some (.ret vv, H1) ∧ (match r with | (r0, r1, r2, r3) => (vv = aF r3 ∧ H1 = [.box [aB r0, .pv (encSl (rI .u8) r1), aI r2] false])) := by
  unfold codec_Reader_Float at hm
  obtain ⟨n, rfl, h0⟩ := at1_some hm
  replace hm := h0; clear h0
  refine callE 19 [(0, .ptr 0 0)] func113 rfl (by kernel_rfl) (sq (detn [(0, .ptr 0 0)] (by kernel_rfl) (sq (rg (sh 1 [(5, .ptr 0 0)] (by kernel_rfl) ?_)))))
  obtain ⟨⟨x2, x3, x4⟩, h1, hm⟩ := bs hm
  obtain ⟨vv, H1, hC, rfl, rfl⟩ := ok_codec_Reader_Fixed h1
  refine dR [(6, aU x4)] [.box [aB a0.fmade, .pv (encSl (rI .u8) x2), aI x3] false] [0] [.ptr 0 0, aI 8] (by kernel_rfl) (by kernel_rfl) (by kernel_rfl) hC (by kernel_rfl) (sh 1 [(3, aU x4)] (by kernel_rfl) (fin [(0, .ptr 0 0), (3, aU x4)] rfl (by kernel_rfl) ?_))
  refine sq (sq (rg (sh 1 [(7, .ptr 0 0)] (by kernel_rfl) ?_)))
  obtain ⟨_, h5, hm⟩ := bs hm
  obtain ⟨vv, H1, hC, rfl, rfl⟩ := ok_codec_Reader_ready h5
  refine dR [(8, aB ((codec_Reader.mk a0.fmade x2 x3).fmade && ((codec_Reader.mk a0.fmade x2 x3).fe == 0)))] [.box [aB a0.fmade, .pv (encSl (rI .u8) x2), aI x3] false] [0] [.ptr 0 0] (by kernel_rfl) (by kernel_rfl) (by kernel_rfl) hC (by kernel_rfl) (sh 1 [(9, aB (!((codec_Reader.mk a0.fmade x2 x3).fmade && ((codec_Reader.mk a0.fmade x2 x3).fe == 0))))] (by kernel_rfl) (fin [(0, .ptr 0 0), (3, aU x4), (9, aB (!((codec_Reader.mk a0.fmade x2 x3).fmade && ((codec_Reader.mk a0.fmade x2 x3).fe == 0))))] rfl (by kernel_rfl) ?_))
  rcases bif_some hm with ⟨h6, hm⟩ | ⟨h6, hm⟩
  ·
   refine ct h6 (by kernel_rfl) (sq (detn [(2, aF 0)] (by kernel_rfl) (wp_ret ?_)))
   obtain rfl := Option.some.inj hm
   exact ⟨trivial, aF 0, [.box [aB a0.fmade, .pv (encSl (rI .u8) x2), aI x3] false], by kernel_rfl, rfl, rfl⟩
  ·
   refine cf h6 (by kernel_rfl) (wp_skip (sq (rg (sh 1 [(10, aU x4)] (by kernel_rfl) (sh 1 [(11, aF (Int.toNat x4))] (by kernel_rfl) (sh 1 [(4, aF (Int.toNat x4))] (by kernel_rfl) (fin [(0, .ptr 0 0), (3, aU x4), (4, aF (Int.toNat x4))] rfl (by kernel_rfl) (sq (sq (rg (sh 1 [(12, aF (Int.toNat x4))] (by kernel_rfl) ?_)))))))))))
   obtain ⟨x7, h8, hm⟩ := bs hm
   refine dv 13 (cpure (by kernel_rfl) (ok_codec_bits h8) (by kernel_rfl) (by kernel_rfl) (by kernel_rfl)) (by kernel_rfl) (sh 2 [(15, aB (x7 != x4)), (14, aU x4)] (by kernel_rfl) (fin [(0, .ptr 0 0), (4, aF (Int.toNat x4)), (15, aB (x7 != x4))] rfl (by kernel_rfl) ?_))
   rcases bif_some hm with ⟨h9, hm⟩ | ⟨h9, hm⟩
   ·
    refine ct h9 (by kernel_rfl) (sq (rg (sh 1 [(16, .ptr 0 0)] (by kernel_rfl) ?_)))
    obtain ⟨_, h10, hm⟩ := bs hm
    obtain ⟨vv, H1, hC, rfl, rfl⟩ := ok_codec_Reader_fail h10
    refine dR [(17, .tup [])] [.box [aB ((codec_Reader.mk a0.fmade x2 x3).fmade), .pv .nils, aI 22] false] [0] [.ptr 0 0, aI 22] (by kernel_rfl) (by kernel_rfl) (by kernel_rfl) hC (by kernel_rfl) (fin [] rfl (by kernel_rfl) (sq (detn [(2, aF 0)] (by kernel_rfl) (wp_ret ?_))))
    obtain rfl := Option.some.inj hm
    exact ⟨trivial, aF 0, [.box [aB ((codec_Reader.mk a0.fmade x2 x3).fmade), .pv .nils, aI 22] false], by kernel_rfl, rfl, rfl⟩
   ·
    refine cf h9 (by kernel_rfl) (wp_skip (sq (detn [(2, aF (Int.toNat x4))] (by kernel_rfl) (wp_ret ?_))))
    obtain rfl := Option.some.inj hm
    exact ⟨trivial, aF (Int.toNat x4), [.box [aB a0.fmade, .pv (encSl (rI .u8) x2), aI x3] false], by kernel_rfl, rfl, rfl⟩
theorem ok_codec_Reader_Text {n : Nat} {a0 : codec_Reader} {a1 : Int} {r : Bool × (Option (List Int)) × Int × ByteArray} (hm : codec_Reader_Text n a0 a1 = some r) :
    ∃ vv H1, call G n 114 [.ptr 0 0, aI a1] [.box [aB a0.fmade, .pv (encSl (rI .u8) a0.fb), aI a0.fe] false] = some (.ret vv, H1) ∧ (match r with | (r0, r1, r2, r3) => (vv = aS r3 ∧ H1 = [.box [aB r0, .pv (encSl (rI .u8) r1), aI r2] false])) := by
  unfold codec_Reader_Text at hm
  obtain ⟨n, rfl, h0⟩ := at1_some hm
  replace hm := h0; clear h0
  refine callE 25 [(0, .ptr 0 0), (1, aI a1)] func114 rfl (by kernel_rfl) (sq (detn [(0, .ptr 0 0), (1, aI a1)] (by kernel_rfl) (sq (rg (sh 4 [(11, aU (IntKind.wrap .u64 (if 0 > a1 then 0 else a1))), (10, aI (if 0 > a1 then 0 else a1)), (9, aI a1), (8, .ptr 0 0)] (by kernel_rfl) ?_)))))
  obtain ⟨⟨x2, x3, x4, x5⟩, h1, hm⟩ := bs hm
  obtain ⟨vv, H1, hC, rfl, rfl⟩ := ok_codec_Reader_Uint h1
  refine dR [(12, aU x5)] [.box [aB x2, .pv (encSl (rI .u8) x3), aI x4] false] [0] [.ptr 0 0, aU (IntKind.wrap .u64 (if 0 > a1 then 0 else a1))] (by kernel_rfl) (by kernel_rfl) (by kernel_rfl) hC (by kernel_rfl) (sh 1 [(5, aU x5)] (by kernel_rfl) (fin [(0, .ptr 0 0), (5, aU x5)] rfl (by kernel_rfl) ?_))
  refine sq (sq (rg (sh 1 [(13, .ptr 0 0)] (by kernel_rfl) ?_)))
  obtain ⟨_, h6, hm⟩ := bs hm
  obtain ⟨vv, H1, hC, rfl, rfl⟩ := ok_codec_Reader_ready h6
  refine dR [(14, aB ((codec_Reader.mk x2 x3 x4).fmade && ((codec_Reader.mk x2 x3 x4).fe == 0)))] [.box [aB x2, .pv (encSl (rI .u8) x3), aI x4] false] [0] [.ptr 0 0] (by kernel_rfl) (by kernel_rfl) (by kernel_rfl) hC (by kernel_rfl) (sh 1 [(15, aB (!((codec_Reader.mk x2 x3 x4).fmade && ((codec_Reader.mk x2 x3 x4).fe == 0))))] (by kernel_rfl) (fin [(0, .ptr 0 0), (5, aU x5), (15, aB (!((codec_Reader.mk x2 x3 x4).fmade && ((codec_Reader.mk x2 x3 x4).fe == 0))))] rfl (by kernel_rfl) ?_))
  rcases bif_some hm with ⟨h7, hm⟩ | ⟨h7, hm⟩
  ·
   refine ct h7 (by kernel_rfl) (sq (detn [(4, aS ByteArray.empty)] (by kernel_rfl) (wp_ret ?_)))
   obtain rfl := Option.some.inj hm
   exact ⟨trivial, aS ByteArray.empty, [.box [aB x2, .pv (encSl (rI .u8) x3), aI x4] false], by kernel_rfl, rfl, rfl⟩
  ·
   refine cf h7 (by kernel_rfl) (wp_skip (sq (rg (sh 3 [(19, aI (IntKind.wrap .i64 x5)), (18, aU x5), (17, .ptr 0 0)] (by kernel_rfl) ?_))))
   obtain ⟨⟨x9, x10, x11, x12⟩, h8, hm⟩ := bs hm
   obtain ⟨vv, H1, hC, rfl, rfl⟩ := ok_codec_Reader_take h8
   refine dR [(20, .tup [.pv (encSl (rI .u8) x11), aB x12])] [.box [aB ((codec_Reader.mk x2 x3 x4).fmade), .pv (encSl (rI .u8) x9), aI x10] false] [0] [.ptr 0 0, aI (IntKind.wrap .i64 x5)] (by kernel_rfl) (by kernel_rfl) (by kernel_rfl) hC (by kernel_rfl) (sh 5 [(7, aB x12), (6, .pv (encSl (rI .u8) x11)), (22, aB x12), (21, .pv (encSl (rI .u8) x11)), (16, .tup [.pv (encSl (rI .u8) x11), aB x12])] (by kernel_rfl) (fin [(6, .pv (encSl (rI .u8) x11))] rfl (by kernel_rfl) (sq (rg (sh 1 [(23, .pv (encSl (rI .u8) x11))] (by kernel_rfl) (dv 24 (v := aS (strOf (sll x11))) (str_ofO (l := (sll x11)) t43 t9 t5 (src_sl (R := (rI .u8)) (s := x11)) (noStr_sl x11) (by kernel_rfl)) (by kernel_rfl) (sh 1 [(4, aS (strOf (sll x11)))] (by kernel_rfl) (fin [(4, aS (strOf (sll x11)))] rfl (by kernel_rfl) (wp_ret ?_)))))))))
   obtain rfl := Option.some.inj hm
   exact ⟨trivial, aS (strOf (sll x11)), [.box [aB ((codec_Reader.mk x2 x3 x4).fmade), .pv (encSl (rI .u8) x9), aI x10] false], by kernel_rfl, rfl, rfl⟩
theorem ok_codec_Reader_Err {n : Nat} {a0 : codec_Reader} {r : Int} (hm : codec_Reader_Err n a0 = some r) :
    ∃ vv H1, call G n 60 [.ptr 0 0] [.box [aB a0.fmade, .pv (encSl (rI .u8) a0.fb), aI a0.fe] false] = some (.ret vv, H1) ∧ (match r with | r0 => (vv = aI r0 ∧ H1 = [.box [aB a0.fmade, .pv (encSl (rI .u8) a0.fb), aI a0.fe] false])) := by
  unfold codec_Reader_Err at hm
  obtain ⟨n, rfl, h0⟩ := at1_some hm
  replace hm := h0; clear h0
  refine callE 16 [(0, .ptr 0 0)] func60 rfl (by kernel_rfl) (sq (detn [(0, .ptr 0 0)] (by kernel_rfl) (sq (sq (detn [(0, .ptr 0 0), (11, aB (!a0.fmade))] (by kernel_rfl) ?_)))))
  rcases bif_some hm with ⟨h1, hm⟩ | ⟨h1, hm⟩
  ·
   refine ct h1 (by kernel_rfl) (sq (detn [(2, aI 1)] (by kernel_rfl) (wp_ret ?_)))
   obtain rfl := Option.some.inj hm
   exact ⟨trivial, aI 1, [.box [aB a0.fmade, .pv (encSl (rI .u8) a0.fb), aI a0.fe] false], by kernel_rfl, rfl, rfl⟩
  ·
   refine cf h1 (by kernel_rfl) (wp_skip (sq (detn [(2, aI a0.fe)] (by kernel_rfl) (wp_ret ?_))))
   obtain rfl := Option.some.inj hm
   exact ⟨trivial, aI a0.fe, [.box [aB a0.fmade, .pv (encSl (rI .u8) a0.fb), aI a0.fe] false], by kernel_rfl, rfl, rfl⟩
theorem ok_value_Take {n : Nat} {a0 : codec_Reader} {r : Bool × (Option (List Int)) × Int × Int × Int × Nat × ByteArray × Int} (hm : value_Take n a0 = some r) :
    ∃ vv H1, call G n 83 [.ptr 0 0] [.box [aB a0.fmade, .pv (encSl (rI .u8) a0.fb), aI a0.fe] false] = some (.ret vv, H1) ∧ (match r with | (r0, r1, r2, r3, r4, r5, r6, r7) => (vv = .tup [.agg [aI r3, aI r4, aF r5, aS r6], aI r7] ∧ H1 = [.box [aB r0, .pv (encSl (rI .u8) r1), aI r2] false])) := by
  unfold value_Take at hm
  obtain ⟨n, rfl, h0⟩ := at1_some hm
  replace hm := h0; clear h0
  refine callE 46 [(0, .ptr 0 0)] func83 rfl (by kernel_rfl) (sq (det [(0, .ptr 0 0), (2, .ptr 1 0)] [.box [aB a0.fmade, .pv (encSl (rI .u8) a0.fb), aI a0.fe] false, .box [aI 0, aI 0, aF 0, aS ByteArray.empty] false] (by kernel_rfl) (sq (rg (sh 1 [(6, .ptr 0 0)] (by kernel_rfl) ?_)))))
  obtain ⟨⟨x2, x3, x4⟩, h1, hm⟩ := bs hm
  obtain ⟨vv, H1, hC, rfl, rfl⟩ := ok_codec_Reader_Byte h1
  refine dR [(7, aY x4)] [.box [aB a0.fmade, .pv (encSl (rI .u8) x2), aI x3] false, .box [aI 0, aI 0, aF 0, aS ByteArray.empty] false] [0] [.ptr 0 0] (by kernel_rfl) (by kernel_rfl) (by kernel_rfl) hC (by kernel_rfl) (st 4 [(4, .ptr 2 0), (9, .agg [aI (IntKind.wrap .i64 x4), aI 0, aF 0, aS ByteArray.empty]), (8, aI (IntKind.wrap .i64 x4))] [.box [aB a0.fmade, .pv (encSl (rI .u8) x2), aI x3] false, .box [aI 0, aI 0, aF 0, aS ByteArray.empty] false, .box [aI (IntKind.wrap .i64 x4), aI 0, aF 0, aS ByteArray.empty] false] (by kernel_rfl) (fin [(0, .ptr 0 0), (2, .ptr 1 0), (4, .ptr 2 0)] rfl (by kernel_rfl) ?_))
  obtain ⟨k12, hk12, hm⟩ := withK_some hm
  refine mid (fun t H => (∃ (y6 : Bool) (y7 : (Option (List Int))) (y8 : Int) (y9 : Int) (y10 : Nat) (y11 : ByteArray) (w5 : AV), k12 y6 y7 y8 y9 y10 y11 = some r ∧ t = mk 46 [(0, .ptr 0 0), (2, .ptr 1 0), (4, .ptr 2 0), (28, w5)] ∧ H = [.box [aB y6, .pv (encSl (rI .u8) y7), aI y8] false, .box [aI 0, aI 0, aF 0, aS ByteArray.empty] false, .box [aI (IntKind.wrap .i64 x4), aI y9, aF y10, aS y11] false])) ?_ ?_
  ·
   rintro _ _ ⟨y6, y7, y8, y9, y10, y11, w5, hm, rfl, rfl⟩
   subst hk12
   refine sq (sq (rg (sh 1 [(33, .ptr 0 0)] (by kernel_rfl) ?_)))
   obtain ⟨x14, h13, hm⟩ := bs hm
   obtain ⟨vv, H1, hC, rfl, rfl⟩ := ok_codec_Reader_Err h13
   refine dR [(34, aI x14)] [.box [aB y6, .pv (encSl (rI .u8) y7), aI y8] false, .box [aI 0, aI 0, aF 0, aS ByteArray.empty] false, .box [aI (IntKind.wrap .i64 x4), aI y9, aF y10, aS y11] false] [0] [.ptr 0 0] (by kernel_rfl) (by kernel_rfl) (by kernel_rfl) hC (by kernel_rfl) (sh 1 [(5, aI x14)] (by kernel_rfl) (fin [(2, .ptr 1 0), (4, .ptr 2 0), (5, aI x14)] rfl (by kernel_rfl) (bq (sq (detn [(2, .ptr 1 0), (4, .ptr 2 0), (5, aI x14), (35, aB (x14 != 0))] (by kernel_rfl) ?_)))))
   rcases bif_some hm with ⟨h15, hm⟩ | ⟨h15, hm⟩
   ·
    refine ct h15 (by kernel_rfl) (sq (detn [(2, .ptr 1 0), (3, aI x14)] (by kernel_rfl) (wp_ret ?_)))
    obtain rfl := Option.some.inj hm
    exact ⟨trivial, .tup [.agg [aI 0, aI 0, aF 0, aS ByteArray.empty], aI x14], [.box [aB y6, .pv (encSl (rI .u8) y7), aI y8] false], by kernel_rfl, rfl, rfl⟩
   ·
    refine cf h15 (by kernel_rfl) (sq (rg (sh 1 [(41, .agg [aI (IntKind.wrap .i64 x4), aI y9, aF y10, aS y11])] (by kernel_rfl) ?_)))
    obtain ⟨x16, h17, hm⟩ := bs hm
    refine dv 42 (cpure (by kernel_rfl) (ok_value_Right h17) (by kernel_rfl) (by kernel_rfl) (by kernel_rfl)) (by kernel_rfl) (sh 2 [(40, aB (!x16)), (43, aB (!x16))] (by kernel_rfl) (fin [(2, .ptr 1 0), (4, .ptr 2 0), (40, aB (!x16))] rfl (by kernel_rfl) ?_))
    rcases bif_some hm with ⟨h18, hm⟩ | ⟨h18, hm⟩
    ·
     refine ct h18 (by kernel_rfl) (sq (detn [(2, .ptr 1 0), (3, aI 22)] (by kernel_rfl) (wp_ret ?_)))
     obtain rfl := Option.some.inj hm
     exact ⟨trivial, .tup [.agg [aI 0, aI 0, aF 0, aS ByteArray.empty], aI 22], [.box [aB y6, .pv (encSl (rI .u8) y7), aI y8] false], by kernel_rfl, rfl, rfl⟩
    ·
     refine cf h18 (by kernel_rfl) (wp_skip (sq (det [(2, .ptr 1 0), (3, aI 0)] [.box [aB y6, .pv (encSl (rI .u8) y7), aI y8] false, .box [aI (IntKind.wrap .i64 x4), aI y9, aF y10, aS y11] false, .box [aI (IntKind.wrap .i64 x4), aI y9, aF y10, aS y11] false] (by kernel_rfl) (wp_ret ?_))))
     obtain rfl := Option.some.inj hm
     exact ⟨trivial, .tup [.agg [aI (IntKind.wrap .i64 x4), aI y9, aF y10, aS y11], aI 0], [.box [aB y6, .pv (encSl (rI .u8) y7), aI y8] false], by kernel_rfl, rfl, rfl⟩
  refine sq (detn [(0, .ptr 0 0), (2, .ptr 1 0), (4, .ptr 2 0), (11, aI (IntKind.wrap .i64 x4))] (by kernel_rfl) (bq (sq (detn [(0, .ptr 0 0), (2, .ptr 1 0), (4, .ptr 2 0), (11, aI (IntKind.wrap .i64 x4)), (12, aB ((IntKind.wrap .i64 x4) == 1))] (by kernel_rfl) ?_))))
  rcases bif_some hm with ⟨h19, hm⟩ | ⟨h19, hm⟩
  ·
   refine ct h19 (by kernel_rfl) (rg (sh 1 [(14, .ptr 0 0)] (by kernel_rfl) ?_))
   obtain ⟨⟨x21, x22, x23⟩, h20, hm⟩ := bs hm
   obtain ⟨vv, H1, hC, rfl, rfl⟩ := ok_codec_Reader_Byte h20
   refine dR [(15, aY x23)] [.box [aB ((codec_Reader.mk a0.fmade x2 x3).fmade), .pv (encSl (rI .u8) x21), aI x22] false, .box [aI 0, aI 0, aF 0, aS ByteArray.empty] false, .box [aI (IntKind.wrap .i64 x4), aI 0, aF 0, aS ByteArray.empty] false] [0] [.ptr 0 0] (by kernel_rfl) (by kernel_rfl) (by kernel_rfl) hC (by kernel_rfl) (st 3 [(17, .ptr 2 1), (16, aI (IntKind.wrap .i64 x23))] [.box [aB ((codec_Reader.mk a0.fmade x2 x3).fmade), .pv (encSl (rI .u8) x21), aI x22] false, .box [aI 0, aI 0, aF 0, aS ByteArray.empty] false, .box [aI (IntKind.wrap .i64 x4), aI (IntKind.wrap .i64 x23), aF 0, aS ByteArray.empty] false] (by kernel_rfl) (fin [(0, .ptr 0 0), (2, .ptr 1 0), (4, .ptr 2 0)] rfl (by kernel_rfl) ?_))
   exact ⟨((codec_Reader.mk a0.fmade x2 x3).fmade), x21, x22, (IntKind.wrap .i64 x23), 0, ByteArray.empty, .any, hm, (mk_same (by kernel_rfl)), rfl⟩
  ·
   refine cf h19 (by kernel_rfl) (sq (detn [(0, .ptr 0 0), (2, .ptr 1 0), (4, .ptr 2 0), (11, aI (IntKind.wrap .i64 x4)), (18, aB ((IntKind.wrap .i64 x4) == 2))] (by kernel_rfl) ?_))
   rcases bif_some hm with ⟨h24, hm⟩ | ⟨h24, hm⟩
   ·
    refine ct h24 (by kernel_rfl) (rg (sh 1 [(20, .ptr 0 0)] (by kernel_rfl) ?_))
    obtain ⟨⟨x26, x27, x28, x29⟩, h25, hm⟩ := bs hm
    obtain ⟨vv, H1, hC, rfl, rfl⟩ := ok_codec_Reader_Int h25
    refine dR [(21, aI x29)] [.box [aB x26, .pv (encSl (rI .u8) x27), aI x28] false, .box [aI 0, aI 0, aF 0, aS ByteArray.empty] false, .box [aI (IntKind.wrap .i64 x4), aI 0, aF 0, aS ByteArray.empty] false] [0] [.ptr 0 0] (by kernel_rfl) (by kernel_rfl) (by kernel_rfl) hC (by kernel_rfl) (st 2 [(22, .ptr 2 1)] [.box [aB x26, .pv (encSl (rI .u8) x27), aI x28] false, .box [aI 0, aI 0, aF 0, aS ByteArray.empty] false, .box [aI (IntKind.wrap .i64 x4), aI x29, aF 0, aS ByteArray.empty] false] (by kernel_rfl) (fin [(0, .ptr 0 0), (2, .ptr 1 0), (4, .ptr 2 0)] rfl (by kernel_rfl) ?_))
    exact ⟨x26, x27, x28, x29, 0, ByteArray.empty, .any, hm, (mk_same (by kernel_rfl)), rfl⟩
   ·
    refine cf h24 (by kernel_rfl) (sq (detn [(0, .ptr 0 0), (2, .ptr 1 0), (4, .ptr 2 0), (11, aI (IntKind.wrap .i64 x4)), (23, aB ((IntKind.wrap .i64 x4) == 3))] (by kernel_rfl) ?_))
    rcases bif_some hm with ⟨h30, hm⟩ | ⟨h30, hm⟩
    ·
     refine ct h30 (by kernel_rfl) (rg (sh 1 [(25, .ptr 0 0)] (by kernel_rfl) ?_))
     obtain ⟨⟨x32, x33, x34, x35⟩, h31, hm⟩ := bs hm
     obtain ⟨vv, H1, hC, rfl, rfl⟩ := ok_codec_Reader_Float h31
     refine dR [(26, aF x35)] [.box [aB x32, .pv (encSl (rI .u8) x33), aI x34] false, .box [aI 0, aI 0, aF 0, aS ByteArray.empty] false, .box [aI (IntKind.wrap .i64 x4), aI 0, aF 0, aS ByteArray.empty] false] [0] [.ptr 0 0] (by kernel_rfl) (by kernel_rfl) (by kernel_rfl) hC (by kernel_rfl) (st 2 [(27, .ptr 2 2)] [.box [aB x32, .pv (encSl (rI .u8) x33), aI x34] false, .box [aI 0, aI 0, aF 0, aS ByteArray.empty] false, .box [aI (IntKind.wrap .i64 x4), aI 0, aF x35, aS ByteArray.empty] false] (by kernel_rfl) (fin [(0, .ptr 0 0), (2, .ptr 1 0), (4, .ptr 2 0)] rfl (by kernel_rfl) ?_))
     exact ⟨x32, x33, x34, 0, x35, ByteArray.empty, .any, hm, (mk_same (by kernel_rfl)), rfl⟩
    ·
     refine cf h30 (by kernel_rfl) (sq (detn [(0, .ptr 0 0), (2, .ptr 1 0), (4, .ptr 2 0), (28, aB ((IntKind.wrap .i64 x4) == 4))] (by kernel_rfl) ?_))
     rcases bif_some hm with ⟨h36, hm⟩ | ⟨h36, hm⟩
     ·
      refine ct h36 (by kernel_rfl) (rg (sh 1 [(30, .ptr 0 0)] (by kernel_rfl) ?_))
      obtain ⟨⟨x38, x39, x40, x41⟩, h37, hm⟩ := bs hm
      obtain ⟨vv, H1, hC, rfl, rfl⟩ := ok_codec_Reader_Text h37
      refine dR [(31, aS x41)] [.box [aB x38, .pv (encSl (rI .u8) x39), aI x40] false, .box [aI 0, aI 0, aF 0, aS ByteArray.empty] false, .box [aI (IntKind.wrap .i64 x4), aI 0, aF 0, aS ByteArray.empty] false] [0] [.ptr 0 0, aI 64] (by kernel_rfl) (by kernel_rfl) (by kernel_rfl) hC (by kernel_rfl) (st 2 [(32, .ptr 2 3)] [.box [aB x38, .pv (encSl (rI .u8) x39), aI x40] false, .box [aI 0, aI 0, aF 0, aS ByteArray.empty] false, .box [aI (IntKind.wrap .i64 x4), aI 0, aF 0, aS x41] false] (by kernel_rfl) (fin [(0, .ptr 0 0), (2, .ptr 1 0), (4, .ptr 2 0)] rfl (by kernel_rfl) ?_))
      exact ⟨x38, x39, x40, 0, 0, x41, .any, hm, (mk_same (by kernel_rfl)), rfl⟩
     ·
      refine cf h36 (by kernel_rfl) (wp_skip ?_)
      exact ⟨a0.fmade, x2, x3, 0, 0, ByteArray.empty, aB ((IntKind.wrap .i64 x4) == 4), hm, (mk_same (by kernel_rfl)), rfl⟩
theorem ok_hist_Take {n : Nat} {a0 : codec_Reader} {r : Bool × (Option (List Int)) × Int × (Option (List hist_Bucket)) × Int} (hm : hist_Take n a0 = some r) :
    ∃ vv H1, call G n 44 [.ptr 0 0] [.box [aB a0.fmade, .pv (encSl (rI .u8) a0.fb), aI a0.fe] false] = some (.ret vv, H1) ∧ (match r with | (r0, r1, r2, none, r3) => (vv = .tup [.pv .nils, aI r3] ∧ H1 = [.box [aB r0, .pv (encSl (rI .u8) r1), aI r2] false]) | (r0, r1, r2, some r4, r3) => (vv = .tup [aR 1 10 r4.length, aI r3] ∧ H1 = [.box [aB r0, .pv (encSl (rI .u8) r1), aI r2] false, bR 77 10 R_hist_Bucket r4 0 0])) := by
  unfold hist_Take at hm
  obtain ⟨n, rfl, h0⟩ := at1_some hm
  replace hm := h0; clear h0
  refine callE 51 [(0, .ptr 0 0)] func44 rfl (by kernel_rfl) (sq (detn [(0, .ptr 0 0)] (by kernel_rfl) (sq (detn [(0, .ptr 0 0), (4, .pv .nils)] (by kernel_rfl) ?_))))
  obtain ⟨k8, hk8, hm⟩ := withK_some hm
  refine mid (fun t H => (∃ (y4 : Bool) (y5 : (Option (List Int))) (y6 : Int) (w1 : AV) (w2 : AV) (w3 : AV), k8 y4 y5 y6 none = some r ∧ t = mk 51 [(0, .ptr 0 0), (4, .pv .nils), (9, w1), (10, w2), (11, w3)] ∧ H = [.box [aB y4, .pv (encSl (rI .u8) y5), aI y6] false]) ∨ (∃ (y4 : Bool) (y5 : (Option (List Int))) (y6 : Int) (y7 : (List hist_Bucket)) (w1 : AV) (w2 : AV) (w3 : AV), k8 y4 y5 y6 (some y7) = some r ∧ t = mk 51 [(0, .ptr 0 0), (4, aR 1 10 y7.length), (9, w1), (10, w2), (11, w3)] ∧ H = [.box [aB y4, .pv (encSl (rI .u8) y5), aI y6] false, bR 77 10 R_hist_Bucket y7 0 0])) ?_ ?_
  ·
   rintro _ _ (⟨y4, y5, y6, w1, w2, w3, hm, rfl, rfl⟩ | ⟨y4, y5, y6, y7, w1, w2, w3, hm, rfl, rfl⟩)
   ·
    subst hk8
    refine sq (sq (rg (sh 1 [(42, .ptr 0 0)] (by kernel_rfl) ?_)))
    obtain ⟨x10, h9, hm⟩ := bs hm
    obtain ⟨vv, H1, hC, rfl, rfl⟩ := ok_codec_Reader_Err h9
    refine dR [(43, aI x10)] [.box [aB y4, .pv (encSl (rI .u8) y5), aI y6] false] [0] [.ptr 0 0] (by kernel_rfl) (by kernel_rfl) (by kernel_rfl) hC (by kernel_rfl) (sh 1 [(7, aI x10)] (by kernel_rfl) (fin [(4, .pv .nils), (7, aI x10)] rfl (by kernel_rfl) (sq (detn [(4, .pv .nils), (7, aI x10), (45, aB (x10 != 0))] (by kernel_rfl) ?_))))
    rcases bif_some hm with ⟨h11, hm⟩ | ⟨h11, hm⟩
    ·
     refine ct h11 (by kernel_rfl) (sq (detn [(2, .pv .nils), (3, aI x10)] (by kernel_rfl) (wp_ret ?_)))
     obtain rfl := Option.some.inj hm
     exact ⟨trivial, .tup [.pv .nils, aI x10], [.box [aB y4, .pv (encSl (rI .u8) y5), aI y6] false], by kernel_rfl, rfl, rfl⟩
    ·
     refine cf h11 (by kernel_rfl) (wp_skip (sq (sq (rg (sh 1 [(47, .pv .nils)] (by kernel_rfl) ?_)))))
     obtain ⟨x12, h13, hm⟩ := bs hm
     refine dv 48 (cpure (by kernel_rfl) (ok_hist_Right h13) (by kernel_rfl) (by kernel_rfl) (by kernel_rfl)) (by kernel_rfl) (sh 1 [(49, aB (!x12))] (by kernel_rfl) (fin [(4, .pv .nils), (49, aB (!x12))] rfl (by kernel_rfl) ?_))
     rcases bif_some hm with ⟨h14, hm⟩ | ⟨h14, hm⟩
     ·
      refine ct h14 (by kernel_rfl) (sq (detn [(2, .pv .nils), (3, aI 22)] (by kernel_rfl) (wp_ret ?_)))
      obtain rfl := Option.some.inj hm
      exact ⟨trivial, .tup [.pv .nils, aI 22], [.box [aB y4, .pv (encSl (rI .u8) y5), aI y6] false], by kernel_rfl, rfl, rfl⟩
     ·
      refine cf h14 (by kernel_rfl) (wp_skip (sq (detn [(2, .pv .nils), (3, aI 0)] (by kernel_rfl) (wp_ret ?_))))
      obtain rfl := Option.some.inj hm
      exact ⟨trivial, .tup [.pv .nils, aI 0], [.box [aB y4, .pv (encSl (rI .u8) y5), aI y6] false], by kernel_rfl, rfl, rfl⟩
   ·
    subst hk8
    refine sq (sq (rg (sh 1 [(42, .ptr 0 0)] (by kernel_rfl) ?_)))
    obtain ⟨x16, h15, hm⟩ := bs hm
    obtain ⟨vv, H1, hC, rfl, rfl⟩ := ok_codec_Reader_Err h15
    refine dR [(43, aI x16)] [.box [aB y4, .pv (encSl (rI .u8) y5), aI y6] false, bR 77 10 R_hist_Bucket y7 0 0] [0] [.ptr 0 0] (by kernel_rfl) (by kernel_rfl) (by kernel_rfl) hC (by kernel_rfl) (sh 1 [(7, aI x16)] (by kernel_rfl) (fin [(4, aR 1 10 y7.length), (7, aI x16)] rfl (by kernel_rfl) (sq (detn [(4, aR 1 10 y7.length), (7, aI x16), (45, aB (x16 != 0))] (by kernel_rfl) ?_))))
    rcases bif_some hm with ⟨h17, hm⟩ | ⟨h17, hm⟩
    ·
     refine ct h17 (by kernel_rfl) (sq (detn [(2, .pv .nils), (3, aI x16)] (by kernel_rfl) (wp_ret ?_)))
     obtain rfl := Option.some.inj hm
     exact ⟨trivial, .tup [.pv .nils, aI x16], [.box [aB y4, .pv (encSl (rI .u8) y5), aI y6] false], by kernel_rfl, rfl, rfl⟩
    ·
     refine cf h17 (by kernel_rfl) (wp_skip (sq (sq (rg (sh 1 [(47, aR 1 10 y7.length)] (by kernel_rfl) ?_)))))
     obtain ⟨x18, h19, hm⟩ := bs hm
     refine dO [(48, aB x18)] [.box [aB y4, .pv (encSl (rI .u8) y5), aI y6] false, bR 77 10 R_hist_Bucket y7 0 0] (cpureR [1] [aR 1 10 y7.length] (fl := true) (by kernel_rfl) (by kernel_rfl) (pAs_cons (pA_ref (pur_ref' (n := y7.length) (id := 1) (l := y7) (R := R_hist_Bucket) rfl rfl (Nat.zero_le _))) (rfl)) (ok_hist_Right h19) (by kernel_rfl) (by kernel_rfl)) (by kernel_rfl) (sh 1 [(49, aB (!x18))] (by kernel_rfl) (fin [(4, aR 1 10 y7.length), (49, aB (!x18))] rfl (by kernel_rfl) ?_))
     rcases bif_some hm with ⟨h20, hm⟩ | ⟨h20, hm⟩
     ·
      refine ct h20 (by kernel_rfl) (sq (detn [(2, .pv .nils), (3, aI 22)] (by kernel_rfl) (wp_ret ?_)))
      obtain rfl := Option.some.inj hm
      exact ⟨trivial, .tup [.pv .nils, aI 22], [.box [aB y4, .pv (encSl (rI .u8) y5), aI y6] false], by kernel_rfl, rfl, rfl⟩
     ·
      refine cf h20 (by kernel_rfl) (wp_skip (sq (detn [(2, aR 1 10 y7.length), (3, aI 0)] (by kernel_rfl) (wp_ret ?_))))
      obtain rfl := Option.some.inj hm
      exact ⟨trivial, .tup [aR 1 10 y7.length, aI 0], [.box [aB y4, .pv (encSl (rI .u8) y5), aI y6] false, bR 77 10 R_hist_Bucket y7 0 0], by kernel_rfl, rfl, rfl⟩
  refine sq (rg (sh 1 [(8, .ptr 0 0)] (by kernel_rfl) ?_))
  obtain ⟨⟨x22, x23, x24, x25⟩, h21, hm⟩ := bs hm
  obtain ⟨vv, H1, hC, rfl, rfl⟩ := ok_codec_Reader_Uint h21
  refine dR [(9, aU x25)] [.box [aB x22, .pv (encSl (rI .u8) x23), aI x24] false] [0] [.ptr 0 0, aU 50] (by kernel_rfl) (by kernel_rfl) (by kernel_rfl) hC (by kernel_rfl) (sh 1 [(10, aU 0)] (by kernel_rfl) (fin [(0, .ptr 0 0), (4, .pv .nils), (9, aU x25), (10, aU 0)] rfl (by kernel_rfl) (bq ?_)))
  refine loopF (fun mm t H => (∃ (y32 : Bool) (y33 : (Option (List Int))) (y34 : Int) (y35 : Int), hist_Take_l3 n k8 x25 mm y32 y33 y34 y35 none = some r ∧ t = mk 51 [(0, .ptr 0 0), (4, .pv .nils), (9, aU x25), (10, aU y35)] ∧ H = [.box [aB y32, .pv (encSl (rI .u8) y33), aI y34] false]) ∨ (∃ (y32 : Bool) (y33 : (Option (List Int))) (y34 : Int) (y35 : Int) (y36 : (List hist_Bucket)), hist_Take_l3 n k8 x25 mm y32 y33 y34 y35 (some y36) = some r ∧ t = mk 51 [(0, .ptr 0 0), (4, aR 1 10 y36.length), (9, aU x25), (10, aU y35)] ∧ H = [.box [aB y32, .pv (encSl (rI .u8) y33), aI y34] false, bR 77 10 R_hist_Bucket y36 0 0])) (.inl ⟨x22, x23, x24, 0, hm, rfl, rfl⟩) ?_ ?_
  · rintro _ _ (⟨y32, y33, y34, y35, hm, _⟩ | ⟨y32, y33, y34, y35, y36, hm, _⟩) <;> exact nomatch hm
  rintro m37 _ _ (⟨y32, y33, y34, y35, hm, rfl, rfl⟩ | ⟨y32, y33, y34, y35, y36, hm, rfl, rfl⟩)
  ·
   simp only [hist_Take_l3] at hm
   refine sq (detn [(0, .ptr 0 0), (4, .pv .nils), (9, aU x25), (10, aU y35), (11, aB (decide (y35 < x25)))] (by kernel_rfl) ?_)
   refine sq ?_
   rcases bif_some hm with ⟨h38, hm⟩ | ⟨h38, hm⟩
   ·
    refine ct h38 (by kernel_rfl) (wp_skip (sq (bq (sq (det [(0, .ptr 0 0), (4, .pv .nils), (5, .ptr 1 0), (9, aU x25), (10, aU y35)] [.box [aB y32, .pv (encSl (rI .u8) y33), aI y34] false, .box [aI 0, aI 0, aF 0, aS ByteArray.empty, aI 0, aI 0, aF 0, aS ByteArray.empty, aI 0, aI 0] false] (by kernel_rfl) (sq (detn [(0, .ptr 0 0), (4, .pv .nils), (5, .ptr 1 0), (9, aU x25), (10, aU y35)] (by kernel_rfl) ?_)))))))
    obtain ⟨k52, hk52, hm⟩ := withK_some hm
    refine mid (fun t H => (∃ (y40 : Bool) (y41 : (Option (List Int))) (y42 : Int) (y43 : Int) (y44 : Int) (y45 : Nat) (y46 : ByteArray) (y47 : Int) (y48 : Int) (y49 : Nat) (y50 : ByteArray) (y51 : Int) (w39 : AV), k52 y40 y41 y42 y43 y44 y45 y46 y47 y48 y49 y50 y51 = some r ∧ t = mk 51 [(0, .ptr 0 0), (4, .pv .nils), (5, .ptr 1 0), (6, aI y51), (9, aU x25), (10, aU y35), (19, w39)] ∧ H = [.box [aB y40, .pv (encSl (rI .u8) y41), aI y42] false, .box [aI y43, aI y44, aF y45, aS y46, aI y47, aI y48, aF y49, aS y50, aI 0, aI 0] false])) ?_ ?_
    ·
     rintro _ _ ⟨y40, y41, y42, y43, y44, y45, y46, y47, y48, y49, y50, y51, w39, hm, rfl, rfl⟩
     subst hk52
     refine sq (sq (detn [(0, .ptr 0 0), (4, .pv .nils), (5, .ptr 1 0), (6, aI y51), (9, aU x25), (10, aU y35), (27, aB (y51 != 0))] (by kernel_rfl) ?_))
     rcases bif_some hm with ⟨h53, hm⟩ | ⟨h53, hm⟩
     ·
      refine ct h53 (by kernel_rfl) (sq (detn [(2, .pv .nils), (3, aI y51)] (by kernel_rfl) (wp_ret ?_)))
      obtain rfl := Option.some.inj hm
      exact ⟨trivial, .tup [.pv .nils, aI y51], [.box [aB y40, .pv (encSl (rI .u8) y41), aI y42] false], by kernel_rfl, rfl, rfl⟩
     ·
      refine cf h53 (by kernel_rfl) (wp_skip (sq (rg (sh 1 [(29, .ptr 0 0)] (by kernel_rfl) ?_))))
      obtain ⟨⟨x55, x56, x57, x58⟩, h54, hm⟩ := bs hm
      obtain ⟨vv, H1, hC, rfl, rfl⟩ := ok_codec_Reader_Uint h54
      refine dR [(30, aU x58)] [.box [aB x55, .pv (encSl (rI .u8) x56), aI x57] false, .box [aI y43, aI y44, aF y45, aS y46, aI y47, aI y48, aF y49, aS y50, aI 0, aI 0] false] [0] [.ptr 0 0, aU 1000000] (by kernel_rfl) (by kernel_rfl) (by kernel_rfl) hC (by kernel_rfl) (st 3 [(32, .ptr 1 8), (31, aI (IntKind.wrap .i64 x58))] [.box [aB x55, .pv (encSl (rI .u8) x56), aI x57] false, .box [aI y43, aI y44, aF y45, aS y46, aI y47, aI y48, aF y49, aS y50, aI (IntKind.wrap .i64 x58), aI 0] false] (by kernel_rfl) (fin [(0, .ptr 0 0), (4, .pv .nils), (5, .ptr 1 0), (9, aU x25), (10, aU y35)] rfl (by kernel_rfl) (sq (rg (sh 1 [(33, .ptr 0 0)] (by kernel_rfl) ?_)))))
      obtain ⟨⟨x60, x61, x62, x63⟩, h59, hm⟩ := bs hm
      obtain ⟨vv, H1, hC, rfl, rfl⟩ := ok_codec_Reader_Uint h59
      refine dR [(34, aU x63)] [.box [aB x60, .pv (encSl (rI .u8) x61), aI x62] false, .box [aI y43, aI y44, aF y45, aS y46, aI y47, aI y48, aF y49, aS y50, aI (IntKind.wrap .i64 x58), aI 0] false] [0] [.ptr 0 0, aU 1000000] (by kernel_rfl) (by kernel_rfl) (by kernel_rfl) hC (by kernel_rfl) (st 3 [(36, .ptr 1 9), (35, aI (IntKind.wrap .i64 x63))] [.box [aB x60, .pv (encSl (rI .u8) x61), aI x62] false, .box [aI y43, aI y44, aF y45, aS y46, aI y47, aI y48, aF y49, aS y50, aI (IntKind.wrap .i64 x58), aI (IntKind.wrap .i64 x63)] false] (by kernel_rfl) (fin [(0, .ptr 0 0), (4, .pv .nils), (5, .ptr 1 0), (9, aU x25), (10, aU y35)] rfl (by kernel_rfl) (rg (st 3 [(39, aR 2 10 1), (38, .agg [aI y43, aI y44, aF y45, aS y46, aI y47, aI y48, aF y49, aS y50, aI (IntKind.wrap .i64 x58), aI (IntKind.wrap .i64 x63)]), (37, .pv .nils)] [.box [aB x60, .pv (encSl (rI .u8) x61), aI x62] false, .box [aI y43, aI y44, aF y45, aS y46, aI y47, aI y48, aF y49, aS y50, aI (IntKind.wrap .i64 x58), aI (IntKind.wrap .i64 x63)] false, bR 77 10 R_hist_Bucket ([(hist_Bucket.mk (api_Value.mk y43 y44 y45 y46) (api_Value.mk y47 y48 y49 y50) (IntKind.wrap .i64 x58) (IntKind.wrap .i64 x63))] : List hist_Bucket) 0 0] (by kernel_rfl) ?_))))
      obtain ⟨_, h64, hm⟩ := bs hm
      refine dO [(40, aR 3 10 (([(hist_Bucket.mk (api_Value.mk y43 y44 y45 y46) (api_Value.mk y47 y48 y49 y50) (IntKind.wrap .i64 x58) (IntKind.wrap .i64 x63))] : List hist_Bucket).length))] [.box [aB x60, .pv (encSl (rI .u8) x61), aI x62] false, .box [aI y43, aI y44, aF y45, aS y46, aI y47, aI y48, aF y49, aS y50, aI (IntKind.wrap .i64 x58), aI (IntKind.wrap .i64 x63)] false, bR 77 10 R_hist_Bucket ([(hist_Bucket.mk (api_Value.mk y43 y44 y45 y46) (api_Value.mk y47 y48 y49 y50) (IntKind.wrap .i64 x58) (IntKind.wrap .i64 x63))] : List hist_Bucket) 0 0, bR 77 10 R_hist_Bucket ([(hist_Bucket.mk (api_Value.mk y43 y44 y45 y46) (api_Value.mk y47 y48 y49 y50) (IntKind.wrap .i64 x58) (IntKind.wrap .i64 x63))] : List hist_Bucket) 0 0] (app_nilO (u := 0) R_hist_Bucket ([(hist_Bucket.mk (api_Value.mk y43 y44 y45 y46) (api_Value.mk y47 y48 y49 y50) (IntKind.wrap .i64 x58) (IntKind.wrap .i64 x63))] : List hist_Bucket) (b := 96) t53 t77 rfl rfl rfl (fun _ => rfl) rfl h64 (show srcRows (aR 2 10 1) _ = some (([(hist_Bucket.mk (api_Value.mk y43 y44 y45 y46) (api_Value.mk y47 y48 y49 y50) (IntKind.wrap .i64 x58) (IntKind.wrap .i64 x63))] : List hist_Bucket).map R_hist_Bucket) from by kernel_rfl) (by kernel_rfl)) (by kernel_rfl) (sh 1 [(4, aR 3 10 (([(hist_Bucket.mk (api_Value.mk y43 y44 y45 y46) (api_Value.mk y47 y48 y49 y50) (IntKind.wrap .i64 x58) (IntKind.wrap .i64 x63))] : List hist_Bucket).length))] (by kernel_rfl) (fin [(0, .ptr 0 0), (4, aR 3 10 (([(hist_Bucket.mk (api_Value.mk y43 y44 y45 y46) (api_Value.mk y47 y48 y49 y50) (IntKind.wrap .i64 x58) (IntKind.wrap .i64 x63))] : List hist_Bucket).length)), (9, aU x25), (10, aU y35)] rfl (by kernel_rfl) (detn [(0, .ptr 0 0), (4, aR 3 10 (([(hist_Bucket.mk (api_Value.mk y43 y44 y45 y46) (api_Value.mk y47 y48 y49 y50) (IntKind.wrap .i64 x58) (IntKind.wrap .i64 x63))] : List hist_Bucket).length)), (9, aU x25), (10, aU (IntKind.wrap .u64 (y35 + 1)))] (by kernel_rfl) ?_)))
      exact ⟨_, _, tidyL [(0, .ptr 0 0), (4, aR 1 10 (([(hist_Bucket.mk (api_Value.mk y43 y44 y45 y46) (api_Value.mk y47 y48 y49 y50) (IntKind.wrap .i64 x58) (IntKind.wrap .i64 x63))] : List hist_Bucket).length)), (9, aU x25), (10, aU (IntKind.wrap .u64 (y35 + 1)))] [.box [aB x60, .pv (encSl (rI .u8) x61), aI x62] false, bR 77 10 R_hist_Bucket ([(hist_Bucket.mk (api_Value.mk y43 y44 y45 y46) (api_Value.mk y47 y48 y49 y50) (IntKind.wrap .i64 x58) (IntKind.wrap .i64 x63))] : List hist_Bucket) 0 0] (by kernel_rfl), .inr (⟨x60, x61, x62, (IntKind.wrap .u64 (y35 + 1)), ([(hist_Bucket.mk (api_Value.mk y43 y44 y45 y46) (api_Value.mk y47 y48 y49 y50) (IntKind.wrap .i64 x58) (IntKind.wrap .i64 x63))] : List hist_Bucket), hm, rfl, rfl⟩)⟩
    refine sq (rg (sh 1 [(13, .ptr 0 0)] (by kernel_rfl) ?_))
    obtain ⟨⟨x66, x67, x68, x69, x70, x71, x72, x73⟩, h65, hm⟩ := bs hm
    obtain ⟨vv, H1, hC, rfl, rfl⟩ := ok_value_Take h65
    refine dR [(14, .tup [.agg [aI x69, aI x70, aF x71, aS x72], aI x73])] [.box [aB x66, .pv (encSl (rI .u8) x67), aI x68] false, .box [aI 0, aI 0, aF 0, aS ByteArray.empty, aI 0, aI 0, aF 0, aS ByteArray.empty, aI 0, aI 0] false] [0] [.ptr 0 0] (by kernel_rfl) (by kernel_rfl) (by kernel_rfl) hC (by kernel_rfl) (st 6 [(6, aI x73), (17, .ptr 1 0), (16, aI x73), (15, .agg [aI x69, aI x70, aF x71, aS x72]), (12, .tup [.agg [aI x69, aI x70, aF x71, aS x72], aI x73])] [.box [aB x66, .pv (encSl (rI .u8) x67), aI x68] false, .box [aI x69, aI x70, aF x71, aS x72, aI 0, aI 0, aF 0, aS ByteArray.empty, aI 0, aI 0] false] (by kernel_rfl) (fin [(0, .ptr 0 0), (4, .pv .nils), (5, .ptr 1 0), (6, aI x73), (9, aU x25), (10, aU y35)] rfl (by kernel_rfl) (sq (detn [(0, .ptr 0 0), (4, .pv .nils), (5, .ptr 1 0), (6, aI x73), (9, aU x25), (10, aU y35), (19, aB (x73 == 0))] (by kernel_rfl) ?_))))
    rcases bif_some hm with ⟨h74, hm⟩ | ⟨h74, hm⟩
    ·
     refine ct h74 (by kernel_rfl) (rg (sh 1 [(21, .ptr 0 0)] (by kernel_rfl) ?_))
     obtain ⟨⟨x76, x77, x78, x79, x80, x81, x82, x83⟩, h75, hm⟩ := bs hm
     obtain ⟨vv, H1, hC, rfl, rfl⟩ := ok_value_Take h75
     refine dR [(22, .tup [.agg [aI x79, aI x80, aF x81, aS x82], aI x83])] [.box [aB x76, .pv (encSl (rI .u8) x77), aI x78] false, .box [aI x69, aI x70, aF x71, aS x72, aI 0, aI 0, aF 0, aS ByteArray.empty, aI 0, aI 0] false] [0] [.ptr 0 0] (by kernel_rfl) (by kernel_rfl) (by kernel_rfl) hC (by kernel_rfl) (st 6 [(6, aI x83), (25, .ptr 1 4), (24, aI x83), (23, .agg [aI x79, aI x80, aF x81, aS x82]), (20, .tup [.agg [aI x79, aI x80, aF x81, aS x82], aI x83])] [.box [aB x76, .pv (encSl (rI .u8) x77), aI x78] false, .box [aI x69, aI x70, aF x71, aS x72, aI x79, aI x80, aF x81, aS x82, aI 0, aI 0] false] (by kernel_rfl) (fin [(0, .ptr 0 0), (4, .pv .nils), (5, .ptr 1 0), (6, aI x83), (9, aU x25), (10, aU y35)] rfl (by kernel_rfl) ?_))
     exact ⟨x76, x77, x78, x69, x70, x71, x72, x79, x80, x81, x82, x83, .any, hm, (mk_same (by kernel_rfl)), rfl⟩
    ·
     refine cf h74 (by kernel_rfl) (wp_skip ?_)
     exact ⟨x66, x67, x68, x69, x70, x71, x72, 0, 0, 0, ByteArray.empty, x73, aB (x73 == 0), hm, (mk_same (by kernel_rfl)), rfl⟩
   ·
    refine cf h38 (by kernel_rfl) (wp_exit ?_)
    exact .inl ⟨y32, y33, y34, aU x25, aU y35, aB (decide (y35 < x25)), hm, (mk_same (by kernel_rfl)), rfl⟩
  ·
   simp only [hist_Take_l3] at hm
   refine sq (detn [(0, .ptr 0 0), (4, aR 1 10 y36.length), (9, aU x25), (10, aU y35), (11, aB (decide (y35 < x25)))] (by kernel_rfl) ?_)
   refine sq ?_
   rcases bif_some hm with ⟨h84, hm⟩ | ⟨h84, hm⟩
   ·
    refine ct h84 (by kernel_rfl) (wp_skip (sq (bq (sq (det [(0, .ptr 0 0), (4, aR 1 10 y36.length), (5, .ptr 2 0), (9, aU x25), (10, aU y35)] [.box [aB y32, .pv (encSl (rI .u8) y33), aI y34] false, bR 77 10 R_hist_Bucket y36 0 0, .box [aI 0, aI 0, aF 0, aS ByteArray.empty, aI 0, aI 0, aF 0, aS ByteArray.empty, aI 0, aI 0] false] (by kernel_rfl) (sq (detn [(0, .ptr 0 0), (4, aR 1 10 y36.length), (5, .ptr 2 0), (9, aU x25), (10, aU y35)] (by kernel_rfl) ?_)))))))
    obtain ⟨k98, hk98, hm⟩ := withK_some hm
    refine mid (fun t H => (∃ (y86 : Bool) (y87 : (Option (List Int))) (y88 : Int) (y89 : Int) (y90 : Int) (y91 : Nat) (y92 : ByteArray) (y93 : Int) (y94 : Int) (y95 : Nat) (y96 : ByteArray) (y97 : Int) (w85 : AV), k98 y86 y87 y88 y89 y90 y91 y92 y93 y94 y95 y96 y97 = some r ∧ t = mk 51 [(0, .ptr 0 0), (4, aR 1 10 y36.length), (5, .ptr 2 0), (6, aI y97), (9, aU x25), (10, aU y35), (19, w85)] ∧ H = [.box [aB y86, .pv (encSl (rI .u8) y87), aI y88] false, bR 77 10 R_hist_Bucket y36 0 0, .box [aI y89, aI y90, aF y91, aS y92, aI y93, aI y94, aF y95, aS y96, aI 0, aI 0] false])) ?_ ?_
    ·
     rintro _ _ ⟨y86, y87, y88, y89, y90, y91, y92, y93, y94, y95, y96, y97, w85, hm, rfl, rfl⟩
     subst hk98
     refine sq (sq (detn [(0, .ptr 0 0), (4, aR 1 10 y36.length), (5, .ptr 2 0), (6, aI y97), (9, aU x25), (10, aU y35), (27, aB (y97 != 0))] (by kernel_rfl) ?_))
     rcases bif_some hm with ⟨h99, hm⟩ | ⟨h99, hm⟩
     ·
      refine ct h99 (by kernel_rfl) (sq (detn [(2, .pv .nils), (3, aI y97)] (by kernel_rfl) (wp_ret ?_)))
      obtain rfl := Option.some.inj hm
      exact ⟨trivial, .tup [.pv .nils, aI y97], [.box [aB y86, .pv (encSl (rI .u8) y87), aI y88] false], by kernel_rfl, rfl, rfl⟩
     ·
      refine cf h99 (by kernel_rfl) (wp_skip (sq (rg (sh 1 [(29, .ptr 0 0)] (by kernel_rfl) ?_))))
      obtain ⟨⟨x101, x102, x103, x104⟩, h100, hm⟩ := bs hm
      obtain ⟨vv, H1, hC, rfl, rfl⟩ := ok_codec_Reader_Uint h100
      refine dR [(30, aU x104)] [.box [aB x101, .pv (encSl (rI .u8) x102), aI x103] false, bR 77 10 R_hist_Bucket y36 0 0, .box [aI y89, aI y90, aF y91, aS y92, aI y93, aI y94, aF y95, aS y96, aI 0, aI 0] false] [0] [.ptr 0 0, aU 1000000] (by kernel_rfl) (by kernel_rfl) (by kernel_rfl) hC (by kernel_rfl) (st 3 [(32, .ptr 2 8), (31, aI (IntKind.wrap .i64 x104))] [.box [aB x101, .pv (encSl (rI .u8) x102), aI x103] false, bR 77 10 R_hist_Bucket y36 0 0, .box [aI y89, aI y90, aF y91, aS y92, aI y93, aI y94, aF y95, aS y96, aI (IntKind.wrap .i64 x104), aI 0] false] (by kernel_rfl) (fin [(0, .ptr 0 0), (4, aR 1 10 y36.length), (5, .ptr 2 0), (9, aU x25), (10, aU y35)] rfl (by kernel_rfl) (sq (rg (sh 1 [(33, .ptr 0 0)] (by kernel_rfl) ?_)))))
      obtain ⟨⟨x106, x107, x108, x109⟩, h105, hm⟩ := bs hm
      obtain ⟨vv, H1, hC, rfl, rfl⟩ := ok_codec_Reader_Uint h105
      refine dR [(34, aU x109)] [.box [aB x106, .pv (encSl (rI .u8) x107), aI x108] false, bR 77 10 R_hist_Bucket y36 0 0, .box [aI y89, aI y90, aF y91, aS y92, aI y93, aI y94, aF y95, aS y96, aI (IntKind.wrap .i64 x104), aI 0] false] [0] [.ptr 0 0, aU 1000000] (by kernel_rfl) (by kernel_rfl) (by kernel_rfl) hC (by kernel_rfl) (st 3 [(36, .ptr 2 9), (35, aI (IntKind.wrap .i64 x109))] [.box [aB x106, .pv (encSl (rI .u8) x107), aI x108] false, bR 77 10 R_hist_Bucket y36 0 0, .box [aI y89, aI y90, aF y91, aS y92, aI y93, aI y94, aF y95, aS y96, aI (IntKind.wrap .i64 x104), aI (IntKind.wrap .i64 x109)] false] (by kernel_rfl) (fin [(0, .ptr 0 0), (4, aR 1 10 y36.length), (5, .ptr 2 0), (9, aU x25), (10, aU y35)] rfl (by kernel_rfl) (rg (st 3 [(39, aR 3 10 1), (38, .agg [aI y89, aI y90, aF y91, aS y92, aI y93, aI y94, aF y95, aS y96, aI (IntKind.wrap .i64 x104), aI (IntKind.wrap .i64 x109)]), (37, aR 1 10 y36.length)] [.box [aB x106, .pv (encSl (rI .u8) x107), aI x108] false, bR 77 10 R_hist_Bucket y36 0 0, .box [aI y89, aI y90, aF y91, aS y92, aI y93, aI y94, aF y95, aS y96, aI (IntKind.wrap .i64 x104), aI (IntKind.wrap .i64 x109)] false, bR 77 10 R_hist_Bucket ([(hist_Bucket.mk (api_Value.mk y89 y90 y91 y92) (api_Value.mk y93 y94 y95 y96) (IntKind.wrap .i64 x104) (IntKind.wrap .i64 x109))] : List hist_Bucket) 0 0] (by kernel_rfl) ?_))))
      obtain ⟨_, h110, hm⟩ := bs hm
      refine dO [(40, aR 1 10 ((y36 ++ ([(hist_Bucket.mk (api_Value.mk y89 y90 y91 y92) (api_Value.mk y93 y94 y95 y96) (IntKind.wrap .i64 x104) (IntKind.wrap .i64 x109))] : List hist_Bucket)).length))] [.box [aB x106, .pv (encSl (rI .u8) x107), aI x108] false, bR 77 10 R_hist_Bucket (y36 ++ ([(hist_Bucket.mk (api_Value.mk y89 y90 y91 y92) (api_Value.mk y93 y94 y95 y96) (IntKind.wrap .i64 x104) (IntKind.wrap .i64 x109))] : List hist_Bucket)) 0 0, .box [aI y89, aI y90, aF y91, aS y92, aI y93, aI y94, aF y95, aS y96, aI (IntKind.wrap .i64 x104), aI (IntKind.wrap .i64 x109)] false, bR 77 10 R_hist_Bucket ([(hist_Bucket.mk (api_Value.mk y89 y90 y91 y92) (api_Value.mk y93 y94 y95 y96) (IntKind.wrap .i64 x104) (IntKind.wrap .i64 x109))] : List hist_Bucket) 0 0] (app_refO (u := 0) (n := y36.length) (id := 1) R_hist_Bucket y36 ([(hist_Bucket.mk (api_Value.mk y89 y90 y91 y92) (api_Value.mk y93 y94 y95 y96) (IntKind.wrap .i64 x104) (IntKind.wrap .i64 x109))] : List hist_Bucket) (b := 96) t53 t77 rfl rfl rfl (fun _ => rfl) rfl h110 rfl rfl (Nat.zero_le _) (show srcRows (aR 3 10 1) _ = some (([(hist_Bucket.mk (api_Value.mk y89 y90 y91 y92) (api_Value.mk y93 y94 y95 y96) (IntKind.wrap .i64 x104) (IntKind.wrap .i64 x109))] : List hist_Bucket).map R_hist_Bucket) from by kernel_rfl) (by kernel_rfl)) (by kernel_rfl) (sh 1 [(4, aR 1 10 ((y36 ++ ([(hist_Bucket.mk (api_Value.mk y89 y90 y91 y92) (api_Value.mk y93 y94 y95 y96) (IntKind.wrap .i64 x104) (IntKind.wrap .i64 x109))] : List hist_Bucket)).length))] (by kernel_rfl) (fin [(0, .ptr 0 0), (4, aR 1 10 ((y36 ++ ([(hist_Bucket.mk (api_Value.mk y89 y90 y91 y92) (api_Value.mk y93 y94 y95 y96) (IntKind.wrap .i64 x104) (IntKind.wrap .i64 x109))] : List hist_Bucket)).length)), (9, aU x25), (10, aU y35)] rfl (by kernel_rfl) (detn [(0, .ptr 0 0), (4, aR 1 10 ((y36 ++ ([(hist_Bucket.mk (api_Value.mk y89 y90 y91 y92) (api_Value.mk y93 y94 y95 y96) (IntKind.wrap .i64 x104) (IntKind.wrap .i64 x109))] : List hist_Bucket)).length)), (9, aU x25), (10, aU (IntKind.wrap .u64 (y35 + 1)))] (by kernel_rfl) ?_)))
      exact ⟨_, _, tidyL [(0, .ptr 0 0), (4, aR 1 10 ((y36 ++ ([(hist_Bucket.mk (api_Value.mk y89 y90 y91 y92) (api_Value.mk y93 y94 y95 y96) (IntKind.wrap .i64 x104) (IntKind.wrap .i64 x109))] : List hist_Bucket)).length)), (9, aU x25), (10, aU (IntKind.wrap .u64 (y35 + 1)))] [.box [aB x106, .pv (encSl (rI .u8) x107), aI x108] false, bR 77 10 R_hist_Bucket (y36 ++ ([(hist_Bucket.mk (api_Value.mk y89 y90 y91 y92) (api_Value.mk y93 y94 y95 y96) (IntKind.wrap .i64 x104) (IntKind.wrap .i64 x109))] : List hist_Bucket)) 0 0] (by kernel_rfl), .inr (⟨x106, x107, x108, (IntKind.wrap .u64 (y35 + 1)), (y36 ++ ([(hist_Bucket.mk (api_Value.mk y89 y90 y91 y92) (api_Value.mk y93 y94 y95 y96) (IntKind.wrap .i64 x104) (IntKind.wrap .i64 x109))] : List hist_Bucket)), hm, rfl, rfl⟩)⟩
    refine sq (rg (sh 1 [(13, .ptr 0 0)] (by kernel_rfl) ?_))
    obtain ⟨⟨x112, x113, x114, x115, x116, x117, x118, x119⟩, h111, hm⟩ := bs hm
    obtain ⟨vv, H1, hC, rfl, rfl⟩ := ok_value_Take h111
    refine dR [(14, .tup [.agg [aI x115, aI x116, aF x117, aS x118], aI x119])] [.box [aB x112, .pv (encSl (rI .u8) x113), aI x114] false, bR 77 10 R_hist_Bucket y36 0 0, .box [aI 0, aI 0, aF 0, aS ByteArray.empty, aI 0, aI 0, aF 0, aS ByteArray.empty, aI 0, aI 0] false] [0] [.ptr 0 0] (by kernel_rfl) (by kernel_rfl) (by kernel_rfl) hC (by kernel_rfl) (st 6 [(6, aI x119), (17, .ptr 2 0), (16, aI x119), (15, .agg [aI x115, aI x116, aF x117, aS x118]), (12, .tup [.agg [aI x115, aI x116, aF x117, aS x118], aI x119])] [.box [aB x112, .pv (encSl (rI .u8) x113), aI x114] false, bR 77 10 R_hist_Bucket y36 0 0, .box [aI x115, aI x116, aF x117, aS x118, aI 0, aI 0, aF 0, aS ByteArray.empty, aI 0, aI 0] false] (by kernel_rfl) (fin [(0, .ptr 0 0), (4, aR 1 10 y36.length), (5, .ptr 2 0), (6, aI x119), (9, aU x25), (10, aU y35)] rfl (by kernel_rfl) (sq (detn [(0, .ptr 0 0), (4, aR 1 10 y36.length), (5, .ptr 2 0), (6, aI x119), (9, aU x25), (10, aU y35), (19, aB (x119 == 0))] (by kernel_rfl) ?_))))
    rcases bif_some hm with ⟨h120, hm⟩ | ⟨h120, hm⟩
    ·
     refine ct h120 (by kernel_rfl) (rg (sh 1 [(21, .ptr 0 0)] (by kernel_rfl) ?_))
     obtain ⟨⟨x122, x123, x124, x125, x126, x127, x128, x129⟩, h121, hm⟩ := bs hm
     obtain ⟨vv, H1, hC, rfl, rfl⟩ := ok_value_Take h121
     refine dR [(22, .tup [.agg [aI x125, aI x126, aF x127, aS x128], aI x129])] [.box [aB x122, .pv (encSl (rI .u8) x123), aI x124] false, bR 77 10 R_hist_Bucket y36 0 0, .box [aI x115, aI x116, aF x117, aS x118, aI 0, aI 0, aF 0, aS ByteArray.empty, aI 0, aI 0] false] [0] [.ptr 0 0] (by kernel_rfl) (by kernel_rfl) (by kernel_rfl) hC (by kernel_rfl) (st 6 [(6, aI x129), (25, .ptr 2 4), (24, aI x129), (23, .agg [aI x125, aI x126, aF x127, aS x128]), (20, .tup [.agg [aI x125, aI x126, aF x127, aS x128], aI x129])] [.box [aB x122, .pv (encSl (rI .u8) x123), aI x124] false, bR 77 10 R_hist_Bucket y36 0 0, .box [aI x115, aI x116, aF x117, aS x118, aI x125, aI x126, aF x127, aS x128, aI 0, aI 0] false] (by kernel_rfl) (fin [(0, .ptr 0 0), (4, aR 1 10 y36.length), (5, .ptr 2 0), (6, aI x129), (9, aU x25), (10, aU y35)] rfl (by kernel_rfl) ?_))
     exact ⟨x122, x123, x124, x115, x116, x117, x118, x125, x126, x127, x128, x129, .any, hm, (mk_same (by kernel_rfl)), rfl⟩
    ·
     refine cf h120 (by kernel_rfl) (wp_skip ?_)
     exact ⟨x112, x113, x114, x115, x116, x117, x118, 0, 0, 0, ByteArray.empty, x119, aB (x119 == 0), hm, (mk_same (by kernel_rfl)), rfl⟩
   ·
    refine cf h84 (by kernel_rfl) (wp_exit ?_)
    exact .inr (⟨y32, y33, y34, y36, aU x25, aU y35, aB (decide (y35 < x25)), hm, (mk_same (by kernel_rfl)), rfl⟩)
theorem ok_law19_Told {n : Nat} {a0 : (Option (List hist_Bucket))} {r : (Option (List tabularyref19_Bucket))} (hm : law19_Told n a0 = some r) :
    call G n 29 [.pv (encSl R_hist_Bucket a0)] [] = some (.ret (.pv (encSl R_tabularyref19_Bucket r)), []) := by
  unfold law19_Told at hm
  obtain ⟨n, rfl, h0⟩ := at1_some hm
  replace hm := h0; clear h0
  refine callL 18 [(0, .pv (encSl R_hist_Bucket a0))] func29 rfl (by kernel_rfl) (sq (detn [(0, .pv (encSl R_hist_Bucket a0))] (by kernel_rfl) (sq (detn [(0, .pv (encSl R_hist_Bucket a0)), (3, .pv .nils)] (by kernel_rfl) ?_))))
  obtain ⟨k4, hk4, hm⟩ := withK_some hm
  refine mid (fun t H => (∃ (w1 : AV) (w2 : AV), k4 none = some r ∧ t = mk 18 [(3, .pv .nils), (6, .pv (encSl R_hist_Bucket a0)), (7, aI ((sll a0).length : Int)), (8, w1), (9, w2)] ∧ H = []) ∨ (∃ (y3 : (List tabularyref19_Bucket)) (w1 : AV) (w2 : AV), k4 (some y3) = some r ∧ t = mk 18 [(3, aR 0 10 y3.length), (6, .pv (encSl R_hist_Bucket a0)), (7, aI ((sll a0).length : Int)), (8, w1), (9, w2)] ∧ H = [bR 80 10 R_tabularyref19_Bucket y3 0 0])) ?_ ?_
  ·
   rintro _ _ (⟨w1, w2, hm, rfl, rfl⟩ | ⟨y3, w1, w2, hm, rfl, rfl⟩)
   ·
    subst hk4
    refine sq (detn [(2, .pv .nils)] (by kernel_rfl) (wp_ret ?_))
    obtain rfl := Option.some.inj hm
    exact ⟨trivial, by kernel_rfl⟩
   ·
    subst hk4
    refine sq (detn [(2, aR 0 10 y3.length)] (by kernel_rfl) (wp_ret ?_))
    obtain rfl := Option.some.inj hm
    exact ret_pure (v := aR 0 10 y3.length) trivial rfl (by kernel_rfl) (pA_ref (pur_ref' (n := y3.length) (id := 0) (l := y3) (R := R_tabularyref19_Bucket) rfl rfl (Nat.zero_le _)))
  refine sq (rg (sh 1 [(6, .pv (encSl R_hist_Bucket a0))] (by kernel_rfl) (dv 7 (v := aI ((sll a0).length : Int)) (len_slO R_hist_Bucket a0 t53 (by kernel_rfl)) (by kernel_rfl) (sh 1 [(8, aI 0)] (by kernel_rfl) (fin [(3, .pv .nils), (6, .pv (encSl R_hist_Bucket a0)), (7, aI ((sll a0).length : Int)), (8, aI 0)] rfl (by kernel_rfl) (bq ?_))))))
  refine loopF (fun mm t H => (∃ (y9 : Int), law19_Told_l3 n a0 k4 mm none y9 = some r ∧ t = mk 18 [(3, .pv .nils), (6, .pv (encSl R_hist_Bucket a0)), (7, aI ((sll a0).length : Int)), (8, aI y9)] ∧ H = []) ∨ (∃ (y8 : (List tabularyref19_Bucket)) (y9 : Int), law19_Told_l3 n a0 k4 mm (some y8) y9 = some r ∧ t = mk 18 [(3, aR 0 10 y8.length), (6, .pv (encSl R_hist_Bucket a0)), (7, aI ((sll a0).length : Int)), (8, aI y9)] ∧ H = [bR 80 10 R_tabularyref19_Bucket y8 0 0])) (.inl ⟨0, hm, rfl, rfl⟩) ?_ ?_
  · rintro _ _ (⟨y9, hm, _⟩ | ⟨y8, y9, hm, _⟩) <;> exact nomatch hm
  rintro m10 _ _ (⟨y9, hm, rfl, rfl⟩ | ⟨y8, y9, hm, rfl, rfl⟩)
  ·
   simp only [law19_Told_l3] at hm
   refine sq (detn [(3, .pv .nils), (6, .pv (encSl R_hist_Bucket a0)), (7, aI ((sll a0).length : Int)), (8, aI y9), (9, aB (decide (y9 < ((sll a0).length : Int))))] (by kernel_rfl) ?_)
   refine sq ?_
   rcases bif_some hm with ⟨h11, hm⟩ | ⟨h11, hm⟩
   ·
    refine ct h11 (by kernel_rfl) (wp_skip (sq (bq (sq (rg ?_)))))
    obtain ⟨x12, h13, hm⟩ := bs hm
    refine dv 10 (v := .pv (.ptr (R_hist_Bucket x12) 0)) (ia_slO R_hist_Bucket a0 .i64 t53 t77 h13 rfl (by kernel_rfl)) (by kernel_rfl) (st 3 [(5, .ptr 0 0), (11, .agg [aI x12.fLow.fKind, aI x12.fLow.fInt, aF x12.fLow.fFloat, aS x12.fLow.fText, aI x12.fHigh.fKind, aI x12.fHigh.fInt, aF x12.fHigh.fFloat, aS x12.fHigh.fText, aI x12.fCount, aI x12.fDistinct])] [.box [aI x12.fLow.fKind, aI x12.fLow.fInt, aF x12.fLow.fFloat, aS x12.fLow.fText, aI x12.fHigh.fKind, aI x12.fHigh.fInt, aF x12.fHigh.fFloat, aS x12.fHigh.fText, aI x12.fCount, aI x12.fDistinct] false] (by kernel_rfl) (fin [(3, .pv .nils), (5, .ptr 0 0), (6, .pv (encSl R_hist_Bucket a0)), (7, aI ((sll a0).length : Int)), (8, aI y9)] rfl (by kernel_rfl) (rg (st 3 [(14, aR 1 10 1), (13, .agg [aI x12.fLow.fKind, aI x12.fLow.fInt, aF x12.fLow.fFloat, aS x12.fLow.fText, aI x12.fHigh.fKind, aI x12.fHigh.fInt, aF x12.fHigh.fFloat, aS x12.fHigh.fText, aI x12.fCount, aI x12.fDistinct]), (12, .pv .nils)] [.box [aI x12.fLow.fKind, aI x12.fLow.fInt, aF x12.fLow.fFloat, aS x12.fLow.fText, aI x12.fHigh.fKind, aI x12.fHigh.fInt, aF x12.fHigh.fFloat, aS x12.fHigh.fText, aI x12.fCount, aI x12.fDistinct] false, bR 80 10 R_tabularyref19_Bucket ([(tabularyref19_Bucket.mk x12.fLow x12.fHigh x12.fCount x12.fDistinct)] : List tabularyref19_Bucket) 0 0] (by kernel_rfl) ?_))))
    obtain ⟨_, h14, hm⟩ := bs hm
    refine dO [(15, aR 2 10 (([(tabularyref19_Bucket.mk x12.fLow x12.fHigh x12.fCount x12.fDistinct)] : List tabularyref19_Bucket).length))] [.box [aI x12.fLow.fKind, aI x12.fLow.fInt, aF x12.fLow.fFloat, aS x12.fLow.fText, aI x12.fHigh.fKind, aI x12.fHigh.fInt, aF x12.fHigh.fFloat, aS x12.fHigh.fText, aI x12.fCount, aI x12.fDistinct] false, bR 80 10 R_tabularyref19_Bucket ([(tabularyref19_Bucket.mk x12.fLow x12.fHigh x12.fCount x12.fDistinct)] : List tabularyref19_Bucket) 0 0, bR 80 10 R_tabularyref19_Bucket ([(tabularyref19_Bucket.mk x12.fLow x12.fHigh x12.fCount x12.fDistinct)] : List tabularyref19_Bucket) 0 0] (app_nilO (u := 0) R_tabularyref19_Bucket ([(tabularyref19_Bucket.mk x12.fLow x12.fHigh x12.fCount x12.fDistinct)] : List tabularyref19_Bucket) (b := 96) t56 t80 rfl rfl rfl (fun _ => rfl) rfl h14 (show srcRows (aR 1 10 1) _ = some (([(tabularyref19_Bucket.mk x12.fLow x12.fHigh x12.fCount x12.fDistinct)] : List tabularyref19_Bucket).map R_tabularyref19_Bucket) from by kernel_rfl) (by kernel_rfl)) (by kernel_rfl) (sh 1 [(3, aR 2 10 (([(tabularyref19_Bucket.mk x12.fLow x12.fHigh x12.fCount x12.fDistinct)] : List tabularyref19_Bucket).length))] (by kernel_rfl) (fin [(3, aR 2 10 (([(tabularyref19_Bucket.mk x12.fLow x12.fHigh x12.fCount x12.fDistinct)] : List tabularyref19_Bucket).length)), (6, .pv (encSl R_hist_Bucket a0)), (7, aI ((sll a0).length : Int)), (8, aI y9)] rfl (by kernel_rfl) (detn [(3, aR 2 10 (([(tabularyref19_Bucket.mk x12.fLow x12.fHigh x12.fCount x12.fDistinct)] : List tabularyref19_Bucket).length)), (6, .pv (encSl R_hist_Bucket a0)), (7, aI ((sll a0).length : Int)), (8, aI (IntKind.wrap .i64 (y9 + 1)))] (by kernel_rfl) ?_)))
    exact ⟨_, _, tidyL [(3, aR 0 10 (([(tabularyref19_Bucket.mk x12.fLow x12.fHigh x12.fCount x12.fDistinct)] : List tabularyref19_Bucket).length)), (6, .pv (encSl R_hist_Bucket a0)), (7, aI ((sll a0).length : Int)), (8, aI (IntKind.wrap .i64 (y9 + 1)))] [bR 80 10 R_tabularyref19_Bucket ([(tabularyref19_Bucket.mk x12.fLow x12.fHigh x12.fCount x12.fDistinct)] : List tabularyref19_Bucket) 0 0] (by kernel_rfl), .inr (⟨([(tabularyref19_Bucket.mk x12.fLow x12.fHigh x12.fCount x12.fDistinct)] : List tabularyref19_Bucket), (IntKind.wrap .i64 (y9 + 1)), hm, rfl, rfl⟩)⟩
   ·
    refine cf h11 (by kernel_rfl) (wp_exit ?_)
    exact .inl ⟨aI y9, aB (decide (y9 < ((sll a0).length : Int))), hm, (mk_same (by kernel_rfl)), rfl⟩
  ·
   simp only [law19_Told_l3] at hm
   refine sq (detn [(3, aR 0 10 y8.length), (6, .pv (encSl R_hist_Bucket a0)), (7, aI ((sll a0).length : Int)), (8, aI y9), (9, aB (decide (y9 < ((sll a0).length : Int))))] (by kernel_rfl) ?_)
   refine sq ?_
   rcases bif_some hm with ⟨h15, hm⟩ | ⟨h15, hm⟩
   ·
    refine ct h15 (by kernel_rfl) (wp_skip (sq (bq (sq (rg ?_)))))
    obtain ⟨x16, h17, hm⟩ := bs hm
    refine dv 10 (v := .pv (.ptr (R_hist_Bucket x16) 0)) (ia_slO R_hist_Bucket a0 .i64 t53 t77 h17 rfl (by kernel_rfl)) (by kernel_rfl) (st 3 [(5, .ptr 1 0), (11, .agg [aI x16.fLow.fKind, aI x16.fLow.fInt, aF x16.fLow.fFloat, aS x16.fLow.fText, aI x16.fHigh.fKind, aI x16.fHigh.fInt, aF x16.fHigh.fFloat, aS x16.fHigh.fText, aI x16.fCount, aI x16.fDistinct])] [bR 80 10 R_tabularyref19_Bucket y8 0 0, .box [aI x16.fLow.fKind, aI x16.fLow.fInt, aF x16.fLow.fFloat, aS x16.fLow.fText, aI x16.fHigh.fKind, aI x16.fHigh.fInt, aF x16.fHigh.fFloat, aS x16.fHigh.fText, aI x16.fCount, aI x16.fDistinct] false] (by kernel_rfl) (fin [(3, aR 0 10 y8.length), (5, .ptr 1 0), (6, .pv (encSl R_hist_Bucket a0)), (7, aI ((sll a0).length : Int)), (8, aI y9)] rfl (by kernel_rfl) (rg (st 3 [(14, aR 2 10 1), (13, .agg [aI x16.fLow.fKind, aI x16.fLow.fInt, aF x16.fLow.fFloat, aS x16.fLow.fText, aI x16.fHigh.fKind, aI x16.fHigh.fInt, aF x16.fHigh.fFloat, aS x16.fHigh.fText, aI x16.fCount, aI x16.fDistinct]), (12, aR 0 10 y8.length)] [bR 80 10 R_tabularyref19_Bucket y8 0 0, .box [aI x16.fLow.fKind, aI x16.fLow.fInt, aF x16.fLow.fFloat, aS x16.fLow.fText, aI x16.fHigh.fKind, aI x16.fHigh.fInt, aF x16.fHigh.fFloat, aS x16.fHigh.fText, aI x16.fCount, aI x16.fDistinct] false, bR 80 10 R_tabularyref19_Bucket ([(tabularyref19_Bucket.mk x16.fLow x16.fHigh x16.fCount x16.fDistinct)] : List tabularyref19_Bucket) 0 0] (by kernel_rfl) ?_))))
    obtain ⟨_, h18, hm⟩ := bs hm
    refine dO [(15, aR 0 10 ((y8 ++ ([(tabularyref19_Bucket.mk x16.fLow x16.fHigh x16.fCount x16.fDistinct)] : List tabularyref19_Bucket)).length))] [bR 80 10 R_tabularyref19_Bucket (y8 ++ ([(tabularyref19_Bucket.mk x16.fLow x16.fHigh x16.fCount x16.fDistinct)] : List tabularyref19_Bucket)) 0 0, .box [aI x16.fLow.fKind, aI x16.fLow.fInt, aF x16.fLow.fFloat, aS x16.fLow.fText, aI x16.fHigh.fKind, aI x16.fHigh.fInt, aF x16.fHigh.fFloat, aS x16.fHigh.fText, aI x16.fCount, aI x16.fDistinct] false, bR 80 10 R_tabularyref19_Bucket ([(tabularyref19_Bucket.mk x16.fLow x16.fHigh x16.fCount x16.fDistinct)] : List tabularyref19_Bucket) 0 0] (app_refO (u := 0) (n := y8.length) (id := 0) R_tabularyref19_Bucket y8 ([(tabularyref19_Bucket.mk x16.fLow x16.fHigh x16.fCount x16.fDistinct)] : List tabularyref19_Bucket) (b := 96) t56 t80 rfl rfl rfl (fun _ => rfl) rfl h18 rfl rfl (Nat.zero_le _) (show srcRows (aR 2 10 1) _ = some (([(tabularyref19_Bucket.mk x16.fLow x16.fHigh x16.fCount x16.fDistinct)] : List tabularyref19_Bucket).map R_tabularyref19_Bucket) from by kernel_rfl) (by kernel_rfl)) (by kernel_rfl) (sh 1 [(3, aR 0 10 ((y8 ++ ([(tabularyref19_Bucket.mk x16.fLow x16.fHigh x16.fCount x16.fDistinct)] : List tabularyref19_Bucket)).length))] (by kernel_rfl) (fin [(3, aR 0 10 ((y8 ++ ([(tabularyref19_Bucket.mk x16.fLow x16.fHigh x16.fCount x16.fDistinct)] : List tabularyref19_Bucket)).length)), (6, .pv (encSl R_hist_Bucket a0)), (7, aI ((sll a0).length : Int)), (8, aI y9)] rfl (by kernel_rfl) (detn [(3, aR 0 10 ((y8 ++ ([(tabularyref19_Bucket.mk x16.fLow x16.fHigh x16.fCount x16.fDistinct)] : List tabularyref19_Bucket)).length)), (6, .pv (encSl R_hist_Bucket a0)), (7, aI ((sll a0).length : Int)), (8, aI (IntKind.wrap .i64 (y9 + 1)))] (by kernel_rfl) ?_)))
    exact ⟨_, _, tidyL [(3, aR 0 10 ((y8 ++ ([(tabularyref19_Bucket.mk x16.fLow x16.fHigh x16.fCount x16.fDistinct)] : List tabularyref19_Bucket)).length)), (6, .pv (encSl R_hist_Bucket a0)), (7, aI ((sll a0).length : Int)), (8, aI (IntKind.wrap .i64 (y9 + 1)))] [bR 80 10 R_tabularyref19_Bucket (y8 ++ ([(tabularyref19_Bucket.mk x16.fLow x16.fHigh x16.fCount x16.fDistinct)] : List tabularyref19_Bucket)) 0 0] (by kernel_rfl), .inr (⟨(y8 ++ ([(tabularyref19_Bucket.mk x16.fLow x16.fHigh x16.fCount x16.fDistinct)] : List tabularyref19_Bucket)), (IntKind.wrap .i64 (y9 + 1)), hm, rfl, rfl⟩)⟩
   ·
    refine cf h15 (by kernel_rfl) (wp_exit ?_)
    exact .inr (⟨y8, aI y9, aB (decide (y9 < ((sll a0).length : Int))), hm, (mk_same (by kernel_rfl)), rfl⟩)
theorem ok_ref03_Bits {n : Nat} {a0 : Nat} {r : Int} (hm : ref03_Bits n a0 = some r) :
    call G n 103 [aF a0] [] = some (.ret (aU r), []) := by
  unfold ref03_Bits at hm
  obtain ⟨n, rfl, h0⟩ := at1_some hm
  replace hm := h0; clear h0
  refine callL 10 [(0, aF a0)] func103 rfl (by kernel_rfl) (sq (detn [(0, aF a0)] (by kernel_rfl) (sq (sq (detn [(0, aF a0), (5, aB ((FloatKind.format .f64).order a0 a0 != some .eq))] (by kernel_rfl) ?_)))))
  rcases bif_some hm with ⟨h1, hm⟩ | ⟨h1, hm⟩
  ·
   refine ct h1 (by kernel_rfl) (sq (detn [(2, aU 9221120237041090561)] (by kernel_rfl) (wp_ret ?_)))
   obtain rfl := Option.some.inj hm
   exact ⟨trivial, by kernel_rfl⟩
  ·
   refine cf h1 (by kernel_rfl) (wp_skip (sq (sq (detn [(0, aF a0), (7, aB ((FloatKind.format .f64).order a0 0 == some .eq))] (by kernel_rfl) ?_))))
   rcases bif_some hm with ⟨h2, hm⟩ | ⟨h2, hm⟩
   ·
    refine ct h2 (by kernel_rfl) (sq (detn [(2, aU 0)] (by kernel_rfl) (wp_ret ?_)))
    obtain rfl := Option.some.inj hm
    exact ⟨trivial, by kernel_rfl⟩
   ·
    refine cf h2 (by kernel_rfl) (wp_skip (sq (rg (sh 1 [(8, aF a0)] (by kernel_rfl) (sh 1 [(9, aU (a0 : Int))] (by kernel_rfl) (sh 1 [(2, aU (a0 : Int))] (by kernel_rfl) (fin [(2, aU (a0 : Int))] rfl (by kernel_rfl) (wp_ret ?_))))))))
    obtain rfl := Option.some.inj hm
    exact ⟨trivial, by kernel_rfl⟩
theorem ok_ref04_zero {n : Nat} {a0 : Nat} {r : Bool} (hm : ref04_zero n a0 = some r) :
    call G n 102 [aF a0] [] = some (.ret (aB r), []) := by
  unfold ref04_zero at hm
  obtain ⟨n, rfl, h0⟩ := at1_some hm
  replace hm := h0; clear h0
  refine callL 10 [(0, aF a0)] func102 rfl (by kernel_rfl) (sq (detn [(0, aF a0)] (by kernel_rfl) (sq (rg (sh 3 [(5, aB ((FloatKind.format .f64).order a0 0 == some .eq)), (4, aB ((FloatKind.format .f64).order a0 0 == some .eq)), (3, aF a0)] (by kernel_rfl) ?_)))))
  rcases bif_some hm with ⟨h1, hm⟩ | ⟨h1, hm⟩
  ·
   refine known [5, 4] h1 (by kernel_rfl) (sh 1 [(6, aF a0)] (by kernel_rfl) ?_)
   obtain ⟨x2, h3, hm⟩ := bs hm
   refine dv 7 (v := aF x2) (flt_arith h3 (by kernel_rfl)) (by kernel_rfl) (sh 3 [(2, aB ((FloatKind.format .f64).order x2 0 == some .gt)), (9, aB ((FloatKind.format .f64).order x2 0 == some .gt)), (8, aB ((FloatKind.format .f64).order x2 0 == some .gt))] (by kernel_rfl) (fin [(2, aB ((FloatKind.format .f64).order x2 0 == some .gt))] rfl (by kernel_rfl) (wp_ret ?_)))
   obtain rfl := Option.some.inj hm
   exact ⟨trivial, by kernel_rfl⟩
  ·
   refine known [5, 4] h1 (by kernel_rfl) (sh 5 [(2, aB false), (9, aB false), (8, .undef), (7, .undef), (6, .undef)] (by kernel_rfl) (fin [(2, aB false)] rfl (by kernel_rfl) (wp_ret ?_)))
   obtain rfl := Option.some.inj hm
   exact ⟨trivial, by kernel_rfl⟩
theorem ok_ref04_Exact {n : Nat} {a0 : api_Value} {a1 : api_Value} {r : Bool} (hm : ref04_Exact n a0 a1 = some r) :
    call G n 66 [.agg [aI a0.fKind, aI a0.fInt, aF a0.fFloat, aS a0.fText], .agg [aI a1.fKind, aI a1.fInt, aF a1.fFloat, aS a1.fText]] [] = some (.ret (aB r), []) := by
  unfold ref04_Exact at hm
  obtain ⟨n, rfl, h0⟩ := at1_some hm
  replace hm := h0; clear h0
  refine callL 42 [(0, .agg [aI a0.fKind, aI a0.fInt, aF a0.fFloat, aS a0.fText]), (1, .agg [aI a1.fKind, aI a1.fInt, aF a1.fFloat, aS a1.fText])] func66 rfl (by kernel_rfl) (sq (det [(2, .ptr 0 0), (3, .ptr 1 0)] [.box [aI a0.fKind, aI a0.fInt, aF a0.fFloat, aS a0.fText] false, .box [aI a1.fKind, aI a1.fInt, aF a1.fFloat, aS a1.fText] false] (by kernel_rfl) (sq (rgd (shd 6 [(10, aB (a0.fKind == a1.fKind)), (9, aB (a0.fKind == a1.fKind)), (8, aI a1.fKind), (7, .ptr 1 0), (6, aI a0.fKind), (5, .ptr 0 0)] (by kernel_rfl) ?_)))))
  rcases bif_some hm with ⟨h1, hm⟩ | ⟨h1, hm⟩
  ·
   refine knownd [10, 9] h1 (by kernel_rfl) (shd 7 [(17, aB (a0.fInt == a1.fInt)), (16, aB (a0.fInt == a1.fInt)), (15, aB (a0.fInt == a1.fInt)), (14, aI a1.fInt), (13, .ptr 1 1), (12, aI a0.fInt), (11, .ptr 0 1)] (by kernel_rfl) ?_)
   rcases bif_some hm with ⟨h2, hm⟩ | ⟨h2, hm⟩
   ·
    refine knownd [17, 16, 15] h2 (by kernel_rfl) (shd 7 [(24, aB (sEq a0.fText a1.fText)), (23, aB (sEq a0.fText a1.fText)), (22, aB (sEq a0.fText a1.fText)), (21, aS a1.fText), (20, .ptr 1 3), (19, aS a0.fText), (18, .ptr 0 3)] (by kernel_rfl) ?_)
    rcases bif_some hm with ⟨h3, hm⟩ | ⟨h3, hm⟩
    ·
     refine knownd [24, 23, 22] h3 (by kernel_rfl) (shd 2 [(26, aF a0.fFloat), (25, .ptr 0 2)] (by kernel_rfl) ?_)
     obtain ⟨x4, h5, hm⟩ := bs hm
     refine dvd 27 (cpure (by kernel_rfl) (ok_ref03_Bits h5) (by kernel_rfl) (by kernel_rfl) (by kernel_rfl)) (by kernel_rfl) (shd 2 [(29, aF a1.fFloat), (28, .ptr 1 2)] (by kernel_rfl) ?_)
     obtain ⟨x6, h7, hm⟩ := bs hm
     refine dvd 30 (cpure (by kernel_rfl) (ok_ref03_Bits h7) (by kernel_rfl) (by kernel_rfl) (by kernel_rfl)) (by kernel_rfl) (shd 3 [(33, aB (x4 == x6)), (32, aB (x4 == x6)), (31, aB (x4 == x6))] (by kernel_rfl) ?_)
     rcases bif_some hm with ⟨h8, hm⟩ | ⟨h8, hm⟩
     ·
      refine knownd [33, 32, 31] h8 (by kernel_rfl) (shd 2 [(35, aF a0.fFloat), (34, .ptr 0 2)] (by kernel_rfl) ?_)
      obtain ⟨x9, h10, hm⟩ := bs hm
      refine dvd 36 (cpure (by kernel_rfl) (ok_ref04_zero h10) (by kernel_rfl) (by kernel_rfl) (by kernel_rfl)) (by kernel_rfl) (shd 2 [(38, aF a1.fFloat), (37, .ptr 1 2)] (by kernel_rfl) ?_)
      obtain ⟨x11, h12, hm⟩ := bs hm
      refine dvd 39 (cpure (by kernel_rfl) (ok_ref04_zero h12) (by kernel_rfl) (by kernel_rfl) (by kernel_rfl)) (by kernel_rfl) (shd 3 [(4, aB (x9 == x11)), (41, aB (x9 == x11)), (40, aB (x9 == x11))] (by kernel_rfl) (find [(4, aB (x9 == x11))] rfl (by kernel_rfl) (by kernel_rfl) (wp_ret ?_)))
      obtain rfl := Option.some.inj hm
      exact ⟨trivial, by kernel_rfl⟩
     ·
      refine knownd [33, 32, 31] h8 (by kernel_rfl) (shd 9 [(4, aB false), (41, aB false), (40, .undef), (39, .undef), (38, .undef), (37, .undef), (36, .undef), (35, .undef), (34, .undef)] (by kernel_rfl) (find [(4, aB false)] rfl (by kernel_rfl) (by kernel_rfl) (wp_ret ?_)))
      obtain rfl := Option.some.inj hm
      exact ⟨trivial, by kernel_rfl⟩
    ·
     refine knownd [24, 23, 22] h3 (by kernel_rfl) (shd 18 [(4, aB false), (41, aB false), (40, .undef), (39, .undef), (38, .undef), (37, .undef), (36, .undef), (35, .undef), (34, .undef), (33, aB false), (32, aB false), (31, .undef), (30, .undef), (29, .undef), (28, .undef), (27, .undef), (26, .undef), (25, .undef)] (by kernel_rfl) (find [(4, aB false)] rfl (by kernel_rfl) (by kernel_rfl) (wp_ret ?_)))
     obtain rfl := Option.some.inj hm
     exact ⟨trivial, by kernel_rfl⟩
   ·
    refine knownd [17, 16, 15] h2 (by kernel_rfl) (shd 25 [(4, aB false), (41, aB false), (40, .undef), (39, .undef), (38, .undef), (37, .undef), (36, .undef), (35, .undef), (34, .undef), (33, aB false), (32, aB false), (31, .undef), (30, .undef), (29, .undef), (28, .undef), (27, .undef), (26, .undef), (25, .undef), (24, aB false), (23, aB false), (22, .undef), (21, .undef), (20, .undef), (19, .undef), (18, .undef)] (by kernel_rfl) (find [(4, aB false)] rfl (by kernel_rfl) (by kernel_rfl) (wp_ret ?_)))
    obtain rfl := Option.some.inj hm
    exact ⟨trivial, by kernel_rfl⟩
  ·
   refine knownd [10, 9] h1 (by kernel_rfl) (shd 32 [(4, aB false), (41, aB false), (40, .undef), (39, .undef), (38, .undef), (37, .undef), (36, .undef), (35, .undef), (34, .undef), (33, aB false), (32, aB false), (31, .undef), (30, .undef), (29, .undef), (28, .undef), (27, .undef), (26, .undef), (25, .undef), (24, aB false), (23, aB false), (22, .undef), (21, .undef), (20, .undef), (19, .undef), (18, .undef), (17, aB false), (16, aB false), (15, .undef), (14, .undef), (13, .undef), (12, .undef), (11, .undef)] (by kernel_rfl) (find [(4, aB false)] rfl (by kernel_rfl) (by kernel_rfl) (wp_ret ?_)))
   obtain rfl := Option.some.inj hm
   exact ⟨trivial, by kernel_rfl⟩
theorem ok_ref19_Same {n : Nat} {a0 : (Option (List tabularyref19_Bucket))} {a1 : (Option (List tabularyref19_Bucket))} {r : Bool} (hm : ref19_Same n a0 a1 = some r) :
    call G n 28 [.pv (encSl R_tabularyref19_Bucket a0), .pv (encSl R_tabularyref19_Bucket a1)] [] = some (.ret (aB r), []) := by
  unfold ref19_Same at hm
  obtain ⟨n, rfl, h0⟩ := at1_some hm
  replace hm := h0; clear h0
  refine callL 69 [(0, .pv (encSl R_tabularyref19_Bucket a0)), (1, .pv (encSl R_tabularyref19_Bucket a1))] func28 rfl (by kernel_rfl) (sq (detn [(0, .pv (encSl R_tabularyref19_Bucket a0)), (1, .pv (encSl R_tabularyref19_Bucket a1))] (by kernel_rfl) ?_))
  refine sq (sq (rg (sh 1 [(6, .pv (encSl R_tabularyref19_Bucket a0))] (by kernel_rfl) (dv 7 (v := aI ((sll a0).length : Int)) (len_slO R_tabularyref19_Bucket a0 t56 (by kernel_rfl)) (by kernel_rfl) (sh 1 [(8, .pv (encSl R_tabularyref19_Bucket a1))] (by kernel_rfl) (dv 9 (v := aI ((sll a1).length : Int)) (len_slO R_tabularyref19_Bucket a1 t56 (by kernel_rfl)) (by kernel_rfl) (sh 1 [(10, aB (((sll a0).length : Int) != ((sll a1).length : Int)))] (by kernel_rfl) (fin [(0, .pv (encSl R_tabularyref19_Bucket a0)), (1, .pv (encSl R_tabularyref19_Bucket a1)), (10, aB (((sll a0).length : Int) != ((sll a1).length : Int)))] rfl (by kernel_rfl) ?_))))))))
  rcases bif_some hm with ⟨h1, hm⟩ | ⟨h1, hm⟩
  ·
   refine ct h1 (by kernel_rfl) (sq (detn [(4, aB false)] (by kernel_rfl) (wp_ret ?_)))
   obtain rfl := Option.some.inj hm
   exact ⟨trivial, by kernel_rfl⟩
  ·
   refine cf h1 (by kernel_rfl) (wp_skip ?_)
   obtain ⟨k4, hk4, hm⟩ := withK_some hm
   refine mid (fun t H => (∃ (y2 : Bool) (y3 : Int), k4 () = some r ∧ t = mk 69 [(0, .pv (encSl R_tabularyref19_Bucket a0)), (1, .pv (encSl R_tabularyref19_Bucket a1)), (5, aI y3), (14, aB y2)] ∧ H = [])) ?_ ?_
   ·
    rintro _ _ ⟨y2, y3, hm, rfl, rfl⟩
    subst hk4
    refine sq (detn [(4, aB true)] (by kernel_rfl) (wp_ret ?_))
    obtain rfl := Option.some.inj hm
    exact ⟨trivial, by kernel_rfl⟩
   refine sq (detn [(0, .pv (encSl R_tabularyref19_Bucket a0)), (1, .pv (encSl R_tabularyref19_Bucket a1)), (5, aI 0)] (by kernel_rfl) (bq ?_))
   refine loopF (fun mm t H => (∃ (y6 : Int), ref19_Same_l4 n a0 a1 k4 mm y6 = some r ∧ t = mk 69 [(0, .pv (encSl R_tabularyref19_Bucket a0)), (1, .pv (encSl R_tabularyref19_Bucket a1)), (5, aI y6)] ∧ H = [])) (⟨0, hm, rfl, rfl⟩) ?_ ?_
   · rintro _ _ ⟨y6, hm, _⟩; exact nomatch hm
   rintro m7 _ _ ⟨y6, hm, rfl, rfl⟩
   simp only [ref19_Same_l4] at hm
   refine sq (sq (rg (sh 2 [(12, .pv (encSl R_tabularyref19_Bucket a0)), (11, aI y6)] (by kernel_rfl) (dv 13 (v := aI ((sll a0).length : Int)) (len_slO R_tabularyref19_Bucket a0 t56 (by kernel_rfl)) (by kernel_rfl) (sh 1 [(14, aB (decide (y6 < ((sll a0).length : Int))))] (by kernel_rfl) (fin [(0, .pv (encSl R_tabularyref19_Bucket a0)), (1, .pv (encSl R_tabularyref19_Bucket a1)), (5, aI y6), (14, aB (decide (y6 < ((sll a0).length : Int))))] rfl (by kernel_rfl) ?_))))))
   rcases bif_some hm with ⟨h8, hm⟩ | ⟨h8, hm⟩
   ·
    refine ct h8 (by kernel_rfl) (wp_skip (sq (bq (sq (rgd (shd 2 [(18, aI y6), (17, .pv (encSl R_tabularyref19_Bucket a0))] (by kernel_rfl) ?_))))))
    obtain ⟨x9, h10, hm⟩ := bs hm
    refine dvd 19 (v := .pv (.ptr (R_tabularyref19_Bucket x9) 0)) (ia_slO R_tabularyref19_Bucket a0 .i64 t56 t80 h10 rfl (by kernel_rfl)) (by kernel_rfl) (shd 4 [(23, aI y6), (22, .pv (encSl R_tabularyref19_Bucket a1)), (21, .agg [aI x9.fLow.fKind, aI x9.fLow.fInt, aF x9.fLow.fFloat, aS x9.fLow.fText]), (20, .pv (.ptr (R_tabularyref19_Bucket x9) 0))] (by kernel_rfl) ?_)
    obtain ⟨x11, h12, hm⟩ := bs hm
    refine dvd 24 (v := .pv (.ptr (R_tabularyref19_Bucket x11) 0)) (ia_slO R_tabularyref19_Bucket a1 .i64 t56 t80 h12 rfl (by kernel_rfl)) (by kernel_rfl) (shd 2 [(26, .agg [aI x11.fLow.fKind, aI x11.fLow.fInt, aF x11.fLow.fFloat, aS x11.fLow.fText]), (25, .pv (.ptr (R_tabularyref19_Bucket x11) 0))] (by kernel_rfl) ?_)
    obtain ⟨x13, h14, hm⟩ := bs hm
    refine dvd 27 (cpure (by kernel_rfl) (ok_ref04_Exact h14) (by kernel_rfl) (by kernel_rfl) (by kernel_rfl)) (by kernel_rfl) (shd 2 [(29, aB (!x13)), (28, aB (!x13))] (by kernel_rfl) ?_)
    rcases bif_some hm with ⟨h15, hm⟩ | ⟨h15, hm⟩
    ·
     refine knownd [29, 28] h15 (by kernel_rfl) (shd 39 [(68, aB true), (67, .undef), (66, .undef), (65, .undef), (64, .undef), (63, .undef), (62, .undef), (61, .undef), (60, .undef), (59, .undef), (58, .undef), (57, .undef), (56, aB true), (55, aB true), (54, .undef), (53, .undef), (52, .undef), (51, .undef), (50, .undef), (49, .undef), (48, .undef), (47, .undef), (46, .undef), (45, .undef), (44, .undef), (43, aB true), (42, aB true), (41, .undef), (40, .undef), (39, .undef), (38, .undef), (37, .undef), (36, .undef), (35, .undef), (34, .undef), (33, .undef), (32, .undef), (31, .undef), (30, .undef)] (by kernel_rfl) (find [(0, .pv (encSl R_tabularyref19_Bucket a0)), (1, .pv (encSl R_tabularyref19_Bucket a1)), (5, aI y6), (68, aB true)] rfl (by kernel_rfl) (by kernel_rfl) (cT (by kernel_rfl) (sq (detn [(4, aB false)] (by kernel_rfl) (wp_ret ?_))))))
     obtain rfl := Option.some.inj hm
     exact ⟨trivial, by kernel_rfl⟩
    ·
     refine knownd [29, 28] h15 (by kernel_rfl) (shd 2 [(31, aI y6), (30, .pv (encSl R_tabularyref19_Bucket a0))] (by kernel_rfl) (dvd 32 (v := .pv (.ptr (R_tabularyref19_Bucket x9) 0)) (ia_slO R_tabularyref19_Bucket a0 .i64 t56 t80 h10 rfl (by kernel_rfl)) (by kernel_rfl) (shd 4 [(36, aI y6), (35, .pv (encSl R_tabularyref19_Bucket a1)), (34, .agg [aI x9.fHigh.fKind, aI x9.fHigh.fInt, aF x9.fHigh.fFloat, aS x9.fHigh.fText]), (33, .pv (.ptr (R_tabularyref19_Bucket x9) 4))] (by kernel_rfl) (dvd 37 (v := .pv (.ptr (R_tabularyref19_Bucket x11) 0)) (ia_slO R_tabularyref19_Bucket a1 .i64 t56 t80 h12 rfl (by kernel_rfl)) (by kernel_rfl) (shd 2 [(39, .agg [aI x11.fHigh.fKind, aI x11.fHigh.fInt, aF x11.fHigh.fFloat, aS x11.fHigh.fText]), (38, .pv (.ptr (R_tabularyref19_Bucket x11) 4))] (by kernel_rfl) ?_)))))
     obtain ⟨x16, h17, hm⟩ := bs hm
     refine dvd 40 (cpure (by kernel_rfl) (ok_ref04_Exact h17) (by kernel_rfl) (by kernel_rfl) (by kernel_rfl)) (by kernel_rfl) (shd 3 [(43, aB (!x16)), (42, aB (!x16)), (41, aB (!x16))] (by kernel_rfl) ?_)
     rcases bif_some hm with ⟨h18, hm⟩ | ⟨h18, hm⟩
     ·
      refine knownd [43, 42, 41] h18 (by kernel_rfl) (shd 25 [(68, aB true), (67, .undef), (66, .undef), (65, .undef), (64, .undef), (63, .undef), (62, .undef), (61, .undef), (60, .undef), (59, .undef), (58, .undef), (57, .undef), (56, aB true), (55, aB true), (54, .undef), (53, .undef), (52, .undef), (51, .undef), (50, .undef), (49, .undef), (48, .undef), (47, .undef), (46, .undef), (45, .undef), (44, .undef)] (by kernel_rfl) (find [(0, .pv (encSl R_tabularyref19_Bucket a0)), (1, .pv (encSl R_tabularyref19_Bucket a1)), (5, aI y6), (68, aB true)] rfl (by kernel_rfl) (by kernel_rfl) (cT (by kernel_rfl) (sq (detn [(4, aB false)] (by kernel_rfl) (wp_ret ?_))))))
      obtain rfl := Option.some.inj hm
      exact ⟨trivial, by kernel_rfl⟩
     ·
      refine knownd [43, 42, 41] h18 (by kernel_rfl) (shd 2 [(45, aI y6), (44, .pv (encSl R_tabularyref19_Bucket a0))] (by kernel_rfl) (dvd 46 (v := .pv (.ptr (R_tabularyref19_Bucket x9) 0)) (ia_slO R_tabularyref19_Bucket a0 .i64 t56 t80 h10 rfl (by kernel_rfl)) (by kernel_rfl) (shd 4 [(50, aI y6), (49, .pv (encSl R_tabularyref19_Bucket a1)), (48, aI x9.fCount), (47, .pv (.ptr (R_tabularyref19_Bucket x9) 8))] (by kernel_rfl) (dvd 51 (v := .pv (.ptr (R_tabularyref19_Bucket x11) 0)) (ia_slO R_tabularyref19_Bucket a1 .i64 t56 t80 h12 rfl (by kernel_rfl)) (by kernel_rfl) (shd 5 [(56, aB (x9.fCount != x11.fCount)), (55, aB (x9.fCount != x11.fCount)), (54, aB (x9.fCount != x11.fCount)), (53, aI x11.fCount), (52, .pv (.ptr (R_tabularyref19_Bucket x11) 8))] (by kernel_rfl) ?_)))))
      rcases bif_some hm with ⟨h19, hm⟩ | ⟨h19, hm⟩
      ·
       refine knownd [56, 55, 54] h19 (by kernel_rfl) (shd 12 [(68, aB true), (67, .undef), (66, .undef), (65, .undef), (64, .undef), (63, .undef), (62, .undef), (61, .undef), (60, .undef), (59, .undef), (58, .undef), (57, .undef)] (by kernel_rfl) (find [(0, .pv (encSl R_tabularyref19_Bucket a0)), (1, .pv (encSl R_tabularyref19_Bucket a1)), (5, aI y6), (68, aB true)] rfl (by kernel_rfl) (by kernel_rfl) (cT (by kernel_rfl) (sq (detn [(4, aB false)] (by kernel_rfl) (wp_ret ?_))))))
       obtain rfl := Option.some.inj hm
       exact ⟨trivial, by kernel_rfl⟩
      ·
       refine knownd [56, 55, 54] h19 (by kernel_rfl) (shd 2 [(58, aI y6), (57, .pv (encSl R_tabularyref19_Bucket a0))] (by kernel_rfl) (dvd 59 (v := .pv (.ptr (R_tabularyref19_Bucket x9) 0)) (ia_slO R_tabularyref19_Bucket a0 .i64 t56 t80 h10 rfl (by kernel_rfl)) (by kernel_rfl) (shd 4 [(63, aI y6), (62, .pv (encSl R_tabularyref19_Bucket a1)), (61, aI x9.fDistinct), (60, .pv (.ptr (R_tabularyref19_Bucket x9) 9))] (by kernel_rfl) (dvd 64 (v := .pv (.ptr (R_tabularyref19_Bucket x11) 0)) (ia_slO R_tabularyref19_Bucket a1 .i64 t56 t80 h12 rfl (by kernel_rfl)) (by kernel_rfl) (shd 4 [(68, aB (x9.fDistinct != x11.fDistinct)), (67, aB (x9.fDistinct != x11.fDistinct)), (66, aI x11.fDistinct), (65, .pv (.ptr (R_tabularyref19_Bucket x11) 9))] (by kernel_rfl) (find [(0, .pv (encSl R_tabularyref19_Bucket a0)), (1, .pv (encSl R_tabularyref19_Bucket a1)), (5, aI y6), (68, aB (x9.fDistinct != x11.fDistinct))] rfl (by kernel_rfl) (by kernel_rfl) ?_))))))
       rcases bif_some hm with ⟨h20, hm⟩ | ⟨h20, hm⟩
       ·
        refine ct h20 (by kernel_rfl) (sq (detn [(4, aB false)] (by kernel_rfl) (wp_ret ?_)))
        obtain rfl := Option.some.inj hm
        exact ⟨trivial, by kernel_rfl⟩
       ·
        refine cf h20 (by kernel_rfl) (wp_skip (detn [(0, .pv (encSl R_tabularyref19_Bucket a0)), (1, .pv (encSl R_tabularyref19_Bucket a1)), (5, aI (IntKind.wrap .i64 (y6 + 1)))] (by kernel_rfl) ?_))
        exact ⟨_, _, tidyL [(0, .pv (encSl R_tabularyref19_Bucket a0)), (1, .pv (encSl R_tabularyref19_Bucket a1)), (5, aI (IntKind.wrap .i64 (y6 + 1)))] [] (by kernel_rfl), ⟨(IntKind.wrap .i64 (y6 + 1)), hm, rfl, rfl⟩⟩
   ·
    refine cf h8 (by kernel_rfl) (wp_exit ?_)
    exact ⟨(decide (y6 < ((sll a0).length : Int))), y6, hm, rfl, rfl⟩
theorem ok_codec_Reader_Left {n : Nat} {a0 : codec_Reader} {r : Int} (hm : codec_Reader_Left n a0 = some r) :
    ∃ vv H1, call G n 25 [.ptr 0 0] [.box [aB a0.fmade, .pv (encSl (rI .u8) a0.fb), aI a0.fe] false] = some (.ret vv, H1) ∧ (match r with | r0 => (vv = aI r0 ∧ H1 = [.box [aB a0.fmade, .pv (encSl (rI .u8) a0.fb), aI a0.fe] false])) := by
  unfold codec_Reader_Left at hm
  obtain ⟨n, rfl, h0⟩ := at1_some hm
  replace hm := h0; clear h0
  refine callE 11 [(0, .ptr 0 0)] func25 rfl (by kernel_rfl) (sq (detn [(0, .ptr 0 0)] (by kernel_rfl) (sq (sq (rg (sh 1 [(3, .ptr 0 0)] (by kernel_rfl) ?_))))))
  obtain ⟨_, h1, hm⟩ := bs hm
  obtain ⟨vv, H1, hC, rfl, rfl⟩ := ok_codec_Reader_ready h1
  refine dR [(4, aB (a0.fmade && (a0.fe == 0)))] [.box [aB a0.fmade, .pv (encSl (rI .u8) a0.fb), aI a0.fe] false] [0] [.ptr 0 0] (by kernel_rfl) (by kernel_rfl) (by kernel_rfl) hC (by kernel_rfl) (sh 1 [(5, aB (!(a0.fmade && (a0.fe == 0))))] (by kernel_rfl) (fin [(0, .ptr 0 0), (5, aB (!(a0.fmade && (a0.fe == 0))))] rfl (by kernel_rfl) ?_))
  rcases bif_some hm with ⟨h2, hm⟩ | ⟨h2, hm⟩
  ·
   refine ct h2 (by kernel_rfl) (sq (detn [(2, aI 0)] (by kernel_rfl) (wp_ret ?_)))
   obtain rfl := Option.some.inj hm
   exact ⟨trivial, aI 0, [.box [aB a0.fmade, .pv (encSl (rI .u8) a0.fb), aI a0.fe] false], by kernel_rfl, rfl, rfl⟩
  ·
   refine cf h2 (by kernel_rfl) (wp_skip (sq (rg (sh 4 [(9, .pv (encSl (rI .u8) a0.fb)), (8, .ptr 0 1), (7, .ptr 0 0), (6, .ptr 0 0)] (by kernel_rfl) (dv 10 (v := aI ((sll a0.fb).length : Int)) (len_slO (rI .u8) a0.fb t43 (by kernel_rfl)) (by kernel_rfl) (sh 1 [(2, aI ((sll a0.fb).length : Int))] (by kernel_rfl) (fin [(2, aI ((sll a0.fb).length : Int))] rfl (by kernel_rfl) (wp_ret ?_))))))))
   obtain rfl := Option.some.inj hm
   exact ⟨trivial, aI ((sll a0.fb).length : Int), [.box [aB a0.fmade, .pv (encSl (rI .u8) a0.fb), aI a0.fe] false], by kernel_rfl, rfl, rfl⟩
end Go.Ab.S1
