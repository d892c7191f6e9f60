import Derived.Test.YtjbhpopccbhhlaaS1
import Derived.Test.YtjbhpopccbhhlaaPA
namespace Go.Ab.S1
open Go Go.Ab Go.Pl
open Go.Proofs.Try
set_option linter.unusedVariables false
set_option linter.unusedSimpArgs false
set_option maxRecDepth 100000
theorem run_law19_works : call G 3999999 30 [] [] = some (.ret (aB true), []) := by kernel_rfl
theorem ok_law19_works {n : Nat} {r : Bool} (hm : law19_works n = some r) :
    call G n 30 [] [] = some (.ret (aB r), []) := by
  unfold law19_works at hm
  have hn : n = 3999999 := by
    cases h : n == 3999999 with
    | true => exact eq_of_beq h
    | false => rw [h] at hm; cases hm
  subst hn
  have h2 : some true = some r := hm
  obtain rfl := Option.some.inj h2
  exact run_law19_works
theorem ok_law19_Given {n : Nat} {a0 : (Option (List tabularyref19_Bucket))} {r : (Option (List hist_Bucket))} (hm : law19_Given n a0 = some r) :
    call G n 31 [.pv (encSl R_tabularyref19_Bucket a0)] [] = some (.ret (.pv (encSl R_hist_Bucket r)), []) := by
  unfold law19_Given at hm
  obtain ⟨n, rfl, h0⟩ := at1_some hm
  replace hm := h0; clear h0
  refine callL 18 [(0, .pv (encSl R_tabularyref19_Bucket a0))] func31 rfl (by kernel_rfl) (sq (detn [(0, .pv (encSl R_tabularyref19_Bucket a0))] (by kernel_rfl) (sq (detn [(0, .pv (encSl R_tabularyref19_Bucket a0)), (3, .pv .nils)] (by kernel_rfl) ?_))))
  obtain ⟨k4, hk4, hm⟩ := withK_some hm
  refine mid (fun t H => (∃ (w1 : AV) (w2 : AV), k4 none = some r ∧ t = mk 18 [(3, .pv .nils), (6, .pv (encSl R_tabularyref19_Bucket a0)), (7, aI ((sll a0).length : Int)), (8, w1), (9, w2)] ∧ H = []) ∨ (∃ (y3 : (List hist_Bucket)) (w1 : AV) (w2 : AV), k4 (some y3) = some r ∧ t = mk 18 [(3, aR 0 10 y3.length), (6, .pv (encSl R_tabularyref19_Bucket a0)), (7, aI ((sll a0).length : Int)), (8, w1), (9, w2)] ∧ H = [bR 77 10 R_hist_Bucket y3 0 0])) ?_ ?_
  ·
   rintro _ _ (⟨w1, w2, hm, rfl, rfl⟩ | ⟨y3, w1, w2, hm, rfl, rfl⟩)
   ·
    subst hk4
    refine sq (detn [(2, .pv .nils)] (by kernel_rfl) (wp_ret ?_))
    obtain rfl := Option.some.inj hm
    exact ⟨trivial, by kernel_rfl⟩
   ·
    subst hk4
    refine sq (detn [(2, aR 0 10 y3.length)] (by kernel_rfl) (wp_ret ?_))
    obtain rfl := Option.some.inj hm
    exact ret_pure (v := aR 0 10 y3.length) trivial rfl (by kernel_rfl) (pA_ref (pur_ref' (n := y3.length) (id := 0) (l := y3) (R := R_hist_Bucket) rfl rfl (Nat.zero_le _)))
  refine sq (rg (sh 1 [(6, .pv (encSl R_tabularyref19_Bucket a0))] (by kernel_rfl) (dv 7 (v := aI ((sll a0).length : Int)) (len_slO R_tabularyref19_Bucket a0 t56 (by kernel_rfl)) (by kernel_rfl) (sh 1 [(8, aI 0)] (by kernel_rfl) (fin [(3, .pv .nils), (6, .pv (encSl R_tabularyref19_Bucket a0)), (7, aI ((sll a0).length : Int)), (8, aI 0)] rfl (by kernel_rfl) (bq ?_))))))
  refine loopF (fun mm t H => (∃ (y9 : Int), law19_Given_l3 n a0 k4 mm none y9 = some r ∧ t = mk 18 [(3, .pv .nils), (6, .pv (encSl R_tabularyref19_Bucket a0)), (7, aI ((sll a0).length : Int)), (8, aI y9)] ∧ H = []) ∨ (∃ (y8 : (List hist_Bucket)) (y9 : Int), law19_Given_l3 n a0 k4 mm (some y8) y9 = some r ∧ t = mk 18 [(3, aR 0 10 y8.length), (6, .pv (encSl R_tabularyref19_Bucket a0)), (7, aI ((sll a0).length : Int)), (8, aI y9)] ∧ H = [bR 77 10 R_hist_Bucket y8 0 0])) (.inl ⟨0, hm, rfl, rfl⟩) ?_ ?_
  · rintro _ _ (⟨y9, hm, _⟩ | ⟨y8, y9, hm, _⟩) <;> exact nomatch hm
  rintro m10 _ _ (⟨y9, hm, rfl, rfl⟩ | ⟨y8, y9, hm, rfl, rfl⟩)
  ·
   simp only [law19_Given_l3] at hm
   refine sq (detn [(3, .pv .nils), (6, .pv (encSl R_tabularyref19_Bucket a0)), (7, aI ((sll a0).length : Int)), (8, aI y9), (9, aB (decide (y9 < ((sll a0).length : Int))))] (by kernel_rfl) ?_)
   refine sq ?_
   rcases bif_some hm with ⟨h11, hm⟩ | ⟨h11, hm⟩
   ·
    refine ct h11 (by kernel_rfl) (wp_skip (sq (bq (sq (rg ?_)))))
    obtain ⟨x12, h13, hm⟩ := bs hm
    refine dv 10 (v := .pv (.ptr (R_tabularyref19_Bucket x12) 0)) (ia_slO R_tabularyref19_Bucket a0 .i64 t56 t80 h13 rfl (by kernel_rfl)) (by kernel_rfl) (st 3 [(5, .ptr 0 0), (11, .agg [aI x12.fLow.fKind, aI x12.fLow.fInt, aF x12.fLow.fFloat, aS x12.fLow.fText, aI x12.fHigh.fKind, aI x12.fHigh.fInt, aF x12.fHigh.fFloat, aS x12.fHigh.fText, aI x12.fCount, aI x12.fDistinct])] [.box [aI x12.fLow.fKind, aI x12.fLow.fInt, aF x12.fLow.fFloat, aS x12.fLow.fText, aI x12.fHigh.fKind, aI x12.fHigh.fInt, aF x12.fHigh.fFloat, aS x12.fHigh.fText, aI x12.fCount, aI x12.fDistinct] false] (by kernel_rfl) (fin [(3, .pv .nils), (5, .ptr 0 0), (6, .pv (encSl R_tabularyref19_Bucket a0)), (7, aI ((sll a0).length : Int)), (8, aI y9)] rfl (by kernel_rfl) (rg (st 3 [(14, aR 1 10 1), (13, .agg [aI x12.fLow.fKind, aI x12.fLow.fInt, aF x12.fLow.fFloat, aS x12.fLow.fText, aI x12.fHigh.fKind, aI x12.fHigh.fInt, aF x12.fHigh.fFloat, aS x12.fHigh.fText, aI x12.fCount, aI x12.fDistinct]), (12, .pv .nils)] [.box [aI x12.fLow.fKind, aI x12.fLow.fInt, aF x12.fLow.fFloat, aS x12.fLow.fText, aI x12.fHigh.fKind, aI x12.fHigh.fInt, aF x12.fHigh.fFloat, aS x12.fHigh.fText, aI x12.fCount, aI x12.fDistinct] false, bR 77 10 R_hist_Bucket ([(hist_Bucket.mk x12.fLow x12.fHigh x12.fCount x12.fDistinct)] : List hist_Bucket) 0 0] (by kernel_rfl) ?_))))
    obtain ⟨_, h14, hm⟩ := bs hm
    refine dO [(15, aR 2 10 (([(hist_Bucket.mk x12.fLow x12.fHigh x12.fCount x12.fDistinct)] : List hist_Bucket).length))] [.box [aI x12.fLow.fKind, aI x12.fLow.fInt, aF x12.fLow.fFloat, aS x12.fLow.fText, aI x12.fHigh.fKind, aI x12.fHigh.fInt, aF x12.fHigh.fFloat, aS x12.fHigh.fText, aI x12.fCount, aI x12.fDistinct] false, bR 77 10 R_hist_Bucket ([(hist_Bucket.mk x12.fLow x12.fHigh x12.fCount x12.fDistinct)] : List hist_Bucket) 0 0, bR 77 10 R_hist_Bucket ([(hist_Bucket.mk x12.fLow x12.fHigh x12.fCount x12.fDistinct)] : List hist_Bucket) 0 0] (app_nilO (u := 0) R_hist_Bucket ([(hist_Bucket.mk x12.fLow x12.fHigh x12.fCount x12.fDistinct)] : List hist_Bucket) (b := 96) t53 t77 rfl rfl rfl (fun _ => rfl) rfl h14 (show srcRows (aR 1 10 1) _ = some (([(hist_Bucket.mk x12.fLow x12.fHigh x12.fCount x12.fDistinct)] : List hist_Bucket).map R_hist_Bucket) from by kernel_rfl) (by kernel_rfl)) (by kernel_rfl) (sh 1 [(3, aR 2 10 (([(hist_Bucket.mk x12.fLow x12.fHigh x12.fCount x12.fDistinct)] : List hist_Bucket).length))] (by kernel_rfl) (fin [(3, aR 2 10 (([(hist_Bucket.mk x12.fLow x12.fHigh x12.fCount x12.fDistinct)] : List hist_Bucket).length)), (6, .pv (encSl R_tabularyref19_Bucket a0)), (7, aI ((sll a0).length : Int)), (8, aI y9)] rfl (by kernel_rfl) (detn [(3, aR 2 10 (([(hist_Bucket.mk x12.fLow x12.fHigh x12.fCount x12.fDistinct)] : List hist_Bucket).length)), (6, .pv (encSl R_tabularyref19_Bucket a0)), (7, aI ((sll a0).length : Int)), (8, aI (IntKind.wrap .i64 (y9 + 1)))] (by kernel_rfl) ?_)))
    exact ⟨_, _, tidyL [(3, aR 0 10 (([(hist_Bucket.mk x12.fLow x12.fHigh x12.fCount x12.fDistinct)] : List hist_Bucket).length)), (6, .pv (encSl R_tabularyref19_Bucket a0)), (7, aI ((sll a0).length : Int)), (8, aI (IntKind.wrap .i64 (y9 + 1)))] [bR 77 10 R_hist_Bucket ([(hist_Bucket.mk x12.fLow x12.fHigh x12.fCount x12.fDistinct)] : List hist_Bucket) 0 0] (by kernel_rfl), .inr (⟨([(hist_Bucket.mk x12.fLow x12.fHigh x12.fCount x12.fDistinct)] : List hist_Bucket), (IntKind.wrap .i64 (y9 + 1)), hm, rfl, rfl⟩)⟩
   ·
    refine cf h11 (by kernel_rfl) (wp_exit ?_)
    exact .inl ⟨aI y9, aB (decide (y9 < ((sll a0).length : Int))), hm, (mk_same (by kernel_rfl)), rfl⟩
  ·
   simp only [law19_Given_l3] at hm
   refine sq (detn [(3, aR 0 10 y8.length), (6, .pv (encSl R_tabularyref19_Bucket a0)), (7, aI ((sll a0).length : Int)), (8, aI y9), (9, aB (decide (y9 < ((sll a0).length : Int))))] (by kernel_rfl) ?_)
   refine sq ?_
   rcases bif_some hm with ⟨h15, hm⟩ | ⟨h15, hm⟩
   ·
    refine ct h15 (by kernel_rfl) (wp_skip (sq (bq (sq (rg ?_)))))
    obtain ⟨x16, h17, hm⟩ := bs hm
    refine dv 10 (v := .pv (.ptr (R_tabularyref19_Bucket x16) 0)) (ia_slO R_tabularyref19_Bucket a0 .i64 t56 t80 h17 rfl (by kernel_rfl)) (by kernel_rfl) (st 3 [(5, .ptr 1 0), (11, .agg [aI x16.fLow.fKind, aI x16.fLow.fInt, aF x16.fLow.fFloat, aS x16.fLow.fText, aI x16.fHigh.fKind, aI x16.fHigh.fInt, aF x16.fHigh.fFloat, aS x16.fHigh.fText, aI x16.fCount, aI x16.fDistinct])] [bR 77 10 R_hist_Bucket y8 0 0, .box [aI x16.fLow.fKind, aI x16.fLow.fInt, aF x16.fLow.fFloat, aS x16.fLow.fText, aI x16.fHigh.fKind, aI x16.fHigh.fInt, aF x16.fHigh.fFloat, aS x16.fHigh.fText, aI x16.fCount, aI x16.fDistinct] false] (by kernel_rfl) (fin [(3, aR 0 10 y8.length), (5, .ptr 1 0), (6, .pv (encSl R_tabularyref19_Bucket a0)), (7, aI ((sll a0).length : Int)), (8, aI y9)] rfl (by kernel_rfl) (rg (st 3 [(14, aR 2 10 1), (13, .agg [aI x16.fLow.fKind, aI x16.fLow.fInt, aF x16.fLow.fFloat, aS x16.fLow.fText, aI x16.fHigh.fKind, aI x16.fHigh.fInt, aF x16.fHigh.fFloat, aS x16.fHigh.fText, aI x16.fCount, aI x16.fDistinct]), (12, aR 0 10 y8.length)] [bR 77 10 R_hist_Bucket y8 0 0, .box [aI x16.fLow.fKind, aI x16.fLow.fInt, aF x16.fLow.fFloat, aS x16.fLow.fText, aI x16.fHigh.fKind, aI x16.fHigh.fInt, aF x16.fHigh.fFloat, aS x16.fHigh.fText, aI x16.fCount, aI x16.fDistinct] false, bR 77 10 R_hist_Bucket ([(hist_Bucket.mk x16.fLow x16.fHigh x16.fCount x16.fDistinct)] : List hist_Bucket) 0 0] (by kernel_rfl) ?_))))
    obtain ⟨_, h18, hm⟩ := bs hm
    refine dO [(15, aR 0 10 ((y8 ++ ([(hist_Bucket.mk x16.fLow x16.fHigh x16.fCount x16.fDistinct)] : List hist_Bucket)).length))] [bR 77 10 R_hist_Bucket (y8 ++ ([(hist_Bucket.mk x16.fLow x16.fHigh x16.fCount x16.fDistinct)] : List hist_Bucket)) 0 0, .box [aI x16.fLow.fKind, aI x16.fLow.fInt, aF x16.fLow.fFloat, aS x16.fLow.fText, aI x16.fHigh.fKind, aI x16.fHigh.fInt, aF x16.fHigh.fFloat, aS x16.fHigh.fText, aI x16.fCount, aI x16.fDistinct] false, bR 77 10 R_hist_Bucket ([(hist_Bucket.mk x16.fLow x16.fHigh x16.fCount x16.fDistinct)] : List hist_Bucket) 0 0] (app_refO (u := 0) (n := y8.length) (id := 0) R_hist_Bucket y8 ([(hist_Bucket.mk x16.fLow x16.fHigh x16.fCount x16.fDistinct)] : List hist_Bucket) (b := 96) t53 t77 rfl rfl rfl (fun _ => rfl) rfl h18 rfl rfl (Nat.zero_le _) (show srcRows (aR 2 10 1) _ = some (([(hist_Bucket.mk x16.fLow x16.fHigh x16.fCount x16.fDistinct)] : List hist_Bucket).map R_hist_Bucket) from by kernel_rfl) (by kernel_rfl)) (by kernel_rfl) (sh 1 [(3, aR 0 10 ((y8 ++ ([(hist_Bucket.mk x16.fLow x16.fHigh x16.fCount x16.fDistinct)] : List hist_Bucket)).length))] (by kernel_rfl) (fin [(3, aR 0 10 ((y8 ++ ([(hist_Bucket.mk x16.fLow x16.fHigh x16.fCount x16.fDistinct)] : List hist_Bucket)).length)), (6, .pv (encSl R_tabularyref19_Bucket a0)), (7, aI ((sll a0).length : Int)), (8, aI y9)] rfl (by kernel_rfl) (detn [(3, aR 0 10 ((y8 ++ ([(hist_Bucket.mk x16.fLow x16.fHigh x16.fCount x16.fDistinct)] : List hist_Bucket)).length)), (6, .pv (encSl R_tabularyref19_Bucket a0)), (7, aI ((sll a0).length : Int)), (8, aI (IntKind.wrap .i64 (y9 + 1)))] (by kernel_rfl) ?_)))
    exact ⟨_, _, tidyL [(3, aR 0 10 ((y8 ++ ([(hist_Bucket.mk x16.fLow x16.fHigh x16.fCount x16.fDistinct)] : List hist_Bucket)).length)), (6, .pv (encSl R_tabularyref19_Bucket a0)), (7, aI ((sll a0).length : Int)), (8, aI (IntKind.wrap .i64 (y9 + 1)))] [bR 77 10 R_hist_Bucket (y8 ++ ([(hist_Bucket.mk x16.fLow x16.fHigh x16.fCount x16.fDistinct)] : List hist_Bucket)) 0 0] (by kernel_rfl), .inr (⟨(y8 ++ ([(hist_Bucket.mk x16.fLow x16.fHigh x16.fCount x16.fDistinct)] : List hist_Bucket)), (IntKind.wrap .i64 (y9 + 1)), hm, rfl, rfl⟩)⟩
   ·
    refine cf h15 (by kernel_rfl) (wp_exit ?_)
    exact .inr (⟨y8, aI y9, aB (decide (y9 < ((sll a0).length : Int))), hm, (mk_same (by kernel_rfl)), rfl⟩)
theorem ok_math_Signbit {n : Nat} {a0 : Nat} {r : Bool} (hm : math_Signbit n a0 = some r) :
    call G n 81 [aF a0] [] = some (.ret (aB r), []) := by
  unfold math_Signbit at hm
  obtain ⟨n, rfl, h0⟩ := at1_some hm
  replace hm := h0; clear h0
  refine callL 7 [(0, aF a0)] func81 rfl (by kernel_rfl) (sq (detn [(0, aF a0)] (by kernel_rfl) (sq (rg (sh 1 [(3, aF a0)] (by kernel_rfl) (sh 1 [(4, aU (a0 : Int))] (by kernel_rfl) (sh 3 [(2, aB (decide ((IntKind.wrap .i64 (a0 : Int)) < 0))), (6, aB (decide ((IntKind.wrap .i64 (a0 : Int)) < 0))), (5, aI (IntKind.wrap .i64 (a0 : Int)))] (by kernel_rfl) (fin [(2, aB (decide ((IntKind.wrap .i64 (a0 : Int)) < 0)))] rfl (by kernel_rfl) (wp_ret ?_)))))))))
  obtain rfl := Option.some.inj hm
  exact ⟨trivial, by kernel_rfl⟩
theorem ok_value_Right {n : Nat} {a0 : api_Value} {r : Bool} (hm : value_Right n a0 = some r) :
    call G n 42 [.agg [aI a0.fKind, aI a0.fInt, aF a0.fFloat, aS a0.fText]] [] = some (.ret (aB r), []) := by
  unfold value_Right at hm
  obtain ⟨n, rfl, h0⟩ := at1_some hm
  replace hm := h0; clear h0
  refine callL 70 [(0, .agg [aI a0.fKind, aI a0.fInt, aF a0.fFloat, aS a0.fText])] func42 rfl (by kernel_rfl) (sq (det [(1, .ptr 0 0)] [.box [aI a0.fKind, aI a0.fInt, aF a0.fFloat, aS a0.fText] false] (by kernel_rfl) ?_))
  obtain ⟨k2, hk2, hm⟩ := withK_some hm
  refine mid (fun t H => (∃ (y1 : Bool), k2 y1 = some r ∧ t = mk 70 [(1, .ptr 0 0), (3, aB y1)] ∧ H = [.box [aI a0.fKind, aI a0.fInt, aF a0.fFloat, aS a0.fText] false])) ?_ ?_
  ·
   rintro _ _ ⟨y1, hm, rfl, rfl⟩
   subst hk2
   refine sq (sq (detn [(1, .ptr 0 0), (3, aB y1), (14, aI a0.fKind)] (by kernel_rfl) (bq ?_)))
   refine sq (bq ?_)
   refine sq (bq ?_)
   obtain ⟨k6, hk6, hm⟩ := withK_some hm
   refine mid (fun t H => (∃ (w3 : AV) (w4 : AV) (w5 : AV), k6 () = some r ∧ t = mk 70 [(1, .ptr 0 0), (3, aB y1), (14, w3), (19, w4), (43, w5)] ∧ H = [.box [aI a0.fKind, aI a0.fInt, aF a0.fFloat, aS a0.fText] false])) ?_ ?_
   ·
    rintro _ _ ⟨w3, w4, w5, hm, rfl, rfl⟩
    subst hk6
    refine sq (sq (rg (sh 2 [(45, aB y1), (44, aB y1)] (by kernel_rfl) ?_)))
    refine seg y1 [45, 44, 3] (fun b => [(49, aB (b && (sEq a0.fText ByteArray.empty))), (48, ifA b (aB (sEq a0.fText ByteArray.empty)) (.undef)), (47, ifA b (aS a0.fText) (.undef)), (46, ifA b (.ptr 0 3) (.undef))]) 6 (by kernel_rfl) ?_ ?_ ?_
    ·
     intro Q h
     refine sh 4 [(49, aB (sEq a0.fText ByteArray.empty)), (48, aB (sEq a0.fText ByteArray.empty)), (47, aS a0.fText), (46, .ptr 0 3)] (by kernel_rfl) ?_
     exact sameN (by kernel_rfl) (by kernel_rfl) h
    ·
     intro Q h
     refine sh 4 [(49, aB false), (48, .undef), (47, .undef), (46, .undef)] (by kernel_rfl) ?_
     exact sameN (by kernel_rfl) (by kernel_rfl) h
    refine sh 1 [(2, aB (y1 && (sEq a0.fText ByteArray.empty)))] (by kernel_rfl) (fin [(2, aB (y1 && (sEq a0.fText ByteArray.empty)))] rfl (by kernel_rfl) (wp_ret ?_))
    obtain rfl := Option.some.inj hm
    exact ⟨trivial, by kernel_rfl⟩
   refine bq ?_
   refine sq (bq ?_)
   refine sq (bq (sq ?_))
   refine sq (sq (detn [(1, .ptr 0 0), (3, aB y1), (14, aI a0.fKind), (15, aB (a0.fKind == 0))] (by kernel_rfl) ?_))
   rcases bif_some hm with ⟨h7, hm⟩ | ⟨h7, hm⟩
   ·
    refine ct h7 (by kernel_rfl) (wp_exit (sq (sq (rg (sh 4 [(28, aB (a0.fInt == 0)), (27, aB (a0.fInt == 0)), (26, aI a0.fInt), (25, .ptr 0 1)] (by kernel_rfl) ?_)))))
    refine seg (a0.fInt == 0) [28, 27] (fun b => [(30, aB (b && y1)), (29, ifA b (aB y1) (.undef))]) 6 (by kernel_rfl) ?_ ?_ ?_
    ·
     intro Q h
     refine sh 2 [(30, aB y1), (29, aB y1)] (by kernel_rfl) ?_
     exact sameN (by kernel_rfl) (by kernel_rfl) h
    ·
     intro Q h
     refine sh 2 [(30, aB false), (29, .undef)] (by kernel_rfl) ?_
     exact sameN (by kernel_rfl) (by kernel_rfl) h
    refine sh 1 [(31, aB ((a0.fInt == 0) && y1))] (by kernel_rfl) ?_
    refine seg ((a0.fInt == 0) && y1) [31, 30] (fun b => [(35, aB (b && (sEq a0.fText ByteArray.empty))), (34, ifA b (aB (sEq a0.fText ByteArray.empty)) (.undef)), (33, ifA b (aS a0.fText) (.undef)), (32, ifA b (.ptr 0 3) (.undef))]) 11 (by kernel_rfl) ?_ ?_ ?_
    ·
     intro Q h
     refine sh 4 [(35, aB (sEq a0.fText ByteArray.empty)), (34, aB (sEq a0.fText ByteArray.empty)), (33, aS a0.fText), (32, .ptr 0 3)] (by kernel_rfl) ?_
     exact sameN (by kernel_rfl) (by kernel_rfl) h
    ·
     intro Q h
     refine sh 4 [(35, aB false), (34, .undef), (33, .undef), (32, .undef)] (by kernel_rfl) ?_
     exact sameN (by kernel_rfl) (by kernel_rfl) h
    refine sh 1 [(2, aB (((a0.fInt == 0) && y1) && (sEq a0.fText ByteArray.empty)))] (by kernel_rfl) (fin [(2, aB (((a0.fInt == 0) && y1) && (sEq a0.fText ByteArray.empty)))] rfl (by kernel_rfl) (wp_ret ?_))
    obtain rfl := Option.some.inj hm
    exact ⟨trivial, by kernel_rfl⟩
   ·
    refine cf h7 (by kernel_rfl) (wp_skip (sq (sq (detn [(1, .ptr 0 0), (3, aB y1), (14, aI a0.fKind), (17, aB (a0.fKind == 1))] (by kernel_rfl) ?_))))
    rcases bif_some hm with ⟨h8, hm⟩ | ⟨h8, hm⟩
    ·
     refine ct h8 (by kernel_rfl) (wp_exit (sq (rg (sh 4 [(39, aB (a0.fInt != 0)), (38, aB (a0.fInt != 0)), (37, aI a0.fInt), (36, .ptr 0 1)] (by kernel_rfl) ?_))))
     refine seg (a0.fInt != 0) [39, 38] (fun b => [(43, aB (b && (a0.fInt != 1))), (42, ifA b (aB (a0.fInt != 1)) (.undef)), (41, ifA b (aI a0.fInt) (.undef)), (40, ifA b (.ptr 0 1) (.undef))]) 8 (by kernel_rfl) ?_ ?_ ?_
     ·
      intro Q h
      refine sh 4 [(43, aB (a0.fInt != 1)), (42, aB (a0.fInt != 1)), (41, aI a0.fInt), (40, .ptr 0 1)] (by kernel_rfl) ?_
      exact sameN (by kernel_rfl) (by kernel_rfl) h
     ·
      intro Q h
      refine sh 4 [(43, aB false), (42, .undef), (41, .undef), (40, .undef)] (by kernel_rfl) ?_
      exact sameN (by kernel_rfl) (by kernel_rfl) h
     refine fin [(1, .ptr 0 0), (3, aB y1), (43, aB ((a0.fInt != 0) && (a0.fInt != 1)))] rfl (by kernel_rfl) ?_
     rcases bif_some hm with ⟨h9, hm⟩ | ⟨h9, hm⟩
     ·
      refine ct h9 (by kernel_rfl) (sq (detn [(2, aB false)] (by kernel_rfl) (wp_ret ?_)))
      obtain rfl := Option.some.inj hm
      exact ⟨trivial, by kernel_rfl⟩
     ·
      refine cf h9 (by kernel_rfl) (wp_skip ?_)
      exact ⟨.any, .any, aB ((a0.fInt != 0) && (a0.fInt != 1)), hm, (mk_same (by kernel_rfl)), rfl⟩
    ·
     refine cf h8 (by kernel_rfl) (wp_skip (sq (sq (detn [(1, .ptr 0 0), (3, aB y1), (14, aI a0.fKind), (19, aB (a0.fKind == 2))] (by kernel_rfl) ?_))))
     rcases bif_some hm with ⟨h10, hm⟩ | ⟨h10, hm⟩
     ·
      refine ct h10 (by kernel_rfl) (wp_exit ?_)
      exact ⟨aI a0.fKind, aB (a0.fKind == 2), .any, hm, (mk_same (by kernel_rfl)), rfl⟩
     ·
      refine cf h10 (by kernel_rfl) (wp_skip (sq (sq (detn [(1, .ptr 0 0), (3, aB y1), (14, aI a0.fKind), (21, aB (a0.fKind == 3))] (by kernel_rfl) ?_))))
      rcases bif_some hm with ⟨h11, hm⟩ | ⟨h11, hm⟩
      ·
       refine ct h11 (by kernel_rfl) (wp_exit (sq (sq (rg (sh 4 [(53, aB (a0.fInt == 0)), (52, aB (a0.fInt == 0)), (51, aI a0.fInt), (50, .ptr 0 1)] (by kernel_rfl) ?_)))))
       refine seg (a0.fInt == 0) [53, 52] (fun b => [(57, aB (b && (sEq a0.fText ByteArray.empty))), (56, ifA b (aB (sEq a0.fText ByteArray.empty)) (.undef)), (55, ifA b (aS a0.fText) (.undef)), (54, ifA b (.ptr 0 3) (.undef))]) 8 (by kernel_rfl) ?_ ?_ ?_
       ·
        intro Q h
        refine sh 4 [(57, aB (sEq a0.fText ByteArray.empty)), (56, aB (sEq a0.fText ByteArray.empty)), (55, aS a0.fText), (54, .ptr 0 3)] (by kernel_rfl) ?_
        exact sameN (by kernel_rfl) (by kernel_rfl) h
       ·
        intro Q h
        refine sh 4 [(57, aB false), (56, .undef), (55, .undef), (54, .undef)] (by kernel_rfl) ?_
        exact sameN (by kernel_rfl) (by kernel_rfl) h
       refine sh 1 [(2, aB ((a0.fInt == 0) && (sEq a0.fText ByteArray.empty)))] (by kernel_rfl) (fin [(2, aB ((a0.fInt == 0) && (sEq a0.fText ByteArray.empty)))] rfl (by kernel_rfl) (wp_ret ?_))
       obtain rfl := Option.some.inj hm
       exact ⟨trivial, by kernel_rfl⟩
      ·
       refine cf h11 (by kernel_rfl) (wp_skip (sq (detn [(1, .ptr 0 0), (3, aB y1), (23, aB (a0.fKind == 4))] (by kernel_rfl) ?_)))
       rcases bif_some hm with ⟨h12, hm⟩ | ⟨h12, hm⟩
       ·
        refine ct h12 (by kernel_rfl) (wp_exit (sq (sq (rg (sh 4 [(61, aB (a0.fInt == 0)), (60, aB (a0.fInt == 0)), (59, aI a0.fInt), (58, .ptr 0 1)] (by kernel_rfl) ?_)))))
        refine seg (a0.fInt == 0) [61, 60] (fun b => [(63, aB (b && y1)), (62, ifA b (aB y1) (.undef))]) 6 (by kernel_rfl) ?_ ?_ ?_
        ·
         intro Q h
         refine sh 2 [(63, aB y1), (62, aB y1)] (by kernel_rfl) ?_
         exact sameN (by kernel_rfl) (by kernel_rfl) h
        ·
         intro Q h
         refine sh 2 [(63, aB false), (62, .undef)] (by kernel_rfl) ?_
         exact sameN (by kernel_rfl) (by kernel_rfl) h
        refine sh 1 [(64, aB ((a0.fInt == 0) && y1))] (by kernel_rfl) ?_
        refine seg ((a0.fInt == 0) && y1) [64, 63] (fun b => [(69, aB (b && (decide ((a0.fText.size : Int) ≤ 64)))), (68, ifA b (aB (decide ((a0.fText.size : Int) ≤ 64))) (.undef)), (67, ifA b (aI (a0.fText.size : Int)) (.undef)), (66, ifA b (aS a0.fText) (.undef)), (65, ifA b (.ptr 0 3) (.undef))]) 12 (by kernel_rfl) ?_ ?_ ?_
        ·
         intro Q h
         refine sh 5 [(69, aB (decide ((a0.fText.size : Int) ≤ 64))), (68, aB (decide ((a0.fText.size : Int) ≤ 64))), (67, aI (a0.fText.size : Int)), (66, aS a0.fText), (65, .ptr 0 3)] (by kernel_rfl) ?_
         exact sameN (by kernel_rfl) (by kernel_rfl) h
        ·
         intro Q h
         refine sh 5 [(69, aB false), (68, .undef), (67, .undef), (66, .undef), (65, .undef)] (by kernel_rfl) ?_
         exact sameN (by kernel_rfl) (by kernel_rfl) h
        refine sh 1 [(2, aB (((a0.fInt == 0) && y1) && (decide ((a0.fText.size : Int) ≤ 64))))] (by kernel_rfl) (fin [(2, aB (((a0.fInt == 0) && y1) && (decide ((a0.fText.size : Int) ≤ 64))))] rfl (by kernel_rfl) (wp_ret ?_))
        obtain rfl := Option.some.inj hm
        exact ⟨trivial, by kernel_rfl⟩
       ·
        refine cf h12 (by kernel_rfl) (wp_skip (wp_exit (sq (detn [(2, aB false)] (by kernel_rfl) (wp_ret ?_)))))
        obtain rfl := Option.some.inj hm
        exact ⟨trivial, by kernel_rfl⟩
  refine rg (sh 4 [(7, aB ((FloatKind.format .f64).order a0.fFloat 0 == some .eq)), (6, aB ((FloatKind.format .f64).order a0.fFloat 0 == some .eq)), (5, aF a0.fFloat), (4, .ptr 0 2)] (by kernel_rfl) ?_)
  rcases bif_some hm with ⟨h13, hm⟩ | ⟨h13, hm⟩
  ·
   refine known [7, 6] h13 (by kernel_rfl) (sh 2 [(9, aF a0.fFloat), (8, .ptr 0 2)] (by kernel_rfl) ?_)
   obtain ⟨x14, h15, hm⟩ := bs hm
   refine dv 10 (cpure (by kernel_rfl) (ok_math_Signbit h15) (by kernel_rfl) (by kernel_rfl) (by kernel_rfl)) (by kernel_rfl) (sh 3 [(3, aB (!x14)), (12, aB (!x14)), (11, aB (!x14))] (by kernel_rfl) (fin [(1, .ptr 0 0), (3, aB (!x14))] rfl (by kernel_rfl) ?_))
   exact ⟨(!x14), hm, rfl, rfl⟩
  ·
   refine known [7, 6] h13 (by kernel_rfl) (sh 6 [(3, aB false), (12, aB false), (11, .undef), (10, .undef), (9, .undef), (8, .undef)] (by kernel_rfl) (fin [(1, .ptr 0 0), (3, aB false)] rfl (by kernel_rfl) ?_))
   exact ⟨false, hm, rfl, rfl⟩
theorem ok_hist_plain {n : Nat} {a0 : api_Value} {r : Bool} (hm : hist_plain n a0 = some r) :
    call G n 104 [.agg [aI a0.fKind, aI a0.fInt, aF a0.fFloat, aS a0.fText]] [] = some (.ret (aB r), []) := by
  unfold hist_plain at hm
  obtain ⟨n, rfl, h0⟩ := at1_some hm
  replace hm := h0; clear h0
  refine callL 21 [(0, .agg [aI a0.fKind, aI a0.fInt, aF a0.fFloat, aS a0.fText])] func104 rfl (by kernel_rfl) (sq (det [(1, .ptr 0 0)] [.box [aI a0.fKind, aI a0.fInt, aF a0.fFloat, aS a0.fText] false] (by kernel_rfl) (sq (rg (sh 1 [(3, .agg [aI a0.fKind, aI a0.fInt, aF a0.fFloat, aS a0.fText])] (by kernel_rfl) ?_)))))
  obtain ⟨x1, h2, hm⟩ := bs hm
  refine dv 4 (cpure (by kernel_rfl) (ok_value_Right h2) (by kernel_rfl) (by kernel_rfl) (by kernel_rfl)) (by kernel_rfl) (sh 1 [(5, aB x1)] (by kernel_rfl) ?_)
  refine seg x1 [5, 4] (fun b => [(9, aB (b && (a0.fKind != 0))), (8, ifA b (aB (a0.fKind != 0)) (.undef)), (7, ifA b (aI a0.fKind) (.undef)), (6, ifA b (.ptr 0 0) (.undef))]) 7 (by kernel_rfl) ?_ ?_ ?_
  ·
   intro Q h
   refine sh 4 [(9, aB (a0.fKind != 0)), (8, aB (a0.fKind != 0)), (7, aI a0.fKind), (6, .ptr 0 0)] (by kernel_rfl) ?_
   exact sameN (by kernel_rfl) (by kernel_rfl) h
  ·
   intro Q h
   refine sh 4 [(9, aB false), (8, .undef), (7, .undef), (6, .undef)] (by kernel_rfl) ?_
   exact sameN (by kernel_rfl) (by kernel_rfl) h
  refine sh 1 [(10, aB (x1 && (a0.fKind != 0)))] (by kernel_rfl) ?_
  rcases bif_some hm with ⟨h3, hm⟩ | ⟨h3, hm⟩
  ·
   refine known [10, 9] h3 (by kernel_rfl) (sh 4 [(14, aB ((FloatKind.format .f64).order a0.fFloat 0 != some .eq)), (13, aB ((FloatKind.format .f64).order a0.fFloat 0 != some .eq)), (12, aF a0.fFloat), (11, .ptr 0 2)] (by kernel_rfl) ?_)
   rcases bif_some hm with ⟨h4, hm⟩ | ⟨h4, hm⟩
   ·
    refine known [14, 13] h4 (by kernel_rfl) (sh 7 [(2, aB true), (20, aB true), (19, aB true), (18, .undef), (17, .undef), (16, .undef), (15, .undef)] (by kernel_rfl) (fin [(2, aB true)] rfl (by kernel_rfl) (wp_ret ?_)))
    obtain rfl := Option.some.inj hm
    exact ⟨trivial, by kernel_rfl⟩
   ·
    refine known [14, 13] h4 (by kernel_rfl) (sh 2 [(16, aF a0.fFloat), (15, .ptr 0 2)] (by kernel_rfl) ?_)
    obtain ⟨x5, h6, hm⟩ := bs hm
    refine dv 17 (cpure (by kernel_rfl) (ok_math_Signbit h6) (by kernel_rfl) (by kernel_rfl) (by kernel_rfl)) (by kernel_rfl) (sh 4 [(2, aB (!x5)), (20, aB (!x5)), (19, aB (!x5)), (18, aB (!x5))] (by kernel_rfl) (fin [(2, aB (!x5))] rfl (by kernel_rfl) (wp_ret ?_)))
    obtain rfl := Option.some.inj hm
    exact ⟨trivial, by kernel_rfl⟩
  ·
   refine known [10, 9] h3 (by kernel_rfl) (sh 11 [(2, aB false), (20, aB false), (19, .undef), (18, .undef), (17, .undef), (16, .undef), (15, .undef), (14, .undef), (13, .undef), (12, .undef), (11, .undef)] (by kernel_rfl) (fin [(2, aB false)] rfl (by kernel_rfl) (wp_ret ?_)))
   obtain rfl := Option.some.inj hm
   exact ⟨trivial, by kernel_rfl⟩
theorem ok_math_IsNaN {n : Nat} {a0 : Nat} {r : Bool} (hm : math_IsNaN n a0 = some r) :
    call G n 106 [aF a0] [] = some (.ret (aB r), []) := by
  unfold math_IsNaN at hm
  obtain ⟨n, rfl, h0⟩ := at1_some hm
  replace hm := h0; clear h0
  refine callL 6 [(0, aF a0)] func106 rfl (by kernel_rfl) (sq (detn [(0, aF a0)] (by kernel_rfl) (sq (detn [(2, aB ((FloatKind.format .f64).order a0 a0 != some .eq))] (by kernel_rfl) (wp_ret ?_)))))
  obtain rfl := Option.some.inj hm
  exact ⟨trivial, by kernel_rfl⟩
theorem ok_value_Plain {n : Nat} {a0 : api_Value} {r : api_Value} (hm : value_Plain n a0 = some r) :
    call G n 76 [.agg [aI a0.fKind, aI a0.fInt, aF a0.fFloat, aS a0.fText]] [] = some (.ret (.agg [aI r.fKind, aI r.fInt, aF r.fFloat, aS r.fText]), []) := by
  unfold value_Plain at hm
  obtain ⟨n, rfl, h0⟩ := at1_some hm
  replace hm := h0; clear h0
  refine callL 30 [(0, .agg [aI a0.fKind, aI a0.fInt, aF a0.fFloat, aS a0.fText])] func76 rfl (by kernel_rfl) (sq (det [(1, .ptr 0 0), (2, .ptr 1 0)] [.box [aI a0.fKind, aI a0.fInt, aF a0.fFloat, aS a0.fText] false, .box [aI 0, aI 0, aF 0, aS ByteArray.empty] false] (by kernel_rfl) (sq (bq (sq (rg (sh 1 [(4, .agg [aI a0.fKind, aI a0.fInt, aF a0.fFloat, aS a0.fText])] (by kernel_rfl) ?_)))))))
  obtain ⟨x1, h2, hm⟩ := bs hm
  refine dv 5 (cpure (by kernel_rfl) (ok_value_Right h2) (by kernel_rfl) (by kernel_rfl) (by kernel_rfl)) (by kernel_rfl) (sh 2 [(3, aB (!x1)), (6, aB (!x1))] (by kernel_rfl) (fin [(1, .ptr 0 0), (2, .ptr 1 0), (3, aB (!x1))] rfl (by kernel_rfl) ?_))
  rcases bif_some hm with ⟨h3, hm⟩ | ⟨h3, hm⟩
  ·
   refine ct h3 (by kernel_rfl) (sq (detn [(2, .ptr 1 0)] (by kernel_rfl) (wp_ret ?_)))
   obtain rfl := Option.some.inj hm
   exact ⟨trivial, by kernel_rfl⟩
  ·
   refine cf h3 (by kernel_rfl) ?_
   obtain ⟨k5, hk5, hm⟩ := withK_some hm
   refine mid (fun t H => (∃ (y4 : Bool), k5 y4 = some r ∧ t = mk 30 [(1, .ptr 0 0), (2, .ptr 1 0), (8, aB y4)] ∧ H = [.box [aI a0.fKind, aI a0.fInt, aF a0.fFloat, aS a0.fText] false, .box [aI 0, aI 0, aF 0, aS ByteArray.empty] false])) ?_ ?_
   ·
    rintro _ _ ⟨y4, hm, rfl, rfl⟩
    subst hk5
    rcases bif_some hm with ⟨h6, hm⟩ | ⟨h6, hm⟩
    ·
     refine ct h6 (by kernel_rfl) (rg (sh 1 [(17, aF (Int.toNat 9221120237041090561))] (by kernel_rfl) (st 2 [(18, .ptr 0 2)] [.box [aI a0.fKind, aI a0.fInt, aF (Int.toNat 9221120237041090561), aS a0.fText] false, .box [aI 0, aI 0, aF 0, aS ByteArray.empty] false] (by kernel_rfl) (fin [(1, .ptr 0 0), (2, .ptr 1 0)] rfl (by kernel_rfl) (sq (det [(2, .ptr 1 0)] [.box [aI a0.fKind, aI a0.fInt, aF (Int.toNat 9221120237041090561), aS a0.fText] false, .box [aI a0.fKind, aI a0.fInt, aF (Int.toNat 9221120237041090561), aS a0.fText] false] (by kernel_rfl) (wp_ret ?_)))))))
     obtain rfl := Option.some.inj hm
     exact ⟨trivial, by kernel_rfl⟩
    ·
     refine cf h6 (by kernel_rfl) (sq (rg (sh 4 [(23, aB (a0.fKind == 3)), (22, aB (a0.fKind == 3)), (21, aI a0.fKind), (20, .ptr 0 0)] (by kernel_rfl) ?_)))
     refine seg (a0.fKind == 3) [23, 22] (fun b => [(27, aB (b && ((FloatKind.format .f64).order a0.fFloat 0 == some .eq))), (26, ifA b (aB ((FloatKind.format .f64).order a0.fFloat 0 == some .eq)) (.undef)), (25, ifA b (aF a0.fFloat) (.undef)), (24, ifA b (.ptr 0 2) (.undef))]) 8 (by kernel_rfl) ?_ ?_ ?_
     ·
      intro Q h
      refine sh 4 [(27, aB ((FloatKind.format .f64).order a0.fFloat 0 == some .eq)), (26, aB ((FloatKind.format .f64).order a0.fFloat 0 == some .eq)), (25, aF a0.fFloat), (24, .ptr 0 2)] (by kernel_rfl) ?_
      exact sameN (by kernel_rfl) (by kernel_rfl) h
     ·
      intro Q h
      refine sh 4 [(27, aB false), (26, .undef), (25, .undef), (24, .undef)] (by kernel_rfl) ?_
      exact sameN (by kernel_rfl) (by kernel_rfl) h
     refine sh 1 [(19, aB ((a0.fKind == 3) && ((FloatKind.format .f64).order a0.fFloat 0 == some .eq)))] (by kernel_rfl) (fin [(1, .ptr 0 0), (2, .ptr 1 0), (19, aB ((a0.fKind == 3) && ((FloatKind.format .f64).order a0.fFloat 0 == some .eq)))] rfl (by kernel_rfl) ?_)
     rcases bif_some hm with ⟨h7, hm⟩ | ⟨h7, hm⟩
     ·
      refine ct h7 (by kernel_rfl) (det [(1, .ptr 0 0), (2, .ptr 1 0)] [.box [aI a0.fKind, aI a0.fInt, aF 0, aS a0.fText] false, .box [aI 0, aI 0, aF 0, aS ByteArray.empty] false] (by kernel_rfl) (sq (det [(2, .ptr 1 0)] [.box [aI a0.fKind, aI a0.fInt, aF 0, aS a0.fText] false, .box [aI a0.fKind, aI a0.fInt, aF 0, aS a0.fText] false] (by kernel_rfl) (wp_ret ?_))))
      obtain rfl := Option.some.inj hm
      exact ⟨trivial, by kernel_rfl⟩
     ·
      refine cf h7 (by kernel_rfl) (wp_skip (sq (det [(2, .ptr 1 0)] [.box [aI a0.fKind, aI a0.fInt, aF a0.fFloat, aS a0.fText] false, .box [aI a0.fKind, aI a0.fInt, aF a0.fFloat, aS a0.fText] false] (by kernel_rfl) (wp_ret ?_))))
      obtain rfl := Option.some.inj hm
      exact ⟨trivial, by kernel_rfl⟩
   refine rg (sh 4 [(12, aB (a0.fKind == 3)), (11, aB (a0.fKind == 3)), (10, aI a0.fKind), (9, .ptr 0 0)] (by kernel_rfl) ?_)
   rcases bif_some hm with ⟨h8, hm⟩ | ⟨h8, hm⟩
   ·
    refine known [12, 11] h8 (by kernel_rfl) (sh 2 [(14, aF a0.fFloat), (13, .ptr 0 2)] (by kernel_rfl) ?_)
    obtain ⟨x9, h10, hm⟩ := bs hm
    refine dv 15 (cpure (by kernel_rfl) (ok_math_IsNaN h10) (by kernel_rfl) (by kernel_rfl) (by kernel_rfl)) (by kernel_rfl) (sh 2 [(8, aB x9), (16, aB x9)] (by kernel_rfl) (fin [(1, .ptr 0 0), (2, .ptr 1 0), (8, aB x9)] rfl (by kernel_rfl) ?_))
    exact ⟨x9, hm, rfl, rfl⟩
   ·
    refine known [12, 11] h8 (by kernel_rfl) (sh 5 [(8, aB false), (16, aB false), (15, .undef), (14, .undef), (13, .undef)] (by kernel_rfl) (fin [(1, .ptr 0 0), (2, .ptr 1 0), (8, aB false)] rfl (by kernel_rfl) ?_))
    exact ⟨false, hm, rfl, rfl⟩
theorem ok_cmp_isNaN_int {n : Nat} {a0 : Int} {r : Bool} (hm : cmp_isNaN_int n a0 = some r) :
    call G n 108 [aI a0] [] = some (.ret (aB r), []) := by
  unfold cmp_isNaN_int at hm
  obtain ⟨n, rfl, h0⟩ := at1_some hm
  replace hm := h0; clear h0
  refine callL 6 [(0, aI a0)] func108 rfl (by kernel_rfl) (sq (detn [(0, aI a0)] (by kernel_rfl) (sq (detn [(2, aB (a0 != a0))] (by kernel_rfl) (wp_ret ?_)))))
  obtain rfl := Option.some.inj hm
  exact ⟨trivial, by kernel_rfl⟩
theorem ok_cmp_Compare_int {n : Nat} {a0 : Int} {a1 : Int} {r : Int} (hm : cmp_Compare_int n a0 a1 = some r) :
    call G n 77 [aI a0, aI a1] [] = some (.ret (aI r), []) := by
  unfold cmp_Compare_int at hm
  obtain ⟨n, rfl, h0⟩ := at1_some hm
  replace hm := h0; clear h0
  refine callL 20 [(0, aI a0), (1, aI a1)] func77 rfl (by kernel_rfl) (sq (detn [(0, aI a0), (1, aI a1)] (by kernel_rfl) (sq (rg (sh 1 [(7, aI a0)] (by kernel_rfl) ?_)))))
  obtain ⟨x1, h2, hm⟩ := bs hm
  refine dv 8 (cpure (by kernel_rfl) (ok_cmp_isNaN_int h2) (by kernel_rfl) (by kernel_rfl) (by kernel_rfl)) (by kernel_rfl) (sh 1 [(5, aB x1)] (by kernel_rfl) (fin [(0, aI a0), (1, aI a1), (5, aB x1)] rfl (by kernel_rfl) (sq (rg (sh 1 [(9, aI a1)] (by kernel_rfl) ?_)))))
  obtain ⟨x3, h4, hm⟩ := bs hm
  refine dv 10 (cpure (by kernel_rfl) (ok_cmp_isNaN_int h4) (by kernel_rfl) (by kernel_rfl) (by kernel_rfl)) (by kernel_rfl) (sh 1 [(6, aB x3)] (by kernel_rfl) (fin [(0, aI a0), (1, aI a1), (5, aB x1), (6, aB x3)] rfl (by kernel_rfl) ?_))
  refine sq (sq (detn [(0, aI a0), (1, aI a1), (6, aB x3), (11, aB x1)] (by kernel_rfl) ?_))
  rcases bif_some hm with ⟨h5, hm⟩ | ⟨h5, hm⟩
  ·
   refine ct h5 (by kernel_rfl) (sq (sq (detn [(12, aB x3)] (by kernel_rfl) ?_)))
   rcases bif_some hm with ⟨h6, hm⟩ | ⟨h6, hm⟩
   ·
    refine ct h6 (by kernel_rfl) (sq (detn [(4, aI 0)] (by kernel_rfl) (wp_ret ?_)))
    obtain rfl := Option.some.inj hm
    exact ⟨trivial, by kernel_rfl⟩
   ·
    refine cf h6 (by kernel_rfl) (wp_skip (sq (detn [(4, aI (-1))] (by kernel_rfl) (wp_ret ?_))))
    obtain rfl := Option.some.inj hm
    exact ⟨trivial, by kernel_rfl⟩
  ·
   refine cf h5 (by kernel_rfl) (wp_skip ?_)
   refine sq (sq (detn [(0, aI a0), (1, aI a1), (13, aB x3)] (by kernel_rfl) ?_))
   rcases bif_some hm with ⟨h7, hm⟩ | ⟨h7, hm⟩
   ·
    refine ct h7 (by kernel_rfl) (sq (detn [(4, aI 1)] (by kernel_rfl) (wp_ret ?_)))
    obtain rfl := Option.some.inj hm
    exact ⟨trivial, by kernel_rfl⟩
   ·
    refine cf h7 (by kernel_rfl) (wp_skip (sq (sq (detn [(0, aI a0), (1, aI a1), (16, aB (decide (a0 < a1)))] (by kernel_rfl) ?_))))
    rcases bif_some hm with ⟨h8, hm⟩ | ⟨h8, hm⟩
    ·
     refine ct h8 (by kernel_rfl) (sq (detn [(4, aI (-1))] (by kernel_rfl) (wp_ret ?_)))
     obtain rfl := Option.some.inj hm
     exact ⟨trivial, by kernel_rfl⟩
    ·
     refine cf h8 (by kernel_rfl) (wp_skip (sq (sq (detn [(19, aB (decide (a0 > a1)))] (by kernel_rfl) ?_))))
     rcases bif_some hm with ⟨h9, hm⟩ | ⟨h9, hm⟩
     ·
      refine ct h9 (by kernel_rfl) (sq (detn [(4, aI 1)] (by kernel_rfl) (wp_ret ?_)))
      obtain rfl := Option.some.inj hm
      exact ⟨trivial, by kernel_rfl⟩
     ·
      refine cf h9 (by kernel_rfl) (wp_skip (sq (detn [(4, aI 0)] (by kernel_rfl) (wp_ret ?_))))
      obtain rfl := Option.some.inj hm
      exact ⟨trivial, by kernel_rfl⟩
theorem ok_value_floats {n : Nat} {a0 : Nat} {a1 : Nat} {r : Int} (hm : value_floats n a0 a1 = some r) :
    call G n 78 [aF a0, aF a1] [] = some (.ret (aI r), []) := by
  unfold value_floats at hm
  obtain ⟨n, rfl, h0⟩ := at1_some hm
  replace hm := h0; clear h0
  refine callL 28 [(0, aF a0), (1, aF a1)] func78 rfl (by kernel_rfl) (sq (detn [(0, aF a0), (1, aF a1)] (by kernel_rfl) (sq (sq (rg (sh 1 [(7, aF a0)] (by kernel_rfl) ?_))))))
  obtain ⟨x1, h2, hm⟩ := bs hm
  refine dv 8 (cpure (by kernel_rfl) (ok_math_IsNaN h2) (by kernel_rfl) (by kernel_rfl) (by kernel_rfl)) (by kernel_rfl) (sh 1 [(9, aF a1)] (by kernel_rfl) ?_)
  obtain ⟨x3, h4, hm⟩ := bs hm
  refine dv 10 (cpure (by kernel_rfl) (ok_math_IsNaN h4) (by kernel_rfl) (by kernel_rfl) (by kernel_rfl)) (by kernel_rfl) (sh 2 [(6, aB x3), (5, aB x1)] (by kernel_rfl) (fin [(0, aF a0), (1, aF a1), (5, aB x1), (6, aB x3)] rfl (by kernel_rfl) (bq ?_)))
  refine sq (rg (sh 2 [(13, aB x1), (12, aB x1)] (by kernel_rfl) ?_))
  refine seg x1 [13, 12, 5] (fun b => [(15, aB (b && x3)), (14, ifA b (aB x3) (.undef))]) 4 (by kernel_rfl) ?_ ?_ ?_
  ·
   intro Q h
   refine sh 2 [(15, aB x3), (14, aB x3)] (by kernel_rfl) ?_
   exact sameN (by kernel_rfl) (by kernel_rfl) h
  ·
   intro Q h
   refine sh 2 [(15, aB false), (14, .undef)] (by kernel_rfl) ?_
   exact sameN (by kernel_rfl) (by kernel_rfl) h
  refine sh 1 [(11, aB (x1 && x3))] (by kernel_rfl) (fin [(0, aF a0), (1, aF a1), (5, aB x1), (6, aB x3), (11, aB (x1 && x3))] rfl (by kernel_rfl) ?_)
  rcases bif_some hm with ⟨h5, hm⟩ | ⟨h5, hm⟩
  ·
   refine ct h5 (by kernel_rfl) (sq (detn [(4, aI 0)] (by kernel_rfl) (wp_ret ?_)))
   obtain rfl := Option.some.inj hm
   exact ⟨trivial, by kernel_rfl⟩
  ·
   refine cf h5 (by kernel_rfl) (sq (detn [(0, aF a0), (1, aF a1), (6, aB x3), (16, aB x1)] (by kernel_rfl) ?_))
   rcases bif_some hm with ⟨h6, hm⟩ | ⟨h6, hm⟩
   ·
    refine ct h6 (by kernel_rfl) (sq (detn [(4, aI 1)] (by kernel_rfl) (wp_ret ?_)))
    obtain rfl := Option.some.inj hm
    exact ⟨trivial, by kernel_rfl⟩
   ·
    refine cf h6 (by kernel_rfl) (sq (detn [(0, aF a0), (1, aF a1), (18, aB x3)] (by kernel_rfl) ?_))
    rcases bif_some hm with ⟨h7, hm⟩ | ⟨h7, hm⟩
    ·
     refine ct h7 (by kernel_rfl) (sq (detn [(4, aI (-1))] (by kernel_rfl) (wp_ret ?_)))
     obtain rfl := Option.some.inj hm
     exact ⟨trivial, by kernel_rfl⟩
    ·
     refine cf h7 (by kernel_rfl) (sq (detn [(0, aF a0), (1, aF a1), (20, aB ((FloatKind.format .f64).order a0 a1 == some .lt))] (by kernel_rfl) ?_))
     rcases bif_some hm with ⟨h8, hm⟩ | ⟨h8, hm⟩
     ·
      refine ct h8 (by kernel_rfl) (sq (detn [(4, aI (-1))] (by kernel_rfl) (wp_ret ?_)))
      obtain rfl := Option.some.inj hm
      exact ⟨trivial, by kernel_rfl⟩
     ·
      refine cf h8 (by kernel_rfl) (sq (detn [(24, aB ((FloatKind.format .f64).order a0 a1 == some .gt))] (by kernel_rfl) ?_))
      rcases bif_some hm with ⟨h9, hm⟩ | ⟨h9, hm⟩
      ·
       refine ct h9 (by kernel_rfl) (sq (detn [(4, aI 1)] (by kernel_rfl) (wp_ret ?_)))
       obtain rfl := Option.some.inj hm
       exact ⟨trivial, by kernel_rfl⟩
      ·
       refine cf h9 (by kernel_rfl) (wp_skip (sq (detn [(4, aI 0)] (by kernel_rfl) (wp_ret ?_))))
       obtain rfl := Option.some.inj hm
       exact ⟨trivial, by kernel_rfl⟩
theorem ok_cmp_isNaN_string {n : Nat} {a0 : ByteArray} {r : Bool} (hm : cmp_isNaN_string n a0 = some r) :
    call G n 109 [aS a0] [] = some (.ret (aB r), []) := by
  unfold cmp_isNaN_string at hm
  obtain ⟨n, rfl, h0⟩ := at1_some hm
  replace hm := h0; clear h0
  refine callL 6 [(0, aS a0)] func109 rfl (by kernel_rfl) (sq (detn [(0, aS a0)] (by kernel_rfl) (sq (detn [(2, aB (!(sEq a0 a0)))] (by kernel_rfl) (wp_ret ?_)))))
  obtain rfl := Option.some.inj hm
  exact ⟨trivial, by kernel_rfl⟩
theorem ok_cmp_Compare_string {n : Nat} {a0 : ByteArray} {a1 : ByteArray} {r : Int} (hm : cmp_Compare_string n a0 a1 = some r) :
    call G n 79 [aS a0, aS a1] [] = some (.ret (aI r), []) := by
  unfold cmp_Compare_string at hm
  obtain ⟨n, rfl, h0⟩ := at1_some hm
  replace hm := h0; clear h0
  refine callL 20 [(0, aS a0), (1, aS a1)] func79 rfl (by kernel_rfl) (sq (detn [(0, aS a0), (1, aS a1)] (by kernel_rfl) (sq (rg (sh 1 [(7, aS a0)] (by kernel_rfl) ?_)))))
  obtain ⟨x1, h2, hm⟩ := bs hm
  refine dv 8 (cpure (by kernel_rfl) (ok_cmp_isNaN_string h2) (by kernel_rfl) (by kernel_rfl) (by kernel_rfl)) (by kernel_rfl) (sh 1 [(5, aB x1)] (by kernel_rfl) (fin [(0, aS a0), (1, aS a1), (5, aB x1)] rfl (by kernel_rfl) (sq (rg (sh 1 [(9, aS a1)] (by kernel_rfl) ?_)))))
  obtain ⟨x3, h4, hm⟩ := bs hm
  refine dv 10 (cpure (by kernel_rfl) (ok_cmp_isNaN_string h4) (by kernel_rfl) (by kernel_rfl) (by kernel_rfl)) (by kernel_rfl) (sh 1 [(6, aB x3)] (by kernel_rfl) (fin [(0, aS a0), (1, aS a1), (5, aB x1), (6, aB x3)] rfl (by kernel_rfl) ?_))
  refine sq (sq (detn [(0, aS a0), (1, aS a1), (6, aB x3), (11, aB x1)] (by kernel_rfl) ?_))
  rcases bif_some hm with ⟨h5, hm⟩ | ⟨h5, hm⟩
  ·
   refine ct h5 (by kernel_rfl) (sq (sq (detn [(12, aB x3)] (by kernel_rfl) ?_)))
   rcases bif_some hm with ⟨h6, hm⟩ | ⟨h6, hm⟩
   ·
    refine ct h6 (by kernel_rfl) (sq (detn [(4, aI 0)] (by kernel_rfl) (wp_ret ?_)))
    obtain rfl := Option.some.inj hm
    exact ⟨trivial, by kernel_rfl⟩
   ·
    refine cf h6 (by kernel_rfl) (wp_skip (sq (detn [(4, aI (-1))] (by kernel_rfl) (wp_ret ?_))))
    obtain rfl := Option.some.inj hm
    exact ⟨trivial, by kernel_rfl⟩
  ·
   refine cf h5 (by kernel_rfl) (wp_skip ?_)
   refine sq (sq (detn [(0, aS a0), (1, aS a1), (13, aB x3)] (by kernel_rfl) ?_))
   rcases bif_some hm with ⟨h7, hm⟩ | ⟨h7, hm⟩
   ·
    refine ct h7 (by kernel_rfl) (sq (detn [(4, aI 1)] (by kernel_rfl) (wp_ret ?_)))
    obtain rfl := Option.some.inj hm
    exact ⟨trivial, by kernel_rfl⟩
   ·
    refine cf h7 (by kernel_rfl) (wp_skip (sq (sq (detn [(0, aS a0), (1, aS a1), (16, aB (sLt a0 a1))] (by kernel_rfl) ?_))))
    rcases bif_some hm with ⟨h8, hm⟩ | ⟨h8, hm⟩
    ·
     refine ct h8 (by kernel_rfl) (sq (detn [(4, aI (-1))] (by kernel_rfl) (wp_ret ?_)))
     obtain rfl := Option.some.inj hm
     exact ⟨trivial, by kernel_rfl⟩
    ·
     refine cf h8 (by kernel_rfl) (wp_skip (sq (sq (detn [(19, aB (!(sLt a0 a1 || sEq a0 a1)))] (by kernel_rfl) ?_))))
     rcases bif_some hm with ⟨h9, hm⟩ | ⟨h9, hm⟩
     ·
      refine ct h9 (by kernel_rfl) (sq (detn [(4, aI 1)] (by kernel_rfl) (wp_ret ?_)))
      obtain rfl := Option.some.inj hm
      exact ⟨trivial, by kernel_rfl⟩
     ·
      refine cf h9 (by kernel_rfl) (wp_skip (sq (detn [(4, aI 0)] (by kernel_rfl) (wp_ret ?_))))
      obtain rfl := Option.some.inj hm
      exact ⟨trivial, by kernel_rfl⟩
theorem ok_cmp_isNaN_int64 {n : Nat} {a0 : Int} {r : Bool} (hm : cmp_isNaN_int64 n a0 = some r) :
    call G n 110 [aI a0] [] = some (.ret (aB r), []) := by
  unfold cmp_isNaN_int64 at hm
  obtain ⟨n, rfl, h0⟩ := at1_some hm
  replace hm := h0; clear h0
  refine callL 6 [(0, aI a0)] func110 rfl (by kernel_rfl) (sq (detn [(0, aI a0)] (by kernel_rfl) (sq (detn [(2, aB (a0 != a0))] (by kernel_rfl) (wp_ret ?_)))))
  obtain rfl := Option.some.inj hm
  exact ⟨trivial, by kernel_rfl⟩
theorem ok_cmp_Compare_int64 {n : Nat} {a0 : Int} {a1 : Int} {r : Int} (hm : cmp_Compare_int64 n a0 a1 = some r) :
    call G n 80 [aI a0, aI a1] [] = some (.ret (aI r), []) := by
  unfold cmp_Compare_int64 at hm
  obtain ⟨n, rfl, h0⟩ := at1_some hm
  replace hm := h0; clear h0
  refine callL 20 [(0, aI a0), (1, aI a1)] func80 rfl (by kernel_rfl) (sq (detn [(0, aI a0), (1, aI a1)] (by kernel_rfl) (sq (rg (sh 1 [(7, aI a0)] (by kernel_rfl) ?_)))))
  obtain ⟨x1, h2, hm⟩ := bs hm
  refine dv 8 (cpure (by kernel_rfl) (ok_cmp_isNaN_int64 h2) (by kernel_rfl) (by kernel_rfl) (by kernel_rfl)) (by kernel_rfl) (sh 1 [(5, aB x1)] (by kernel_rfl) (fin [(0, aI a0), (1, aI a1), (5, aB x1)] rfl (by kernel_rfl) (sq (rg (sh 1 [(9, aI a1)] (by kernel_rfl) ?_)))))
  obtain ⟨x3, h4, hm⟩ := bs hm
  refine dv 10 (cpure (by kernel_rfl) (ok_cmp_isNaN_int64 h4) (by kernel_rfl) (by kernel_rfl) (by kernel_rfl)) (by kernel_rfl) (sh 1 [(6, aB x3)] (by kernel_rfl) (fin [(0, aI a0), (1, aI a1), (5, aB x1), (6, aB x3)] rfl (by kernel_rfl) ?_))
  refine sq (sq (detn [(0, aI a0), (1, aI a1), (6, aB x3), (11, aB x1)] (by kernel_rfl) ?_))
  rcases bif_some hm with ⟨h5, hm⟩ | ⟨h5, hm⟩
  ·
   refine ct h5 (by kernel_rfl) (sq (sq (detn [(12, aB x3)] (by kernel_rfl) ?_)))
   rcases bif_some hm with ⟨h6, hm⟩ | ⟨h6, hm⟩
   ·
    refine ct h6 (by kernel_rfl) (sq (detn [(4, aI 0)] (by kernel_rfl) (wp_ret ?_)))
    obtain rfl := Option.some.inj hm
    exact ⟨trivial, by kernel_rfl⟩
   ·
    refine cf h6 (by kernel_rfl) (wp_skip (sq (detn [(4, aI (-1))] (by kernel_rfl) (wp_ret ?_))))
    obtain rfl := Option.some.inj hm
    exact ⟨trivial, by kernel_rfl⟩
  ·
   refine cf h5 (by kernel_rfl) (wp_skip ?_)
   refine sq (sq (detn [(0, aI a0), (1, aI a1), (13, aB x3)] (by kernel_rfl) ?_))
   rcases bif_some hm with ⟨h7, hm⟩ | ⟨h7, hm⟩
   ·
    refine ct h7 (by kernel_rfl) (sq (detn [(4, aI 1)] (by kernel_rfl) (wp_ret ?_)))
    obtain rfl := Option.some.inj hm
    exact ⟨trivial, by kernel_rfl⟩
   ·
    refine cf h7 (by kernel_rfl) (wp_skip (sq (sq (detn [(0, aI a0), (1, aI a1), (16, aB (decide (a0 < a1)))] (by kernel_rfl) ?_))))
    rcases bif_some hm with ⟨h8, hm⟩ | ⟨h8, hm⟩
    ·
     refine ct h8 (by kernel_rfl) (sq (detn [(4, aI (-1))] (by kernel_rfl) (wp_ret ?_)))
     obtain rfl := Option.some.inj hm
     exact ⟨trivial, by kernel_rfl⟩
    ·
     refine cf h8 (by kernel_rfl) (wp_skip (sq (sq (detn [(19, aB (decide (a0 > a1)))] (by kernel_rfl) ?_))))
     rcases bif_some hm with ⟨h9, hm⟩ | ⟨h9, hm⟩
     ·
      refine ct h9 (by kernel_rfl) (sq (detn [(4, aI 1)] (by kernel_rfl) (wp_ret ?_)))
      obtain rfl := Option.some.inj hm
      exact ⟨trivial, by kernel_rfl⟩
     ·
      refine cf h9 (by kernel_rfl) (wp_skip (sq (detn [(4, aI 0)] (by kernel_rfl) (wp_ret ?_))))
      obtain rfl := Option.some.inj hm
      exact ⟨trivial, by kernel_rfl⟩
theorem ok_value_Cmp {n : Nat} {a0 : api_Value} {a1 : api_Value} {r : Int} (hm : value_Cmp n a0 a1 = some r) :
    call G n 41 [.agg [aI a0.fKind, aI a0.fInt, aF a0.fFloat, aS a0.fText], .agg [aI a1.fKind, aI a1.fInt, aF a1.fFloat, aS a1.fText]] [] = some (.ret (aI r), []) := by
  unfold value_Cmp at hm
  obtain ⟨n, rfl, h0⟩ := at1_some hm
  replace hm := h0; clear h0
  refine callL 40 [(0, .agg [aI a0.fKind, aI a0.fInt, aF a0.fFloat, aS a0.fText]), (1, .agg [aI a1.fKind, aI a1.fInt, aF a1.fFloat, aS a1.fText])] func41 rfl (by kernel_rfl) (sq (det [(2, .ptr 0 0), (3, .ptr 1 0)] [.box [aI a0.fKind, aI a0.fInt, aF a0.fFloat, aS a0.fText] false, .box [aI a1.fKind, aI a1.fInt, aF a1.fFloat, aS a1.fText] false] (by kernel_rfl) (sq (rgd (shd 1 [(5, .agg [aI a0.fKind, aI a0.fInt, aF a0.fFloat, aS a0.fText])] (by kernel_rfl) ?_)))))
  obtain ⟨x1, h2, hm⟩ := bs hm
  refine dvd 6 (cpure (by kernel_rfl) (ok_value_Plain h2) (by kernel_rfl) (by kernel_rfl) (by kernel_rfl)) (by kernel_rfl) (shd 1 [(7, .agg [aI a1.fKind, aI a1.fInt, aF a1.fFloat, aS a1.fText])] (by kernel_rfl) ?_)
  obtain ⟨x3, h4, hm⟩ := bs hm
  refine dvd 8 (cpure (by kernel_rfl) (ok_value_Plain h4) (by kernel_rfl) (by kernel_rfl) (by kernel_rfl)) (by kernel_rfl) (std 2 [] [.box [aI x1.fKind, aI x1.fInt, aF x1.fFloat, aS x1.fText] false, .box [aI x3.fKind, aI x3.fInt, aF x3.fFloat, aS x3.fText] false] (by kernel_rfl) (find [(2, .ptr 0 0), (3, .ptr 1 0)] rfl (by kernel_rfl) (by kernel_rfl) ?_))
  refine sq (sq (detn [(2, .ptr 0 0), (3, .ptr 1 0), (13, aB (x1.fKind != x3.fKind))] (by kernel_rfl) ?_))
  rcases bif_some hm with ⟨h5, hm⟩ | ⟨h5, hm⟩
  ·
   refine ct h5 (by kernel_rfl) (sq (rg (sh 4 [(17, aI x3.fKind), (16, .ptr 1 0), (15, aI x1.fKind), (14, .ptr 0 0)] (by kernel_rfl) ?_)))
   obtain ⟨x6, h7, hm⟩ := bs hm
   refine dv 18 (cpure (by kernel_rfl) (ok_cmp_Compare_int h7) (by kernel_rfl) (by kernel_rfl) (by kernel_rfl)) (by kernel_rfl) (sh 1 [(4, aI x6)] (by kernel_rfl) (fin [(4, aI x6)] rfl (by kernel_rfl) (wp_ret ?_)))
   obtain rfl := Option.some.inj hm
   exact ⟨trivial, by kernel_rfl⟩
  ·
   refine cf h5 (by kernel_rfl) (wp_skip (sq (sq (detn [(2, .ptr 0 0), (3, .ptr 1 0), (20, aI x1.fKind)] (by kernel_rfl) (bq (sq (detn [(2, .ptr 0 0), (3, .ptr 1 0), (20, aI x1.fKind), (21, aB (x1.fKind == 3))] (by kernel_rfl) ?_)))))))
   rcases bif_some hm with ⟨h8, hm⟩ | ⟨h8, hm⟩
   ·
    refine ct h8 (by kernel_rfl) (sq (rg (sh 4 [(26, aF x3.fFloat), (25, .ptr 1 2), (24, aF x1.fFloat), (23, .ptr 0 2)] (by kernel_rfl) ?_)))
    obtain ⟨x9, h10, hm⟩ := bs hm
    refine dv 27 (cpure (by kernel_rfl) (ok_value_floats h10) (by kernel_rfl) (by kernel_rfl) (by kernel_rfl)) (by kernel_rfl) (sh 1 [(4, aI x9)] (by kernel_rfl) (fin [(4, aI x9)] rfl (by kernel_rfl) (wp_ret ?_)))
    obtain rfl := Option.some.inj hm
    exact ⟨trivial, by kernel_rfl⟩
   ·
    refine cf h8 (by kernel_rfl) (sq (detn [(2, .ptr 0 0), (3, .ptr 1 0), (28, aB (x1.fKind == 4))] (by kernel_rfl) ?_))
    rcases bif_some hm with ⟨h11, hm⟩ | ⟨h11, hm⟩
    ·
     refine ct h11 (by kernel_rfl) (sq (rg (sh 4 [(33, aS x3.fText), (32, .ptr 1 3), (31, aS x1.fText), (30, .ptr 0 3)] (by kernel_rfl) ?_)))
     obtain ⟨x12, h13, hm⟩ := bs hm
     refine dv 34 (cpure (by kernel_rfl) (ok_cmp_Compare_string h13) (by kernel_rfl) (by kernel_rfl) (by kernel_rfl)) (by kernel_rfl) (sh 1 [(4, aI x12)] (by kernel_rfl) (fin [(4, aI x12)] rfl (by kernel_rfl) (wp_ret ?_)))
     obtain rfl := Option.some.inj hm
     exact ⟨trivial, by kernel_rfl⟩
    ·
     refine cf h11 (by kernel_rfl) (wp_skip (sq (rg (sh 4 [(38, aI x3.fInt), (37, .ptr 1 1), (36, aI x1.fInt), (35, .ptr 0 1)] (by kernel_rfl) ?_))))
     obtain ⟨x14, h15, hm⟩ := bs hm
     refine dv 39 (cpure (by kernel_rfl) (ok_cmp_Compare_int64 h15) (by kernel_rfl) (by kernel_rfl) (by kernel_rfl)) (by kernel_rfl) (sh 1 [(4, aI x14)] (by kernel_rfl) (fin [(4, aI x14)] rfl (by kernel_rfl) (wp_ret ?_)))
     obtain rfl := Option.some.inj hm
     exact ⟨trivial, by kernel_rfl⟩
theorem ok_hist_sound {n : Nat} {a0 : hist_Bucket} {r : Bool} (hm : hist_sound n a0 = some r) :
    call G n 69 [.agg [aI a0.fLow.fKind, aI a0.fLow.fInt, aF a0.fLow.fFloat, aS a0.fLow.fText, aI a0.fHigh.fKind, aI a0.fHigh.fInt, aF a0.fHigh.fFloat, aS a0.fHigh.fText, aI a0.fCount, aI a0.fDistinct]] [] = some (.ret (aB r), []) := by
  unfold hist_sound at hm
  obtain ⟨n, rfl, h0⟩ := at1_some hm
  replace hm := h0; clear h0
  refine callL 60 [(0, .agg [aI a0.fLow.fKind, aI a0.fLow.fInt, aF a0.fLow.fFloat, aS a0.fLow.fText, aI a0.fHigh.fKind, aI a0.fHigh.fInt, aF a0.fHigh.fFloat, aS a0.fHigh.fText, aI a0.fCount, aI a0.fDistinct])] func69 rfl (by kernel_rfl) (sq (det [(1, .ptr 0 0)] [.box [aI a0.fLow.fKind, aI a0.fLow.fInt, aF a0.fLow.fFloat, aS a0.fLow.fText, aI a0.fHigh.fKind, aI a0.fHigh.fInt, aF a0.fHigh.fFloat, aS a0.fHigh.fText, aI a0.fCount, aI a0.fDistinct] false] (by kernel_rfl) ?_))
  refine sq (sq (rg (sh 2 [(5, .agg [aI a0.fLow.fKind, aI a0.fLow.fInt, aF a0.fLow.fFloat, aS a0.fLow.fText]), (4, .ptr 0 0)] (by kernel_rfl) ?_)))
  obtain ⟨x1, h2, hm⟩ := bs hm
  refine dv 6 (cpure (by kernel_rfl) (ok_hist_plain h2) (by kernel_rfl) (by kernel_rfl) (by kernel_rfl)) (by kernel_rfl) (sh 2 [(8, aB (!x1)), (7, aB (!x1))] (by kernel_rfl) ?_)
  rcases bif_some hm with ⟨h3, hm⟩ | ⟨h3, hm⟩
  ·
   refine known [8, 7] h3 (by kernel_rfl) (sh 14 [(22, aB true), (21, .undef), (20, .undef), (19, .undef), (18, .undef), (17, .undef), (16, .undef), (15, .undef), (14, aB true), (13, aB true), (12, .undef), (11, .undef), (10, .undef), (9, .undef)] (by kernel_rfl) (fin [(1, .ptr 0 0), (22, aB true)] rfl (by kernel_rfl) (cT (by kernel_rfl) (sq (detn [(2, aB false)] (by kernel_rfl) (wp_ret ?_))))))
   obtain rfl := Option.some.inj hm
   exact ⟨trivial, by kernel_rfl⟩
  ·
   refine known [8, 7] h3 (by kernel_rfl) (sh 2 [(10, .agg [aI a0.fHigh.fKind, aI a0.fHigh.fInt, aF a0.fHigh.fFloat, aS a0.fHigh.fText]), (9, .ptr 0 4)] (by kernel_rfl) ?_)
   obtain ⟨x4, h5, hm⟩ := bs hm
   refine dv 11 (cpure (by kernel_rfl) (ok_hist_plain h5) (by kernel_rfl) (by kernel_rfl) (by kernel_rfl)) (by kernel_rfl) (sh 3 [(14, aB (!x4)), (13, aB (!x4)), (12, aB (!x4))] (by kernel_rfl) ?_)
   refine seg (!x4) [14, 13, 12] (fun b => [(22, aB (b || (a0.fLow.fKind != a0.fHigh.fKind))), (21, ifA b (.undef) (aB (a0.fLow.fKind != a0.fHigh.fKind))), (20, ifA b (.undef) (aI a0.fHigh.fKind)), (19, ifA b (.undef) (.ptr 0 4)), (18, ifA b (.undef) (.ptr 0 4)), (17, ifA b (.undef) (aI a0.fLow.fKind)), (16, ifA b (.undef) (.ptr 0 0)), (15, ifA b (.undef) (.ptr 0 0))]) 19 (by kernel_rfl) ?_ ?_ ?_
   ·
    intro Q h
    refine sh 8 [(22, aB true), (21, .undef), (20, .undef), (19, .undef), (18, .undef), (17, .undef), (16, .undef), (15, .undef)] (by kernel_rfl) ?_
    exact sameN (by kernel_rfl) (by kernel_rfl) h
   ·
    intro Q h
    refine sh 8 [(22, aB (a0.fLow.fKind != a0.fHigh.fKind)), (21, aB (a0.fLow.fKind != a0.fHigh.fKind)), (20, aI a0.fHigh.fKind), (19, .ptr 0 4), (18, .ptr 0 4), (17, aI a0.fLow.fKind), (16, .ptr 0 0), (15, .ptr 0 0)] (by kernel_rfl) ?_
    exact sameN (by kernel_rfl) (by kernel_rfl) h
   refine fin [(1, .ptr 0 0), (22, aB ((!x4) || (a0.fLow.fKind != a0.fHigh.fKind)))] rfl (by kernel_rfl) ?_
   rcases bif_some hm with ⟨h6, hm⟩ | ⟨h6, hm⟩
   ·
    refine ct h6 (by kernel_rfl) (sq (detn [(2, aB false)] (by kernel_rfl) (wp_ret ?_)))
    obtain rfl := Option.some.inj hm
    exact ⟨trivial, by kernel_rfl⟩
   ·
    refine cf h6 (by kernel_rfl) (wp_skip (sq (rg (sh 4 [(26, .agg [aI a0.fHigh.fKind, aI a0.fHigh.fInt, aF a0.fHigh.fFloat, aS a0.fHigh.fText]), (25, .ptr 0 4), (24, .agg [aI a0.fLow.fKind, aI a0.fLow.fInt, aF a0.fLow.fFloat, aS a0.fLow.fText]), (23, .ptr 0 0)] (by kernel_rfl) ?_))))
    obtain ⟨x7, h8, hm⟩ := bs hm
    refine dv 27 (cpure (by kernel_rfl) (ok_value_Cmp h8) (by kernel_rfl) (by kernel_rfl) (by kernel_rfl)) (by kernel_rfl) (sh 1 [(3, aI x7)] (by kernel_rfl) (fin [(1, .ptr 0 0), (3, aI x7)] rfl (by kernel_rfl) (sq (rg (sh 3 [(30, aB (decide (x7 ≤ 0))), (29, aB (decide (x7 ≤ 0))), (28, aI x7)] (by kernel_rfl) ?_)))))
    refine seg (decide (x7 ≤ 0)) [30, 29] (fun b => [(34, aB (b && (decide (a0.fCount ≥ 1)))), (33, ifA b (aB (decide (a0.fCount ≥ 1))) (.undef)), (32, ifA b (aI a0.fCount) (.undef)), (31, ifA b (.ptr 0 8) (.undef))]) 7 (by kernel_rfl) ?_ ?_ ?_
    ·
     intro Q h
     refine sh 4 [(34, aB (decide (a0.fCount ≥ 1))), (33, aB (decide (a0.fCount ≥ 1))), (32, aI a0.fCount), (31, .ptr 0 8)] (by kernel_rfl) ?_
     exact sameN (by kernel_rfl) (by kernel_rfl) h
    ·
     intro Q h
     refine sh 4 [(34, aB false), (33, .undef), (32, .undef), (31, .undef)] (by kernel_rfl) ?_
     exact sameN (by kernel_rfl) (by kernel_rfl) h
    refine sh 1 [(35, aB ((decide (x7 ≤ 0)) && (decide (a0.fCount ≥ 1))))] (by kernel_rfl) ?_
    refine seg ((decide (x7 ≤ 0)) && (decide (a0.fCount ≥ 1))) [35, 34] (fun b => [(39, aB (b && (decide (a0.fCount ≤ 1000000)))), (38, ifA b (aB (decide (a0.fCount ≤ 1000000))) (.undef)), (37, ifA b (aI a0.fCount) (.undef)), (36, ifA b (.ptr 0 8) (.undef))]) 12 (by kernel_rfl) ?_ ?_ ?_
    ·
     intro Q h
     refine sh 4 [(39, aB (decide (a0.fCount ≤ 1000000))), (38, aB (decide (a0.fCount ≤ 1000000))), (37, aI a0.fCount), (36, .ptr 0 8)] (by kernel_rfl) ?_
     exact sameN (by kernel_rfl) (by kernel_rfl) h
    ·
     intro Q h
     refine sh 4 [(39, aB false), (38, .undef), (37, .undef), (36, .undef)] (by kernel_rfl) ?_
     exact sameN (by kernel_rfl) (by kernel_rfl) h
    refine sh 1 [(40, aB (((decide (x7 ≤ 0)) && (decide (a0.fCount ≥ 1))) && (decide (a0.fCount ≤ 1000000))))] (by kernel_rfl) ?_
    refine seg (((decide (x7 ≤ 0)) && (decide (a0.fCount ≥ 1))) && (decide (a0.fCount ≤ 1000000))) [40, 39] (fun b => [(44, aB (b && (decide (a0.fDistinct ≥ 1)))), (43, ifA b (aB (decide (a0.fDistinct ≥ 1))) (.undef)), (42, ifA b (aI a0.fDistinct) (.undef)), (41, ifA b (.ptr 0 9) (.undef))]) 17 (by kernel_rfl) ?_ ?_ ?_
    ·
     intro Q h
     refine sh 4 [(44, aB (decide (a0.fDistinct ≥ 1))), (43, aB (decide (a0.fDistinct ≥ 1))), (42, aI a0.fDistinct), (41, .ptr 0 9)] (by kernel_rfl) ?_
     exact sameN (by kernel_rfl) (by kernel_rfl) h
    ·
     intro Q h
     refine sh 4 [(44, aB false), (43, .undef), (42, .undef), (41, .undef)] (by kernel_rfl) ?_
     exact sameN (by kernel_rfl) (by kernel_rfl) h
    refine sh 1 [(45, aB ((((decide (x7 ≤ 0)) && (decide (a0.fCount ≥ 1))) && (decide (a0.fCount ≤ 1000000))) && (decide (a0.fDistinct ≥ 1))))] (by kernel_rfl) ?_
    refine seg ((((decide (x7 ≤ 0)) && (decide (a0.fCount ≥ 1))) && (decide (a0.fCount ≤ 1000000))) && (decide (a0.fDistinct ≥ 1))) [45, 44] (fun b => [(51, aB (b && (decide (a0.fDistinct ≤ a0.fCount)))), (50, ifA b (aB (decide (a0.fDistinct ≤ a0.fCount))) (.undef)), (49, ifA b (aI a0.fCount) (.undef)), (48, ifA b (.ptr 0 8) (.undef)), (47, ifA b (aI a0.fDistinct) (.undef)), (46, ifA b (.ptr 0 9) (.undef))]) 24 (by kernel_rfl) ?_ ?_ ?_
    ·
     intro Q h
     refine sh 6 [(51, aB (decide (a0.fDistinct ≤ a0.fCount))), (50, aB (decide (a0.fDistinct ≤ a0.fCount))), (49, aI a0.fCount), (48, .ptr 0 8), (47, aI a0.fDistinct), (46, .ptr 0 9)] (by kernel_rfl) ?_
     exact sameN (by kernel_rfl) (by kernel_rfl) h
    ·
     intro Q h
     refine sh 6 [(51, aB false), (50, .undef), (49, .undef), (48, .undef), (47, .undef), (46, .undef)] (by kernel_rfl) ?_
     exact sameN (by kernel_rfl) (by kernel_rfl) h
    refine sh 1 [(52, aB (((((decide (x7 ≤ 0)) && (decide (a0.fCount ≥ 1))) && (decide (a0.fCount ≤ 1000000))) && (decide (a0.fDistinct ≥ 1))) && (decide (a0.fDistinct ≤ a0.fCount))))] (by kernel_rfl) ?_
    refine seg (((((decide (x7 ≤ 0)) && (decide (a0.fCount ≥ 1))) && (decide (a0.fCount ≤ 1000000))) && (decide (a0.fDistinct ≥ 1))) && (decide (a0.fDistinct ≤ a0.fCount))) [52, 51] (fun b => [(59, aB (b && ((x7 == 0) == (a0.fDistinct == 1)))), (58, ifA b (aB ((x7 == 0) == (a0.fDistinct == 1))) (.undef)), (57, ifA b (aB (a0.fDistinct == 1)) (.undef)), (56, ifA b (aI a0.fDistinct) (.undef)), (55, ifA b (.ptr 0 9) (.undef)), (54, ifA b (aB (x7 == 0)) (.undef)), (53, ifA b (aI x7) (.undef))]) 32 (by kernel_rfl) ?_ ?_ ?_
    ·
     intro Q h
     refine sh 7 [(59, aB ((x7 == 0) == (a0.fDistinct == 1))), (58, aB ((x7 == 0) == (a0.fDistinct == 1))), (57, aB (a0.fDistinct == 1)), (56, aI a0.fDistinct), (55, .ptr 0 9), (54, aB (x7 == 0)), (53, aI x7)] (by kernel_rfl) ?_
     exact sameN (by kernel_rfl) (by kernel_rfl) h
    ·
     intro Q h
     refine sh 7 [(59, aB false), (58, .undef), (57, .undef), (56, .undef), (55, .undef), (54, .undef), (53, .undef)] (by kernel_rfl) ?_
     exact sameN (by kernel_rfl) (by kernel_rfl) h
    refine sh 1 [(2, aB ((((((decide (x7 ≤ 0)) && (decide (a0.fCount ≥ 1))) && (decide (a0.fCount ≤ 1000000))) && (decide (a0.fDistinct ≥ 1))) && (decide (a0.fDistinct ≤ a0.fCount))) && ((x7 == 0) == (a0.fDistinct == 1))))] (by kernel_rfl) (fin [(2, aB ((((((decide (x7 ≤ 0)) && (decide (a0.fCount ≥ 1))) && (decide (a0.fCount ≤ 1000000))) && (decide (a0.fDistinct ≥ 1))) && (decide (a0.fDistinct ≤ a0.fCount))) && ((x7 == 0) == (a0.fDistinct == 1))))] rfl (by kernel_rfl) (wp_ret ?_))
    obtain rfl := Option.some.inj hm
    exact ⟨trivial, by kernel_rfl⟩
theorem ok_hist_Right {n : Nat} {a0 : (Option (List hist_Bucket))} {r : Bool} (hm : hist_Right n a0 = some r) :
    call G n 32 [.pv (encSl R_hist_Bucket a0)] [] = some (.ret (aB r), []) := by
  unfold hist_Right at hm
  obtain ⟨n, rfl, h0⟩ := at1_some hm
  replace hm := h0; clear h0
  refine callL 46 [(0, .pv (encSl R_hist_Bucket a0))] func32 rfl (by kernel_rfl) (sq (detn [(0, .pv (encSl R_hist_Bucket a0))] (by kernel_rfl) ?_))
  refine sq (sq (rg (sh 1 [(5, .pv (encSl R_hist_Bucket a0))] (by kernel_rfl) (dv 6 (v := aI ((sll a0).length : Int)) (len_slO R_hist_Bucket a0 t53 (by kernel_rfl)) (by kernel_rfl) (sh 1 [(7, aB (decide (((sll a0).length : Int) > 50)))] (by kernel_rfl) (fin [(0, .pv (encSl R_hist_Bucket a0)), (7, aB (decide (((sll a0).length : Int) > 50)))] rfl (by kernel_rfl) ?_))))))
  rcases bif_some hm with ⟨h1, hm⟩ | ⟨h1, hm⟩
  ·
   refine ct h1 (by kernel_rfl) (sq (detn [(2, aB false)] (by kernel_rfl) (wp_ret ?_)))
   obtain rfl := Option.some.inj hm
   exact ⟨trivial, by kernel_rfl⟩
  ·
   refine cf h1 (by kernel_rfl) (wp_skip ?_)
   obtain ⟨k4, hk4, hm⟩ := withK_some hm
   refine mid (fun t H => (∃ (y2 : Int) (y3 : Bool), k4 () = some r ∧ t = mk 46 [(0, .pv (encSl R_hist_Bucket a0)), (8, .pv (encSl R_hist_Bucket a0)), (9, aI ((sll a0).length : Int)), (10, aI y2), (11, aB y3)] ∧ H = [])) ?_ ?_
   ·
    rintro _ _ ⟨y2, y3, hm, rfl, rfl⟩
    subst hk4
    refine sq (detn [(2, aB true)] (by kernel_rfl) (wp_ret ?_))
    obtain rfl := Option.some.inj hm
    exact ⟨trivial, by kernel_rfl⟩
   refine sq (rg (sh 1 [(8, .pv (encSl R_hist_Bucket a0))] (by kernel_rfl) (dv 9 (v := aI ((sll a0).length : Int)) (len_slO R_hist_Bucket a0 t53 (by kernel_rfl)) (by kernel_rfl) (sh 1 [(10, aI 0)] (by kernel_rfl) (fin [(0, .pv (encSl R_hist_Bucket a0)), (8, .pv (encSl R_hist_Bucket a0)), (9, aI ((sll a0).length : Int)), (10, aI 0)] rfl (by kernel_rfl) (bq ?_))))))
   refine loopF (fun mm t H => (∃ (y6 : Int), hist_Right_l4 n a0 k4 mm y6 = some r ∧ t = mk 46 [(0, .pv (encSl R_hist_Bucket a0)), (8, .pv (encSl R_hist_Bucket a0)), (9, aI ((sll a0).length : Int)), (10, aI y6)] ∧ H = [])) (⟨0, hm, rfl, rfl⟩) ?_ ?_
   · rintro _ _ ⟨y6, hm, _⟩; exact nomatch hm
   rintro m7 _ _ ⟨y6, hm, rfl, rfl⟩
   simp only [hist_Right_l4] at hm
   refine sq (detn [(0, .pv (encSl R_hist_Bucket a0)), (8, .pv (encSl R_hist_Bucket a0)), (9, aI ((sll a0).length : Int)), (10, aI y6), (11, aB (decide (y6 < ((sll a0).length : Int))))] (by kernel_rfl) ?_)
   refine sq ?_
   rcases bif_some hm with ⟨h8, hm⟩ | ⟨h8, hm⟩
   ·
    refine ct h8 (by kernel_rfl) (wp_skip (sq (bq (sq (rg (sh 1 [(12, aI y6)] (by kernel_rfl) ?_))))))
    obtain ⟨x9, h10, hm⟩ := bs hm
    refine dv 13 (v := .pv (.ptr (R_hist_Bucket x9) 0)) (ia_slO R_hist_Bucket a0 .i64 t53 t77 h10 rfl (by kernel_rfl)) (by kernel_rfl) (st 4 [(3, aI y6), (4, .ptr 0 0), (14, .agg [aI x9.fLow.fKind, aI x9.fLow.fInt, aF x9.fLow.fFloat, aS x9.fLow.fText, aI x9.fHigh.fKind, aI x9.fHigh.fInt, aF x9.fHigh.fFloat, aS x9.fHigh.fText, aI x9.fCount, aI x9.fDistinct])] [.box [aI x9.fLow.fKind, aI x9.fLow.fInt, aF x9.fLow.fFloat, aS x9.fLow.fText, aI x9.fHigh.fKind, aI x9.fHigh.fInt, aF x9.fHigh.fFloat, aS x9.fHigh.fText, aI x9.fCount, aI x9.fDistinct] false] (by kernel_rfl) (fin [(0, .pv (encSl R_hist_Bucket a0)), (3, aI y6), (4, .ptr 0 0), (8, .pv (encSl R_hist_Bucket a0)), (9, aI ((sll a0).length : Int)), (10, aI y6)] rfl (by kernel_rfl) (sq (rgd (shd 1 [(15, .agg [aI x9.fLow.fKind, aI x9.fLow.fInt, aF x9.fLow.fFloat, aS x9.fLow.fText, aI x9.fHigh.fKind, aI x9.fHigh.fInt, aF x9.fHigh.fFloat, aS x9.fHigh.fText, aI x9.fCount, aI x9.fDistinct])] (by kernel_rfl) ?_)))))
    obtain ⟨x11, h12, hm⟩ := bs hm
    refine dvd 16 (cpure (by kernel_rfl) (ok_hist_sound h12) (by kernel_rfl) (by kernel_rfl) (by kernel_rfl)) (by kernel_rfl) (shd 2 [(18, aB (!x11)), (17, aB (!x11))] (by kernel_rfl) ?_)
    rcases bif_some hm with ⟨h13, hm⟩ | ⟨h13, hm⟩
    ·
     refine knownd [18, 17] h13 (by kernel_rfl) (shd 26 [(44, aB true), (43, .undef), (42, .undef), (41, .undef), (40, .undef), (39, .undef), (38, .undef), (37, .undef), (36, .undef), (35, .undef), (34, .undef), (33, .undef), (32, .undef), (31, .undef), (30, .undef), (29, .undef), (28, .undef), (27, .undef), (26, .undef), (25, .undef), (24, .undef), (23, .undef), (22, .undef), (21, .undef), (20, .undef), (19, .undef)] (by kernel_rfl) (find [(0, .pv (encSl R_hist_Bucket a0)), (8, .pv (encSl R_hist_Bucket a0)), (9, aI ((sll a0).length : Int)), (10, aI y6), (44, aB true)] rfl (by kernel_rfl) (by kernel_rfl) (cT (by kernel_rfl) (sq (detn [(2, aB false)] (by kernel_rfl) (wp_ret ?_))))))
     obtain rfl := Option.some.inj hm
     exact ⟨trivial, by kernel_rfl⟩
    ·
     refine knownd [18, 17] h13 (by kernel_rfl) (shd 3 [(21, aB (decide (y6 > 0))), (20, aB (decide (y6 > 0))), (19, aI y6)] (by kernel_rfl) ?_)
     rcases bif_some hm with ⟨h14, hm⟩ | ⟨h14, hm⟩
     ·
      refine knownd [21, 20] h14 (by kernel_rfl) (shd 4 [(25, .pv (encSl R_hist_Bucket a0)), (24, aI x9.fLow.fKind), (23, .ptr 0 0), (22, .ptr 0 0)] (by kernel_rfl) ?_)
      obtain ⟨x15, h16, hm⟩ := bs hm
      refine dvd 26 (v := .pv (.ptr (R_hist_Bucket x15) 0)) (ia_slO R_hist_Bucket a0 .i64 t53 t77 h16 rfl (by kernel_rfl)) (by kernel_rfl) (shd 5 [(31, aB (x9.fLow.fKind != x15.fLow.fKind)), (30, aB (x9.fLow.fKind != x15.fLow.fKind)), (29, aI x15.fLow.fKind), (28, .pv (.ptr (R_hist_Bucket x15) 0)), (27, .pv (.ptr (R_hist_Bucket x15) 0))] (by kernel_rfl) ?_)
      rcases bif_some hm with ⟨h17, hm⟩ | ⟨h17, hm⟩
      ·
       refine knownd [31, 30] h17 (by kernel_rfl) (shd 13 [(44, aB true), (43, aB true), (42, aB true), (41, .undef), (40, .undef), (39, .undef), (38, .undef), (37, .undef), (36, .undef), (35, .undef), (34, .undef), (33, .undef), (32, .undef)] (by kernel_rfl) (find [(0, .pv (encSl R_hist_Bucket a0)), (8, .pv (encSl R_hist_Bucket a0)), (9, aI ((sll a0).length : Int)), (10, aI y6), (44, aB true)] rfl (by kernel_rfl) (by kernel_rfl) (cT (by kernel_rfl) (sq (detn [(2, aB false)] (by kernel_rfl) (wp_ret ?_))))))
       obtain rfl := Option.some.inj hm
       exact ⟨trivial, by kernel_rfl⟩
      ·
       refine knownd [31, 30] h17 (by kernel_rfl) (shd 3 [(34, aI (IntKind.wrap .i64 (y6 - 1))), (33, aI y6), (32, .pv (encSl R_hist_Bucket a0))] (by kernel_rfl) ?_)
       obtain ⟨x18, h19, hm⟩ := bs hm
       refine dvd 35 (v := .pv (.ptr (R_hist_Bucket x18) 0)) (ia_slO R_hist_Bucket a0 .i64 t53 t77 h19 rfl (by kernel_rfl)) (by kernel_rfl) (shd 4 [(39, .agg [aI x9.fLow.fKind, aI x9.fLow.fInt, aF x9.fLow.fFloat, aS x9.fLow.fText]), (38, .ptr 0 0), (37, .agg [aI x18.fHigh.fKind, aI x18.fHigh.fInt, aF x18.fHigh.fFloat, aS x18.fHigh.fText]), (36, .pv (.ptr (R_hist_Bucket x18) 4))] (by kernel_rfl) ?_)
       obtain ⟨x20, h21, hm⟩ := bs hm
       refine dvd 40 (cpure (by kernel_rfl) (ok_value_Cmp h21) (by kernel_rfl) (by kernel_rfl) (by kernel_rfl)) (by kernel_rfl) (shd 4 [(44, aB (decide (x20 ≥ 0))), (43, aB (decide (x20 ≥ 0))), (42, aB (decide (x20 ≥ 0))), (41, aB (decide (x20 ≥ 0)))] (by kernel_rfl) (find [(0, .pv (encSl R_hist_Bucket a0)), (8, .pv (encSl R_hist_Bucket a0)), (9, aI ((sll a0).length : Int)), (10, aI y6), (44, aB (decide (x20 ≥ 0)))] rfl (by kernel_rfl) (by kernel_rfl) ?_))
       rcases bif_some hm with ⟨h22, hm⟩ | ⟨h22, hm⟩
       ·
        refine ct h22 (by kernel_rfl) (sq (detn [(2, aB false)] (by kernel_rfl) (wp_ret ?_)))
        obtain rfl := Option.some.inj hm
        exact ⟨trivial, by kernel_rfl⟩
       ·
        refine cf h22 (by kernel_rfl) (wp_skip (detn [(0, .pv (encSl R_hist_Bucket a0)), (8, .pv (encSl R_hist_Bucket a0)), (9, aI ((sll a0).length : Int)), (10, aI (IntKind.wrap .i64 (y6 + 1)))] (by kernel_rfl) ?_))
        exact ⟨_, _, tidyL [(0, .pv (encSl R_hist_Bucket a0)), (8, .pv (encSl R_hist_Bucket a0)), (9, aI ((sll a0).length : Int)), (10, aI (IntKind.wrap .i64 (y6 + 1)))] [] (by kernel_rfl), ⟨(IntKind.wrap .i64 (y6 + 1)), hm, rfl, rfl⟩⟩
     ·
      refine knownd [21, 20] h14 (by kernel_rfl) (shd 23 [(44, aB false), (43, aB false), (42, .undef), (41, .undef), (40, .undef), (39, .undef), (38, .undef), (37, .undef), (36, .undef), (35, .undef), (34, .undef), (33, .undef), (32, .undef), (31, .undef), (30, .undef), (29, .undef), (28, .undef), (27, .undef), (26, .undef), (25, .undef), (24, .undef), (23, .undef), (22, .undef)] (by kernel_rfl) (find [(0, .pv (encSl R_hist_Bucket a0)), (8, .pv (encSl R_hist_Bucket a0)), (9, aI ((sll a0).length : Int)), (10, aI y6), (44, aB false)] rfl (by kernel_rfl) (by kernel_rfl) (cF (by kernel_rfl) (wp_skip (detn [(0, .pv (encSl R_hist_Bucket a0)), (8, .pv (encSl R_hist_Bucket a0)), (9, aI ((sll a0).length : Int)), (10, aI (IntKind.wrap .i64 (y6 + 1)))] (by kernel_rfl) ?_)))))
      exact ⟨_, _, tidyL [(0, .pv (encSl R_hist_Bucket a0)), (8, .pv (encSl R_hist_Bucket a0)), (9, aI ((sll a0).length : Int)), (10, aI (IntKind.wrap .i64 (y6 + 1)))] [] (by kernel_rfl), ⟨(IntKind.wrap .i64 (y6 + 1)), hm, rfl, rfl⟩⟩
   ·
    refine cf h8 (by kernel_rfl) (wp_exit ?_)
    exact ⟨y6, (decide (y6 < ((sll a0).length : Int))), hm, rfl, rfl⟩
theorem ok_hist_find {n : Nat} {a0 : (Option (List hist_Bucket))} {a1 : api_Value} {r : Int × Int × Bool} (hm : hist_find n a0 a1 = some r) :
    call G n 71 [.pv (encSl R_hist_Bucket a0), .agg [aI a1.fKind, aI a1.fInt, aF a1.fFloat, aS a1.fText]] [] = some (.ret (.tup [aI r.1, aI r.2.1, aB r.2.2]), []) := by
  unfold hist_find at hm
  obtain ⟨n, rfl, h0⟩ := at1_some hm
  replace hm := h0; clear h0
  refine callL 49 [(0, .pv (encSl R_hist_Bucket a0)), (1, .agg [aI a1.fKind, aI a1.fInt, aF a1.fFloat, aS a1.fText])] func71 rfl (by kernel_rfl) (sq (det [(0, .pv (encSl R_hist_Bucket a0)), (3, .ptr 0 0), (5, aI 0)] [.box [aI a1.fKind, aI a1.fInt, aF a1.fFloat, aS a1.fText] false] (by kernel_rfl) (scq ?_)))
  refine sq (sq (rg (sh 1 [(9, .pv (encSl R_hist_Bucket a0))] (by kernel_rfl) ?_)))
  obtain ⟨x1, h2, hm⟩ := bs hm
  refine dv 10 (cpure (by kernel_rfl) (ok_hist_Right h2) (by kernel_rfl) (by kernel_rfl) (by kernel_rfl)) (by kernel_rfl) (sh 2 [(12, aB (!x1)), (11, aB (!x1))] (by kernel_rfl) ?_)
  rcases bif_some hm with ⟨h3, hm⟩ | ⟨h3, hm⟩
  ·
   refine known [12, 11] h3 (by kernel_rfl) (sh 9 [(21, aB true), (20, .undef), (19, .undef), (18, .undef), (17, aB true), (16, aB true), (15, .undef), (14, .undef), (13, .undef)] (by kernel_rfl) (fin [(0, .pv (encSl R_hist_Bucket a0)), (3, .ptr 0 0), (5, aI 0), (21, aB true)] rfl (by kernel_rfl) (cT (by kernel_rfl) (sq (detn [(4, aI 0), (5, aI 0), (6, aB false)] (by kernel_rfl) (wp_ret ?_))))))
   obtain rfl := Option.some.inj hm
   exact ⟨trivial, by kernel_rfl⟩
  ·
   refine known [12, 11] h3 (by kernel_rfl) (sh 1 [(13, .agg [aI a1.fKind, aI a1.fInt, aF a1.fFloat, aS a1.fText])] (by kernel_rfl) ?_)
   obtain ⟨x4, h5, hm⟩ := bs hm
   refine dv 14 (cpure (by kernel_rfl) (ok_value_Right h5) (by kernel_rfl) (by kernel_rfl) (by kernel_rfl)) (by kernel_rfl) (sh 3 [(17, aB (!x4)), (16, aB (!x4)), (15, aB (!x4))] (by kernel_rfl) ?_)
   refine seg (!x4) [17, 16, 15] (fun b => [(21, aB (b || (a1.fKind == 0))), (20, ifA b (.undef) (aB (a1.fKind == 0))), (19, ifA b (.undef) (aI a1.fKind)), (18, ifA b (.undef) (.ptr 0 0))]) 13 (by kernel_rfl) ?_ ?_ ?_
   ·
    intro Q h
    refine sh 4 [(21, aB true), (20, .undef), (19, .undef), (18, .undef)] (by kernel_rfl) ?_
    exact sameN (by kernel_rfl) (by kernel_rfl) h
   ·
    intro Q h
    refine sh 4 [(21, aB (a1.fKind == 0)), (20, aB (a1.fKind == 0)), (19, aI a1.fKind), (18, .ptr 0 0)] (by kernel_rfl) ?_
    exact sameN (by kernel_rfl) (by kernel_rfl) h
   refine fin [(0, .pv (encSl R_hist_Bucket a0)), (3, .ptr 0 0), (5, aI 0), (21, aB ((!x4) || (a1.fKind == 0)))] rfl (by kernel_rfl) ?_
   rcases bif_some hm with ⟨h6, hm⟩ | ⟨h6, hm⟩
   ·
    refine ct h6 (by kernel_rfl) (sq (detn [(4, aI 0), (5, aI 0), (6, aB false)] (by kernel_rfl) (wp_ret ?_)))
    obtain rfl := Option.some.inj hm
    exact ⟨trivial, by kernel_rfl⟩
   ·
    refine cf h6 (by kernel_rfl) (wp_skip (sq (wp_label ?_)))
    obtain ⟨k14, hk14, hm⟩ := withK_some hm
    refine mid (fun t H => (∃ (y13 : Int) (w7 : AV) (w8 : AV) (w9 : AV) (w10 : AV) (w11 : AV) (w12 : Blk), k14 y13 = some r ∧ t = mk 49 [(3, .ptr 0 0), (5, aI y13), (7, w7), (8, w8), (22, .pv (encSl R_hist_Bucket a0)), (23, aI ((sll a0).length : Int)), (24, w9), (25, w10), (29, w11)] ∧ H = [.box [aI a1.fKind, aI a1.fInt, aF a1.fFloat, aS a1.fText] false, w12]) ∨ (∃ (y13 : Int) (w7 : AV) (w8 : AV) (w9 : AV) (w10 : AV) (w11 : AV) (w12 : Blk), k14 y13 = some r ∧ t = mk 49 [(3, .ptr 0 0), (5, aI y13), (7, w7), (8, w8), (22, .pv (encSl R_hist_Bucket a0)), (23, aI ((sll a0).length : Int)), (24, w9), (25, w10), (29, w11)] ∧ H = [.box [aI a1.fKind, aI a1.fInt, aF a1.fFloat, aS a1.fText] false])) ?_ ?_
    ·
     rintro _ _ (⟨y13, w7, w8, w9, w10, w11, w12, hm, rfl, rfl⟩ | ⟨y13, w7, w8, w9, w10, w11, w12, hm, rfl, rfl⟩)
     ·
      subst hk14
      refine sq (detn [(4, aI 0), (5, aI y13), (6, aB false)] (by kernel_rfl) (wp_ret ?_))
      obtain rfl := Option.some.inj hm
      exact ⟨trivial, by kernel_rfl⟩
     ·
      subst hk14
      refine sq (detn [(4, aI 0), (5, aI y13), (6, aB false)] (by kernel_rfl) (wp_ret ?_))
      obtain rfl := Option.some.inj hm
      exact ⟨trivial, by kernel_rfl⟩
    refine sq (rg (sh 1 [(22, .pv (encSl R_hist_Bucket a0))] (by kernel_rfl) (dv 23 (v := aI ((sll a0).length : Int)) (len_slO R_hist_Bucket a0 t53 (by kernel_rfl)) (by kernel_rfl) (sh 1 [(24, aI 0)] (by kernel_rfl) (fin [(3, .ptr 0 0), (5, aI 0), (22, .pv (encSl R_hist_Bucket a0)), (23, aI ((sll a0).length : Int)), (24, aI 0)] rfl (by kernel_rfl) (bq ?_))))))
    refine loopF (fun mm t H => (∃ (y17 : Int) (y18 : Int), hist_find_l4 n a0 a1 k14 mm y17 y18 = some r ∧ t = mk 49 [(3, .ptr 0 0), (5, aI y18), (22, .pv (encSl R_hist_Bucket a0)), (23, aI ((sll a0).length : Int)), (24, aI y17)] ∧ H = [.box [aI a1.fKind, aI a1.fInt, aF a1.fFloat, aS a1.fText] false])) (⟨0, 0, hm, rfl, rfl⟩) ?_ ?_
    · rintro _ _ ⟨y17, y18, hm, _⟩; exact nomatch hm
    rintro m19 _ _ ⟨y17, y18, hm, rfl, rfl⟩
    simp only [hist_find_l4] at hm
    refine sq (detn [(3, .ptr 0 0), (5, aI y18), (22, .pv (encSl R_hist_Bucket a0)), (23, aI ((sll a0).length : Int)), (24, aI y17), (25, aB (decide (y17 < ((sll a0).length : Int))))] (by kernel_rfl) ?_)
    refine sq ?_
    rcases bif_some hm with ⟨h20, hm⟩ | ⟨h20, hm⟩
    ·
     refine ct h20 (by kernel_rfl) (wp_skip (sq (bq (sq (rg (sh 1 [(26, aI y17)] (by kernel_rfl) ?_))))))
     obtain ⟨x21, h22, hm⟩ := bs hm
     refine dv 27 (v := .pv (.ptr (R_hist_Bucket x21) 0)) (ia_slO R_hist_Bucket a0 .i64 t53 t77 h22 rfl (by kernel_rfl)) (by kernel_rfl) (st 4 [(7, aI y17), (8, .ptr 1 0), (28, .agg [aI x21.fLow.fKind, aI x21.fLow.fInt, aF x21.fLow.fFloat, aS x21.fLow.fText, aI x21.fHigh.fKind, aI x21.fHigh.fInt, aF x21.fHigh.fFloat, aS x21.fHigh.fText, aI x21.fCount, aI x21.fDistinct])] [.box [aI a1.fKind, aI a1.fInt, aF a1.fFloat, aS a1.fText] false, .box [aI x21.fLow.fKind, aI x21.fLow.fInt, aF x21.fLow.fFloat, aS x21.fLow.fText, aI x21.fHigh.fKind, aI x21.fHigh.fInt, aF x21.fHigh.fFloat, aS x21.fHigh.fText, aI x21.fCount, aI x21.fDistinct] false] (by kernel_rfl) (fin [(3, .ptr 0 0), (5, aI y18), (7, aI y17), (8, .ptr 1 0), (22, .pv (encSl R_hist_Bucket a0)), (23, aI ((sll a0).length : Int)), (24, aI y17)] rfl (by kernel_rfl) (sq (bq (sq (rg (sh 3 [(32, .agg [aI x21.fLow.fKind, aI x21.fLow.fInt, aF x21.fLow.fFloat, aS x21.fLow.fText]), (31, .ptr 1 0), (30, .agg [aI a1.fKind, aI a1.fInt, aF a1.fFloat, aS a1.fText])] (by kernel_rfl) ?_)))))))
     obtain ⟨x23, h24, hm⟩ := bs hm
     refine dv 33 (cpure (by kernel_rfl) (ok_value_Cmp h24) (by kernel_rfl) (by kernel_rfl) (by kernel_rfl)) (by kernel_rfl) (sh 2 [(29, aB (decide (x23 < 0))), (34, aB (decide (x23 < 0)))] (by kernel_rfl) (fin [(3, .ptr 0 0), (5, aI y18), (7, aI y17), (8, .ptr 1 0), (22, .pv (encSl R_hist_Bucket a0)), (23, aI ((sll a0).length : Int)), (24, aI y17), (29, aB (decide (x23 < 0)))] rfl (by kernel_rfl) ?_))
     rcases bif_some hm with ⟨h25, hm⟩ | ⟨h25, hm⟩
     ·
      refine ct h25 (by kernel_rfl) (wp_exit ?_)
      exact .inl ⟨y18, aI y17, .ptr 1 0, aI y17, .any, aB (decide (x23 < 0)), .box [aI x21.fLow.fKind, aI x21.fLow.fInt, aF x21.fLow.fFloat, aS x21.fLow.fText, aI x21.fHigh.fKind, aI x21.fHigh.fInt, aF x21.fHigh.fFloat, aS x21.fHigh.fText, aI x21.fCount, aI x21.fDistinct] false, hm, (mk_same (by kernel_rfl)), rfl⟩
     ·
      refine cf h25 (by kernel_rfl) (sq (rg (sh 3 [(38, .agg [aI x21.fHigh.fKind, aI x21.fHigh.fInt, aF x21.fHigh.fFloat, aS x21.fHigh.fText]), (37, .ptr 1 4), (36, .agg [aI a1.fKind, aI a1.fInt, aF a1.fFloat, aS a1.fText])] (by kernel_rfl) ?_)))
      obtain ⟨x26, h27, hm⟩ := bs hm
      refine dv 39 (cpure (by kernel_rfl) (ok_value_Cmp h27) (by kernel_rfl) (by kernel_rfl) (by kernel_rfl)) (by kernel_rfl) (sh 2 [(35, aB (decide (x26 ≤ 0))), (40, aB (decide (x26 ≤ 0)))] (by kernel_rfl) (fin [(3, .ptr 0 0), (5, aI y18), (7, aI y17), (8, .ptr 1 0), (22, .pv (encSl R_hist_Bucket a0)), (23, aI ((sll a0).length : Int)), (24, aI y17), (35, aB (decide (x26 ≤ 0)))] rfl (by kernel_rfl) ?_))
      rcases bif_some hm with ⟨h28, hm⟩ | ⟨h28, hm⟩
      ·
       refine ct h28 (by kernel_rfl) (sq (detn [(4, aI y17), (5, aI y18), (6, aB true)] (by kernel_rfl) (wp_ret ?_)))
       obtain rfl := Option.some.inj hm
       exact ⟨trivial, by kernel_rfl⟩
      ·
       refine cf h28 (by kernel_rfl) (wp_skip (detn [(3, .ptr 0 0), (5, aI (IntKind.wrap .i64 (y18 + x21.fCount))), (22, .pv (encSl R_hist_Bucket a0)), (23, aI ((sll a0).length : Int)), (24, aI y17)] (by kernel_rfl) (detn [(3, .ptr 0 0), (5, aI (IntKind.wrap .i64 (y18 + x21.fCount))), (22, .pv (encSl R_hist_Bucket a0)), (23, aI ((sll a0).length : Int)), (24, aI (IntKind.wrap .i64 (y17 + 1)))] (by kernel_rfl) ?_)))
       exact ⟨_, _, tidyL [(3, .ptr 0 0), (5, aI (IntKind.wrap .i64 (y18 + x21.fCount))), (22, .pv (encSl R_hist_Bucket a0)), (23, aI ((sll a0).length : Int)), (24, aI (IntKind.wrap .i64 (y17 + 1)))] [.box [aI a1.fKind, aI a1.fInt, aF a1.fFloat, aS a1.fText] false] (by kernel_rfl), ⟨(IntKind.wrap .i64 (y17 + 1)), (IntKind.wrap .i64 (y18 + x21.fCount)), hm, rfl, rfl⟩⟩
    ·
     refine cf h20 (by kernel_rfl) (wp_exit ?_)
     exact .inr (⟨y18, .any, .any, aI y17, aB (decide (y17 < ((sll a0).length : Int))), .any, (.box [] false), hm, (mk_same (by kernel_rfl)), rfl⟩)
theorem ok_value_Same {n : Nat} {a0 : api_Value} {a1 : api_Value} {r : Bool} (hm : value_Same n a0 a1 = some r) :
    call G n 40 [.agg [aI a0.fKind, aI a0.fInt, aF a0.fFloat, aS a0.fText], .agg [aI a1.fKind, aI a1.fInt, aF a1.fFloat, aS a1.fText]] [] = some (.ret (aB r), []) := by
  unfold value_Same at hm
  obtain ⟨n, rfl, h0⟩ := at1_some hm
  replace hm := h0; clear h0
  refine callL 9 [(0, .agg [aI a0.fKind, aI a0.fInt, aF a0.fFloat, aS a0.fText]), (1, .agg [aI a1.fKind, aI a1.fInt, aF a1.fFloat, aS a1.fText])] func40 rfl (by kernel_rfl) (sq (det [(2, .ptr 0 0), (3, .ptr 1 0)] [.box [aI a0.fKind, aI a0.fInt, aF a0.fFloat, aS a0.fText] false, .box [aI a1.fKind, aI a1.fInt, aF a1.fFloat, aS a1.fText] false] (by kernel_rfl) (sq (rg (sh 2 [(6, .agg [aI a1.fKind, aI a1.fInt, aF a1.fFloat, aS a1.fText]), (5, .agg [aI a0.fKind, aI a0.fInt, aF a0.fFloat, aS a0.fText])] (by kernel_rfl) ?_)))))
  obtain ⟨x1, h2, hm⟩ := bs hm
  refine dv 7 (cpure (by kernel_rfl) (ok_value_Cmp h2) (by kernel_rfl) (by kernel_rfl) (by kernel_rfl)) (by kernel_rfl) (sh 2 [(4, aB (x1 == 0)), (8, aB (x1 == 0))] (by kernel_rfl) (fin [(4, aB (x1 == 0))] rfl (by kernel_rfl) (wp_ret ?_)))
  obtain rfl := Option.some.inj hm
  exact ⟨trivial, by kernel_rfl⟩
theorem ok_hist_each {n : Nat} {a0 : hist_Bucket} {r : Int} (hm : hist_each n a0 = some r) :
    call G n 72 [.agg [aI a0.fLow.fKind, aI a0.fLow.fInt, aF a0.fLow.fFloat, aS a0.fLow.fText, aI a0.fHigh.fKind, aI a0.fHigh.fInt, aF a0.fHigh.fFloat, aS a0.fHigh.fText, aI a0.fCount, aI a0.fDistinct]] [] = some (.ret (aI r), []) := by
  unfold hist_each at hm
  obtain ⟨n, rfl, h0⟩ := at1_some hm
  replace hm := h0; clear h0
  refine callL 8 [(0, .agg [aI a0.fLow.fKind, aI a0.fLow.fInt, aF a0.fLow.fFloat, aS a0.fLow.fText, aI a0.fHigh.fKind, aI a0.fHigh.fInt, aF a0.fHigh.fFloat, aS a0.fHigh.fText, aI a0.fCount, aI a0.fDistinct])] func72 rfl (by kernel_rfl) (sq (det [(1, .ptr 0 0)] [.box [aI a0.fLow.fKind, aI a0.fLow.fInt, aF a0.fLow.fFloat, aS a0.fLow.fText, aI a0.fHigh.fKind, aI a0.fHigh.fInt, aF a0.fHigh.fFloat, aS a0.fHigh.fText, aI a0.fCount, aI a0.fDistinct] false] (by kernel_rfl) (sq (rg (sh 4 [(6, aI a0.fDistinct), (5, .ptr 0 9), (4, aI a0.fCount), (3, .ptr 0 8)] (by kernel_rfl) ?_)))))
  obtain ⟨_, h1, hm⟩ := bs hm
  refine dv 7 (v := aI (IntKind.wrap .i64 (Int.tdiv a0.fCount a0.fDistinct))) (quoO h1 (by kernel_rfl)) (by kernel_rfl) (sh 1 [(2, aI (IntKind.wrap .i64 (Int.tdiv a0.fCount a0.fDistinct)))] (by kernel_rfl) (fin [(2, aI (IntKind.wrap .i64 (Int.tdiv a0.fCount a0.fDistinct)))] rfl (by kernel_rfl) (wp_ret ?_)))
  obtain rfl := Option.some.inj hm
  exact ⟨trivial, by kernel_rfl⟩
theorem ok_math_bits_Mul64 {n : Nat} {a0 : Int} {a1 : Int} {r : Int × Int} (hm : math_bits_Mul64 n a0 a1 = some r) :
    call G n 122 [aU a0, aU a1] [] = some (.ret (.tup [aU r.1, aU r.2]), []) := by
  unfold math_bits_Mul64 at hm
  obtain ⟨n, rfl, h0⟩ := at1_some hm
  replace hm := h0; clear h0
  refine callL 51 [(0, aU a0), (1, aU a1)] func122 rfl (by kernel_rfl) (sq (detn [(0, aU a0), (1, aU a1)] (by kernel_rfl) (sq (detn [(0, aU a0), (1, aU a1), (6, aU (iAnd .u64 a0 4294967295))] (by kernel_rfl) (sq (detn [(0, aU a0), (1, aU a1), (6, aU (iAnd .u64 a0 4294967295)), (7, aU (iShr .u64 a0 32))] (by kernel_rfl) (sq (detn [(0, aU a0), (1, aU a1), (6, aU (iAnd .u64 a0 4294967295)), (7, aU (iShr .u64 a0 32)), (8, aU (iAnd .u64 a1 4294967295))] (by kernel_rfl) (sq (detn [(0, aU a0), (1, aU a1), (6, aU (iAnd .u64 a0 4294967295)), (7, aU (iShr .u64 a0 32)), (8, aU (iAnd .u64 a1 4294967295)), (9, aU (iShr .u64 a1 32))] (by kernel_rfl) (sq (detn [(0, aU a0), (1, aU a1), (6, aU (iAnd .u64 a0 4294967295)), (7, aU (iShr .u64 a0 32)), (8, aU (iAnd .u64 a1 4294967295)), (9, aU (iShr .u64 a1 32)), (10, aU (IntKind.wrap .u64 ((iAnd .u64 a0 4294967295) * (iAnd .u64 a1 4294967295))))] (by kernel_rfl) ?_))))))))))))
  refine sq (detn [(0, aU a0), (1, aU a1), (6, aU (iAnd .u64 a0 4294967295)), (7, aU (iShr .u64 a0 32)), (9, aU (iShr .u64 a1 32)), (11, aU (IntKind.wrap .u64 ((IntKind.wrap .u64 ((iShr .u64 a0 32) * (iAnd .u64 a1 4294967295))) + (iShr .u64 (IntKind.wrap .u64 ((iAnd .u64 a0 4294967295) * (iAnd .u64 a1 4294967295))) 32))))] (by kernel_rfl) (sq (detn [(0, aU a0), (1, aU a1), (6, aU (iAnd .u64 a0 4294967295)), (7, aU (iShr .u64 a0 32)), (9, aU (iShr .u64 a1 32)), (11, aU (IntKind.wrap .u64 ((IntKind.wrap .u64 ((iShr .u64 a0 32) * (iAnd .u64 a1 4294967295))) + (iShr .u64 (IntKind.wrap .u64 ((iAnd .u64 a0 4294967295) * (iAnd .u64 a1 4294967295))) 32)))), (12, aU (iAnd .u64 (IntKind.wrap .u64 ((IntKind.wrap .u64 ((iShr .u64 a0 32) * (iAnd .u64 a1 4294967295))) + (iShr .u64 (IntKind.wrap .u64 ((iAnd .u64 a0 4294967295) * (iAnd .u64 a1 4294967295))) 32))) 4294967295))] (by kernel_rfl) (sq (detn [(0, aU a0), (1, aU a1), (6, aU (iAnd .u64 a0 4294967295)), (7, aU (iShr .u64 a0 32)), (9, aU (iShr .u64 a1 32)), (12, aU (iAnd .u64 (IntKind.wrap .u64 ((IntKind.wrap .u64 ((iShr .u64 a0 32) * (iAnd .u64 a1 4294967295))) + (iShr .u64 (IntKind.wrap .u64 ((iAnd .u64 a0 4294967295) * (iAnd .u64 a1 4294967295))) 32))) 4294967295)), (13, aU (iShr .u64 (IntKind.wrap .u64 ((IntKind.wrap .u64 ((iShr .u64 a0 32) * (iAnd .u64 a1 4294967295))) + (iShr .u64 (IntKind.wrap .u64 ((iAnd .u64 a0 4294967295) * (iAnd .u64 a1 4294967295))) 32))) 32))] (by kernel_rfl) (sq (detn [(0, aU a0), (1, aU a1), (7, aU (iShr .u64 a0 32)), (9, aU (iShr .u64 a1 32)), (12, aU (IntKind.wrap .u64 ((iAnd .u64 (IntKind.wrap .u64 ((IntKind.wrap .u64 ((iShr .u64 a0 32) * (iAnd .u64 a1 4294967295))) + (iShr .u64 (IntKind.wrap .u64 ((iAnd .u64 a0 4294967295) * (iAnd .u64 a1 4294967295))) 32))) 4294967295) + (IntKind.wrap .u64 ((iAnd .u64 a0 4294967295) * (iShr .u64 a1 32)))))), (13, aU (iShr .u64 (IntKind.wrap .u64 ((IntKind.wrap .u64 ((iShr .u64 a0 32) * (iAnd .u64 a1 4294967295))) + (iShr .u64 (IntKind.wrap .u64 ((iAnd .u64 a0 4294967295) * (iAnd .u64 a1 4294967295))) 32))) 32))] (by kernel_rfl) (sq (detn [(0, aU a0), (1, aU a1), (4, aU (IntKind.wrap .u64 ((IntKind.wrap .u64 ((IntKind.wrap .u64 ((iShr .u64 a0 32) * (iShr .u64 a1 32))) + (iShr .u64 (IntKind.wrap .u64 ((IntKind.wrap .u64 ((iShr .u64 a0 32) * (iAnd .u64 a1 4294967295))) + (iShr .u64 (IntKind.wrap .u64 ((iAnd .u64 a0 4294967295) * (iAnd .u64 a1 4294967295))) 32))) 32))) + (iShr .u64 (IntKind.wrap .u64 ((iAnd .u64 (IntKind.wrap .u64 ((IntKind.wrap .u64 ((iShr .u64 a0 32) * (iAnd .u64 a1 4294967295))) + (iShr .u64 (IntKind.wrap .u64 ((iAnd .u64 a0 4294967295) * (iAnd .u64 a1 4294967295))) 32))) 4294967295) + (IntKind.wrap .u64 ((iAnd .u64 a0 4294967295) * (iShr .u64 a1 32))))) 32))))] (by kernel_rfl) (sq (detn [(4, aU (IntKind.wrap .u64 ((IntKind.wrap .u64 ((IntKind.wrap .u64 ((iShr .u64 a0 32) * (iShr .u64 a1 32))) + (iShr .u64 (IntKind.wrap .u64 ((IntKind.wrap .u64 ((iShr .u64 a0 32) * (iAnd .u64 a1 4294967295))) + (iShr .u64 (IntKind.wrap .u64 ((iAnd .u64 a0 4294967295) * (iAnd .u64 a1 4294967295))) 32))) 32))) + (iShr .u64 (IntKind.wrap .u64 ((iAnd .u64 (IntKind.wrap .u64 ((IntKind.wrap .u64 ((iShr .u64 a0 32) * (iAnd .u64 a1 4294967295))) + (iShr .u64 (IntKind.wrap .u64 ((iAnd .u64 a0 4294967295) * (iAnd .u64 a1 4294967295))) 32))) 4294967295) + (IntKind.wrap .u64 ((iAnd .u64 a0 4294967295) * (iShr .u64 a1 32))))) 32)))), (5, aU (IntKind.wrap .u64 (a0 * a1)))] (by kernel_rfl) (wp_ret ?_))))))))))))
  obtain rfl := Option.some.inj hm
  exact ⟨trivial, by kernel_rfl⟩
theorem ok_math_bits_Len64 {n : Nat} {a0 : Int} {r : Int} (hm : math_bits_Len64 n a0 = some r) :
    call G n 133 [aU a0] [] = some (.ret (aI r), []) := by
  unfold math_bits_Len64 at hm
  obtain ⟨n, rfl, h0⟩ := at1_some hm
  replace hm := h0; clear h0
  refine callL 25 [(0, aU a0)] func133 rfl (by kernel_rfl) (sq (detn [(0, aU a0), (2, aI 0)] (by kernel_rfl) ?_))
  obtain ⟨k4, hk4, hm⟩ := withK_some hm
  refine mid (fun t H => (∃ (y2 : Int) (y3 : Int) (w1 : AV), k4 y2 y3 = some r ∧ t = mk 25 [(0, aU y2), (2, aI y3), (4, w1)] ∧ H = [])) ?_ ?_
  ·
   rintro _ _ ⟨y2, y3, w1, hm, rfl, rfl⟩
   subst hk4
   obtain ⟨k8, hk8, hm⟩ := withK_some hm
   refine mid (fun t H => (∃ (y6 : Int) (y7 : Int) (w5 : AV), k8 y6 y7 = some r ∧ t = mk 25 [(0, aU y6), (2, aI y7), (8, w5)] ∧ H = [])) ?_ ?_
   ·
    rintro _ _ ⟨y6, y7, w5, hm, rfl, rfl⟩
    subst hk8
    obtain ⟨k12, hk12, hm⟩ := withK_some hm
    refine mid (fun t H => (∃ (y10 : Int) (y11 : Int) (w9 : AV), k12 y10 y11 = some r ∧ t = mk 25 [(0, aU y10), (2, aI y11), (14, w9)] ∧ H = [])) ?_ ?_
    ·
     rintro _ _ ⟨y10, y11, w9, hm, rfl, rfl⟩
     subst hk12
     refine sq (rg (sh 3 [(21, aY (IntKind.wrap .u8 y10)), (20, aU y10), (19, aI y11)] (by kernel_rfl) ?_))
     obtain ⟨x13, h14, hm⟩ := bs hm
     refine dv 22 (v := aY x13) (ix_strO .u8 h14 (by kernel_rfl)) (by kernel_rfl) (sh 3 [(2, aI (IntKind.wrap .i64 (y11 + (IntKind.wrap .i64 x13)))), (24, aI (IntKind.wrap .i64 (y11 + (IntKind.wrap .i64 x13)))), (23, aI (IntKind.wrap .i64 x13))] (by kernel_rfl) (fin [(2, aI (IntKind.wrap .i64 (y11 + (IntKind.wrap .i64 x13))))] rfl (by kernel_rfl) (wp_ret ?_)))
     obtain rfl := Option.some.inj hm
     exact ⟨trivial, by kernel_rfl⟩
    refine sq (detn [(0, aU y6), (2, aI y7), (14, aB (decide (y6 ≥ 256)))] (by kernel_rfl) ?_)
    rcases bif_some hm with ⟨h15, hm⟩ | ⟨h15, hm⟩
    ·
     refine ct h15 (by kernel_rfl) (sq (detn [(0, aU (iShr .u64 y6 8)), (2, aI y7)] (by kernel_rfl) (detn [(0, aU (iShr .u64 y6 8)), (2, aI (IntKind.wrap .i64 (y7 + 8)))] (by kernel_rfl) ?_)))
     exact ⟨(iShr .u64 y6 8), (IntKind.wrap .i64 (y7 + 8)), .any, hm, (mk_same (by kernel_rfl)), rfl⟩
    ·
     refine cf h15 (by kernel_rfl) (wp_skip ?_)
     exact ⟨y6, y7, aB (decide (y6 ≥ 256)), hm, (mk_same (by kernel_rfl)), rfl⟩
   refine sq (detn [(0, aU y2), (2, aI y3), (8, aB (decide (y2 ≥ 65536)))] (by kernel_rfl) ?_)
   rcases bif_some hm with ⟨h16, hm⟩ | ⟨h16, hm⟩
   ·
    refine ct h16 (by kernel_rfl) (sq (detn [(0, aU (iShr .u64 y2 16)), (2, aI y3)] (by kernel_rfl) (detn [(0, aU (iShr .u64 y2 16)), (2, aI (IntKind.wrap .i64 (y3 + 16)))] (by kernel_rfl) ?_)))
    exact ⟨(iShr .u64 y2 16), (IntKind.wrap .i64 (y3 + 16)), .any, hm, (mk_same (by kernel_rfl)), rfl⟩
   ·
    refine cf h16 (by kernel_rfl) (wp_skip ?_)
    exact ⟨y2, y3, aB (decide (y2 ≥ 65536)), hm, (mk_same (by kernel_rfl)), rfl⟩
  refine sq (detn [(0, aU a0), (2, aI 0), (4, aB (decide (a0 ≥ 4294967296)))] (by kernel_rfl) ?_)
  rcases bif_some hm with ⟨h17, hm⟩ | ⟨h17, hm⟩
  ·
   refine ct h17 (by kernel_rfl) (sq (detn [(0, aU (iShr .u64 a0 32))] (by kernel_rfl) (detn [(0, aU (iShr .u64 a0 32)), (2, aI 32)] (by kernel_rfl) ?_)))
   exact ⟨(iShr .u64 a0 32), 32, .any, hm, (mk_same (by kernel_rfl)), rfl⟩
  ·
   refine cf h17 (by kernel_rfl) (wp_skip ?_)
   exact ⟨a0, 0, aB (decide (a0 ≥ 4294967296)), hm, (mk_same (by kernel_rfl)), rfl⟩
theorem ok_math_bits_LeadingZeros64 {n : Nat} {a0 : Int} {r : Int} (hm : math_bits_LeadingZeros64 n a0 = some r) :
    call G n 134 [aU a0] [] = some (.ret (aI r), []) := by
  unfold math_bits_LeadingZeros64 at hm
  obtain ⟨n, rfl, h0⟩ := at1_some hm
  replace hm := h0; clear h0
  refine callL 6 [(0, aU a0)] func134 rfl (by kernel_rfl) (sq (detn [(0, aU a0)] (by kernel_rfl) (sq (rg (sh 1 [(3, aU a0)] (by kernel_rfl) ?_)))))
  obtain ⟨x1, h2, hm⟩ := bs hm
  refine dv 4 (cpure (by kernel_rfl) (ok_math_bits_Len64 h2) (by kernel_rfl) (by kernel_rfl) (by kernel_rfl)) (by kernel_rfl) (sh 2 [(2, aI (IntKind.wrap .i64 (64 - x1))), (5, aI (IntKind.wrap .i64 (64 - x1)))] (by kernel_rfl) (fin [(2, aI (IntKind.wrap .i64 (64 - x1)))] rfl (by kernel_rfl) (wp_ret ?_)))
  obtain rfl := Option.some.inj hm
  exact ⟨trivial, by kernel_rfl⟩
theorem ok_math_bits_Div64 {n : Nat} {a0 : Int} {a1 : Int} {a2 : Int} {r : Int × Int} (hm : math_bits_Div64 n a0 a1 a2 = some r) :
    call G n 123 [aU a0, aU a1, aU a2] [] = some (.ret (.tup [aU r.1, aU r.2]), []) := by
  unfold math_bits_Div64 at hm
  obtain ⟨n, rfl, h0⟩ := at1_some hm
  replace hm := h0; clear h0
  refine callL 135 [(0, aU a0), (1, aU a1), (2, aU a2)] func123 rfl (by kernel_rfl) (sq (detn [(0, aU a0), (1, aU a1), (2, aU a2)] (by kernel_rfl) ?_))
  refine sq (sq (detn [(0, aU a0), (1, aU a1), (2, aU a2), (20, aB (a2 == 0))] (by kernel_rfl) ?_))
  rcases bif_some hm with ⟨h1, hm⟩ | ⟨h1, hm⟩
  ·
   refine ct h1 (by kernel_rfl) (rg ?_)
   cases hm
  ·
   refine cf h1 (by kernel_rfl) (wp_skip ?_)
   refine sq (sq (detn [(0, aU a0), (1, aU a1), (2, aU a2), (24, aB (decide (a2 ≤ a0)))] (by kernel_rfl) ?_))
   rcases bif_some hm with ⟨h2, hm⟩ | ⟨h2, hm⟩
   ·
    refine ct h2 (by kernel_rfl) (rg ?_)
    cases hm
   ·
    refine cf h2 (by kernel_rfl) (wp_skip ?_)
    refine sq (sq (detn [(0, aU a0), (1, aU a1), (2, aU a2), (27, aB (a0 == 0))] (by kernel_rfl) ?_))
    rcases bif_some hm with ⟨h3, hm⟩ | ⟨h3, hm⟩
    ·
     refine ct h3 (by kernel_rfl) (sq (rgd (shd 2 [(29, aU a2), (28, aU a1)] (by kernel_rfl) ?_)))
     obtain ⟨_, h4, hm⟩ := bs hm
     refine dvd 30 (v := aU (IntKind.wrap .u64 (Int.tdiv a1 a2))) (quoO h4 (by kernel_rfl)) (by kernel_rfl) (shd 2 [(32, aU a2), (31, aU a1)] (by kernel_rfl) ?_)
     obtain ⟨_, h5, hm⟩ := bs hm
     refine dvd 33 (v := aU (Int.tmod a1 a2)) (remO h5 (by kernel_rfl)) (by kernel_rfl) (shd 2 [(7, aU (Int.tmod a1 a2)), (6, aU (IntKind.wrap .u64 (Int.tdiv a1 a2)))] (by kernel_rfl) (find [(6, aU (IntKind.wrap .u64 (Int.tdiv a1 a2))), (7, aU (Int.tmod a1 a2))] rfl (by kernel_rfl) (by kernel_rfl) (wp_ret ?_)))
     obtain rfl := Option.some.inj hm
     exact ⟨trivial, by kernel_rfl⟩
    ·
     refine cf h3 (by kernel_rfl) (wp_skip (sq (rg (sh 1 [(34, aU a2)] (by kernel_rfl) ?_))))
     obtain ⟨x6, h7, hm⟩ := bs hm
     refine dv 35 (cpure (by kernel_rfl) (ok_math_bits_LeadingZeros64 h7) (by kernel_rfl) (by kernel_rfl) (by kernel_rfl)) (by kernel_rfl) (sh 2 [(8, aU (IntKind.wrap .u64 x6)), (36, aU (IntKind.wrap .u64 x6))] (by kernel_rfl) (fin [(0, aU a0), (1, aU a1), (2, aU a2), (8, aU (IntKind.wrap .u64 x6))] rfl (by kernel_rfl) (sq (rg (sh 2 [(38, aU (IntKind.wrap .u64 x6)), (37, aU a2)] (by kernel_rfl) ?_)))))
     obtain ⟨_, h8, hm⟩ := bs hm
     refine dv 39 (v := aU (iShl .u64 a2 (IntKind.wrap .u64 x6))) (shlO h8 (by kernel_rfl)) (by kernel_rfl) (sh 1 [(2, aU (iShl .u64 a2 (IntKind.wrap .u64 x6)))] (by kernel_rfl) (fin [(0, aU a0), (1, aU a1), (2, aU (iShl .u64 a2 (IntKind.wrap .u64 x6))), (8, aU (IntKind.wrap .u64 x6))] rfl (by kernel_rfl) (sq (detn [(0, aU a0), (1, aU a1), (2, aU (iShl .u64 a2 (IntKind.wrap .u64 x6))), (8, aU (IntKind.wrap .u64 x6)), (9, aU (iShr .u64 (iShl .u64 a2 (IntKind.wrap .u64 x6)) 32))] (by kernel_rfl) (sq (detn [(0, aU a0), (1, aU a1), (2, aU (iShl .u64 a2 (IntKind.wrap .u64 x6))), (8, aU (IntKind.wrap .u64 x6)), (9, aU (iShr .u64 (iShl .u64 a2 (IntKind.wrap .u64 x6)) 32)), (10, aU (iAnd .u64 (iShl .u64 a2 (IntKind.wrap .u64 x6)) 4294967295))] (by kernel_rfl) (sq (rg (sh 2 [(45, aU (IntKind.wrap .u64 x6)), (44, aU a0)] (by kernel_rfl) ?_)))))))))
     obtain ⟨_, h9, hm⟩ := bs hm
     refine dv 46 (v := aU (iShl .u64 a0 (IntKind.wrap .u64 x6))) (shlO h9 (by kernel_rfl)) (by kernel_rfl) (sh 3 [(49, aU (IntKind.wrap .u64 (64 - (IntKind.wrap .u64 x6)))), (48, aU (IntKind.wrap .u64 x6)), (47, aU a1)] (by kernel_rfl) ?_)
     obtain ⟨_, h10, hm⟩ := bs hm
     refine dv 50 (v := aU (iShr .u64 a1 (IntKind.wrap .u64 (64 - (IntKind.wrap .u64 x6))))) (shrO h10 (by kernel_rfl)) (by kernel_rfl) (sh 2 [(11, aU (iOr .u64 (iShl .u64 a0 (IntKind.wrap .u64 x6)) (iShr .u64 a1 (IntKind.wrap .u64 (64 - (IntKind.wrap .u64 x6)))))), (51, aU (iOr .u64 (iShl .u64 a0 (IntKind.wrap .u64 x6)) (iShr .u64 a1 (IntKind.wrap .u64 (64 - (IntKind.wrap .u64 x6))))))] (by kernel_rfl) (fin [(1, aU a1), (2, aU (iShl .u64 a2 (IntKind.wrap .u64 x6))), (8, aU (IntKind.wrap .u64 x6)), (9, aU (iShr .u64 (iShl .u64 a2 (IntKind.wrap .u64 x6)) 32)), (10, aU (iAnd .u64 (iShl .u64 a2 (IntKind.wrap .u64 x6)) 4294967295)), (11, aU (iOr .u64 (iShl .u64 a0 (IntKind.wrap .u64 x6)) (iShr .u64 a1 (IntKind.wrap .u64 (64 - (IntKind.wrap .u64 x6))))))] rfl (by kernel_rfl) (sq (rg (sh 2 [(53, aU (IntKind.wrap .u64 x6)), (52, aU a1)] (by kernel_rfl) ?_)))))
     obtain ⟨_, h11, hm⟩ := bs hm
     refine dv 54 (v := aU (iShl .u64 a1 (IntKind.wrap .u64 x6))) (shlO h11 (by kernel_rfl)) (by kernel_rfl) (sh 1 [(12, aU (iShl .u64 a1 (IntKind.wrap .u64 x6)))] (by kernel_rfl) (fin [(2, aU (iShl .u64 a2 (IntKind.wrap .u64 x6))), (8, aU (IntKind.wrap .u64 x6)), (9, aU (iShr .u64 (iShl .u64 a2 (IntKind.wrap .u64 x6)) 32)), (10, aU (iAnd .u64 (iShl .u64 a2 (IntKind.wrap .u64 x6)) 4294967295)), (11, aU (iOr .u64 (iShl .u64 a0 (IntKind.wrap .u64 x6)) (iShr .u64 a1 (IntKind.wrap .u64 (64 - (IntKind.wrap .u64 x6)))))), (12, aU (iShl .u64 a1 (IntKind.wrap .u64 x6)))] rfl (by kernel_rfl) (sq (detn [(2, aU (iShl .u64 a2 (IntKind.wrap .u64 x6))), (8, aU (IntKind.wrap .u64 x6)), (9, aU (iShr .u64 (iShl .u64 a2 (IntKind.wrap .u64 x6)) 32)), (10, aU (iAnd .u64 (iShl .u64 a2 (IntKind.wrap .u64 x6)) 4294967295)), (11, aU (iOr .u64 (iShl .u64 a0 (IntKind.wrap .u64 x6)) (iShr .u64 a1 (IntKind.wrap .u64 (64 - (IntKind.wrap .u64 x6)))))), (12, aU (iShl .u64 a1 (IntKind.wrap .u64 x6))), (13, aU (iShr .u64 (iShl .u64 a1 (IntKind.wrap .u64 x6)) 32))] (by kernel_rfl) (sq (detn [(2, aU (iShl .u64 a2 (IntKind.wrap .u64 x6))), (8, aU (IntKind.wrap .u64 x6)), (9, aU (iShr .u64 (iShl .u64 a2 (IntKind.wrap .u64 x6)) 32)), (10, aU (iAnd .u64 (iShl .u64 a2 (IntKind.wrap .u64 x6)) 4294967295)), (11, aU (iOr .u64 (iShl .u64 a0 (IntKind.wrap .u64 x6)) (iShr .u64 a1 (IntKind.wrap .u64 (64 - (IntKind.wrap .u64 x6)))))), (13, aU (iShr .u64 (iShl .u64 a1 (IntKind.wrap .u64 x6)) 32)), (14, aU (iAnd .u64 (iShl .u64 a1 (IntKind.wrap .u64 x6)) 4294967295))] (by kernel_rfl) (sq (rg (sh 2 [(60, aU (iShr .u64 (iShl .u64 a2 (IntKind.wrap .u64 x6)) 32)), (59, aU (iOr .u64 (iShl .u64 a0 (IntKind.wrap .u64 x6)) (iShr .u64 a1 (IntKind.wrap .u64 (64 - (IntKind.wrap .u64 x6))))))] (by kernel_rfl) ?_)))))))))
     obtain ⟨_, h12, hm⟩ := bs hm
     refine dv 61 (v := aU (IntKind.wrap .u64 (Int.tdiv (iOr .u64 (iShl .u64 a0 (IntKind.wrap .u64 x6)) (iShr .u64 a1 (IntKind.wrap .u64 (64 - (IntKind.wrap .u64 x6))))) (iShr .u64 (iShl .u64 a2 (IntKind.wrap .u64 x6)) 32)))) (quoO h12 (by kernel_rfl)) (by kernel_rfl) (sh 1 [(15, aU (IntKind.wrap .u64 (Int.tdiv (iOr .u64 (iShl .u64 a0 (IntKind.wrap .u64 x6)) (iShr .u64 a1 (IntKind.wrap .u64 (64 - (IntKind.wrap .u64 x6))))) (iShr .u64 (iShl .u64 a2 (IntKind.wrap .u64 x6)) 32))))] (by kernel_rfl) (fin [(2, aU (iShl .u64 a2 (IntKind.wrap .u64 x6))), (8, aU (IntKind.wrap .u64 x6)), (9, aU (iShr .u64 (iShl .u64 a2 (IntKind.wrap .u64 x6)) 32)), (10, aU (iAnd .u64 (iShl .u64 a2 (IntKind.wrap .u64 x6)) 4294967295)), (11, aU (iOr .u64 (iShl .u64 a0 (IntKind.wrap .u64 x6)) (iShr .u64 a1 (IntKind.wrap .u64 (64 - (IntKind.wrap .u64 x6)))))), (13, aU (iShr .u64 (iShl .u64 a1 (IntKind.wrap .u64 x6)) 32)), (14, aU (iAnd .u64 (iShl .u64 a1 (IntKind.wrap .u64 x6)) 4294967295)), (15, aU (IntKind.wrap .u64 (Int.tdiv (iOr .u64 (iShl .u64 a0 (IntKind.wrap .u64 x6)) (iShr .u64 a1 (IntKind.wrap .u64 (64 - (IntKind.wrap .u64 x6))))) (iShr .u64 (iShl .u64 a2 (IntKind.wrap .u64 x6)) 32))))] rfl (by kernel_rfl) (sq (detn [(2, aU (iShl .u64 a2 (IntKind.wrap .u64 x6))), (8, aU (IntKind.wrap .u64 x6)), (9, aU (iShr .u64 (iShl .u64 a2 (IntKind.wrap .u64 x6)) 32)), (10, aU (iAnd .u64 (iShl .u64 a2 (IntKind.wrap .u64 x6)) 4294967295)), (11, aU (iOr .u64 (iShl .u64 a0 (IntKind.wrap .u64 x6)) (iShr .u64 a1 (IntKind.wrap .u64 (64 - (IntKind.wrap .u64 x6)))))), (13, aU (iShr .u64 (iShl .u64 a1 (IntKind.wrap .u64 x6)) 32)), (14, aU (iAnd .u64 (iShl .u64 a1 (IntKind.wrap .u64 x6)) 4294967295)), (15, aU (IntKind.wrap .u64 (Int.tdiv (iOr .u64 (iShl .u64 a0 (IntKind.wrap .u64 x6)) (iShr .u64 a1 (IntKind.wrap .u64 (64 - (IntKind.wrap .u64 x6))))) (iShr .u64 (iShl .u64 a2 (IntKind.wrap .u64 x6)) 32)))), (16, aU (IntKind.wrap .u64 ((iOr .u64 (iShl .u64 a0 (IntKind.wrap .u64 x6)) (iShr .u64 a1 (IntKind.wrap .u64 (64 - (IntKind.wrap .u64 x6))))) - (IntKind.wrap .u64 ((IntKind.wrap .u64 (Int.tdiv (iOr .u64 (iShl .u64 a0 (IntKind.wrap .u64 x6)) (iShr .u64 a1 (IntKind.wrap .u64 (64 - (IntKind.wrap .u64 x6))))) (iShr .u64 (iShl .u64 a2 (IntKind.wrap .u64 x6)) 32))) * (iShr .u64 (iShl .u64 a2 (IntKind.wrap .u64 x6)) 32))))))] (by kernel_rfl) ?_))))
     obtain ⟨k17, hk17, hm⟩ := withK_some hm
     refine mid (fun t H => (∃ (y16 : Int) (w13 : AV) (w14 : AV) (w15 : AV), k17 y16 = some r ∧ t = mk 135 [(2, aU (iShl .u64 a2 (IntKind.wrap .u64 x6))), (8, aU (IntKind.wrap .u64 x6)), (9, aU (iShr .u64 (iShl .u64 a2 (IntKind.wrap .u64 x6)) 32)), (10, aU (iAnd .u64 (iShl .u64 a2 (IntKind.wrap .u64 x6)) 4294967295)), (11, aU (iOr .u64 (iShl .u64 a0 (IntKind.wrap .u64 x6)) (iShr .u64 a1 (IntKind.wrap .u64 (64 - (IntKind.wrap .u64 x6)))))), (13, aU (iShr .u64 (iShl .u64 a1 (IntKind.wrap .u64 x6)) 32)), (14, aU (iAnd .u64 (iShl .u64 a1 (IntKind.wrap .u64 x6)) 4294967295)), (15, aU y16), (16, w13), (78, w14), (85, w15)] ∧ H = [])) ?_ ?_
     ·
      rintro _ _ ⟨y16, w13, w14, w15, hm, rfl, rfl⟩
      subst hk17
      refine sq (detn [(2, aU (iShl .u64 a2 (IntKind.wrap .u64 x6))), (8, aU (IntKind.wrap .u64 x6)), (9, aU (iShr .u64 (iShl .u64 a2 (IntKind.wrap .u64 x6)) 32)), (10, aU (iAnd .u64 (iShl .u64 a2 (IntKind.wrap .u64 x6)) 4294967295)), (14, aU (iAnd .u64 (iShl .u64 a1 (IntKind.wrap .u64 x6)) 4294967295)), (15, aU y16), (17, aU (IntKind.wrap .u64 ((IntKind.wrap .u64 ((IntKind.wrap .u64 ((iOr .u64 (iShl .u64 a0 (IntKind.wrap .u64 x6)) (iShr .u64 a1 (IntKind.wrap .u64 (64 - (IntKind.wrap .u64 x6))))) * 4294967296)) + (iShr .u64 (iShl .u64 a1 (IntKind.wrap .u64 x6)) 32))) - (IntKind.wrap .u64 (y16 * (iShl .u64 a2 (IntKind.wrap .u64 x6)))))))] (by kernel_rfl) (sq (rg (sh 2 [(95, aU (iShr .u64 (iShl .u64 a2 (IntKind.wrap .u64 x6)) 32)), (94, aU (IntKind.wrap .u64 ((IntKind.wrap .u64 ((IntKind.wrap .u64 ((iOr .u64 (iShl .u64 a0 (IntKind.wrap .u64 x6)) (iShr .u64 a1 (IntKind.wrap .u64 (64 - (IntKind.wrap .u64 x6))))) * 4294967296)) + (iShr .u64 (iShl .u64 a1 (IntKind.wrap .u64 x6)) 32))) - (IntKind.wrap .u64 (y16 * (iShl .u64 a2 (IntKind.wrap .u64 x6)))))))] (by kernel_rfl) ?_))))
      obtain ⟨_, h18, hm⟩ := bs hm
      refine dv 96 (v := aU (IntKind.wrap .u64 (Int.tdiv (IntKind.wrap .u64 ((IntKind.wrap .u64 ((IntKind.wrap .u64 ((iOr .u64 (iShl .u64 a0 (IntKind.wrap .u64 x6)) (iShr .u64 a1 (IntKind.wrap .u64 (64 - (IntKind.wrap .u64 x6))))) * 4294967296)) + (iShr .u64 (iShl .u64 a1 (IntKind.wrap .u64 x6)) 32))) - (IntKind.wrap .u64 (y16 * (iShl .u64 a2 (IntKind.wrap .u64 x6)))))) (iShr .u64 (iShl .u64 a2 (IntKind.wrap .u64 x6)) 32)))) (quoO h18 (by kernel_rfl)) (by kernel_rfl) (sh 1 [(18, aU (IntKind.wrap .u64 (Int.tdiv (IntKind.wrap .u64 ((IntKind.wrap .u64 ((IntKind.wrap .u64 ((iOr .u64 (iShl .u64 a0 (IntKind.wrap .u64 x6)) (iShr .u64 a1 (IntKind.wrap .u64 (64 - (IntKind.wrap .u64 x6))))) * 4294967296)) + (iShr .u64 (iShl .u64 a1 (IntKind.wrap .u64 x6)) 32))) - (IntKind.wrap .u64 (y16 * (iShl .u64 a2 (IntKind.wrap .u64 x6)))))) (iShr .u64 (iShl .u64 a2 (IntKind.wrap .u64 x6)) 32))))] (by kernel_rfl) (fin [(2, aU (iShl .u64 a2 (IntKind.wrap .u64 x6))), (8, aU (IntKind.wrap .u64 x6)), (9, aU (iShr .u64 (iShl .u64 a2 (IntKind.wrap .u64 x6)) 32)), (10, aU (iAnd .u64 (iShl .u64 a2 (IntKind.wrap .u64 x6)) 4294967295)), (14, aU (iAnd .u64 (iShl .u64 a1 (IntKind.wrap .u64 x6)) 4294967295)), (15, aU y16), (17, aU (IntKind.wrap .u64 ((IntKind.wrap .u64 ((IntKind.wrap .u64 ((iOr .u64 (iShl .u64 a0 (IntKind.wrap .u64 x6)) (iShr .u64 a1 (IntKind.wrap .u64 (64 - (IntKind.wrap .u64 x6))))) * 4294967296)) + (iShr .u64 (iShl .u64 a1 (IntKind.wrap .u64 x6)) 32))) - (IntKind.wrap .u64 (y16 * (iShl .u64 a2 (IntKind.wrap .u64 x6))))))), (18, aU (IntKind.wrap .u64 (Int.tdiv (IntKind.wrap .u64 ((IntKind.wrap .u64 ((IntKind.wrap .u64 ((iOr .u64 (iShl .u64 a0 (IntKind.wrap .u64 x6)) (iShr .u64 a1 (IntKind.wrap .u64 (64 - (IntKind.wrap .u64 x6))))) * 4294967296)) + (iShr .u64 (iShl .u64 a1 (IntKind.wrap .u64 x6)) 32))) - (IntKind.wrap .u64 (y16 * (iShl .u64 a2 (IntKind.wrap .u64 x6)))))) (iShr .u64 (iShl .u64 a2 (IntKind.wrap .u64 x6)) 32))))] rfl (by kernel_rfl) (sq (detn [(2, aU (iShl .u64 a2 (IntKind.wrap .u64 x6))), (8, aU (IntKind.wrap .u64 x6)), (9, aU (iShr .u64 (iShl .u64 a2 (IntKind.wrap .u64 x6)) 32)), (10, aU (iAnd .u64 (iShl .u64 a2 (IntKind.wrap .u64 x6)) 4294967295)), (14, aU (iAnd .u64 (iShl .u64 a1 (IntKind.wrap .u64 x6)) 4294967295)), (15, aU y16), (16, aU (IntKind.wrap .u64 ((IntKind.wrap .u64 ((IntKind.wrap .u64 ((IntKind.wrap .u64 ((iOr .u64 (iShl .u64 a0 (IntKind.wrap .u64 x6)) (iShr .u64 a1 (IntKind.wrap .u64 (64 - (IntKind.wrap .u64 x6))))) * 4294967296)) + (iShr .u64 (iShl .u64 a1 (IntKind.wrap .u64 x6)) 32))) - (IntKind.wrap .u64 (y16 * (iShl .u64 a2 (IntKind.wrap .u64 x6)))))) - (IntKind.wrap .u64 ((IntKind.wrap .u64 (Int.tdiv (IntKind.wrap .u64 ((IntKind.wrap .u64 ((IntKind.wrap .u64 ((iOr .u64 (iShl .u64 a0 (IntKind.wrap .u64 x6)) (iShr .u64 a1 (IntKind.wrap .u64 (64 - (IntKind.wrap .u64 x6))))) * 4294967296)) + (iShr .u64 (iShl .u64 a1 (IntKind.wrap .u64 x6)) 32))) - (IntKind.wrap .u64 (y16 * (iShl .u64 a2 (IntKind.wrap .u64 x6)))))) (iShr .u64 (iShl .u64 a2 (IntKind.wrap .u64 x6)) 32))) * (iShr .u64 (iShl .u64 a2 (IntKind.wrap .u64 x6)) 32)))))), (17, aU (IntKind.wrap .u64 ((IntKind.wrap .u64 ((IntKind.wrap .u64 ((iOr .u64 (iShl .u64 a0 (IntKind.wrap .u64 x6)) (iShr .u64 a1 (IntKind.wrap .u64 (64 - (IntKind.wrap .u64 x6))))) * 4294967296)) + (iShr .u64 (iShl .u64 a1 (IntKind.wrap .u64 x6)) 32))) - (IntKind.wrap .u64 (y16 * (iShl .u64 a2 (IntKind.wrap .u64 x6))))))), (18, aU (IntKind.wrap .u64 (Int.tdiv (IntKind.wrap .u64 ((IntKind.wrap .u64 ((IntKind.wrap .u64 ((iOr .u64 (iShl .u64 a0 (IntKind.wrap .u64 x6)) (iShr .u64 a1 (IntKind.wrap .u64 (64 - (IntKind.wrap .u64 x6))))) * 4294967296)) + (iShr .u64 (iShl .u64 a1 (IntKind.wrap .u64 x6)) 32))) - (IntKind.wrap .u64 (y16 * (iShl .u64 a2 (IntKind.wrap .u64 x6)))))) (iShr .u64 (iShl .u64 a2 (IntKind.wrap .u64 x6)) 32))))] (by kernel_rfl) ?_))))
      obtain ⟨k23, hk23, hm⟩ := withK_some hm
      refine mid (fun t H => (∃ (y22 : Int) (w19 : AV) (w20 : AV) (w21 : AV), k23 y22 = some r ∧ t = mk 135 [(2, aU (iShl .u64 a2 (IntKind.wrap .u64 x6))), (8, aU (IntKind.wrap .u64 x6)), (9, aU (iShr .u64 (iShl .u64 a2 (IntKind.wrap .u64 x6)) 32)), (10, aU (iAnd .u64 (iShl .u64 a2 (IntKind.wrap .u64 x6)) 4294967295)), (14, aU (iAnd .u64 (iShl .u64 a1 (IntKind.wrap .u64 x6)) 4294967295)), (15, aU y16), (16, w19), (17, aU (IntKind.wrap .u64 ((IntKind.wrap .u64 ((IntKind.wrap .u64 ((iOr .u64 (iShl .u64 a0 (IntKind.wrap .u64 x6)) (iShr .u64 a1 (IntKind.wrap .u64 (64 - (IntKind.wrap .u64 x6))))) * 4294967296)) + (iShr .u64 (iShl .u64 a1 (IntKind.wrap .u64 x6)) 32))) - (IntKind.wrap .u64 (y16 * (iShl .u64 a2 (IntKind.wrap .u64 x6))))))), (18, aU y22), (113, w20), (120, w21)] ∧ H = [])) ?_ ?_
      ·
       rintro _ _ ⟨y22, w19, w20, w21, hm, rfl, rfl⟩
       subst hk23
       refine sq (rg (sh 13 [(133, aU (IntKind.wrap .u64 x6)), (132, aU (IntKind.wrap .u64 ((IntKind.wrap .u64 ((IntKind.wrap .u64 ((IntKind.wrap .u64 ((IntKind.wrap .u64 ((IntKind.wrap .u64 ((iOr .u64 (iShl .u64 a0 (IntKind.wrap .u64 x6)) (iShr .u64 a1 (IntKind.wrap .u64 (64 - (IntKind.wrap .u64 x6))))) * 4294967296)) + (iShr .u64 (iShl .u64 a1 (IntKind.wrap .u64 x6)) 32))) - (IntKind.wrap .u64 (y16 * (iShl .u64 a2 (IntKind.wrap .u64 x6)))))) * 4294967296)) + (iAnd .u64 (iShl .u64 a1 (IntKind.wrap .u64 x6)) 4294967295))) - (IntKind.wrap .u64 (y22 * (iShl .u64 a2 (IntKind.wrap .u64 x6))))))), (131, aU (IntKind.wrap .u64 (y22 * (iShl .u64 a2 (IntKind.wrap .u64 x6))))), (130, aU (iShl .u64 a2 (IntKind.wrap .u64 x6))), (129, aU y22), (128, aU (IntKind.wrap .u64 ((IntKind.wrap .u64 ((IntKind.wrap .u64 ((IntKind.wrap .u64 ((IntKind.wrap .u64 ((iOr .u64 (iShl .u64 a0 (IntKind.wrap .u64 x6)) (iShr .u64 a1 (IntKind.wrap .u64 (64 - (IntKind.wrap .u64 x6))))) * 4294967296)) + (iShr .u64 (iShl .u64 a1 (IntKind.wrap .u64 x6)) 32))) - (IntKind.wrap .u64 (y16 * (iShl .u64 a2 (IntKind.wrap .u64 x6)))))) * 4294967296)) + (iAnd .u64 (iShl .u64 a1 (IntKind.wrap .u64 x6)) 4294967295)))), (127, aU (iAnd .u64 (iShl .u64 a1 (IntKind.wrap .u64 x6)) 4294967295)), (126, aU (IntKind.wrap .u64 ((IntKind.wrap .u64 ((IntKind.wrap .u64 ((IntKind.wrap .u64 ((iOr .u64 (iShl .u64 a0 (IntKind.wrap .u64 x6)) (iShr .u64 a1 (IntKind.wrap .u64 (64 - (IntKind.wrap .u64 x6))))) * 4294967296)) + (iShr .u64 (iShl .u64 a1 (IntKind.wrap .u64 x6)) 32))) - (IntKind.wrap .u64 (y16 * (iShl .u64 a2 (IntKind.wrap .u64 x6)))))) * 4294967296))), (125, aU (IntKind.wrap .u64 ((IntKind.wrap .u64 ((IntKind.wrap .u64 ((iOr .u64 (iShl .u64 a0 (IntKind.wrap .u64 x6)) (iShr .u64 a1 (IntKind.wrap .u64 (64 - (IntKind.wrap .u64 x6))))) * 4294967296)) + (iShr .u64 (iShl .u64 a1 (IntKind.wrap .u64 x6)) 32))) - (IntKind.wrap .u64 (y16 * (iShl .u64 a2 (IntKind.wrap .u64 x6))))))), (124, aU (IntKind.wrap .u64 ((IntKind.wrap .u64 (y16 * 4294967296)) + y22))), (123, aU y22), (122, aU (IntKind.wrap .u64 (y16 * 4294967296))), (121, aU y16)] (by kernel_rfl) ?_))
       obtain ⟨_, h24, hm⟩ := bs hm
       refine dv 134 (v := aU (iShr .u64 (IntKind.wrap .u64 ((IntKind.wrap .u64 ((IntKind.wrap .u64 ((IntKind.wrap .u64 ((IntKind.wrap .u64 ((IntKind.wrap .u64 ((iOr .u64 (iShl .u64 a0 (IntKind.wrap .u64 x6)) (iShr .u64 a1 (IntKind.wrap .u64 (64 - (IntKind.wrap .u64 x6))))) * 4294967296)) + (iShr .u64 (iShl .u64 a1 (IntKind.wrap .u64 x6)) 32))) - (IntKind.wrap .u64 (y16 * (iShl .u64 a2 (IntKind.wrap .u64 x6)))))) * 4294967296)) + (iAnd .u64 (iShl .u64 a1 (IntKind.wrap .u64 x6)) 4294967295))) - (IntKind.wrap .u64 (y22 * (iShl .u64 a2 (IntKind.wrap .u64 x6)))))) (IntKind.wrap .u64 x6))) (shrO h24 (by kernel_rfl)) (by kernel_rfl) (sh 2 [(7, aU (iShr .u64 (IntKind.wrap .u64 ((IntKind.wrap .u64 ((IntKind.wrap .u64 ((IntKind.wrap .u64 ((IntKind.wrap .u64 ((IntKind.wrap .u64 ((iOr .u64 (iShl .u64 a0 (IntKind.wrap .u64 x6)) (iShr .u64 a1 (IntKind.wrap .u64 (64 - (IntKind.wrap .u64 x6))))) * 4294967296)) + (iShr .u64 (iShl .u64 a1 (IntKind.wrap .u64 x6)) 32))) - (IntKind.wrap .u64 (y16 * (iShl .u64 a2 (IntKind.wrap .u64 x6)))))) * 4294967296)) + (iAnd .u64 (iShl .u64 a1 (IntKind.wrap .u64 x6)) 4294967295))) - (IntKind.wrap .u64 (y22 * (iShl .u64 a2 (IntKind.wrap .u64 x6)))))) (IntKind.wrap .u64 x6))), (6, aU (IntKind.wrap .u64 ((IntKind.wrap .u64 (y16 * 4294967296)) + y22)))] (by kernel_rfl) (fin [(6, aU (IntKind.wrap .u64 ((IntKind.wrap .u64 (y16 * 4294967296)) + y22))), (7, aU (iShr .u64 (IntKind.wrap .u64 ((IntKind.wrap .u64 ((IntKind.wrap .u64 ((IntKind.wrap .u64 ((IntKind.wrap .u64 ((IntKind.wrap .u64 ((iOr .u64 (iShl .u64 a0 (IntKind.wrap .u64 x6)) (iShr .u64 a1 (IntKind.wrap .u64 (64 - (IntKind.wrap .u64 x6))))) * 4294967296)) + (iShr .u64 (iShl .u64 a1 (IntKind.wrap .u64 x6)) 32))) - (IntKind.wrap .u64 (y16 * (iShl .u64 a2 (IntKind.wrap .u64 x6)))))) * 4294967296)) + (iAnd .u64 (iShl .u64 a1 (IntKind.wrap .u64 x6)) 4294967295))) - (IntKind.wrap .u64 (y22 * (iShl .u64 a2 (IntKind.wrap .u64 x6)))))) (IntKind.wrap .u64 x6)))] rfl (by kernel_rfl) (wp_ret ?_)))
       obtain rfl := Option.some.inj hm
       exact ⟨trivial, by kernel_rfl⟩
      refine bq ?_
      refine loopF (fun mm t H => (∃ (y27 : Int) (y28 : Int), math_bits_Div64_l24 n a1 a2 x6 k23 mm y27 y28 = some r ∧ t = mk 135 [(2, aU (iShl .u64 a2 (IntKind.wrap .u64 x6))), (8, aU (IntKind.wrap .u64 x6)), (9, aU (iShr .u64 (iShl .u64 a2 (IntKind.wrap .u64 x6)) 32)), (10, aU (iAnd .u64 (iShl .u64 a2 (IntKind.wrap .u64 x6)) 4294967295)), (14, aU (iAnd .u64 (iShl .u64 a1 (IntKind.wrap .u64 x6)) 4294967295)), (15, aU y16), (16, aU y27), (17, aU (IntKind.wrap .u64 ((IntKind.wrap .u64 ((IntKind.wrap .u64 ((iOr .u64 (iShl .u64 a0 (IntKind.wrap .u64 x6)) (iShr .u64 a1 (IntKind.wrap .u64 (64 - (IntKind.wrap .u64 x6))))) * 4294967296)) + (iShr .u64 (iShl .u64 a1 (IntKind.wrap .u64 x6)) 32))) - (IntKind.wrap .u64 (y16 * (iShl .u64 a2 (IntKind.wrap .u64 x6))))))), (18, aU y28)] ∧ H = [])) (⟨(IntKind.wrap .u64 ((IntKind.wrap .u64 ((IntKind.wrap .u64 ((IntKind.wrap .u64 ((iOr .u64 (iShl .u64 a0 (IntKind.wrap .u64 x6)) (iShr .u64 a1 (IntKind.wrap .u64 (64 - (IntKind.wrap .u64 x6))))) * 4294967296)) + (iShr .u64 (iShl .u64 a1 (IntKind.wrap .u64 x6)) 32))) - (IntKind.wrap .u64 (y16 * (iShl .u64 a2 (IntKind.wrap .u64 x6)))))) - (IntKind.wrap .u64 ((IntKind.wrap .u64 (Int.tdiv (IntKind.wrap .u64 ((IntKind.wrap .u64 ((IntKind.wrap .u64 ((iOr .u64 (iShl .u64 a0 (IntKind.wrap .u64 x6)) (iShr .u64 a1 (IntKind.wrap .u64 (64 - (IntKind.wrap .u64 x6))))) * 4294967296)) + (iShr .u64 (iShl .u64 a1 (IntKind.wrap .u64 x6)) 32))) - (IntKind.wrap .u64 (y16 * (iShl .u64 a2 (IntKind.wrap .u64 x6)))))) (iShr .u64 (iShl .u64 a2 (IntKind.wrap .u64 x6)) 32))) * (iShr .u64 (iShl .u64 a2 (IntKind.wrap .u64 x6)) 32))))), (IntKind.wrap .u64 (Int.tdiv (IntKind.wrap .u64 ((IntKind.wrap .u64 ((IntKind.wrap .u64 ((iOr .u64 (iShl .u64 a0 (IntKind.wrap .u64 x6)) (iShr .u64 a1 (IntKind.wrap .u64 (64 - (IntKind.wrap .u64 x6))))) * 4294967296)) + (iShr .u64 (iShl .u64 a1 (IntKind.wrap .u64 x6)) 32))) - (IntKind.wrap .u64 (y16 * (iShl .u64 a2 (IntKind.wrap .u64 x6)))))) (iShr .u64 (iShl .u64 a2 (IntKind.wrap .u64 x6)) 32))), hm, rfl, rfl⟩) ?_ ?_
      · rintro _ _ ⟨y27, y28, hm, _⟩; exact nomatch hm
      rintro m29 _ _ ⟨y27, y28, hm, rfl, rfl⟩
      simp only [math_bits_Div64_l24] at hm
      refine sq (sq (rg (sh 3 [(104, aB (decide (y28 ≥ 4294967296))), (103, aB (decide (y28 ≥ 4294967296))), (102, aU y28)] (by kernel_rfl) ?_)))
      refine seg (decide (y28 ≥ 4294967296)) [104, 103] (fun b => [(113, aB (b || (decide ((IntKind.wrap .u64 (y28 * (iAnd .u64 (iShl .u64 a2 (IntKind.wrap .u64 x6)) 4294967295))) > (IntKind.wrap .u64 ((IntKind.wrap .u64 (4294967296 * y27)) + (iAnd .u64 (iShl .u64 a1 (IntKind.wrap .u64 x6)) 4294967295))))))), (112, ifA b (.undef) (aB (decide ((IntKind.wrap .u64 (y28 * (iAnd .u64 (iShl .u64 a2 (IntKind.wrap .u64 x6)) 4294967295))) > (IntKind.wrap .u64 ((IntKind.wrap .u64 (4294967296 * y27)) + (iAnd .u64 (iShl .u64 a1 (IntKind.wrap .u64 x6)) 4294967295))))))), (111, ifA b (.undef) (aU (IntKind.wrap .u64 ((IntKind.wrap .u64 (4294967296 * y27)) + (iAnd .u64 (iShl .u64 a1 (IntKind.wrap .u64 x6)) 4294967295))))), (110, ifA b (.undef) (aU (iAnd .u64 (iShl .u64 a1 (IntKind.wrap .u64 x6)) 4294967295))), (109, ifA b (.undef) (aU (IntKind.wrap .u64 (4294967296 * y27)))), (108, ifA b (.undef) (aU y27)), (107, ifA b (.undef) (aU (IntKind.wrap .u64 (y28 * (iAnd .u64 (iShl .u64 a2 (IntKind.wrap .u64 x6)) 4294967295))))), (106, ifA b (.undef) (aU (iAnd .u64 (iShl .u64 a2 (IntKind.wrap .u64 x6)) 4294967295))), (105, ifA b (.undef) (aU y28))]) 12 (by kernel_rfl) ?_ ?_ ?_
      ·
       intro Q h
       refine sh 9 [(113, aB true), (112, .undef), (111, .undef), (110, .undef), (109, .undef), (108, .undef), (107, .undef), (106, .undef), (105, .undef)] (by kernel_rfl) ?_
       exact sameN (by kernel_rfl) (by kernel_rfl) h
      ·
       intro Q h
       refine sh 9 [(113, aB (decide ((IntKind.wrap .u64 (y28 * (iAnd .u64 (iShl .u64 a2 (IntKind.wrap .u64 x6)) 4294967295))) > (IntKind.wrap .u64 ((IntKind.wrap .u64 (4294967296 * y27)) + (iAnd .u64 (iShl .u64 a1 (IntKind.wrap .u64 x6)) 4294967295)))))), (112, aB (decide ((IntKind.wrap .u64 (y28 * (iAnd .u64 (iShl .u64 a2 (IntKind.wrap .u64 x6)) 4294967295))) > (IntKind.wrap .u64 ((IntKind.wrap .u64 (4294967296 * y27)) + (iAnd .u64 (iShl .u64 a1 (IntKind.wrap .u64 x6)) 4294967295)))))), (111, aU (IntKind.wrap .u64 ((IntKind.wrap .u64 (4294967296 * y27)) + (iAnd .u64 (iShl .u64 a1 (IntKind.wrap .u64 x6)) 4294967295)))), (110, aU (iAnd .u64 (iShl .u64 a1 (IntKind.wrap .u64 x6)) 4294967295)), (109, aU (IntKind.wrap .u64 (4294967296 * y27))), (108, aU y27), (107, aU (IntKind.wrap .u64 (y28 * (iAnd .u64 (iShl .u64 a2 (IntKind.wrap .u64 x6)) 4294967295)))), (106, aU (iAnd .u64 (iShl .u64 a2 (IntKind.wrap .u64 x6)) 4294967295)), (105, aU y28)] (by kernel_rfl) ?_
       exact sameN (by kernel_rfl) (by kernel_rfl) h
      refine fin [(2, aU (iShl .u64 a2 (IntKind.wrap .u64 x6))), (8, aU (IntKind.wrap .u64 x6)), (9, aU (iShr .u64 (iShl .u64 a2 (IntKind.wrap .u64 x6)) 32)), (10, aU (iAnd .u64 (iShl .u64 a2 (IntKind.wrap .u64 x6)) 4294967295)), (14, aU (iAnd .u64 (iShl .u64 a1 (IntKind.wrap .u64 x6)) 4294967295)), (15, aU y16), (16, aU y27), (17, aU (IntKind.wrap .u64 ((IntKind.wrap .u64 ((IntKind.wrap .u64 ((iOr .u64 (iShl .u64 a0 (IntKind.wrap .u64 x6)) (iShr .u64 a1 (IntKind.wrap .u64 (64 - (IntKind.wrap .u64 x6))))) * 4294967296)) + (iShr .u64 (iShl .u64 a1 (IntKind.wrap .u64 x6)) 32))) - (IntKind.wrap .u64 (y16 * (iShl .u64 a2 (IntKind.wrap .u64 x6))))))), (18, aU y28), (113, aB ((decide (y28 ≥ 4294967296)) || (decide ((IntKind.wrap .u64 (y28 * (iAnd .u64 (iShl .u64 a2 (IntKind.wrap .u64 x6)) 4294967295))) > (IntKind.wrap .u64 ((IntKind.wrap .u64 (4294967296 * y27)) + (iAnd .u64 (iShl .u64 a1 (IntKind.wrap .u64 x6)) 4294967295)))))))] rfl (by kernel_rfl) ?_
      rcases bif_some hm with ⟨h30, hm⟩ | ⟨h30, hm⟩
      ·
       refine ct h30 (by kernel_rfl) (wp_skip (bq (sq (detn [(2, aU (iShl .u64 a2 (IntKind.wrap .u64 x6))), (8, aU (IntKind.wrap .u64 x6)), (9, aU (iShr .u64 (iShl .u64 a2 (IntKind.wrap .u64 x6)) 32)), (10, aU (iAnd .u64 (iShl .u64 a2 (IntKind.wrap .u64 x6)) 4294967295)), (14, aU (iAnd .u64 (iShl .u64 a1 (IntKind.wrap .u64 x6)) 4294967295)), (15, aU y16), (16, aU y27), (17, aU (IntKind.wrap .u64 ((IntKind.wrap .u64 ((IntKind.wrap .u64 ((iOr .u64 (iShl .u64 a0 (IntKind.wrap .u64 x6)) (iShr .u64 a1 (IntKind.wrap .u64 (64 - (IntKind.wrap .u64 x6))))) * 4294967296)) + (iShr .u64 (iShl .u64 a1 (IntKind.wrap .u64 x6)) 32))) - (IntKind.wrap .u64 (y16 * (iShl .u64 a2 (IntKind.wrap .u64 x6))))))), (18, aU (IntKind.wrap .u64 (y28 - 1)))] (by kernel_rfl) (sq (detn [(2, aU (iShl .u64 a2 (IntKind.wrap .u64 x6))), (8, aU (IntKind.wrap .u64 x6)), (9, aU (iShr .u64 (iShl .u64 a2 (IntKind.wrap .u64 x6)) 32)), (10, aU (iAnd .u64 (iShl .u64 a2 (IntKind.wrap .u64 x6)) 4294967295)), (14, aU (iAnd .u64 (iShl .u64 a1 (IntKind.wrap .u64 x6)) 4294967295)), (15, aU y16), (16, aU (IntKind.wrap .u64 (y27 + (iShr .u64 (iShl .u64 a2 (IntKind.wrap .u64 x6)) 32)))), (17, aU (IntKind.wrap .u64 ((IntKind.wrap .u64 ((IntKind.wrap .u64 ((iOr .u64 (iShl .u64 a0 (IntKind.wrap .u64 x6)) (iShr .u64 a1 (IntKind.wrap .u64 (64 - (IntKind.wrap .u64 x6))))) * 4294967296)) + (iShr .u64 (iShl .u64 a1 (IntKind.wrap .u64 x6)) 32))) - (IntKind.wrap .u64 (y16 * (iShl .u64 a2 (IntKind.wrap .u64 x6))))))), (18, aU (IntKind.wrap .u64 (y28 - 1)))] (by kernel_rfl) (sq (detn [(2, aU (iShl .u64 a2 (IntKind.wrap .u64 x6))), (8, aU (IntKind.wrap .u64 x6)), (9, aU (iShr .u64 (iShl .u64 a2 (IntKind.wrap .u64 x6)) 32)), (10, aU (iAnd .u64 (iShl .u64 a2 (IntKind.wrap .u64 x6)) 4294967295)), (14, aU (iAnd .u64 (iShl .u64 a1 (IntKind.wrap .u64 x6)) 4294967295)), (15, aU y16), (16, aU (IntKind.wrap .u64 (y27 + (iShr .u64 (iShl .u64 a2 (IntKind.wrap .u64 x6)) 32)))), (17, aU (IntKind.wrap .u64 ((IntKind.wrap .u64 ((IntKind.wrap .u64 ((iOr .u64 (iShl .u64 a0 (IntKind.wrap .u64 x6)) (iShr .u64 a1 (IntKind.wrap .u64 (64 - (IntKind.wrap .u64 x6))))) * 4294967296)) + (iShr .u64 (iShl .u64 a1 (IntKind.wrap .u64 x6)) 32))) - (IntKind.wrap .u64 (y16 * (iShl .u64 a2 (IntKind.wrap .u64 x6))))))), (18, aU (IntKind.wrap .u64 (y28 - 1))), (120, aB (decide ((IntKind.wrap .u64 (y27 + (iShr .u64 (iShl .u64 a2 (IntKind.wrap .u64 x6)) 32))) ≥ 4294967296)))] (by kernel_rfl) ?_))))))))
       rcases bif_some hm with ⟨h31, hm⟩ | ⟨h31, hm⟩
       ·
        refine ct h31 (by kernel_rfl) (wp_exit ?_)
        exact ⟨(IntKind.wrap .u64 (y28 - 1)), aU (IntKind.wrap .u64 (y27 + (iShr .u64 (iShl .u64 a2 (IntKind.wrap .u64 x6)) 32))), .any, aB (decide ((IntKind.wrap .u64 (y27 + (iShr .u64 (iShl .u64 a2 (IntKind.wrap .u64 x6)) 32))) ≥ 4294967296)), hm, (mk_same (by kernel_rfl)), rfl⟩
       ·
        refine cf h31 (by kernel_rfl) (wp_skip ?_)
        exact ⟨_, _, tidyL [(2, aU (iShl .u64 a2 (IntKind.wrap .u64 x6))), (8, aU (IntKind.wrap .u64 x6)), (9, aU (iShr .u64 (iShl .u64 a2 (IntKind.wrap .u64 x6)) 32)), (10, aU (iAnd .u64 (iShl .u64 a2 (IntKind.wrap .u64 x6)) 4294967295)), (14, aU (iAnd .u64 (iShl .u64 a1 (IntKind.wrap .u64 x6)) 4294967295)), (15, aU y16), (16, aU (IntKind.wrap .u64 (y27 + (iShr .u64 (iShl .u64 a2 (IntKind.wrap .u64 x6)) 32)))), (17, aU (IntKind.wrap .u64 ((IntKind.wrap .u64 ((IntKind.wrap .u64 ((iOr .u64 (iShl .u64 a0 (IntKind.wrap .u64 x6)) (iShr .u64 a1 (IntKind.wrap .u64 (64 - (IntKind.wrap .u64 x6))))) * 4294967296)) + (iShr .u64 (iShl .u64 a1 (IntKind.wrap .u64 x6)) 32))) - (IntKind.wrap .u64 (y16 * (iShl .u64 a2 (IntKind.wrap .u64 x6))))))), (18, aU (IntKind.wrap .u64 (y28 - 1)))] [] (by kernel_rfl), ⟨(IntKind.wrap .u64 (y27 + (iShr .u64 (iShl .u64 a2 (IntKind.wrap .u64 x6)) 32))), (IntKind.wrap .u64 (y28 - 1)), hm, rfl, rfl⟩⟩
      ·
       refine cf h30 (by kernel_rfl) (wp_exit ?_)
       exact ⟨y28, aU y27, aB ((decide (y28 ≥ 4294967296)) || (decide ((IntKind.wrap .u64 (y28 * (iAnd .u64 (iShl .u64 a2 (IntKind.wrap .u64 x6)) 4294967295))) > (IntKind.wrap .u64 ((IntKind.wrap .u64 (4294967296 * y27)) + (iAnd .u64 (iShl .u64 a1 (IntKind.wrap .u64 x6)) 4294967295)))))), .any, hm, (mk_same (by kernel_rfl)), rfl⟩
     refine bq ?_
     refine loopF (fun mm t H => (∃ (y34 : Int) (y35 : Int), math_bits_Div64_l17 n a1 a2 x6 k17 mm y34 y35 = some r ∧ t = mk 135 [(2, aU (iShl .u64 a2 (IntKind.wrap .u64 x6))), (8, aU (IntKind.wrap .u64 x6)), (9, aU (iShr .u64 (iShl .u64 a2 (IntKind.wrap .u64 x6)) 32)), (10, aU (iAnd .u64 (iShl .u64 a2 (IntKind.wrap .u64 x6)) 4294967295)), (11, aU (iOr .u64 (iShl .u64 a0 (IntKind.wrap .u64 x6)) (iShr .u64 a1 (IntKind.wrap .u64 (64 - (IntKind.wrap .u64 x6)))))), (13, aU (iShr .u64 (iShl .u64 a1 (IntKind.wrap .u64 x6)) 32)), (14, aU (iAnd .u64 (iShl .u64 a1 (IntKind.wrap .u64 x6)) 4294967295)), (15, aU y34), (16, aU y35)] ∧ H = [])) (⟨(IntKind.wrap .u64 (Int.tdiv (iOr .u64 (iShl .u64 a0 (IntKind.wrap .u64 x6)) (iShr .u64 a1 (IntKind.wrap .u64 (64 - (IntKind.wrap .u64 x6))))) (iShr .u64 (iShl .u64 a2 (IntKind.wrap .u64 x6)) 32))), (IntKind.wrap .u64 ((iOr .u64 (iShl .u64 a0 (IntKind.wrap .u64 x6)) (iShr .u64 a1 (IntKind.wrap .u64 (64 - (IntKind.wrap .u64 x6))))) - (IntKind.wrap .u64 ((IntKind.wrap .u64 (Int.tdiv (iOr .u64 (iShl .u64 a0 (IntKind.wrap .u64 x6)) (iShr .u64 a1 (IntKind.wrap .u64 (64 - (IntKind.wrap .u64 x6))))) (iShr .u64 (iShl .u64 a2 (IntKind.wrap .u64 x6)) 32))) * (iShr .u64 (iShl .u64 a2 (IntKind.wrap .u64 x6)) 32))))), hm, rfl, rfl⟩) ?_ ?_
     · rintro _ _ ⟨y34, y35, hm, _⟩; exact nomatch hm
     rintro m36 _ _ ⟨y34, y35, hm, rfl, rfl⟩
     simp only [math_bits_Div64_l17] at hm
     refine sq (sq (rg (sh 3 [(69, aB (decide (y34 ≥ 4294967296))), (68, aB (decide (y34 ≥ 4294967296))), (67, aU y34)] (by kernel_rfl) ?_)))
     refine seg (decide (y34 ≥ 4294967296)) [69, 68] (fun b => [(78, aB (b || (decide ((IntKind.wrap .u64 (y34 * (iAnd .u64 (iShl .u64 a2 (IntKind.wrap .u64 x6)) 4294967295))) > (IntKind.wrap .u64 ((IntKind.wrap .u64 (4294967296 * y35)) + (iShr .u64 (iShl .u64 a1 (IntKind.wrap .u64 x6)) 32))))))), (77, ifA b (.undef) (aB (decide ((IntKind.wrap .u64 (y34 * (iAnd .u64 (iShl .u64 a2 (IntKind.wrap .u64 x6)) 4294967295))) > (IntKind.wrap .u64 ((IntKind.wrap .u64 (4294967296 * y35)) + (iShr .u64 (iShl .u64 a1 (IntKind.wrap .u64 x6)) 32))))))), (76, ifA b (.undef) (aU (IntKind.wrap .u64 ((IntKind.wrap .u64 (4294967296 * y35)) + (iShr .u64 (iShl .u64 a1 (IntKind.wrap .u64 x6)) 32))))), (75, ifA b (.undef) (aU (iShr .u64 (iShl .u64 a1 (IntKind.wrap .u64 x6)) 32))), (74, ifA b (.undef) (aU (IntKind.wrap .u64 (4294967296 * y35)))), (73, ifA b (.undef) (aU y35)), (72, ifA b (.undef) (aU (IntKind.wrap .u64 (y34 * (iAnd .u64 (iShl .u64 a2 (IntKind.wrap .u64 x6)) 4294967295))))), (71, ifA b (.undef) (aU (iAnd .u64 (iShl .u64 a2 (IntKind.wrap .u64 x6)) 4294967295))), (70, ifA b (.undef) (aU y34))]) 12 (by kernel_rfl) ?_ ?_ ?_
     ·
      intro Q h
      refine sh 9 [(78, aB true), (77, .undef), (76, .undef), (75, .undef), (74, .undef), (73, .undef), (72, .undef), (71, .undef), (70, .undef)] (by kernel_rfl) ?_
      exact sameN (by kernel_rfl) (by kernel_rfl) h
     ·
      intro Q h
      refine sh 9 [(78, aB (decide ((IntKind.wrap .u64 (y34 * (iAnd .u64 (iShl .u64 a2 (IntKind.wrap .u64 x6)) 4294967295))) > (IntKind.wrap .u64 ((IntKind.wrap .u64 (4294967296 * y35)) + (iShr .u64 (iShl .u64 a1 (IntKind.wrap .u64 x6)) 32)))))), (77, aB (decide ((IntKind.wrap .u64 (y34 * (iAnd .u64 (iShl .u64 a2 (IntKind.wrap .u64 x6)) 4294967295))) > (IntKind.wrap .u64 ((IntKind.wrap .u64 (4294967296 * y35)) + (iShr .u64 (iShl .u64 a1 (IntKind.wrap .u64 x6)) 32)))))), (76, aU (IntKind.wrap .u64 ((IntKind.wrap .u64 (4294967296 * y35)) + (iShr .u64 (iShl .u64 a1 (IntKind.wrap .u64 x6)) 32)))), (75, aU (iShr .u64 (iShl .u64 a1 (IntKind.wrap .u64 x6)) 32)), (74, aU (IntKind.wrap .u64 (4294967296 * y35))), (73, aU y35), (72, aU (IntKind.wrap .u64 (y34 * (iAnd .u64 (iShl .u64 a2 (IntKind.wrap .u64 x6)) 4294967295)))), (71, aU (iAnd .u64 (iShl .u64 a2 (IntKind.wrap .u64 x6)) 4294967295)), (70, aU y34)] (by kernel_rfl) ?_
      exact sameN (by kernel_rfl) (by kernel_rfl) h
     refine fin [(2, aU (iShl .u64 a2 (IntKind.wrap .u64 x6))), (8, aU (IntKind.wrap .u64 x6)), (9, aU (iShr .u64 (iShl .u64 a2 (IntKind.wrap .u64 x6)) 32)), (10, aU (iAnd .u64 (iShl .u64 a2 (IntKind.wrap .u64 x6)) 4294967295)), (11, aU (iOr .u64 (iShl .u64 a0 (IntKind.wrap .u64 x6)) (iShr .u64 a1 (IntKind.wrap .u64 (64 - (IntKind.wrap .u64 x6)))))), (13, aU (iShr .u64 (iShl .u64 a1 (IntKind.wrap .u64 x6)) 32)), (14, aU (iAnd .u64 (iShl .u64 a1 (IntKind.wrap .u64 x6)) 4294967295)), (15, aU y34), (16, aU y35), (78, aB ((decide (y34 ≥ 4294967296)) || (decide ((IntKind.wrap .u64 (y34 * (iAnd .u64 (iShl .u64 a2 (IntKind.wrap .u64 x6)) 4294967295))) > (IntKind.wrap .u64 ((IntKind.wrap .u64 (4294967296 * y35)) + (iShr .u64 (iShl .u64 a1 (IntKind.wrap .u64 x6)) 32)))))))] rfl (by kernel_rfl) ?_
     rcases bif_some hm with ⟨h37, hm⟩ | ⟨h37, hm⟩
     ·
      refine ct h37 (by kernel_rfl) (wp_skip (bq (sq (detn [(2, aU (iShl .u64 a2 (IntKind.wrap .u64 x6))), (8, aU (IntKind.wrap .u64 x6)), (9, aU (iShr .u64 (iShl .u64 a2 (IntKind.wrap .u64 x6)) 32)), (10, aU (iAnd .u64 (iShl .u64 a2 (IntKind.wrap .u64 x6)) 4294967295)), (11, aU (iOr .u64 (iShl .u64 a0 (IntKind.wrap .u64 x6)) (iShr .u64 a1 (IntKind.wrap .u64 (64 - (IntKind.wrap .u64 x6)))))), (13, aU (iShr .u64 (iShl .u64 a1 (IntKind.wrap .u64 x6)) 32)), (14, aU (iAnd .u64 (iShl .u64 a1 (IntKind.wrap .u64 x6)) 4294967295)), (15, aU (IntKind.wrap .u64 (y34 - 1))), (16, aU y35)] (by kernel_rfl) (sq (detn [(2, aU (iShl .u64 a2 (IntKind.wrap .u64 x6))), (8, aU (IntKind.wrap .u64 x6)), (9, aU (iShr .u64 (iShl .u64 a2 (IntKind.wrap .u64 x6)) 32)), (10, aU (iAnd .u64 (iShl .u64 a2 (IntKind.wrap .u64 x6)) 4294967295)), (11, aU (iOr .u64 (iShl .u64 a0 (IntKind.wrap .u64 x6)) (iShr .u64 a1 (IntKind.wrap .u64 (64 - (IntKind.wrap .u64 x6)))))), (13, aU (iShr .u64 (iShl .u64 a1 (IntKind.wrap .u64 x6)) 32)), (14, aU (iAnd .u64 (iShl .u64 a1 (IntKind.wrap .u64 x6)) 4294967295)), (15, aU (IntKind.wrap .u64 (y34 - 1))), (16, aU (IntKind.wrap .u64 (y35 + (iShr .u64 (iShl .u64 a2 (IntKind.wrap .u64 x6)) 32))))] (by kernel_rfl) (sq (detn [(2, aU (iShl .u64 a2 (IntKind.wrap .u64 x6))), (8, aU (IntKind.wrap .u64 x6)), (9, aU (iShr .u64 (iShl .u64 a2 (IntKind.wrap .u64 x6)) 32)), (10, aU (iAnd .u64 (iShl .u64 a2 (IntKind.wrap .u64 x6)) 4294967295)), (11, aU (iOr .u64 (iShl .u64 a0 (IntKind.wrap .u64 x6)) (iShr .u64 a1 (IntKind.wrap .u64 (64 - (IntKind.wrap .u64 x6)))))), (13, aU (iShr .u64 (iShl .u64 a1 (IntKind.wrap .u64 x6)) 32)), (14, aU (iAnd .u64 (iShl .u64 a1 (IntKind.wrap .u64 x6)) 4294967295)), (15, aU (IntKind.wrap .u64 (y34 - 1))), (16, aU (IntKind.wrap .u64 (y35 + (iShr .u64 (iShl .u64 a2 (IntKind.wrap .u64 x6)) 32)))), (85, aB (decide ((IntKind.wrap .u64 (y35 + (iShr .u64 (iShl .u64 a2 (IntKind.wrap .u64 x6)) 32))) ≥ 4294967296)))] (by kernel_rfl) ?_))))))))
      rcases bif_some hm with ⟨h38, hm⟩ | ⟨h38, hm⟩
      ·
       refine ct h38 (by kernel_rfl) (wp_exit ?_)
       exact ⟨(IntKind.wrap .u64 (y34 - 1)), aU (IntKind.wrap .u64 (y35 + (iShr .u64 (iShl .u64 a2 (IntKind.wrap .u64 x6)) 32))), .any, aB (decide ((IntKind.wrap .u64 (y35 + (iShr .u64 (iShl .u64 a2 (IntKind.wrap .u64 x6)) 32))) ≥ 4294967296)), hm, (mk_same (by kernel_rfl)), rfl⟩
      ·
       refine cf h38 (by kernel_rfl) (wp_skip ?_)
       exact ⟨_, _, tidyL [(2, aU (iShl .u64 a2 (IntKind.wrap .u64 x6))), (8, aU (IntKind.wrap .u64 x6)), (9, aU (iShr .u64 (iShl .u64 a2 (IntKind.wrap .u64 x6)) 32)), (10, aU (iAnd .u64 (iShl .u64 a2 (IntKind.wrap .u64 x6)) 4294967295)), (11, aU (iOr .u64 (iShl .u64 a0 (IntKind.wrap .u64 x6)) (iShr .u64 a1 (IntKind.wrap .u64 (64 - (IntKind.wrap .u64 x6)))))), (13, aU (iShr .u64 (iShl .u64 a1 (IntKind.wrap .u64 x6)) 32)), (14, aU (iAnd .u64 (iShl .u64 a1 (IntKind.wrap .u64 x6)) 4294967295)), (15, aU (IntKind.wrap .u64 (y34 - 1))), (16, aU (IntKind.wrap .u64 (y35 + (iShr .u64 (iShl .u64 a2 (IntKind.wrap .u64 x6)) 32))))] [] (by kernel_rfl), ⟨(IntKind.wrap .u64 (y34 - 1)), (IntKind.wrap .u64 (y35 + (iShr .u64 (iShl .u64 a2 (IntKind.wrap .u64 x6)) 32))), hm, rfl, rfl⟩⟩
     ·
      refine cf h37 (by kernel_rfl) (wp_exit ?_)
      exact ⟨y34, aU y35, aB ((decide (y34 ≥ 4294967296)) || (decide ((IntKind.wrap .u64 (y34 * (iAnd .u64 (iShl .u64 a2 (IntKind.wrap .u64 x6)) 4294967295))) > (IntKind.wrap .u64 ((IntKind.wrap .u64 (4294967296 * y35)) + (iShr .u64 (iShl .u64 a1 (IntKind.wrap .u64 x6)) 32)))))), .any, hm, (mk_same (by kernel_rfl)), rfl⟩
theorem ok_hist_share {n : Nat} {a0 : hist_Bucket} {a1 : api_Value} {r : Int} (hm : hist_share n a0 a1 = some r) :
    call G n 105 [.agg [aI a0.fLow.fKind, aI a0.fLow.fInt, aF a0.fLow.fFloat, aS a0.fLow.fText, aI a0.fHigh.fKind, aI a0.fHigh.fInt, aF a0.fHigh.fFloat, aS a0.fHigh.fText, aI a0.fCount, aI a0.fDistinct], .agg [aI a1.fKind, aI a1.fInt, aF a1.fFloat, aS a1.fText]] [] = some (.ret (aI r), []) := by
  unfold hist_share at hm
  obtain ⟨n, rfl, h0⟩ := at1_some hm
  replace hm := h0; clear h0
  refine callL 47 [(0, .agg [aI a0.fLow.fKind, aI a0.fLow.fInt, aF a0.fLow.fFloat, aS a0.fLow.fText, aI a0.fHigh.fKind, aI a0.fHigh.fInt, aF a0.fHigh.fFloat, aS a0.fHigh.fText, aI a0.fCount, aI a0.fDistinct]), (1, .agg [aI a1.fKind, aI a1.fInt, aF a1.fFloat, aS a1.fText])] func105 rfl (by kernel_rfl) (sq (det [(2, .ptr 0 0), (3, .ptr 1 0)] [.box [aI a0.fLow.fKind, aI a0.fLow.fInt, aF a0.fLow.fFloat, aS a0.fLow.fText, aI a0.fHigh.fKind, aI a0.fHigh.fInt, aF a0.fHigh.fFloat, aS a0.fHigh.fText, aI a0.fCount, aI a0.fDistinct] false, .box [aI a1.fKind, aI a1.fInt, aF a1.fFloat, aS a1.fText] false] (by kernel_rfl) ?_))
  refine sq (sq (detn [(2, .ptr 0 0), (3, .ptr 1 0), (11, aB (a1.fKind != 2))] (by kernel_rfl) ?_))
  rcases bif_some hm with ⟨h1, hm⟩ | ⟨h1, hm⟩
  ·
   refine ct h1 (by kernel_rfl) (sq (detn [(4, aI (IntKind.wrap .i64 (Int.tdiv a0.fCount 2)))] (by kernel_rfl) (wp_ret ?_)))
   obtain rfl := Option.some.inj hm
   exact ⟨trivial, by kernel_rfl⟩
  ·
   refine cf h1 (by kernel_rfl) (wp_skip (sq (rg (sh 11 [(26, aU (IntKind.wrap .u64 ((IntKind.wrap .u64 a1.fInt) - (IntKind.wrap .u64 a0.fLow.fInt)))), (25, aU (IntKind.wrap .u64 a0.fLow.fInt)), (24, aI a0.fLow.fInt), (23, .ptr 0 1), (22, .ptr 0 0), (21, aU (IntKind.wrap .u64 a1.fInt)), (20, aI a1.fInt), (19, .ptr 1 1), (18, aU (IntKind.wrap .u64 a0.fCount)), (17, aI a0.fCount), (16, .ptr 0 8)] (by kernel_rfl) ?_))))
   obtain ⟨x2, h3, hm⟩ := bs hm
   refine dv 27 (cpure (by kernel_rfl) (ok_math_bits_Mul64 h3) (by kernel_rfl) (by kernel_rfl) (by kernel_rfl)) (by kernel_rfl) (sh 5 [(6, aU x2.2), (5, aU x2.1), (29, aU x2.2), (28, aU x2.1), (15, .tup [aU x2.1, aU x2.2])] (by kernel_rfl) (fin [(2, .ptr 0 0), (5, aU x2.1), (6, aU x2.2)] rfl (by kernel_rfl) (sq (rg (sh 11 [(41, aU (IntKind.wrap .u64 ((IntKind.wrap .u64 a0.fHigh.fInt) - (IntKind.wrap .u64 a0.fLow.fInt)))), (40, aU (IntKind.wrap .u64 a0.fLow.fInt)), (39, aI a0.fLow.fInt), (38, .ptr 0 1), (37, .ptr 0 0), (36, aU (IntKind.wrap .u64 a0.fHigh.fInt)), (35, aI a0.fHigh.fInt), (34, .ptr 0 5), (33, .ptr 0 4), (32, aU x2.2), (31, aU x2.1)] (by kernel_rfl) ?_)))))
   obtain ⟨x4, h5, hm⟩ := bs hm
   refine dv 42 (cpure (by kernel_rfl) (ok_math_bits_Div64 h5) (by kernel_rfl) (by kernel_rfl) (by kernel_rfl)) (by kernel_rfl) (sh 5 [(8, aU x4.2), (7, aU x4.1), (44, aU x4.2), (43, aU x4.1), (30, .tup [aU x4.1, aU x4.2])] (by kernel_rfl) (fin [(7, aU x4.1)] rfl (by kernel_rfl) (sq (detn [(4, aI (IntKind.wrap .i64 x4.1))] (by kernel_rfl) (wp_ret ?_)))))
   obtain rfl := Option.some.inj hm
   exact ⟨trivial, by kernel_rfl⟩
theorem ok_hist_within {n : Nat} {a0 : hist_Bucket} {a1 : api_Value} {r : Int} (hm : hist_within n a0 a1 = some r) :
    call G n 74 [.agg [aI a0.fLow.fKind, aI a0.fLow.fInt, aF a0.fLow.fFloat, aS a0.fLow.fText, aI a0.fHigh.fKind, aI a0.fHigh.fInt, aF a0.fHigh.fFloat, aS a0.fHigh.fText, aI a0.fCount, aI a0.fDistinct], .agg [aI a1.fKind, aI a1.fInt, aF a1.fFloat, aS a1.fText]] [] = some (.ret (aI r), []) := by
  unfold hist_within at hm
  obtain ⟨n, rfl, h0⟩ := at1_some hm
  replace hm := h0; clear h0
  refine callL 17 [(0, .agg [aI a0.fLow.fKind, aI a0.fLow.fInt, aF a0.fLow.fFloat, aS a0.fLow.fText, aI a0.fHigh.fKind, aI a0.fHigh.fInt, aF a0.fHigh.fFloat, aS a0.fHigh.fText, aI a0.fCount, aI a0.fDistinct]), (1, .agg [aI a1.fKind, aI a1.fInt, aF a1.fFloat, aS a1.fText])] func74 rfl (by kernel_rfl) (sq (det [(2, .ptr 0 0), (3, .ptr 1 0)] [.box [aI a0.fLow.fKind, aI a0.fLow.fInt, aF a0.fLow.fFloat, aS a0.fLow.fText, aI a0.fHigh.fKind, aI a0.fHigh.fInt, aF a0.fHigh.fFloat, aS a0.fHigh.fText, aI a0.fCount, aI a0.fDistinct] false, .box [aI a1.fKind, aI a1.fInt, aF a1.fFloat, aS a1.fText] false] (by kernel_rfl) (sq (rgd (shd 2 [(6, .agg [aI a1.fKind, aI a1.fInt, aF a1.fFloat, aS a1.fText]), (5, .agg [aI a0.fLow.fKind, aI a0.fLow.fInt, aF a0.fLow.fFloat, aS a0.fLow.fText, aI a0.fHigh.fKind, aI a0.fHigh.fInt, aF a0.fHigh.fFloat, aS a0.fHigh.fText, aI a0.fCount, aI a0.fDistinct])] (by kernel_rfl) ?_)))))
  obtain ⟨x1, h2, hm⟩ := bs hm
  refine dvd 7 (cpure (by kernel_rfl) (ok_hist_share h2) (by kernel_rfl) (by kernel_rfl) (by kernel_rfl)) (by kernel_rfl) (shd 1 [(8, .agg [aI a0.fLow.fKind, aI a0.fLow.fInt, aF a0.fLow.fFloat, aS a0.fLow.fText, aI a0.fHigh.fKind, aI a0.fHigh.fInt, aF a0.fHigh.fFloat, aS a0.fHigh.fText, aI a0.fCount, aI a0.fDistinct])] (by kernel_rfl) ?_)
  obtain ⟨x3, h4, hm⟩ := bs hm
  refine dvd 9 (cpure (by kernel_rfl) (ok_hist_each h4) (by kernel_rfl) (by kernel_rfl) (by kernel_rfl)) (by kernel_rfl) (shd 4 [(13, .agg [aI a0.fLow.fKind, aI a0.fLow.fInt, aF a0.fLow.fFloat, aS a0.fLow.fText, aI a0.fHigh.fKind, aI a0.fHigh.fInt, aF a0.fHigh.fFloat, aS a0.fHigh.fText, aI a0.fCount, aI a0.fDistinct]), (12, aI a0.fCount), (11, .ptr 0 8), (10, aI (if x3 > x1 then x3 else x1))] (by kernel_rfl) ?_)
  obtain ⟨x5, h6, hm⟩ := bs hm
  refine dvd 14 (cpure (by kernel_rfl) (ok_hist_each h6) (by kernel_rfl) (by kernel_rfl) (by kernel_rfl)) (by kernel_rfl) (shd 3 [(4, aI (if (IntKind.wrap .i64 (a0.fCount - x5)) < (if x3 > x1 then x3 else x1) then (IntKind.wrap .i64 (a0.fCount - x5)) else (if x3 > x1 then x3 else x1))), (16, aI (if (IntKind.wrap .i64 (a0.fCount - x5)) < (if x3 > x1 then x3 else x1) then (IntKind.wrap .i64 (a0.fCount - x5)) else (if x3 > x1 then x3 else x1))), (15, aI (IntKind.wrap .i64 (a0.fCount - x5)))] (by kernel_rfl) (find [(4, aI (if (IntKind.wrap .i64 (a0.fCount - x5)) < (if x3 > x1 then x3 else x1) then (IntKind.wrap .i64 (a0.fCount - x5)) else (if x3 > x1 then x3 else x1)))] rfl (by kernel_rfl) (by kernel_rfl) (wp_ret ?_)))
  obtain rfl := Option.some.inj hm
  exact ⟨trivial, by kernel_rfl⟩
theorem ok_hist_Below {n : Nat} {a0 : (Option (List hist_Bucket))} {a1 : api_Value} {a2 : Bool} {r : Int} (hm : hist_Below n a0 a1 a2 = some r) :
    call G n 38 [.pv (encSl R_hist_Bucket a0), .agg [aI a1.fKind, aI a1.fInt, aF a1.fFloat, aS a1.fText], aB a2] [] = some (.ret (aI r), []) := by
  unfold hist_Below at hm
  obtain ⟨n, rfl, h0⟩ := at1_some hm
  replace hm := h0; clear h0
  refine callL 72 [(0, .pv (encSl R_hist_Bucket a0)), (1, .agg [aI a1.fKind, aI a1.fInt, aF a1.fFloat, aS a1.fText]), (2, aB a2)] func38 rfl (by kernel_rfl) (sq (det [(0, .pv (encSl R_hist_Bucket a0)), (2, aB a2), (4, .ptr 0 0)] [.box [aI a1.fKind, aI a1.fInt, aF a1.fFloat, aS a1.fText] false] (by kernel_rfl) (sq (rg (sh 2 [(13, .agg [aI a1.fKind, aI a1.fInt, aF a1.fFloat, aS a1.fText]), (12, .pv (encSl R_hist_Bucket a0))] (by kernel_rfl) ?_)))))
  obtain ⟨x1, h2, hm⟩ := bs hm
  refine dv 14 (cpure (by kernel_rfl) (ok_hist_find h2) (by kernel_rfl) (by kernel_rfl) (by kernel_rfl)) (by kernel_rfl) (sh 7 [(9, aB x1.2.2), (8, aI x1.2.1), (7, aI x1.1), (17, aB x1.2.2), (16, aI x1.2.1), (15, aI x1.1), (11, .tup [aI x1.1, aI x1.2.1, aB x1.2.2])] (by kernel_rfl) (fin [(0, .pv (encSl R_hist_Bucket a0)), (2, aB a2), (4, .ptr 0 0), (7, aI x1.1), (8, aI x1.2.1), (9, aB x1.2.2)] rfl (by kernel_rfl) ?_))
  refine sq (sq (detn [(0, .pv (encSl R_hist_Bucket a0)), (2, aB a2), (4, .ptr 0 0), (7, aI x1.1), (8, aI x1.2.1), (19, aB (!x1.2.2))] (by kernel_rfl) ?_))
  rcases bif_some hm with ⟨h3, hm⟩ | ⟨h3, hm⟩
  ·
   refine ct h3 (by kernel_rfl) (sq (detn [(6, aI x1.2.1)] (by kernel_rfl) (wp_ret ?_)))
   obtain rfl := Option.some.inj hm
   exact ⟨trivial, by kernel_rfl⟩
  ·
   refine cf h3 (by kernel_rfl) (wp_skip (sq (rg (sh 2 [(22, aI x1.1), (21, .pv (encSl R_hist_Bucket a0))] (by kernel_rfl) ?_))))
   obtain ⟨x4, h5, hm⟩ := bs hm
   refine dv 23 (v := .pv (.ptr (R_hist_Bucket x4) 0)) (ia_slO R_hist_Bucket a0 .i64 t53 t77 h5 rfl (by kernel_rfl)) (by kernel_rfl) (st 3 [(10, .ptr 1 0), (24, .agg [aI x4.fLow.fKind, aI x4.fLow.fInt, aF x4.fLow.fFloat, aS x4.fLow.fText, aI x4.fHigh.fKind, aI x4.fHigh.fInt, aF x4.fHigh.fFloat, aS x4.fHigh.fText, aI x4.fCount, aI x4.fDistinct])] [.box [aI a1.fKind, aI a1.fInt, aF a1.fFloat, aS a1.fText] false, .box [aI x4.fLow.fKind, aI x4.fLow.fInt, aF x4.fLow.fFloat, aS x4.fLow.fText, aI x4.fHigh.fKind, aI x4.fHigh.fInt, aF x4.fHigh.fFloat, aS x4.fHigh.fText, aI x4.fCount, aI x4.fDistinct] false] (by kernel_rfl) (fin [(2, aB a2), (4, .ptr 0 0), (8, aI x1.2.1), (10, .ptr 1 0)] rfl (by kernel_rfl) (sq (bq ?_))))
   refine sq (rg (sh 3 [(28, .agg [aI x4.fHigh.fKind, aI x4.fHigh.fInt, aF x4.fHigh.fFloat, aS x4.fHigh.fText]), (27, .ptr 1 4), (26, .agg [aI a1.fKind, aI a1.fInt, aF a1.fFloat, aS a1.fText])] (by kernel_rfl) ?_))
   obtain ⟨x6, h7, hm⟩ := bs hm
   refine dv 29 (cpure (by kernel_rfl) (ok_value_Same h7) (by kernel_rfl) (by kernel_rfl) (by kernel_rfl)) (by kernel_rfl) (sh 1 [(30, aB x6)] (by kernel_rfl) ?_)
   refine seg x6 [30, 29] (fun b => [(32, aB (b && a2)), (31, ifA b (aB a2) (.undef))]) 7 (by kernel_rfl) ?_ ?_ ?_
   ·
    intro Q h
    refine sh 2 [(32, aB a2), (31, aB a2)] (by kernel_rfl) ?_
    exact sameN (by kernel_rfl) (by kernel_rfl) h
   ·
    intro Q h
    refine sh 2 [(32, aB false), (31, .undef)] (by kernel_rfl) ?_
    exact sameN (by kernel_rfl) (by kernel_rfl) h
   refine sh 1 [(25, aB (x6 && a2))] (by kernel_rfl) (fin [(2, aB a2), (4, .ptr 0 0), (8, aI x1.2.1), (10, .ptr 1 0), (25, aB (x6 && a2))] rfl (by kernel_rfl) ?_)
   rcases bif_some hm with ⟨h8, hm⟩ | ⟨h8, hm⟩
   ·
    refine ct h8 (by kernel_rfl) (sq (detn [(6, aI (IntKind.wrap .i64 (x1.2.1 + x4.fCount)))] (by kernel_rfl) (wp_ret ?_)))
    obtain rfl := Option.some.inj hm
    exact ⟨trivial, by kernel_rfl⟩
   ·
    refine cf h8 (by kernel_rfl) (sq (rg (sh 3 [(40, .agg [aI x4.fHigh.fKind, aI x4.fHigh.fInt, aF x4.fHigh.fFloat, aS x4.fHigh.fText]), (39, .ptr 1 4), (38, .agg [aI a1.fKind, aI a1.fInt, aF a1.fFloat, aS a1.fText])] (by kernel_rfl) ?_)))
    obtain ⟨x9, h10, hm⟩ := bs hm
    refine dv 41 (cpure (by kernel_rfl) (ok_value_Same h10) (by kernel_rfl) (by kernel_rfl) (by kernel_rfl)) (by kernel_rfl) (sh 1 [(37, aB x9)] (by kernel_rfl) (fin [(2, aB a2), (4, .ptr 0 0), (8, aI x1.2.1), (10, .ptr 1 0), (37, aB x9)] rfl (by kernel_rfl) ?_))
    rcases bif_some hm with ⟨h11, hm⟩ | ⟨h11, hm⟩
    ·
     refine ct h11 (by kernel_rfl) (sq (rgd (shd 5 [(46, .agg [aI x4.fLow.fKind, aI x4.fLow.fInt, aF x4.fLow.fFloat, aS x4.fLow.fText, aI x4.fHigh.fKind, aI x4.fHigh.fInt, aF x4.fHigh.fFloat, aS x4.fHigh.fText, aI x4.fCount, aI x4.fDistinct]), (45, aI (IntKind.wrap .i64 (x1.2.1 + x4.fCount))), (44, aI x4.fCount), (43, .ptr 1 8), (42, aI x1.2.1)] (by kernel_rfl) ?_)))
     obtain ⟨x12, h13, hm⟩ := bs hm
     refine dvd 47 (cpure (by kernel_rfl) (ok_hist_each h13) (by kernel_rfl) (by kernel_rfl) (by kernel_rfl)) (by kernel_rfl) (shd 2 [(6, aI (IntKind.wrap .i64 ((IntKind.wrap .i64 (x1.2.1 + x4.fCount)) - x12))), (48, aI (IntKind.wrap .i64 ((IntKind.wrap .i64 (x1.2.1 + x4.fCount)) - x12)))] (by kernel_rfl) (find [(6, aI (IntKind.wrap .i64 ((IntKind.wrap .i64 (x1.2.1 + x4.fCount)) - x12)))] rfl (by kernel_rfl) (by kernel_rfl) (wp_ret ?_)))
     obtain rfl := Option.some.inj hm
     exact ⟨trivial, by kernel_rfl⟩
    ·
     refine cf h11 (by kernel_rfl) ?_
     refine sq (rg (sh 3 [(52, .agg [aI x4.fLow.fKind, aI x4.fLow.fInt, aF x4.fLow.fFloat, aS x4.fLow.fText]), (51, .ptr 1 0), (50, .agg [aI a1.fKind, aI a1.fInt, aF a1.fFloat, aS a1.fText])] (by kernel_rfl) ?_))
     obtain ⟨x14, h15, hm⟩ := bs hm
     refine dv 53 (cpure (by kernel_rfl) (ok_value_Same h15) (by kernel_rfl) (by kernel_rfl) (by kernel_rfl)) (by kernel_rfl) (sh 1 [(54, aB x14)] (by kernel_rfl) ?_)
     refine seg x14 [54, 53] (fun b => [(56, aB (b && a2)), (55, ifA b (aB a2) (.undef))]) 7 (by kernel_rfl) ?_ ?_ ?_
     ·
      intro Q h
      refine sh 2 [(56, aB a2), (55, aB a2)] (by kernel_rfl) ?_
      exact sameN (by kernel_rfl) (by kernel_rfl) h
     ·
      intro Q h
      refine sh 2 [(56, aB false), (55, .undef)] (by kernel_rfl) ?_
      exact sameN (by kernel_rfl) (by kernel_rfl) h
     refine sh 1 [(49, aB (x14 && a2))] (by kernel_rfl) (fin [(4, .ptr 0 0), (8, aI x1.2.1), (10, .ptr 1 0), (49, aB (x14 && a2))] rfl (by kernel_rfl) ?_)
     rcases bif_some hm with ⟨h16, hm⟩ | ⟨h16, hm⟩
     ·
      refine ct h16 (by kernel_rfl) (sq (rg (sh 2 [(58, .agg [aI x4.fLow.fKind, aI x4.fLow.fInt, aF x4.fLow.fFloat, aS x4.fLow.fText, aI x4.fHigh.fKind, aI x4.fHigh.fInt, aF x4.fHigh.fFloat, aS x4.fHigh.fText, aI x4.fCount, aI x4.fDistinct]), (57, aI x1.2.1)] (by kernel_rfl) ?_)))
      obtain ⟨x17, h18, hm⟩ := bs hm
      refine dv 59 (cpure (by kernel_rfl) (ok_hist_each h18) (by kernel_rfl) (by kernel_rfl) (by kernel_rfl)) (by kernel_rfl) (sh 2 [(6, aI (IntKind.wrap .i64 (x1.2.1 + x17))), (60, aI (IntKind.wrap .i64 (x1.2.1 + x17)))] (by kernel_rfl) (fin [(6, aI (IntKind.wrap .i64 (x1.2.1 + x17)))] rfl (by kernel_rfl) (wp_ret ?_)))
      obtain rfl := Option.some.inj hm
      exact ⟨trivial, by kernel_rfl⟩
     ·
      refine cf h16 (by kernel_rfl) (sq (rg (sh 3 [(64, .agg [aI x4.fLow.fKind, aI x4.fLow.fInt, aF x4.fLow.fFloat, aS x4.fLow.fText]), (63, .ptr 1 0), (62, .agg [aI a1.fKind, aI a1.fInt, aF a1.fFloat, aS a1.fText])] (by kernel_rfl) ?_)))
      obtain ⟨x19, h20, hm⟩ := bs hm
      refine dv 65 (cpure (by kernel_rfl) (ok_value_Same h20) (by kernel_rfl) (by kernel_rfl) (by kernel_rfl)) (by kernel_rfl) (sh 1 [(61, aB x19)] (by kernel_rfl) (fin [(4, .ptr 0 0), (8, aI x1.2.1), (10, .ptr 1 0), (61, aB x19)] rfl (by kernel_rfl) ?_))
      rcases bif_some hm with ⟨h21, hm⟩ | ⟨h21, hm⟩
      ·
       refine ct h21 (by kernel_rfl) (sq (detn [(6, aI x1.2.1)] (by kernel_rfl) (wp_ret ?_)))
       obtain rfl := Option.some.inj hm
       exact ⟨trivial, by kernel_rfl⟩
      ·
       refine cf h21 (by kernel_rfl) (wp_skip (sq (rg (sh 3 [(69, .agg [aI a1.fKind, aI a1.fInt, aF a1.fFloat, aS a1.fText]), (68, .agg [aI x4.fLow.fKind, aI x4.fLow.fInt, aF x4.fLow.fFloat, aS x4.fLow.fText, aI x4.fHigh.fKind, aI x4.fHigh.fInt, aF x4.fHigh.fFloat, aS x4.fHigh.fText, aI x4.fCount, aI x4.fDistinct]), (67, aI x1.2.1)] (by kernel_rfl) ?_))))
       obtain ⟨x22, h23, hm⟩ := bs hm
       refine dv 70 (cpure (by kernel_rfl) (ok_hist_within h23) (by kernel_rfl) (by kernel_rfl) (by kernel_rfl)) (by kernel_rfl) (sh 2 [(6, aI (IntKind.wrap .i64 (x1.2.1 + x22))), (71, aI (IntKind.wrap .i64 (x1.2.1 + x22)))] (by kernel_rfl) (fin [(6, aI (IntKind.wrap .i64 (x1.2.1 + x22)))] rfl (by kernel_rfl) (wp_ret ?_)))
       obtain rfl := Option.some.inj hm
       exact ⟨trivial, by kernel_rfl⟩
theorem ok_hist_Total {n : Nat} {a0 : (Option (List hist_Bucket))} {r : Int} (hm : hist_Total n a0 = some r) :
    call G n 34 [.pv (encSl R_hist_Bucket a0)] [] = some (.ret (aI r), []) := by
  unfold hist_Total at hm
  obtain ⟨n, rfl, h0⟩ := at1_some hm
  replace hm := h0; clear h0
  refine callL 20 [(0, .pv (encSl R_hist_Bucket a0))] func34 rfl (by kernel_rfl) (sq (detn [(0, .pv (encSl R_hist_Bucket a0))] (by kernel_rfl) (sq (detn [(0, .pv (encSl R_hist_Bucket a0)), (3, aI 0)] (by kernel_rfl) ?_))))
  obtain ⟨k8, hk8, hm⟩ := withK_some hm
  refine mid (fun t H => (∃ (y7 : Int) (w1 : AV) (w2 : AV) (w3 : AV) (w4 : AV) (w5 : AV) (w6 : AV), k8 y7 = some r ∧ t = mk 20 [(0, w1), (3, aI y7), (7, w2), (8, w3), (9, w4), (10, w5), (11, w6)] ∧ H = [])) ?_ ?_
  ·
   rintro _ _ ⟨y7, w1, w2, w3, w4, w5, w6, hm, rfl, rfl⟩
   subst hk8
   refine sq (detn [(2, aI y7)] (by kernel_rfl) (wp_ret ?_))
   obtain rfl := Option.some.inj hm
   exact ⟨trivial, by kernel_rfl⟩
  refine sq (rg (sh 1 [(6, .pv (encSl R_hist_Bucket a0))] (by kernel_rfl) ?_))
  obtain ⟨x9, h10, hm⟩ := bs hm
  refine dv 7 (cpure (by kernel_rfl) (ok_hist_Right h10) (by kernel_rfl) (by kernel_rfl) (by kernel_rfl)) (by kernel_rfl) (fin [(0, .pv (encSl R_hist_Bucket a0)), (3, aI 0), (7, aB x9)] rfl (by kernel_rfl) ?_)
  rcases bif_some hm with ⟨h11, hm⟩ | ⟨h11, hm⟩
  ·
   refine ct h11 (by kernel_rfl) (sq (rg (sh 1 [(8, .pv (encSl R_hist_Bucket a0))] (by kernel_rfl) (dv 9 (v := aI ((sll a0).length : Int)) (len_slO R_hist_Bucket a0 t53 (by kernel_rfl)) (by kernel_rfl) (sh 1 [(10, aI 0)] (by kernel_rfl) (fin [(3, aI 0), (8, .pv (encSl R_hist_Bucket a0)), (9, aI ((sll a0).length : Int)), (10, aI 0)] rfl (by kernel_rfl) (bq ?_)))))))
   refine loopF (fun mm t H => (∃ (y14 : Int) (y15 : Int), hist_Total_l4 n a0 k8 mm y14 y15 = some r ∧ t = mk 20 [(3, aI y15), (8, .pv (encSl R_hist_Bucket a0)), (9, aI ((sll a0).length : Int)), (10, aI y14)] ∧ H = [])) (⟨0, 0, hm, rfl, rfl⟩) ?_ ?_
   · rintro _ _ ⟨y14, y15, hm, _⟩; exact nomatch hm
   rintro m16 _ _ ⟨y14, y15, hm, rfl, rfl⟩
   simp only [hist_Total_l4] at hm
   refine sq (detn [(3, aI y15), (8, .pv (encSl R_hist_Bucket a0)), (9, aI ((sll a0).length : Int)), (10, aI y14), (11, aB (decide (y14 < ((sll a0).length : Int))))] (by kernel_rfl) ?_)
   refine sq ?_
   rcases bif_some hm with ⟨h17, hm⟩ | ⟨h17, hm⟩
   ·
    refine ct h17 (by kernel_rfl) (wp_skip (sq (bq (sq (rg ?_)))))
    obtain ⟨x18, h19, hm⟩ := bs hm
    refine dv 12 (v := .pv (.ptr (R_hist_Bucket x18) 0)) (ia_slO R_hist_Bucket a0 .i64 t53 t77 h19 rfl (by kernel_rfl)) (by kernel_rfl) (st 3 [(5, .ptr 0 0), (13, .agg [aI x18.fLow.fKind, aI x18.fLow.fInt, aF x18.fLow.fFloat, aS x18.fLow.fText, aI x18.fHigh.fKind, aI x18.fHigh.fInt, aF x18.fHigh.fFloat, aS x18.fHigh.fText, aI x18.fCount, aI x18.fDistinct])] [.box [aI x18.fLow.fKind, aI x18.fLow.fInt, aF x18.fLow.fFloat, aS x18.fLow.fText, aI x18.fHigh.fKind, aI x18.fHigh.fInt, aF x18.fHigh.fFloat, aS x18.fHigh.fText, aI x18.fCount, aI x18.fDistinct] false] (by kernel_rfl) (fin [(3, aI y15), (5, .ptr 0 0), (8, .pv (encSl R_hist_Bucket a0)), (9, aI ((sll a0).length : Int)), (10, aI y14)] rfl (by kernel_rfl) (detn [(3, aI (IntKind.wrap .i64 (y15 + x18.fCount))), (8, .pv (encSl R_hist_Bucket a0)), (9, aI ((sll a0).length : Int)), (10, aI y14)] (by kernel_rfl) (detn [(3, aI (IntKind.wrap .i64 (y15 + x18.fCount))), (8, .pv (encSl R_hist_Bucket a0)), (9, aI ((sll a0).length : Int)), (10, aI (IntKind.wrap .i64 (y14 + 1)))] (by kernel_rfl) ?_))))
    exact ⟨_, _, tidyL [(3, aI (IntKind.wrap .i64 (y15 + x18.fCount))), (8, .pv (encSl R_hist_Bucket a0)), (9, aI ((sll a0).length : Int)), (10, aI (IntKind.wrap .i64 (y14 + 1)))] [] (by kernel_rfl), ⟨(IntKind.wrap .i64 (y14 + 1)), (IntKind.wrap .i64 (y15 + x18.fCount)), hm, rfl, rfl⟩⟩
   ·
    refine cf h17 (by kernel_rfl) (wp_exit ?_)
    exact ⟨y15, .any, .any, .pv (encSl R_hist_Bucket a0), aI ((sll a0).length : Int), aI y14, aB (decide (y14 < ((sll a0).length : Int))), hm, (mk_same (by kernel_rfl)), rfl⟩
  ·
   refine cf h11 (by kernel_rfl) (wp_skip ?_)
   exact ⟨0, .pv (encSl R_hist_Bucket a0), aB x9, .any, .any, .any, .any, hm, (mk_same (by kernel_rfl)), rfl⟩
theorem ok_hist_Equal {n : Nat} {a0 : (Option (List hist_Bucket))} {a1 : api_Value} {r : Int} (hm : hist_Equal n a0 a1 = some r) :
    call G n 36 [.pv (encSl R_hist_Bucket a0), .agg [aI a1.fKind, aI a1.fInt, aF a1.fFloat, aS a1.fText]] [] = some (.ret (aI r), []) := by
  unfold hist_Equal at hm
  obtain ⟨n, rfl, h0⟩ := at1_some hm
  replace hm := h0; clear h0
  refine callL 22 [(0, .pv (encSl R_hist_Bucket a0)), (1, .agg [aI a1.fKind, aI a1.fInt, aF a1.fFloat, aS a1.fText])] func36 rfl (by kernel_rfl) (sq (det [(0, .pv (encSl R_hist_Bucket a0)), (3, .ptr 0 0)] [.box [aI a1.fKind, aI a1.fInt, aF a1.fFloat, aS a1.fText] false] (by kernel_rfl) (sq (rg (sh 2 [(10, .agg [aI a1.fKind, aI a1.fInt, aF a1.fFloat, aS a1.fText]), (9, .pv (encSl R_hist_Bucket a0))] (by kernel_rfl) ?_)))))
  obtain ⟨x1, h2, hm⟩ := bs hm
  refine dv 11 (cpure (by kernel_rfl) (ok_hist_find h2) (by kernel_rfl) (by kernel_rfl) (by kernel_rfl)) (by kernel_rfl) (sh 7 [(7, aB x1.2.2), (6, aI x1.2.1), (5, aI x1.1), (14, aB x1.2.2), (13, aI x1.2.1), (12, aI x1.1), (8, .tup [aI x1.1, aI x1.2.1, aB x1.2.2])] (by kernel_rfl) (fin [(0, .pv (encSl R_hist_Bucket a0)), (5, aI x1.1), (7, aB x1.2.2)] rfl (by kernel_rfl) (sq (sq (detn [(0, .pv (encSl R_hist_Bucket a0)), (5, aI x1.1), (16, aB (!x1.2.2))] (by kernel_rfl) ?_)))))
  rcases bif_some hm with ⟨h3, hm⟩ | ⟨h3, hm⟩
  ·
   refine ct h3 (by kernel_rfl) (sq (detn [(4, aI 0)] (by kernel_rfl) (wp_ret ?_)))
   obtain rfl := Option.some.inj hm
   exact ⟨trivial, by kernel_rfl⟩
  ·
   refine cf h3 (by kernel_rfl) (wp_skip (sq (rg (sh 2 [(18, aI x1.1), (17, .pv (encSl R_hist_Bucket a0))] (by kernel_rfl) ?_))))
   obtain ⟨x4, h5, hm⟩ := bs hm
   refine dv 19 (v := .pv (.ptr (R_hist_Bucket x4) 0)) (ia_slO R_hist_Bucket a0 .i64 t53 t77 h5 rfl (by kernel_rfl)) (by kernel_rfl) (sh 1 [(20, .agg [aI x4.fLow.fKind, aI x4.fLow.fInt, aF x4.fLow.fFloat, aS x4.fLow.fText, aI x4.fHigh.fKind, aI x4.fHigh.fInt, aF x4.fHigh.fFloat, aS x4.fHigh.fText, aI x4.fCount, aI x4.fDistinct])] (by kernel_rfl) ?_)
   obtain ⟨x6, h7, hm⟩ := bs hm
   refine dv 21 (cpure (by kernel_rfl) (ok_hist_each h7) (by kernel_rfl) (by kernel_rfl) (by kernel_rfl)) (by kernel_rfl) (sh 1 [(4, aI x6)] (by kernel_rfl) (fin [(4, aI x6)] rfl (by kernel_rfl) (wp_ret ?_)))
   obtain rfl := Option.some.inj hm
   exact ⟨trivial, by kernel_rfl⟩
theorem ok_law19_HistRises {n : Nat} {a0 : (Option (List tabularyref19_Bucket))} {a1 : api_Value} {a2 : api_Value} {r : Bool} (hm : law19_HistRises n a0 a1 a2 = some r) :
    call G n 8 [.pv (encSl R_tabularyref19_Bucket a0), .agg [aI a1.fKind, aI a1.fInt, aF a1.fFloat, aS a1.fText], .agg [aI a2.fKind, aI a2.fInt, aF a2.fFloat, aS a2.fText]] [] = some (.ret (aB r), []) := by
  unfold law19_HistRises at hm
  obtain ⟨n, rfl, h0⟩ := at1_some hm
  replace hm := h0; clear h0
  refine callL 143 [(0, .pv (encSl R_tabularyref19_Bucket a0)), (1, .agg [aI a1.fKind, aI a1.fInt, aF a1.fFloat, aS a1.fText]), (2, .agg [aI a2.fKind, aI a2.fInt, aF a2.fFloat, aS a2.fText])] func8 rfl (by kernel_rfl) (sq (det [(0, .pv (encSl R_tabularyref19_Bucket a0)), (4, .ptr 0 0), (5, .ptr 1 0)] [.box [aI a1.fKind, aI a1.fInt, aF a1.fFloat, aS a1.fText] false, .box [aI a2.fKind, aI a2.fInt, aF a2.fFloat, aS a2.fText] false] (by kernel_rfl) ?_))
  refine sq (sq (rg ?_))
  obtain ⟨x1, h2, hm⟩ := bs hm
  refine dv 14 (cpure (by kernel_rfl) (ok_law19_works h2) (by kernel_rfl) (by kernel_rfl) (by kernel_rfl)) (by kernel_rfl) (sh 1 [(15, aB (!x1))] (by kernel_rfl) (fin [(0, .pv (encSl R_tabularyref19_Bucket a0)), (4, .ptr 0 0), (5, .ptr 1 0), (15, aB (!x1))] rfl (by kernel_rfl) ?_))
  rcases bif_some hm with ⟨h3, hm⟩ | ⟨h3, hm⟩
  ·
   refine ct h3 (by kernel_rfl) (sq (detn [(6, aB false)] (by kernel_rfl) (wp_ret ?_)))
   obtain rfl := Option.some.inj hm
   exact ⟨trivial, by kernel_rfl⟩
  ·
   refine cf h3 (by kernel_rfl) (wp_skip (sq (rg (sh 1 [(16, .pv (encSl R_tabularyref19_Bucket a0))] (by kernel_rfl) ?_))))
   obtain ⟨x4, h5, hm⟩ := bs hm
   refine dv 17 (cpure (by kernel_rfl) (ok_law19_Given h5) (by kernel_rfl) (by kernel_rfl) (by kernel_rfl)) (by kernel_rfl) (sh 1 [(7, .pv (encSl R_hist_Bucket x4))] (by kernel_rfl) (fin [(0, .pv (encSl R_tabularyref19_Bucket a0)), (4, .ptr 0 0), (5, .ptr 1 0), (7, .pv (encSl R_hist_Bucket x4))] rfl (by kernel_rfl) ?_))
   refine sq (sq (rgd (shd 1 [(18, .pv (encSl R_tabularyref19_Bucket a0))] (by kernel_rfl) (dvd 19 (v := aI ((sll a0).length : Int)) (len_slO R_tabularyref19_Bucket a0 t56 (by kernel_rfl)) (by kernel_rfl) (shd 2 [(21, aB (decide (((sll a0).length : Int) > 60))), (20, aB (decide (((sll a0).length : Int) > 60)))] (by kernel_rfl) ?_)))))
   rcases bif_some hm with ⟨h6, hm⟩ | ⟨h6, hm⟩
   ·
    refine knownd [21, 20] h6 (by kernel_rfl) (shd 39 [(60, aB true), (59, .undef), (58, .undef), (57, .undef), (56, .undef), (55, .undef), (54, .undef), (53, .undef), (52, .undef), (51, aB true), (50, aB true), (49, .undef), (48, .undef), (47, .undef), (46, .undef), (45, .undef), (44, .undef), (43, .undef), (42, .undef), (41, aB true), (40, aB true), (39, .undef), (38, .undef), (37, .undef), (36, aB true), (35, aB true), (34, .undef), (33, .undef), (32, .undef), (31, aB true), (30, aB true), (29, .undef), (28, .undef), (27, .undef), (26, aB true), (25, aB true), (24, .undef), (23, .undef), (22, .undef)] (by kernel_rfl) (find [(4, .ptr 0 0), (5, .ptr 1 0), (7, .pv (encSl R_hist_Bucket x4)), (60, aB true)] rfl (by kernel_rfl) (by kernel_rfl) (cT (by kernel_rfl) (sq (detn [(6, aB true)] (by kernel_rfl) (wp_ret ?_))))))
    obtain rfl := Option.some.inj hm
    exact ⟨trivial, by kernel_rfl⟩
   ·
    refine knownd [21, 20] h6 (by kernel_rfl) (shd 1 [(22, .pv (encSl R_hist_Bucket x4))] (by kernel_rfl) ?_)
    obtain ⟨x7, h8, hm⟩ := bs hm
    refine dvd 23 (cpure (by kernel_rfl) (ok_hist_Right h8) (by kernel_rfl) (by kernel_rfl) (by kernel_rfl)) (by kernel_rfl) (shd 3 [(26, aB (!x7)), (25, aB (!x7)), (24, aB (!x7))] (by kernel_rfl) ?_)
    rcases bif_some hm with ⟨h9, hm⟩ | ⟨h9, hm⟩
    ·
     refine knownd [26, 25, 24] h9 (by kernel_rfl) (shd 34 [(60, aB true), (59, .undef), (58, .undef), (57, .undef), (56, .undef), (55, .undef), (54, .undef), (53, .undef), (52, .undef), (51, aB true), (50, aB true), (49, .undef), (48, .undef), (47, .undef), (46, .undef), (45, .undef), (44, .undef), (43, .undef), (42, .undef), (41, aB true), (40, aB true), (39, .undef), (38, .undef), (37, .undef), (36, aB true), (35, aB true), (34, .undef), (33, .undef), (32, .undef), (31, aB true), (30, aB true), (29, .undef), (28, .undef), (27, .undef)] (by kernel_rfl) (find [(4, .ptr 0 0), (5, .ptr 1 0), (7, .pv (encSl R_hist_Bucket x4)), (60, aB true)] rfl (by kernel_rfl) (by kernel_rfl) (cT (by kernel_rfl) (sq (detn [(6, aB true)] (by kernel_rfl) (wp_ret ?_))))))
     obtain rfl := Option.some.inj hm
     exact ⟨trivial, by kernel_rfl⟩
    ·
     refine knownd [26, 25, 24] h9 (by kernel_rfl) (shd 1 [(27, .pv (encSl R_tabularyref19_Bucket a0))] (by kernel_rfl) (dvd 28 (v := aI ((sll a0).length : Int)) (len_slO R_tabularyref19_Bucket a0 t56 (by kernel_rfl)) (by kernel_rfl) (shd 3 [(31, aB (((sll a0).length : Int) == 0)), (30, aB (((sll a0).length : Int) == 0)), (29, aB (((sll a0).length : Int) == 0))] (by kernel_rfl) ?_)))
     rcases bif_some hm with ⟨h10, hm⟩ | ⟨h10, hm⟩
     ·
      refine knownd [31, 30, 29] h10 (by kernel_rfl) (shd 29 [(60, aB true), (59, .undef), (58, .undef), (57, .undef), (56, .undef), (55, .undef), (54, .undef), (53, .undef), (52, .undef), (51, aB true), (50, aB true), (49, .undef), (48, .undef), (47, .undef), (46, .undef), (45, .undef), (44, .undef), (43, .undef), (42, .undef), (41, aB true), (40, aB true), (39, .undef), (38, .undef), (37, .undef), (36, aB true), (35, aB true), (34, .undef), (33, .undef), (32, .undef)] (by kernel_rfl) (find [(4, .ptr 0 0), (5, .ptr 1 0), (7, .pv (encSl R_hist_Bucket x4)), (60, aB true)] rfl (by kernel_rfl) (by kernel_rfl) (cT (by kernel_rfl) (sq (detn [(6, aB true)] (by kernel_rfl) (wp_ret ?_))))))
      obtain rfl := Option.some.inj hm
      exact ⟨trivial, by kernel_rfl⟩
     ·
      refine knownd [31, 30, 29] h10 (by kernel_rfl) (shd 1 [(32, .agg [aI a1.fKind, aI a1.fInt, aF a1.fFloat, aS a1.fText])] (by kernel_rfl) ?_)
      obtain ⟨x11, h12, hm⟩ := bs hm
      refine dvd 33 (cpure (by kernel_rfl) (ok_value_Right h12) (by kernel_rfl) (by kernel_rfl) (by kernel_rfl)) (by kernel_rfl) (shd 3 [(36, aB (!x11)), (35, aB (!x11)), (34, aB (!x11))] (by kernel_rfl) ?_)
      rcases bif_some hm with ⟨h13, hm⟩ | ⟨h13, hm⟩
      ·
       refine knownd [36, 35, 34] h13 (by kernel_rfl) (shd 24 [(60, aB true), (59, .undef), (58, .undef), (57, .undef), (56, .undef), (55, .undef), (54, .undef), (53, .undef), (52, .undef), (51, aB true), (50, aB true), (49, .undef), (48, .undef), (47, .undef), (46, .undef), (45, .undef), (44, .undef), (43, .undef), (42, .undef), (41, aB true), (40, aB true), (39, .undef), (38, .undef), (37, .undef)] (by kernel_rfl) (find [(4, .ptr 0 0), (5, .ptr 1 0), (7, .pv (encSl R_hist_Bucket x4)), (60, aB true)] rfl (by kernel_rfl) (by kernel_rfl) (cT (by kernel_rfl) (sq (detn [(6, aB true)] (by kernel_rfl) (wp_ret ?_))))))
       obtain rfl := Option.some.inj hm
       exact ⟨trivial, by kernel_rfl⟩
      ·
       refine knownd [36, 35, 34] h13 (by kernel_rfl) (shd 1 [(37, .agg [aI a2.fKind, aI a2.fInt, aF a2.fFloat, aS a2.fText])] (by kernel_rfl) ?_)
       obtain ⟨x14, h15, hm⟩ := bs hm
       refine dvd 38 (cpure (by kernel_rfl) (ok_value_Right h15) (by kernel_rfl) (by kernel_rfl) (by kernel_rfl)) (by kernel_rfl) (shd 3 [(41, aB (!x14)), (40, aB (!x14)), (39, aB (!x14))] (by kernel_rfl) ?_)
       rcases bif_some hm with ⟨h16, hm⟩ | ⟨h16, hm⟩
       ·
        refine knownd [41, 40, 39] h16 (by kernel_rfl) (shd 19 [(60, aB true), (59, .undef), (58, .undef), (57, .undef), (56, .undef), (55, .undef), (54, .undef), (53, .undef), (52, .undef), (51, aB true), (50, aB true), (49, .undef), (48, .undef), (47, .undef), (46, .undef), (45, .undef), (44, .undef), (43, .undef), (42, .undef)] (by kernel_rfl) (find [(4, .ptr 0 0), (5, .ptr 1 0), (7, .pv (encSl R_hist_Bucket x4)), (60, aB true)] rfl (by kernel_rfl) (by kernel_rfl) (cT (by kernel_rfl) (sq (detn [(6, aB true)] (by kernel_rfl) (wp_ret ?_))))))
        obtain rfl := Option.some.inj hm
        exact ⟨trivial, by kernel_rfl⟩
       ·
        refine knownd [41, 40, 39] h16 (by kernel_rfl) (shd 3 [(44, .pv (encSl R_tabularyref19_Bucket a0)), (43, aI a1.fKind), (42, .ptr 0 0)] (by kernel_rfl) ?_)
        obtain ⟨x17, h18, hm⟩ := bs hm
        refine dvd 45 (v := .pv (.ptr (R_tabularyref19_Bucket x17) 0)) (ia_slO R_tabularyref19_Bucket a0 .i64 t56 t80 h18 rfl (by kernel_rfl)) (by kernel_rfl) (shd 6 [(51, aB (a1.fKind != x17.fLow.fKind)), (50, aB (a1.fKind != x17.fLow.fKind)), (49, aB (a1.fKind != x17.fLow.fKind)), (48, aI x17.fLow.fKind), (47, .pv (.ptr (R_tabularyref19_Bucket x17) 0)), (46, .pv (.ptr (R_tabularyref19_Bucket x17) 0))] (by kernel_rfl) ?_)
        rcases bif_some hm with ⟨h19, hm⟩ | ⟨h19, hm⟩
        ·
         refine knownd [51, 50, 49] h19 (by kernel_rfl) (shd 9 [(60, aB true), (59, .undef), (58, .undef), (57, .undef), (56, .undef), (55, .undef), (54, .undef), (53, .undef), (52, .undef)] (by kernel_rfl) (find [(4, .ptr 0 0), (5, .ptr 1 0), (7, .pv (encSl R_hist_Bucket x4)), (60, aB true)] rfl (by kernel_rfl) (by kernel_rfl) (cT (by kernel_rfl) (sq (detn [(6, aB true)] (by kernel_rfl) (wp_ret ?_))))))
         obtain rfl := Option.some.inj hm
         exact ⟨trivial, by kernel_rfl⟩
        ·
         refine knownd [51, 50, 49] h19 (by kernel_rfl) (shd 3 [(54, .pv (encSl R_tabularyref19_Bucket a0)), (53, aI a2.fKind), (52, .ptr 1 0)] (by kernel_rfl) (dvd 55 (v := .pv (.ptr (R_tabularyref19_Bucket x17) 0)) (ia_slO R_tabularyref19_Bucket a0 .i64 t56 t80 h18 rfl (by kernel_rfl)) (by kernel_rfl) (shd 5 [(60, aB (a2.fKind != x17.fLow.fKind)), (59, aB (a2.fKind != x17.fLow.fKind)), (58, aI x17.fLow.fKind), (57, .pv (.ptr (R_tabularyref19_Bucket x17) 0)), (56, .pv (.ptr (R_tabularyref19_Bucket x17) 0))] (by kernel_rfl) (find [(4, .ptr 0 0), (5, .ptr 1 0), (7, .pv (encSl R_hist_Bucket x4)), (60, aB (a2.fKind != x17.fLow.fKind))] rfl (by kernel_rfl) (by kernel_rfl) ?_))))
         rcases bif_some hm with ⟨h20, hm⟩ | ⟨h20, hm⟩
         ·
          refine ct h20 (by kernel_rfl) (sq (detn [(6, aB true)] (by kernel_rfl) (wp_ret ?_)))
          obtain rfl := Option.some.inj hm
          exact ⟨trivial, by kernel_rfl⟩
         ·
          refine cf h20 (by kernel_rfl) (wp_skip ?_)
          obtain ⟨k30, hk30, hm⟩ := withK_some hm
          refine mid (fun t H => (∃ (y22 : Int) (y23 : Int) (y24 : Nat) (y25 : ByteArray) (y26 : Int) (y27 : Int) (y28 : Nat) (y29 : ByteArray) (w21 : AV), k30 y22 y23 y24 y25 y26 y27 y28 y29 = some r ∧ t = mk 143 [(4, .ptr 0 0), (5, .ptr 1 0), (7, .pv (encSl R_hist_Bucket x4)), (64, w21)] ∧ H = [.box [aI y22, aI y23, aF y24, aS y25] false, .box [aI y26, aI y27, aF y28, aS y29] false])) ?_ ?_
          ·
           rintro _ _ ⟨y22, y23, y24, y25, y26, y27, y28, y29, w21, hm, rfl, rfl⟩
           subst hk30
           refine sq (rgd (shd 2 [(68, .agg [aI y22, aI y23, aF y24, aS y25]), (67, .pv (encSl R_hist_Bucket x4))] (by kernel_rfl) ?_))
           obtain ⟨x31, h32, hm⟩ := bs hm
           refine dvd 69 (cpure (by kernel_rfl) (ok_hist_Below h32) (by kernel_rfl) (by kernel_rfl) (by kernel_rfl)) (by kernel_rfl) (shd 2 [(71, .agg [aI y22, aI y23, aF y24, aS y25]), (70, .pv (encSl R_hist_Bucket x4))] (by kernel_rfl) ?_)
           obtain ⟨x33, h34, hm⟩ := bs hm
           refine dvd 72 (cpure (by kernel_rfl) (ok_hist_Below h34) (by kernel_rfl) (by kernel_rfl) (by kernel_rfl)) (by kernel_rfl) (shd 2 [(74, .agg [aI y26, aI y27, aF y28, aS y29]), (73, .pv (encSl R_hist_Bucket x4))] (by kernel_rfl) ?_)
           obtain ⟨x35, h36, hm⟩ := bs hm
           refine dvd 75 (cpure (by kernel_rfl) (ok_hist_Below h36) (by kernel_rfl) (by kernel_rfl) (by kernel_rfl)) (by kernel_rfl) (shd 3 [(10, aI x35), (9, aI x33), (8, aI x31)] (by kernel_rfl) (find [(4, .ptr 0 0), (5, .ptr 1 0), (7, .pv (encSl R_hist_Bucket x4)), (8, aI x31), (9, aI x33), (10, aI x35)] rfl (by kernel_rfl) (by kernel_rfl) ?_))
           obtain ⟨k38, hk38, hm⟩ := withK_some hm
           refine mid (fun t H => (∃ (y37 : Bool), k38 () = some r ∧ t = mk 143 [(7, .pv (encSl R_hist_Bucket x4)), (108, aB y37)] ∧ H = [.box [aI y22, aI y23, aF y24, aS y25] false, .box [aI y26, aI y27, aF y28, aS y29] false])) ?_ ?_
           ·
            rintro _ _ ⟨y37, hm, rfl, rfl⟩
            subst hk38
            refine sq (detn [(7, .pv (encSl R_hist_Bucket x4)), (11, aI 0)] (by kernel_rfl) ?_)
            obtain ⟨k42, hk42, hm⟩ := withK_some hm
            refine mid (fun t H => (∃ (y39 : Int) (y40 : Int) (y41 : Bool), k42 y39 = some r ∧ t = mk 143 [(7, .pv (encSl R_hist_Bucket x4)), (11, aI y39), (109, .pv (encSl R_hist_Bucket x4)), (110, aI ((sll x4).length : Int)), (111, aI y40), (112, aB y41)] ∧ H = [.box [aI y22, aI y23, aF y24, aS y25] false, .box [aI y26, aI y27, aF y28, aS y29] false])) ?_ ?_
            ·
             rintro _ _ ⟨y39, y40, y41, hm, rfl, rfl⟩
             subst hk42
             refine sq (rg (sh 2 [(140, .pv (encSl R_hist_Bucket x4)), (139, aI y39)] (by kernel_rfl) ?_))
             obtain ⟨x43, h44, hm⟩ := bs hm
             refine dv 141 (cpure (by kernel_rfl) (ok_hist_Total h44) (by kernel_rfl) (by kernel_rfl) (by kernel_rfl)) (by kernel_rfl) (sh 2 [(6, aB (y39 == x43)), (142, aB (y39 == x43))] (by kernel_rfl) (fin [(6, aB (y39 == x43))] rfl (by kernel_rfl) (wp_ret ?_)))
             obtain rfl := Option.some.inj hm
             exact ⟨trivial, by kernel_rfl⟩
            refine sq (rg (sh 1 [(109, .pv (encSl R_hist_Bucket x4))] (by kernel_rfl) (dv 110 (v := aI ((sll x4).length : Int)) (len_slO R_hist_Bucket x4 t53 (by kernel_rfl)) (by kernel_rfl) (sh 1 [(111, aI 0)] (by kernel_rfl) (fin [(7, .pv (encSl R_hist_Bucket x4)), (11, aI 0), (109, .pv (encSl R_hist_Bucket x4)), (110, aI ((sll x4).length : Int)), (111, aI 0)] rfl (by kernel_rfl) (bq ?_))))))
            refine loopF (fun mm t H => (∃ (y47 : Int) (y48 : Int), law19_HistRises_l13 n x4 k42 mm y47 y48 = some r ∧ t = mk 143 [(7, .pv (encSl R_hist_Bucket x4)), (11, aI y47), (109, .pv (encSl R_hist_Bucket x4)), (110, aI ((sll x4).length : Int)), (111, aI y48)] ∧ H = [.box [aI y22, aI y23, aF y24, aS y25] false, .box [aI y26, aI y27, aF y28, aS y29] false])) (⟨0, 0, hm, rfl, rfl⟩) ?_ ?_
            · rintro _ _ ⟨y47, y48, hm, _⟩; exact nomatch hm
            rintro m49 _ _ ⟨y47, y48, hm, rfl, rfl⟩
            simp only [law19_HistRises_l13] at hm
            refine sq (detn [(7, .pv (encSl R_hist_Bucket x4)), (11, aI y47), (109, .pv (encSl R_hist_Bucket x4)), (110, aI ((sll x4).length : Int)), (111, aI y48), (112, aB (decide (y48 < ((sll x4).length : Int))))] (by kernel_rfl) ?_)
            refine sq ?_
            rcases bif_some hm with ⟨h50, hm⟩ | ⟨h50, hm⟩
            ·
             refine ct h50 (by kernel_rfl) (wp_skip (sq (bq (sq (rg ?_)))))
             obtain ⟨x51, h52, hm⟩ := bs hm
             refine dv 113 (v := .pv (.ptr (R_hist_Bucket x51) 0)) (ia_slO R_hist_Bucket x4 .i64 t53 t77 h52 rfl (by kernel_rfl)) (by kernel_rfl) (st 3 [(13, .ptr 2 0), (114, .agg [aI x51.fLow.fKind, aI x51.fLow.fInt, aF x51.fLow.fFloat, aS x51.fLow.fText, aI x51.fHigh.fKind, aI x51.fHigh.fInt, aF x51.fHigh.fFloat, aS x51.fHigh.fText, aI x51.fCount, aI x51.fDistinct])] [.box [aI y22, aI y23, aF y24, aS y25] false, .box [aI y26, aI y27, aF y28, aS y29] false, .box [aI x51.fLow.fKind, aI x51.fLow.fInt, aF x51.fLow.fFloat, aS x51.fLow.fText, aI x51.fHigh.fKind, aI x51.fHigh.fInt, aF x51.fHigh.fFloat, aS x51.fHigh.fText, aI x51.fCount, aI x51.fDistinct] false] (by kernel_rfl) (fin [(7, .pv (encSl R_hist_Bucket x4)), (11, aI y47), (13, .ptr 2 0), (109, .pv (encSl R_hist_Bucket x4)), (110, aI ((sll x4).length : Int)), (111, aI y48)] rfl (by kernel_rfl) ?_))
             refine sq (sq (rg (sh 3 [(117, .agg [aI x51.fLow.fKind, aI x51.fLow.fInt, aF x51.fLow.fFloat, aS x51.fLow.fText]), (116, .ptr 2 0), (115, .pv (encSl R_hist_Bucket x4))] (by kernel_rfl) ?_)))
             obtain ⟨x53, h54, hm⟩ := bs hm
             refine dv 118 (cpure (by kernel_rfl) (ok_hist_Below h54) (by kernel_rfl) (by kernel_rfl) (by kernel_rfl)) (by kernel_rfl) (sh 2 [(120, aB (x53 != y47)), (119, aI y47)] (by kernel_rfl) (fin [(7, .pv (encSl R_hist_Bucket x4)), (11, aI y47), (13, .ptr 2 0), (109, .pv (encSl R_hist_Bucket x4)), (110, aI ((sll x4).length : Int)), (111, aI y48), (120, aB (x53 != y47))] rfl (by kernel_rfl) ?_))
             rcases bif_some hm with ⟨h55, hm⟩ | ⟨h55, hm⟩
             ·
              refine ct h55 (by kernel_rfl) (sq (detn [(6, aB false)] (by kernel_rfl) (wp_ret ?_)))
              obtain rfl := Option.some.inj hm
              exact ⟨trivial, by kernel_rfl⟩
             ·
              refine cf h55 (by kernel_rfl) (wp_skip (sq (detn [(7, .pv (encSl R_hist_Bucket x4)), (11, aI (IntKind.wrap .i64 (y47 + x51.fCount))), (13, .ptr 2 0), (109, .pv (encSl R_hist_Bucket x4)), (110, aI ((sll x4).length : Int)), (111, aI y48)] (by kernel_rfl) (sq (rg (sh 3 [(127, .agg [aI x51.fHigh.fKind, aI x51.fHigh.fInt, aF x51.fHigh.fFloat, aS x51.fHigh.fText]), (126, .ptr 2 4), (125, .pv (encSl R_hist_Bucket x4))] (by kernel_rfl) ?_))))))
              obtain ⟨x56, h57, hm⟩ := bs hm
              refine dv 128 (cpure (by kernel_rfl) (ok_hist_Below h57) (by kernel_rfl) (by kernel_rfl) (by kernel_rfl)) (by kernel_rfl) (sh 3 [(131, aB (x56 != (IntKind.wrap .i64 (y47 + x51.fCount)))), (130, aB (x56 != (IntKind.wrap .i64 (y47 + x51.fCount)))), (129, aI (IntKind.wrap .i64 (y47 + x51.fCount)))] (by kernel_rfl) ?_)
              rcases bif_some hm with ⟨h58, hm⟩ | ⟨h58, hm⟩
              ·
               refine known [131, 130] h58 (by kernel_rfl) (sh 6 [(137, aB true), (136, .undef), (135, .undef), (134, .undef), (133, .undef), (132, .undef)] (by kernel_rfl) (fin [(7, .pv (encSl R_hist_Bucket x4)), (11, aI (IntKind.wrap .i64 (y47 + x51.fCount))), (109, .pv (encSl R_hist_Bucket x4)), (110, aI ((sll x4).length : Int)), (111, aI y48), (137, aB true)] rfl (by kernel_rfl) (cT (by kernel_rfl) (sq (detn [(6, aB false)] (by kernel_rfl) (wp_ret ?_))))))
               obtain rfl := Option.some.inj hm
               exact ⟨trivial, by kernel_rfl⟩
              ·
               refine known [131, 130] h58 (by kernel_rfl) (sh 3 [(134, .agg [aI x51.fLow.fKind, aI x51.fLow.fInt, aF x51.fLow.fFloat, aS x51.fLow.fText]), (133, .ptr 2 0), (132, .pv (encSl R_hist_Bucket x4))] (by kernel_rfl) ?_)
               obtain ⟨x59, h60, hm⟩ := bs hm
               refine dv 135 (cpure (by kernel_rfl) (ok_hist_Equal h60) (by kernel_rfl) (by kernel_rfl) (by kernel_rfl)) (by kernel_rfl) (sh 2 [(137, aB (decide (x59 < 1))), (136, aB (decide (x59 < 1)))] (by kernel_rfl) (fin [(7, .pv (encSl R_hist_Bucket x4)), (11, aI (IntKind.wrap .i64 (y47 + x51.fCount))), (109, .pv (encSl R_hist_Bucket x4)), (110, aI ((sll x4).length : Int)), (111, aI y48), (137, aB (decide (x59 < 1)))] rfl (by kernel_rfl) ?_))
               rcases bif_some hm with ⟨h61, hm⟩ | ⟨h61, hm⟩
               ·
                refine ct h61 (by kernel_rfl) (sq (detn [(6, aB false)] (by kernel_rfl) (wp_ret ?_)))
                obtain rfl := Option.some.inj hm
                exact ⟨trivial, by kernel_rfl⟩
               ·
                refine cf h61 (by kernel_rfl) (wp_skip (detn [(7, .pv (encSl R_hist_Bucket x4)), (11, aI (IntKind.wrap .i64 (y47 + x51.fCount))), (109, .pv (encSl R_hist_Bucket x4)), (110, aI ((sll x4).length : Int)), (111, aI (IntKind.wrap .i64 (y48 + 1)))] (by kernel_rfl) ?_))
                exact ⟨_, _, tidyL [(7, .pv (encSl R_hist_Bucket x4)), (11, aI (IntKind.wrap .i64 (y47 + x51.fCount))), (109, .pv (encSl R_hist_Bucket x4)), (110, aI ((sll x4).length : Int)), (111, aI (IntKind.wrap .i64 (y48 + 1)))] [.box [aI y22, aI y23, aF y24, aS y25] false, .box [aI y26, aI y27, aF y28, aS y29] false] (by kernel_rfl), ⟨(IntKind.wrap .i64 (y47 + x51.fCount)), (IntKind.wrap .i64 (y48 + 1)), hm, rfl, rfl⟩⟩
            ·
             refine cf h50 (by kernel_rfl) (wp_exit ?_)
             exact ⟨y47, y48, (decide (y48 < ((sll x4).length : Int))), hm, rfl, rfl⟩
           refine sq (rg (sh 3 [(78, aB (decide (x31 < 0))), (77, aB (decide (x31 < 0))), (76, aI x31)] (by kernel_rfl) ?_))
           refine seg (decide (x31 < 0)) [78, 77] (fun b => [(82, aB (b || (decide (x33 < x31)))), (81, ifA b (.undef) (aB (decide (x33 < x31)))), (80, ifA b (.undef) (aI x31)), (79, ifA b (.undef) (aI x33))]) 7 (by kernel_rfl) ?_ ?_ ?_
           ·
            intro Q h
            refine sh 4 [(82, aB true), (81, .undef), (80, .undef), (79, .undef)] (by kernel_rfl) ?_
            exact sameN (by kernel_rfl) (by kernel_rfl) h
           ·
            intro Q h
            refine sh 4 [(82, aB (decide (x33 < x31))), (81, aB (decide (x33 < x31))), (80, aI x31), (79, aI x33)] (by kernel_rfl) ?_
            exact sameN (by kernel_rfl) (by kernel_rfl) h
           refine sh 1 [(83, aB ((decide (x31 < 0)) || (decide (x33 < x31))))] (by kernel_rfl) ?_
           rcases bif_some hm with ⟨h62, hm⟩ | ⟨h62, hm⟩
           ·
            refine known [83, 82] h62 (by kernel_rfl) (sh 25 [(108, aB true), (107, .undef), (106, .undef), (105, .undef), (104, .undef), (103, .undef), (102, .undef), (101, .undef), (100, .undef), (99, .undef), (98, .undef), (97, .undef), (96, aB true), (95, aB true), (94, .undef), (93, .undef), (92, .undef), (91, aB true), (90, aB true), (89, .undef), (88, .undef), (87, .undef), (86, .undef), (85, .undef), (84, .undef)] (by kernel_rfl) (fin [(7, .pv (encSl R_hist_Bucket x4)), (108, aB true)] rfl (by kernel_rfl) (cT (by kernel_rfl) (sq (detn [(6, aB false)] (by kernel_rfl) (wp_ret ?_))))))
            obtain rfl := Option.some.inj hm
            exact ⟨trivial, by kernel_rfl⟩
           ·
            refine known [83, 82] h62 (by kernel_rfl) (sh 2 [(85, .agg [aI y26, aI y27, aF y28, aS y29]), (84, .pv (encSl R_hist_Bucket x4))] (by kernel_rfl) ?_)
            obtain ⟨x63, h64, hm⟩ := bs hm
            refine dv 86 (cpure (by kernel_rfl) (ok_hist_Below h64) (by kernel_rfl) (by kernel_rfl) (by kernel_rfl)) (by kernel_rfl) (sh 1 [(87, .pv (encSl R_hist_Bucket x4))] (by kernel_rfl) ?_)
            obtain ⟨x65, h66, hm⟩ := bs hm
            refine dv 88 (cpure (by kernel_rfl) (ok_hist_Total h66) (by kernel_rfl) (by kernel_rfl) (by kernel_rfl)) (by kernel_rfl) (sh 3 [(91, aB (decide (x63 > x65))), (90, aB (decide (x63 > x65))), (89, aB (decide (x63 > x65)))] (by kernel_rfl) ?_)
            refine seg (decide (x63 > x65)) [91, 90, 89] (fun b => [(95, aB (b || (decide (x35 < x31)))), (94, ifA b (.undef) (aB (decide (x35 < x31)))), (93, ifA b (.undef) (aI x31)), (92, ifA b (.undef) (aI x35))]) 20 (by kernel_rfl) ?_ ?_ ?_
            ·
             intro Q h
             refine sh 4 [(95, aB true), (94, .undef), (93, .undef), (92, .undef)] (by kernel_rfl) ?_
             exact sameN (by kernel_rfl) (by kernel_rfl) h
            ·
             intro Q h
             refine sh 4 [(95, aB (decide (x35 < x31))), (94, aB (decide (x35 < x31))), (93, aI x31), (92, aI x35)] (by kernel_rfl) ?_
             exact sameN (by kernel_rfl) (by kernel_rfl) h
            refine sh 1 [(96, aB ((decide (x63 > x65)) || (decide (x35 < x31))))] (by kernel_rfl) ?_
            rcases bif_some hm with ⟨h67, hm⟩ | ⟨h67, hm⟩
            ·
             refine known [96, 95] h67 (by kernel_rfl) (sh 12 [(108, aB true), (107, .undef), (106, .undef), (105, .undef), (104, .undef), (103, .undef), (102, .undef), (101, .undef), (100, .undef), (99, .undef), (98, .undef), (97, .undef)] (by kernel_rfl) (fin [(7, .pv (encSl R_hist_Bucket x4)), (108, aB true)] rfl (by kernel_rfl) (cT (by kernel_rfl) (sq (detn [(6, aB false)] (by kernel_rfl) (wp_ret ?_))))))
             obtain rfl := Option.some.inj hm
             exact ⟨trivial, by kernel_rfl⟩
            ·
             refine known [96, 95] h67 (by kernel_rfl) (sh 2 [(98, .agg [aI y26, aI y27, aF y28, aS y29]), (97, .agg [aI y22, aI y23, aF y24, aS y25])] (by kernel_rfl) ?_)
             obtain ⟨x68, h69, hm⟩ := bs hm
             refine dv 99 (cpure (by kernel_rfl) (ok_value_Cmp h69) (by kernel_rfl) (by kernel_rfl) (by kernel_rfl)) (by kernel_rfl) (sh 2 [(101, aB (decide (x68 < 0))), (100, aB (decide (x68 < 0)))] (by kernel_rfl) ?_)
             rcases bif_some hm with ⟨h70, hm⟩ | ⟨h70, hm⟩
             ·
              refine known [101, 100] h70 (by kernel_rfl) (sh 2 [(103, .agg [aI y26, aI y27, aF y28, aS y29]), (102, .pv (encSl R_hist_Bucket x4))] (by kernel_rfl) ?_)
              obtain ⟨x71, h72, hm⟩ := bs hm
              refine dv 104 (cpure (by kernel_rfl) (ok_hist_Below h72) (by kernel_rfl) (by kernel_rfl) (by kernel_rfl)) (by kernel_rfl) (sh 4 [(108, aB (decide (x71 < x33))), (107, aB (decide (x71 < x33))), (106, aB (decide (x71 < x33))), (105, aI x33)] (by kernel_rfl) (fin [(7, .pv (encSl R_hist_Bucket x4)), (108, aB (decide (x71 < x33)))] rfl (by kernel_rfl) ?_))
              rcases bif_some hm with ⟨h73, hm⟩ | ⟨h73, hm⟩
              ·
               refine ct h73 (by kernel_rfl) (sq (detn [(6, aB false)] (by kernel_rfl) (wp_ret ?_)))
               obtain rfl := Option.some.inj hm
               exact ⟨trivial, by kernel_rfl⟩
              ·
               refine cf h73 (by kernel_rfl) (wp_skip ?_)
               exact ⟨(decide (x71 < x33)), hm, rfl, rfl⟩
             ·
              refine known [101, 100] h70 (by kernel_rfl) (sh 7 [(108, aB false), (107, aB false), (106, .undef), (105, .undef), (104, .undef), (103, .undef), (102, .undef)] (by kernel_rfl) (fin [(7, .pv (encSl R_hist_Bucket x4)), (108, aB false)] rfl (by kernel_rfl) (cF (by kernel_rfl) (wp_skip ?_))))
              exact ⟨false, hm, rfl, rfl⟩
          refine sq (rg (sh 2 [(62, .agg [aI a2.fKind, aI a2.fInt, aF a2.fFloat, aS a2.fText]), (61, .agg [aI a1.fKind, aI a1.fInt, aF a1.fFloat, aS a1.fText])] (by kernel_rfl) ?_))
          obtain ⟨x74, h75, hm⟩ := bs hm
          refine dv 63 (cpure (by kernel_rfl) (ok_value_Cmp h75) (by kernel_rfl) (by kernel_rfl) (by kernel_rfl)) (by kernel_rfl) (sh 1 [(64, aB (decide (x74 > 0)))] (by kernel_rfl) (fin [(4, .ptr 0 0), (5, .ptr 1 0), (7, .pv (encSl R_hist_Bucket x4)), (64, aB (decide (x74 > 0)))] rfl (by kernel_rfl) ?_))
          rcases bif_some hm with ⟨h76, hm⟩ | ⟨h76, hm⟩
          ·
           refine ct h76 (by kernel_rfl) (det [(4, .ptr 0 0), (5, .ptr 1 0), (7, .pv (encSl R_hist_Bucket x4))] [.box [aI a2.fKind, aI a2.fInt, aF a2.fFloat, aS a2.fText] false, .box [aI a1.fKind, aI a1.fInt, aF a1.fFloat, aS a1.fText] false] (by kernel_rfl) ?_)
           exact ⟨a2.fKind, a2.fInt, a2.fFloat, a2.fText, a1.fKind, a1.fInt, a1.fFloat, a1.fText, .any, hm, (mk_same (by kernel_rfl)), rfl⟩
          ·
           refine cf h76 (by kernel_rfl) (wp_skip ?_)
           exact ⟨a1.fKind, a1.fInt, a1.fFloat, a1.fText, a2.fKind, a2.fInt, a2.fFloat, a2.fText, aB (decide (x74 > 0)), hm, (mk_same (by kernel_rfl)), rfl⟩
end Go.Ab.S1
