import Derived.Test.YtjbhpopccbhhlaaWB1
namespace Go.Ab.S1
open Go Go.Ab Go.Pl
open Go.Proofs.Try
set_option linter.unusedVariables false
set_option linter.unusedSimpArgs false
set_option maxRecDepth 100000
theorem ok_stat_buckets {n : Nat} {a0 : hist_Bucket} {a1 : hist_Bucket} {r : Bool} (hm : stat_buckets n a0 a1 = some r) :
    call G n 91 [.agg [aI a0.fLow.fKind, aI a0.fLow.fInt, aF a0.fLow.fFloat, aS a0.fLow.fText, aI a0.fHigh.fKind, aI a0.fHigh.fInt, aF a0.fHigh.fFloat, aS a0.fHigh.fText, aI a0.fCount, aI a0.fDistinct], .agg [aI a1.fLow.fKind, aI a1.fLow.fInt, aF a1.fLow.fFloat, aS a1.fLow.fText, aI a1.fHigh.fKind, aI a1.fHigh.fInt, aF a1.fHigh.fFloat, aS a1.fHigh.fText, aI a1.fCount, aI a1.fDistinct]] [] = some (.ret (aB r), []) := by
  unfold stat_buckets at hm
  obtain ⟨n, rfl, h0⟩ := at1_some hm
  replace hm := h0; clear h0
  refine callL 31 [(0, .agg [aI a0.fLow.fKind, aI a0.fLow.fInt, aF a0.fLow.fFloat, aS a0.fLow.fText, aI a0.fHigh.fKind, aI a0.fHigh.fInt, aF a0.fHigh.fFloat, aS a0.fHigh.fText, aI a0.fCount, aI a0.fDistinct]), (1, .agg [aI a1.fLow.fKind, aI a1.fLow.fInt, aF a1.fLow.fFloat, aS a1.fLow.fText, aI a1.fHigh.fKind, aI a1.fHigh.fInt, aF a1.fHigh.fFloat, aS a1.fHigh.fText, aI a1.fCount, aI a1.fDistinct])] func91 rfl (by kernel_rfl) (sq (det [(2, .ptr 0 0), (3, .ptr 1 0)] [.box [aI a0.fLow.fKind, aI a0.fLow.fInt, aF a0.fLow.fFloat, aS a0.fLow.fText, aI a0.fHigh.fKind, aI a0.fHigh.fInt, aF a0.fHigh.fFloat, aS a0.fHigh.fText, aI a0.fCount, aI a0.fDistinct] false, .box [aI a1.fLow.fKind, aI a1.fLow.fInt, aF a1.fLow.fFloat, aS a1.fLow.fText, aI a1.fHigh.fKind, aI a1.fHigh.fInt, aF a1.fHigh.fFloat, aS a1.fHigh.fText, aI a1.fCount, aI a1.fDistinct] false] (by kernel_rfl) (sq (rg (sh 4 [(8, .agg [aI a1.fLow.fKind, aI a1.fLow.fInt, aF a1.fLow.fFloat, aS a1.fLow.fText]), (7, .ptr 1 0), (6, .agg [aI a0.fLow.fKind, aI a0.fLow.fInt, aF a0.fLow.fFloat, aS a0.fLow.fText]), (5, .ptr 0 0)] (by kernel_rfl) ?_)))))
  obtain ⟨x1, h2, hm⟩ := bs hm
  refine dv 9 (cpure (by kernel_rfl) (ok_value_Same h2) (by kernel_rfl) (by kernel_rfl) (by kernel_rfl)) (by kernel_rfl) (sh 1 [(10, aB x1)] (by kernel_rfl) ?_)
  rcases bif_some hm with ⟨h3, hm⟩ | ⟨h3, hm⟩
  ·
   refine known [10, 9] h3 (by kernel_rfl) (sh 4 [(14, .agg [aI a1.fHigh.fKind, aI a1.fHigh.fInt, aF a1.fHigh.fFloat, aS a1.fHigh.fText]), (13, .ptr 1 4), (12, .agg [aI a0.fHigh.fKind, aI a0.fHigh.fInt, aF a0.fHigh.fFloat, aS a0.fHigh.fText]), (11, .ptr 0 4)] (by kernel_rfl) ?_)
   obtain ⟨x4, h5, hm⟩ := bs hm
   refine dv 15 (cpure (by kernel_rfl) (ok_value_Same h5) (by kernel_rfl) (by kernel_rfl) (by kernel_rfl)) (by kernel_rfl) (sh 2 [(17, aB x4), (16, aB x4)] (by kernel_rfl) ?_)
   refine seg x4 [17, 16, 15] (fun b => [(23, aB (b && (a0.fCount == a1.fCount))), (22, ifA b (aB (a0.fCount == a1.fCount)) (.undef)), (21, ifA b (aI a1.fCount) (.undef)), (20, ifA b (.ptr 1 8) (.undef)), (19, ifA b (aI a0.fCount) (.undef)), (18, ifA b (.ptr 0 8) (.undef))]) 19 (by kernel_rfl) ?_ ?_ ?_
   ·
    intro Q h
    refine sh 6 [(23, aB (a0.fCount == a1.fCount)), (22, aB (a0.fCount == a1.fCount)), (21, aI a1.fCount), (20, .ptr 1 8), (19, aI a0.fCount), (18, .ptr 0 8)] (by kernel_rfl) ?_
    exact sameN (by kernel_rfl) (by kernel_rfl) h
   ·
    intro Q h
    refine sh 6 [(23, aB false), (22, .undef), (21, .undef), (20, .undef), (19, .undef), (18, .undef)] (by kernel_rfl) ?_
    exact sameN (by kernel_rfl) (by kernel_rfl) h
   refine sh 1 [(24, aB (x4 && (a0.fCount == a1.fCount)))] (by kernel_rfl) ?_
   refine seg (x4 && (a0.fCount == a1.fCount)) [24, 23] (fun b => [(30, aB (b && (a0.fDistinct == a1.fDistinct))), (29, ifA b (aB (a0.fDistinct == a1.fDistinct)) (.undef)), (28, ifA b (aI a1.fDistinct) (.undef)), (27, ifA b (.ptr 1 9) (.undef)), (26, ifA b (aI a0.fDistinct) (.undef)), (25, ifA b (.ptr 0 9) (.undef))]) 26 (by kernel_rfl) ?_ ?_ ?_
   ·
    intro Q h
    refine sh 6 [(30, aB (a0.fDistinct == a1.fDistinct)), (29, aB (a0.fDistinct == a1.fDistinct)), (28, aI a1.fDistinct), (27, .ptr 1 9), (26, aI a0.fDistinct), (25, .ptr 0 9)] (by kernel_rfl) ?_
    exact sameN (by kernel_rfl) (by kernel_rfl) h
   ·
    intro Q h
    refine sh 6 [(30, aB false), (29, .undef), (28, .undef), (27, .undef), (26, .undef), (25, .undef)] (by kernel_rfl) ?_
    exact sameN (by kernel_rfl) (by kernel_rfl) h
   refine sh 1 [(4, aB ((x4 && (a0.fCount == a1.fCount)) && (a0.fDistinct == a1.fDistinct)))] (by kernel_rfl) (fin [(4, aB ((x4 && (a0.fCount == a1.fCount)) && (a0.fDistinct == a1.fDistinct)))] rfl (by kernel_rfl) (wp_ret ?_))
   obtain rfl := Option.some.inj hm
   exact ⟨trivial, by kernel_rfl⟩
  ·
   refine known [10, 9] h3 (by kernel_rfl) (sh 21 [(4, aB false), (30, aB false), (29, .undef), (28, .undef), (27, .undef), (26, .undef), (25, .undef), (24, aB false), (23, aB false), (22, .undef), (21, .undef), (20, .undef), (19, .undef), (18, .undef), (17, aB false), (16, aB false), (15, .undef), (14, .undef), (13, .undef), (12, .undef), (11, .undef)] (by kernel_rfl) (fin [(4, aB false)] rfl (by kernel_rfl) (wp_ret ?_)))
   obtain rfl := Option.some.inj hm
   exact ⟨trivial, by kernel_rfl⟩
theorem ok_slices_EqualFunc_Bucket_stat_buckets {n : Nat} {a0 : (Option (List hist_Bucket))} {a1 : (Option (List hist_Bucket))} {r : Bool} (hm : slices_EqualFunc_Bucket_stat_buckets n a0 a1 = some r) :
    call G n 90 [.pv (encSl R_hist_Bucket a0), .pv (encSl R_hist_Bucket a1), .pv (.fn 91 [] [])] [] = some (.ret (aB r), []) := by
  unfold slices_EqualFunc_Bucket_stat_buckets at hm
  obtain ⟨n, rfl, h0⟩ := at1_some hm
  replace hm := h0; clear h0
  refine callL 32 [(0, .pv (encSl R_hist_Bucket a0)), (1, .pv (encSl R_hist_Bucket a1)), (2, .pv (.fn 91 [] []))] func90 rfl (by kernel_rfl) (sq (detn [(0, .pv (encSl R_hist_Bucket a0)), (1, .pv (encSl R_hist_Bucket a1)), (2, .pv (.fn 91 [] []))] (by kernel_rfl) ?_))
  refine sq (sq (rg (sh 1 [(10, .pv (encSl R_hist_Bucket a0))] (by kernel_rfl) (dv 11 (v := aI ((sll a0).length : Int)) (len_slO R_hist_Bucket a0 t53 (by kernel_rfl)) (by kernel_rfl) (sh 1 [(12, .pv (encSl R_hist_Bucket a1))] (by kernel_rfl) (dv 13 (v := aI ((sll a1).length : Int)) (len_slO R_hist_Bucket a1 t53 (by kernel_rfl)) (by kernel_rfl) (sh 1 [(14, aB (((sll a0).length : Int) != ((sll a1).length : Int)))] (by kernel_rfl) (fin [(0, .pv (encSl R_hist_Bucket a0)), (1, .pv (encSl R_hist_Bucket a1)), (2, .pv (.fn 91 [] [])), (14, aB (((sll a0).length : Int) != ((sll a1).length : Int)))] rfl (by kernel_rfl) ?_))))))))
  rcases bif_some hm with ⟨h1, hm⟩ | ⟨h1, hm⟩
  ·
   refine ct h1 (by kernel_rfl) (sq (detn [(6, aB false)] (by kernel_rfl) (wp_ret ?_)))
   obtain rfl := Option.some.inj hm
   exact ⟨trivial, by kernel_rfl⟩
  ·
   refine cf h1 (by kernel_rfl) (wp_skip ?_)
   obtain ⟨k4, hk4, hm⟩ := withK_some hm
   refine mid (fun t H => (∃ (y2 : Int) (y3 : Bool), k4 () = some r ∧ t = mk 32 [(1, .pv (encSl R_hist_Bucket a1)), (2, .pv (.fn 91 [] [])), (15, .pv (encSl R_hist_Bucket a0)), (16, aI ((sll a0).length : Int)), (17, aI y2), (18, aB y3)] ∧ H = [])) ?_ ?_
   ·
    rintro _ _ ⟨y2, y3, hm, rfl, rfl⟩
    subst hk4
    refine sq (detn [(6, aB true)] (by kernel_rfl) (wp_ret ?_))
    obtain rfl := Option.some.inj hm
    exact ⟨trivial, by kernel_rfl⟩
   refine sq (rg (sh 1 [(15, .pv (encSl R_hist_Bucket a0))] (by kernel_rfl) (dv 16 (v := aI ((sll a0).length : Int)) (len_slO R_hist_Bucket a0 t53 (by kernel_rfl)) (by kernel_rfl) (sh 1 [(17, aI 0)] (by kernel_rfl) (fin [(1, .pv (encSl R_hist_Bucket a1)), (2, .pv (.fn 91 [] [])), (15, .pv (encSl R_hist_Bucket a0)), (16, aI ((sll a0).length : Int)), (17, aI 0)] rfl (by kernel_rfl) (bq ?_))))))
   refine loopF (fun mm t H => (∃ (y6 : Int), slices_EqualFunc_Bucket_stat_buckets_l4 n a0 a1 k4 mm y6 = some r ∧ t = mk 32 [(1, .pv (encSl R_hist_Bucket a1)), (2, .pv (.fn 91 [] [])), (15, .pv (encSl R_hist_Bucket a0)), (16, aI ((sll a0).length : Int)), (17, aI y6)] ∧ H = [])) (⟨0, hm, rfl, rfl⟩) ?_ ?_
   · rintro _ _ ⟨y6, hm, _⟩; exact nomatch hm
   rintro m7 _ _ ⟨y6, hm, rfl, rfl⟩
   simp only [slices_EqualFunc_Bucket_stat_buckets_l4] at hm
   refine sq (detn [(1, .pv (encSl R_hist_Bucket a1)), (2, .pv (.fn 91 [] [])), (15, .pv (encSl R_hist_Bucket a0)), (16, aI ((sll a0).length : Int)), (17, aI y6), (18, aB (decide (y6 < ((sll a0).length : Int))))] (by kernel_rfl) ?_)
   refine sq ?_
   rcases bif_some hm with ⟨h8, hm⟩ | ⟨h8, hm⟩
   ·
    refine ct h8 (by kernel_rfl) (wp_skip (sq (bq (sq (rg (sh 1 [(19, aI y6)] (by kernel_rfl) ?_))))))
    obtain ⟨x9, h10, hm⟩ := bs hm
    refine dv 20 (v := .pv (.ptr (R_hist_Bucket x9) 0)) (ia_slO R_hist_Bucket a0 .i64 t53 t77 h10 rfl (by kernel_rfl)) (by kernel_rfl) (st 4 [(7, aI y6), (8, .ptr 0 0), (21, .agg [aI x9.fLow.fKind, aI x9.fLow.fInt, aF x9.fLow.fFloat, aS x9.fLow.fText, aI x9.fHigh.fKind, aI x9.fHigh.fInt, aF x9.fHigh.fFloat, aS x9.fHigh.fText, aI x9.fCount, aI x9.fDistinct])] [.box [aI x9.fLow.fKind, aI x9.fLow.fInt, aF x9.fLow.fFloat, aS x9.fLow.fText, aI x9.fHigh.fKind, aI x9.fHigh.fInt, aF x9.fHigh.fFloat, aS x9.fHigh.fText, aI x9.fCount, aI x9.fDistinct] false] (by kernel_rfl) (fin [(1, .pv (encSl R_hist_Bucket a1)), (2, .pv (.fn 91 [] [])), (7, aI y6), (8, .ptr 0 0), (15, .pv (encSl R_hist_Bucket a0)), (16, aI ((sll a0).length : Int)), (17, aI y6)] rfl (by kernel_rfl) (sq (rg (sh 2 [(23, aI y6), (22, .pv (encSl R_hist_Bucket a1))] (by kernel_rfl) ?_)))))
    obtain ⟨x11, h12, hm⟩ := bs hm
    refine dv 24 (v := .pv (.ptr (R_hist_Bucket x11) 0)) (ia_slO R_hist_Bucket a1 .i64 t53 t77 h12 rfl (by kernel_rfl)) (by kernel_rfl) (st 3 [(9, .ptr 1 0), (25, .agg [aI x11.fLow.fKind, aI x11.fLow.fInt, aF x11.fLow.fFloat, aS x11.fLow.fText, aI x11.fHigh.fKind, aI x11.fHigh.fInt, aF x11.fHigh.fFloat, aS x11.fHigh.fText, aI x11.fCount, aI x11.fDistinct])] [.box [aI x9.fLow.fKind, aI x9.fLow.fInt, aF x9.fLow.fFloat, aS x9.fLow.fText, aI x9.fHigh.fKind, aI x9.fHigh.fInt, aF x9.fHigh.fFloat, aS x9.fHigh.fText, aI x9.fCount, aI x9.fDistinct] false, .box [aI x11.fLow.fKind, aI x11.fLow.fInt, aF x11.fLow.fFloat, aS x11.fLow.fText, aI x11.fHigh.fKind, aI x11.fHigh.fInt, aF x11.fHigh.fFloat, aS x11.fHigh.fText, aI x11.fCount, aI x11.fDistinct] false] (by kernel_rfl) (fin [(1, .pv (encSl R_hist_Bucket a1)), (2, .pv (.fn 91 [] [])), (8, .ptr 0 0), (9, .ptr 1 0), (15, .pv (encSl R_hist_Bucket a0)), (16, aI ((sll a0).length : Int)), (17, aI y6)] rfl (by kernel_rfl) (sq (rg (sh 3 [(28, .agg [aI x11.fLow.fKind, aI x11.fLow.fInt, aF x11.fLow.fFloat, aS x11.fLow.fText, aI x11.fHigh.fKind, aI x11.fHigh.fInt, aF x11.fHigh.fFloat, aS x11.fHigh.fText, aI x11.fCount, aI x11.fDistinct]), (27, .agg [aI x9.fLow.fKind, aI x9.fLow.fInt, aF x9.fLow.fFloat, aS x9.fLow.fText, aI x9.fHigh.fKind, aI x9.fHigh.fInt, aF x9.fHigh.fFloat, aS x9.fHigh.fText, aI x9.fCount, aI x9.fDistinct]), (26, .pv (.fn 91 [] []))] (by kernel_rfl) ?_)))))
    obtain ⟨x13, h14, hm⟩ := bs hm
    refine dv 29 (cpure (by kernel_rfl) (ok_stat_buckets h14) (by kernel_rfl) (by kernel_rfl) (by kernel_rfl)) (by kernel_rfl) (sh 1 [(30, aB (!x13))] (by kernel_rfl) (fin [(1, .pv (encSl R_hist_Bucket a1)), (2, .pv (.fn 91 [] [])), (15, .pv (encSl R_hist_Bucket a0)), (16, aI ((sll a0).length : Int)), (17, aI y6), (30, aB (!x13))] rfl (by kernel_rfl) ?_))
    rcases bif_some hm with ⟨h15, hm⟩ | ⟨h15, hm⟩
    ·
     refine ct h15 (by kernel_rfl) (sq (detn [(6, aB false)] (by kernel_rfl) (wp_ret ?_)))
     obtain rfl := Option.some.inj hm
     exact ⟨trivial, by kernel_rfl⟩
    ·
     refine cf h15 (by kernel_rfl) (wp_skip (detn [(1, .pv (encSl R_hist_Bucket a1)), (2, .pv (.fn 91 [] [])), (15, .pv (encSl R_hist_Bucket a0)), (16, aI ((sll a0).length : Int)), (17, aI (IntKind.wrap .i64 (y6 + 1)))] (by kernel_rfl) ?_))
     exact ⟨_, _, tidyL [(1, .pv (encSl R_hist_Bucket a1)), (2, .pv (.fn 91 [] [])), (15, .pv (encSl R_hist_Bucket a0)), (16, aI ((sll a0).length : Int)), (17, aI (IntKind.wrap .i64 (y6 + 1)))] [] (by kernel_rfl), ⟨(IntKind.wrap .i64 (y6 + 1)), hm, rfl, rfl⟩⟩
   ·
    refine cf h8 (by kernel_rfl) (wp_exit ?_)
    exact ⟨y6, (decide (y6 < ((sll a0).length : Int))), hm, rfl, rfl⟩
theorem ok_slices_EqualFunc_Value_value_Same {n : Nat} {a0 : (Option (List api_Value))} {a1 : (Option (List api_Value))} {r : Bool} (hm : slices_EqualFunc_Value_value_Same n a0 a1 = some r) :
    call G n 92 [.pv (encSl R_api_Value a0), .pv (encSl R_api_Value a1), .pv (.fn 40 [] [])] [] = some (.ret (aB r), []) := by
  unfold slices_EqualFunc_Value_value_Same at hm
  obtain ⟨n, rfl, h0⟩ := at1_some hm
  replace hm := h0; clear h0
  refine callL 32 [(0, .pv (encSl R_api_Value a0)), (1, .pv (encSl R_api_Value a1)), (2, .pv (.fn 40 [] []))] func92 rfl (by kernel_rfl) (sq (detn [(0, .pv (encSl R_api_Value a0)), (1, .pv (encSl R_api_Value a1)), (2, .pv (.fn 40 [] []))] (by kernel_rfl) ?_))
  refine sq (sq (rg (sh 1 [(10, .pv (encSl R_api_Value a0))] (by kernel_rfl) (dv 11 (v := aI ((sll a0).length : Int)) (len_slO R_api_Value a0 t52 (by kernel_rfl)) (by kernel_rfl) (sh 1 [(12, .pv (encSl R_api_Value a1))] (by kernel_rfl) (dv 13 (v := aI ((sll a1).length : Int)) (len_slO R_api_Value a1 t52 (by kernel_rfl)) (by kernel_rfl) (sh 1 [(14, aB (((sll a0).length : Int) != ((sll a1).length : Int)))] (by kernel_rfl) (fin [(0, .pv (encSl R_api_Value a0)), (1, .pv (encSl R_api_Value a1)), (2, .pv (.fn 40 [] [])), (14, aB (((sll a0).length : Int) != ((sll a1).length : Int)))] rfl (by kernel_rfl) ?_))))))))
  rcases bif_some hm with ⟨h1, hm⟩ | ⟨h1, hm⟩
  ·
   refine ct h1 (by kernel_rfl) (sq (detn [(6, aB false)] (by kernel_rfl) (wp_ret ?_)))
   obtain rfl := Option.some.inj hm
   exact ⟨trivial, by kernel_rfl⟩
  ·
   refine cf h1 (by kernel_rfl) (wp_skip ?_)
   obtain ⟨k4, hk4, hm⟩ := withK_some hm
   refine mid (fun t H => (∃ (y2 : Int) (y3 : Bool), k4 () = some r ∧ t = mk 32 [(1, .pv (encSl R_api_Value a1)), (2, .pv (.fn 40 [] [])), (15, .pv (encSl R_api_Value a0)), (16, aI ((sll a0).length : Int)), (17, aI y2), (18, aB y3)] ∧ H = [])) ?_ ?_
   ·
    rintro _ _ ⟨y2, y3, hm, rfl, rfl⟩
    subst hk4
    refine sq (detn [(6, aB true)] (by kernel_rfl) (wp_ret ?_))
    obtain rfl := Option.some.inj hm
    exact ⟨trivial, by kernel_rfl⟩
   refine sq (rg (sh 1 [(15, .pv (encSl R_api_Value a0))] (by kernel_rfl) (dv 16 (v := aI ((sll a0).length : Int)) (len_slO R_api_Value a0 t52 (by kernel_rfl)) (by kernel_rfl) (sh 1 [(17, aI 0)] (by kernel_rfl) (fin [(1, .pv (encSl R_api_Value a1)), (2, .pv (.fn 40 [] [])), (15, .pv (encSl R_api_Value a0)), (16, aI ((sll a0).length : Int)), (17, aI 0)] rfl (by kernel_rfl) (bq ?_))))))
   refine loopF (fun mm t H => (∃ (y6 : Int), slices_EqualFunc_Value_value_Same_l4 n a0 a1 k4 mm y6 = some r ∧ t = mk 32 [(1, .pv (encSl R_api_Value a1)), (2, .pv (.fn 40 [] [])), (15, .pv (encSl R_api_Value a0)), (16, aI ((sll a0).length : Int)), (17, aI y6)] ∧ H = [])) (⟨0, hm, rfl, rfl⟩) ?_ ?_
   · rintro _ _ ⟨y6, hm, _⟩; exact nomatch hm
   rintro m7 _ _ ⟨y6, hm, rfl, rfl⟩
   simp only [slices_EqualFunc_Value_value_Same_l4] at hm
   refine sq (detn [(1, .pv (encSl R_api_Value a1)), (2, .pv (.fn 40 [] [])), (15, .pv (encSl R_api_Value a0)), (16, aI ((sll a0).length : Int)), (17, aI y6), (18, aB (decide (y6 < ((sll a0).length : Int))))] (by kernel_rfl) ?_)
   refine sq ?_
   rcases bif_some hm with ⟨h8, hm⟩ | ⟨h8, hm⟩
   ·
    refine ct h8 (by kernel_rfl) (wp_skip (sq (bq (sq (rg (sh 1 [(19, aI y6)] (by kernel_rfl) ?_))))))
    obtain ⟨x9, h10, hm⟩ := bs hm
    refine dv 20 (v := .pv (.ptr (R_api_Value x9) 0)) (ia_slO R_api_Value a0 .i64 t52 t64 h10 rfl (by kernel_rfl)) (by kernel_rfl) (st 4 [(7, aI y6), (8, .ptr 0 0), (21, .agg [aI x9.fKind, aI x9.fInt, aF x9.fFloat, aS x9.fText])] [.box [aI x9.fKind, aI x9.fInt, aF x9.fFloat, aS x9.fText] false] (by kernel_rfl) (fin [(1, .pv (encSl R_api_Value a1)), (2, .pv (.fn 40 [] [])), (7, aI y6), (8, .ptr 0 0), (15, .pv (encSl R_api_Value a0)), (16, aI ((sll a0).length : Int)), (17, aI y6)] rfl (by kernel_rfl) (sq (rg (sh 2 [(23, aI y6), (22, .pv (encSl R_api_Value a1))] (by kernel_rfl) ?_)))))
    obtain ⟨x11, h12, hm⟩ := bs hm
    refine dv 24 (v := .pv (.ptr (R_api_Value x11) 0)) (ia_slO R_api_Value a1 .i64 t52 t64 h12 rfl (by kernel_rfl)) (by kernel_rfl) (st 3 [(9, .ptr 1 0), (25, .agg [aI x11.fKind, aI x11.fInt, aF x11.fFloat, aS x11.fText])] [.box [aI x9.fKind, aI x9.fInt, aF x9.fFloat, aS x9.fText] false, .box [aI x11.fKind, aI x11.fInt, aF x11.fFloat, aS x11.fText] false] (by kernel_rfl) (fin [(1, .pv (encSl R_api_Value a1)), (2, .pv (.fn 40 [] [])), (8, .ptr 0 0), (9, .ptr 1 0), (15, .pv (encSl R_api_Value a0)), (16, aI ((sll a0).length : Int)), (17, aI y6)] rfl (by kernel_rfl) (sq (rg (sh 3 [(28, .agg [aI x11.fKind, aI x11.fInt, aF x11.fFloat, aS x11.fText]), (27, .agg [aI x9.fKind, aI x9.fInt, aF x9.fFloat, aS x9.fText]), (26, .pv (.fn 40 [] []))] (by kernel_rfl) ?_)))))
    obtain ⟨x13, h14, hm⟩ := bs hm
    refine dv 29 (cpure (by kernel_rfl) (ok_value_Same h14) (by kernel_rfl) (by kernel_rfl) (by kernel_rfl)) (by kernel_rfl) (sh 1 [(30, aB (!x13))] (by kernel_rfl) (fin [(1, .pv (encSl R_api_Value a1)), (2, .pv (.fn 40 [] [])), (15, .pv (encSl R_api_Value a0)), (16, aI ((sll a0).length : Int)), (17, aI y6), (30, aB (!x13))] rfl (by kernel_rfl) ?_))
    rcases bif_some hm with ⟨h15, hm⟩ | ⟨h15, hm⟩
    ·
     refine ct h15 (by kernel_rfl) (sq (detn [(6, aB false)] (by kernel_rfl) (wp_ret ?_)))
     obtain rfl := Option.some.inj hm
     exact ⟨trivial, by kernel_rfl⟩
    ·
     refine cf h15 (by kernel_rfl) (wp_skip (detn [(1, .pv (encSl R_api_Value a1)), (2, .pv (.fn 40 [] [])), (15, .pv (encSl R_api_Value a0)), (16, aI ((sll a0).length : Int)), (17, aI (IntKind.wrap .i64 (y6 + 1)))] (by kernel_rfl) ?_))
     exact ⟨_, _, tidyL [(1, .pv (encSl R_api_Value a1)), (2, .pv (.fn 40 [] [])), (15, .pv (encSl R_api_Value a0)), (16, aI ((sll a0).length : Int)), (17, aI (IntKind.wrap .i64 (y6 + 1)))] [] (by kernel_rfl), ⟨(IntKind.wrap .i64 (y6 + 1)), hm, rfl, rfl⟩⟩
   ·
    refine cf h8 (by kernel_rfl) (wp_exit ?_)
    exact ⟨y6, (decide (y6 < ((sll a0).length : Int))), hm, rfl, rfl⟩
theorem ok_stat_columns {n : Nat} {a0 : stat_Col} {a1 : stat_Col} {r : Bool} (hm : stat_columns n a0 a1 = some r) :
    call G n 52 [.agg ([aI a0.fKind, aI a0.fNulls, aI a0.fDistinct, .pv (encSl R_hist_Bucket a0.fHist), .pv (encSl R_api_Value a0.fSample)] ++ (aA .u8 64 a0.fSketch.fRegs)), .agg ([aI a1.fKind, aI a1.fNulls, aI a1.fDistinct, .pv (encSl R_hist_Bucket a1.fHist), .pv (encSl R_api_Value a1.fSample)] ++ (aA .u8 64 a1.fSketch.fRegs))] [] = some (.ret (aB r), []) := by
  unfold stat_columns at hm
  obtain ⟨n, rfl, h0⟩ := at1_some hm
  replace hm := h0; clear h0
  refine callL 45 [(0, .agg ([aI a0.fKind, aI a0.fNulls, aI a0.fDistinct, .pv (encSl R_hist_Bucket a0.fHist), .pv (encSl R_api_Value a0.fSample)] ++ (aA .u8 64 a0.fSketch.fRegs))), (1, .agg ([aI a1.fKind, aI a1.fNulls, aI a1.fDistinct, .pv (encSl R_hist_Bucket a1.fHist), .pv (encSl R_api_Value a1.fSample)] ++ (aA .u8 64 a1.fSketch.fRegs)))] func52 rfl (by kernel_rfl) (sq (det [(2, .ptr 0 0), (3, .ptr 1 0)] [.box ([aI a0.fKind, aI a0.fNulls, aI a0.fDistinct, .pv (encSl R_hist_Bucket a0.fHist), .pv (encSl R_api_Value a0.fSample)] ++ (aA .u8 64 a0.fSketch.fRegs)) false, .box ([aI a1.fKind, aI a1.fNulls, aI a1.fDistinct, .pv (encSl R_hist_Bucket a1.fHist), .pv (encSl R_api_Value a1.fSample)] ++ (aA .u8 64 a1.fSketch.fRegs)) false] (by kernel_rfl) (sq (rg (sh 6 [(10, aB (a0.fKind == a1.fKind)), (9, aB (a0.fKind == a1.fKind)), (8, aI a1.fKind), (7, .ptr 1 0), (6, aI a0.fKind), (5, .ptr 0 0)] (by kernel_rfl) ?_)))))
  refine seg (a0.fKind == a1.fKind) [10, 9] (fun b => [(16, aB (b && (a0.fNulls == a1.fNulls))), (15, ifA b (aB (a0.fNulls == a1.fNulls)) (.undef)), (14, ifA b (aI a1.fNulls) (.undef)), (13, ifA b (.ptr 1 1) (.undef)), (12, ifA b (aI a0.fNulls) (.undef)), (11, ifA b (.ptr 0 1) (.undef))]) 12 (by kernel_rfl) ?_ ?_ ?_
  ·
   intro Q h
   refine sh 6 [(16, aB (a0.fNulls == a1.fNulls)), (15, aB (a0.fNulls == a1.fNulls)), (14, aI a1.fNulls), (13, .ptr 1 1), (12, aI a0.fNulls), (11, .ptr 0 1)] (by kernel_rfl) ?_
   exact sameN (by kernel_rfl) (by kernel_rfl) h
  ·
   intro Q h
   refine sh 6 [(16, aB false), (15, .undef), (14, .undef), (13, .undef), (12, .undef), (11, .undef)] (by kernel_rfl) ?_
   exact sameN (by kernel_rfl) (by kernel_rfl) h
  refine sh 1 [(17, aB ((a0.fKind == a1.fKind) && (a0.fNulls == a1.fNulls)))] (by kernel_rfl) ?_
  refine seg ((a0.fKind == a1.fKind) && (a0.fNulls == a1.fNulls)) [17, 16] (fun b => [(23, aB (b && (a0.fDistinct == a1.fDistinct))), (22, ifA b (aB (a0.fDistinct == a1.fDistinct)) (.undef)), (21, ifA b (aI a1.fDistinct) (.undef)), (20, ifA b (.ptr 1 2) (.undef)), (19, ifA b (aI a0.fDistinct) (.undef)), (18, ifA b (.ptr 0 2) (.undef))]) 19 (by kernel_rfl) ?_ ?_ ?_
  ·
   intro Q h
   refine sh 6 [(23, aB (a0.fDistinct == a1.fDistinct)), (22, aB (a0.fDistinct == a1.fDistinct)), (21, aI a1.fDistinct), (20, .ptr 1 2), (19, aI a0.fDistinct), (18, .ptr 0 2)] (by kernel_rfl) ?_
   exact sameN (by kernel_rfl) (by kernel_rfl) h
  ·
   intro Q h
   refine sh 6 [(23, aB false), (22, .undef), (21, .undef), (20, .undef), (19, .undef), (18, .undef)] (by kernel_rfl) ?_
   exact sameN (by kernel_rfl) (by kernel_rfl) h
  refine sh 1 [(24, aB (((a0.fKind == a1.fKind) && (a0.fNulls == a1.fNulls)) && (a0.fDistinct == a1.fDistinct)))] (by kernel_rfl) ?_
  rcases bif_some hm with ⟨h1, hm⟩ | ⟨h1, hm⟩
  ·
   refine known [24, 23] h1 (by kernel_rfl) (sh 4 [(28, .pv (encSl R_hist_Bucket a1.fHist)), (27, .ptr 1 3), (26, .pv (encSl R_hist_Bucket a0.fHist)), (25, .ptr 0 3)] (by kernel_rfl) ?_)
   obtain ⟨x2, h3, hm⟩ := bs hm
   refine dv 29 (cpure (by kernel_rfl) (ok_slices_EqualFunc_Bucket_stat_buckets h3) (by kernel_rfl) (by kernel_rfl) (by kernel_rfl)) (by kernel_rfl) (sh 2 [(31, aB x2), (30, aB x2)] (by kernel_rfl) ?_)
   rcases bif_some hm with ⟨h4, hm⟩ | ⟨h4, hm⟩
   ·
    refine known [31, 30, 29] h4 (by kernel_rfl) (sh 4 [(35, .pv (encSl R_api_Value a1.fSample)), (34, .ptr 1 4), (33, .pv (encSl R_api_Value a0.fSample)), (32, .ptr 0 4)] (by kernel_rfl) ?_)
    obtain ⟨x5, h6, hm⟩ := bs hm
    refine dv 36 (cpure (by kernel_rfl) (ok_slices_EqualFunc_Value_value_Same h6) (by kernel_rfl) (by kernel_rfl) (by kernel_rfl)) (by kernel_rfl) (sh 2 [(38, aB x5), (37, aB x5)] (by kernel_rfl) ?_)
    refine seg x5 [38, 37, 36] (fun b => [(44, aB (b && (eqA 64 a0.fSketch.fRegs a1.fSketch.fRegs))), (43, ifA b (aB (eqA 64 a0.fSketch.fRegs a1.fSketch.fRegs)) (.undef)), (42, ifA b (.agg (aA .u8 64 a1.fSketch.fRegs)) (.undef)), (41, ifA b (.ptr 1 5) (.undef)), (40, ifA b (.agg (aA .u8 64 a0.fSketch.fRegs)) (.undef)), (39, ifA b (.ptr 0 5) (.undef))]) 40 (by kernel_rfl) ?_ ?_ ?_
    ·
     intro Q h
     refine sh 6 [(44, aB (eqA 64 a0.fSketch.fRegs a1.fSketch.fRegs)), (43, aB (eqA 64 a0.fSketch.fRegs a1.fSketch.fRegs)), (42, .agg (aA .u8 64 a1.fSketch.fRegs)), (41, .ptr 1 5), (40, .agg (aA .u8 64 a0.fSketch.fRegs)), (39, .ptr 0 5)] (by kernel_rfl) ?_
     exact sameN (by kernel_rfl) (by kernel_rfl) h
    ·
     intro Q h
     refine sh 6 [(44, aB false), (43, .undef), (42, .undef), (41, .undef), (40, .undef), (39, .undef)] (by kernel_rfl) ?_
     exact sameN (by kernel_rfl) (by kernel_rfl) h
    refine sh 1 [(4, aB (x5 && (eqA 64 a0.fSketch.fRegs a1.fSketch.fRegs)))] (by kernel_rfl) (fin [(4, aB (x5 && (eqA 64 a0.fSketch.fRegs a1.fSketch.fRegs)))] rfl (by kernel_rfl) (wp_ret ?_))
    obtain rfl := Option.some.inj hm
    exact ⟨trivial, by kernel_rfl⟩
   ·
    refine known [31, 30, 29] h4 (by kernel_rfl) (sh 14 [(4, aB false), (44, aB false), (43, .undef), (42, .undef), (41, .undef), (40, .undef), (39, .undef), (38, aB false), (37, aB false), (36, .undef), (35, .undef), (34, .undef), (33, .undef), (32, .undef)] (by kernel_rfl) (fin [(4, aB false)] rfl (by kernel_rfl) (wp_ret ?_)))
    obtain rfl := Option.some.inj hm
    exact ⟨trivial, by kernel_rfl⟩
  ·
   refine known [24, 23] h1 (by kernel_rfl) (sh 21 [(4, aB false), (44, aB false), (43, .undef), (42, .undef), (41, .undef), (40, .undef), (39, .undef), (38, aB false), (37, aB false), (36, .undef), (35, .undef), (34, .undef), (33, .undef), (32, .undef), (31, aB false), (30, aB false), (29, .undef), (28, .undef), (27, .undef), (26, .undef), (25, .undef)] (by kernel_rfl) (fin [(4, aB false)] rfl (by kernel_rfl) (wp_ret ?_)))
   obtain rfl := Option.some.inj hm
   exact ⟨trivial, by kernel_rfl⟩
theorem ok_slices_EqualFunc_Col_stat_columns {n : Nat} {a0 : (Option (List stat_Col))} {a1 : (Option (List stat_Col))} {r : Bool} (hm : slices_EqualFunc_Col_stat_columns n a0 a1 = some r) :
    call G n 51 [.pv (encSl R_stat_Col a0), .pv (encSl R_stat_Col a1), .pv (.fn 52 [] [])] [] = some (.ret (aB r), []) := by
  unfold slices_EqualFunc_Col_stat_columns at hm
  obtain ⟨n, rfl, h0⟩ := at1_some hm
  replace hm := h0; clear h0
  refine callL 32 [(0, .pv (encSl R_stat_Col a0)), (1, .pv (encSl R_stat_Col a1)), (2, .pv (.fn 52 [] []))] func51 rfl (by kernel_rfl) (sq (detn [(0, .pv (encSl R_stat_Col a0)), (1, .pv (encSl R_stat_Col a1)), (2, .pv (.fn 52 [] []))] (by kernel_rfl) ?_))
  refine sq (sq (rg (sh 1 [(10, .pv (encSl R_stat_Col a0))] (by kernel_rfl) (dv 11 (v := aI ((sll a0).length : Int)) (len_slO R_stat_Col a0 t29 (by kernel_rfl)) (by kernel_rfl) (sh 1 [(12, .pv (encSl R_stat_Col a1))] (by kernel_rfl) (dv 13 (v := aI ((sll a1).length : Int)) (len_slO R_stat_Col a1 t29 (by kernel_rfl)) (by kernel_rfl) (sh 1 [(14, aB (((sll a0).length : Int) != ((sll a1).length : Int)))] (by kernel_rfl) (fin [(0, .pv (encSl R_stat_Col a0)), (1, .pv (encSl R_stat_Col a1)), (2, .pv (.fn 52 [] [])), (14, aB (((sll a0).length : Int) != ((sll a1).length : Int)))] rfl (by kernel_rfl) ?_))))))))
  rcases bif_some hm with ⟨h1, hm⟩ | ⟨h1, hm⟩
  ·
   refine ct h1 (by kernel_rfl) (sq (detn [(6, aB false)] (by kernel_rfl) (wp_ret ?_)))
   obtain rfl := Option.some.inj hm
   exact ⟨trivial, by kernel_rfl⟩
  ·
   refine cf h1 (by kernel_rfl) (wp_skip ?_)
   obtain ⟨k4, hk4, hm⟩ := withK_some hm
   refine mid (fun t H => (∃ (y2 : Int) (y3 : Bool), k4 () = some r ∧ t = mk 32 [(1, .pv (encSl R_stat_Col a1)), (2, .pv (.fn 52 [] [])), (15, .pv (encSl R_stat_Col a0)), (16, aI ((sll a0).length : Int)), (17, aI y2), (18, aB y3)] ∧ H = [])) ?_ ?_
   ·
    rintro _ _ ⟨y2, y3, hm, rfl, rfl⟩
    subst hk4
    refine sq (detn [(6, aB true)] (by kernel_rfl) (wp_ret ?_))
    obtain rfl := Option.some.inj hm
    exact ⟨trivial, by kernel_rfl⟩
   refine sq (rg (sh 1 [(15, .pv (encSl R_stat_Col a0))] (by kernel_rfl) (dv 16 (v := aI ((sll a0).length : Int)) (len_slO R_stat_Col a0 t29 (by kernel_rfl)) (by kernel_rfl) (sh 1 [(17, aI 0)] (by kernel_rfl) (fin [(1, .pv (encSl R_stat_Col a1)), (2, .pv (.fn 52 [] [])), (15, .pv (encSl R_stat_Col a0)), (16, aI ((sll a0).length : Int)), (17, aI 0)] rfl (by kernel_rfl) (bq ?_))))))
   refine loopF (fun mm t H => (∃ (y6 : Int), slices_EqualFunc_Col_stat_columns_l4 n a0 a1 k4 mm y6 = some r ∧ t = mk 32 [(1, .pv (encSl R_stat_Col a1)), (2, .pv (.fn 52 [] [])), (15, .pv (encSl R_stat_Col a0)), (16, aI ((sll a0).length : Int)), (17, aI y6)] ∧ H = [])) (⟨0, hm, rfl, rfl⟩) ?_ ?_
   · rintro _ _ ⟨y6, hm, _⟩; exact nomatch hm
   rintro m7 _ _ ⟨y6, hm, rfl, rfl⟩
   simp only [slices_EqualFunc_Col_stat_columns_l4] at hm
   refine sq (detn [(1, .pv (encSl R_stat_Col a1)), (2, .pv (.fn 52 [] [])), (15, .pv (encSl R_stat_Col a0)), (16, aI ((sll a0).length : Int)), (17, aI y6), (18, aB (decide (y6 < ((sll a0).length : Int))))] (by kernel_rfl) ?_)
   refine sq ?_
   rcases bif_some hm with ⟨h8, hm⟩ | ⟨h8, hm⟩
   ·
    refine ct h8 (by kernel_rfl) (wp_skip (sq (bq (sq (rg (sh 1 [(19, aI y6)] (by kernel_rfl) ?_))))))
    obtain ⟨x9, h10, hm⟩ := bs hm
    refine dv 20 (v := .pv (.ptr (R_stat_Col x9) 0)) (ia_slO R_stat_Col a0 .i64 t29 t91 h10 rfl (by kernel_rfl)) (by kernel_rfl) (st 4 [(7, aI y6), (8, .ptr 0 0), (21, .agg ([aI x9.fKind, aI x9.fNulls, aI x9.fDistinct, .pv (encSl R_hist_Bucket x9.fHist), .pv (encSl R_api_Value x9.fSample)] ++ (aA .u8 64 x9.fSketch.fRegs)))] [.box ([aI x9.fKind, aI x9.fNulls, aI x9.fDistinct, .pv (encSl R_hist_Bucket x9.fHist), .pv (encSl R_api_Value x9.fSample)] ++ (aA .u8 64 x9.fSketch.fRegs)) false] (by kernel_rfl) (fin [(1, .pv (encSl R_stat_Col a1)), (2, .pv (.fn 52 [] [])), (7, aI y6), (8, .ptr 0 0), (15, .pv (encSl R_stat_Col a0)), (16, aI ((sll a0).length : Int)), (17, aI y6)] rfl (by kernel_rfl) (sq (rg (sh 2 [(23, aI y6), (22, .pv (encSl R_stat_Col a1))] (by kernel_rfl) ?_)))))
    obtain ⟨x11, h12, hm⟩ := bs hm
    refine dv 24 (v := .pv (.ptr (R_stat_Col x11) 0)) (ia_slO R_stat_Col a1 .i64 t29 t91 h12 rfl (by kernel_rfl)) (by kernel_rfl) (st 3 [(9, .ptr 1 0), (25, .agg ([aI x11.fKind, aI x11.fNulls, aI x11.fDistinct, .pv (encSl R_hist_Bucket x11.fHist), .pv (encSl R_api_Value x11.fSample)] ++ (aA .u8 64 x11.fSketch.fRegs)))] [.box ([aI x9.fKind, aI x9.fNulls, aI x9.fDistinct, .pv (encSl R_hist_Bucket x9.fHist), .pv (encSl R_api_Value x9.fSample)] ++ (aA .u8 64 x9.fSketch.fRegs)) false, .box ([aI x11.fKind, aI x11.fNulls, aI x11.fDistinct, .pv (encSl R_hist_Bucket x11.fHist), .pv (encSl R_api_Value x11.fSample)] ++ (aA .u8 64 x11.fSketch.fRegs)) false] (by kernel_rfl) (fin [(1, .pv (encSl R_stat_Col a1)), (2, .pv (.fn 52 [] [])), (8, .ptr 0 0), (9, .ptr 1 0), (15, .pv (encSl R_stat_Col a0)), (16, aI ((sll a0).length : Int)), (17, aI y6)] rfl (by kernel_rfl) (sq (rg (sh 3 [(28, .agg ([aI x11.fKind, aI x11.fNulls, aI x11.fDistinct, .pv (encSl R_hist_Bucket x11.fHist), .pv (encSl R_api_Value x11.fSample)] ++ (aA .u8 64 x11.fSketch.fRegs))), (27, .agg ([aI x9.fKind, aI x9.fNulls, aI x9.fDistinct, .pv (encSl R_hist_Bucket x9.fHist), .pv (encSl R_api_Value x9.fSample)] ++ (aA .u8 64 x9.fSketch.fRegs))), (26, .pv (.fn 52 [] []))] (by kernel_rfl) ?_)))))
    obtain ⟨x13, h14, hm⟩ := bs hm
    refine dv 29 (cpure (by kernel_rfl) (ok_stat_columns h14) (by kernel_rfl) (by kernel_rfl) (by kernel_rfl)) (by kernel_rfl) (sh 1 [(30, aB (!x13))] (by kernel_rfl) (fin [(1, .pv (encSl R_stat_Col a1)), (2, .pv (.fn 52 [] [])), (15, .pv (encSl R_stat_Col a0)), (16, aI ((sll a0).length : Int)), (17, aI y6), (30, aB (!x13))] rfl (by kernel_rfl) ?_))
    rcases bif_some hm with ⟨h15, hm⟩ | ⟨h15, hm⟩
    ·
     refine ct h15 (by kernel_rfl) (sq (detn [(6, aB false)] (by kernel_rfl) (wp_ret ?_)))
     obtain rfl := Option.some.inj hm
     exact ⟨trivial, by kernel_rfl⟩
    ·
     refine cf h15 (by kernel_rfl) (wp_skip (detn [(1, .pv (encSl R_stat_Col a1)), (2, .pv (.fn 52 [] [])), (15, .pv (encSl R_stat_Col a0)), (16, aI ((sll a0).length : Int)), (17, aI (IntKind.wrap .i64 (y6 + 1)))] (by kernel_rfl) ?_))
     exact ⟨_, _, tidyL [(1, .pv (encSl R_stat_Col a1)), (2, .pv (.fn 52 [] [])), (15, .pv (encSl R_stat_Col a0)), (16, aI ((sll a0).length : Int)), (17, aI (IntKind.wrap .i64 (y6 + 1)))] [] (by kernel_rfl), ⟨(IntKind.wrap .i64 (y6 + 1)), hm, rfl, rfl⟩⟩
   ·
    refine cf h8 (by kernel_rfl) (wp_exit ?_)
    exact ⟨y6, (decide (y6 < ((sll a0).length : Int))), hm, rfl, rfl⟩
theorem ok_stat_Same {n : Nat} {a0 : stat_Stat} {a1 : stat_Stat} {r : Bool} (hm : stat_Same n a0 a1 = some r) :
    call G n 16 [.agg [aI a0.fRows, .pv (encSl R_stat_Col a0.fCols)], .agg [aI a1.fRows, .pv (encSl R_stat_Col a1.fCols)]] [] = some (.ret (aB r), []) := by
  unfold stat_Same at hm
  obtain ⟨n, rfl, h0⟩ := at1_some hm
  replace hm := h0; clear h0
  refine callL 17 [(0, .agg [aI a0.fRows, .pv (encSl R_stat_Col a0.fCols)]), (1, .agg [aI a1.fRows, .pv (encSl R_stat_Col a1.fCols)])] func16 rfl (by kernel_rfl) (sq (det [(2, .ptr 0 0), (3, .ptr 1 0)] [.box [aI a0.fRows, .pv (encSl R_stat_Col a0.fCols)] false, .box [aI a1.fRows, .pv (encSl R_stat_Col a1.fCols)] false] (by kernel_rfl) (sq (rg (sh 6 [(10, aB (a0.fRows == a1.fRows)), (9, aB (a0.fRows == a1.fRows)), (8, aI a1.fRows), (7, .ptr 1 0), (6, aI a0.fRows), (5, .ptr 0 0)] (by kernel_rfl) ?_)))))
  rcases bif_some hm with ⟨h1, hm⟩ | ⟨h1, hm⟩
  ·
   refine known [10, 9] h1 (by kernel_rfl) (sh 4 [(14, .pv (encSl R_stat_Col a1.fCols)), (13, .ptr 1 1), (12, .pv (encSl R_stat_Col a0.fCols)), (11, .ptr 0 1)] (by kernel_rfl) ?_)
   obtain ⟨x2, h3, hm⟩ := bs hm
   refine dv 15 (cpure (by kernel_rfl) (ok_slices_EqualFunc_Col_stat_columns h3) (by kernel_rfl) (by kernel_rfl) (by kernel_rfl)) (by kernel_rfl) (sh 2 [(4, aB x2), (16, aB x2)] (by kernel_rfl) (fin [(4, aB x2)] rfl (by kernel_rfl) (wp_ret ?_)))
   obtain rfl := Option.some.inj hm
   exact ⟨trivial, by kernel_rfl⟩
  ·
   refine known [10, 9] h1 (by kernel_rfl) (sh 7 [(4, aB false), (16, aB false), (15, .undef), (14, .undef), (13, .undef), (12, .undef), (11, .undef)] (by kernel_rfl) (fin [(4, aB false)] rfl (by kernel_rfl) (wp_ret ?_)))
   obtain rfl := Option.some.inj hm
   exact ⟨trivial, by kernel_rfl⟩
theorem ok_ref05_Cmp {n : Nat} {a0 : (Option (List api_Value))} {a1 : (Option (List api_Value))} {r : Int} (hm : ref05_Cmp n a0 a1 = some r) :
    call G n 53 [.pv (encSl R_api_Value a0), .pv (encSl R_api_Value a1)] [] = some (.ret (aI r), []) := by
  unfold ref05_Cmp at hm
  obtain ⟨n, rfl, h0⟩ := at1_some hm
  replace hm := h0; clear h0
  refine callL 41 [(0, .pv (encSl R_api_Value a0)), (1, .pv (encSl R_api_Value a1))] func53 rfl (by kernel_rfl) (sq (detn [(0, .pv (encSl R_api_Value a0)), (1, .pv (encSl R_api_Value a1))] (by kernel_rfl) ?_))
  obtain ⟨k3, hk3, hm⟩ := withK_some hm
  refine mid (fun t H => (∃ (y1 : Bool) (y2 : Int), k3 () = some r ∧ t = mk 41 [(0, .pv (encSl R_api_Value a0)), (1, .pv (encSl R_api_Value a1)), (5, aI y2), (16, aB y1)] ∧ H = [])) ?_ ?_
  ·
   rintro _ _ ⟨y1, y2, hm, rfl, rfl⟩
   subst hk3
   refine sq (sq (rg (sh 1 [(31, .pv (encSl R_api_Value a0))] (by kernel_rfl) (dv 32 (v := aI ((sll a0).length : Int)) (len_slO R_api_Value a0 t52 (by kernel_rfl)) (by kernel_rfl) (sh 1 [(33, .pv (encSl R_api_Value a1))] (by kernel_rfl) (dv 34 (v := aI ((sll a1).length : Int)) (len_slO R_api_Value a1 t52 (by kernel_rfl)) (by kernel_rfl) (sh 1 [(35, aB (decide (((sll a0).length : Int) < ((sll a1).length : Int))))] (by kernel_rfl) (fin [(0, .pv (encSl R_api_Value a0)), (1, .pv (encSl R_api_Value a1)), (35, aB (decide (((sll a0).length : Int) < ((sll a1).length : Int))))] rfl (by kernel_rfl) ?_))))))))
   rcases bif_some hm with ⟨h4, hm⟩ | ⟨h4, hm⟩
   ·
    refine ct h4 (by kernel_rfl) (sq (detn [(4, aI (-1))] (by kernel_rfl) (wp_ret ?_)))
    obtain rfl := Option.some.inj hm
    exact ⟨trivial, by kernel_rfl⟩
   ·
    refine cf h4 (by kernel_rfl) (wp_skip (sq (sq (rg (sh 1 [(36, .pv (encSl R_api_Value a0))] (by kernel_rfl) (dv 37 (v := aI ((sll a0).length : Int)) (len_slO R_api_Value a0 t52 (by kernel_rfl)) (by kernel_rfl) (sh 1 [(38, .pv (encSl R_api_Value a1))] (by kernel_rfl) (dv 39 (v := aI ((sll a1).length : Int)) (len_slO R_api_Value a1 t52 (by kernel_rfl)) (by kernel_rfl) (sh 1 [(40, aB (decide (((sll a0).length : Int) > ((sll a1).length : Int))))] (by kernel_rfl) (fin [(40, aB (decide (((sll a0).length : Int) > ((sll a1).length : Int))))] rfl (by kernel_rfl) ?_))))))))))
    rcases bif_some hm with ⟨h5, hm⟩ | ⟨h5, hm⟩
    ·
     refine ct h5 (by kernel_rfl) (sq (detn [(4, aI 1)] (by kernel_rfl) (wp_ret ?_)))
     obtain rfl := Option.some.inj hm
     exact ⟨trivial, by kernel_rfl⟩
    ·
     refine cf h5 (by kernel_rfl) (wp_skip (sq (detn [(4, aI 0)] (by kernel_rfl) (wp_ret ?_))))
     obtain rfl := Option.some.inj hm
     exact ⟨trivial, by kernel_rfl⟩
  refine sq (detn [(0, .pv (encSl R_api_Value a0)), (1, .pv (encSl R_api_Value a1)), (5, aI 0)] (by kernel_rfl) (bq ?_))
  refine loopF (fun mm t H => (∃ (y7 : Int), ref05_Cmp_l2 n a0 a1 k3 mm y7 = some r ∧ t = mk 41 [(0, .pv (encSl R_api_Value a0)), (1, .pv (encSl R_api_Value a1)), (5, aI y7)] ∧ H = [])) (⟨0, hm, rfl, rfl⟩) ?_ ?_
  · rintro _ _ ⟨y7, hm, _⟩; exact nomatch hm
  rintro m8 _ _ ⟨y7, hm, rfl, rfl⟩
  simp only [ref05_Cmp_l2] at hm
  refine sq (sq (rg (sh 2 [(8, .pv (encSl R_api_Value a0)), (7, aI y7)] (by kernel_rfl) (dv 9 (v := aI ((sll a0).length : Int)) (len_slO R_api_Value a0 t52 (by kernel_rfl)) (by kernel_rfl) (sh 2 [(11, aB (decide (y7 < ((sll a0).length : Int)))), (10, aB (decide (y7 < ((sll a0).length : Int))))] (by kernel_rfl) ?_)))))
  refine seg (decide (y7 < ((sll a0).length : Int))) [11, 10] (fun b => [(16, aB (b && (decide (y7 < ((sll a1).length : Int))))), (15, ifA b (aB (decide (y7 < ((sll a1).length : Int)))) (.undef)), (14, ifA b (aI ((sll a1).length : Int)) (.undef)), (13, ifA b (.pv (encSl R_api_Value a1)) (.undef)), (12, ifA b (aI y7) (.undef))]) 10 (by kernel_rfl) ?_ ?_ ?_
  ·
   intro Q h
   refine sh 2 [(13, .pv (encSl R_api_Value a1)), (12, aI y7)] (by kernel_rfl) (dv 14 (v := aI ((sll a1).length : Int)) (len_slO R_api_Value a1 t52 (by kernel_rfl)) (by kernel_rfl) (sh 2 [(16, aB (decide (y7 < ((sll a1).length : Int)))), (15, aB (decide (y7 < ((sll a1).length : Int))))] (by kernel_rfl) ?_))
   exact sameN (by kernel_rfl) (by kernel_rfl) h
  ·
   intro Q h
   refine sh 5 [(16, aB false), (15, .undef), (14, .undef), (13, .undef), (12, .undef)] (by kernel_rfl) ?_
   exact sameN (by kernel_rfl) (by kernel_rfl) h
  refine fin [(0, .pv (encSl R_api_Value a0)), (1, .pv (encSl R_api_Value a1)), (5, aI y7), (16, aB ((decide (y7 < ((sll a0).length : Int))) && (decide (y7 < ((sll a1).length : Int)))))] rfl (by kernel_rfl) ?_
  rcases bif_some hm with ⟨h9, hm⟩ | ⟨h9, hm⟩
  ·
   refine ct h9 (by kernel_rfl) (wp_skip (sq (bq (sq (rgd (shd 2 [(20, aI y7), (19, .pv (encSl R_api_Value a0))] (by kernel_rfl) ?_))))))
   obtain ⟨x10, h11, hm⟩ := bs hm
   refine dvd 21 (v := .pv (.ptr (R_api_Value x10) 0)) (ia_slO R_api_Value a0 .i64 t52 t64 h11 rfl (by kernel_rfl)) (by kernel_rfl) (shd 3 [(24, aI y7), (23, .pv (encSl R_api_Value a1)), (22, .agg [aI x10.fKind, aI x10.fInt, aF x10.fFloat, aS x10.fText])] (by kernel_rfl) ?_)
   obtain ⟨x12, h13, hm⟩ := bs hm
   refine dvd 25 (v := .pv (.ptr (R_api_Value x12) 0)) (ia_slO R_api_Value a1 .i64 t52 t64 h13 rfl (by kernel_rfl)) (by kernel_rfl) (shd 1 [(26, .agg [aI x12.fKind, aI x12.fInt, aF x12.fFloat, aS x12.fText])] (by kernel_rfl) ?_)
   obtain ⟨x14, h15, hm⟩ := bs hm
   refine dvd 27 (cpure (by kernel_rfl) (ok_ref04_Cmp h15) (by kernel_rfl) (by kernel_rfl) (by kernel_rfl)) (by kernel_rfl) (shd 1 [(6, aI x14)] (by kernel_rfl) (find [(0, .pv (encSl R_api_Value a0)), (1, .pv (encSl R_api_Value a1)), (5, aI y7), (6, aI x14)] rfl (by kernel_rfl) (by kernel_rfl) (sq (detn [(0, .pv (encSl R_api_Value a0)), (1, .pv (encSl R_api_Value a1)), (5, aI y7), (6, aI x14), (29, aB (x14 != 0))] (by kernel_rfl) ?_))))
   rcases bif_some hm with ⟨h16, hm⟩ | ⟨h16, hm⟩
   ·
    refine ct h16 (by kernel_rfl) (sq (detn [(4, aI x14)] (by kernel_rfl) (wp_ret ?_)))
    obtain rfl := Option.some.inj hm
    exact ⟨trivial, by kernel_rfl⟩
   ·
    refine cf h16 (by kernel_rfl) (wp_skip (detn [(0, .pv (encSl R_api_Value a0)), (1, .pv (encSl R_api_Value a1)), (5, aI (IntKind.wrap .i64 (y7 + 1)))] (by kernel_rfl) ?_))
    exact ⟨_, _, tidyL [(0, .pv (encSl R_api_Value a0)), (1, .pv (encSl R_api_Value a1)), (5, aI (IntKind.wrap .i64 (y7 + 1)))] [] (by kernel_rfl), ⟨(IntKind.wrap .i64 (y7 + 1)), hm, rfl, rfl⟩⟩
  ·
   refine cf h9 (by kernel_rfl) (wp_exit ?_)
   exact ⟨((decide (y7 < ((sll a0).length : Int))) && (decide (y7 < ((sll a1).length : Int)))), y7, hm, rfl, rfl⟩
theorem ok_ref20_Same {n : Nat} {a0 : tabularyref20_Stat} {a1 : tabularyref20_Stat} {r : Bool} (hm : ref20_Same n a0 a1 = some r) :
    call G n 17 [.agg [aI a0.fRows, .pv (encSl R_tabularyref20_Col a0.fCols)], .agg [aI a1.fRows, .pv (encSl R_tabularyref20_Col a1.fCols)]] [] = some (.ret (aB r), []) := by
  unfold ref20_Same at hm
  obtain ⟨n, rfl, h0⟩ := at1_some hm
  replace hm := h0; clear h0
  refine callL 130 [(0, .agg [aI a0.fRows, .pv (encSl R_tabularyref20_Col a0.fCols)]), (1, .agg [aI a1.fRows, .pv (encSl R_tabularyref20_Col a1.fCols)])] func17 rfl (by kernel_rfl) (sq (det [(2, .ptr 0 0), (3, .ptr 1 0)] [.box [aI a0.fRows, .pv (encSl R_tabularyref20_Col a0.fCols)] false, .box [aI a1.fRows, .pv (encSl R_tabularyref20_Col a1.fCols)] false] (by kernel_rfl) ?_))
  refine sq (sq (rg (sh 6 [(16, aB (a0.fRows != a1.fRows)), (15, aB (a0.fRows != a1.fRows)), (14, aI a1.fRows), (13, .ptr 1 0), (12, aI a0.fRows), (11, .ptr 0 0)] (by kernel_rfl) ?_)))
  refine seg (a0.fRows != a1.fRows) [16, 15] (fun b => [(24, aB (b || (((sll a0.fCols).length : Int) != ((sll a1.fCols).length : Int)))), (23, ifA b (.undef) (aB (((sll a0.fCols).length : Int) != ((sll a1.fCols).length : Int)))), (22, ifA b (.undef) (aI ((sll a1.fCols).length : Int))), (21, ifA b (.undef) (.pv (encSl R_tabularyref20_Col a1.fCols))), (20, ifA b (.undef) (.ptr 1 1)), (19, ifA b (.undef) (aI ((sll a0.fCols).length : Int))), (18, ifA b (.undef) (.pv (encSl R_tabularyref20_Col a0.fCols))), (17, ifA b (.undef) (.ptr 0 1))]) 14 (by kernel_rfl) ?_ ?_ ?_
  ·
   intro Q h
   refine sh 8 [(24, aB true), (23, .undef), (22, .undef), (21, .undef), (20, .undef), (19, .undef), (18, .undef), (17, .undef)] (by kernel_rfl) ?_
   exact sameN (by kernel_rfl) (by kernel_rfl) h
  ·
   intro Q h
   refine sh 2 [(18, .pv (encSl R_tabularyref20_Col a0.fCols)), (17, .ptr 0 1)] (by kernel_rfl) (dv 19 (v := aI ((sll a0.fCols).length : Int)) (len_slO R_tabularyref20_Col a0.fCols t22 (by kernel_rfl)) (by kernel_rfl) (sh 2 [(21, .pv (encSl R_tabularyref20_Col a1.fCols)), (20, .ptr 1 1)] (by kernel_rfl) (dv 22 (v := aI ((sll a1.fCols).length : Int)) (len_slO R_tabularyref20_Col a1.fCols t22 (by kernel_rfl)) (by kernel_rfl) (sh 2 [(24, aB (((sll a0.fCols).length : Int) != ((sll a1.fCols).length : Int))), (23, aB (((sll a0.fCols).length : Int) != ((sll a1.fCols).length : Int)))] (by kernel_rfl) ?_))))
   exact sameN (by kernel_rfl) (by kernel_rfl) h
  refine fin [(2, .ptr 0 0), (3, .ptr 1 0), (24, aB ((a0.fRows != a1.fRows) || (((sll a0.fCols).length : Int) != ((sll a1.fCols).length : Int))))] rfl (by kernel_rfl) ?_
  rcases bif_some hm with ⟨h1, hm⟩ | ⟨h1, hm⟩
  ·
   refine ct h1 (by kernel_rfl) (sq (detn [(4, aB false)] (by kernel_rfl) (wp_ret ?_)))
   obtain rfl := Option.some.inj hm
   exact ⟨trivial, by kernel_rfl⟩
  ·
   refine cf h1 (by kernel_rfl) (wp_skip ?_)
   obtain ⟨k4, hk4, hm⟩ := withK_some hm
   refine mid (fun t H => (∃ (y2 : Bool) (y3 : Int), k4 () = some r ∧ t = mk 130 [(2, .ptr 0 0), (3, .ptr 1 0), (5, aI y3), (29, aB y2)] ∧ H = [.box [aI a0.fRows, .pv (encSl R_tabularyref20_Col a0.fCols)] false, .box [aI a1.fRows, .pv (encSl R_tabularyref20_Col a1.fCols)] false])) ?_ ?_
   ·
    rintro _ _ ⟨y2, y3, hm, rfl, rfl⟩
    subst hk4
    refine sq (detn [(4, aB true)] (by kernel_rfl) (wp_ret ?_))
    obtain rfl := Option.some.inj hm
    exact ⟨trivial, by kernel_rfl⟩
   refine sq (detn [(2, .ptr 0 0), (3, .ptr 1 0), (5, aI 0)] (by kernel_rfl) (bq ?_))
   refine loopF (fun mm t H => (∃ (y6 : Int), ref20_Same_l4 n a0 a1 k4 mm y6 = some r ∧ t = mk 130 [(2, .ptr 0 0), (3, .ptr 1 0), (5, aI y6)] ∧ H = [.box [aI a0.fRows, .pv (encSl R_tabularyref20_Col a0.fCols)] false, .box [aI a1.fRows, .pv (encSl R_tabularyref20_Col a1.fCols)] false])) (⟨0, hm, rfl, rfl⟩) ?_ ?_
   · rintro _ _ ⟨y6, hm, _⟩; exact nomatch hm
   rintro m7 _ _ ⟨y6, hm, rfl, rfl⟩
   simp only [ref20_Same_l4] at hm
   refine sq (sq (rg (sh 3 [(27, .pv (encSl R_tabularyref20_Col a0.fCols)), (26, .ptr 0 1), (25, aI y6)] (by kernel_rfl) (dv 28 (v := aI ((sll a0.fCols).length : Int)) (len_slO R_tabularyref20_Col a0.fCols t22 (by kernel_rfl)) (by kernel_rfl) (sh 1 [(29, aB (decide (y6 < ((sll a0.fCols).length : Int))))] (by kernel_rfl) (fin [(2, .ptr 0 0), (3, .ptr 1 0), (5, aI y6), (29, aB (decide (y6 < ((sll a0.fCols).length : Int))))] rfl (by kernel_rfl) ?_))))))
   rcases bif_some hm with ⟨h8, hm⟩ | ⟨h8, hm⟩
   ·
    refine ct h8 (by kernel_rfl) (wp_skip ?_)
    obtain ⟨k23, hk23, hm⟩ := withK_some hm
    refine mid (fun t H => (∃ (y9 : Int) (y10 : Int) (y11 : Int) (y12 : (Option (List tabularyref19_Bucket))) (y13 : (Option (List api_Value))) (y14 : (Nat → Int)) (y15 : Int) (y16 : Int) (y17 : Int) (y18 : (Option (List tabularyref19_Bucket))) (y19 : (Option (List api_Value))) (y20 : (Nat → Int)) (y21 : Int) (y22 : Bool), k23 () = some r ∧ t = mk 130 [(2, .ptr 0 0), (3, .ptr 1 0), (5, aI y6), (6, .ptr 2 0), (7, .ptr 3 0), (8, aI y21), (89, aB y22)] ∧ H = [.box [aI a0.fRows, .pv (encSl R_tabularyref20_Col a0.fCols)] false, .box [aI a1.fRows, .pv (encSl R_tabularyref20_Col a1.fCols)] false, .box ([aI y9, aI y10, aI y11, .pv (encSl R_tabularyref19_Bucket y12), .pv (encSl R_api_Value y13)] ++ (aA .u8 64 y14)) false, .box ([aI y15, aI y16, aI y17, .pv (encSl R_tabularyref19_Bucket y18), .pv (encSl R_api_Value y19)] ++ (aA .u8 64 y20)) false])) ?_ ?_
    ·
     rintro _ _ ⟨y9, y10, y11, y12, y13, y14, y15, y16, y17, y18, y19, y20, y21, y22, hm, rfl, rfl⟩
     subst hk23
     refine detn [(2, .ptr 0 0), (3, .ptr 1 0), (5, aI (IntKind.wrap .i64 (y6 + 1)))] (by kernel_rfl) ?_
     exact ⟨_, _, tidyL [(2, .ptr 0 0), (3, .ptr 1 0), (5, aI (IntKind.wrap .i64 (y6 + 1)))] [.box [aI a0.fRows, .pv (encSl R_tabularyref20_Col a0.fCols)] false, .box [aI a1.fRows, .pv (encSl R_tabularyref20_Col a1.fCols)] false] (by kernel_rfl), ⟨(IntKind.wrap .i64 (y6 + 1)), hm, rfl, rfl⟩⟩
    refine bq (sq (rg (sh 3 [(34, aI y6), (33, .pv (encSl R_tabularyref20_Col a0.fCols)), (32, .ptr 0 1)] (by kernel_rfl) ?_)))
    obtain ⟨x24, h25, hm⟩ := bs hm
    refine dv 35 (v := .pv (.ptr (R_tabularyref20_Col x24) 0)) (ia_slO R_tabularyref20_Col a0.fCols .i64 t22 t87 h25 rfl (by kernel_rfl)) (by kernel_rfl) (st 3 [(6, .ptr 2 0), (36, .agg ([aI x24.fKind, aI x24.fNulls, aI x24.fDistinct, .pv (encSl R_tabularyref19_Bucket x24.fHist), .pv (encSl R_api_Value x24.fSample)] ++ (aA .u8 64 x24.fSketch)))] [.box [aI a0.fRows, .pv (encSl R_tabularyref20_Col a0.fCols)] false, .box [aI a1.fRows, .pv (encSl R_tabularyref20_Col a1.fCols)] false, .box ([aI x24.fKind, aI x24.fNulls, aI x24.fDistinct, .pv (encSl R_tabularyref19_Bucket x24.fHist), .pv (encSl R_api_Value x24.fSample)] ++ (aA .u8 64 x24.fSketch)) false] (by kernel_rfl) (fin [(2, .ptr 0 0), (3, .ptr 1 0), (5, aI y6), (6, .ptr 2 0)] rfl (by kernel_rfl) (sq (rg (sh 3 [(39, aI y6), (38, .pv (encSl R_tabularyref20_Col a1.fCols)), (37, .ptr 1 1)] (by kernel_rfl) ?_)))))
    obtain ⟨x26, h27, hm⟩ := bs hm
    refine dv 40 (v := .pv (.ptr (R_tabularyref20_Col x26) 0)) (ia_slO R_tabularyref20_Col a1.fCols .i64 t22 t87 h27 rfl (by kernel_rfl)) (by kernel_rfl) (st 3 [(7, .ptr 3 0), (41, .agg ([aI x26.fKind, aI x26.fNulls, aI x26.fDistinct, .pv (encSl R_tabularyref19_Bucket x26.fHist), .pv (encSl R_api_Value x26.fSample)] ++ (aA .u8 64 x26.fSketch)))] [.box [aI a0.fRows, .pv (encSl R_tabularyref20_Col a0.fCols)] false, .box [aI a1.fRows, .pv (encSl R_tabularyref20_Col a1.fCols)] false, .box ([aI x24.fKind, aI x24.fNulls, aI x24.fDistinct, .pv (encSl R_tabularyref19_Bucket x24.fHist), .pv (encSl R_api_Value x24.fSample)] ++ (aA .u8 64 x24.fSketch)) false, .box ([aI x26.fKind, aI x26.fNulls, aI x26.fDistinct, .pv (encSl R_tabularyref19_Bucket x26.fHist), .pv (encSl R_api_Value x26.fSample)] ++ (aA .u8 64 x26.fSketch)) false] (by kernel_rfl) (fin [(2, .ptr 0 0), (3, .ptr 1 0), (5, aI y6), (6, .ptr 2 0), (7, .ptr 3 0)] rfl (by kernel_rfl) ?_))
    refine sq (sq (rg (sh 6 [(47, aB (x24.fKind != x26.fKind)), (46, aB (x24.fKind != x26.fKind)), (45, aI x26.fKind), (44, .ptr 3 0), (43, aI x24.fKind), (42, .ptr 2 0)] (by kernel_rfl) ?_)))
    refine seg (x24.fKind != x26.fKind) [47, 46] (fun b => [(53, aB (b || (x24.fNulls != x26.fNulls))), (52, ifA b (.undef) (aB (x24.fNulls != x26.fNulls))), (51, ifA b (.undef) (aI x26.fNulls)), (50, ifA b (.undef) (.ptr 3 1)), (49, ifA b (.undef) (aI x24.fNulls)), (48, ifA b (.undef) (.ptr 2 1))]) 12 (by kernel_rfl) ?_ ?_ ?_
    ·
     intro Q h
     refine sh 6 [(53, aB true), (52, .undef), (51, .undef), (50, .undef), (49, .undef), (48, .undef)] (by kernel_rfl) ?_
     exact sameN (by kernel_rfl) (by kernel_rfl) h
    ·
     intro Q h
     refine sh 6 [(53, aB (x24.fNulls != x26.fNulls)), (52, aB (x24.fNulls != x26.fNulls)), (51, aI x26.fNulls), (50, .ptr 3 1), (49, aI x24.fNulls), (48, .ptr 2 1)] (by kernel_rfl) ?_
     exact sameN (by kernel_rfl) (by kernel_rfl) h
    refine sh 1 [(54, aB ((x24.fKind != x26.fKind) || (x24.fNulls != x26.fNulls)))] (by kernel_rfl) ?_
    refine seg ((x24.fKind != x26.fKind) || (x24.fNulls != x26.fNulls)) [54, 53] (fun b => [(60, aB (b || (x24.fDistinct != x26.fDistinct))), (59, ifA b (.undef) (aB (x24.fDistinct != x26.fDistinct))), (58, ifA b (.undef) (aI x26.fDistinct)), (57, ifA b (.undef) (.ptr 3 2)), (56, ifA b (.undef) (aI x24.fDistinct)), (55, ifA b (.undef) (.ptr 2 2))]) 19 (by kernel_rfl) ?_ ?_ ?_
    ·
     intro Q h
     refine sh 6 [(60, aB true), (59, .undef), (58, .undef), (57, .undef), (56, .undef), (55, .undef)] (by kernel_rfl) ?_
     exact sameN (by kernel_rfl) (by kernel_rfl) h
    ·
     intro Q h
     refine sh 6 [(60, aB (x24.fDistinct != x26.fDistinct)), (59, aB (x24.fDistinct != x26.fDistinct)), (58, aI x26.fDistinct), (57, .ptr 3 2), (56, aI x24.fDistinct), (55, .ptr 2 2)] (by kernel_rfl) ?_
     exact sameN (by kernel_rfl) (by kernel_rfl) h
    refine sh 1 [(61, aB (((x24.fKind != x26.fKind) || (x24.fNulls != x26.fNulls)) || (x24.fDistinct != x26.fDistinct)))] (by kernel_rfl) ?_
    refine seg (((x24.fKind != x26.fKind) || (x24.fNulls != x26.fNulls)) || (x24.fDistinct != x26.fDistinct)) [61, 60] (fun b => [(67, aB (b || (!(eqA 64 x24.fSketch x26.fSketch)))), (66, ifA b (.undef) (aB (!(eqA 64 x24.fSketch x26.fSketch)))), (65, ifA b (.undef) (.agg (aA .u8 64 x26.fSketch))), (64, ifA b (.undef) (.ptr 3 5)), (63, ifA b (.undef) (.agg (aA .u8 64 x24.fSketch))), (62, ifA b (.undef) (.ptr 2 5))]) 26 (by kernel_rfl) ?_ ?_ ?_
    ·
     intro Q h
     refine sh 6 [(67, aB true), (66, .undef), (65, .undef), (64, .undef), (63, .undef), (62, .undef)] (by kernel_rfl) ?_
     exact sameN (by kernel_rfl) (by kernel_rfl) h
    ·
     intro Q h
     refine sh 6 [(67, aB (!(eqA 64 x24.fSketch x26.fSketch))), (66, aB (!(eqA 64 x24.fSketch x26.fSketch))), (65, .agg (aA .u8 64 x26.fSketch)), (64, .ptr 3 5), (63, .agg (aA .u8 64 x24.fSketch)), (62, .ptr 2 5)] (by kernel_rfl) ?_
     exact sameN (by kernel_rfl) (by kernel_rfl) h
    refine sh 1 [(68, aB ((((x24.fKind != x26.fKind) || (x24.fNulls != x26.fNulls)) || (x24.fDistinct != x26.fDistinct)) || (!(eqA 64 x24.fSketch x26.fSketch))))] (by kernel_rfl) ?_
    refine seg ((((x24.fKind != x26.fKind) || (x24.fNulls != x26.fNulls)) || (x24.fDistinct != x26.fDistinct)) || (!(eqA 64 x24.fSketch x26.fSketch))) [68, 67] (fun b => [(76, aB (b || (((sll x24.fHist).length : Int) != ((sll x26.fHist).length : Int)))), (75, ifA b (.undef) (aB (((sll x24.fHist).length : Int) != ((sll x26.fHist).length : Int)))), (74, ifA b (.undef) (aI ((sll x26.fHist).length : Int))), (73, ifA b (.undef) (.pv (encSl R_tabularyref19_Bucket x26.fHist))), (72, ifA b (.undef) (.ptr 3 3)), (71, ifA b (.undef) (aI ((sll x24.fHist).length : Int))), (70, ifA b (.undef) (.pv (encSl R_tabularyref19_Bucket x24.fHist))), (69, ifA b (.undef) (.ptr 2 3))]) 35 (by kernel_rfl) ?_ ?_ ?_
    ·
     intro Q h
     refine sh 8 [(76, aB true), (75, .undef), (74, .undef), (73, .undef), (72, .undef), (71, .undef), (70, .undef), (69, .undef)] (by kernel_rfl) ?_
     exact sameN (by kernel_rfl) (by kernel_rfl) h
    ·
     intro Q h
     refine sh 2 [(70, .pv (encSl R_tabularyref19_Bucket x24.fHist)), (69, .ptr 2 3)] (by kernel_rfl) (dv 71 (v := aI ((sll x24.fHist).length : Int)) (len_slO R_tabularyref19_Bucket x24.fHist t56 (by kernel_rfl)) (by kernel_rfl) (sh 2 [(73, .pv (encSl R_tabularyref19_Bucket x26.fHist)), (72, .ptr 3 3)] (by kernel_rfl) (dv 74 (v := aI ((sll x26.fHist).length : Int)) (len_slO R_tabularyref19_Bucket x26.fHist t56 (by kernel_rfl)) (by kernel_rfl) (sh 2 [(76, aB (((sll x24.fHist).length : Int) != ((sll x26.fHist).length : Int))), (75, aB (((sll x24.fHist).length : Int) != ((sll x26.fHist).length : Int)))] (by kernel_rfl) ?_))))
     exact sameN (by kernel_rfl) (by kernel_rfl) h
    refine sh 1 [(77, aB (((((x24.fKind != x26.fKind) || (x24.fNulls != x26.fNulls)) || (x24.fDistinct != x26.fDistinct)) || (!(eqA 64 x24.fSketch x26.fSketch))) || (((sll x24.fHist).length : Int) != ((sll x26.fHist).length : Int))))] (by kernel_rfl) ?_
    rcases bif_some hm with ⟨h28, hm⟩ | ⟨h28, hm⟩
    ·
     refine known [77, 76] h28 (by kernel_rfl) (sh 7 [(84, aB true), (83, .undef), (82, .undef), (81, .undef), (80, .undef), (79, .undef), (78, .undef)] (by kernel_rfl) (fin [(2, .ptr 0 0), (3, .ptr 1 0), (5, aI y6), (6, .ptr 2 0), (7, .ptr 3 0), (84, aB true)] rfl (by kernel_rfl) (cT (by kernel_rfl) (sq (detn [(4, aB false)] (by kernel_rfl) (wp_ret ?_))))))
     obtain rfl := Option.some.inj hm
     exact ⟨trivial, by kernel_rfl⟩
    ·
     refine known [77, 76] h28 (by kernel_rfl) (sh 4 [(81, .pv (encSl R_api_Value x26.fSample)), (80, .ptr 3 4), (79, .pv (encSl R_api_Value x24.fSample)), (78, .ptr 2 4)] (by kernel_rfl) ?_)
     obtain ⟨x29, h30, hm⟩ := bs hm
     refine dv 82 (cpure (by kernel_rfl) (ok_ref05_Cmp h30) (by kernel_rfl) (by kernel_rfl) (by kernel_rfl)) (by kernel_rfl) (sh 2 [(84, aB (x29 != 0)), (83, aB (x29 != 0))] (by kernel_rfl) (fin [(2, .ptr 0 0), (3, .ptr 1 0), (5, aI y6), (6, .ptr 2 0), (7, .ptr 3 0), (84, aB (x29 != 0))] rfl (by kernel_rfl) ?_))
     rcases bif_some hm with ⟨h31, hm⟩ | ⟨h31, hm⟩
     ·
      refine ct h31 (by kernel_rfl) (sq (detn [(4, aB false)] (by kernel_rfl) (wp_ret ?_)))
      obtain rfl := Option.some.inj hm
      exact ⟨trivial, by kernel_rfl⟩
     ·
      refine cf h31 (by kernel_rfl) (wp_skip (sq (detn [(2, .ptr 0 0), (3, .ptr 1 0), (5, aI y6), (6, .ptr 2 0), (7, .ptr 3 0), (8, aI 0)] (by kernel_rfl) (bq ?_))))
      refine loopF (fun mm t H => (∃ (y33 : Int), ref20_Same_l11 n k23 x24 x26 mm y33 = some r ∧ t = mk 130 [(2, .ptr 0 0), (3, .ptr 1 0), (5, aI y6), (6, .ptr 2 0), (7, .ptr 3 0), (8, aI y33)] ∧ H = [.box [aI a0.fRows, .pv (encSl R_tabularyref20_Col a0.fCols)] false, .box [aI a1.fRows, .pv (encSl R_tabularyref20_Col a1.fCols)] false, .box ([aI x24.fKind, aI x24.fNulls, aI x24.fDistinct, .pv (encSl R_tabularyref19_Bucket x24.fHist), .pv (encSl R_api_Value x24.fSample)] ++ (aA .u8 64 x24.fSketch)) false, .box ([aI x26.fKind, aI x26.fNulls, aI x26.fDistinct, .pv (encSl R_tabularyref19_Bucket x26.fHist), .pv (encSl R_api_Value x26.fSample)] ++ (aA .u8 64 x26.fSketch)) false])) (⟨0, hm, rfl, rfl⟩) ?_ ?_
      · rintro _ _ ⟨y33, hm, _⟩; exact nomatch hm
      rintro m34 _ _ ⟨y33, hm, rfl, rfl⟩
      simp only [ref20_Same_l11] at hm
      refine sq (sq (rg (sh 3 [(87, .pv (encSl R_tabularyref19_Bucket x24.fHist)), (86, .ptr 2 3), (85, aI y33)] (by kernel_rfl) (dv 88 (v := aI ((sll x24.fHist).length : Int)) (len_slO R_tabularyref19_Bucket x24.fHist t56 (by kernel_rfl)) (by kernel_rfl) (sh 1 [(89, aB (decide (y33 < ((sll x24.fHist).length : Int))))] (by kernel_rfl) (fin [(2, .ptr 0 0), (3, .ptr 1 0), (5, aI y6), (6, .ptr 2 0), (7, .ptr 3 0), (8, aI y33), (89, aB (decide (y33 < ((sll x24.fHist).length : Int))))] rfl (by kernel_rfl) ?_))))))
      rcases bif_some hm with ⟨h35, hm⟩ | ⟨h35, hm⟩
      ·
       refine ct h35 (by kernel_rfl) (wp_skip (sq (bq (sq (rg (sh 3 [(94, aI y33), (93, .pv (encSl R_tabularyref19_Bucket x24.fHist)), (92, .ptr 2 3)] (by kernel_rfl) ?_))))))
       obtain ⟨x36, h37, hm⟩ := bs hm
       refine dv 95 (v := .pv (.ptr (R_tabularyref19_Bucket x36) 0)) (ia_slO R_tabularyref19_Bucket x24.fHist .i64 t56 t80 h37 rfl (by kernel_rfl)) (by kernel_rfl) (st 3 [(9, .ptr 4 0), (96, .agg [aI x36.fLow.fKind, aI x36.fLow.fInt, aF x36.fLow.fFloat, aS x36.fLow.fText, aI x36.fHigh.fKind, aI x36.fHigh.fInt, aF x36.fHigh.fFloat, aS x36.fHigh.fText, aI x36.fCount, aI x36.fDistinct])] [.box [aI a0.fRows, .pv (encSl R_tabularyref20_Col a0.fCols)] false, .box [aI a1.fRows, .pv (encSl R_tabularyref20_Col a1.fCols)] false, .box ([aI x24.fKind, aI x24.fNulls, aI x24.fDistinct, .pv (encSl R_tabularyref19_Bucket x24.fHist), .pv (encSl R_api_Value x24.fSample)] ++ (aA .u8 64 x24.fSketch)) false, .box ([aI x26.fKind, aI x26.fNulls, aI x26.fDistinct, .pv (encSl R_tabularyref19_Bucket x26.fHist), .pv (encSl R_api_Value x26.fSample)] ++ (aA .u8 64 x26.fSketch)) false, .box [aI x36.fLow.fKind, aI x36.fLow.fInt, aF x36.fLow.fFloat, aS x36.fLow.fText, aI x36.fHigh.fKind, aI x36.fHigh.fInt, aF x36.fHigh.fFloat, aS x36.fHigh.fText, aI x36.fCount, aI x36.fDistinct] false] (by kernel_rfl) (fin [(2, .ptr 0 0), (3, .ptr 1 0), (5, aI y6), (6, .ptr 2 0), (7, .ptr 3 0), (8, aI y33), (9, .ptr 4 0)] rfl (by kernel_rfl) (sq (rg (sh 3 [(99, aI y33), (98, .pv (encSl R_tabularyref19_Bucket x26.fHist)), (97, .ptr 3 3)] (by kernel_rfl) ?_)))))
       obtain ⟨x38, h39, hm⟩ := bs hm
       refine dv 100 (v := .pv (.ptr (R_tabularyref19_Bucket x38) 0)) (ia_slO R_tabularyref19_Bucket x26.fHist .i64 t56 t80 h39 rfl (by kernel_rfl)) (by kernel_rfl) (st 3 [(10, .ptr 5 0), (101, .agg [aI x38.fLow.fKind, aI x38.fLow.fInt, aF x38.fLow.fFloat, aS x38.fLow.fText, aI x38.fHigh.fKind, aI x38.fHigh.fInt, aF x38.fHigh.fFloat, aS x38.fHigh.fText, aI x38.fCount, aI x38.fDistinct])] [.box [aI a0.fRows, .pv (encSl R_tabularyref20_Col a0.fCols)] false, .box [aI a1.fRows, .pv (encSl R_tabularyref20_Col a1.fCols)] false, .box ([aI x24.fKind, aI x24.fNulls, aI x24.fDistinct, .pv (encSl R_tabularyref19_Bucket x24.fHist), .pv (encSl R_api_Value x24.fSample)] ++ (aA .u8 64 x24.fSketch)) false, .box ([aI x26.fKind, aI x26.fNulls, aI x26.fDistinct, .pv (encSl R_tabularyref19_Bucket x26.fHist), .pv (encSl R_api_Value x26.fSample)] ++ (aA .u8 64 x26.fSketch)) false, .box [aI x36.fLow.fKind, aI x36.fLow.fInt, aF x36.fLow.fFloat, aS x36.fLow.fText, aI x36.fHigh.fKind, aI x36.fHigh.fInt, aF x36.fHigh.fFloat, aS x36.fHigh.fText, aI x36.fCount, aI x36.fDistinct] false, .box [aI x38.fLow.fKind, aI x38.fLow.fInt, aF x38.fLow.fFloat, aS x38.fLow.fText, aI x38.fHigh.fKind, aI x38.fHigh.fInt, aF x38.fHigh.fFloat, aS x38.fHigh.fText, aI x38.fCount, aI x38.fDistinct] false] (by kernel_rfl) (fin [(2, .ptr 0 0), (3, .ptr 1 0), (5, aI y6), (6, .ptr 2 0), (7, .ptr 3 0), (8, aI y33), (9, .ptr 4 0), (10, .ptr 5 0)] rfl (by kernel_rfl) (sq (rg (sh 4 [(105, .agg [aI x38.fLow.fKind, aI x38.fLow.fInt, aF x38.fLow.fFloat, aS x38.fLow.fText]), (104, .ptr 5 0), (103, .agg [aI x36.fLow.fKind, aI x36.fLow.fInt, aF x36.fLow.fFloat, aS x36.fLow.fText]), (102, .ptr 4 0)] (by kernel_rfl) ?_)))))
       obtain ⟨x40, h41, hm⟩ := bs hm
       refine dv 106 (cpure (by kernel_rfl) (ok_ref04_Cmp h41) (by kernel_rfl) (by kernel_rfl) (by kernel_rfl)) (by kernel_rfl) (sh 2 [(108, aB (x40 != 0)), (107, aB (x40 != 0))] (by kernel_rfl) ?_)
       rcases bif_some hm with ⟨h42, hm⟩ | ⟨h42, hm⟩
       ·
        refine known [108, 107] h42 (by kernel_rfl) (sh 21 [(129, aB true), (128, .undef), (127, .undef), (126, .undef), (125, .undef), (124, .undef), (123, aB true), (122, aB true), (121, .undef), (120, .undef), (119, .undef), (118, .undef), (117, .undef), (116, aB true), (115, aB true), (114, .undef), (113, .undef), (112, .undef), (111, .undef), (110, .undef), (109, .undef)] (by kernel_rfl) (fin [(2, .ptr 0 0), (3, .ptr 1 0), (5, aI y6), (6, .ptr 2 0), (7, .ptr 3 0), (8, aI y33), (129, aB true)] rfl (by kernel_rfl) (cT (by kernel_rfl) (sq (detn [(4, aB false)] (by kernel_rfl) (wp_ret ?_))))))
        obtain rfl := Option.some.inj hm
        exact ⟨trivial, by kernel_rfl⟩
       ·
        refine known [108, 107] h42 (by kernel_rfl) (sh 4 [(112, .agg [aI x38.fHigh.fKind, aI x38.fHigh.fInt, aF x38.fHigh.fFloat, aS x38.fHigh.fText]), (111, .ptr 5 4), (110, .agg [aI x36.fHigh.fKind, aI x36.fHigh.fInt, aF x36.fHigh.fFloat, aS x36.fHigh.fText]), (109, .ptr 4 4)] (by kernel_rfl) ?_)
        obtain ⟨x43, h44, hm⟩ := bs hm
        refine dv 113 (cpure (by kernel_rfl) (ok_ref04_Cmp h44) (by kernel_rfl) (by kernel_rfl) (by kernel_rfl)) (by kernel_rfl) (sh 3 [(116, aB (x43 != 0)), (115, aB (x43 != 0)), (114, aB (x43 != 0))] (by kernel_rfl) ?_)
        refine seg (x43 != 0) [116, 115, 114] (fun b => [(122, aB (b || (x36.fCount != x38.fCount))), (121, ifA b (.undef) (aB (x36.fCount != x38.fCount))), (120, ifA b (.undef) (aI x38.fCount)), (119, ifA b (.undef) (.ptr 5 8)), (118, ifA b (.undef) (aI x36.fCount)), (117, ifA b (.undef) (.ptr 4 8))]) 21 (by kernel_rfl) ?_ ?_ ?_
        ·
         intro Q h
         refine sh 6 [(122, aB true), (121, .undef), (120, .undef), (119, .undef), (118, .undef), (117, .undef)] (by kernel_rfl) ?_
         exact sameN (by kernel_rfl) (by kernel_rfl) h
        ·
         intro Q h
         refine sh 6 [(122, aB (x36.fCount != x38.fCount)), (121, aB (x36.fCount != x38.fCount)), (120, aI x38.fCount), (119, .ptr 5 8), (118, aI x36.fCount), (117, .ptr 4 8)] (by kernel_rfl) ?_
         exact sameN (by kernel_rfl) (by kernel_rfl) h
        refine sh 1 [(123, aB ((x43 != 0) || (x36.fCount != x38.fCount)))] (by kernel_rfl) ?_
        refine seg ((x43 != 0) || (x36.fCount != x38.fCount)) [123, 122] (fun b => [(129, aB (b || (x36.fDistinct != x38.fDistinct))), (128, ifA b (.undef) (aB (x36.fDistinct != x38.fDistinct))), (127, ifA b (.undef) (aI x38.fDistinct)), (126, ifA b (.undef) (.ptr 5 9)), (125, ifA b (.undef) (aI x36.fDistinct)), (124, ifA b (.undef) (.ptr 4 9))]) 28 (by kernel_rfl) ?_ ?_ ?_
        ·
         intro Q h
         refine sh 6 [(129, aB true), (128, .undef), (127, .undef), (126, .undef), (125, .undef), (124, .undef)] (by kernel_rfl) ?_
         exact sameN (by kernel_rfl) (by kernel_rfl) h
        ·
         intro Q h
         refine sh 6 [(129, aB (x36.fDistinct != x38.fDistinct)), (128, aB (x36.fDistinct != x38.fDistinct)), (127, aI x38.fDistinct), (126, .ptr 5 9), (125, aI x36.fDistinct), (124, .ptr 4 9)] (by kernel_rfl) ?_
         exact sameN (by kernel_rfl) (by kernel_rfl) h
        refine fin [(2, .ptr 0 0), (3, .ptr 1 0), (5, aI y6), (6, .ptr 2 0), (7, .ptr 3 0), (8, aI y33), (129, aB (((x43 != 0) || (x36.fCount != x38.fCount)) || (x36.fDistinct != x38.fDistinct)))] rfl (by kernel_rfl) ?_
        rcases bif_some hm with ⟨h45, hm⟩ | ⟨h45, hm⟩
        ·
         refine ct h45 (by kernel_rfl) (sq (detn [(4, aB false)] (by kernel_rfl) (wp_ret ?_)))
         obtain rfl := Option.some.inj hm
         exact ⟨trivial, by kernel_rfl⟩
        ·
         refine cf h45 (by kernel_rfl) (wp_skip (detn [(2, .ptr 0 0), (3, .ptr 1 0), (5, aI y6), (6, .ptr 2 0), (7, .ptr 3 0), (8, aI (IntKind.wrap .i64 (y33 + 1)))] (by kernel_rfl) ?_))
         exact ⟨_, _, tidyL [(2, .ptr 0 0), (3, .ptr 1 0), (5, aI y6), (6, .ptr 2 0), (7, .ptr 3 0), (8, aI (IntKind.wrap .i64 (y33 + 1)))] [.box [aI a0.fRows, .pv (encSl R_tabularyref20_Col a0.fCols)] false, .box [aI a1.fRows, .pv (encSl R_tabularyref20_Col a1.fCols)] false, .box ([aI x24.fKind, aI x24.fNulls, aI x24.fDistinct, .pv (encSl R_tabularyref19_Bucket x24.fHist), .pv (encSl R_api_Value x24.fSample)] ++ (aA .u8 64 x24.fSketch)) false, .box ([aI x26.fKind, aI x26.fNulls, aI x26.fDistinct, .pv (encSl R_tabularyref19_Bucket x26.fHist), .pv (encSl R_api_Value x26.fSample)] ++ (aA .u8 64 x26.fSketch)) false] (by kernel_rfl), ⟨(IntKind.wrap .i64 (y33 + 1)), hm, rfl, rfl⟩⟩
      ·
       refine cf h35 (by kernel_rfl) (wp_exit ?_)
       exact ⟨x24.fKind, x24.fNulls, x24.fDistinct, x24.fHist, x24.fSample, x24.fSketch, x26.fKind, x26.fNulls, x26.fDistinct, x26.fHist, x26.fSample, x26.fSketch, y33, (decide (y33 < ((sll x24.fHist).length : Int))), hm, rfl, rfl⟩
   ·
    refine cf h8 (by kernel_rfl) (wp_exit ?_)
    exact ⟨(decide (y6 < ((sll a0.fCols).length : Int))), y6, hm, rfl, rfl⟩
theorem ok_stat_Plain {n : Nat} {a0 : api_Table} {a1 : Int} {r : stat_Stat} (hm : stat_Plain n a0 a1 = some r) :
    call G n 19 [.agg [aS a0.fName, .pv (encSl R_api_Column a0.fCols)], aI a1] [] = some (.ret (.agg [aI r.fRows, .pv (encSl R_stat_Col r.fCols)]), []) := by
  unfold stat_Plain at hm
  obtain ⟨n, rfl, h0⟩ := at1_some hm
  replace hm := h0; clear h0
  refine callL 36 [(0, .agg [aS a0.fName, .pv (encSl R_api_Column a0.fCols)]), (1, aI a1)] func19 rfl (by kernel_rfl) (sq (det [(1, aI a1), (2, .ptr 0 0), (4, .ptr 1 0)] [.box [aS a0.fName, .pv (encSl R_api_Column a0.fCols)] false, .box [aI 0, .pv .nils] false] (by kernel_rfl) (sq (det [(2, .ptr 0 0), (4, .ptr 1 0), (5, .ptr 2 0)] [.box [aS a0.fName, .pv (encSl R_api_Column a0.fCols)] false, .box [aI 0, .pv .nils] false, .box [aI (if 1000000 < (if 0 > a1 then 0 else a1) then 1000000 else (if 0 > a1 then 0 else a1)), .pv .nils] false] (by kernel_rfl) ?_))))
  obtain ⟨k4, hk4, hm⟩ := withK_some hm
  refine mid (fun t H => (∃ (w1 : AV) (w2 : AV), k4 none = some r ∧ t = mk 36 [(4, .ptr 1 0), (5, .ptr 2 0), (13, .pv (encSl R_api_Column a0.fCols)), (14, aI ((sll a0.fCols).length : Int)), (15, w1), (16, w2)] ∧ H = [.box [aS a0.fName, .pv (encSl R_api_Column a0.fCols)] false, .box [aI 0, .pv .nils] false, .box [aI (if 1000000 < (if 0 > a1 then 0 else a1) then 1000000 else (if 0 > a1 then 0 else a1)), .pv .nils] false]) ∨ (∃ (y3 : (List stat_Col)) (w1 : AV) (w2 : AV), k4 (some y3) = some r ∧ t = mk 36 [(4, .ptr 1 0), (5, .ptr 2 0), (13, .pv (encSl R_api_Column a0.fCols)), (14, aI ((sll a0.fCols).length : Int)), (15, w1), (16, w2)] ∧ H = [.box [aS a0.fName, .pv (encSl R_api_Column a0.fCols)] false, .box [aI 0, .pv .nils] false, .box [aI (if 1000000 < (if 0 > a1 then 0 else a1) then 1000000 else (if 0 > a1 then 0 else a1)), aR 3 69 y3.length] false, bR 91 69 R_stat_Col y3 0 0])) ?_ ?_
  ·
   rintro _ _ (⟨w1, w2, hm, rfl, rfl⟩ | ⟨y3, w1, w2, hm, rfl, rfl⟩)
   ·
    subst hk4
    refine sq (det [(4, .ptr 1 0)] [.box [aS a0.fName, .pv (encSl R_api_Column a0.fCols)] false, .box [aI (if 1000000 < (if 0 > a1 then 0 else a1) then 1000000 else (if 0 > a1 then 0 else a1)), .pv .nils] false, .box [aI (if 1000000 < (if 0 > a1 then 0 else a1) then 1000000 else (if 0 > a1 then 0 else a1)), .pv .nils] false] (by kernel_rfl) (wp_ret ?_))
    obtain rfl := Option.some.inj hm
    exact ⟨trivial, by kernel_rfl⟩
   ·
    subst hk4
    refine sq (det [(4, .ptr 1 0)] [.box [aS a0.fName, .pv (encSl R_api_Column a0.fCols)] false, .box [aI (if 1000000 < (if 0 > a1 then 0 else a1) then 1000000 else (if 0 > a1 then 0 else a1)), aR 3 69 y3.length] false, .box [aI (if 1000000 < (if 0 > a1 then 0 else a1) then 1000000 else (if 0 > a1 then 0 else a1)), aR 3 69 y3.length] false, bR 91 69 R_stat_Col y3 0 0] (by kernel_rfl) (wp_ret ?_))
    obtain rfl := Option.some.inj hm
    exact ret_pure (v := .agg [aI (if 1000000 < (if 0 > a1 then 0 else a1) then 1000000 else (if 0 > a1 then 0 else a1)), aR 3 69 y3.length]) trivial rfl (by kernel_rfl) (pR_agg (purL_cons (pur_pv) (purL_cons (pur_ref' (n := y3.length) (id := 3) (l := y3) (R := R_stat_Col) rfl rfl (Nat.zero_le _)) (rfl))) (by kernel_rfl))
  refine sq (rg (sh 2 [(13, .pv (encSl R_api_Column a0.fCols)), (12, .ptr 0 1)] (by kernel_rfl) (dv 14 (v := aI ((sll a0.fCols).length : Int)) (len_slO R_api_Column a0.fCols t25 (by kernel_rfl)) (by kernel_rfl) (sh 1 [(15, aI 0)] (by kernel_rfl) (fin [(4, .ptr 1 0), (5, .ptr 2 0), (13, .pv (encSl R_api_Column a0.fCols)), (14, aI ((sll a0.fCols).length : Int)), (15, aI 0)] rfl (by kernel_rfl) (bq ?_))))))
  refine loopF (fun mm t H => (∃ (y9 : Int), stat_Plain_l3 n a0 a1 k4 mm none y9 = some r ∧ t = mk 36 [(4, .ptr 1 0), (5, .ptr 2 0), (13, .pv (encSl R_api_Column a0.fCols)), (14, aI ((sll a0.fCols).length : Int)), (15, aI y9)] ∧ H = [.box [aS a0.fName, .pv (encSl R_api_Column a0.fCols)] false, .box [aI 0, .pv .nils] false, .box [aI (if 1000000 < (if 0 > a1 then 0 else a1) then 1000000 else (if 0 > a1 then 0 else a1)), .pv .nils] false]) ∨ (∃ (y8 : (List stat_Col)) (y9 : Int), stat_Plain_l3 n a0 a1 k4 mm (some y8) y9 = some r ∧ t = mk 36 [(4, .ptr 1 0), (5, .ptr 2 0), (13, .pv (encSl R_api_Column a0.fCols)), (14, aI ((sll a0.fCols).length : Int)), (15, aI y9)] ∧ H = [.box [aS a0.fName, .pv (encSl R_api_Column a0.fCols)] false, .box [aI 0, .pv .nils] false, .box [aI (if 1000000 < (if 0 > a1 then 0 else a1) then 1000000 else (if 0 > a1 then 0 else a1)), aR 3 69 y8.length] false, bR 91 69 R_stat_Col y8 0 0])) (.inl ⟨0, hm, rfl, rfl⟩) ?_ ?_
  · rintro _ _ (⟨y9, hm, _⟩ | ⟨y8, y9, hm, _⟩) <;> exact nomatch hm
  rintro m10 _ _ (⟨y9, hm, rfl, rfl⟩ | ⟨y8, y9, hm, rfl, rfl⟩)
  ·
   simp only [stat_Plain_l3] at hm
   refine sq (detn [(4, .ptr 1 0), (5, .ptr 2 0), (13, .pv (encSl R_api_Column a0.fCols)), (14, aI ((sll a0.fCols).length : Int)), (15, aI y9), (16, aB (decide (y9 < ((sll a0.fCols).length : Int))))] (by kernel_rfl) ?_)
   refine sq ?_
   rcases bif_some hm with ⟨h11, hm⟩ | ⟨h11, hm⟩
   ·
    refine ct h11 (by kernel_rfl) (wp_skip (sq (bq (sq (rg ?_)))))
    obtain ⟨x12, h13, hm⟩ := bs hm
    refine dv 17 (v := .pv (.ptr (R_api_Column x12) 0)) (ia_slO R_api_Column a0.fCols .i64 t25 t98 h13 rfl (by kernel_rfl)) (by kernel_rfl) (st 3 [(7, .ptr 3 0), (18, .agg [aS x12.fName, aI x12.fKind])] [.box [aS a0.fName, .pv (encSl R_api_Column a0.fCols)] false, .box [aI 0, .pv .nils] false, .box [aI (if 1000000 < (if 0 > a1 then 0 else a1) then 1000000 else (if 0 > a1 then 0 else a1)), .pv .nils] false, .box [aS x12.fName, aI x12.fKind] false] (by kernel_rfl) (fin [(4, .ptr 1 0), (5, .ptr 2 0), (7, .ptr 3 0), (13, .pv (encSl R_api_Column a0.fCols)), (14, aI ((sll a0.fCols).length : Int)), (15, aI y9)] rfl (by kernel_rfl) (rg (st 13 [(31, aR 4 69 1), (30, .agg ([aI x12.fKind, aI 0, aI (if (if 1000000 < (if 0 > a1 then 0 else a1) then 1000000 else (if 0 > a1 then 0 else a1)) < (if 1 > (IntKind.wrap .i64 (Int.tdiv (if 1000000 < (if 0 > a1 then 0 else a1) then 1000000 else (if 0 > a1 then 0 else a1)) 10)) then 1 else (IntKind.wrap .i64 (Int.tdiv (if 1000000 < (if 0 > a1 then 0 else a1) then 1000000 else (if 0 > a1 then 0 else a1)) 10))) then (if 1000000 < (if 0 > a1 then 0 else a1) then 1000000 else (if 0 > a1 then 0 else a1)) else (if 1 > (IntKind.wrap .i64 (Int.tdiv (if 1000000 < (if 0 > a1 then 0 else a1) then 1000000 else (if 0 > a1 then 0 else a1)) 10)) then 1 else (IntKind.wrap .i64 (Int.tdiv (if 1000000 < (if 0 > a1 then 0 else a1) then 1000000 else (if 0 > a1 then 0 else a1)) 10)))), .pv .nils, .pv .nils] ++ (aA .u8 64 (fun _ => 0)))), (29, aI (if (if 1000000 < (if 0 > a1 then 0 else a1) then 1000000 else (if 0 > a1 then 0 else a1)) < (if 1 > (IntKind.wrap .i64 (Int.tdiv (if 1000000 < (if 0 > a1 then 0 else a1) then 1000000 else (if 0 > a1 then 0 else a1)) 10)) then 1 else (IntKind.wrap .i64 (Int.tdiv (if 1000000 < (if 0 > a1 then 0 else a1) then 1000000 else (if 0 > a1 then 0 else a1)) 10))) then (if 1000000 < (if 0 > a1 then 0 else a1) then 1000000 else (if 0 > a1 then 0 else a1)) else (if 1 > (IntKind.wrap .i64 (Int.tdiv (if 1000000 < (if 0 > a1 then 0 else a1) then 1000000 else (if 0 > a1 then 0 else a1)) 10)) then 1 else (IntKind.wrap .i64 (Int.tdiv (if 1000000 < (if 0 > a1 then 0 else a1) then 1000000 else (if 0 > a1 then 0 else a1)) 10))))), (28, aI (if 1000000 < (if 0 > a1 then 0 else a1) then 1000000 else (if 0 > a1 then 0 else a1))), (27, .ptr 2 0), (26, aI (if 1 > (IntKind.wrap .i64 (Int.tdiv (if 1000000 < (if 0 > a1 then 0 else a1) then 1000000 else (if 0 > a1 then 0 else a1)) 10)) then 1 else (IntKind.wrap .i64 (Int.tdiv (if 1000000 < (if 0 > a1 then 0 else a1) then 1000000 else (if 0 > a1 then 0 else a1)) 10)))), (25, aI (IntKind.wrap .i64 (Int.tdiv (if 1000000 < (if 0 > a1 then 0 else a1) then 1000000 else (if 0 > a1 then 0 else a1)) 10))), (24, aI (if 1000000 < (if 0 > a1 then 0 else a1) then 1000000 else (if 0 > a1 then 0 else a1))), (23, .ptr 2 0), (22, aI x12.fKind), (21, .ptr 3 1), (20, .pv .nils), (19, .ptr 2 1)] [.box [aS a0.fName, .pv (encSl R_api_Column a0.fCols)] false, .box [aI 0, .pv .nils] false, .box [aI (if 1000000 < (if 0 > a1 then 0 else a1) then 1000000 else (if 0 > a1 then 0 else a1)), .pv .nils] false, .box [aS x12.fName, aI x12.fKind] false, bR 91 69 R_stat_Col ([(stat_Col.mk x12.fKind 0 (if (if 1000000 < (if 0 > a1 then 0 else a1) then 1000000 else (if 0 > a1 then 0 else a1)) < (if 1 > (IntKind.wrap .i64 (Int.tdiv (if 1000000 < (if 0 > a1 then 0 else a1) then 1000000 else (if 0 > a1 then 0 else a1)) 10)) then 1 else (IntKind.wrap .i64 (Int.tdiv (if 1000000 < (if 0 > a1 then 0 else a1) then 1000000 else (if 0 > a1 then 0 else a1)) 10))) then (if 1000000 < (if 0 > a1 then 0 else a1) then 1000000 else (if 0 > a1 then 0 else a1)) else (if 1 > (IntKind.wrap .i64 (Int.tdiv (if 1000000 < (if 0 > a1 then 0 else a1) then 1000000 else (if 0 > a1 then 0 else a1)) 10)) then 1 else (IntKind.wrap .i64 (Int.tdiv (if 1000000 < (if 0 > a1 then 0 else a1) then 1000000 else (if 0 > a1 then 0 else a1)) 10)))) none none (hll_Sketch.mk (fun _ => 0)))] : List stat_Col) 0 0] (by kernel_rfl) ?_))))
    obtain ⟨_, h14, hm⟩ := bs hm
    refine dO [(32, aR 5 69 (([(stat_Col.mk x12.fKind 0 (if (if 1000000 < (if 0 > a1 then 0 else a1) then 1000000 else (if 0 > a1 then 0 else a1)) < (if 1 > (IntKind.wrap .i64 (Int.tdiv (if 1000000 < (if 0 > a1 then 0 else a1) then 1000000 else (if 0 > a1 then 0 else a1)) 10)) then 1 else (IntKind.wrap .i64 (Int.tdiv (if 1000000 < (if 0 > a1 then 0 else a1) then 1000000 else (if 0 > a1 then 0 else a1)) 10))) then (if 1000000 < (if 0 > a1 then 0 else a1) then 1000000 else (if 0 > a1 then 0 else a1)) else (if 1 > (IntKind.wrap .i64 (Int.tdiv (if 1000000 < (if 0 > a1 then 0 else a1) then 1000000 else (if 0 > a1 then 0 else a1)) 10)) then 1 else (IntKind.wrap .i64 (Int.tdiv (if 1000000 < (if 0 > a1 then 0 else a1) then 1000000 else (if 0 > a1 then 0 else a1)) 10)))) none none (hll_Sketch.mk (fun _ => 0)))] : List stat_Col).length))] [.box [aS a0.fName, .pv (encSl R_api_Column a0.fCols)] false, .box [aI 0, .pv .nils] false, .box [aI (if 1000000 < (if 0 > a1 then 0 else a1) then 1000000 else (if 0 > a1 then 0 else a1)), .pv .nils] false, .box [aS x12.fName, aI x12.fKind] false, bR 91 69 R_stat_Col ([(stat_Col.mk x12.fKind 0 (if (if 1000000 < (if 0 > a1 then 0 else a1) then 1000000 else (if 0 > a1 then 0 else a1)) < (if 1 > (IntKind.wrap .i64 (Int.tdiv (if 1000000 < (if 0 > a1 then 0 else a1) then 1000000 else (if 0 > a1 then 0 else a1)) 10)) then 1 else (IntKind.wrap .i64 (Int.tdiv (if 1000000 < (if 0 > a1 then 0 else a1) then 1000000 else (if 0 > a1 then 0 else a1)) 10))) then (if 1000000 < (if 0 > a1 then 0 else a1) then 1000000 else (if 0 > a1 then 0 else a1)) else (if 1 > (IntKind.wrap .i64 (Int.tdiv (if 1000000 < (if 0 > a1 then 0 else a1) then 1000000 else (if 0 > a1 then 0 else a1)) 10)) then 1 else (IntKind.wrap .i64 (Int.tdiv (if 1000000 < (if 0 > a1 then 0 else a1) then 1000000 else (if 0 > a1 then 0 else a1)) 10)))) none none (hll_Sketch.mk (fun _ => 0)))] : List stat_Col) 0 0, bR 91 69 R_stat_Col ([(stat_Col.mk x12.fKind 0 (if (if 1000000 < (if 0 > a1 then 0 else a1) then 1000000 else (if 0 > a1 then 0 else a1)) < (if 1 > (IntKind.wrap .i64 (Int.tdiv (if 1000000 < (if 0 > a1 then 0 else a1) then 1000000 else (if 0 > a1 then 0 else a1)) 10)) then 1 else (IntKind.wrap .i64 (Int.tdiv (if 1000000 < (if 0 > a1 then 0 else a1) then 1000000 else (if 0 > a1 then 0 else a1)) 10))) then (if 1000000 < (if 0 > a1 then 0 else a1) then 1000000 else (if 0 > a1 then 0 else a1)) else (if 1 > (IntKind.wrap .i64 (Int.tdiv (if 1000000 < (if 0 > a1 then 0 else a1) then 1000000 else (if 0 > a1 then 0 else a1)) 10)) then 1 else (IntKind.wrap .i64 (Int.tdiv (if 1000000 < (if 0 > a1 then 0 else a1) then 1000000 else (if 0 > a1 then 0 else a1)) 10)))) none none (hll_Sketch.mk (fun _ => 0)))] : List stat_Col) 0 0] (app_nilO (u := 0) R_stat_Col ([(stat_Col.mk x12.fKind 0 (if (if 1000000 < (if 0 > a1 then 0 else a1) then 1000000 else (if 0 > a1 then 0 else a1)) < (if 1 > (IntKind.wrap .i64 (Int.tdiv (if 1000000 < (if 0 > a1 then 0 else a1) then 1000000 else (if 0 > a1 then 0 else a1)) 10)) then 1 else (IntKind.wrap .i64 (Int.tdiv (if 1000000 < (if 0 > a1 then 0 else a1) then 1000000 else (if 0 > a1 then 0 else a1)) 10))) then (if 1000000 < (if 0 > a1 then 0 else a1) then 1000000 else (if 0 > a1 then 0 else a1)) else (if 1 > (IntKind.wrap .i64 (Int.tdiv (if 1000000 < (if 0 > a1 then 0 else a1) then 1000000 else (if 0 > a1 then 0 else a1)) 10)) then 1 else (IntKind.wrap .i64 (Int.tdiv (if 1000000 < (if 0 > a1 then 0 else a1) then 1000000 else (if 0 > a1 then 0 else a1)) 10)))) none none (hll_Sketch.mk (fun _ => 0)))] : List stat_Col) (b := 136) t29 t91 rfl rfl rfl (fun _ => rfl) rfl h14 (show srcRows (aR 4 69 1) _ = some (([(stat_Col.mk x12.fKind 0 (if (if 1000000 < (if 0 > a1 then 0 else a1) then 1000000 else (if 0 > a1 then 0 else a1)) < (if 1 > (IntKind.wrap .i64 (Int.tdiv (if 1000000 < (if 0 > a1 then 0 else a1) then 1000000 else (if 0 > a1 then 0 else a1)) 10)) then 1 else (IntKind.wrap .i64 (Int.tdiv (if 1000000 < (if 0 > a1 then 0 else a1) then 1000000 else (if 0 > a1 then 0 else a1)) 10))) then (if 1000000 < (if 0 > a1 then 0 else a1) then 1000000 else (if 0 > a1 then 0 else a1)) else (if 1 > (IntKind.wrap .i64 (Int.tdiv (if 1000000 < (if 0 > a1 then 0 else a1) then 1000000 else (if 0 > a1 then 0 else a1)) 10)) then 1 else (IntKind.wrap .i64 (Int.tdiv (if 1000000 < (if 0 > a1 then 0 else a1) then 1000000 else (if 0 > a1 then 0 else a1)) 10)))) none none (hll_Sketch.mk (fun _ => 0)))] : List stat_Col).map R_stat_Col) from by kernel_rfl) (by kernel_rfl)) (by kernel_rfl) (st 2 [(33, .ptr 2 1)] [.box [aS a0.fName, .pv (encSl R_api_Column a0.fCols)] false, .box [aI 0, .pv .nils] false, .box [aI (if 1000000 < (if 0 > a1 then 0 else a1) then 1000000 else (if 0 > a1 then 0 else a1)), aR 5 69 (([(stat_Col.mk x12.fKind 0 (if (if 1000000 < (if 0 > a1 then 0 else a1) then 1000000 else (if 0 > a1 then 0 else a1)) < (if 1 > (IntKind.wrap .i64 (Int.tdiv (if 1000000 < (if 0 > a1 then 0 else a1) then 1000000 else (if 0 > a1 then 0 else a1)) 10)) then 1 else (IntKind.wrap .i64 (Int.tdiv (if 1000000 < (if 0 > a1 then 0 else a1) then 1000000 else (if 0 > a1 then 0 else a1)) 10))) then (if 1000000 < (if 0 > a1 then 0 else a1) then 1000000 else (if 0 > a1 then 0 else a1)) else (if 1 > (IntKind.wrap .i64 (Int.tdiv (if 1000000 < (if 0 > a1 then 0 else a1) then 1000000 else (if 0 > a1 then 0 else a1)) 10)) then 1 else (IntKind.wrap .i64 (Int.tdiv (if 1000000 < (if 0 > a1 then 0 else a1) then 1000000 else (if 0 > a1 then 0 else a1)) 10)))) none none (hll_Sketch.mk (fun _ => 0)))] : List stat_Col).length)] false, .box [aS x12.fName, aI x12.fKind] false, bR 91 69 R_stat_Col ([(stat_Col.mk x12.fKind 0 (if (if 1000000 < (if 0 > a1 then 0 else a1) then 1000000 else (if 0 > a1 then 0 else a1)) < (if 1 > (IntKind.wrap .i64 (Int.tdiv (if 1000000 < (if 0 > a1 then 0 else a1) then 1000000 else (if 0 > a1 then 0 else a1)) 10)) then 1 else (IntKind.wrap .i64 (Int.tdiv (if 1000000 < (if 0 > a1 then 0 else a1) then 1000000 else (if 0 > a1 then 0 else a1)) 10))) then (if 1000000 < (if 0 > a1 then 0 else a1) then 1000000 else (if 0 > a1 then 0 else a1)) else (if 1 > (IntKind.wrap .i64 (Int.tdiv (if 1000000 < (if 0 > a1 then 0 else a1) then 1000000 else (if 0 > a1 then 0 else a1)) 10)) then 1 else (IntKind.wrap .i64 (Int.tdiv (if 1000000 < (if 0 > a1 then 0 else a1) then 1000000 else (if 0 > a1 then 0 else a1)) 10)))) none none (hll_Sketch.mk (fun _ => 0)))] : List stat_Col) 0 0, bR 91 69 R_stat_Col ([(stat_Col.mk x12.fKind 0 (if (if 1000000 < (if 0 > a1 then 0 else a1) then 1000000 else (if 0 > a1 then 0 else a1)) < (if 1 > (IntKind.wrap .i64 (Int.tdiv (if 1000000 < (if 0 > a1 then 0 else a1) then 1000000 else (if 0 > a1 then 0 else a1)) 10)) then 1 else (IntKind.wrap .i64 (Int.tdiv (if 1000000 < (if 0 > a1 then 0 else a1) then 1000000 else (if 0 > a1 then 0 else a1)) 10))) then (if 1000000 < (if 0 > a1 then 0 else a1) then 1000000 else (if 0 > a1 then 0 else a1)) else (if 1 > (IntKind.wrap .i64 (Int.tdiv (if 1000000 < (if 0 > a1 then 0 else a1) then 1000000 else (if 0 > a1 then 0 else a1)) 10)) then 1 else (IntKind.wrap .i64 (Int.tdiv (if 1000000 < (if 0 > a1 then 0 else a1) then 1000000 else (if 0 > a1 then 0 else a1)) 10)))) none none (hll_Sketch.mk (fun _ => 0)))] : List stat_Col) 0 0] (by kernel_rfl) (fin [(4, .ptr 1 0), (5, .ptr 2 0), (13, .pv (encSl R_api_Column a0.fCols)), (14, aI ((sll a0.fCols).length : Int)), (15, aI y9)] rfl (by kernel_rfl) (detn [(4, .ptr 1 0), (5, .ptr 2 0), (13, .pv (encSl R_api_Column a0.fCols)), (14, aI ((sll a0.fCols).length : Int)), (15, aI (IntKind.wrap .i64 (y9 + 1)))] (by kernel_rfl) ?_)))
    exact ⟨_, _, tidyL [(4, .ptr 1 0), (5, .ptr 2 0), (13, .pv (encSl R_api_Column a0.fCols)), (14, aI ((sll a0.fCols).length : Int)), (15, aI (IntKind.wrap .i64 (y9 + 1)))] [.box [aS a0.fName, .pv (encSl R_api_Column a0.fCols)] false, .box [aI 0, .pv .nils] false, .box [aI (if 1000000 < (if 0 > a1 then 0 else a1) then 1000000 else (if 0 > a1 then 0 else a1)), aR 3 69 (([(stat_Col.mk x12.fKind 0 (if (if 1000000 < (if 0 > a1 then 0 else a1) then 1000000 else (if 0 > a1 then 0 else a1)) < (if 1 > (IntKind.wrap .i64 (Int.tdiv (if 1000000 < (if 0 > a1 then 0 else a1) then 1000000 else (if 0 > a1 then 0 else a1)) 10)) then 1 else (IntKind.wrap .i64 (Int.tdiv (if 1000000 < (if 0 > a1 then 0 else a1) then 1000000 else (if 0 > a1 then 0 else a1)) 10))) then (if 1000000 < (if 0 > a1 then 0 else a1) then 1000000 else (if 0 > a1 then 0 else a1)) else (if 1 > (IntKind.wrap .i64 (Int.tdiv (if 1000000 < (if 0 > a1 then 0 else a1) then 1000000 else (if 0 > a1 then 0 else a1)) 10)) then 1 else (IntKind.wrap .i64 (Int.tdiv (if 1000000 < (if 0 > a1 then 0 else a1) then 1000000 else (if 0 > a1 then 0 else a1)) 10)))) none none (hll_Sketch.mk (fun _ => 0)))] : List stat_Col).length)] false, bR 91 69 R_stat_Col ([(stat_Col.mk x12.fKind 0 (if (if 1000000 < (if 0 > a1 then 0 else a1) then 1000000 else (if 0 > a1 then 0 else a1)) < (if 1 > (IntKind.wrap .i64 (Int.tdiv (if 1000000 < (if 0 > a1 then 0 else a1) then 1000000 else (if 0 > a1 then 0 else a1)) 10)) then 1 else (IntKind.wrap .i64 (Int.tdiv (if 1000000 < (if 0 > a1 then 0 else a1) then 1000000 else (if 0 > a1 then 0 else a1)) 10))) then (if 1000000 < (if 0 > a1 then 0 else a1) then 1000000 else (if 0 > a1 then 0 else a1)) else (if 1 > (IntKind.wrap .i64 (Int.tdiv (if 1000000 < (if 0 > a1 then 0 else a1) then 1000000 else (if 0 > a1 then 0 else a1)) 10)) then 1 else (IntKind.wrap .i64 (Int.tdiv (if 1000000 < (if 0 > a1 then 0 else a1) then 1000000 else (if 0 > a1 then 0 else a1)) 10)))) none none (hll_Sketch.mk (fun _ => 0)))] : List stat_Col) 0 0] (by kernel_rfl), .inr (⟨([(stat_Col.mk x12.fKind 0 (if (if 1000000 < (if 0 > a1 then 0 else a1) then 1000000 else (if 0 > a1 then 0 else a1)) < (if 1 > (IntKind.wrap .i64 (Int.tdiv (if 1000000 < (if 0 > a1 then 0 else a1) then 1000000 else (if 0 > a1 then 0 else a1)) 10)) then 1 else (IntKind.wrap .i64 (Int.tdiv (if 1000000 < (if 0 > a1 then 0 else a1) then 1000000 else (if 0 > a1 then 0 else a1)) 10))) then (if 1000000 < (if 0 > a1 then 0 else a1) then 1000000 else (if 0 > a1 then 0 else a1)) else (if 1 > (IntKind.wrap .i64 (Int.tdiv (if 1000000 < (if 0 > a1 then 0 else a1) then 1000000 else (if 0 > a1 then 0 else a1)) 10)) then 1 else (IntKind.wrap .i64 (Int.tdiv (if 1000000 < (if 0 > a1 then 0 else a1) then 1000000 else (if 0 > a1 then 0 else a1)) 10)))) none none (hll_Sketch.mk (fun _ => 0)))] : List stat_Col), (IntKind.wrap .i64 (y9 + 1)), hm, rfl, rfl⟩)⟩
   ·
    refine cf h11 (by kernel_rfl) (wp_exit ?_)
    exact .inl ⟨aI y9, aB (decide (y9 < ((sll a0.fCols).length : Int))), hm, (mk_same (by kernel_rfl)), rfl⟩
  ·
   simp only [stat_Plain_l3] at hm
   refine sq (detn [(4, .ptr 1 0), (5, .ptr 2 0), (13, .pv (encSl R_api_Column a0.fCols)), (14, aI ((sll a0.fCols).length : Int)), (15, aI y9), (16, aB (decide (y9 < ((sll a0.fCols).length : Int))))] (by kernel_rfl) ?_)
   refine sq ?_
   rcases bif_some hm with ⟨h15, hm⟩ | ⟨h15, hm⟩
   ·
    refine ct h15 (by kernel_rfl) (wp_skip (sq (bq (sq (rg ?_)))))
    obtain ⟨x16, h17, hm⟩ := bs hm
    refine dv 17 (v := .pv (.ptr (R_api_Column x16) 0)) (ia_slO R_api_Column a0.fCols .i64 t25 t98 h17 rfl (by kernel_rfl)) (by kernel_rfl) (st 3 [(7, .ptr 4 0), (18, .agg [aS x16.fName, aI x16.fKind])] [.box [aS a0.fName, .pv (encSl R_api_Column a0.fCols)] false, .box [aI 0, .pv .nils] false, .box [aI (if 1000000 < (if 0 > a1 then 0 else a1) then 1000000 else (if 0 > a1 then 0 else a1)), aR 3 69 y8.length] false, bR 91 69 R_stat_Col y8 0 0, .box [aS x16.fName, aI x16.fKind] false] (by kernel_rfl) (fin [(4, .ptr 1 0), (5, .ptr 2 0), (7, .ptr 4 0), (13, .pv (encSl R_api_Column a0.fCols)), (14, aI ((sll a0.fCols).length : Int)), (15, aI y9)] rfl (by kernel_rfl) (rg (st 13 [(31, aR 5 69 1), (30, .agg ([aI x16.fKind, aI 0, aI (if (if 1000000 < (if 0 > a1 then 0 else a1) then 1000000 else (if 0 > a1 then 0 else a1)) < (if 1 > (IntKind.wrap .i64 (Int.tdiv (if 1000000 < (if 0 > a1 then 0 else a1) then 1000000 else (if 0 > a1 then 0 else a1)) 10)) then 1 else (IntKind.wrap .i64 (Int.tdiv (if 1000000 < (if 0 > a1 then 0 else a1) then 1000000 else (if 0 > a1 then 0 else a1)) 10))) then (if 1000000 < (if 0 > a1 then 0 else a1) then 1000000 else (if 0 > a1 then 0 else a1)) else (if 1 > (IntKind.wrap .i64 (Int.tdiv (if 1000000 < (if 0 > a1 then 0 else a1) then 1000000 else (if 0 > a1 then 0 else a1)) 10)) then 1 else (IntKind.wrap .i64 (Int.tdiv (if 1000000 < (if 0 > a1 then 0 else a1) then 1000000 else (if 0 > a1 then 0 else a1)) 10)))), .pv .nils, .pv .nils] ++ (aA .u8 64 (fun _ => 0)))), (29, aI (if (if 1000000 < (if 0 > a1 then 0 else a1) then 1000000 else (if 0 > a1 then 0 else a1)) < (if 1 > (IntKind.wrap .i64 (Int.tdiv (if 1000000 < (if 0 > a1 then 0 else a1) then 1000000 else (if 0 > a1 then 0 else a1)) 10)) then 1 else (IntKind.wrap .i64 (Int.tdiv (if 1000000 < (if 0 > a1 then 0 else a1) then 1000000 else (if 0 > a1 then 0 else a1)) 10))) then (if 1000000 < (if 0 > a1 then 0 else a1) then 1000000 else (if 0 > a1 then 0 else a1)) else (if 1 > (IntKind.wrap .i64 (Int.tdiv (if 1000000 < (if 0 > a1 then 0 else a1) then 1000000 else (if 0 > a1 then 0 else a1)) 10)) then 1 else (IntKind.wrap .i64 (Int.tdiv (if 1000000 < (if 0 > a1 then 0 else a1) then 1000000 else (if 0 > a1 then 0 else a1)) 10))))), (28, aI (if 1000000 < (if 0 > a1 then 0 else a1) then 1000000 else (if 0 > a1 then 0 else a1))), (27, .ptr 2 0), (26, aI (if 1 > (IntKind.wrap .i64 (Int.tdiv (if 1000000 < (if 0 > a1 then 0 else a1) then 1000000 else (if 0 > a1 then 0 else a1)) 10)) then 1 else (IntKind.wrap .i64 (Int.tdiv (if 1000000 < (if 0 > a1 then 0 else a1) then 1000000 else (if 0 > a1 then 0 else a1)) 10)))), (25, aI (IntKind.wrap .i64 (Int.tdiv (if 1000000 < (if 0 > a1 then 0 else a1) then 1000000 else (if 0 > a1 then 0 else a1)) 10))), (24, aI (if 1000000 < (if 0 > a1 then 0 else a1) then 1000000 else (if 0 > a1 then 0 else a1))), (23, .ptr 2 0), (22, aI x16.fKind), (21, .ptr 4 1), (20, aR 3 69 y8.length), (19, .ptr 2 1)] [.box [aS a0.fName, .pv (encSl R_api_Column a0.fCols)] false, .box [aI 0, .pv .nils] false, .box [aI (if 1000000 < (if 0 > a1 then 0 else a1) then 1000000 else (if 0 > a1 then 0 else a1)), aR 3 69 y8.length] false, bR 91 69 R_stat_Col y8 0 0, .box [aS x16.fName, aI x16.fKind] false, bR 91 69 R_stat_Col ([(stat_Col.mk x16.fKind 0 (if (if 1000000 < (if 0 > a1 then 0 else a1) then 1000000 else (if 0 > a1 then 0 else a1)) < (if 1 > (IntKind.wrap .i64 (Int.tdiv (if 1000000 < (if 0 > a1 then 0 else a1) then 1000000 else (if 0 > a1 then 0 else a1)) 10)) then 1 else (IntKind.wrap .i64 (Int.tdiv (if 1000000 < (if 0 > a1 then 0 else a1) then 1000000 else (if 0 > a1 then 0 else a1)) 10))) then (if 1000000 < (if 0 > a1 then 0 else a1) then 1000000 else (if 0 > a1 then 0 else a1)) else (if 1 > (IntKind.wrap .i64 (Int.tdiv (if 1000000 < (if 0 > a1 then 0 else a1) then 1000000 else (if 0 > a1 then 0 else a1)) 10)) then 1 else (IntKind.wrap .i64 (Int.tdiv (if 1000000 < (if 0 > a1 then 0 else a1) then 1000000 else (if 0 > a1 then 0 else a1)) 10)))) none none (hll_Sketch.mk (fun _ => 0)))] : List stat_Col) 0 0] (by kernel_rfl) ?_))))
    obtain ⟨_, h18, hm⟩ := bs hm
    refine dO [(32, aR 3 69 ((y8 ++ ([(stat_Col.mk x16.fKind 0 (if (if 1000000 < (if 0 > a1 then 0 else a1) then 1000000 else (if 0 > a1 then 0 else a1)) < (if 1 > (IntKind.wrap .i64 (Int.tdiv (if 1000000 < (if 0 > a1 then 0 else a1) then 1000000 else (if 0 > a1 then 0 else a1)) 10)) then 1 else (IntKind.wrap .i64 (Int.tdiv (if 1000000 < (if 0 > a1 then 0 else a1) then 1000000 else (if 0 > a1 then 0 else a1)) 10))) then (if 1000000 < (if 0 > a1 then 0 else a1) then 1000000 else (if 0 > a1 then 0 else a1)) else (if 1 > (IntKind.wrap .i64 (Int.tdiv (if 1000000 < (if 0 > a1 then 0 else a1) then 1000000 else (if 0 > a1 then 0 else a1)) 10)) then 1 else (IntKind.wrap .i64 (Int.tdiv (if 1000000 < (if 0 > a1 then 0 else a1) then 1000000 else (if 0 > a1 then 0 else a1)) 10)))) none none (hll_Sketch.mk (fun _ => 0)))] : List stat_Col)).length))] [.box [aS a0.fName, .pv (encSl R_api_Column a0.fCols)] false, .box [aI 0, .pv .nils] false, .box [aI (if 1000000 < (if 0 > a1 then 0 else a1) then 1000000 else (if 0 > a1 then 0 else a1)), aR 3 69 y8.length] false, bR 91 69 R_stat_Col (y8 ++ ([(stat_Col.mk x16.fKind 0 (if (if 1000000 < (if 0 > a1 then 0 else a1) then 1000000 else (if 0 > a1 then 0 else a1)) < (if 1 > (IntKind.wrap .i64 (Int.tdiv (if 1000000 < (if 0 > a1 then 0 else a1) then 1000000 else (if 0 > a1 then 0 else a1)) 10)) then 1 else (IntKind.wrap .i64 (Int.tdiv (if 1000000 < (if 0 > a1 then 0 else a1) then 1000000 else (if 0 > a1 then 0 else a1)) 10))) then (if 1000000 < (if 0 > a1 then 0 else a1) then 1000000 else (if 0 > a1 then 0 else a1)) else (if 1 > (IntKind.wrap .i64 (Int.tdiv (if 1000000 < (if 0 > a1 then 0 else a1) then 1000000 else (if 0 > a1 then 0 else a1)) 10)) then 1 else (IntKind.wrap .i64 (Int.tdiv (if 1000000 < (if 0 > a1 then 0 else a1) then 1000000 else (if 0 > a1 then 0 else a1)) 10)))) none none (hll_Sketch.mk (fun _ => 0)))] : List stat_Col)) 0 0, .box [aS x16.fName, aI x16.fKind] false, bR 91 69 R_stat_Col ([(stat_Col.mk x16.fKind 0 (if (if 1000000 < (if 0 > a1 then 0 else a1) then 1000000 else (if 0 > a1 then 0 else a1)) < (if 1 > (IntKind.wrap .i64 (Int.tdiv (if 1000000 < (if 0 > a1 then 0 else a1) then 1000000 else (if 0 > a1 then 0 else a1)) 10)) then 1 else (IntKind.wrap .i64 (Int.tdiv (if 1000000 < (if 0 > a1 then 0 else a1) then 1000000 else (if 0 > a1 then 0 else a1)) 10))) then (if 1000000 < (if 0 > a1 then 0 else a1) then 1000000 else (if 0 > a1 then 0 else a1)) else (if 1 > (IntKind.wrap .i64 (Int.tdiv (if 1000000 < (if 0 > a1 then 0 else a1) then 1000000 else (if 0 > a1 then 0 else a1)) 10)) then 1 else (IntKind.wrap .i64 (Int.tdiv (if 1000000 < (if 0 > a1 then 0 else a1) then 1000000 else (if 0 > a1 then 0 else a1)) 10)))) none none (hll_Sketch.mk (fun _ => 0)))] : List stat_Col) 0 0] (app_refO (u := 0) (n := y8.length) (id := 3) R_stat_Col y8 ([(stat_Col.mk x16.fKind 0 (if (if 1000000 < (if 0 > a1 then 0 else a1) then 1000000 else (if 0 > a1 then 0 else a1)) < (if 1 > (IntKind.wrap .i64 (Int.tdiv (if 1000000 < (if 0 > a1 then 0 else a1) then 1000000 else (if 0 > a1 then 0 else a1)) 10)) then 1 else (IntKind.wrap .i64 (Int.tdiv (if 1000000 < (if 0 > a1 then 0 else a1) then 1000000 else (if 0 > a1 then 0 else a1)) 10))) then (if 1000000 < (if 0 > a1 then 0 else a1) then 1000000 else (if 0 > a1 then 0 else a1)) else (if 1 > (IntKind.wrap .i64 (Int.tdiv (if 1000000 < (if 0 > a1 then 0 else a1) then 1000000 else (if 0 > a1 then 0 else a1)) 10)) then 1 else (IntKind.wrap .i64 (Int.tdiv (if 1000000 < (if 0 > a1 then 0 else a1) then 1000000 else (if 0 > a1 then 0 else a1)) 10)))) none none (hll_Sketch.mk (fun _ => 0)))] : List stat_Col) (b := 136) t29 t91 rfl rfl rfl (fun _ => rfl) rfl h18 rfl rfl (Nat.zero_le _) (show srcRows (aR 5 69 1) _ = some (([(stat_Col.mk x16.fKind 0 (if (if 1000000 < (if 0 > a1 then 0 else a1) then 1000000 else (if 0 > a1 then 0 else a1)) < (if 1 > (IntKind.wrap .i64 (Int.tdiv (if 1000000 < (if 0 > a1 then 0 else a1) then 1000000 else (if 0 > a1 then 0 else a1)) 10)) then 1 else (IntKind.wrap .i64 (Int.tdiv (if 1000000 < (if 0 > a1 then 0 else a1) then 1000000 else (if 0 > a1 then 0 else a1)) 10))) then (if 1000000 < (if 0 > a1 then 0 else a1) then 1000000 else (if 0 > a1 then 0 else a1)) else (if 1 > (IntKind.wrap .i64 (Int.tdiv (if 1000000 < (if 0 > a1 then 0 else a1) then 1000000 else (if 0 > a1 then 0 else a1)) 10)) then 1 else (IntKind.wrap .i64 (Int.tdiv (if 1000000 < (if 0 > a1 then 0 else a1) then 1000000 else (if 0 > a1 then 0 else a1)) 10)))) none none (hll_Sketch.mk (fun _ => 0)))] : List stat_Col).map R_stat_Col) from by kernel_rfl) (by kernel_rfl)) (by kernel_rfl) (st 2 [(33, .ptr 2 1)] [.box [aS a0.fName, .pv (encSl R_api_Column a0.fCols)] false, .box [aI 0, .pv .nils] false, .box [aI (if 1000000 < (if 0 > a1 then 0 else a1) then 1000000 else (if 0 > a1 then 0 else a1)), aR 3 69 ((y8 ++ ([(stat_Col.mk x16.fKind 0 (if (if 1000000 < (if 0 > a1 then 0 else a1) then 1000000 else (if 0 > a1 then 0 else a1)) < (if 1 > (IntKind.wrap .i64 (Int.tdiv (if 1000000 < (if 0 > a1 then 0 else a1) then 1000000 else (if 0 > a1 then 0 else a1)) 10)) then 1 else (IntKind.wrap .i64 (Int.tdiv (if 1000000 < (if 0 > a1 then 0 else a1) then 1000000 else (if 0 > a1 then 0 else a1)) 10))) then (if 1000000 < (if 0 > a1 then 0 else a1) then 1000000 else (if 0 > a1 then 0 else a1)) else (if 1 > (IntKind.wrap .i64 (Int.tdiv (if 1000000 < (if 0 > a1 then 0 else a1) then 1000000 else (if 0 > a1 then 0 else a1)) 10)) then 1 else (IntKind.wrap .i64 (Int.tdiv (if 1000000 < (if 0 > a1 then 0 else a1) then 1000000 else (if 0 > a1 then 0 else a1)) 10)))) none none (hll_Sketch.mk (fun _ => 0)))] : List stat_Col)).length)] false, bR 91 69 R_stat_Col (y8 ++ ([(stat_Col.mk x16.fKind 0 (if (if 1000000 < (if 0 > a1 then 0 else a1) then 1000000 else (if 0 > a1 then 0 else a1)) < (if 1 > (IntKind.wrap .i64 (Int.tdiv (if 1000000 < (if 0 > a1 then 0 else a1) then 1000000 else (if 0 > a1 then 0 else a1)) 10)) then 1 else (IntKind.wrap .i64 (Int.tdiv (if 1000000 < (if 0 > a1 then 0 else a1) then 1000000 else (if 0 > a1 then 0 else a1)) 10))) then (if 1000000 < (if 0 > a1 then 0 else a1) then 1000000 else (if 0 > a1 then 0 else a1)) else (if 1 > (IntKind.wrap .i64 (Int.tdiv (if 1000000 < (if 0 > a1 then 0 else a1) then 1000000 else (if 0 > a1 then 0 else a1)) 10)) then 1 else (IntKind.wrap .i64 (Int.tdiv (if 1000000 < (if 0 > a1 then 0 else a1) then 1000000 else (if 0 > a1 then 0 else a1)) 10)))) none none (hll_Sketch.mk (fun _ => 0)))] : List stat_Col)) 0 0, .box [aS x16.fName, aI x16.fKind] false, bR 91 69 R_stat_Col ([(stat_Col.mk x16.fKind 0 (if (if 1000000 < (if 0 > a1 then 0 else a1) then 1000000 else (if 0 > a1 then 0 else a1)) < (if 1 > (IntKind.wrap .i64 (Int.tdiv (if 1000000 < (if 0 > a1 then 0 else a1) then 1000000 else (if 0 > a1 then 0 else a1)) 10)) then 1 else (IntKind.wrap .i64 (Int.tdiv (if 1000000 < (if 0 > a1 then 0 else a1) then 1000000 else (if 0 > a1 then 0 else a1)) 10))) then (if 1000000 < (if 0 > a1 then 0 else a1) then 1000000 else (if 0 > a1 then 0 else a1)) else (if 1 > (IntKind.wrap .i64 (Int.tdiv (if 1000000 < (if 0 > a1 then 0 else a1) then 1000000 else (if 0 > a1 then 0 else a1)) 10)) then 1 else (IntKind.wrap .i64 (Int.tdiv (if 1000000 < (if 0 > a1 then 0 else a1) then 1000000 else (if 0 > a1 then 0 else a1)) 10)))) none none (hll_Sketch.mk (fun _ => 0)))] : List stat_Col) 0 0] (by kernel_rfl) (fin [(4, .ptr 1 0), (5, .ptr 2 0), (13, .pv (encSl R_api_Column a0.fCols)), (14, aI ((sll a0.fCols).length : Int)), (15, aI y9)] rfl (by kernel_rfl) (detn [(4, .ptr 1 0), (5, .ptr 2 0), (13, .pv (encSl R_api_Column a0.fCols)), (14, aI ((sll a0.fCols).length : Int)), (15, aI (IntKind.wrap .i64 (y9 + 1)))] (by kernel_rfl) ?_)))
    exact ⟨_, _, tidyL [(4, .ptr 1 0), (5, .ptr 2 0), (13, .pv (encSl R_api_Column a0.fCols)), (14, aI ((sll a0.fCols).length : Int)), (15, aI (IntKind.wrap .i64 (y9 + 1)))] [.box [aS a0.fName, .pv (encSl R_api_Column a0.fCols)] false, .box [aI 0, .pv .nils] false, .box [aI (if 1000000 < (if 0 > a1 then 0 else a1) then 1000000 else (if 0 > a1 then 0 else a1)), aR 3 69 ((y8 ++ ([(stat_Col.mk x16.fKind 0 (if (if 1000000 < (if 0 > a1 then 0 else a1) then 1000000 else (if 0 > a1 then 0 else a1)) < (if 1 > (IntKind.wrap .i64 (Int.tdiv (if 1000000 < (if 0 > a1 then 0 else a1) then 1000000 else (if 0 > a1 then 0 else a1)) 10)) then 1 else (IntKind.wrap .i64 (Int.tdiv (if 1000000 < (if 0 > a1 then 0 else a1) then 1000000 else (if 0 > a1 then 0 else a1)) 10))) then (if 1000000 < (if 0 > a1 then 0 else a1) then 1000000 else (if 0 > a1 then 0 else a1)) else (if 1 > (IntKind.wrap .i64 (Int.tdiv (if 1000000 < (if 0 > a1 then 0 else a1) then 1000000 else (if 0 > a1 then 0 else a1)) 10)) then 1 else (IntKind.wrap .i64 (Int.tdiv (if 1000000 < (if 0 > a1 then 0 else a1) then 1000000 else (if 0 > a1 then 0 else a1)) 10)))) none none (hll_Sketch.mk (fun _ => 0)))] : List stat_Col)).length)] false, bR 91 69 R_stat_Col (y8 ++ ([(stat_Col.mk x16.fKind 0 (if (if 1000000 < (if 0 > a1 then 0 else a1) then 1000000 else (if 0 > a1 then 0 else a1)) < (if 1 > (IntKind.wrap .i64 (Int.tdiv (if 1000000 < (if 0 > a1 then 0 else a1) then 1000000 else (if 0 > a1 then 0 else a1)) 10)) then 1 else (IntKind.wrap .i64 (Int.tdiv (if 1000000 < (if 0 > a1 then 0 else a1) then 1000000 else (if 0 > a1 then 0 else a1)) 10))) then (if 1000000 < (if 0 > a1 then 0 else a1) then 1000000 else (if 0 > a1 then 0 else a1)) else (if 1 > (IntKind.wrap .i64 (Int.tdiv (if 1000000 < (if 0 > a1 then 0 else a1) then 1000000 else (if 0 > a1 then 0 else a1)) 10)) then 1 else (IntKind.wrap .i64 (Int.tdiv (if 1000000 < (if 0 > a1 then 0 else a1) then 1000000 else (if 0 > a1 then 0 else a1)) 10)))) none none (hll_Sketch.mk (fun _ => 0)))] : List stat_Col)) 0 0] (by kernel_rfl), .inr (⟨(y8 ++ ([(stat_Col.mk x16.fKind 0 (if (if 1000000 < (if 0 > a1 then 0 else a1) then 1000000 else (if 0 > a1 then 0 else a1)) < (if 1 > (IntKind.wrap .i64 (Int.tdiv (if 1000000 < (if 0 > a1 then 0 else a1) then 1000000 else (if 0 > a1 then 0 else a1)) 10)) then 1 else (IntKind.wrap .i64 (Int.tdiv (if 1000000 < (if 0 > a1 then 0 else a1) then 1000000 else (if 0 > a1 then 0 else a1)) 10))) then (if 1000000 < (if 0 > a1 then 0 else a1) then 1000000 else (if 0 > a1 then 0 else a1)) else (if 1 > (IntKind.wrap .i64 (Int.tdiv (if 1000000 < (if 0 > a1 then 0 else a1) then 1000000 else (if 0 > a1 then 0 else a1)) 10)) then 1 else (IntKind.wrap .i64 (Int.tdiv (if 1000000 < (if 0 > a1 then 0 else a1) then 1000000 else (if 0 > a1 then 0 else a1)) 10)))) none none (hll_Sketch.mk (fun _ => 0)))] : List stat_Col)), (IntKind.wrap .i64 (y9 + 1)), hm, rfl, rfl⟩)⟩
   ·
    refine cf h15 (by kernel_rfl) (wp_exit ?_)
    exact .inr (⟨y8, aI y9, aB (decide (y9 < ((sll a0.fCols).length : Int))), hm, (mk_same (by kernel_rfl)), rfl⟩)
theorem ok_law19_Told {n : Nat} {a0 : (Option (List hist_Bucket))} {r : (Option (List tabularyref19_Bucket))} (hm : law19_Told n a0 = some r) :
    call G n 29 [.pv (encSl R_hist_Bucket a0)] [] = some (.ret (.pv (encSl R_tabularyref19_Bucket r)), []) := by
  unfold law19_Told at hm
  obtain ⟨n, rfl, h0⟩ := at1_some hm
  replace hm := h0; clear h0
  refine callL 18 [(0, .pv (encSl R_hist_Bucket a0))] func29 rfl (by kernel_rfl) (sq (detn [(0, .pv (encSl R_hist_Bucket a0))] (by kernel_rfl) (sq (detn [(0, .pv (encSl R_hist_Bucket a0)), (3, .pv .nils)] (by kernel_rfl) ?_))))
  obtain ⟨k4, hk4, hm⟩ := withK_some hm
  refine mid (fun t H => (∃ (w1 : AV) (w2 : AV), k4 none = some r ∧ t = mk 18 [(3, .pv .nils), (6, .pv (encSl R_hist_Bucket a0)), (7, aI ((sll a0).length : Int)), (8, w1), (9, w2)] ∧ H = []) ∨ (∃ (y3 : (List tabularyref19_Bucket)) (w1 : AV) (w2 : AV), k4 (some y3) = some r ∧ t = mk 18 [(3, aR 0 10 y3.length), (6, .pv (encSl R_hist_Bucket a0)), (7, aI ((sll a0).length : Int)), (8, w1), (9, w2)] ∧ H = [bR 80 10 R_tabularyref19_Bucket y3 0 0])) ?_ ?_
  ·
   rintro _ _ (⟨w1, w2, hm, rfl, rfl⟩ | ⟨y3, w1, w2, hm, rfl, rfl⟩)
   ·
    subst hk4
    refine sq (detn [(2, .pv .nils)] (by kernel_rfl) (wp_ret ?_))
    obtain rfl := Option.some.inj hm
    exact ⟨trivial, by kernel_rfl⟩
   ·
    subst hk4
    refine sq (detn [(2, aR 0 10 y3.length)] (by kernel_rfl) (wp_ret ?_))
    obtain rfl := Option.some.inj hm
    exact ret_pure (v := aR 0 10 y3.length) trivial rfl (by kernel_rfl) (pA_ref (pur_ref' (n := y3.length) (id := 0) (l := y3) (R := R_tabularyref19_Bucket) rfl rfl (Nat.zero_le _)))
  refine sq (rg (sh 1 [(6, .pv (encSl R_hist_Bucket a0))] (by kernel_rfl) (dv 7 (v := aI ((sll a0).length : Int)) (len_slO R_hist_Bucket a0 t53 (by kernel_rfl)) (by kernel_rfl) (sh 1 [(8, aI 0)] (by kernel_rfl) (fin [(3, .pv .nils), (6, .pv (encSl R_hist_Bucket a0)), (7, aI ((sll a0).length : Int)), (8, aI 0)] rfl (by kernel_rfl) (bq ?_))))))
  refine loopF (fun mm t H => (∃ (y9 : Int), law19_Told_l3 n a0 k4 mm none y9 = some r ∧ t = mk 18 [(3, .pv .nils), (6, .pv (encSl R_hist_Bucket a0)), (7, aI ((sll a0).length : Int)), (8, aI y9)] ∧ H = []) ∨ (∃ (y8 : (List tabularyref19_Bucket)) (y9 : Int), law19_Told_l3 n a0 k4 mm (some y8) y9 = some r ∧ t = mk 18 [(3, aR 0 10 y8.length), (6, .pv (encSl R_hist_Bucket a0)), (7, aI ((sll a0).length : Int)), (8, aI y9)] ∧ H = [bR 80 10 R_tabularyref19_Bucket y8 0 0])) (.inl ⟨0, hm, rfl, rfl⟩) ?_ ?_
  · rintro _ _ (⟨y9, hm, _⟩ | ⟨y8, y9, hm, _⟩) <;> exact nomatch hm
  rintro m10 _ _ (⟨y9, hm, rfl, rfl⟩ | ⟨y8, y9, hm, rfl, rfl⟩)
  ·
   simp only [law19_Told_l3] at hm
   refine sq (detn [(3, .pv .nils), (6, .pv (encSl R_hist_Bucket a0)), (7, aI ((sll a0).length : Int)), (8, aI y9), (9, aB (decide (y9 < ((sll a0).length : Int))))] (by kernel_rfl) ?_)
   refine sq ?_
   rcases bif_some hm with ⟨h11, hm⟩ | ⟨h11, hm⟩
   ·
    refine ct h11 (by kernel_rfl) (wp_skip (sq (bq (sq (rg ?_)))))
    obtain ⟨x12, h13, hm⟩ := bs hm
    refine dv 10 (v := .pv (.ptr (R_hist_Bucket x12) 0)) (ia_slO R_hist_Bucket a0 .i64 t53 t77 h13 rfl (by kernel_rfl)) (by kernel_rfl) (st 3 [(5, .ptr 0 0), (11, .agg [aI x12.fLow.fKind, aI x12.fLow.fInt, aF x12.fLow.fFloat, aS x12.fLow.fText, aI x12.fHigh.fKind, aI x12.fHigh.fInt, aF x12.fHigh.fFloat, aS x12.fHigh.fText, aI x12.fCount, aI x12.fDistinct])] [.box [aI x12.fLow.fKind, aI x12.fLow.fInt, aF x12.fLow.fFloat, aS x12.fLow.fText, aI x12.fHigh.fKind, aI x12.fHigh.fInt, aF x12.fHigh.fFloat, aS x12.fHigh.fText, aI x12.fCount, aI x12.fDistinct] false] (by kernel_rfl) (fin [(3, .pv .nils), (5, .ptr 0 0), (6, .pv (encSl R_hist_Bucket a0)), (7, aI ((sll a0).length : Int)), (8, aI y9)] rfl (by kernel_rfl) (rg (st 3 [(14, aR 1 10 1), (13, .agg [aI x12.fLow.fKind, aI x12.fLow.fInt, aF x12.fLow.fFloat, aS x12.fLow.fText, aI x12.fHigh.fKind, aI x12.fHigh.fInt, aF x12.fHigh.fFloat, aS x12.fHigh.fText, aI x12.fCount, aI x12.fDistinct]), (12, .pv .nils)] [.box [aI x12.fLow.fKind, aI x12.fLow.fInt, aF x12.fLow.fFloat, aS x12.fLow.fText, aI x12.fHigh.fKind, aI x12.fHigh.fInt, aF x12.fHigh.fFloat, aS x12.fHigh.fText, aI x12.fCount, aI x12.fDistinct] false, bR 80 10 R_tabularyref19_Bucket ([(tabularyref19_Bucket.mk x12.fLow x12.fHigh x12.fCount x12.fDistinct)] : List tabularyref19_Bucket) 0 0] (by kernel_rfl) ?_))))
    obtain ⟨_, h14, hm⟩ := bs hm
    refine dO [(15, aR 2 10 (([(tabularyref19_Bucket.mk x12.fLow x12.fHigh x12.fCount x12.fDistinct)] : List tabularyref19_Bucket).length))] [.box [aI x12.fLow.fKind, aI x12.fLow.fInt, aF x12.fLow.fFloat, aS x12.fLow.fText, aI x12.fHigh.fKind, aI x12.fHigh.fInt, aF x12.fHigh.fFloat, aS x12.fHigh.fText, aI x12.fCount, aI x12.fDistinct] false, bR 80 10 R_tabularyref19_Bucket ([(tabularyref19_Bucket.mk x12.fLow x12.fHigh x12.fCount x12.fDistinct)] : List tabularyref19_Bucket) 0 0, bR 80 10 R_tabularyref19_Bucket ([(tabularyref19_Bucket.mk x12.fLow x12.fHigh x12.fCount x12.fDistinct)] : List tabularyref19_Bucket) 0 0] (app_nilO (u := 0) R_tabularyref19_Bucket ([(tabularyref19_Bucket.mk x12.fLow x12.fHigh x12.fCount x12.fDistinct)] : List tabularyref19_Bucket) (b := 96) t56 t80 rfl rfl rfl (fun _ => rfl) rfl h14 (show srcRows (aR 1 10 1) _ = some (([(tabularyref19_Bucket.mk x12.fLow x12.fHigh x12.fCount x12.fDistinct)] : List tabularyref19_Bucket).map R_tabularyref19_Bucket) from by kernel_rfl) (by kernel_rfl)) (by kernel_rfl) (sh 1 [(3, aR 2 10 (([(tabularyref19_Bucket.mk x12.fLow x12.fHigh x12.fCount x12.fDistinct)] : List tabularyref19_Bucket).length))] (by kernel_rfl) (fin [(3, aR 2 10 (([(tabularyref19_Bucket.mk x12.fLow x12.fHigh x12.fCount x12.fDistinct)] : List tabularyref19_Bucket).length)), (6, .pv (encSl R_hist_Bucket a0)), (7, aI ((sll a0).length : Int)), (8, aI y9)] rfl (by kernel_rfl) (detn [(3, aR 2 10 (([(tabularyref19_Bucket.mk x12.fLow x12.fHigh x12.fCount x12.fDistinct)] : List tabularyref19_Bucket).length)), (6, .pv (encSl R_hist_Bucket a0)), (7, aI ((sll a0).length : Int)), (8, aI (IntKind.wrap .i64 (y9 + 1)))] (by kernel_rfl) ?_)))
    exact ⟨_, _, tidyL [(3, aR 0 10 (([(tabularyref19_Bucket.mk x12.fLow x12.fHigh x12.fCount x12.fDistinct)] : List tabularyref19_Bucket).length)), (6, .pv (encSl R_hist_Bucket a0)), (7, aI ((sll a0).length : Int)), (8, aI (IntKind.wrap .i64 (y9 + 1)))] [bR 80 10 R_tabularyref19_Bucket ([(tabularyref19_Bucket.mk x12.fLow x12.fHigh x12.fCount x12.fDistinct)] : List tabularyref19_Bucket) 0 0] (by kernel_rfl), .inr (⟨([(tabularyref19_Bucket.mk x12.fLow x12.fHigh x12.fCount x12.fDistinct)] : List tabularyref19_Bucket), (IntKind.wrap .i64 (y9 + 1)), hm, rfl, rfl⟩)⟩
   ·
    refine cf h11 (by kernel_rfl) (wp_exit ?_)
    exact .inl ⟨aI y9, aB (decide (y9 < ((sll a0).length : Int))), hm, (mk_same (by kernel_rfl)), rfl⟩
  ·
   simp only [law19_Told_l3] at hm
   refine sq (detn [(3, aR 0 10 y8.length), (6, .pv (encSl R_hist_Bucket a0)), (7, aI ((sll a0).length : Int)), (8, aI y9), (9, aB (decide (y9 < ((sll a0).length : Int))))] (by kernel_rfl) ?_)
   refine sq ?_
   rcases bif_some hm with ⟨h15, hm⟩ | ⟨h15, hm⟩
   ·
    refine ct h15 (by kernel_rfl) (wp_skip (sq (bq (sq (rg ?_)))))
    obtain ⟨x16, h17, hm⟩ := bs hm
    refine dv 10 (v := .pv (.ptr (R_hist_Bucket x16) 0)) (ia_slO R_hist_Bucket a0 .i64 t53 t77 h17 rfl (by kernel_rfl)) (by kernel_rfl) (st 3 [(5, .ptr 1 0), (11, .agg [aI x16.fLow.fKind, aI x16.fLow.fInt, aF x16.fLow.fFloat, aS x16.fLow.fText, aI x16.fHigh.fKind, aI x16.fHigh.fInt, aF x16.fHigh.fFloat, aS x16.fHigh.fText, aI x16.fCount, aI x16.fDistinct])] [bR 80 10 R_tabularyref19_Bucket y8 0 0, .box [aI x16.fLow.fKind, aI x16.fLow.fInt, aF x16.fLow.fFloat, aS x16.fLow.fText, aI x16.fHigh.fKind, aI x16.fHigh.fInt, aF x16.fHigh.fFloat, aS x16.fHigh.fText, aI x16.fCount, aI x16.fDistinct] false] (by kernel_rfl) (fin [(3, aR 0 10 y8.length), (5, .ptr 1 0), (6, .pv (encSl R_hist_Bucket a0)), (7, aI ((sll a0).length : Int)), (8, aI y9)] rfl (by kernel_rfl) (rg (st 3 [(14, aR 2 10 1), (13, .agg [aI x16.fLow.fKind, aI x16.fLow.fInt, aF x16.fLow.fFloat, aS x16.fLow.fText, aI x16.fHigh.fKind, aI x16.fHigh.fInt, aF x16.fHigh.fFloat, aS x16.fHigh.fText, aI x16.fCount, aI x16.fDistinct]), (12, aR 0 10 y8.length)] [bR 80 10 R_tabularyref19_Bucket y8 0 0, .box [aI x16.fLow.fKind, aI x16.fLow.fInt, aF x16.fLow.fFloat, aS x16.fLow.fText, aI x16.fHigh.fKind, aI x16.fHigh.fInt, aF x16.fHigh.fFloat, aS x16.fHigh.fText, aI x16.fCount, aI x16.fDistinct] false, bR 80 10 R_tabularyref19_Bucket ([(tabularyref19_Bucket.mk x16.fLow x16.fHigh x16.fCount x16.fDistinct)] : List tabularyref19_Bucket) 0 0] (by kernel_rfl) ?_))))
    obtain ⟨_, h18, hm⟩ := bs hm
    refine dO [(15, aR 0 10 ((y8 ++ ([(tabularyref19_Bucket.mk x16.fLow x16.fHigh x16.fCount x16.fDistinct)] : List tabularyref19_Bucket)).length))] [bR 80 10 R_tabularyref19_Bucket (y8 ++ ([(tabularyref19_Bucket.mk x16.fLow x16.fHigh x16.fCount x16.fDistinct)] : List tabularyref19_Bucket)) 0 0, .box [aI x16.fLow.fKind, aI x16.fLow.fInt, aF x16.fLow.fFloat, aS x16.fLow.fText, aI x16.fHigh.fKind, aI x16.fHigh.fInt, aF x16.fHigh.fFloat, aS x16.fHigh.fText, aI x16.fCount, aI x16.fDistinct] false, bR 80 10 R_tabularyref19_Bucket ([(tabularyref19_Bucket.mk x16.fLow x16.fHigh x16.fCount x16.fDistinct)] : List tabularyref19_Bucket) 0 0] (app_refO (u := 0) (n := y8.length) (id := 0) R_tabularyref19_Bucket y8 ([(tabularyref19_Bucket.mk x16.fLow x16.fHigh x16.fCount x16.fDistinct)] : List tabularyref19_Bucket) (b := 96) t56 t80 rfl rfl rfl (fun _ => rfl) rfl h18 rfl rfl (Nat.zero_le _) (show srcRows (aR 2 10 1) _ = some (([(tabularyref19_Bucket.mk x16.fLow x16.fHigh x16.fCount x16.fDistinct)] : List tabularyref19_Bucket).map R_tabularyref19_Bucket) from by kernel_rfl) (by kernel_rfl)) (by kernel_rfl) (sh 1 [(3, aR 0 10 ((y8 ++ ([(tabularyref19_Bucket.mk x16.fLow x16.fHigh x16.fCount x16.fDistinct)] : List tabularyref19_Bucket)).length))] (by kernel_rfl) (fin [(3, aR 0 10 ((y8 ++ ([(tabularyref19_Bucket.mk x16.fLow x16.fHigh x16.fCount x16.fDistinct)] : List tabularyref19_Bucket)).length)), (6, .pv (encSl R_hist_Bucket a0)), (7, aI ((sll a0).length : Int)), (8, aI y9)] rfl (by kernel_rfl) (detn [(3, aR 0 10 ((y8 ++ ([(tabularyref19_Bucket.mk x16.fLow x16.fHigh x16.fCount x16.fDistinct)] : List tabularyref19_Bucket)).length)), (6, .pv (encSl R_hist_Bucket a0)), (7, aI ((sll a0).length : Int)), (8, aI (IntKind.wrap .i64 (y9 + 1)))] (by kernel_rfl) ?_)))
    exact ⟨_, _, tidyL [(3, aR 0 10 ((y8 ++ ([(tabularyref19_Bucket.mk x16.fLow x16.fHigh x16.fCount x16.fDistinct)] : List tabularyref19_Bucket)).length)), (6, .pv (encSl R_hist_Bucket a0)), (7, aI ((sll a0).length : Int)), (8, aI (IntKind.wrap .i64 (y9 + 1)))] [bR 80 10 R_tabularyref19_Bucket (y8 ++ ([(tabularyref19_Bucket.mk x16.fLow x16.fHigh x16.fCount x16.fDistinct)] : List tabularyref19_Bucket)) 0 0] (by kernel_rfl), .inr (⟨(y8 ++ ([(tabularyref19_Bucket.mk x16.fLow x16.fHigh x16.fCount x16.fDistinct)] : List tabularyref19_Bucket)), (IntKind.wrap .i64 (y9 + 1)), hm, rfl, rfl⟩)⟩
   ·
    refine cf h15 (by kernel_rfl) (wp_exit ?_)
    exact .inr (⟨y8, aI y9, aB (decide (y9 < ((sll a0).length : Int))), hm, (mk_same (by kernel_rfl)), rfl⟩)
theorem ok_law20_Told {n : Nat} {a0 : stat_Stat} {r : tabularyref20_Stat} (hm : law20_Told n a0 = some r) :
    call G n 18 [.agg [aI a0.fRows, .pv (encSl R_stat_Col a0.fCols)]] [] = some (.ret (.agg [aI r.fRows, .pv (encSl R_tabularyref20_Col r.fCols)]), []) := by
  unfold law20_Told at hm
  obtain ⟨n, rfl, h0⟩ := at1_some hm
  replace hm := h0; clear h0
  refine callL 38 [(0, .agg [aI a0.fRows, .pv (encSl R_stat_Col a0.fCols)])] func18 rfl (by kernel_rfl) (sq (det [(1, .ptr 0 0), (2, .ptr 1 0)] [.box [aI a0.fRows, .pv (encSl R_stat_Col a0.fCols)] false, .box [aI 0, .pv .nils] false] (by kernel_rfl) (sq (det [(1, .ptr 0 0), (2, .ptr 1 0), (3, .ptr 2 0)] [.box [aI a0.fRows, .pv (encSl R_stat_Col a0.fCols)] false, .box [aI 0, .pv .nils] false, .box [aI a0.fRows, .pv .nils] false] (by kernel_rfl) ?_))))
  obtain ⟨k4, hk4, hm⟩ := withK_some hm
  refine mid (fun t H => (∃ (w1 : AV) (w2 : AV), k4 none = some r ∧ t = mk 38 [(2, .ptr 1 0), (3, .ptr 2 0), (10, .pv (encSl R_stat_Col a0.fCols)), (11, aI ((sll a0.fCols).length : Int)), (12, w1), (13, w2)] ∧ H = [.box [aI a0.fRows, .pv (encSl R_stat_Col a0.fCols)] false, .box [aI 0, .pv .nils] false, .box [aI a0.fRows, .pv .nils] false]) ∨ (∃ (y3 : (List tabularyref20_Col)) (w1 : AV) (w2 : AV), k4 (some y3) = some r ∧ t = mk 38 [(2, .ptr 1 0), (3, .ptr 2 0), (10, .pv (encSl R_stat_Col a0.fCols)), (11, aI ((sll a0.fCols).length : Int)), (12, w1), (13, w2)] ∧ H = [.box [aI a0.fRows, .pv (encSl R_stat_Col a0.fCols)] false, .box [aI 0, .pv .nils] false, .box [aI a0.fRows, aR 3 69 y3.length] false, bR 87 69 R_tabularyref20_Col y3 0 0])) ?_ ?_
  ·
   rintro _ _ (⟨w1, w2, hm, rfl, rfl⟩ | ⟨y3, w1, w2, hm, rfl, rfl⟩)
   ·
    subst hk4
    refine sq (det [(2, .ptr 1 0)] [.box [aI a0.fRows, .pv (encSl R_stat_Col a0.fCols)] false, .box [aI a0.fRows, .pv .nils] false, .box [aI a0.fRows, .pv .nils] false] (by kernel_rfl) (wp_ret ?_))
    obtain rfl := Option.some.inj hm
    exact ⟨trivial, by kernel_rfl⟩
   ·
    subst hk4
    refine sq (det [(2, .ptr 1 0)] [.box [aI a0.fRows, .pv (encSl R_stat_Col a0.fCols)] false, .box [aI a0.fRows, aR 3 69 y3.length] false, .box [aI a0.fRows, aR 3 69 y3.length] false, bR 87 69 R_tabularyref20_Col y3 0 0] (by kernel_rfl) (wp_ret ?_))
    obtain rfl := Option.some.inj hm
    exact ret_pure (v := .agg [aI a0.fRows, aR 3 69 y3.length]) trivial rfl (by kernel_rfl) (pR_agg (purL_cons (pur_pv) (purL_cons (pur_ref' (n := y3.length) (id := 3) (l := y3) (R := R_tabularyref20_Col) rfl rfl (Nat.zero_le _)) (rfl))) (by kernel_rfl))
  refine sq (rg (sh 2 [(10, .pv (encSl R_stat_Col a0.fCols)), (9, .ptr 0 1)] (by kernel_rfl) (dv 11 (v := aI ((sll a0.fCols).length : Int)) (len_slO R_stat_Col a0.fCols t29 (by kernel_rfl)) (by kernel_rfl) (sh 1 [(12, aI 0)] (by kernel_rfl) (fin [(2, .ptr 1 0), (3, .ptr 2 0), (10, .pv (encSl R_stat_Col a0.fCols)), (11, aI ((sll a0.fCols).length : Int)), (12, aI 0)] rfl (by kernel_rfl) (bq ?_))))))
  refine loopF (fun mm t H => (∃ (y9 : Int), law20_Told_l3 n a0 k4 mm none y9 = some r ∧ t = mk 38 [(2, .ptr 1 0), (3, .ptr 2 0), (10, .pv (encSl R_stat_Col a0.fCols)), (11, aI ((sll a0.fCols).length : Int)), (12, aI y9)] ∧ H = [.box [aI a0.fRows, .pv (encSl R_stat_Col a0.fCols)] false, .box [aI 0, .pv .nils] false, .box [aI a0.fRows, .pv .nils] false]) ∨ (∃ (y8 : (List tabularyref20_Col)) (y9 : Int), law20_Told_l3 n a0 k4 mm (some y8) y9 = some r ∧ t = mk 38 [(2, .ptr 1 0), (3, .ptr 2 0), (10, .pv (encSl R_stat_Col a0.fCols)), (11, aI ((sll a0.fCols).length : Int)), (12, aI y9)] ∧ H = [.box [aI a0.fRows, .pv (encSl R_stat_Col a0.fCols)] false, .box [aI 0, .pv .nils] false, .box [aI a0.fRows, aR 3 69 y8.length] false, bR 87 69 R_tabularyref20_Col y8 0 0])) (.inl ⟨0, hm, rfl, rfl⟩) ?_ ?_
  · rintro _ _ (⟨y9, hm, _⟩ | ⟨y8, y9, hm, _⟩) <;> exact nomatch hm
  rintro m10 _ _ (⟨y9, hm, rfl, rfl⟩ | ⟨y8, y9, hm, rfl, rfl⟩)
  ·
   simp only [law20_Told_l3] at hm
   refine sq (detn [(2, .ptr 1 0), (3, .ptr 2 0), (10, .pv (encSl R_stat_Col a0.fCols)), (11, aI ((sll a0.fCols).length : Int)), (12, aI y9), (13, aB (decide (y9 < ((sll a0.fCols).length : Int))))] (by kernel_rfl) ?_)
   refine sq ?_
   rcases bif_some hm with ⟨h11, hm⟩ | ⟨h11, hm⟩
   ·
    refine ct h11 (by kernel_rfl) (wp_skip (sq (bq (sq (rg ?_)))))
    obtain ⟨x12, h13, hm⟩ := bs hm
    refine dv 14 (v := .pv (.ptr (R_stat_Col x12) 0)) (ia_slO R_stat_Col a0.fCols .i64 t29 t91 h13 rfl (by kernel_rfl)) (by kernel_rfl) (st 3 [(5, .ptr 3 0), (15, .agg ([aI x12.fKind, aI x12.fNulls, aI x12.fDistinct, .pv (encSl R_hist_Bucket x12.fHist), .pv (encSl R_api_Value x12.fSample)] ++ (aA .u8 64 x12.fSketch.fRegs)))] [.box [aI a0.fRows, .pv (encSl R_stat_Col a0.fCols)] false, .box [aI 0, .pv .nils] false, .box [aI a0.fRows, .pv .nils] false, .box ([aI x12.fKind, aI x12.fNulls, aI x12.fDistinct, .pv (encSl R_hist_Bucket x12.fHist), .pv (encSl R_api_Value x12.fSample)] ++ (aA .u8 64 x12.fSketch.fRegs)) false] (by kernel_rfl) (fin [(2, .ptr 1 0), (3, .ptr 2 0), (5, .ptr 3 0), (10, .pv (encSl R_stat_Col a0.fCols)), (11, aI ((sll a0.fCols).length : Int)), (12, aI y9)] rfl (by kernel_rfl) (rgd (shd 10 [(25, .pv (encSl R_hist_Bucket x12.fHist)), (24, .ptr 3 3), (23, aI x12.fDistinct), (22, .ptr 3 2), (21, aI x12.fNulls), (20, .ptr 3 1), (19, aI x12.fKind), (18, .ptr 3 0), (17, .pv .nils), (16, .ptr 2 1)] (by kernel_rfl) ?_))))
    obtain ⟨x14, h15, hm⟩ := bs hm
    refine dvd 26 (cpure (by kernel_rfl) (ok_law19_Told h15) (by kernel_rfl) (by kernel_rfl) (by kernel_rfl)) (by kernel_rfl) (std 7 [(33, aR 4 69 1), (32, .agg ([aI x12.fKind, aI x12.fNulls, aI x12.fDistinct, .pv (encSl R_tabularyref19_Bucket x14), .pv (encSl R_api_Value x12.fSample)] ++ (aA .u8 64 x12.fSketch.fRegs))), (31, .agg (aA .u8 64 x12.fSketch.fRegs)), (30, .ptr 3 5), (29, .ptr 3 5), (28, .pv (encSl R_api_Value x12.fSample)), (27, .ptr 3 4)] [.box [aI a0.fRows, .pv (encSl R_stat_Col a0.fCols)] false, .box [aI 0, .pv .nils] false, .box [aI a0.fRows, .pv .nils] false, .box ([aI x12.fKind, aI x12.fNulls, aI x12.fDistinct, .pv (encSl R_hist_Bucket x12.fHist), .pv (encSl R_api_Value x12.fSample)] ++ (aA .u8 64 x12.fSketch.fRegs)) false, bR 87 69 R_tabularyref20_Col ([(tabularyref20_Col.mk x12.fKind x12.fNulls x12.fDistinct x14 x12.fSample x12.fSketch.fRegs)] : List tabularyref20_Col) 0 0] (by kernel_rfl) ?_)
    obtain ⟨_, h16, hm⟩ := bs hm
    refine dOd [(34, aR 5 69 (([(tabularyref20_Col.mk x12.fKind x12.fNulls x12.fDistinct x14 x12.fSample x12.fSketch.fRegs)] : List tabularyref20_Col).length))] [.box [aI a0.fRows, .pv (encSl R_stat_Col a0.fCols)] false, .box [aI 0, .pv .nils] false, .box [aI a0.fRows, .pv .nils] false, .box ([aI x12.fKind, aI x12.fNulls, aI x12.fDistinct, .pv (encSl R_hist_Bucket x12.fHist), .pv (encSl R_api_Value x12.fSample)] ++ (aA .u8 64 x12.fSketch.fRegs)) false, bR 87 69 R_tabularyref20_Col ([(tabularyref20_Col.mk x12.fKind x12.fNulls x12.fDistinct x14 x12.fSample x12.fSketch.fRegs)] : List tabularyref20_Col) 0 0, bR 87 69 R_tabularyref20_Col ([(tabularyref20_Col.mk x12.fKind x12.fNulls x12.fDistinct x14 x12.fSample x12.fSketch.fRegs)] : List tabularyref20_Col) 0 0] (app_nilO (u := 0) R_tabularyref20_Col ([(tabularyref20_Col.mk x12.fKind x12.fNulls x12.fDistinct x14 x12.fSample x12.fSketch.fRegs)] : List tabularyref20_Col) (b := 136) t22 t87 rfl rfl rfl (fun _ => rfl) rfl h16 (show srcRows (aR 4 69 1) _ = some (([(tabularyref20_Col.mk x12.fKind x12.fNulls x12.fDistinct x14 x12.fSample x12.fSketch.fRegs)] : List tabularyref20_Col).map R_tabularyref20_Col) from by kernel_rfl) (by kernel_rfl)) (by kernel_rfl) (std 2 [(35, .ptr 2 1)] [.box [aI a0.fRows, .pv (encSl R_stat_Col a0.fCols)] false, .box [aI 0, .pv .nils] false, .box [aI a0.fRows, aR 5 69 (([(tabularyref20_Col.mk x12.fKind x12.fNulls x12.fDistinct x14 x12.fSample x12.fSketch.fRegs)] : List tabularyref20_Col).length)] false, .box ([aI x12.fKind, aI x12.fNulls, aI x12.fDistinct, .pv (encSl R_hist_Bucket x12.fHist), .pv (encSl R_api_Value x12.fSample)] ++ (aA .u8 64 x12.fSketch.fRegs)) false, bR 87 69 R_tabularyref20_Col ([(tabularyref20_Col.mk x12.fKind x12.fNulls x12.fDistinct x14 x12.fSample x12.fSketch.fRegs)] : List tabularyref20_Col) 0 0, bR 87 69 R_tabularyref20_Col ([(tabularyref20_Col.mk x12.fKind x12.fNulls x12.fDistinct x14 x12.fSample x12.fSketch.fRegs)] : List tabularyref20_Col) 0 0] (by kernel_rfl) (find [(2, .ptr 1 0), (3, .ptr 2 0), (10, .pv (encSl R_stat_Col a0.fCols)), (11, aI ((sll a0.fCols).length : Int)), (12, aI y9)] rfl (by kernel_rfl) (by kernel_rfl) (detn [(2, .ptr 1 0), (3, .ptr 2 0), (10, .pv (encSl R_stat_Col a0.fCols)), (11, aI ((sll a0.fCols).length : Int)), (12, aI (IntKind.wrap .i64 (y9 + 1)))] (by kernel_rfl) ?_)))
    exact ⟨_, _, tidyL [(2, .ptr 1 0), (3, .ptr 2 0), (10, .pv (encSl R_stat_Col a0.fCols)), (11, aI ((sll a0.fCols).length : Int)), (12, aI (IntKind.wrap .i64 (y9 + 1)))] [.box [aI a0.fRows, .pv (encSl R_stat_Col a0.fCols)] false, .box [aI 0, .pv .nils] false, .box [aI a0.fRows, aR 3 69 (([(tabularyref20_Col.mk x12.fKind x12.fNulls x12.fDistinct x14 x12.fSample x12.fSketch.fRegs)] : List tabularyref20_Col).length)] false, bR 87 69 R_tabularyref20_Col ([(tabularyref20_Col.mk x12.fKind x12.fNulls x12.fDistinct x14 x12.fSample x12.fSketch.fRegs)] : List tabularyref20_Col) 0 0] (by kernel_rfl), .inr (⟨([(tabularyref20_Col.mk x12.fKind x12.fNulls x12.fDistinct x14 x12.fSample x12.fSketch.fRegs)] : List tabularyref20_Col), (IntKind.wrap .i64 (y9 + 1)), hm, rfl, rfl⟩)⟩
   ·
    refine cf h11 (by kernel_rfl) (wp_exit ?_)
    exact .inl ⟨aI y9, aB (decide (y9 < ((sll a0.fCols).length : Int))), hm, (mk_same (by kernel_rfl)), rfl⟩
  ·
   simp only [law20_Told_l3] at hm
   refine sq (detn [(2, .ptr 1 0), (3, .ptr 2 0), (10, .pv (encSl R_stat_Col a0.fCols)), (11, aI ((sll a0.fCols).length : Int)), (12, aI y9), (13, aB (decide (y9 < ((sll a0.fCols).length : Int))))] (by kernel_rfl) ?_)
   refine sq ?_
   rcases bif_some hm with ⟨h17, hm⟩ | ⟨h17, hm⟩
   ·
    refine ct h17 (by kernel_rfl) (wp_skip (sq (bq (sq (rg ?_)))))
    obtain ⟨x18, h19, hm⟩ := bs hm
    refine dv 14 (v := .pv (.ptr (R_stat_Col x18) 0)) (ia_slO R_stat_Col a0.fCols .i64 t29 t91 h19 rfl (by kernel_rfl)) (by kernel_rfl) (st 3 [(5, .ptr 4 0), (15, .agg ([aI x18.fKind, aI x18.fNulls, aI x18.fDistinct, .pv (encSl R_hist_Bucket x18.fHist), .pv (encSl R_api_Value x18.fSample)] ++ (aA .u8 64 x18.fSketch.fRegs)))] [.box [aI a0.fRows, .pv (encSl R_stat_Col a0.fCols)] false, .box [aI 0, .pv .nils] false, .box [aI a0.fRows, aR 3 69 y8.length] false, bR 87 69 R_tabularyref20_Col y8 0 0, .box ([aI x18.fKind, aI x18.fNulls, aI x18.fDistinct, .pv (encSl R_hist_Bucket x18.fHist), .pv (encSl R_api_Value x18.fSample)] ++ (aA .u8 64 x18.fSketch.fRegs)) false] (by kernel_rfl) (fin [(2, .ptr 1 0), (3, .ptr 2 0), (5, .ptr 4 0), (10, .pv (encSl R_stat_Col a0.fCols)), (11, aI ((sll a0.fCols).length : Int)), (12, aI y9)] rfl (by kernel_rfl) (rgd (shd 10 [(25, .pv (encSl R_hist_Bucket x18.fHist)), (24, .ptr 4 3), (23, aI x18.fDistinct), (22, .ptr 4 2), (21, aI x18.fNulls), (20, .ptr 4 1), (19, aI x18.fKind), (18, .ptr 4 0), (17, aR 3 69 y8.length), (16, .ptr 2 1)] (by kernel_rfl) ?_))))
    obtain ⟨x20, h21, hm⟩ := bs hm
    refine dvd 26 (cpure (by kernel_rfl) (ok_law19_Told h21) (by kernel_rfl) (by kernel_rfl) (by kernel_rfl)) (by kernel_rfl) (std 7 [(33, aR 5 69 1), (32, .agg ([aI x18.fKind, aI x18.fNulls, aI x18.fDistinct, .pv (encSl R_tabularyref19_Bucket x20), .pv (encSl R_api_Value x18.fSample)] ++ (aA .u8 64 x18.fSketch.fRegs))), (31, .agg (aA .u8 64 x18.fSketch.fRegs)), (30, .ptr 4 5), (29, .ptr 4 5), (28, .pv (encSl R_api_Value x18.fSample)), (27, .ptr 4 4)] [.box [aI a0.fRows, .pv (encSl R_stat_Col a0.fCols)] false, .box [aI 0, .pv .nils] false, .box [aI a0.fRows, aR 3 69 y8.length] false, bR 87 69 R_tabularyref20_Col y8 0 0, .box ([aI x18.fKind, aI x18.fNulls, aI x18.fDistinct, .pv (encSl R_hist_Bucket x18.fHist), .pv (encSl R_api_Value x18.fSample)] ++ (aA .u8 64 x18.fSketch.fRegs)) false, bR 87 69 R_tabularyref20_Col ([(tabularyref20_Col.mk x18.fKind x18.fNulls x18.fDistinct x20 x18.fSample x18.fSketch.fRegs)] : List tabularyref20_Col) 0 0] (by kernel_rfl) ?_)
    obtain ⟨_, h22, hm⟩ := bs hm
    refine dOd [(34, aR 3 69 ((y8 ++ ([(tabularyref20_Col.mk x18.fKind x18.fNulls x18.fDistinct x20 x18.fSample x18.fSketch.fRegs)] : List tabularyref20_Col)).length))] [.box [aI a0.fRows, .pv (encSl R_stat_Col a0.fCols)] false, .box [aI 0, .pv .nils] false, .box [aI a0.fRows, aR 3 69 y8.length] false, bR 87 69 R_tabularyref20_Col (y8 ++ ([(tabularyref20_Col.mk x18.fKind x18.fNulls x18.fDistinct x20 x18.fSample x18.fSketch.fRegs)] : List tabularyref20_Col)) 0 0, .box ([aI x18.fKind, aI x18.fNulls, aI x18.fDistinct, .pv (encSl R_hist_Bucket x18.fHist), .pv (encSl R_api_Value x18.fSample)] ++ (aA .u8 64 x18.fSketch.fRegs)) false, bR 87 69 R_tabularyref20_Col ([(tabularyref20_Col.mk x18.fKind x18.fNulls x18.fDistinct x20 x18.fSample x18.fSketch.fRegs)] : List tabularyref20_Col) 0 0] (app_refO (u := 0) (n := y8.length) (id := 3) R_tabularyref20_Col y8 ([(tabularyref20_Col.mk x18.fKind x18.fNulls x18.fDistinct x20 x18.fSample x18.fSketch.fRegs)] : List tabularyref20_Col) (b := 136) t22 t87 rfl rfl rfl (fun _ => rfl) rfl h22 rfl rfl (Nat.zero_le _) (show srcRows (aR 5 69 1) _ = some (([(tabularyref20_Col.mk x18.fKind x18.fNulls x18.fDistinct x20 x18.fSample x18.fSketch.fRegs)] : List tabularyref20_Col).map R_tabularyref20_Col) from by kernel_rfl) (by kernel_rfl)) (by kernel_rfl) (std 2 [(35, .ptr 2 1)] [.box [aI a0.fRows, .pv (encSl R_stat_Col a0.fCols)] false, .box [aI 0, .pv .nils] false, .box [aI a0.fRows, aR 3 69 ((y8 ++ ([(tabularyref20_Col.mk x18.fKind x18.fNulls x18.fDistinct x20 x18.fSample x18.fSketch.fRegs)] : List tabularyref20_Col)).length)] false, bR 87 69 R_tabularyref20_Col (y8 ++ ([(tabularyref20_Col.mk x18.fKind x18.fNulls x18.fDistinct x20 x18.fSample x18.fSketch.fRegs)] : List tabularyref20_Col)) 0 0, .box ([aI x18.fKind, aI x18.fNulls, aI x18.fDistinct, .pv (encSl R_hist_Bucket x18.fHist), .pv (encSl R_api_Value x18.fSample)] ++ (aA .u8 64 x18.fSketch.fRegs)) false, bR 87 69 R_tabularyref20_Col ([(tabularyref20_Col.mk x18.fKind x18.fNulls x18.fDistinct x20 x18.fSample x18.fSketch.fRegs)] : List tabularyref20_Col) 0 0] (by kernel_rfl) (find [(2, .ptr 1 0), (3, .ptr 2 0), (10, .pv (encSl R_stat_Col a0.fCols)), (11, aI ((sll a0.fCols).length : Int)), (12, aI y9)] rfl (by kernel_rfl) (by kernel_rfl) (detn [(2, .ptr 1 0), (3, .ptr 2 0), (10, .pv (encSl R_stat_Col a0.fCols)), (11, aI ((sll a0.fCols).length : Int)), (12, aI (IntKind.wrap .i64 (y9 + 1)))] (by kernel_rfl) ?_)))
    exact ⟨_, _, tidyL [(2, .ptr 1 0), (3, .ptr 2 0), (10, .pv (encSl R_stat_Col a0.fCols)), (11, aI ((sll a0.fCols).length : Int)), (12, aI (IntKind.wrap .i64 (y9 + 1)))] [.box [aI a0.fRows, .pv (encSl R_stat_Col a0.fCols)] false, .box [aI 0, .pv .nils] false, .box [aI a0.fRows, aR 3 69 ((y8 ++ ([(tabularyref20_Col.mk x18.fKind x18.fNulls x18.fDistinct x20 x18.fSample x18.fSketch.fRegs)] : List tabularyref20_Col)).length)] false, bR 87 69 R_tabularyref20_Col (y8 ++ ([(tabularyref20_Col.mk x18.fKind x18.fNulls x18.fDistinct x20 x18.fSample x18.fSketch.fRegs)] : List tabularyref20_Col)) 0 0] (by kernel_rfl), .inr (⟨(y8 ++ ([(tabularyref20_Col.mk x18.fKind x18.fNulls x18.fDistinct x20 x18.fSample x18.fSketch.fRegs)] : List tabularyref20_Col)), (IntKind.wrap .i64 (y9 + 1)), hm, rfl, rfl⟩)⟩
   ·
    refine cf h17 (by kernel_rfl) (wp_exit ?_)
    exact .inr (⟨y8, aI y9, aB (decide (y9 < ((sll a0.fCols).length : Int))), hm, (mk_same (by kernel_rfl)), rfl⟩)
theorem ok_ref20_Plain {n : Nat} {a0 : api_Table} {a1 : Int} {r : tabularyref20_Stat} (hm : ref20_Plain n a0 a1 = some r) :
    call G n 20 [.agg [aS a0.fName, .pv (encSl R_api_Column a0.fCols)], aI a1] [] = some (.ret (.agg [aI r.fRows, .pv (encSl R_tabularyref20_Col r.fCols)]), []) := by
  unfold ref20_Plain at hm
  obtain ⟨n, rfl, h0⟩ := at1_some hm
  replace hm := h0; clear h0
  refine callL 43 [(0, .agg [aS a0.fName, .pv (encSl R_api_Column a0.fCols)]), (1, aI a1)] func20 rfl (by kernel_rfl) (sq (det [(1, aI a1), (2, .ptr 0 0), (4, .ptr 1 0)] [.box [aS a0.fName, .pv (encSl R_api_Column a0.fCols)] false, .box [aI 0, .pv .nils] false] (by kernel_rfl) ?_))
  obtain ⟨k3, hk3, hm⟩ := withK_some hm
  refine mid (fun t H => (∃ (y2 : Int) (w1 : AV), k3 y2 = some r ∧ t = mk 43 [(1, aI y2), (2, .ptr 0 0), (4, .ptr 1 0), (9, w1)] ∧ H = [.box [aS a0.fName, .pv (encSl R_api_Column a0.fCols)] false, .box [aI 0, .pv .nils] false])) ?_ ?_
  ·
   rintro _ _ ⟨y2, w1, hm, rfl, rfl⟩
   subst hk3
   obtain ⟨k6, hk6, hm⟩ := withK_some hm
   refine mid (fun t H => (∃ (y5 : Int) (w4 : AV), k6 y5 = some r ∧ t = mk 43 [(1, aI y5), (2, .ptr 0 0), (4, .ptr 1 0), (11, w4)] ∧ H = [.box [aS a0.fName, .pv (encSl R_api_Column a0.fCols)] false, .box [aI 0, .pv .nils] false])) ?_ ?_
   ·
    rintro _ _ ⟨y5, w4, hm, rfl, rfl⟩
    subst hk6
    refine sq (detn [(1, aI y5), (2, .ptr 0 0), (4, .ptr 1 0), (5, aI (IntKind.wrap .i64 (Int.tdiv y5 10)))] (by kernel_rfl) ?_)
    obtain ⟨k9, hk9, hm⟩ := withK_some hm
    refine mid (fun t H => (∃ (y8 : Int) (w7 : AV), k9 y8 = some r ∧ t = mk 43 [(1, aI y5), (2, .ptr 0 0), (4, .ptr 1 0), (5, aI y8), (19, w7)] ∧ H = [.box [aS a0.fName, .pv (encSl R_api_Column a0.fCols)] false, .box [aI 0, .pv .nils] false])) ?_ ?_
    ·
     rintro _ _ ⟨y8, w7, hm, rfl, rfl⟩
     subst hk9
     refine sq (det [(2, .ptr 0 0), (4, .ptr 1 0), (5, aI y8), (6, .ptr 2 0)] [.box [aS a0.fName, .pv (encSl R_api_Column a0.fCols)] false, .box [aI 0, .pv .nils] false, .box [aI y5, .pv .nils] false] (by kernel_rfl) ?_)
     obtain ⟨k13, hk13, hm⟩ := withK_some hm
     refine mid (fun t H => (∃ (w10 : AV) (w11 : AV), k13 none = some r ∧ t = mk 43 [(2, .ptr 0 0), (4, .ptr 1 0), (5, aI y8), (6, .ptr 2 0), (7, w10), (26, w11)] ∧ H = [.box [aS a0.fName, .pv (encSl R_api_Column a0.fCols)] false, .box [aI 0, .pv .nils] false, .box [aI y5, .pv .nils] false]) ∨ (∃ (y12 : (List tabularyref20_Col)) (w10 : AV) (w11 : AV), k13 (some y12) = some r ∧ t = mk 43 [(2, .ptr 0 0), (4, .ptr 1 0), (5, aI y8), (6, .ptr 2 0), (7, w10), (26, w11)] ∧ H = [.box [aS a0.fName, .pv (encSl R_api_Column a0.fCols)] false, .box [aI 0, .pv .nils] false, .box [aI y5, aR 3 69 y12.length] false, bR 87 69 R_tabularyref20_Col y12 0 0])) ?_ ?_
     ·
      rintro _ _ (⟨w10, w11, hm, rfl, rfl⟩ | ⟨y12, w10, w11, hm, rfl, rfl⟩)
      ·
       subst hk13
       refine sq (det [(4, .ptr 1 0)] [.box [aS a0.fName, .pv (encSl R_api_Column a0.fCols)] false, .box [aI y5, .pv .nils] false, .box [aI y5, .pv .nils] false] (by kernel_rfl) (wp_ret ?_))
       obtain rfl := Option.some.inj hm
       exact ⟨trivial, by kernel_rfl⟩
      ·
       subst hk13
       refine sq (det [(4, .ptr 1 0)] [.box [aS a0.fName, .pv (encSl R_api_Column a0.fCols)] false, .box [aI y5, aR 3 69 y12.length] false, .box [aI y5, aR 3 69 y12.length] false, bR 87 69 R_tabularyref20_Col y12 0 0] (by kernel_rfl) (wp_ret ?_))
       obtain rfl := Option.some.inj hm
       exact ret_pure (v := .agg [aI y5, aR 3 69 y12.length]) trivial rfl (by kernel_rfl) (pR_agg (purL_cons (pur_pv) (purL_cons (pur_ref' (n := y12.length) (id := 3) (l := y12) (R := R_tabularyref20_Col) rfl rfl (Nat.zero_le _)) (rfl))) (by kernel_rfl))
     refine sq (detn [(2, .ptr 0 0), (4, .ptr 1 0), (5, aI y8), (6, .ptr 2 0), (7, aI 0)] (by kernel_rfl) (bq ?_))
     refine loopF (fun mm t H => (∃ (y18 : Int), ref20_Plain_l10 n a0 y8 k13 mm none y18 = some r ∧ t = mk 43 [(2, .ptr 0 0), (4, .ptr 1 0), (5, aI y8), (6, .ptr 2 0), (7, aI y18)] ∧ H = [.box [aS a0.fName, .pv (encSl R_api_Column a0.fCols)] false, .box [aI 0, .pv .nils] false, .box [aI y5, .pv .nils] false]) ∨ (∃ (y17 : (List tabularyref20_Col)) (y18 : Int), ref20_Plain_l10 n a0 y8 k13 mm (some y17) y18 = some r ∧ t = mk 43 [(2, .ptr 0 0), (4, .ptr 1 0), (5, aI y8), (6, .ptr 2 0), (7, aI y18)] ∧ H = [.box [aS a0.fName, .pv (encSl R_api_Column a0.fCols)] false, .box [aI 0, .pv .nils] false, .box [aI y5, aR 3 69 y17.length] false, bR 87 69 R_tabularyref20_Col y17 0 0])) (.inl ⟨0, hm, rfl, rfl⟩) ?_ ?_
     · rintro _ _ (⟨y18, hm, _⟩ | ⟨y17, y18, hm, _⟩) <;> exact nomatch hm
     rintro m19 _ _ (⟨y18, hm, rfl, rfl⟩ | ⟨y17, y18, hm, rfl, rfl⟩)
     ·
      simp only [ref20_Plain_l10] at hm
      refine sq (sq (rg (sh 3 [(24, .pv (encSl R_api_Column a0.fCols)), (23, .ptr 0 1), (22, aI y18)] (by kernel_rfl) (dv 25 (v := aI ((sll a0.fCols).length : Int)) (len_slO R_api_Column a0.fCols t25 (by kernel_rfl)) (by kernel_rfl) (sh 1 [(26, aB (decide (y18 < ((sll a0.fCols).length : Int))))] (by kernel_rfl) (fin [(2, .ptr 0 0), (4, .ptr 1 0), (5, aI y8), (6, .ptr 2 0), (7, aI y18), (26, aB (decide (y18 < ((sll a0.fCols).length : Int))))] rfl (by kernel_rfl) ?_))))))
      rcases bif_some hm with ⟨h20, hm⟩ | ⟨h20, hm⟩
      ·
       refine ct h20 (by kernel_rfl) (wp_skip (sq (bq (rgd (shd 5 [(33, aI y18), (32, .pv (encSl R_api_Column a0.fCols)), (31, .ptr 0 1), (30, .pv .nils), (29, .ptr 2 1)] (by kernel_rfl) ?_)))))
       obtain ⟨x21, h22, hm⟩ := bs hm
       refine dvd 34 (v := .pv (.ptr (R_api_Column x21) 0)) (ia_slO R_api_Column a0.fCols .i64 t25 t98 h22 rfl (by kernel_rfl)) (by kernel_rfl) (std 5 [(39, aR 3 69 1), (38, .agg ([aI x21.fKind, aI 0, aI y8, .pv .nils, .pv .nils] ++ (aA .u8 64 (fun _ => 0)))), (37, aI y8), (36, aI x21.fKind), (35, .pv (.ptr (R_api_Column x21) 1))] [.box [aS a0.fName, .pv (encSl R_api_Column a0.fCols)] false, .box [aI 0, .pv .nils] false, .box [aI y5, .pv .nils] false, bR 87 69 R_tabularyref20_Col ([(tabularyref20_Col.mk x21.fKind 0 y8 none none (fun _ => 0))] : List tabularyref20_Col) 0 0] (by kernel_rfl) ?_)
       obtain ⟨_, h23, hm⟩ := bs hm
       refine dOd [(40, aR 4 69 (([(tabularyref20_Col.mk x21.fKind 0 y8 none none (fun _ => 0))] : List tabularyref20_Col).length))] [.box [aS a0.fName, .pv (encSl R_api_Column a0.fCols)] false, .box [aI 0, .pv .nils] false, .box [aI y5, .pv .nils] false, bR 87 69 R_tabularyref20_Col ([(tabularyref20_Col.mk x21.fKind 0 y8 none none (fun _ => 0))] : List tabularyref20_Col) 0 0, bR 87 69 R_tabularyref20_Col ([(tabularyref20_Col.mk x21.fKind 0 y8 none none (fun _ => 0))] : List tabularyref20_Col) 0 0] (app_nilO (u := 0) R_tabularyref20_Col ([(tabularyref20_Col.mk x21.fKind 0 y8 none none (fun _ => 0))] : List tabularyref20_Col) (b := 136) t22 t87 rfl rfl rfl (fun _ => rfl) rfl h23 (show srcRows (aR 3 69 1) _ = some (([(tabularyref20_Col.mk x21.fKind 0 y8 none none (fun _ => 0))] : List tabularyref20_Col).map R_tabularyref20_Col) from by kernel_rfl) (by kernel_rfl)) (by kernel_rfl) (std 2 [(41, .ptr 2 1)] [.box [aS a0.fName, .pv (encSl R_api_Column a0.fCols)] false, .box [aI 0, .pv .nils] false, .box [aI y5, aR 4 69 (([(tabularyref20_Col.mk x21.fKind 0 y8 none none (fun _ => 0))] : List tabularyref20_Col).length)] false, bR 87 69 R_tabularyref20_Col ([(tabularyref20_Col.mk x21.fKind 0 y8 none none (fun _ => 0))] : List tabularyref20_Col) 0 0, bR 87 69 R_tabularyref20_Col ([(tabularyref20_Col.mk x21.fKind 0 y8 none none (fun _ => 0))] : List tabularyref20_Col) 0 0] (by kernel_rfl) (find [(2, .ptr 0 0), (4, .ptr 1 0), (5, aI y8), (6, .ptr 2 0), (7, aI y18)] rfl (by kernel_rfl) (by kernel_rfl) (detn [(2, .ptr 0 0), (4, .ptr 1 0), (5, aI y8), (6, .ptr 2 0), (7, aI (IntKind.wrap .i64 (y18 + 1)))] (by kernel_rfl) ?_)))
       exact ⟨_, _, tidyL [(2, .ptr 0 0), (4, .ptr 1 0), (5, aI y8), (6, .ptr 2 0), (7, aI (IntKind.wrap .i64 (y18 + 1)))] [.box [aS a0.fName, .pv (encSl R_api_Column a0.fCols)] false, .box [aI 0, .pv .nils] false, .box [aI y5, aR 3 69 (([(tabularyref20_Col.mk x21.fKind 0 y8 none none (fun _ => 0))] : List tabularyref20_Col).length)] false, bR 87 69 R_tabularyref20_Col ([(tabularyref20_Col.mk x21.fKind 0 y8 none none (fun _ => 0))] : List tabularyref20_Col) 0 0] (by kernel_rfl), .inr (⟨([(tabularyref20_Col.mk x21.fKind 0 y8 none none (fun _ => 0))] : List tabularyref20_Col), (IntKind.wrap .i64 (y18 + 1)), hm, rfl, rfl⟩)⟩
      ·
       refine cf h20 (by kernel_rfl) (wp_exit ?_)
       exact .inl ⟨aI y18, aB (decide (y18 < ((sll a0.fCols).length : Int))), hm, (mk_same (by kernel_rfl)), rfl⟩
     ·
      simp only [ref20_Plain_l10] at hm
      refine sq (sq (rg (sh 3 [(24, .pv (encSl R_api_Column a0.fCols)), (23, .ptr 0 1), (22, aI y18)] (by kernel_rfl) (dv 25 (v := aI ((sll a0.fCols).length : Int)) (len_slO R_api_Column a0.fCols t25 (by kernel_rfl)) (by kernel_rfl) (sh 1 [(26, aB (decide (y18 < ((sll a0.fCols).length : Int))))] (by kernel_rfl) (fin [(2, .ptr 0 0), (4, .ptr 1 0), (5, aI y8), (6, .ptr 2 0), (7, aI y18), (26, aB (decide (y18 < ((sll a0.fCols).length : Int))))] rfl (by kernel_rfl) ?_))))))
      rcases bif_some hm with ⟨h24, hm⟩ | ⟨h24, hm⟩
      ·
       refine ct h24 (by kernel_rfl) (wp_skip (sq (bq (rgd (shd 5 [(33, aI y18), (32, .pv (encSl R_api_Column a0.fCols)), (31, .ptr 0 1), (30, aR 3 69 y17.length), (29, .ptr 2 1)] (by kernel_rfl) ?_)))))
       obtain ⟨x25, h26, hm⟩ := bs hm
       refine dvd 34 (v := .pv (.ptr (R_api_Column x25) 0)) (ia_slO R_api_Column a0.fCols .i64 t25 t98 h26 rfl (by kernel_rfl)) (by kernel_rfl) (std 5 [(39, aR 4 69 1), (38, .agg ([aI x25.fKind, aI 0, aI y8, .pv .nils, .pv .nils] ++ (aA .u8 64 (fun _ => 0)))), (37, aI y8), (36, aI x25.fKind), (35, .pv (.ptr (R_api_Column x25) 1))] [.box [aS a0.fName, .pv (encSl R_api_Column a0.fCols)] false, .box [aI 0, .pv .nils] false, .box [aI y5, aR 3 69 y17.length] false, bR 87 69 R_tabularyref20_Col y17 0 0, bR 87 69 R_tabularyref20_Col ([(tabularyref20_Col.mk x25.fKind 0 y8 none none (fun _ => 0))] : List tabularyref20_Col) 0 0] (by kernel_rfl) ?_)
       obtain ⟨_, h27, hm⟩ := bs hm
       refine dOd [(40, aR 3 69 ((y17 ++ ([(tabularyref20_Col.mk x25.fKind 0 y8 none none (fun _ => 0))] : List tabularyref20_Col)).length))] [.box [aS a0.fName, .pv (encSl R_api_Column a0.fCols)] false, .box [aI 0, .pv .nils] false, .box [aI y5, aR 3 69 y17.length] false, bR 87 69 R_tabularyref20_Col (y17 ++ ([(tabularyref20_Col.mk x25.fKind 0 y8 none none (fun _ => 0))] : List tabularyref20_Col)) 0 0, bR 87 69 R_tabularyref20_Col ([(tabularyref20_Col.mk x25.fKind 0 y8 none none (fun _ => 0))] : List tabularyref20_Col) 0 0] (app_refO (u := 0) (n := y17.length) (id := 3) R_tabularyref20_Col y17 ([(tabularyref20_Col.mk x25.fKind 0 y8 none none (fun _ => 0))] : List tabularyref20_Col) (b := 136) t22 t87 rfl rfl rfl (fun _ => rfl) rfl h27 rfl rfl (Nat.zero_le _) (show srcRows (aR 4 69 1) _ = some (([(tabularyref20_Col.mk x25.fKind 0 y8 none none (fun _ => 0))] : List tabularyref20_Col).map R_tabularyref20_Col) from by kernel_rfl) (by kernel_rfl)) (by kernel_rfl) (std 2 [(41, .ptr 2 1)] [.box [aS a0.fName, .pv (encSl R_api_Column a0.fCols)] false, .box [aI 0, .pv .nils] false, .box [aI y5, aR 3 69 ((y17 ++ ([(tabularyref20_Col.mk x25.fKind 0 y8 none none (fun _ => 0))] : List tabularyref20_Col)).length)] false, bR 87 69 R_tabularyref20_Col (y17 ++ ([(tabularyref20_Col.mk x25.fKind 0 y8 none none (fun _ => 0))] : List tabularyref20_Col)) 0 0, bR 87 69 R_tabularyref20_Col ([(tabularyref20_Col.mk x25.fKind 0 y8 none none (fun _ => 0))] : List tabularyref20_Col) 0 0] (by kernel_rfl) (find [(2, .ptr 0 0), (4, .ptr 1 0), (5, aI y8), (6, .ptr 2 0), (7, aI y18)] rfl (by kernel_rfl) (by kernel_rfl) (detn [(2, .ptr 0 0), (4, .ptr 1 0), (5, aI y8), (6, .ptr 2 0), (7, aI (IntKind.wrap .i64 (y18 + 1)))] (by kernel_rfl) ?_)))
       exact ⟨_, _, tidyL [(2, .ptr 0 0), (4, .ptr 1 0), (5, aI y8), (6, .ptr 2 0), (7, aI (IntKind.wrap .i64 (y18 + 1)))] [.box [aS a0.fName, .pv (encSl R_api_Column a0.fCols)] false, .box [aI 0, .pv .nils] false, .box [aI y5, aR 3 69 ((y17 ++ ([(tabularyref20_Col.mk x25.fKind 0 y8 none none (fun _ => 0))] : List tabularyref20_Col)).length)] false, bR 87 69 R_tabularyref20_Col (y17 ++ ([(tabularyref20_Col.mk x25.fKind 0 y8 none none (fun _ => 0))] : List tabularyref20_Col)) 0 0] (by kernel_rfl), .inr (⟨(y17 ++ ([(tabularyref20_Col.mk x25.fKind 0 y8 none none (fun _ => 0))] : List tabularyref20_Col)), (IntKind.wrap .i64 (y18 + 1)), hm, rfl, rfl⟩)⟩
      ·
       refine cf h24 (by kernel_rfl) (wp_exit ?_)
       exact .inr (⟨y17, aI y18, aB (decide (y18 < ((sll a0.fCols).length : Int))), hm, (mk_same (by kernel_rfl)), rfl⟩)
    refine sq (rg (sh 3 [(16, aB ((IntKind.wrap .i64 (Int.tdiv y5 10)) == 0)), (15, aB ((IntKind.wrap .i64 (Int.tdiv y5 10)) == 0)), (14, aI (IntKind.wrap .i64 (Int.tdiv y5 10)))] (by kernel_rfl) ?_))
    refine seg ((IntKind.wrap .i64 (Int.tdiv y5 10)) == 0) [16, 15] (fun b => [(19, aB (b && (decide (y5 > 0)))), (18, ifA b (aB (decide (y5 > 0))) (.undef)), (17, ifA b (aI y5) (.undef))]) 6 (by kernel_rfl) ?_ ?_ ?_
    ·
     intro Q h
     refine sh 3 [(19, aB (decide (y5 > 0))), (18, aB (decide (y5 > 0))), (17, aI y5)] (by kernel_rfl) ?_
     exact sameN (by kernel_rfl) (by kernel_rfl) h
    ·
     intro Q h
     refine sh 3 [(19, aB false), (18, .undef), (17, .undef)] (by kernel_rfl) ?_
     exact sameN (by kernel_rfl) (by kernel_rfl) h
    refine fin [(1, aI y5), (2, .ptr 0 0), (4, .ptr 1 0), (5, aI (IntKind.wrap .i64 (Int.tdiv y5 10))), (19, aB (((IntKind.wrap .i64 (Int.tdiv y5 10)) == 0) && (decide (y5 > 0))))] rfl (by kernel_rfl) ?_
    rcases bif_some hm with ⟨h28, hm⟩ | ⟨h28, hm⟩
    ·
     refine ct h28 (by kernel_rfl) (detn [(1, aI y5), (2, .ptr 0 0), (4, .ptr 1 0), (5, aI 1)] (by kernel_rfl) ?_)
     exact ⟨1, .any, hm, (mk_same (by kernel_rfl)), rfl⟩
    ·
     refine cf h28 (by kernel_rfl) (wp_skip ?_)
     exact ⟨(IntKind.wrap .i64 (Int.tdiv y5 10)), aB (((IntKind.wrap .i64 (Int.tdiv y5 10)) == 0) && (decide (y5 > 0))), hm, (mk_same (by kernel_rfl)), rfl⟩
   refine sq (detn [(1, aI y2), (2, .ptr 0 0), (4, .ptr 1 0), (11, aB (decide (y2 > 1000000)))] (by kernel_rfl) ?_)
   rcases bif_some hm with ⟨h29, hm⟩ | ⟨h29, hm⟩
   ·
    refine ct h29 (by kernel_rfl) (detn [(1, aI 1000000), (2, .ptr 0 0), (4, .ptr 1 0)] (by kernel_rfl) ?_)
    exact ⟨1000000, .any, hm, (mk_same (by kernel_rfl)), rfl⟩
   ·
    refine cf h29 (by kernel_rfl) (wp_skip ?_)
    exact ⟨y2, aB (decide (y2 > 1000000)), hm, (mk_same (by kernel_rfl)), rfl⟩
  refine sq (detn [(1, aI a1), (2, .ptr 0 0), (4, .ptr 1 0), (9, aB (decide (a1 < 0)))] (by kernel_rfl) ?_)
  rcases bif_some hm with ⟨h30, hm⟩ | ⟨h30, hm⟩
  ·
   refine ct h30 (by kernel_rfl) (detn [(1, aI 0), (2, .ptr 0 0), (4, .ptr 1 0)] (by kernel_rfl) ?_)
   exact ⟨0, .any, hm, (mk_same (by kernel_rfl)), rfl⟩
  ·
   refine cf h30 (by kernel_rfl) (wp_skip ?_)
   exact ⟨a1, aB (decide (a1 < 0)), hm, (mk_same (by kernel_rfl)), rfl⟩
theorem run_law20_works : call G 3999999 21 [] [] = some (.ret (aB true), []) := by kernel_rfl
theorem ok_law20_works {n : Nat} {r : Bool} (hm : law20_works n = some r) :
    call G n 21 [] [] = some (.ret (aB r), []) := by
  unfold law20_works at hm
  have hn : n = 3999999 := by
    cases h : n == 3999999 with
    | true => exact eq_of_beq h
    | false => rw [h] at hm; cases hm
  subst hn
  have h2 : some true = some r := hm
  obtain rfl := Option.some.inj h2
  exact run_law20_works
theorem ok_law20_StatAsks {n : Nat} {a0 : tabularyref20_Stat} {a1 : tabularyref20_Stat} {a2 : api_Table} {a3 : Int} {r : Bool} (hm : law20_StatAsks n a0 a1 a2 a3 = some r) :
    call G n 3 [.agg [aI a0.fRows, .pv (encSl R_tabularyref20_Col a0.fCols)], .agg [aI a1.fRows, .pv (encSl R_tabularyref20_Col a1.fCols)], .agg [aS a2.fName, .pv (encSl R_api_Column a2.fCols)], aI a3] [] = some (.ret (aB r), []) := by
  unfold law20_StatAsks at hm
  obtain ⟨n, rfl, h0⟩ := at1_some hm
  replace hm := h0; clear h0
  refine callL 63 [(0, .agg [aI a0.fRows, .pv (encSl R_tabularyref20_Col a0.fCols)]), (1, .agg [aI a1.fRows, .pv (encSl R_tabularyref20_Col a1.fCols)]), (2, .agg [aS a2.fName, .pv (encSl R_api_Column a2.fCols)]), (3, aI a3)] func3 rfl (by kernel_rfl) (sq (det [(3, aI a3), (4, .ptr 0 0), (5, .ptr 1 0), (6, .ptr 2 0)] [.box [aI a0.fRows, .pv (encSl R_tabularyref20_Col a0.fCols)] false, .box [aI a1.fRows, .pv (encSl R_tabularyref20_Col a1.fCols)] false, .box [aS a2.fName, .pv (encSl R_api_Column a2.fCols)] false] (by kernel_rfl) ?_))
  refine sq (sq (rg (sh 1 [(11, .agg [aI a0.fRows, .pv (encSl R_tabularyref20_Col a0.fCols)])] (by kernel_rfl) ?_)))
  obtain ⟨x1, h2, hm⟩ := bs hm
  refine dv 12 (cpure (by kernel_rfl) (ok_law20_Great h2) (by kernel_rfl) (by kernel_rfl) (by kernel_rfl)) (by kernel_rfl) (sh 1 [(13, aB x1)] (by kernel_rfl) ?_)
  rcases bif_some hm with ⟨h3, hm⟩ | ⟨h3, hm⟩
  ·
   refine known [13, 12] h3 (by kernel_rfl) (sh 9 [(22, aB true), (21, .undef), (20, .undef), (19, .undef), (18, .undef), (17, aB true), (16, aB true), (15, .undef), (14, .undef)] (by kernel_rfl) (fin [(3, aI a3), (4, .ptr 0 0), (5, .ptr 1 0), (6, .ptr 2 0), (22, aB true)] rfl (by kernel_rfl) (cT (by kernel_rfl) (sq (detn [(8, aB true)] (by kernel_rfl) (wp_ret ?_))))))
   obtain rfl := Option.some.inj hm
   exact ⟨trivial, by kernel_rfl⟩
  ·
   refine known [13, 12] h3 (by kernel_rfl) (sh 1 [(14, .agg [aI a1.fRows, .pv (encSl R_tabularyref20_Col a1.fCols)])] (by kernel_rfl) ?_)
   obtain ⟨x4, h5, hm⟩ := bs hm
   refine dv 15 (cpure (by kernel_rfl) (ok_law20_Great h5) (by kernel_rfl) (by kernel_rfl) (by kernel_rfl)) (by kernel_rfl) (sh 2 [(17, aB x4), (16, aB x4)] (by kernel_rfl) ?_)
   refine seg x4 [17, 16, 15] (fun b => [(22, aB (b || (decide (((sll a2.fCols).length : Int) > 100)))), (21, ifA b (.undef) (aB (decide (((sll a2.fCols).length : Int) > 100)))), (20, ifA b (.undef) (aI ((sll a2.fCols).length : Int))), (19, ifA b (.undef) (.pv (encSl R_api_Column a2.fCols))), (18, ifA b (.undef) (.ptr 2 1))]) 12 (by kernel_rfl) ?_ ?_ ?_
   ·
    intro Q h
    refine sh 5 [(22, aB true), (21, .undef), (20, .undef), (19, .undef), (18, .undef)] (by kernel_rfl) ?_
    exact sameN (by kernel_rfl) (by kernel_rfl) h
   ·
    intro Q h
    refine sh 2 [(19, .pv (encSl R_api_Column a2.fCols)), (18, .ptr 2 1)] (by kernel_rfl) (dv 20 (v := aI ((sll a2.fCols).length : Int)) (len_slO R_api_Column a2.fCols t25 (by kernel_rfl)) (by kernel_rfl) (sh 2 [(22, aB (decide (((sll a2.fCols).length : Int) > 100))), (21, aB (decide (((sll a2.fCols).length : Int) > 100)))] (by kernel_rfl) ?_))
    exact sameN (by kernel_rfl) (by kernel_rfl) h
   refine fin [(3, aI a3), (4, .ptr 0 0), (5, .ptr 1 0), (6, .ptr 2 0), (22, aB (x4 || (decide (((sll a2.fCols).length : Int) > 100))))] rfl (by kernel_rfl) ?_
   rcases bif_some hm with ⟨h6, hm⟩ | ⟨h6, hm⟩
   ·
    refine ct h6 (by kernel_rfl) (sq (detn [(8, aB true)] (by kernel_rfl) (wp_ret ?_)))
    obtain rfl := Option.some.inj hm
    exact ⟨trivial, by kernel_rfl⟩
   ·
    refine cf h6 (by kernel_rfl) (wp_skip (sq (rgd (shd 1 [(23, .agg [aI a0.fRows, .pv (encSl R_tabularyref20_Col a0.fCols)])] (by kernel_rfl) ?_))))
    obtain ⟨x7, h8, hm⟩ := bs hm
    refine dvd 24 (cpure (by kernel_rfl) (ok_law20_Given h8) (by kernel_rfl) (by kernel_rfl) (by kernel_rfl)) (by kernel_rfl) (shd 1 [(25, .agg [aI a1.fRows, .pv (encSl R_tabularyref20_Col a1.fCols)])] (by kernel_rfl) ?_)
    obtain ⟨x9, h10, hm⟩ := bs hm
    refine dvd 26 (cpure (by kernel_rfl) (ok_law20_Given h10) (by kernel_rfl) (by kernel_rfl) (by kernel_rfl)) (by kernel_rfl) (std 4 [(10, .ptr 4 0), (9, .ptr 3 0)] [.box [aI a0.fRows, .pv (encSl R_tabularyref20_Col a0.fCols)] false, .box [aI a1.fRows, .pv (encSl R_tabularyref20_Col a1.fCols)] false, .box [aS a2.fName, .pv (encSl R_api_Column a2.fCols)] false, .box [aI x7.fRows, .pv (encSl R_stat_Col x7.fCols)] false, .box [aI x9.fRows, .pv (encSl R_stat_Col x9.fCols)] false] (by kernel_rfl) (find [(3, aI a3), (4, .ptr 0 0), (5, .ptr 1 0), (6, .ptr 2 0), (9, .ptr 3 0), (10, .ptr 4 0)] rfl (by kernel_rfl) (by kernel_rfl) (sq (rgd (shd 1 [(27, .agg [aI x7.fRows, .pv (encSl R_stat_Col x7.fCols)])] (by kernel_rfl) ?_)))))
    obtain ⟨x11, h12, hm⟩ := bs hm
    refine dvd 28 (cpure (by kernel_rfl) (ok_stat_Right h12) (by kernel_rfl) (by kernel_rfl) (by kernel_rfl)) (by kernel_rfl) (shd 1 [(29, .agg [aI a0.fRows, .pv (encSl R_tabularyref20_Col a0.fCols)])] (by kernel_rfl) ?_)
    obtain ⟨x13, h14, hm⟩ := bs hm
    refine dvd 30 (cpure (by kernel_rfl) (ok_ref20_Right h14) (by kernel_rfl) (by kernel_rfl) (by kernel_rfl)) (by kernel_rfl) (shd 2 [(32, aB (x11 == x13)), (31, aB (x11 == x13))] (by kernel_rfl) ?_)
    rcases bif_some hm with ⟨h15, hm⟩ | ⟨h15, hm⟩
    ·
     refine knownd [32, 31] h15 (by kernel_rfl) (shd 2 [(34, .agg [aS a2.fName, .pv (encSl R_api_Column a2.fCols)]), (33, .agg [aI x7.fRows, .pv (encSl R_stat_Col x7.fCols)])] (by kernel_rfl) ?_)
     obtain ⟨x16, h17, hm⟩ := bs hm
     refine dvd 35 (cpure (by kernel_rfl) (ok_stat_Fits h17) (by kernel_rfl) (by kernel_rfl) (by kernel_rfl)) (by kernel_rfl) (shd 2 [(37, .agg [aS a2.fName, .pv (encSl R_api_Column a2.fCols)]), (36, .agg [aI a0.fRows, .pv (encSl R_tabularyref20_Col a0.fCols)])] (by kernel_rfl) ?_)
     obtain ⟨x18, h19, hm⟩ := bs hm
     refine dvd 38 (cpure (by kernel_rfl) (ok_ref20_Fits h19) (by kernel_rfl) (by kernel_rfl) (by kernel_rfl)) (by kernel_rfl) (shd 3 [(41, aB (x16 == x18)), (40, aB (x16 == x18)), (39, aB (x16 == x18))] (by kernel_rfl) ?_)
     rcases bif_some hm with ⟨h20, hm⟩ | ⟨h20, hm⟩
     ·
      refine knownd [41, 40, 39] h20 (by kernel_rfl) (shd 2 [(43, .agg [aI x9.fRows, .pv (encSl R_stat_Col x9.fCols)]), (42, .agg [aI x7.fRows, .pv (encSl R_stat_Col x7.fCols)])] (by kernel_rfl) ?_)
      obtain ⟨x21, h22, hm⟩ := bs hm
      refine dvd 44 (cpure (by kernel_rfl) (ok_stat_Same h22) (by kernel_rfl) (by kernel_rfl) (by kernel_rfl)) (by kernel_rfl) (shd 2 [(46, .agg [aI a1.fRows, .pv (encSl R_tabularyref20_Col a1.fCols)]), (45, .agg [aI a0.fRows, .pv (encSl R_tabularyref20_Col a0.fCols)])] (by kernel_rfl) ?_)
      obtain ⟨x23, h24, hm⟩ := bs hm
      refine dvd 47 (cpure (by kernel_rfl) (ok_ref20_Same h24) (by kernel_rfl) (by kernel_rfl) (by kernel_rfl)) (by kernel_rfl) (shd 3 [(50, aB (x21 == x23)), (49, aB (x21 == x23)), (48, aB (x21 == x23))] (by kernel_rfl) ?_)
      rcases bif_some hm with ⟨h25, hm⟩ | ⟨h25, hm⟩
      ·
       refine knownd [50, 49, 48] h25 (by kernel_rfl) (shd 2 [(52, aI a3), (51, .agg [aS a2.fName, .pv (encSl R_api_Column a2.fCols)])] (by kernel_rfl) ?_)
       obtain ⟨x26, h27, hm⟩ := bs hm
       refine dvd 53 (cpure (by kernel_rfl) (ok_stat_Plain h27) (by kernel_rfl) (by kernel_rfl) (by kernel_rfl)) (by kernel_rfl) ?_
       obtain ⟨x28, h29, hm⟩ := bs hm
       refine dvd 54 (cpure (by kernel_rfl) (ok_law20_Told h29) (by kernel_rfl) (by kernel_rfl) (by kernel_rfl)) (by kernel_rfl) (shd 2 [(56, aI a3), (55, .agg [aS a2.fName, .pv (encSl R_api_Column a2.fCols)])] (by kernel_rfl) ?_)
       obtain ⟨x30, h31, hm⟩ := bs hm
       refine dvd 57 (cpure (by kernel_rfl) (ok_ref20_Plain h31) (by kernel_rfl) (by kernel_rfl) (by kernel_rfl)) (by kernel_rfl) ?_
       obtain ⟨x32, h33, hm⟩ := bs hm
       refine dvd 58 (cpure (by kernel_rfl) (ok_ref20_Same h33) (by kernel_rfl) (by kernel_rfl) (by kernel_rfl)) (by kernel_rfl) (shd 2 [(60, aB x32), (59, aB x32)] (by kernel_rfl) ?_)
       rcases bif_some hm with ⟨h34, hm⟩ | ⟨h34, hm⟩
       ·
        refine knownd [60, 59, 58] h34 (by kernel_rfl) ?_
        obtain ⟨x35, h36, hm⟩ := bs hm
        refine dvd 61 (cpure (by kernel_rfl) (ok_law20_works h36) (by kernel_rfl) (by kernel_rfl) (by kernel_rfl)) (by kernel_rfl) (shd 2 [(8, aB x35), (62, aB x35)] (by kernel_rfl) (find [(8, aB x35)] rfl (by kernel_rfl) (by kernel_rfl) (wp_ret ?_)))
        obtain rfl := Option.some.inj hm
        exact ⟨trivial, by kernel_rfl⟩
       ·
        refine knownd [60, 59, 58] h34 (by kernel_rfl) (shd 3 [(8, aB false), (62, aB false), (61, .undef)] (by kernel_rfl) (find [(8, aB false)] rfl (by kernel_rfl) (by kernel_rfl) (wp_ret ?_)))
        obtain rfl := Option.some.inj hm
        exact ⟨trivial, by kernel_rfl⟩
      ·
       refine knownd [50, 49, 48] h25 (by kernel_rfl) (shd 13 [(8, aB false), (62, aB false), (61, .undef), (60, aB false), (59, aB false), (58, .undef), (57, .undef), (56, .undef), (55, .undef), (54, .undef), (53, .undef), (52, .undef), (51, .undef)] (by kernel_rfl) (find [(8, aB false)] rfl (by kernel_rfl) (by kernel_rfl) (wp_ret ?_)))
       obtain rfl := Option.some.inj hm
       exact ⟨trivial, by kernel_rfl⟩
     ·
      refine knownd [41, 40, 39] h20 (by kernel_rfl) (shd 22 [(8, aB false), (62, aB false), (61, .undef), (60, aB false), (59, aB false), (58, .undef), (57, .undef), (56, .undef), (55, .undef), (54, .undef), (53, .undef), (52, .undef), (51, .undef), (50, aB false), (49, aB false), (48, .undef), (47, .undef), (46, .undef), (45, .undef), (44, .undef), (43, .undef), (42, .undef)] (by kernel_rfl) (find [(8, aB false)] rfl (by kernel_rfl) (by kernel_rfl) (wp_ret ?_)))
      obtain rfl := Option.some.inj hm
      exact ⟨trivial, by kernel_rfl⟩
    ·
     refine knownd [32, 31] h15 (by kernel_rfl) (shd 31 [(8, aB false), (62, aB false), (61, .undef), (60, aB false), (59, aB false), (58, .undef), (57, .undef), (56, .undef), (55, .undef), (54, .undef), (53, .undef), (52, .undef), (51, .undef), (50, aB false), (49, aB false), (48, .undef), (47, .undef), (46, .undef), (45, .undef), (44, .undef), (43, .undef), (42, .undef), (41, aB false), (40, aB false), (39, .undef), (38, .undef), (37, .undef), (36, .undef), (35, .undef), (34, .undef), (33, .undef)] (by kernel_rfl) (find [(8, aB false)] rfl (by kernel_rfl) (by kernel_rfl) (wp_ret ?_)))
     obtain rfl := Option.some.inj hm
     exact ⟨trivial, by kernel_rfl⟩
end Go.Ab.S1
