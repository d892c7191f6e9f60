import Derived.Test.YtjbhpopccbhhlaaWB2
namespace Go.Ab.S1
open Go Go.Ab Go.Pl
open Go.Proofs.Try
set_option linter.unusedVariables false
set_option linter.unusedSimpArgs false
set_option maxRecDepth 100000
theorem ok_law19_Told {n : Nat} {a0 : (Option (List hist_Bucket))} {r : (Option (List tabularyref19_Bucket))} (hm : law19_Told n a0 = some r) :
    call G n 29 [.pv (encSl R_hist_Bucket a0)] [] = some (.ret (.pv (encSl R_tabularyref19_Bucket r)), []) := by
  unfold law19_Told at hm
  obtain ⟨n, rfl, h0⟩ := at1_some hm
  replace hm := h0; clear h0
  refine callL 18 [(0, .pv (encSl R_hist_Bucket a0))] func29 rfl (by kernel_rfl) (sq (detn [(0, .pv (encSl R_hist_Bucket a0))] (by kernel_rfl) (sq (detn [(0, .pv (encSl R_hist_Bucket a0)), (3, .pv .nils)] (by kernel_rfl) ?_))))
  obtain ⟨k4, hk4, hm⟩ := withK_some hm
  refine mid (fun t H => (∃ (w1 : AV) (w2 : AV), k4 none = some r ∧ t = mk 18 [(3, .pv .nils), (6, .pv (encSl R_hist_Bucket a0)), (7, aI ((sll a0).length : Int)), (8, w1), (9, w2)] ∧ H = []) ∨ (∃ (y3 : (List tabularyref19_Bucket)) (w1 : AV) (w2 : AV), k4 (some y3) = some r ∧ t = mk 18 [(3, aR 0 10 y3.length), (6, .pv (encSl R_hist_Bucket a0)), (7, aI ((sll a0).length : Int)), (8, w1), (9, w2)] ∧ H = [bR 80 10 R_tabularyref19_Bucket y3 0 0])) ?_ ?_
  ·
   rintro _ _ (⟨w1, w2, hm, rfl, rfl⟩ | ⟨y3, w1, w2, hm, rfl, rfl⟩)
   ·
    subst hk4
    refine sq (detn [(2, .pv .nils)] (by kernel_rfl) (wp_ret ?_))
    obtain rfl := Option.some.inj hm
    exact ⟨trivial, by kernel_rfl⟩
   ·
    subst hk4
    refine sq (detn [(2, aR 0 10 y3.length)] (by kernel_rfl) (wp_ret ?_))
    obtain rfl := Option.some.inj hm
    exact ret_pure (v := aR 0 10 y3.length) trivial rfl (by kernel_rfl) (pA_ref (pur_ref' (n := y3.length) (id := 0) (l := y3) (R := R_tabularyref19_Bucket) rfl rfl (Nat.zero_le _)))
  refine sq (rg (sh 1 [(6, .pv (encSl R_hist_Bucket a0))] (by kernel_rfl) (dv 7 (v := aI ((sll a0).length : Int)) (len_slO R_hist_Bucket a0 t53 (by kernel_rfl)) (by kernel_rfl) (sh 1 [(8, aI 0)] (by kernel_rfl) (fin [(3, .pv .nils), (6, .pv (encSl R_hist_Bucket a0)), (7, aI ((sll a0).length : Int)), (8, aI 0)] rfl (by kernel_rfl) (bq ?_))))))
  refine loopF (fun mm t H => (∃ (y9 : Int), law19_Told_l3 n a0 k4 mm none y9 = some r ∧ t = mk 18 [(3, .pv .nils), (6, .pv (encSl R_hist_Bucket a0)), (7, aI ((sll a0).length : Int)), (8, aI y9)] ∧ H = []) ∨ (∃ (y8 : (List tabularyref19_Bucket)) (y9 : Int), law19_Told_l3 n a0 k4 mm (some y8) y9 = some r ∧ t = mk 18 [(3, aR 0 10 y8.length), (6, .pv (encSl R_hist_Bucket a0)), (7, aI ((sll a0).length : Int)), (8, aI y9)] ∧ H = [bR 80 10 R_tabularyref19_Bucket y8 0 0])) (.inl ⟨0, hm, rfl, rfl⟩) ?_ ?_
  · rintro _ _ (⟨y9, hm, _⟩ | ⟨y8, y9, hm, _⟩) <;> exact nomatch hm
  rintro m10 _ _ (⟨y9, hm, rfl, rfl⟩ | ⟨y8, y9, hm, rfl, rfl⟩)
  ·
   simp only [law19_Told_l3] at hm
   refine sq (detn [(3, .pv .nils), (6, .pv (encSl R_hist_Bucket a0)), (7, aI ((sll a0).length : Int)), (8, aI y9), (9, aB (decide (y9 < ((sll a0).length : Int))))] (by kernel_rfl) ?_)
   refine sq ?_
   rcases bif_some hm with ⟨h11, hm⟩ | ⟨h11, hm⟩
   ·
    refine ct h11 (by kernel_rfl) (wp_skip (sq (bq (sq (rg ?_)))))
    obtain ⟨x12, h13, hm⟩ := bs hm
    refine dv 10 (v := .pv (.ptr (R_hist_Bucket x12) 0)) (ia_slO R_hist_Bucket a0 .i64 t53 t77 h13 rfl (by kernel_rfl)) (by kernel_rfl) (st 3 [(5, .ptr 0 0), (11, .agg [aI x12.fLow.fKind, aI x12.fLow.fInt, aF x12.fLow.fFloat, aS x12.fLow.fText, aI x12.fHigh.fKind, aI x12.fHigh.fInt, aF x12.fHigh.fFloat, aS x12.fHigh.fText, aI x12.fCount, aI x12.fDistinct])] [.box [aI x12.fLow.fKind, aI x12.fLow.fInt, aF x12.fLow.fFloat, aS x12.fLow.fText, aI x12.fHigh.fKind, aI x12.fHigh.fInt, aF x12.fHigh.fFloat, aS x12.fHigh.fText, aI x12.fCount, aI x12.fDistinct] false] (by kernel_rfl) (fin [(3, .pv .nils), (5, .ptr 0 0), (6, .pv (encSl R_hist_Bucket a0)), (7, aI ((sll a0).length : Int)), (8, aI y9)] rfl (by kernel_rfl) (rg (st 3 [(14, aR 1 10 1), (13, .agg [aI x12.fLow.fKind, aI x12.fLow.fInt, aF x12.fLow.fFloat, aS x12.fLow.fText, aI x12.fHigh.fKind, aI x12.fHigh.fInt, aF x12.fHigh.fFloat, aS x12.fHigh.fText, aI x12.fCount, aI x12.fDistinct]), (12, .pv .nils)] [.box [aI x12.fLow.fKind, aI x12.fLow.fInt, aF x12.fLow.fFloat, aS x12.fLow.fText, aI x12.fHigh.fKind, aI x12.fHigh.fInt, aF x12.fHigh.fFloat, aS x12.fHigh.fText, aI x12.fCount, aI x12.fDistinct] false, bR 80 10 R_tabularyref19_Bucket ([(tabularyref19_Bucket.mk x12.fLow x12.fHigh x12.fCount x12.fDistinct)] : List tabularyref19_Bucket) 0 0] (by kernel_rfl) ?_))))
    obtain ⟨_, h14, hm⟩ := bs hm
    refine dO [(15, aR 2 10 (([(tabularyref19_Bucket.mk x12.fLow x12.fHigh x12.fCount x12.fDistinct)] : List tabularyref19_Bucket).length))] [.box [aI x12.fLow.fKind, aI x12.fLow.fInt, aF x12.fLow.fFloat, aS x12.fLow.fText, aI x12.fHigh.fKind, aI x12.fHigh.fInt, aF x12.fHigh.fFloat, aS x12.fHigh.fText, aI x12.fCount, aI x12.fDistinct] false, bR 80 10 R_tabularyref19_Bucket ([(tabularyref19_Bucket.mk x12.fLow x12.fHigh x12.fCount x12.fDistinct)] : List tabularyref19_Bucket) 0 0, bR 80 10 R_tabularyref19_Bucket ([(tabularyref19_Bucket.mk x12.fLow x12.fHigh x12.fCount x12.fDistinct)] : List tabularyref19_Bucket) 0 0] (app_nilO (u := 0) R_tabularyref19_Bucket ([(tabularyref19_Bucket.mk x12.fLow x12.fHigh x12.fCount x12.fDistinct)] : List tabularyref19_Bucket) (b := 96) t56 t80 rfl rfl rfl (fun _ => rfl) rfl h14 (show srcRows (aR 1 10 1) _ = some (([(tabularyref19_Bucket.mk x12.fLow x12.fHigh x12.fCount x12.fDistinct)] : List tabularyref19_Bucket).map R_tabularyref19_Bucket) from by kernel_rfl) (by kernel_rfl)) (by kernel_rfl) (sh 1 [(3, aR 2 10 (([(tabularyref19_Bucket.mk x12.fLow x12.fHigh x12.fCount x12.fDistinct)] : List tabularyref19_Bucket).length))] (by kernel_rfl) (fin [(3, aR 2 10 (([(tabularyref19_Bucket.mk x12.fLow x12.fHigh x12.fCount x12.fDistinct)] : List tabularyref19_Bucket).length)), (6, .pv (encSl R_hist_Bucket a0)), (7, aI ((sll a0).length : Int)), (8, aI y9)] rfl (by kernel_rfl) (detn [(3, aR 2 10 (([(tabularyref19_Bucket.mk x12.fLow x12.fHigh x12.fCount x12.fDistinct)] : List tabularyref19_Bucket).length)), (6, .pv (encSl R_hist_Bucket a0)), (7, aI ((sll a0).length : Int)), (8, aI (IntKind.wrap .i64 (y9 + 1)))] (by kernel_rfl) ?_)))
    exact ⟨_, _, tidyL [(3, aR 0 10 (([(tabularyref19_Bucket.mk x12.fLow x12.fHigh x12.fCount x12.fDistinct)] : List tabularyref19_Bucket).length)), (6, .pv (encSl R_hist_Bucket a0)), (7, aI ((sll a0).length : Int)), (8, aI (IntKind.wrap .i64 (y9 + 1)))] [bR 80 10 R_tabularyref19_Bucket ([(tabularyref19_Bucket.mk x12.fLow x12.fHigh x12.fCount x12.fDistinct)] : List tabularyref19_Bucket) 0 0] (by kernel_rfl), .inr (⟨([(tabularyref19_Bucket.mk x12.fLow x12.fHigh x12.fCount x12.fDistinct)] : List tabularyref19_Bucket), (IntKind.wrap .i64 (y9 + 1)), hm, rfl, rfl⟩)⟩
   ·
    refine cf h11 (by kernel_rfl) (wp_exit ?_)
    exact .inl ⟨aI y9, aB (decide (y9 < ((sll a0).length : Int))), hm, (mk_same (by kernel_rfl)), rfl⟩
  ·
   simp only [law19_Told_l3] at hm
   refine sq (detn [(3, aR 0 10 y8.length), (6, .pv (encSl R_hist_Bucket a0)), (7, aI ((sll a0).length : Int)), (8, aI y9), (9, aB (decide (y9 < ((sll a0).length : Int))))] (by kernel_rfl) ?_)
   refine sq ?_
   rcases bif_some hm with ⟨h15, hm⟩ | ⟨h15, hm⟩
   ·
    refine ct h15 (by kernel_rfl) (wp_skip (sq (bq (sq (rg ?_)))))
    obtain ⟨x16, h17, hm⟩ := bs hm
    refine dv 10 (v := .pv (.ptr (R_hist_Bucket x16) 0)) (ia_slO R_hist_Bucket a0 .i64 t53 t77 h17 rfl (by kernel_rfl)) (by kernel_rfl) (st 3 [(5, .ptr 1 0), (11, .agg [aI x16.fLow.fKind, aI x16.fLow.fInt, aF x16.fLow.fFloat, aS x16.fLow.fText, aI x16.fHigh.fKind, aI x16.fHigh.fInt, aF x16.fHigh.fFloat, aS x16.fHigh.fText, aI x16.fCount, aI x16.fDistinct])] [bR 80 10 R_tabularyref19_Bucket y8 0 0, .box [aI x16.fLow.fKind, aI x16.fLow.fInt, aF x16.fLow.fFloat, aS x16.fLow.fText, aI x16.fHigh.fKind, aI x16.fHigh.fInt, aF x16.fHigh.fFloat, aS x16.fHigh.fText, aI x16.fCount, aI x16.fDistinct] false] (by kernel_rfl) (fin [(3, aR 0 10 y8.length), (5, .ptr 1 0), (6, .pv (encSl R_hist_Bucket a0)), (7, aI ((sll a0).length : Int)), (8, aI y9)] rfl (by kernel_rfl) (rg (st 3 [(14, aR 2 10 1), (13, .agg [aI x16.fLow.fKind, aI x16.fLow.fInt, aF x16.fLow.fFloat, aS x16.fLow.fText, aI x16.fHigh.fKind, aI x16.fHigh.fInt, aF x16.fHigh.fFloat, aS x16.fHigh.fText, aI x16.fCount, aI x16.fDistinct]), (12, aR 0 10 y8.length)] [bR 80 10 R_tabularyref19_Bucket y8 0 0, .box [aI x16.fLow.fKind, aI x16.fLow.fInt, aF x16.fLow.fFloat, aS x16.fLow.fText, aI x16.fHigh.fKind, aI x16.fHigh.fInt, aF x16.fHigh.fFloat, aS x16.fHigh.fText, aI x16.fCount, aI x16.fDistinct] false, bR 80 10 R_tabularyref19_Bucket ([(tabularyref19_Bucket.mk x16.fLow x16.fHigh x16.fCount x16.fDistinct)] : List tabularyref19_Bucket) 0 0] (by kernel_rfl) ?_))))
    obtain ⟨_, h18, hm⟩ := bs hm
    refine dO [(15, aR 0 10 ((y8 ++ ([(tabularyref19_Bucket.mk x16.fLow x16.fHigh x16.fCount x16.fDistinct)] : List tabularyref19_Bucket)).length))] [bR 80 10 R_tabularyref19_Bucket (y8 ++ ([(tabularyref19_Bucket.mk x16.fLow x16.fHigh x16.fCount x16.fDistinct)] : List tabularyref19_Bucket)) 0 0, .box [aI x16.fLow.fKind, aI x16.fLow.fInt, aF x16.fLow.fFloat, aS x16.fLow.fText, aI x16.fHigh.fKind, aI x16.fHigh.fInt, aF x16.fHigh.fFloat, aS x16.fHigh.fText, aI x16.fCount, aI x16.fDistinct] false, bR 80 10 R_tabularyref19_Bucket ([(tabularyref19_Bucket.mk x16.fLow x16.fHigh x16.fCount x16.fDistinct)] : List tabularyref19_Bucket) 0 0] (app_refO (u := 0) (n := y8.length) (id := 0) R_tabularyref19_Bucket y8 ([(tabularyref19_Bucket.mk x16.fLow x16.fHigh x16.fCount x16.fDistinct)] : List tabularyref19_Bucket) (b := 96) t56 t80 rfl rfl rfl (fun _ => rfl) rfl h18 rfl rfl (Nat.zero_le _) (show srcRows (aR 2 10 1) _ = some (([(tabularyref19_Bucket.mk x16.fLow x16.fHigh x16.fCount x16.fDistinct)] : List tabularyref19_Bucket).map R_tabularyref19_Bucket) from by kernel_rfl) (by kernel_rfl)) (by kernel_rfl) (sh 1 [(3, aR 0 10 ((y8 ++ ([(tabularyref19_Bucket.mk x16.fLow x16.fHigh x16.fCount x16.fDistinct)] : List tabularyref19_Bucket)).length))] (by kernel_rfl) (fin [(3, aR 0 10 ((y8 ++ ([(tabularyref19_Bucket.mk x16.fLow x16.fHigh x16.fCount x16.fDistinct)] : List tabularyref19_Bucket)).length)), (6, .pv (encSl R_hist_Bucket a0)), (7, aI ((sll a0).length : Int)), (8, aI y9)] rfl (by kernel_rfl) (detn [(3, aR 0 10 ((y8 ++ ([(tabularyref19_Bucket.mk x16.fLow x16.fHigh x16.fCount x16.fDistinct)] : List tabularyref19_Bucket)).length)), (6, .pv (encSl R_hist_Bucket a0)), (7, aI ((sll a0).length : Int)), (8, aI (IntKind.wrap .i64 (y9 + 1)))] (by kernel_rfl) ?_)))
    exact ⟨_, _, tidyL [(3, aR 0 10 ((y8 ++ ([(tabularyref19_Bucket.mk x16.fLow x16.fHigh x16.fCount x16.fDistinct)] : List tabularyref19_Bucket)).length)), (6, .pv (encSl R_hist_Bucket a0)), (7, aI ((sll a0).length : Int)), (8, aI (IntKind.wrap .i64 (y9 + 1)))] [bR 80 10 R_tabularyref19_Bucket (y8 ++ ([(tabularyref19_Bucket.mk x16.fLow x16.fHigh x16.fCount x16.fDistinct)] : List tabularyref19_Bucket)) 0 0] (by kernel_rfl), .inr (⟨(y8 ++ ([(tabularyref19_Bucket.mk x16.fLow x16.fHigh x16.fCount x16.fDistinct)] : List tabularyref19_Bucket)), (IntKind.wrap .i64 (y9 + 1)), hm, rfl, rfl⟩)⟩
   ·
    refine cf h15 (by kernel_rfl) (wp_exit ?_)
    exact .inr (⟨y8, aI y9, aB (decide (y9 < ((sll a0).length : Int))), hm, (mk_same (by kernel_rfl)), rfl⟩)
theorem ok_ref03_Bits {n : Nat} {a0 : Nat} {r : Int} (hm : ref03_Bits n a0 = some r) :
    call G n 103 [aF a0] [] = some (.ret (aU r), []) := by
  unfold ref03_Bits at hm
  obtain ⟨n, rfl, h0⟩ := at1_some hm
  replace hm := h0; clear h0
  refine callL 10 [(0, aF a0)] func103 rfl (by kernel_rfl) (sq (detn [(0, aF a0)] (by kernel_rfl) (sq (sq (detn [(0, aF a0), (5, aB ((FloatKind.format .f64).order a0 a0 != some .eq))] (by kernel_rfl) ?_)))))
  rcases bif_some hm with ⟨h1, hm⟩ | ⟨h1, hm⟩
  ·
   refine ct h1 (by kernel_rfl) (sq (detn [(2, aU 9221120237041090561)] (by kernel_rfl) (wp_ret ?_)))
   obtain rfl := Option.some.inj hm
   exact ⟨trivial, by kernel_rfl⟩
  ·
   refine cf h1 (by kernel_rfl) (wp_skip (sq (sq (detn [(0, aF a0), (7, aB ((FloatKind.format .f64).order a0 0 == some .eq))] (by kernel_rfl) ?_))))
   rcases bif_some hm with ⟨h2, hm⟩ | ⟨h2, hm⟩
   ·
    refine ct h2 (by kernel_rfl) (sq (detn [(2, aU 0)] (by kernel_rfl) (wp_ret ?_)))
    obtain rfl := Option.some.inj hm
    exact ⟨trivial, by kernel_rfl⟩
   ·
    refine cf h2 (by kernel_rfl) (wp_skip (sq (rg (sh 1 [(8, aF a0)] (by kernel_rfl) (sh 1 [(9, aU (a0 : Int))] (by kernel_rfl) (sh 1 [(2, aU (a0 : Int))] (by kernel_rfl) (fin [(2, aU (a0 : Int))] rfl (by kernel_rfl) (wp_ret ?_))))))))
    obtain rfl := Option.some.inj hm
    exact ⟨trivial, by kernel_rfl⟩
theorem ok_ref04_Exact {n : Nat} {a0 : api_Value} {a1 : api_Value} {r : Bool} (hm : ref04_Exact n a0 a1 = some r) :
    call G n 66 [.agg [aI a0.fKind, aI a0.fInt, aF a0.fFloat, aS a0.fText], .agg [aI a1.fKind, aI a1.fInt, aF a1.fFloat, aS a1.fText]] [] = some (.ret (aB r), []) := by
  unfold ref04_Exact at hm
  obtain ⟨n, rfl, h0⟩ := at1_some hm
  replace hm := h0; clear h0
  refine callL 42 [(0, .agg [aI a0.fKind, aI a0.fInt, aF a0.fFloat, aS a0.fText]), (1, .agg [aI a1.fKind, aI a1.fInt, aF a1.fFloat, aS a1.fText])] func66 rfl (by kernel_rfl) (sq (det [(2, .ptr 0 0), (3, .ptr 1 0)] [.box [aI a0.fKind, aI a0.fInt, aF a0.fFloat, aS a0.fText] false, .box [aI a1.fKind, aI a1.fInt, aF a1.fFloat, aS a1.fText] false] (by kernel_rfl) (sq (rgd (shd 6 [(10, aB (a0.fKind == a1.fKind)), (9, aB (a0.fKind == a1.fKind)), (8, aI a1.fKind), (7, .ptr 1 0), (6, aI a0.fKind), (5, .ptr 0 0)] (by kernel_rfl) ?_)))))
  rcases bif_some hm with ⟨h1, hm⟩ | ⟨h1, hm⟩
  ·
   refine knownd [10, 9] h1 (by kernel_rfl) (shd 7 [(17, aB (a0.fInt == a1.fInt)), (16, aB (a0.fInt == a1.fInt)), (15, aB (a0.fInt == a1.fInt)), (14, aI a1.fInt), (13, .ptr 1 1), (12, aI a0.fInt), (11, .ptr 0 1)] (by kernel_rfl) ?_)
   rcases bif_some hm with ⟨h2, hm⟩ | ⟨h2, hm⟩
   ·
    refine knownd [17, 16, 15] h2 (by kernel_rfl) (shd 7 [(24, aB (sEq a0.fText a1.fText)), (23, aB (sEq a0.fText a1.fText)), (22, aB (sEq a0.fText a1.fText)), (21, aS a1.fText), (20, .ptr 1 3), (19, aS a0.fText), (18, .ptr 0 3)] (by kernel_rfl) ?_)
    rcases bif_some hm with ⟨h3, hm⟩ | ⟨h3, hm⟩
    ·
     refine knownd [24, 23, 22] h3 (by kernel_rfl) (shd 2 [(26, aF a0.fFloat), (25, .ptr 0 2)] (by kernel_rfl) ?_)
     obtain ⟨x4, h5, hm⟩ := bs hm
     refine dvd 27 (cpure (by kernel_rfl) (ok_ref03_Bits h5) (by kernel_rfl) (by kernel_rfl) (by kernel_rfl)) (by kernel_rfl) (shd 2 [(29, aF a1.fFloat), (28, .ptr 1 2)] (by kernel_rfl) ?_)
     obtain ⟨x6, h7, hm⟩ := bs hm
     refine dvd 30 (cpure (by kernel_rfl) (ok_ref03_Bits h7) (by kernel_rfl) (by kernel_rfl) (by kernel_rfl)) (by kernel_rfl) (shd 3 [(33, aB (x4 == x6)), (32, aB (x4 == x6)), (31, aB (x4 == x6))] (by kernel_rfl) ?_)
     rcases bif_some hm with ⟨h8, hm⟩ | ⟨h8, hm⟩
     ·
      refine knownd [33, 32, 31] h8 (by kernel_rfl) (shd 2 [(35, aF a0.fFloat), (34, .ptr 0 2)] (by kernel_rfl) ?_)
      obtain ⟨x9, h10, hm⟩ := bs hm
      refine dvd 36 (cpure (by kernel_rfl) (ok_ref04_zero h10) (by kernel_rfl) (by kernel_rfl) (by kernel_rfl)) (by kernel_rfl) (shd 2 [(38, aF a1.fFloat), (37, .ptr 1 2)] (by kernel_rfl) ?_)
      obtain ⟨x11, h12, hm⟩ := bs hm
      refine dvd 39 (cpure (by kernel_rfl) (ok_ref04_zero h12) (by kernel_rfl) (by kernel_rfl) (by kernel_rfl)) (by kernel_rfl) (shd 3 [(4, aB (x9 == x11)), (41, aB (x9 == x11)), (40, aB (x9 == x11))] (by kernel_rfl) (find [(4, aB (x9 == x11))] rfl (by kernel_rfl) (by kernel_rfl) (wp_ret ?_)))
      obtain rfl := Option.some.inj hm
      exact ⟨trivial, by kernel_rfl⟩
     ·
      refine knownd [33, 32, 31] h8 (by kernel_rfl) (shd 9 [(4, aB false), (41, aB false), (40, .undef), (39, .undef), (38, .undef), (37, .undef), (36, .undef), (35, .undef), (34, .undef)] (by kernel_rfl) (find [(4, aB false)] rfl (by kernel_rfl) (by kernel_rfl) (wp_ret ?_)))
      obtain rfl := Option.some.inj hm
      exact ⟨trivial, by kernel_rfl⟩
    ·
     refine knownd [24, 23, 22] h3 (by kernel_rfl) (shd 18 [(4, aB false), (41, aB false), (40, .undef), (39, .undef), (38, .undef), (37, .undef), (36, .undef), (35, .undef), (34, .undef), (33, aB false), (32, aB false), (31, .undef), (30, .undef), (29, .undef), (28, .undef), (27, .undef), (26, .undef), (25, .undef)] (by kernel_rfl) (find [(4, aB false)] rfl (by kernel_rfl) (by kernel_rfl) (wp_ret ?_)))
     obtain rfl := Option.some.inj hm
     exact ⟨trivial, by kernel_rfl⟩
   ·
    refine knownd [17, 16, 15] h2 (by kernel_rfl) (shd 25 [(4, aB false), (41, aB false), (40, .undef), (39, .undef), (38, .undef), (37, .undef), (36, .undef), (35, .undef), (34, .undef), (33, aB false), (32, aB false), (31, .undef), (30, .undef), (29, .undef), (28, .undef), (27, .undef), (26, .undef), (25, .undef), (24, aB false), (23, aB false), (22, .undef), (21, .undef), (20, .undef), (19, .undef), (18, .undef)] (by kernel_rfl) (find [(4, aB false)] rfl (by kernel_rfl) (by kernel_rfl) (wp_ret ?_)))
    obtain rfl := Option.some.inj hm
    exact ⟨trivial, by kernel_rfl⟩
  ·
   refine knownd [10, 9] h1 (by kernel_rfl) (shd 32 [(4, aB false), (41, aB false), (40, .undef), (39, .undef), (38, .undef), (37, .undef), (36, .undef), (35, .undef), (34, .undef), (33, aB false), (32, aB false), (31, .undef), (30, .undef), (29, .undef), (28, .undef), (27, .undef), (26, .undef), (25, .undef), (24, aB false), (23, aB false), (22, .undef), (21, .undef), (20, .undef), (19, .undef), (18, .undef), (17, aB false), (16, aB false), (15, .undef), (14, .undef), (13, .undef), (12, .undef), (11, .undef)] (by kernel_rfl) (find [(4, aB false)] rfl (by kernel_rfl) (by kernel_rfl) (wp_ret ?_)))
   obtain rfl := Option.some.inj hm
   exact ⟨trivial, by kernel_rfl⟩
theorem ok_ref19_Same {n : Nat} {a0 : (Option (List tabularyref19_Bucket))} {a1 : (Option (List tabularyref19_Bucket))} {r : Bool} (hm : ref19_Same n a0 a1 = some r) :
    call G n 28 [.pv (encSl R_tabularyref19_Bucket a0), .pv (encSl R_tabularyref19_Bucket a1)] [] = some (.ret (aB r), []) := by
  unfold ref19_Same at hm
  obtain ⟨n, rfl, h0⟩ := at1_some hm
  replace hm := h0; clear h0
  refine callL 69 [(0, .pv (encSl R_tabularyref19_Bucket a0)), (1, .pv (encSl R_tabularyref19_Bucket a1))] func28 rfl (by kernel_rfl) (sq (detn [(0, .pv (encSl R_tabularyref19_Bucket a0)), (1, .pv (encSl R_tabularyref19_Bucket a1))] (by kernel_rfl) ?_))
  refine sq (sq (rg (sh 1 [(6, .pv (encSl R_tabularyref19_Bucket a0))] (by kernel_rfl) (dv 7 (v := aI ((sll a0).length : Int)) (len_slO R_tabularyref19_Bucket a0 t56 (by kernel_rfl)) (by kernel_rfl) (sh 1 [(8, .pv (encSl R_tabularyref19_Bucket a1))] (by kernel_rfl) (dv 9 (v := aI ((sll a1).length : Int)) (len_slO R_tabularyref19_Bucket a1 t56 (by kernel_rfl)) (by kernel_rfl) (sh 1 [(10, aB (((sll a0).length : Int) != ((sll a1).length : Int)))] (by kernel_rfl) (fin [(0, .pv (encSl R_tabularyref19_Bucket a0)), (1, .pv (encSl R_tabularyref19_Bucket a1)), (10, aB (((sll a0).length : Int) != ((sll a1).length : Int)))] rfl (by kernel_rfl) ?_))))))))
  rcases bif_some hm with ⟨h1, hm⟩ | ⟨h1, hm⟩
  ·
   refine ct h1 (by kernel_rfl) (sq (detn [(4, aB false)] (by kernel_rfl) (wp_ret ?_)))
   obtain rfl := Option.some.inj hm
   exact ⟨trivial, by kernel_rfl⟩
  ·
   refine cf h1 (by kernel_rfl) (wp_skip ?_)
   obtain ⟨k4, hk4, hm⟩ := withK_some hm
   refine mid (fun t H => (∃ (y2 : Bool) (y3 : Int), k4 () = some r ∧ t = mk 69 [(0, .pv (encSl R_tabularyref19_Bucket a0)), (1, .pv (encSl R_tabularyref19_Bucket a1)), (5, aI y3), (14, aB y2)] ∧ H = [])) ?_ ?_
   ·
    rintro _ _ ⟨y2, y3, hm, rfl, rfl⟩
    subst hk4
    refine sq (detn [(4, aB true)] (by kernel_rfl) (wp_ret ?_))
    obtain rfl := Option.some.inj hm
    exact ⟨trivial, by kernel_rfl⟩
   refine sq (detn [(0, .pv (encSl R_tabularyref19_Bucket a0)), (1, .pv (encSl R_tabularyref19_Bucket a1)), (5, aI 0)] (by kernel_rfl) (bq ?_))
   refine loopF (fun mm t H => (∃ (y6 : Int), ref19_Same_l4 n a0 a1 k4 mm y6 = some r ∧ t = mk 69 [(0, .pv (encSl R_tabularyref19_Bucket a0)), (1, .pv (encSl R_tabularyref19_Bucket a1)), (5, aI y6)] ∧ H = [])) (⟨0, hm, rfl, rfl⟩) ?_ ?_
   · rintro _ _ ⟨y6, hm, _⟩; exact nomatch hm
   rintro m7 _ _ ⟨y6, hm, rfl, rfl⟩
   simp only [ref19_Same_l4] at hm
   refine sq (sq (rg (sh 2 [(12, .pv (encSl R_tabularyref19_Bucket a0)), (11, aI y6)] (by kernel_rfl) (dv 13 (v := aI ((sll a0).length : Int)) (len_slO R_tabularyref19_Bucket a0 t56 (by kernel_rfl)) (by kernel_rfl) (sh 1 [(14, aB (decide (y6 < ((sll a0).length : Int))))] (by kernel_rfl) (fin [(0, .pv (encSl R_tabularyref19_Bucket a0)), (1, .pv (encSl R_tabularyref19_Bucket a1)), (5, aI y6), (14, aB (decide (y6 < ((sll a0).length : Int))))] rfl (by kernel_rfl) ?_))))))
   rcases bif_some hm with ⟨h8, hm⟩ | ⟨h8, hm⟩
   ·
    refine ct h8 (by kernel_rfl) (wp_skip (sq (bq (sq (rgd (shd 2 [(18, aI y6), (17, .pv (encSl R_tabularyref19_Bucket a0))] (by kernel_rfl) ?_))))))
    obtain ⟨x9, h10, hm⟩ := bs hm
    refine dvd 19 (v := .pv (.ptr (R_tabularyref19_Bucket x9) 0)) (ia_slO R_tabularyref19_Bucket a0 .i64 t56 t80 h10 rfl (by kernel_rfl)) (by kernel_rfl) (shd 4 [(23, aI y6), (22, .pv (encSl R_tabularyref19_Bucket a1)), (21, .agg [aI x9.fLow.fKind, aI x9.fLow.fInt, aF x9.fLow.fFloat, aS x9.fLow.fText]), (20, .pv (.ptr (R_tabularyref19_Bucket x9) 0))] (by kernel_rfl) ?_)
    obtain ⟨x11, h12, hm⟩ := bs hm
    refine dvd 24 (v := .pv (.ptr (R_tabularyref19_Bucket x11) 0)) (ia_slO R_tabularyref19_Bucket a1 .i64 t56 t80 h12 rfl (by kernel_rfl)) (by kernel_rfl) (shd 2 [(26, .agg [aI x11.fLow.fKind, aI x11.fLow.fInt, aF x11.fLow.fFloat, aS x11.fLow.fText]), (25, .pv (.ptr (R_tabularyref19_Bucket x11) 0))] (by kernel_rfl) ?_)
    obtain ⟨x13, h14, hm⟩ := bs hm
    refine dvd 27 (cpure (by kernel_rfl) (ok_ref04_Exact h14) (by kernel_rfl) (by kernel_rfl) (by kernel_rfl)) (by kernel_rfl) (shd 2 [(29, aB (!x13)), (28, aB (!x13))] (by kernel_rfl) ?_)
    rcases bif_some hm with ⟨h15, hm⟩ | ⟨h15, hm⟩
    ·
     refine knownd [29, 28] h15 (by kernel_rfl) (shd 39 [(68, aB true), (67, .undef), (66, .undef), (65, .undef), (64, .undef), (63, .undef), (62, .undef), (61, .undef), (60, .undef), (59, .undef), (58, .undef), (57, .undef), (56, aB true), (55, aB true), (54, .undef), (53, .undef), (52, .undef), (51, .undef), (50, .undef), (49, .undef), (48, .undef), (47, .undef), (46, .undef), (45, .undef), (44, .undef), (43, aB true), (42, aB true), (41, .undef), (40, .undef), (39, .undef), (38, .undef), (37, .undef), (36, .undef), (35, .undef), (34, .undef), (33, .undef), (32, .undef), (31, .undef), (30, .undef)] (by kernel_rfl) (find [(0, .pv (encSl R_tabularyref19_Bucket a0)), (1, .pv (encSl R_tabularyref19_Bucket a1)), (5, aI y6), (68, aB true)] rfl (by kernel_rfl) (by kernel_rfl) (cT (by kernel_rfl) (sq (detn [(4, aB false)] (by kernel_rfl) (wp_ret ?_))))))
     obtain rfl := Option.some.inj hm
     exact ⟨trivial, by kernel_rfl⟩
    ·
     refine knownd [29, 28] h15 (by kernel_rfl) (shd 2 [(31, aI y6), (30, .pv (encSl R_tabularyref19_Bucket a0))] (by kernel_rfl) (dvd 32 (v := .pv (.ptr (R_tabularyref19_Bucket x9) 0)) (ia_slO R_tabularyref19_Bucket a0 .i64 t56 t80 h10 rfl (by kernel_rfl)) (by kernel_rfl) (shd 4 [(36, aI y6), (35, .pv (encSl R_tabularyref19_Bucket a1)), (34, .agg [aI x9.fHigh.fKind, aI x9.fHigh.fInt, aF x9.fHigh.fFloat, aS x9.fHigh.fText]), (33, .pv (.ptr (R_tabularyref19_Bucket x9) 4))] (by kernel_rfl) (dvd 37 (v := .pv (.ptr (R_tabularyref19_Bucket x11) 0)) (ia_slO R_tabularyref19_Bucket a1 .i64 t56 t80 h12 rfl (by kernel_rfl)) (by kernel_rfl) (shd 2 [(39, .agg [aI x11.fHigh.fKind, aI x11.fHigh.fInt, aF x11.fHigh.fFloat, aS x11.fHigh.fText]), (38, .pv (.ptr (R_tabularyref19_Bucket x11) 4))] (by kernel_rfl) ?_)))))
     obtain ⟨x16, h17, hm⟩ := bs hm
     refine dvd 40 (cpure (by kernel_rfl) (ok_ref04_Exact h17) (by kernel_rfl) (by kernel_rfl) (by kernel_rfl)) (by kernel_rfl) (shd 3 [(43, aB (!x16)), (42, aB (!x16)), (41, aB (!x16))] (by kernel_rfl) ?_)
     rcases bif_some hm with ⟨h18, hm⟩ | ⟨h18, hm⟩
     ·
      refine knownd [43, 42, 41] h18 (by kernel_rfl) (shd 25 [(68, aB true), (67, .undef), (66, .undef), (65, .undef), (64, .undef), (63, .undef), (62, .undef), (61, .undef), (60, .undef), (59, .undef), (58, .undef), (57, .undef), (56, aB true), (55, aB true), (54, .undef), (53, .undef), (52, .undef), (51, .undef), (50, .undef), (49, .undef), (48, .undef), (47, .undef), (46, .undef), (45, .undef), (44, .undef)] (by kernel_rfl) (find [(0, .pv (encSl R_tabularyref19_Bucket a0)), (1, .pv (encSl R_tabularyref19_Bucket a1)), (5, aI y6), (68, aB true)] rfl (by kernel_rfl) (by kernel_rfl) (cT (by kernel_rfl) (sq (detn [(4, aB false)] (by kernel_rfl) (wp_ret ?_))))))
      obtain rfl := Option.some.inj hm
      exact ⟨trivial, by kernel_rfl⟩
     ·
      refine knownd [43, 42, 41] h18 (by kernel_rfl) (shd 2 [(45, aI y6), (44, .pv (encSl R_tabularyref19_Bucket a0))] (by kernel_rfl) (dvd 46 (v := .pv (.ptr (R_tabularyref19_Bucket x9) 0)) (ia_slO R_tabularyref19_Bucket a0 .i64 t56 t80 h10 rfl (by kernel_rfl)) (by kernel_rfl) (shd 4 [(50, aI y6), (49, .pv (encSl R_tabularyref19_Bucket a1)), (48, aI x9.fCount), (47, .pv (.ptr (R_tabularyref19_Bucket x9) 8))] (by kernel_rfl) (dvd 51 (v := .pv (.ptr (R_tabularyref19_Bucket x11) 0)) (ia_slO R_tabularyref19_Bucket a1 .i64 t56 t80 h12 rfl (by kernel_rfl)) (by kernel_rfl) (shd 5 [(56, aB (x9.fCount != x11.fCount)), (55, aB (x9.fCount != x11.fCount)), (54, aB (x9.fCount != x11.fCount)), (53, aI x11.fCount), (52, .pv (.ptr (R_tabularyref19_Bucket x11) 8))] (by kernel_rfl) ?_)))))
      rcases bif_some hm with ⟨h19, hm⟩ | ⟨h19, hm⟩
      ·
       refine knownd [56, 55, 54] h19 (by kernel_rfl) (shd 12 [(68, aB true), (67, .undef), (66, .undef), (65, .undef), (64, .undef), (63, .undef), (62, .undef), (61, .undef), (60, .undef), (59, .undef), (58, .undef), (57, .undef)] (by kernel_rfl) (find [(0, .pv (encSl R_tabularyref19_Bucket a0)), (1, .pv (encSl R_tabularyref19_Bucket a1)), (5, aI y6), (68, aB true)] rfl (by kernel_rfl) (by kernel_rfl) (cT (by kernel_rfl) (sq (detn [(4, aB false)] (by kernel_rfl) (wp_ret ?_))))))
       obtain rfl := Option.some.inj hm
       exact ⟨trivial, by kernel_rfl⟩
      ·
       refine knownd [56, 55, 54] h19 (by kernel_rfl) (shd 2 [(58, aI y6), (57, .pv (encSl R_tabularyref19_Bucket a0))] (by kernel_rfl) (dvd 59 (v := .pv (.ptr (R_tabularyref19_Bucket x9) 0)) (ia_slO R_tabularyref19_Bucket a0 .i64 t56 t80 h10 rfl (by kernel_rfl)) (by kernel_rfl) (shd 4 [(63, aI y6), (62, .pv (encSl R_tabularyref19_Bucket a1)), (61, aI x9.fDistinct), (60, .pv (.ptr (R_tabularyref19_Bucket x9) 9))] (by kernel_rfl) (dvd 64 (v := .pv (.ptr (R_tabularyref19_Bucket x11) 0)) (ia_slO R_tabularyref19_Bucket a1 .i64 t56 t80 h12 rfl (by kernel_rfl)) (by kernel_rfl) (shd 4 [(68, aB (x9.fDistinct != x11.fDistinct)), (67, aB (x9.fDistinct != x11.fDistinct)), (66, aI x11.fDistinct), (65, .pv (.ptr (R_tabularyref19_Bucket x11) 9))] (by kernel_rfl) (find [(0, .pv (encSl R_tabularyref19_Bucket a0)), (1, .pv (encSl R_tabularyref19_Bucket a1)), (5, aI y6), (68, aB (x9.fDistinct != x11.fDistinct))] rfl (by kernel_rfl) (by kernel_rfl) ?_))))))
       rcases bif_some hm with ⟨h20, hm⟩ | ⟨h20, hm⟩
       ·
        refine ct h20 (by kernel_rfl) (sq (detn [(4, aB false)] (by kernel_rfl) (wp_ret ?_)))
        obtain rfl := Option.some.inj hm
        exact ⟨trivial, by kernel_rfl⟩
       ·
        refine cf h20 (by kernel_rfl) (wp_skip (detn [(0, .pv (encSl R_tabularyref19_Bucket a0)), (1, .pv (encSl R_tabularyref19_Bucket a1)), (5, aI (IntKind.wrap .i64 (y6 + 1)))] (by kernel_rfl) ?_))
        exact ⟨_, _, tidyL [(0, .pv (encSl R_tabularyref19_Bucket a0)), (1, .pv (encSl R_tabularyref19_Bucket a1)), (5, aI (IntKind.wrap .i64 (y6 + 1)))] [] (by kernel_rfl), ⟨(IntKind.wrap .i64 (y6 + 1)), hm, rfl, rfl⟩⟩
   ·
    refine cf h8 (by kernel_rfl) (wp_exit ?_)
    exact ⟨(decide (y6 < ((sll a0).length : Int))), y6, hm, rfl, rfl⟩
theorem run_law19_works : call G 3999999 30 [] [] = some (.ret (aB true), []) := by kernel_rfl
theorem ok_law19_works {n : Nat} {r : Bool} (hm : law19_works n = some r) :
    call G n 30 [] [] = some (.ret (aB r), []) := by
  unfold law19_works at hm
  have hn : n = 3999999 := by
    cases h : n == 3999999 with
    | true => exact eq_of_beq h
    | false => rw [h] at hm; cases hm
  subst hn
  have h2 : some true = some r := hm
  obtain rfl := Option.some.inj h2
  exact run_law19_works
theorem ok_law19_HistBuilds {n : Nat} {a0 : (Option (List api_Value))} {a1 : Int} {r : Bool} (hm : law19_HistBuilds n a0 a1 = some r) :
    call G n 5 [.pv (encSl R_api_Value a0), aI a1] [] = some (.ret (aB r), []) := by
  unfold law19_HistBuilds at hm
  obtain ⟨n, rfl, h0⟩ := at1_some hm
  replace hm := h0; clear h0
  refine callL 36 [(0, .pv (encSl R_api_Value a0)), (1, aI a1)] func5 rfl (by kernel_rfl) (sq (detn [(0, .pv (encSl R_api_Value a0)), (1, aI a1)] (by kernel_rfl) ?_))
  refine sq (sq (rg (sh 1 [(9, .pv (encSl R_api_Value a0))] (by kernel_rfl) (dv 10 (v := aI ((sll a0).length : Int)) (len_slO R_api_Value a0 t52 (by kernel_rfl)) (by kernel_rfl) (sh 1 [(11, aB (decide (((sll a0).length : Int) > 500)))] (by kernel_rfl) (fin [(0, .pv (encSl R_api_Value a0)), (1, aI a1), (11, aB (decide (((sll a0).length : Int) > 500)))] rfl (by kernel_rfl) ?_))))))
  rcases bif_some hm with ⟨h1, hm⟩ | ⟨h1, hm⟩
  ·
   refine ct h1 (by kernel_rfl) (sq (detn [(4, aB true)] (by kernel_rfl) (wp_ret ?_)))
   obtain rfl := Option.some.inj hm
   exact ⟨trivial, by kernel_rfl⟩
  ·
   refine cf h1 (by kernel_rfl) (wp_skip (sq (rg (sh 2 [(14, aI a1), (13, .pv (encSl R_api_Value a0))] (by kernel_rfl) ?_))))
   obtain ⟨x2, h3, hm⟩ := bs hm
   refine dv 15 (cpure (by kernel_rfl) (ok_hist_Build h3) (by kernel_rfl) (by kernel_rfl) (by kernel_rfl)) (by kernel_rfl) (sh 5 [(6, aI x2.2), (5, .pv (encSl R_hist_Bucket x2.1)), (17, aI x2.2), (16, .pv (encSl R_hist_Bucket x2.1)), (12, .tup [.pv (encSl R_hist_Bucket x2.1), aI x2.2])] (by kernel_rfl) (fin [(0, .pv (encSl R_api_Value a0)), (1, aI a1), (5, .pv (encSl R_hist_Bucket x2.1)), (6, aI x2.2)] rfl (by kernel_rfl) (sq (rg (sh 2 [(20, aI a1), (19, .pv (encSl R_api_Value a0))] (by kernel_rfl) ?_)))))
   obtain ⟨x4, h5, hm⟩ := bs hm
   refine dv 21 (cpure (by kernel_rfl) (ok_ref19_Build h5) (by kernel_rfl) (by kernel_rfl) (by kernel_rfl)) (by kernel_rfl) (sh 5 [(8, aI x4.2), (7, .pv (encSl R_tabularyref19_Bucket x4.1)), (23, aI x4.2), (22, .pv (encSl R_tabularyref19_Bucket x4.1)), (18, .tup [.pv (encSl R_tabularyref19_Bucket x4.1), aI x4.2])] (by kernel_rfl) (fin [(5, .pv (encSl R_hist_Bucket x2.1)), (6, aI x2.2), (7, .pv (encSl R_tabularyref19_Bucket x4.1)), (8, aI x4.2)] rfl (by kernel_rfl) (sq (rg (sh 1 [(24, .pv (encSl R_hist_Bucket x2.1))] (by kernel_rfl) ?_)))))
   obtain ⟨x6, h7, hm⟩ := bs hm
   refine dv 25 (cpure (by kernel_rfl) (ok_law19_Told h7) (by kernel_rfl) (by kernel_rfl) (by kernel_rfl)) (by kernel_rfl) (sh 1 [(26, .pv (encSl R_tabularyref19_Bucket x4.1))] (by kernel_rfl) ?_)
   obtain ⟨x8, h9, hm⟩ := bs hm
   refine dv 27 (cpure (by kernel_rfl) (ok_ref19_Same h9) (by kernel_rfl) (by kernel_rfl) (by kernel_rfl)) (by kernel_rfl) (sh 1 [(28, aB x8)] (by kernel_rfl) ?_)
   refine seg x8 [28, 27] (fun b => [(32, aB (b && (x2.2 == x4.2))), (31, ifA b (aB (x2.2 == x4.2)) (.undef)), (30, ifA b (aI x4.2) (.undef)), (29, ifA b (aI x2.2) (.undef))]) 9 (by kernel_rfl) ?_ ?_ ?_
   ·
    intro Q h
    refine sh 4 [(32, aB (x2.2 == x4.2)), (31, aB (x2.2 == x4.2)), (30, aI x4.2), (29, aI x2.2)] (by kernel_rfl) ?_
    exact sameN (by kernel_rfl) (by kernel_rfl) h
   ·
    intro Q h
    refine sh 4 [(32, aB false), (31, .undef), (30, .undef), (29, .undef)] (by kernel_rfl) ?_
    exact sameN (by kernel_rfl) (by kernel_rfl) h
   refine sh 1 [(33, aB (x8 && (x2.2 == x4.2)))] (by kernel_rfl) ?_
   rcases bif_some hm with ⟨h10, hm⟩ | ⟨h10, hm⟩
   ·
    refine known [33, 32] h10 (by kernel_rfl) ?_
    obtain ⟨x11, h12, hm⟩ := bs hm
    refine dv 34 (cpure (by kernel_rfl) (ok_law19_works h12) (by kernel_rfl) (by kernel_rfl) (by kernel_rfl)) (by kernel_rfl) (sh 2 [(4, aB x11), (35, aB x11)] (by kernel_rfl) (fin [(4, aB x11)] rfl (by kernel_rfl) (wp_ret ?_)))
    obtain rfl := Option.some.inj hm
    exact ⟨trivial, by kernel_rfl⟩
   ·
    refine known [33, 32] h10 (by kernel_rfl) (sh 3 [(4, aB false), (35, aB false), (34, .undef)] (by kernel_rfl) (fin [(4, aB false)] rfl (by kernel_rfl) (wp_ret ?_)))
    obtain rfl := Option.some.inj hm
    exact ⟨trivial, by kernel_rfl⟩
end Go.Ab.S1
