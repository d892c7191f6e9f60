import Derived.Test.YtjbhpopccbhhlaaS1
import Derived.Test.YtjbhpopccbhhlaaPA
namespace Go.Ab.S1
open Go Go.Ab Go.Pl
open Go.Proofs.Try
set_option linter.unusedVariables false
set_option linter.unusedSimpArgs false
set_option maxRecDepth 100000
theorem run_law20_works : call G 3999999 21 [] [] = some (.ret (aB true), []) := by kernel_rfl
theorem ok_law20_works {n : Nat} {r : Bool} (hm : law20_works n = some r) :
    call G n 21 [] [] = some (.ret (aB r), []) := by
  unfold law20_works at hm
  have hn : n = 3999999 := by
    cases h : n == 3999999 with
    | true => exact eq_of_beq h
    | false => rw [h] at hm; cases hm
  subst hn
  have h2 : some true = some r := hm
  obtain rfl := Option.some.inj h2
  exact run_law20_works
theorem ok_law19_Given {n : Nat} {a0 : (Option (List tabularyref19_Bucket))} {r : (Option (List hist_Bucket))} (hm : law19_Given n a0 = some r) :
    call G n 31 [.pv (encSl R_tabularyref19_Bucket a0)] [] = some (.ret (.pv (encSl R_hist_Bucket r)), []) := by
  unfold law19_Given at hm
  obtain ⟨n, rfl, h0⟩ := at1_some hm
  replace hm := h0; clear h0
  refine callL 18 [(0, .pv (encSl R_tabularyref19_Bucket a0))] func31 rfl (by kernel_rfl) (sq (detn [(0, .pv (encSl R_tabularyref19_Bucket a0))] (by kernel_rfl) (sq (detn [(0, .pv (encSl R_tabularyref19_Bucket a0)), (3, .pv .nils)] (by kernel_rfl) ?_))))
  obtain ⟨k4, hk4, hm⟩ := withK_some hm
  refine mid (fun t H => (∃ (w1 : AV) (w2 : AV), k4 none = some r ∧ t = mk 18 [(3, .pv .nils), (6, .pv (encSl R_tabularyref19_Bucket a0)), (7, aI ((sll a0).length : Int)), (8, w1), (9, w2)] ∧ H = []) ∨ (∃ (y3 : (List hist_Bucket)) (w1 : AV) (w2 : AV), k4 (some y3) = some r ∧ t = mk 18 [(3, aR 0 10 y3.length), (6, .pv (encSl R_tabularyref19_Bucket a0)), (7, aI ((sll a0).length : Int)), (8, w1), (9, w2)] ∧ H = [bR 77 10 R_hist_Bucket y3 0 0])) ?_ ?_
  ·
   rintro _ _ (⟨w1, w2, hm, rfl, rfl⟩ | ⟨y3, w1, w2, hm, rfl, rfl⟩)
   ·
    subst hk4
    refine sq (detn [(2, .pv .nils)] (by kernel_rfl) (wp_ret ?_))
    obtain rfl := Option.some.inj hm
    exact ⟨trivial, by kernel_rfl⟩
   ·
    subst hk4
    refine sq (detn [(2, aR 0 10 y3.length)] (by kernel_rfl) (wp_ret ?_))
    obtain rfl := Option.some.inj hm
    exact ret_pure (v := aR 0 10 y3.length) trivial rfl (by kernel_rfl) (pA_ref (pur_ref' (n := y3.length) (id := 0) (l := y3) (R := R_hist_Bucket) rfl rfl (Nat.zero_le _)))
  refine sq (rg (sh 1 [(6, .pv (encSl R_tabularyref19_Bucket a0))] (by kernel_rfl) (dv 7 (v := aI ((sll a0).length : Int)) (len_slO R_tabularyref19_Bucket a0 t56 (by kernel_rfl)) (by kernel_rfl) (sh 1 [(8, aI 0)] (by kernel_rfl) (fin [(3, .pv .nils), (6, .pv (encSl R_tabularyref19_Bucket a0)), (7, aI ((sll a0).length : Int)), (8, aI 0)] rfl (by kernel_rfl) (bq ?_))))))
  refine loopF (fun mm t H => (∃ (y9 : Int), law19_Given_l3 n a0 k4 mm none y9 = some r ∧ t = mk 18 [(3, .pv .nils), (6, .pv (encSl R_tabularyref19_Bucket a0)), (7, aI ((sll a0).length : Int)), (8, aI y9)] ∧ H = []) ∨ (∃ (y8 : (List hist_Bucket)) (y9 : Int), law19_Given_l3 n a0 k4 mm (some y8) y9 = some r ∧ t = mk 18 [(3, aR 0 10 y8.length), (6, .pv (encSl R_tabularyref19_Bucket a0)), (7, aI ((sll a0).length : Int)), (8, aI y9)] ∧ H = [bR 77 10 R_hist_Bucket y8 0 0])) (.inl ⟨0, hm, rfl, rfl⟩) ?_ ?_
  · rintro _ _ (⟨y9, hm, _⟩ | ⟨y8, y9, hm, _⟩) <;> exact nomatch hm
  rintro m10 _ _ (⟨y9, hm, rfl, rfl⟩ | ⟨y8, y9, hm, rfl, rfl⟩)
  ·
   simp only [law19_Given_l3] at hm
   refine sq (detn [(3, .pv .nils), (6, .pv (encSl R_tabularyref19_Bucket a0)), (7, aI ((sll a0).length : Int)), (8, aI y9), (9, aB (decide (y9 < ((sll a0).length : Int))))] (by kernel_rfl) ?_)
   refine sq ?_
   rcases bif_some hm with ⟨h11, hm⟩ | ⟨h11, hm⟩
   ·
    refine ct h11 (by kernel_rfl) (wp_skip (sq (bq (sq (rg ?_)))))
    obtain ⟨x12, h13, hm⟩ := bs hm
    refine dv 10 (v := .pv (.ptr (R_tabularyref19_Bucket x12) 0)) (ia_slO R_tabularyref19_Bucket a0 .i64 t56 t80 h13 rfl (by kernel_rfl)) (by kernel_rfl) (st 3 [(5, .ptr 0 0), (11, .agg [aI x12.fLow.fKind, aI x12.fLow.fInt, aF x12.fLow.fFloat, aS x12.fLow.fText, aI x12.fHigh.fKind, aI x12.fHigh.fInt, aF x12.fHigh.fFloat, aS x12.fHigh.fText, aI x12.fCount, aI x12.fDistinct])] [.box [aI x12.fLow.fKind, aI x12.fLow.fInt, aF x12.fLow.fFloat, aS x12.fLow.fText, aI x12.fHigh.fKind, aI x12.fHigh.fInt, aF x12.fHigh.fFloat, aS x12.fHigh.fText, aI x12.fCount, aI x12.fDistinct] false] (by kernel_rfl) (fin [(3, .pv .nils), (5, .ptr 0 0), (6, .pv (encSl R_tabularyref19_Bucket a0)), (7, aI ((sll a0).length : Int)), (8, aI y9)] rfl (by kernel_rfl) (rg (st 3 [(14, aR 1 10 1), (13, .agg [aI x12.fLow.fKind, aI x12.fLow.fInt, aF x12.fLow.fFloat, aS x12.fLow.fText, aI x12.fHigh.fKind, aI x12.fHigh.fInt, aF x12.fHigh.fFloat, aS x12.fHigh.fText, aI x12.fCount, aI x12.fDistinct]), (12, .pv .nils)] [.box [aI x12.fLow.fKind, aI x12.fLow.fInt, aF x12.fLow.fFloat, aS x12.fLow.fText, aI x12.fHigh.fKind, aI x12.fHigh.fInt, aF x12.fHigh.fFloat, aS x12.fHigh.fText, aI x12.fCount, aI x12.fDistinct] false, bR 77 10 R_hist_Bucket ([(hist_Bucket.mk x12.fLow x12.fHigh x12.fCount x12.fDistinct)] : List hist_Bucket) 0 0] (by kernel_rfl) ?_))))
    obtain ⟨_, h14, hm⟩ := bs hm
    refine dO [(15, aR 2 10 (([(hist_Bucket.mk x12.fLow x12.fHigh x12.fCount x12.fDistinct)] : List hist_Bucket).length))] [.box [aI x12.fLow.fKind, aI x12.fLow.fInt, aF x12.fLow.fFloat, aS x12.fLow.fText, aI x12.fHigh.fKind, aI x12.fHigh.fInt, aF x12.fHigh.fFloat, aS x12.fHigh.fText, aI x12.fCount, aI x12.fDistinct] false, bR 77 10 R_hist_Bucket ([(hist_Bucket.mk x12.fLow x12.fHigh x12.fCount x12.fDistinct)] : List hist_Bucket) 0 0, bR 77 10 R_hist_Bucket ([(hist_Bucket.mk x12.fLow x12.fHigh x12.fCount x12.fDistinct)] : List hist_Bucket) 0 0] (app_nilO (u := 0) R_hist_Bucket ([(hist_Bucket.mk x12.fLow x12.fHigh x12.fCount x12.fDistinct)] : List hist_Bucket) (b := 96) t53 t77 rfl rfl rfl (fun _ => rfl) rfl h14 (show srcRows (aR 1 10 1) _ = some (([(hist_Bucket.mk x12.fLow x12.fHigh x12.fCount x12.fDistinct)] : List hist_Bucket).map R_hist_Bucket) from by kernel_rfl) (by kernel_rfl)) (by kernel_rfl) (sh 1 [(3, aR 2 10 (([(hist_Bucket.mk x12.fLow x12.fHigh x12.fCount x12.fDistinct)] : List hist_Bucket).length))] (by kernel_rfl) (fin [(3, aR 2 10 (([(hist_Bucket.mk x12.fLow x12.fHigh x12.fCount x12.fDistinct)] : List hist_Bucket).length)), (6, .pv (encSl R_tabularyref19_Bucket a0)), (7, aI ((sll a0).length : Int)), (8, aI y9)] rfl (by kernel_rfl) (detn [(3, aR 2 10 (([(hist_Bucket.mk x12.fLow x12.fHigh x12.fCount x12.fDistinct)] : List hist_Bucket).length)), (6, .pv (encSl R_tabularyref19_Bucket a0)), (7, aI ((sll a0).length : Int)), (8, aI (IntKind.wrap .i64 (y9 + 1)))] (by kernel_rfl) ?_)))
    exact ⟨_, _, tidyL [(3, aR 0 10 (([(hist_Bucket.mk x12.fLow x12.fHigh x12.fCount x12.fDistinct)] : List hist_Bucket).length)), (6, .pv (encSl R_tabularyref19_Bucket a0)), (7, aI ((sll a0).length : Int)), (8, aI (IntKind.wrap .i64 (y9 + 1)))] [bR 77 10 R_hist_Bucket ([(hist_Bucket.mk x12.fLow x12.fHigh x12.fCount x12.fDistinct)] : List hist_Bucket) 0 0] (by kernel_rfl), .inr (⟨([(hist_Bucket.mk x12.fLow x12.fHigh x12.fCount x12.fDistinct)] : List hist_Bucket), (IntKind.wrap .i64 (y9 + 1)), hm, rfl, rfl⟩)⟩
   ·
    refine cf h11 (by kernel_rfl) (wp_exit ?_)
    exact .inl ⟨aI y9, aB (decide (y9 < ((sll a0).length : Int))), hm, (mk_same (by kernel_rfl)), rfl⟩
  ·
   simp only [law19_Given_l3] at hm
   refine sq (detn [(3, aR 0 10 y8.length), (6, .pv (encSl R_tabularyref19_Bucket a0)), (7, aI ((sll a0).length : Int)), (8, aI y9), (9, aB (decide (y9 < ((sll a0).length : Int))))] (by kernel_rfl) ?_)
   refine sq ?_
   rcases bif_some hm with ⟨h15, hm⟩ | ⟨h15, hm⟩
   ·
    refine ct h15 (by kernel_rfl) (wp_skip (sq (bq (sq (rg ?_)))))
    obtain ⟨x16, h17, hm⟩ := bs hm
    refine dv 10 (v := .pv (.ptr (R_tabularyref19_Bucket x16) 0)) (ia_slO R_tabularyref19_Bucket a0 .i64 t56 t80 h17 rfl (by kernel_rfl)) (by kernel_rfl) (st 3 [(5, .ptr 1 0), (11, .agg [aI x16.fLow.fKind, aI x16.fLow.fInt, aF x16.fLow.fFloat, aS x16.fLow.fText, aI x16.fHigh.fKind, aI x16.fHigh.fInt, aF x16.fHigh.fFloat, aS x16.fHigh.fText, aI x16.fCount, aI x16.fDistinct])] [bR 77 10 R_hist_Bucket y8 0 0, .box [aI x16.fLow.fKind, aI x16.fLow.fInt, aF x16.fLow.fFloat, aS x16.fLow.fText, aI x16.fHigh.fKind, aI x16.fHigh.fInt, aF x16.fHigh.fFloat, aS x16.fHigh.fText, aI x16.fCount, aI x16.fDistinct] false] (by kernel_rfl) (fin [(3, aR 0 10 y8.length), (5, .ptr 1 0), (6, .pv (encSl R_tabularyref19_Bucket a0)), (7, aI ((sll a0).length : Int)), (8, aI y9)] rfl (by kernel_rfl) (rg (st 3 [(14, aR 2 10 1), (13, .agg [aI x16.fLow.fKind, aI x16.fLow.fInt, aF x16.fLow.fFloat, aS x16.fLow.fText, aI x16.fHigh.fKind, aI x16.fHigh.fInt, aF x16.fHigh.fFloat, aS x16.fHigh.fText, aI x16.fCount, aI x16.fDistinct]), (12, aR 0 10 y8.length)] [bR 77 10 R_hist_Bucket y8 0 0, .box [aI x16.fLow.fKind, aI x16.fLow.fInt, aF x16.fLow.fFloat, aS x16.fLow.fText, aI x16.fHigh.fKind, aI x16.fHigh.fInt, aF x16.fHigh.fFloat, aS x16.fHigh.fText, aI x16.fCount, aI x16.fDistinct] false, bR 77 10 R_hist_Bucket ([(hist_Bucket.mk x16.fLow x16.fHigh x16.fCount x16.fDistinct)] : List hist_Bucket) 0 0] (by kernel_rfl) ?_))))
    obtain ⟨_, h18, hm⟩ := bs hm
    refine dO [(15, aR 0 10 ((y8 ++ ([(hist_Bucket.mk x16.fLow x16.fHigh x16.fCount x16.fDistinct)] : List hist_Bucket)).length))] [bR 77 10 R_hist_Bucket (y8 ++ ([(hist_Bucket.mk x16.fLow x16.fHigh x16.fCount x16.fDistinct)] : List hist_Bucket)) 0 0, .box [aI x16.fLow.fKind, aI x16.fLow.fInt, aF x16.fLow.fFloat, aS x16.fLow.fText, aI x16.fHigh.fKind, aI x16.fHigh.fInt, aF x16.fHigh.fFloat, aS x16.fHigh.fText, aI x16.fCount, aI x16.fDistinct] false, bR 77 10 R_hist_Bucket ([(hist_Bucket.mk x16.fLow x16.fHigh x16.fCount x16.fDistinct)] : List hist_Bucket) 0 0] (app_refO (u := 0) (n := y8.length) (id := 0) R_hist_Bucket y8 ([(hist_Bucket.mk x16.fLow x16.fHigh x16.fCount x16.fDistinct)] : List hist_Bucket) (b := 96) t53 t77 rfl rfl rfl (fun _ => rfl) rfl h18 rfl rfl (Nat.zero_le _) (show srcRows (aR 2 10 1) _ = some (([(hist_Bucket.mk x16.fLow x16.fHigh x16.fCount x16.fDistinct)] : List hist_Bucket).map R_hist_Bucket) from by kernel_rfl) (by kernel_rfl)) (by kernel_rfl) (sh 1 [(3, aR 0 10 ((y8 ++ ([(hist_Bucket.mk x16.fLow x16.fHigh x16.fCount x16.fDistinct)] : List hist_Bucket)).length))] (by kernel_rfl) (fin [(3, aR 0 10 ((y8 ++ ([(hist_Bucket.mk x16.fLow x16.fHigh x16.fCount x16.fDistinct)] : List hist_Bucket)).length)), (6, .pv (encSl R_tabularyref19_Bucket a0)), (7, aI ((sll a0).length : Int)), (8, aI y9)] rfl (by kernel_rfl) (detn [(3, aR 0 10 ((y8 ++ ([(hist_Bucket.mk x16.fLow x16.fHigh x16.fCount x16.fDistinct)] : List hist_Bucket)).length)), (6, .pv (encSl R_tabularyref19_Bucket a0)), (7, aI ((sll a0).length : Int)), (8, aI (IntKind.wrap .i64 (y9 + 1)))] (by kernel_rfl) ?_)))
    exact ⟨_, _, tidyL [(3, aR 0 10 ((y8 ++ ([(hist_Bucket.mk x16.fLow x16.fHigh x16.fCount x16.fDistinct)] : List hist_Bucket)).length)), (6, .pv (encSl R_tabularyref19_Bucket a0)), (7, aI ((sll a0).length : Int)), (8, aI (IntKind.wrap .i64 (y9 + 1)))] [bR 77 10 R_hist_Bucket (y8 ++ ([(hist_Bucket.mk x16.fLow x16.fHigh x16.fCount x16.fDistinct)] : List hist_Bucket)) 0 0] (by kernel_rfl), .inr (⟨(y8 ++ ([(hist_Bucket.mk x16.fLow x16.fHigh x16.fCount x16.fDistinct)] : List hist_Bucket)), (IntKind.wrap .i64 (y9 + 1)), hm, rfl, rfl⟩)⟩
   ·
    refine cf h15 (by kernel_rfl) (wp_exit ?_)
    exact .inr (⟨y8, aI y9, aB (decide (y9 < ((sll a0).length : Int))), hm, (mk_same (by kernel_rfl)), rfl⟩)
theorem ok_law20_Given {n : Nat} {a0 : tabularyref20_Stat} {r : stat_Stat} (hm : law20_Given n a0 = some r) :
    call G n 11 [.agg [aI a0.fRows, .pv (encSl R_tabularyref20_Col a0.fCols)]] [] = some (.ret (.agg [aI r.fRows, .pv (encSl R_stat_Col r.fCols)]), []) := by
  unfold law20_Given at hm
  obtain ⟨n, rfl, h0⟩ := at1_some hm
  replace hm := h0; clear h0
  refine callL 40 [(0, .agg [aI a0.fRows, .pv (encSl R_tabularyref20_Col a0.fCols)])] func11 rfl (by kernel_rfl) (sq (det [(1, .ptr 0 0), (2, .ptr 1 0)] [.box [aI a0.fRows, .pv (encSl R_tabularyref20_Col a0.fCols)] false, .box [aI 0, .pv .nils] false] (by kernel_rfl) (sq (det [(1, .ptr 0 0), (2, .ptr 1 0), (3, .ptr 2 0)] [.box [aI a0.fRows, .pv (encSl R_tabularyref20_Col a0.fCols)] false, .box [aI 0, .pv .nils] false, .box [aI a0.fRows, .pv .nils] false] (by kernel_rfl) ?_))))
  obtain ⟨k4, hk4, hm⟩ := withK_some hm
  refine mid (fun t H => (∃ (w1 : AV) (w2 : AV), k4 none = some r ∧ t = mk 40 [(2, .ptr 1 0), (3, .ptr 2 0), (10, .pv (encSl R_tabularyref20_Col a0.fCols)), (11, aI ((sll a0.fCols).length : Int)), (12, w1), (13, w2)] ∧ H = [.box [aI a0.fRows, .pv (encSl R_tabularyref20_Col a0.fCols)] false, .box [aI 0, .pv .nils] false, .box [aI a0.fRows, .pv .nils] false]) ∨ (∃ (y3 : (List stat_Col)) (w1 : AV) (w2 : AV), k4 (some y3) = some r ∧ t = mk 40 [(2, .ptr 1 0), (3, .ptr 2 0), (10, .pv (encSl R_tabularyref20_Col a0.fCols)), (11, aI ((sll a0.fCols).length : Int)), (12, w1), (13, w2)] ∧ H = [.box [aI a0.fRows, .pv (encSl R_tabularyref20_Col a0.fCols)] false, .box [aI 0, .pv .nils] false, .box [aI a0.fRows, aR 3 69 y3.length] false, bR 91 69 R_stat_Col y3 0 0])) ?_ ?_
  ·
   rintro _ _ (⟨w1, w2, hm, rfl, rfl⟩ | ⟨y3, w1, w2, hm, rfl, rfl⟩)
   ·
    subst hk4
    refine sq (det [(2, .ptr 1 0)] [.box [aI a0.fRows, .pv (encSl R_tabularyref20_Col a0.fCols)] false, .box [aI a0.fRows, .pv .nils] false, .box [aI a0.fRows, .pv .nils] false] (by kernel_rfl) (wp_ret ?_))
    obtain rfl := Option.some.inj hm
    exact ⟨trivial, by kernel_rfl⟩
   ·
    subst hk4
    refine sq (det [(2, .ptr 1 0)] [.box [aI a0.fRows, .pv (encSl R_tabularyref20_Col a0.fCols)] false, .box [aI a0.fRows, aR 3 69 y3.length] false, .box [aI a0.fRows, aR 3 69 y3.length] false, bR 91 69 R_stat_Col y3 0 0] (by kernel_rfl) (wp_ret ?_))
    obtain rfl := Option.some.inj hm
    exact ret_pure (v := .agg [aI a0.fRows, aR 3 69 y3.length]) trivial rfl (by kernel_rfl) (pR_agg (purL_cons (pur_pv) (purL_cons (pur_ref' (n := y3.length) (id := 3) (l := y3) (R := R_stat_Col) rfl rfl (Nat.zero_le _)) (rfl))) (by kernel_rfl))
  refine sq (rg (sh 2 [(10, .pv (encSl R_tabularyref20_Col a0.fCols)), (9, .ptr 0 1)] (by kernel_rfl) (dv 11 (v := aI ((sll a0.fCols).length : Int)) (len_slO R_tabularyref20_Col a0.fCols t22 (by kernel_rfl)) (by kernel_rfl) (sh 1 [(12, aI 0)] (by kernel_rfl) (fin [(2, .ptr 1 0), (3, .ptr 2 0), (10, .pv (encSl R_tabularyref20_Col a0.fCols)), (11, aI ((sll a0.fCols).length : Int)), (12, aI 0)] rfl (by kernel_rfl) (bq ?_))))))
  refine loopF (fun mm t H => (∃ (y9 : Int), law20_Given_l3 n a0 k4 mm none y9 = some r ∧ t = mk 40 [(2, .ptr 1 0), (3, .ptr 2 0), (10, .pv (encSl R_tabularyref20_Col a0.fCols)), (11, aI ((sll a0.fCols).length : Int)), (12, aI y9)] ∧ H = [.box [aI a0.fRows, .pv (encSl R_tabularyref20_Col a0.fCols)] false, .box [aI 0, .pv .nils] false, .box [aI a0.fRows, .pv .nils] false]) ∨ (∃ (y8 : (List stat_Col)) (y9 : Int), law20_Given_l3 n a0 k4 mm (some y8) y9 = some r ∧ t = mk 40 [(2, .ptr 1 0), (3, .ptr 2 0), (10, .pv (encSl R_tabularyref20_Col a0.fCols)), (11, aI ((sll a0.fCols).length : Int)), (12, aI y9)] ∧ H = [.box [aI a0.fRows, .pv (encSl R_tabularyref20_Col a0.fCols)] false, .box [aI 0, .pv .nils] false, .box [aI a0.fRows, aR 3 69 y8.length] false, bR 91 69 R_stat_Col y8 0 0])) (.inl ⟨0, hm, rfl, rfl⟩) ?_ ?_
  · rintro _ _ (⟨y9, hm, _⟩ | ⟨y8, y9, hm, _⟩) <;> exact nomatch hm
  rintro m10 _ _ (⟨y9, hm, rfl, rfl⟩ | ⟨y8, y9, hm, rfl, rfl⟩)
  ·
   simp only [law20_Given_l3] at hm
   refine sq (detn [(2, .ptr 1 0), (3, .ptr 2 0), (10, .pv (encSl R_tabularyref20_Col a0.fCols)), (11, aI ((sll a0.fCols).length : Int)), (12, aI y9), (13, aB (decide (y9 < ((sll a0.fCols).length : Int))))] (by kernel_rfl) ?_)
   refine sq ?_
   rcases bif_some hm with ⟨h11, hm⟩ | ⟨h11, hm⟩
   ·
    refine ct h11 (by kernel_rfl) (wp_skip (sq (bq (sq (rg ?_)))))
    obtain ⟨x12, h13, hm⟩ := bs hm
    refine dv 14 (v := .pv (.ptr (R_tabularyref20_Col x12) 0)) (ia_slO R_tabularyref20_Col a0.fCols .i64 t22 t87 h13 rfl (by kernel_rfl)) (by kernel_rfl) (st 3 [(5, .ptr 3 0), (15, .agg ([aI x12.fKind, aI x12.fNulls, aI x12.fDistinct, .pv (encSl R_tabularyref19_Bucket x12.fHist), .pv (encSl R_api_Value x12.fSample)] ++ (aA .u8 64 x12.fSketch)))] [.box [aI a0.fRows, .pv (encSl R_tabularyref20_Col a0.fCols)] false, .box [aI 0, .pv .nils] false, .box [aI a0.fRows, .pv .nils] false, .box ([aI x12.fKind, aI x12.fNulls, aI x12.fDistinct, .pv (encSl R_tabularyref19_Bucket x12.fHist), .pv (encSl R_api_Value x12.fSample)] ++ (aA .u8 64 x12.fSketch)) false] (by kernel_rfl) (fin [(2, .ptr 1 0), (3, .ptr 2 0), (5, .ptr 3 0), (10, .pv (encSl R_tabularyref20_Col a0.fCols)), (11, aI ((sll a0.fCols).length : Int)), (12, aI y9)] rfl (by kernel_rfl) (rgd (shd 10 [(25, .pv (encSl R_tabularyref19_Bucket x12.fHist)), (24, .ptr 3 3), (23, aI x12.fDistinct), (22, .ptr 3 2), (21, aI x12.fNulls), (20, .ptr 3 1), (19, aI x12.fKind), (18, .ptr 3 0), (17, .pv .nils), (16, .ptr 2 1)] (by kernel_rfl) ?_))))
    obtain ⟨x14, h15, hm⟩ := bs hm
    refine dvd 26 (cpure (by kernel_rfl) (ok_law19_Given h15) (by kernel_rfl) (by kernel_rfl) (by kernel_rfl)) (by kernel_rfl) (std 3 [(29, .pv (encSl R_api_Value x12.fSample)), (28, .ptr 3 4), (27, aR 4 4 0)] [.box [aI a0.fRows, .pv (encSl R_tabularyref20_Col a0.fCols)] false, .box [aI 0, .pv .nils] false, .box [aI a0.fRows, .pv .nils] false, .box ([aI x12.fKind, aI x12.fNulls, aI x12.fDistinct, .pv (encSl R_tabularyref19_Bucket x12.fHist), .pv (encSl R_api_Value x12.fSample)] ++ (aA .u8 64 x12.fSketch)) false, bR 64 4 R_api_Value ([] : List api_Value) 0 0] (by kernel_rfl) ?_)
    rcases bif_some hm with ⟨h16, hm⟩ | ⟨h16, hm⟩
    ·
     obtain ⟨_, h17, hm⟩ := bs hm
     refine dvd 30 (v := aR 4 4 0) (app_ref0O (u := 0) (y := .pv (encSl R_api_Value x12.fSample)) (n := 0) (id := 4) R_api_Value ([] : List api_Value) (sll x12.fSample) (b := 40) t52 t64 rfl rfl rfl h16 h17 rfl (by first | rfl | assumption | omega | (simp only [List.length_set, List.length_append, List.length_cons, List.length_nil, List.length_replicate, List.length_drop] at * <;> omega)) (Nat.zero_le _) (src_sl (R := R_api_Value) (s := x12.fSample)) (by kernel_rfl)) (by kernel_rfl) (shd 4 [(34, .agg ([aI x12.fKind, aI x12.fNulls, aI x12.fDistinct, .pv (encSl R_hist_Bucket x14), aR 4 4 0] ++ (aA .u8 64 x12.fSketch))), (33, .agg (aA .u8 64 x12.fSketch)), (32, .agg (aA .u8 64 x12.fSketch)), (31, .ptr 3 5)] (by kernel_rfl) (dOd [(35, aR 5 69 1)] [.box [aI a0.fRows, .pv (encSl R_tabularyref20_Col a0.fCols)] false, .box [aI 0, .pv .nils] false, .box [aI a0.fRows, .pv .nils] false, .box ([aI x12.fKind, aI x12.fNulls, aI x12.fDistinct, .pv (encSl R_tabularyref19_Bucket x12.fHist), .pv (encSl R_api_Value x12.fSample)] ++ (aA .u8 64 x12.fSketch)) false, bR 64 4 R_api_Value ([] : List api_Value) 0 (max 0 (([] : List api_Value).map R_api_Value).length), bR 91 69 R_stat_Col ([(stat_Col.mk x12.fKind x12.fNulls x12.fDistinct x14 (some ([] : List api_Value)) (hll_Sketch.mk x12.fSketch))] : List stat_Col) 0 0] (led_purO (nid := 0) (t := 29) (len := 1) (is := [0]) (vs := [.agg ([aI x12.fKind, aI x12.fNulls, aI x12.fDistinct, .pv (encSl R_hist_Bucket x14), aR 4 4 0] ++ (aA .u8 64 x12.fSketch))]) (ps := [.agg ([aI x12.fKind, aI x12.fNulls, aI x12.fDistinct, .pv (encSl R_hist_Bucket x14), .pv (.sl (([] : List api_Value).map R_api_Value))] ++ (aA .u8 64 x12.fSketch))]) (R := [4]) (e := ⟨aR 5 69 1, [], [bR 91 69 R_stat_Col ([(stat_Col.mk x12.fKind x12.fNulls x12.fDistinct x14 (some ([] : List api_Value)) (hll_Sketch.mk x12.fSketch))] : List stat_Col) 0 0]⟩) (by kernel_rfl) (by kernel_rfl) (by kernel_rfl) (by kernel_rfl)) (by kernel_rfl) ?_))
     obtain ⟨_, h18, hm⟩ := bs hm
     refine dOd [(36, aR 6 69 (([(stat_Col.mk x12.fKind x12.fNulls x12.fDistinct x14 (some ([] : List api_Value)) (hll_Sketch.mk x12.fSketch))] : List stat_Col).length))] [.box [aI a0.fRows, .pv (encSl R_tabularyref20_Col a0.fCols)] false, .box [aI 0, .pv .nils] false, .box [aI a0.fRows, .pv .nils] false, .box ([aI x12.fKind, aI x12.fNulls, aI x12.fDistinct, .pv (encSl R_tabularyref19_Bucket x12.fHist), .pv (encSl R_api_Value x12.fSample)] ++ (aA .u8 64 x12.fSketch)) false, bR 64 4 R_api_Value ([] : List api_Value) 0 (max 0 (([] : List api_Value).map R_api_Value).length), bR 91 69 R_stat_Col ([(stat_Col.mk x12.fKind x12.fNulls x12.fDistinct x14 (some ([] : List api_Value)) (hll_Sketch.mk x12.fSketch))] : List stat_Col) 0 0, bR 91 69 R_stat_Col ([(stat_Col.mk x12.fKind x12.fNulls x12.fDistinct x14 (some ([] : List api_Value)) (hll_Sketch.mk x12.fSketch))] : List stat_Col) 0 0] (app_nilO (u := 0) R_stat_Col ([(stat_Col.mk x12.fKind x12.fNulls x12.fDistinct x14 (some ([] : List api_Value)) (hll_Sketch.mk x12.fSketch))] : List stat_Col) (b := 136) t29 t91 rfl rfl rfl (fun _ => rfl) rfl h18 (show srcRows (aR 5 69 1) _ = some (([(stat_Col.mk x12.fKind x12.fNulls x12.fDistinct x14 (some ([] : List api_Value)) (hll_Sketch.mk x12.fSketch))] : List stat_Col).map R_stat_Col) from by kernel_rfl) (by kernel_rfl)) (by kernel_rfl) (std 2 [(37, .ptr 2 1)] [.box [aI a0.fRows, .pv (encSl R_tabularyref20_Col a0.fCols)] false, .box [aI 0, .pv .nils] false, .box [aI a0.fRows, aR 6 69 (([(stat_Col.mk x12.fKind x12.fNulls x12.fDistinct x14 (some ([] : List api_Value)) (hll_Sketch.mk x12.fSketch))] : List stat_Col).length)] false, .box ([aI x12.fKind, aI x12.fNulls, aI x12.fDistinct, .pv (encSl R_tabularyref19_Bucket x12.fHist), .pv (encSl R_api_Value x12.fSample)] ++ (aA .u8 64 x12.fSketch)) false, bR 64 4 R_api_Value ([] : List api_Value) 0 (max 0 (([] : List api_Value).map R_api_Value).length), bR 91 69 R_stat_Col ([(stat_Col.mk x12.fKind x12.fNulls x12.fDistinct x14 (some ([] : List api_Value)) (hll_Sketch.mk x12.fSketch))] : List stat_Col) 0 0, bR 91 69 R_stat_Col ([(stat_Col.mk x12.fKind x12.fNulls x12.fDistinct x14 (some ([] : List api_Value)) (hll_Sketch.mk x12.fSketch))] : List stat_Col) 0 0] (by kernel_rfl) (find [(2, .ptr 1 0), (3, .ptr 2 0), (10, .pv (encSl R_tabularyref20_Col a0.fCols)), (11, aI ((sll a0.fCols).length : Int)), (12, aI y9)] rfl (by kernel_rfl) (by kernel_rfl) (detn [(2, .ptr 1 0), (3, .ptr 2 0), (10, .pv (encSl R_tabularyref20_Col a0.fCols)), (11, aI ((sll a0.fCols).length : Int)), (12, aI (IntKind.wrap .i64 (y9 + 1)))] (by kernel_rfl) ?_)))
     exact ⟨_, _, tidyL [(2, .ptr 1 0), (3, .ptr 2 0), (10, .pv (encSl R_tabularyref20_Col a0.fCols)), (11, aI ((sll a0.fCols).length : Int)), (12, aI (IntKind.wrap .i64 (y9 + 1)))] [.box [aI a0.fRows, .pv (encSl R_tabularyref20_Col a0.fCols)] false, .box [aI 0, .pv .nils] false, .box [aI a0.fRows, aR 3 69 (([(stat_Col.mk x12.fKind x12.fNulls x12.fDistinct x14 (some ([] : List api_Value)) (hll_Sketch.mk x12.fSketch))] : List stat_Col).length)] false, bR 91 69 R_stat_Col ([(stat_Col.mk x12.fKind x12.fNulls x12.fDistinct x14 (some ([] : List api_Value)) (hll_Sketch.mk x12.fSketch))] : List stat_Col) 0 0] (by kernel_rfl), .inr (⟨([(stat_Col.mk x12.fKind x12.fNulls x12.fDistinct x14 (some ([] : List api_Value)) (hll_Sketch.mk x12.fSketch))] : List stat_Col), (IntKind.wrap .i64 (y9 + 1)), hm, rfl, rfl⟩)⟩
    ·
     obtain ⟨_, h19, hm⟩ := bs hm
     refine dOd [(30, aR 4 4 ((([] : List api_Value) ++ (sll x12.fSample)).length))] [.box [aI a0.fRows, .pv (encSl R_tabularyref20_Col a0.fCols)] false, .box [aI 0, .pv .nils] false, .box [aI a0.fRows, .pv .nils] false, .box ([aI x12.fKind, aI x12.fNulls, aI x12.fDistinct, .pv (encSl R_tabularyref19_Bucket x12.fHist), .pv (encSl R_api_Value x12.fSample)] ++ (aA .u8 64 x12.fSketch)) false, bR 64 4 R_api_Value (([] : List api_Value) ++ (sll x12.fSample)) 0 0] (app_refO (u := 0) (n := 0) (id := 4) R_api_Value ([] : List api_Value) (sll x12.fSample) (b := 40) t52 t64 rfl rfl rfl (fun _ => rfl) h16 h19 rfl (by first | rfl | assumption | omega | (simp only [List.length_set, List.length_append, List.length_cons, List.length_nil, List.length_replicate, List.length_drop] at * <;> omega)) (Nat.zero_le _) (src_sl (R := R_api_Value) (s := x12.fSample)) (by kernel_rfl)) (by kernel_rfl) (shd 4 [(34, .agg ([aI x12.fKind, aI x12.fNulls, aI x12.fDistinct, .pv (encSl R_hist_Bucket x14), aR 4 4 ((([] : List api_Value) ++ (sll x12.fSample)).length)] ++ (aA .u8 64 x12.fSketch))), (33, .agg (aA .u8 64 x12.fSketch)), (32, .agg (aA .u8 64 x12.fSketch)), (31, .ptr 3 5)] (by kernel_rfl) (dOd [(35, aR 5 69 1)] [.box [aI a0.fRows, .pv (encSl R_tabularyref20_Col a0.fCols)] false, .box [aI 0, .pv .nils] false, .box [aI a0.fRows, .pv .nils] false, .box ([aI x12.fKind, aI x12.fNulls, aI x12.fDistinct, .pv (encSl R_tabularyref19_Bucket x12.fHist), .pv (encSl R_api_Value x12.fSample)] ++ (aA .u8 64 x12.fSketch)) false, bR 64 4 R_api_Value (([] : List api_Value) ++ (sll x12.fSample)) 0 (max 0 ((([] : List api_Value) ++ (sll x12.fSample)).map R_api_Value).length), bR 91 69 R_stat_Col ([(stat_Col.mk x12.fKind x12.fNulls x12.fDistinct x14 (some (([] : List api_Value) ++ (sll x12.fSample))) (hll_Sketch.mk x12.fSketch))] : List stat_Col) 0 0] (led_purO (nid := 0) (t := 29) (len := 1) (is := [0]) (vs := [.agg ([aI x12.fKind, aI x12.fNulls, aI x12.fDistinct, .pv (encSl R_hist_Bucket x14), aR 4 4 ((([] : List api_Value) ++ (sll x12.fSample)).length)] ++ (aA .u8 64 x12.fSketch))]) (ps := [.agg ([aI x12.fKind, aI x12.fNulls, aI x12.fDistinct, .pv (encSl R_hist_Bucket x14), .pv (.sl ((([] : List api_Value) ++ (sll x12.fSample)).map R_api_Value))] ++ (aA .u8 64 x12.fSketch))]) (R := [4]) (e := ⟨aR 5 69 1, [], [bR 91 69 R_stat_Col ([(stat_Col.mk x12.fKind x12.fNulls x12.fDistinct x14 (some (([] : List api_Value) ++ (sll x12.fSample))) (hll_Sketch.mk x12.fSketch))] : List stat_Col) 0 0]⟩) (by kernel_rfl) (pAs_cons (pA_agg (purL_cons (pur_pv) (purL_cons (pur_pv) (purL_cons (pur_pv) (purL_cons (pur_pv) (purL_cons (pur_ref' (n := (([] : List api_Value) ++ (sll x12.fSample)).length) (id := 4) (l := (([] : List api_Value) ++ (sll x12.fSample))) (R := R_api_Value) rfl rfl (Nat.zero_le _)) (purL_arr0))))))) (rfl)) (by kernel_rfl) (by kernel_rfl)) (by kernel_rfl) ?_))
     obtain ⟨_, h20, hm⟩ := bs hm
     refine dOd [(36, aR 6 69 (([(stat_Col.mk x12.fKind x12.fNulls x12.fDistinct x14 (some (([] : List api_Value) ++ (sll x12.fSample))) (hll_Sketch.mk x12.fSketch))] : List stat_Col).length))] [.box [aI a0.fRows, .pv (encSl R_tabularyref20_Col a0.fCols)] false, .box [aI 0, .pv .nils] false, .box [aI a0.fRows, .pv .nils] false, .box ([aI x12.fKind, aI x12.fNulls, aI x12.fDistinct, .pv (encSl R_tabularyref19_Bucket x12.fHist), .pv (encSl R_api_Value x12.fSample)] ++ (aA .u8 64 x12.fSketch)) false, bR 64 4 R_api_Value (([] : List api_Value) ++ (sll x12.fSample)) 0 (max 0 ((([] : List api_Value) ++ (sll x12.fSample)).map R_api_Value).length), bR 91 69 R_stat_Col ([(stat_Col.mk x12.fKind x12.fNulls x12.fDistinct x14 (some (([] : List api_Value) ++ (sll x12.fSample))) (hll_Sketch.mk x12.fSketch))] : List stat_Col) 0 0, bR 91 69 R_stat_Col ([(stat_Col.mk x12.fKind x12.fNulls x12.fDistinct x14 (some (([] : List api_Value) ++ (sll x12.fSample))) (hll_Sketch.mk x12.fSketch))] : List stat_Col) 0 0] (app_nilO (u := 0) R_stat_Col ([(stat_Col.mk x12.fKind x12.fNulls x12.fDistinct x14 (some (([] : List api_Value) ++ (sll x12.fSample))) (hll_Sketch.mk x12.fSketch))] : List stat_Col) (b := 136) t29 t91 rfl rfl rfl (fun _ => rfl) rfl h20 (show srcRows (aR 5 69 1) _ = some (([(stat_Col.mk x12.fKind x12.fNulls x12.fDistinct x14 (some (([] : List api_Value) ++ (sll x12.fSample))) (hll_Sketch.mk x12.fSketch))] : List stat_Col).map R_stat_Col) from by kernel_rfl) (by kernel_rfl)) (by kernel_rfl) (std 2 [(37, .ptr 2 1)] [.box [aI a0.fRows, .pv (encSl R_tabularyref20_Col a0.fCols)] false, .box [aI 0, .pv .nils] false, .box [aI a0.fRows, aR 6 69 (([(stat_Col.mk x12.fKind x12.fNulls x12.fDistinct x14 (some (([] : List api_Value) ++ (sll x12.fSample))) (hll_Sketch.mk x12.fSketch))] : List stat_Col).length)] false, .box ([aI x12.fKind, aI x12.fNulls, aI x12.fDistinct, .pv (encSl R_tabularyref19_Bucket x12.fHist), .pv (encSl R_api_Value x12.fSample)] ++ (aA .u8 64 x12.fSketch)) false, bR 64 4 R_api_Value (([] : List api_Value) ++ (sll x12.fSample)) 0 (max 0 ((([] : List api_Value) ++ (sll x12.fSample)).map R_api_Value).length), bR 91 69 R_stat_Col ([(stat_Col.mk x12.fKind x12.fNulls x12.fDistinct x14 (some (([] : List api_Value) ++ (sll x12.fSample))) (hll_Sketch.mk x12.fSketch))] : List stat_Col) 0 0, bR 91 69 R_stat_Col ([(stat_Col.mk x12.fKind x12.fNulls x12.fDistinct x14 (some (([] : List api_Value) ++ (sll x12.fSample))) (hll_Sketch.mk x12.fSketch))] : List stat_Col) 0 0] (by kernel_rfl) (find [(2, .ptr 1 0), (3, .ptr 2 0), (10, .pv (encSl R_tabularyref20_Col a0.fCols)), (11, aI ((sll a0.fCols).length : Int)), (12, aI y9)] rfl (by kernel_rfl) (by kernel_rfl) (detn [(2, .ptr 1 0), (3, .ptr 2 0), (10, .pv (encSl R_tabularyref20_Col a0.fCols)), (11, aI ((sll a0.fCols).length : Int)), (12, aI (IntKind.wrap .i64 (y9 + 1)))] (by kernel_rfl) ?_)))
     exact ⟨_, _, tidyL [(2, .ptr 1 0), (3, .ptr 2 0), (10, .pv (encSl R_tabularyref20_Col a0.fCols)), (11, aI ((sll a0.fCols).length : Int)), (12, aI (IntKind.wrap .i64 (y9 + 1)))] [.box [aI a0.fRows, .pv (encSl R_tabularyref20_Col a0.fCols)] false, .box [aI 0, .pv .nils] false, .box [aI a0.fRows, aR 3 69 (([(stat_Col.mk x12.fKind x12.fNulls x12.fDistinct x14 (some (([] : List api_Value) ++ (sll x12.fSample))) (hll_Sketch.mk x12.fSketch))] : List stat_Col).length)] false, bR 91 69 R_stat_Col ([(stat_Col.mk x12.fKind x12.fNulls x12.fDistinct x14 (some (([] : List api_Value) ++ (sll x12.fSample))) (hll_Sketch.mk x12.fSketch))] : List stat_Col) 0 0] (by kernel_rfl), .inr (⟨([(stat_Col.mk x12.fKind x12.fNulls x12.fDistinct x14 (some (([] : List api_Value) ++ (sll x12.fSample))) (hll_Sketch.mk x12.fSketch))] : List stat_Col), (IntKind.wrap .i64 (y9 + 1)), hm, rfl, rfl⟩)⟩
   ·
    refine cf h11 (by kernel_rfl) (wp_exit ?_)
    exact .inl ⟨aI y9, aB (decide (y9 < ((sll a0.fCols).length : Int))), hm, (mk_same (by kernel_rfl)), rfl⟩
  ·
   simp only [law20_Given_l3] at hm
   refine sq (detn [(2, .ptr 1 0), (3, .ptr 2 0), (10, .pv (encSl R_tabularyref20_Col a0.fCols)), (11, aI ((sll a0.fCols).length : Int)), (12, aI y9), (13, aB (decide (y9 < ((sll a0.fCols).length : Int))))] (by kernel_rfl) ?_)
   refine sq ?_
   rcases bif_some hm with ⟨h21, hm⟩ | ⟨h21, hm⟩
   ·
    refine ct h21 (by kernel_rfl) (wp_skip (sq (bq (sq (rg ?_)))))
    obtain ⟨x22, h23, hm⟩ := bs hm
    refine dv 14 (v := .pv (.ptr (R_tabularyref20_Col x22) 0)) (ia_slO R_tabularyref20_Col a0.fCols .i64 t22 t87 h23 rfl (by kernel_rfl)) (by kernel_rfl) (st 3 [(5, .ptr 4 0), (15, .agg ([aI x22.fKind, aI x22.fNulls, aI x22.fDistinct, .pv (encSl R_tabularyref19_Bucket x22.fHist), .pv (encSl R_api_Value x22.fSample)] ++ (aA .u8 64 x22.fSketch)))] [.box [aI a0.fRows, .pv (encSl R_tabularyref20_Col a0.fCols)] false, .box [aI 0, .pv .nils] false, .box [aI a0.fRows, aR 3 69 y8.length] false, bR 91 69 R_stat_Col y8 0 0, .box ([aI x22.fKind, aI x22.fNulls, aI x22.fDistinct, .pv (encSl R_tabularyref19_Bucket x22.fHist), .pv (encSl R_api_Value x22.fSample)] ++ (aA .u8 64 x22.fSketch)) false] (by kernel_rfl) (fin [(2, .ptr 1 0), (3, .ptr 2 0), (5, .ptr 4 0), (10, .pv (encSl R_tabularyref20_Col a0.fCols)), (11, aI ((sll a0.fCols).length : Int)), (12, aI y9)] rfl (by kernel_rfl) (rgd (shd 10 [(25, .pv (encSl R_tabularyref19_Bucket x22.fHist)), (24, .ptr 4 3), (23, aI x22.fDistinct), (22, .ptr 4 2), (21, aI x22.fNulls), (20, .ptr 4 1), (19, aI x22.fKind), (18, .ptr 4 0), (17, aR 3 69 y8.length), (16, .ptr 2 1)] (by kernel_rfl) ?_))))
    obtain ⟨x24, h25, hm⟩ := bs hm
    refine dvd 26 (cpure (by kernel_rfl) (ok_law19_Given h25) (by kernel_rfl) (by kernel_rfl) (by kernel_rfl)) (by kernel_rfl) (std 3 [(29, .pv (encSl R_api_Value x22.fSample)), (28, .ptr 4 4), (27, aR 5 4 0)] [.box [aI a0.fRows, .pv (encSl R_tabularyref20_Col a0.fCols)] false, .box [aI 0, .pv .nils] false, .box [aI a0.fRows, aR 3 69 y8.length] false, bR 91 69 R_stat_Col y8 0 0, .box ([aI x22.fKind, aI x22.fNulls, aI x22.fDistinct, .pv (encSl R_tabularyref19_Bucket x22.fHist), .pv (encSl R_api_Value x22.fSample)] ++ (aA .u8 64 x22.fSketch)) false, bR 64 4 R_api_Value ([] : List api_Value) 0 0] (by kernel_rfl) ?_)
    rcases bif_some hm with ⟨h26, hm⟩ | ⟨h26, hm⟩
    ·
     obtain ⟨_, h27, hm⟩ := bs hm
     refine dvd 30 (v := aR 5 4 0) (app_ref0O (u := 0) (y := .pv (encSl R_api_Value x22.fSample)) (n := 0) (id := 5) R_api_Value ([] : List api_Value) (sll x22.fSample) (b := 40) t52 t64 rfl rfl rfl h26 h27 rfl (by first | rfl | assumption | omega | (simp only [List.length_set, List.length_append, List.length_cons, List.length_nil, List.length_replicate, List.length_drop] at * <;> omega)) (Nat.zero_le _) (src_sl (R := R_api_Value) (s := x22.fSample)) (by kernel_rfl)) (by kernel_rfl) (shd 4 [(34, .agg ([aI x22.fKind, aI x22.fNulls, aI x22.fDistinct, .pv (encSl R_hist_Bucket x24), aR 5 4 0] ++ (aA .u8 64 x22.fSketch))), (33, .agg (aA .u8 64 x22.fSketch)), (32, .agg (aA .u8 64 x22.fSketch)), (31, .ptr 4 5)] (by kernel_rfl) (dOd [(35, aR 6 69 1)] [.box [aI a0.fRows, .pv (encSl R_tabularyref20_Col a0.fCols)] false, .box [aI 0, .pv .nils] false, .box [aI a0.fRows, aR 3 69 y8.length] false, bR 91 69 R_stat_Col y8 0 0, .box ([aI x22.fKind, aI x22.fNulls, aI x22.fDistinct, .pv (encSl R_tabularyref19_Bucket x22.fHist), .pv (encSl R_api_Value x22.fSample)] ++ (aA .u8 64 x22.fSketch)) false, bR 64 4 R_api_Value ([] : List api_Value) 0 (max 0 (([] : List api_Value).map R_api_Value).length), bR 91 69 R_stat_Col ([(stat_Col.mk x22.fKind x22.fNulls x22.fDistinct x24 (some ([] : List api_Value)) (hll_Sketch.mk x22.fSketch))] : List stat_Col) 0 0] (led_purO (nid := 0) (t := 29) (len := 1) (is := [0]) (vs := [.agg ([aI x22.fKind, aI x22.fNulls, aI x22.fDistinct, .pv (encSl R_hist_Bucket x24), aR 5 4 0] ++ (aA .u8 64 x22.fSketch))]) (ps := [.agg ([aI x22.fKind, aI x22.fNulls, aI x22.fDistinct, .pv (encSl R_hist_Bucket x24), .pv (.sl (([] : List api_Value).map R_api_Value))] ++ (aA .u8 64 x22.fSketch))]) (R := [5]) (e := ⟨aR 6 69 1, [], [bR 91 69 R_stat_Col ([(stat_Col.mk x22.fKind x22.fNulls x22.fDistinct x24 (some ([] : List api_Value)) (hll_Sketch.mk x22.fSketch))] : List stat_Col) 0 0]⟩) (by kernel_rfl) (by kernel_rfl) (by kernel_rfl) (by kernel_rfl)) (by kernel_rfl) ?_))
     obtain ⟨_, h28, hm⟩ := bs hm
     refine dOd [(36, aR 3 69 ((y8 ++ ([(stat_Col.mk x22.fKind x22.fNulls x22.fDistinct x24 (some ([] : List api_Value)) (hll_Sketch.mk x22.fSketch))] : List stat_Col)).length))] [.box [aI a0.fRows, .pv (encSl R_tabularyref20_Col a0.fCols)] false, .box [aI 0, .pv .nils] false, .box [aI a0.fRows, aR 3 69 y8.length] false, bR 91 69 R_stat_Col (y8 ++ ([(stat_Col.mk x22.fKind x22.fNulls x22.fDistinct x24 (some ([] : List api_Value)) (hll_Sketch.mk x22.fSketch))] : List stat_Col)) 0 0, .box ([aI x22.fKind, aI x22.fNulls, aI x22.fDistinct, .pv (encSl R_tabularyref19_Bucket x22.fHist), .pv (encSl R_api_Value x22.fSample)] ++ (aA .u8 64 x22.fSketch)) false, bR 64 4 R_api_Value ([] : List api_Value) 0 (max 0 (([] : List api_Value).map R_api_Value).length), bR 91 69 R_stat_Col ([(stat_Col.mk x22.fKind x22.fNulls x22.fDistinct x24 (some ([] : List api_Value)) (hll_Sketch.mk x22.fSketch))] : List stat_Col) 0 0] (app_refO (u := 0) (n := y8.length) (id := 3) R_stat_Col y8 ([(stat_Col.mk x22.fKind x22.fNulls x22.fDistinct x24 (some ([] : List api_Value)) (hll_Sketch.mk x22.fSketch))] : List stat_Col) (b := 136) t29 t91 rfl rfl rfl (fun _ => rfl) rfl h28 rfl rfl (Nat.zero_le _) (show srcRows (aR 6 69 1) _ = some (([(stat_Col.mk x22.fKind x22.fNulls x22.fDistinct x24 (some ([] : List api_Value)) (hll_Sketch.mk x22.fSketch))] : List stat_Col).map R_stat_Col) from by kernel_rfl) (by kernel_rfl)) (by kernel_rfl) (std 2 [(37, .ptr 2 1)] [.box [aI a0.fRows, .pv (encSl R_tabularyref20_Col a0.fCols)] false, .box [aI 0, .pv .nils] false, .box [aI a0.fRows, aR 3 69 ((y8 ++ ([(stat_Col.mk x22.fKind x22.fNulls x22.fDistinct x24 (some ([] : List api_Value)) (hll_Sketch.mk x22.fSketch))] : List stat_Col)).length)] false, bR 91 69 R_stat_Col (y8 ++ ([(stat_Col.mk x22.fKind x22.fNulls x22.fDistinct x24 (some ([] : List api_Value)) (hll_Sketch.mk x22.fSketch))] : List stat_Col)) 0 0, .box ([aI x22.fKind, aI x22.fNulls, aI x22.fDistinct, .pv (encSl R_tabularyref19_Bucket x22.fHist), .pv (encSl R_api_Value x22.fSample)] ++ (aA .u8 64 x22.fSketch)) false, bR 64 4 R_api_Value ([] : List api_Value) 0 (max 0 (([] : List api_Value).map R_api_Value).length), bR 91 69 R_stat_Col ([(stat_Col.mk x22.fKind x22.fNulls x22.fDistinct x24 (some ([] : List api_Value)) (hll_Sketch.mk x22.fSketch))] : List stat_Col) 0 0] (by kernel_rfl) (find [(2, .ptr 1 0), (3, .ptr 2 0), (10, .pv (encSl R_tabularyref20_Col a0.fCols)), (11, aI ((sll a0.fCols).length : Int)), (12, aI y9)] rfl (by kernel_rfl) (by kernel_rfl) (detn [(2, .ptr 1 0), (3, .ptr 2 0), (10, .pv (encSl R_tabularyref20_Col a0.fCols)), (11, aI ((sll a0.fCols).length : Int)), (12, aI (IntKind.wrap .i64 (y9 + 1)))] (by kernel_rfl) ?_)))
     exact ⟨_, _, tidyL [(2, .ptr 1 0), (3, .ptr 2 0), (10, .pv (encSl R_tabularyref20_Col a0.fCols)), (11, aI ((sll a0.fCols).length : Int)), (12, aI (IntKind.wrap .i64 (y9 + 1)))] [.box [aI a0.fRows, .pv (encSl R_tabularyref20_Col a0.fCols)] false, .box [aI 0, .pv .nils] false, .box [aI a0.fRows, aR 3 69 ((y8 ++ ([(stat_Col.mk x22.fKind x22.fNulls x22.fDistinct x24 (some ([] : List api_Value)) (hll_Sketch.mk x22.fSketch))] : List stat_Col)).length)] false, bR 91 69 R_stat_Col (y8 ++ ([(stat_Col.mk x22.fKind x22.fNulls x22.fDistinct x24 (some ([] : List api_Value)) (hll_Sketch.mk x22.fSketch))] : List stat_Col)) 0 0] (by kernel_rfl), .inr (⟨(y8 ++ ([(stat_Col.mk x22.fKind x22.fNulls x22.fDistinct x24 (some ([] : List api_Value)) (hll_Sketch.mk x22.fSketch))] : List stat_Col)), (IntKind.wrap .i64 (y9 + 1)), hm, rfl, rfl⟩)⟩
    ·
     obtain ⟨_, h29, hm⟩ := bs hm
     refine dOd [(30, aR 5 4 ((([] : List api_Value) ++ (sll x22.fSample)).length))] [.box [aI a0.fRows, .pv (encSl R_tabularyref20_Col a0.fCols)] false, .box [aI 0, .pv .nils] false, .box [aI a0.fRows, aR 3 69 y8.length] false, bR 91 69 R_stat_Col y8 0 0, .box ([aI x22.fKind, aI x22.fNulls, aI x22.fDistinct, .pv (encSl R_tabularyref19_Bucket x22.fHist), .pv (encSl R_api_Value x22.fSample)] ++ (aA .u8 64 x22.fSketch)) false, bR 64 4 R_api_Value (([] : List api_Value) ++ (sll x22.fSample)) 0 0] (app_refO (u := 0) (n := 0) (id := 5) R_api_Value ([] : List api_Value) (sll x22.fSample) (b := 40) t52 t64 rfl rfl rfl (fun _ => rfl) h26 h29 rfl (by first | rfl | assumption | omega | (simp only [List.length_set, List.length_append, List.length_cons, List.length_nil, List.length_replicate, List.length_drop] at * <;> omega)) (Nat.zero_le _) (src_sl (R := R_api_Value) (s := x22.fSample)) (by kernel_rfl)) (by kernel_rfl) (shd 4 [(34, .agg ([aI x22.fKind, aI x22.fNulls, aI x22.fDistinct, .pv (encSl R_hist_Bucket x24), aR 5 4 ((([] : List api_Value) ++ (sll x22.fSample)).length)] ++ (aA .u8 64 x22.fSketch))), (33, .agg (aA .u8 64 x22.fSketch)), (32, .agg (aA .u8 64 x22.fSketch)), (31, .ptr 4 5)] (by kernel_rfl) (dOd [(35, aR 6 69 1)] [.box [aI a0.fRows, .pv (encSl R_tabularyref20_Col a0.fCols)] false, .box [aI 0, .pv .nils] false, .box [aI a0.fRows, aR 3 69 y8.length] false, bR 91 69 R_stat_Col y8 0 0, .box ([aI x22.fKind, aI x22.fNulls, aI x22.fDistinct, .pv (encSl R_tabularyref19_Bucket x22.fHist), .pv (encSl R_api_Value x22.fSample)] ++ (aA .u8 64 x22.fSketch)) false, bR 64 4 R_api_Value (([] : List api_Value) ++ (sll x22.fSample)) 0 (max 0 ((([] : List api_Value) ++ (sll x22.fSample)).map R_api_Value).length), bR 91 69 R_stat_Col ([(stat_Col.mk x22.fKind x22.fNulls x22.fDistinct x24 (some (([] : List api_Value) ++ (sll x22.fSample))) (hll_Sketch.mk x22.fSketch))] : List stat_Col) 0 0] (led_purO (nid := 0) (t := 29) (len := 1) (is := [0]) (vs := [.agg ([aI x22.fKind, aI x22.fNulls, aI x22.fDistinct, .pv (encSl R_hist_Bucket x24), aR 5 4 ((([] : List api_Value) ++ (sll x22.fSample)).length)] ++ (aA .u8 64 x22.fSketch))]) (ps := [.agg ([aI x22.fKind, aI x22.fNulls, aI x22.fDistinct, .pv (encSl R_hist_Bucket x24), .pv (.sl ((([] : List api_Value) ++ (sll x22.fSample)).map R_api_Value))] ++ (aA .u8 64 x22.fSketch))]) (R := [5]) (e := ⟨aR 6 69 1, [], [bR 91 69 R_stat_Col ([(stat_Col.mk x22.fKind x22.fNulls x22.fDistinct x24 (some (([] : List api_Value) ++ (sll x22.fSample))) (hll_Sketch.mk x22.fSketch))] : List stat_Col) 0 0]⟩) (by kernel_rfl) (pAs_cons (pA_agg (purL_cons (pur_pv) (purL_cons (pur_pv) (purL_cons (pur_pv) (purL_cons (pur_pv) (purL_cons (pur_ref' (n := (([] : List api_Value) ++ (sll x22.fSample)).length) (id := 5) (l := (([] : List api_Value) ++ (sll x22.fSample))) (R := R_api_Value) rfl rfl (Nat.zero_le _)) (purL_arr0))))))) (rfl)) (by kernel_rfl) (by kernel_rfl)) (by kernel_rfl) ?_))
     obtain ⟨_, h30, hm⟩ := bs hm
     refine dOd [(36, aR 3 69 ((y8 ++ ([(stat_Col.mk x22.fKind x22.fNulls x22.fDistinct x24 (some (([] : List api_Value) ++ (sll x22.fSample))) (hll_Sketch.mk x22.fSketch))] : List stat_Col)).length))] [.box [aI a0.fRows, .pv (encSl R_tabularyref20_Col a0.fCols)] false, .box [aI 0, .pv .nils] false, .box [aI a0.fRows, aR 3 69 y8.length] false, bR 91 69 R_stat_Col (y8 ++ ([(stat_Col.mk x22.fKind x22.fNulls x22.fDistinct x24 (some (([] : List api_Value) ++ (sll x22.fSample))) (hll_Sketch.mk x22.fSketch))] : List stat_Col)) 0 0, .box ([aI x22.fKind, aI x22.fNulls, aI x22.fDistinct, .pv (encSl R_tabularyref19_Bucket x22.fHist), .pv (encSl R_api_Value x22.fSample)] ++ (aA .u8 64 x22.fSketch)) false, bR 64 4 R_api_Value (([] : List api_Value) ++ (sll x22.fSample)) 0 (max 0 ((([] : List api_Value) ++ (sll x22.fSample)).map R_api_Value).length), bR 91 69 R_stat_Col ([(stat_Col.mk x22.fKind x22.fNulls x22.fDistinct x24 (some (([] : List api_Value) ++ (sll x22.fSample))) (hll_Sketch.mk x22.fSketch))] : List stat_Col) 0 0] (app_refO (u := 0) (n := y8.length) (id := 3) R_stat_Col y8 ([(stat_Col.mk x22.fKind x22.fNulls x22.fDistinct x24 (some (([] : List api_Value) ++ (sll x22.fSample))) (hll_Sketch.mk x22.fSketch))] : List stat_Col) (b := 136) t29 t91 rfl rfl rfl (fun _ => rfl) rfl h30 rfl rfl (Nat.zero_le _) (show srcRows (aR 6 69 1) _ = some (([(stat_Col.mk x22.fKind x22.fNulls x22.fDistinct x24 (some (([] : List api_Value) ++ (sll x22.fSample))) (hll_Sketch.mk x22.fSketch))] : List stat_Col).map R_stat_Col) from by kernel_rfl) (by kernel_rfl)) (by kernel_rfl) (std 2 [(37, .ptr 2 1)] [.box [aI a0.fRows, .pv (encSl R_tabularyref20_Col a0.fCols)] false, .box [aI 0, .pv .nils] false, .box [aI a0.fRows, aR 3 69 ((y8 ++ ([(stat_Col.mk x22.fKind x22.fNulls x22.fDistinct x24 (some (([] : List api_Value) ++ (sll x22.fSample))) (hll_Sketch.mk x22.fSketch))] : List stat_Col)).length)] false, bR 91 69 R_stat_Col (y8 ++ ([(stat_Col.mk x22.fKind x22.fNulls x22.fDistinct x24 (some (([] : List api_Value) ++ (sll x22.fSample))) (hll_Sketch.mk x22.fSketch))] : List stat_Col)) 0 0, .box ([aI x22.fKind, aI x22.fNulls, aI x22.fDistinct, .pv (encSl R_tabularyref19_Bucket x22.fHist), .pv (encSl R_api_Value x22.fSample)] ++ (aA .u8 64 x22.fSketch)) false, bR 64 4 R_api_Value (([] : List api_Value) ++ (sll x22.fSample)) 0 (max 0 ((([] : List api_Value) ++ (sll x22.fSample)).map R_api_Value).length), bR 91 69 R_stat_Col ([(stat_Col.mk x22.fKind x22.fNulls x22.fDistinct x24 (some (([] : List api_Value) ++ (sll x22.fSample))) (hll_Sketch.mk x22.fSketch))] : List stat_Col) 0 0] (by kernel_rfl) (find [(2, .ptr 1 0), (3, .ptr 2 0), (10, .pv (encSl R_tabularyref20_Col a0.fCols)), (11, aI ((sll a0.fCols).length : Int)), (12, aI y9)] rfl (by kernel_rfl) (by kernel_rfl) (detn [(2, .ptr 1 0), (3, .ptr 2 0), (10, .pv (encSl R_tabularyref20_Col a0.fCols)), (11, aI ((sll a0.fCols).length : Int)), (12, aI (IntKind.wrap .i64 (y9 + 1)))] (by kernel_rfl) ?_)))
     exact ⟨_, _, tidyL [(2, .ptr 1 0), (3, .ptr 2 0), (10, .pv (encSl R_tabularyref20_Col a0.fCols)), (11, aI ((sll a0.fCols).length : Int)), (12, aI (IntKind.wrap .i64 (y9 + 1)))] [.box [aI a0.fRows, .pv (encSl R_tabularyref20_Col a0.fCols)] false, .box [aI 0, .pv .nils] false, .box [aI a0.fRows, aR 3 69 ((y8 ++ ([(stat_Col.mk x22.fKind x22.fNulls x22.fDistinct x24 (some (([] : List api_Value) ++ (sll x22.fSample))) (hll_Sketch.mk x22.fSketch))] : List stat_Col)).length)] false, bR 91 69 R_stat_Col (y8 ++ ([(stat_Col.mk x22.fKind x22.fNulls x22.fDistinct x24 (some (([] : List api_Value) ++ (sll x22.fSample))) (hll_Sketch.mk x22.fSketch))] : List stat_Col)) 0 0] (by kernel_rfl), .inr (⟨(y8 ++ ([(stat_Col.mk x22.fKind x22.fNulls x22.fDistinct x24 (some (([] : List api_Value) ++ (sll x22.fSample))) (hll_Sketch.mk x22.fSketch))] : List stat_Col)), (IntKind.wrap .i64 (y9 + 1)), hm, rfl, rfl⟩)⟩
   ·
    refine cf h21 (by kernel_rfl) (wp_exit ?_)
    exact .inr (⟨y8, aI y9, aB (decide (y9 < ((sll a0.fCols).length : Int))), hm, (mk_same (by kernel_rfl)), rfl⟩)
theorem ok_law20_Great {n : Nat} {a0 : tabularyref20_Stat} {r : Bool} (hm : law20_Great n a0 = some r) :
    call G n 10 [.agg [aI a0.fRows, .pv (encSl R_tabularyref20_Col a0.fCols)]] [] = some (.ret (aB r), []) := by
  unfold law20_Great at hm
  obtain ⟨n, rfl, h0⟩ := at1_some hm
  replace hm := h0; clear h0
  refine callL 27 [(0, .agg [aI a0.fRows, .pv (encSl R_tabularyref20_Col a0.fCols)])] func10 rfl (by kernel_rfl) (sq (det [(1, .ptr 0 0)] [.box [aI a0.fRows, .pv (encSl R_tabularyref20_Col a0.fCols)] false] (by kernel_rfl) ?_))
  refine sq (sq (rg (sh 2 [(6, .pv (encSl R_tabularyref20_Col a0.fCols)), (5, .ptr 0 1)] (by kernel_rfl) (dv 7 (v := aI ((sll a0.fCols).length : Int)) (len_slO R_tabularyref20_Col a0.fCols t22 (by kernel_rfl)) (by kernel_rfl) (sh 1 [(8, aB (decide (((sll a0.fCols).length : Int) > 12)))] (by kernel_rfl) (fin [(1, .ptr 0 0), (8, aB (decide (((sll a0.fCols).length : Int) > 12)))] rfl (by kernel_rfl) ?_))))))
  rcases bif_some hm with ⟨h1, hm⟩ | ⟨h1, hm⟩
  ·
   refine ct h1 (by kernel_rfl) (sq (detn [(2, aB true)] (by kernel_rfl) (wp_ret ?_)))
   obtain rfl := Option.some.inj hm
   exact ⟨trivial, by kernel_rfl⟩
  ·
   refine cf h1 (by kernel_rfl) (wp_skip ?_)
   obtain ⟨k4, hk4, hm⟩ := withK_some hm
   refine mid (fun t H => (∃ (y2 : Int) (y3 : Bool), k4 () = some r ∧ t = mk 27 [(10, .pv (encSl R_tabularyref20_Col a0.fCols)), (11, aI ((sll a0.fCols).length : Int)), (12, aI y2), (13, aB y3)] ∧ H = [.box [aI a0.fRows, .pv (encSl R_tabularyref20_Col a0.fCols)] false])) ?_ ?_
   ·
    rintro _ _ ⟨y2, y3, hm, rfl, rfl⟩
    subst hk4
    refine sq (detn [(2, aB false)] (by kernel_rfl) (wp_ret ?_))
    obtain rfl := Option.some.inj hm
    exact ⟨trivial, by kernel_rfl⟩
   refine sq (rg (sh 2 [(10, .pv (encSl R_tabularyref20_Col a0.fCols)), (9, .ptr 0 1)] (by kernel_rfl) (dv 11 (v := aI ((sll a0.fCols).length : Int)) (len_slO R_tabularyref20_Col a0.fCols t22 (by kernel_rfl)) (by kernel_rfl) (sh 1 [(12, aI 0)] (by kernel_rfl) (fin [(10, .pv (encSl R_tabularyref20_Col a0.fCols)), (11, aI ((sll a0.fCols).length : Int)), (12, aI 0)] rfl (by kernel_rfl) (bq ?_))))))
   refine loopF (fun mm t H => (∃ (y6 : Int), law20_Great_l4 n a0 k4 mm y6 = some r ∧ t = mk 27 [(10, .pv (encSl R_tabularyref20_Col a0.fCols)), (11, aI ((sll a0.fCols).length : Int)), (12, aI y6)] ∧ H = [.box [aI a0.fRows, .pv (encSl R_tabularyref20_Col a0.fCols)] false])) (⟨0, hm, rfl, rfl⟩) ?_ ?_
   · rintro _ _ ⟨y6, hm, _⟩; exact nomatch hm
   rintro m7 _ _ ⟨y6, hm, rfl, rfl⟩
   simp only [law20_Great_l4] at hm
   refine sq (detn [(10, .pv (encSl R_tabularyref20_Col a0.fCols)), (11, aI ((sll a0.fCols).length : Int)), (12, aI y6), (13, aB (decide (y6 < ((sll a0.fCols).length : Int))))] (by kernel_rfl) ?_)
   refine sq ?_
   rcases bif_some hm with ⟨h8, hm⟩ | ⟨h8, hm⟩
   ·
    refine ct h8 (by kernel_rfl) (wp_skip (sq (bq (sq (rg ?_)))))
    obtain ⟨x9, h10, hm⟩ := bs hm
    refine dv 14 (v := .pv (.ptr (R_tabularyref20_Col x9) 0)) (ia_slO R_tabularyref20_Col a0.fCols .i64 t22 t87 h10 rfl (by kernel_rfl)) (by kernel_rfl) (st 3 [(4, .ptr 1 0), (15, .agg ([aI x9.fKind, aI x9.fNulls, aI x9.fDistinct, .pv (encSl R_tabularyref19_Bucket x9.fHist), .pv (encSl R_api_Value x9.fSample)] ++ (aA .u8 64 x9.fSketch)))] [.box [aI a0.fRows, .pv (encSl R_tabularyref20_Col a0.fCols)] false, .box ([aI x9.fKind, aI x9.fNulls, aI x9.fDistinct, .pv (encSl R_tabularyref19_Bucket x9.fHist), .pv (encSl R_api_Value x9.fSample)] ++ (aA .u8 64 x9.fSketch)) false] (by kernel_rfl) (fin [(4, .ptr 1 0), (10, .pv (encSl R_tabularyref20_Col a0.fCols)), (11, aI ((sll a0.fCols).length : Int)), (12, aI y6)] rfl (by kernel_rfl) (sq (rg (sh 2 [(17, .pv (encSl R_tabularyref19_Bucket x9.fHist)), (16, .ptr 1 3)] (by kernel_rfl) (dv 18 (v := aI ((sll x9.fHist).length : Int)) (len_slO R_tabularyref19_Bucket x9.fHist t56 (by kernel_rfl)) (by kernel_rfl) (sh 2 [(20, aB (decide (((sll x9.fHist).length : Int) > 60))), (19, aB (decide (((sll x9.fHist).length : Int) > 60)))] (by kernel_rfl) ?_)))))))
    refine seg (decide (((sll x9.fHist).length : Int) > 60)) [20, 19] (fun b => [(25, aB (b || (decide (((sll x9.fSample).length : Int) > 70)))), (24, ifA b (.undef) (aB (decide (((sll x9.fSample).length : Int) > 70)))), (23, ifA b (.undef) (aI ((sll x9.fSample).length : Int))), (22, ifA b (.undef) (.pv (encSl R_api_Value x9.fSample))), (21, ifA b (.undef) (.ptr 1 4))]) 10 (by kernel_rfl) ?_ ?_ ?_
    ·
     intro Q h
     refine sh 5 [(25, aB true), (24, .undef), (23, .undef), (22, .undef), (21, .undef)] (by kernel_rfl) ?_
     exact sameN (by kernel_rfl) (by kernel_rfl) h
    ·
     intro Q h
     refine sh 2 [(22, .pv (encSl R_api_Value x9.fSample)), (21, .ptr 1 4)] (by kernel_rfl) (dv 23 (v := aI ((sll x9.fSample).length : Int)) (len_slO R_api_Value x9.fSample t52 (by kernel_rfl)) (by kernel_rfl) (sh 2 [(25, aB (decide (((sll x9.fSample).length : Int) > 70))), (24, aB (decide (((sll x9.fSample).length : Int) > 70)))] (by kernel_rfl) ?_))
     exact sameN (by kernel_rfl) (by kernel_rfl) h
    refine fin [(10, .pv (encSl R_tabularyref20_Col a0.fCols)), (11, aI ((sll a0.fCols).length : Int)), (12, aI y6), (25, aB ((decide (((sll x9.fHist).length : Int) > 60)) || (decide (((sll x9.fSample).length : Int) > 70))))] rfl (by kernel_rfl) ?_
    rcases bif_some hm with ⟨h11, hm⟩ | ⟨h11, hm⟩
    ·
     refine ct h11 (by kernel_rfl) (sq (detn [(2, aB true)] (by kernel_rfl) (wp_ret ?_)))
     obtain rfl := Option.some.inj hm
     exact ⟨trivial, by kernel_rfl⟩
    ·
     refine cf h11 (by kernel_rfl) (wp_skip (detn [(10, .pv (encSl R_tabularyref20_Col a0.fCols)), (11, aI ((sll a0.fCols).length : Int)), (12, aI (IntKind.wrap .i64 (y6 + 1)))] (by kernel_rfl) ?_))
     exact ⟨_, _, tidyL [(10, .pv (encSl R_tabularyref20_Col a0.fCols)), (11, aI ((sll a0.fCols).length : Int)), (12, aI (IntKind.wrap .i64 (y6 + 1)))] [.box [aI a0.fRows, .pv (encSl R_tabularyref20_Col a0.fCols)] false] (by kernel_rfl), ⟨(IntKind.wrap .i64 (y6 + 1)), hm, rfl, rfl⟩⟩
   ·
    refine cf h8 (by kernel_rfl) (wp_exit ?_)
    exact ⟨y6, (decide (y6 < ((sll a0.fCols).length : Int))), hm, rfl, rfl⟩
theorem ok_stat_column_1 {n : Nat} {a0 : Int} {a1 : Int} {r : Bool} (hm : stat_column_1 n a0 a1 = some r) :
    call G n 85 [aI a0, .pv (.ptr [.int .i64 a1] 0)] [] = some (.ret (aB r), []) := by
  unfold stat_column_1 at hm
  obtain ⟨n, rfl, h0⟩ := at1_some hm
  replace hm := h0; clear h0
  refine callL 11 [(0, aI a0), (1, .pv (.ptr [.int .i64 a1] 0))] func85 rfl (by kernel_rfl) (sq (detn [(0, aI a0), (1, .pv (.ptr [.int .i64 a1] 0))] (by kernel_rfl) (sq (rg (sh 3 [(6, aB (decide (a0 ≥ 0))), (5, aB (decide (a0 ≥ 0))), (4, aI a0)] (by kernel_rfl) ?_)))))
  refine seg (decide (a0 ≥ 0)) [6, 5] (fun b => [(10, aB (b && (decide (a0 ≤ a1)))), (9, ifA b (aB (decide (a0 ≤ a1))) (.undef)), (8, ifA b (aI a1) (.undef)), (7, ifA b (aI a0) (.undef))]) 7 (by kernel_rfl) ?_ ?_ ?_
  ·
   intro Q h
   refine sh 4 [(10, aB (decide (a0 ≤ a1))), (9, aB (decide (a0 ≤ a1))), (8, aI a1), (7, aI a0)] (by kernel_rfl) ?_
   exact sameN (by kernel_rfl) (by kernel_rfl) h
  ·
   intro Q h
   refine sh 4 [(10, aB false), (9, .undef), (8, .undef), (7, .undef)] (by kernel_rfl) ?_
   exact sameN (by kernel_rfl) (by kernel_rfl) h
  refine sh 1 [(3, aB ((decide (a0 ≥ 0)) && (decide (a0 ≤ a1))))] (by kernel_rfl) (fin [(3, aB ((decide (a0 ≥ 0)) && (decide (a0 ≤ a1))))] rfl (by kernel_rfl) (wp_ret ?_))
  obtain rfl := Option.some.inj hm
  exact ⟨trivial, by kernel_rfl⟩
theorem ok_math_Signbit {n : Nat} {a0 : Nat} {r : Bool} (hm : math_Signbit n a0 = some r) :
    call G n 81 [aF a0] [] = some (.ret (aB r), []) := by
  unfold math_Signbit at hm
  obtain ⟨n, rfl, h0⟩ := at1_some hm
  replace hm := h0; clear h0
  refine callL 7 [(0, aF a0)] func81 rfl (by kernel_rfl) (sq (detn [(0, aF a0)] (by kernel_rfl) (sq (rg (sh 1 [(3, aF a0)] (by kernel_rfl) (sh 1 [(4, aU (a0 : Int))] (by kernel_rfl) (sh 3 [(2, aB (decide ((IntKind.wrap .i64 (a0 : Int)) < 0))), (6, aB (decide ((IntKind.wrap .i64 (a0 : Int)) < 0))), (5, aI (IntKind.wrap .i64 (a0 : Int)))] (by kernel_rfl) (fin [(2, aB (decide ((IntKind.wrap .i64 (a0 : Int)) < 0)))] rfl (by kernel_rfl) (wp_ret ?_)))))))))
  obtain rfl := Option.some.inj hm
  exact ⟨trivial, by kernel_rfl⟩
theorem ok_value_Right {n : Nat} {a0 : api_Value} {r : Bool} (hm : value_Right n a0 = some r) :
    call G n 42 [.agg [aI a0.fKind, aI a0.fInt, aF a0.fFloat, aS a0.fText]] [] = some (.ret (aB r), []) := by
  unfold value_Right at hm
  obtain ⟨n, rfl, h0⟩ := at1_some hm
  replace hm := h0; clear h0
  refine callL 70 [(0, .agg [aI a0.fKind, aI a0.fInt, aF a0.fFloat, aS a0.fText])] func42 rfl (by kernel_rfl) (sq (det [(1, .ptr 0 0)] [.box [aI a0.fKind, aI a0.fInt, aF a0.fFloat, aS a0.fText] false] (by kernel_rfl) ?_))
  obtain ⟨k2, hk2, hm⟩ := withK_some hm
  refine mid (fun t H => (∃ (y1 : Bool), k2 y1 = some r ∧ t = mk 70 [(1, .ptr 0 0), (3, aB y1)] ∧ H = [.box [aI a0.fKind, aI a0.fInt, aF a0.fFloat, aS a0.fText] false])) ?_ ?_
  ·
   rintro _ _ ⟨y1, hm, rfl, rfl⟩
   subst hk2
   refine sq (sq (detn [(1, .ptr 0 0), (3, aB y1), (14, aI a0.fKind)] (by kernel_rfl) (bq ?_)))
   refine sq (bq ?_)
   refine sq (bq ?_)
   obtain ⟨k6, hk6, hm⟩ := withK_some hm
   refine mid (fun t H => (∃ (w3 : AV) (w4 : AV) (w5 : AV), k6 () = some r ∧ t = mk 70 [(1, .ptr 0 0), (3, aB y1), (14, w3), (19, w4), (43, w5)] ∧ H = [.box [aI a0.fKind, aI a0.fInt, aF a0.fFloat, aS a0.fText] false])) ?_ ?_
   ·
    rintro _ _ ⟨w3, w4, w5, hm, rfl, rfl⟩
    subst hk6
    refine sq (sq (rg (sh 2 [(45, aB y1), (44, aB y1)] (by kernel_rfl) ?_)))
    refine seg y1 [45, 44, 3] (fun b => [(49, aB (b && (sEq a0.fText ByteArray.empty))), (48, ifA b (aB (sEq a0.fText ByteArray.empty)) (.undef)), (47, ifA b (aS a0.fText) (.undef)), (46, ifA b (.ptr 0 3) (.undef))]) 6 (by kernel_rfl) ?_ ?_ ?_
    ·
     intro Q h
     refine sh 4 [(49, aB (sEq a0.fText ByteArray.empty)), (48, aB (sEq a0.fText ByteArray.empty)), (47, aS a0.fText), (46, .ptr 0 3)] (by kernel_rfl) ?_
     exact sameN (by kernel_rfl) (by kernel_rfl) h
    ·
     intro Q h
     refine sh 4 [(49, aB false), (48, .undef), (47, .undef), (46, .undef)] (by kernel_rfl) ?_
     exact sameN (by kernel_rfl) (by kernel_rfl) h
    refine sh 1 [(2, aB (y1 && (sEq a0.fText ByteArray.empty)))] (by kernel_rfl) (fin [(2, aB (y1 && (sEq a0.fText ByteArray.empty)))] rfl (by kernel_rfl) (wp_ret ?_))
    obtain rfl := Option.some.inj hm
    exact ⟨trivial, by kernel_rfl⟩
   refine bq ?_
   refine sq (bq ?_)
   refine sq (bq (sq ?_))
   refine sq (sq (detn [(1, .ptr 0 0), (3, aB y1), (14, aI a0.fKind), (15, aB (a0.fKind == 0))] (by kernel_rfl) ?_))
   rcases bif_some hm with ⟨h7, hm⟩ | ⟨h7, hm⟩
   ·
    refine ct h7 (by kernel_rfl) (wp_exit (sq (sq (rg (sh 4 [(28, aB (a0.fInt == 0)), (27, aB (a0.fInt == 0)), (26, aI a0.fInt), (25, .ptr 0 1)] (by kernel_rfl) ?_)))))
    refine seg (a0.fInt == 0) [28, 27] (fun b => [(30, aB (b && y1)), (29, ifA b (aB y1) (.undef))]) 6 (by kernel_rfl) ?_ ?_ ?_
    ·
     intro Q h
     refine sh 2 [(30, aB y1), (29, aB y1)] (by kernel_rfl) ?_
     exact sameN (by kernel_rfl) (by kernel_rfl) h
    ·
     intro Q h
     refine sh 2 [(30, aB false), (29, .undef)] (by kernel_rfl) ?_
     exact sameN (by kernel_rfl) (by kernel_rfl) h
    refine sh 1 [(31, aB ((a0.fInt == 0) && y1))] (by kernel_rfl) ?_
    refine seg ((a0.fInt == 0) && y1) [31, 30] (fun b => [(35, aB (b && (sEq a0.fText ByteArray.empty))), (34, ifA b (aB (sEq a0.fText ByteArray.empty)) (.undef)), (33, ifA b (aS a0.fText) (.undef)), (32, ifA b (.ptr 0 3) (.undef))]) 11 (by kernel_rfl) ?_ ?_ ?_
    ·
     intro Q h
     refine sh 4 [(35, aB (sEq a0.fText ByteArray.empty)), (34, aB (sEq a0.fText ByteArray.empty)), (33, aS a0.fText), (32, .ptr 0 3)] (by kernel_rfl) ?_
     exact sameN (by kernel_rfl) (by kernel_rfl) h
    ·
     intro Q h
     refine sh 4 [(35, aB false), (34, .undef), (33, .undef), (32, .undef)] (by kernel_rfl) ?_
     exact sameN (by kernel_rfl) (by kernel_rfl) h
    refine sh 1 [(2, aB (((a0.fInt == 0) && y1) && (sEq a0.fText ByteArray.empty)))] (by kernel_rfl) (fin [(2, aB (((a0.fInt == 0) && y1) && (sEq a0.fText ByteArray.empty)))] rfl (by kernel_rfl) (wp_ret ?_))
    obtain rfl := Option.some.inj hm
    exact ⟨trivial, by kernel_rfl⟩
   ·
    refine cf h7 (by kernel_rfl) (wp_skip (sq (sq (detn [(1, .ptr 0 0), (3, aB y1), (14, aI a0.fKind), (17, aB (a0.fKind == 1))] (by kernel_rfl) ?_))))
    rcases bif_some hm with ⟨h8, hm⟩ | ⟨h8, hm⟩
    ·
     refine ct h8 (by kernel_rfl) (wp_exit (sq (rg (sh 4 [(39, aB (a0.fInt != 0)), (38, aB (a0.fInt != 0)), (37, aI a0.fInt), (36, .ptr 0 1)] (by kernel_rfl) ?_))))
     refine seg (a0.fInt != 0) [39, 38] (fun b => [(43, aB (b && (a0.fInt != 1))), (42, ifA b (aB (a0.fInt != 1)) (.undef)), (41, ifA b (aI a0.fInt) (.undef)), (40, ifA b (.ptr 0 1) (.undef))]) 8 (by kernel_rfl) ?_ ?_ ?_
     ·
      intro Q h
      refine sh 4 [(43, aB (a0.fInt != 1)), (42, aB (a0.fInt != 1)), (41, aI a0.fInt), (40, .ptr 0 1)] (by kernel_rfl) ?_
      exact sameN (by kernel_rfl) (by kernel_rfl) h
     ·
      intro Q h
      refine sh 4 [(43, aB false), (42, .undef), (41, .undef), (40, .undef)] (by kernel_rfl) ?_
      exact sameN (by kernel_rfl) (by kernel_rfl) h
     refine fin [(1, .ptr 0 0), (3, aB y1), (43, aB ((a0.fInt != 0) && (a0.fInt != 1)))] rfl (by kernel_rfl) ?_
     rcases bif_some hm with ⟨h9, hm⟩ | ⟨h9, hm⟩
     ·
      refine ct h9 (by kernel_rfl) (sq (detn [(2, aB false)] (by kernel_rfl) (wp_ret ?_)))
      obtain rfl := Option.some.inj hm
      exact ⟨trivial, by kernel_rfl⟩
     ·
      refine cf h9 (by kernel_rfl) (wp_skip ?_)
      exact ⟨.any, .any, aB ((a0.fInt != 0) && (a0.fInt != 1)), hm, (mk_same (by kernel_rfl)), rfl⟩
    ·
     refine cf h8 (by kernel_rfl) (wp_skip (sq (sq (detn [(1, .ptr 0 0), (3, aB y1), (14, aI a0.fKind), (19, aB (a0.fKind == 2))] (by kernel_rfl) ?_))))
     rcases bif_some hm with ⟨h10, hm⟩ | ⟨h10, hm⟩
     ·
      refine ct h10 (by kernel_rfl) (wp_exit ?_)
      exact ⟨aI a0.fKind, aB (a0.fKind == 2), .any, hm, (mk_same (by kernel_rfl)), rfl⟩
     ·
      refine cf h10 (by kernel_rfl) (wp_skip (sq (sq (detn [(1, .ptr 0 0), (3, aB y1), (14, aI a0.fKind), (21, aB (a0.fKind == 3))] (by kernel_rfl) ?_))))
      rcases bif_some hm with ⟨h11, hm⟩ | ⟨h11, hm⟩
      ·
       refine ct h11 (by kernel_rfl) (wp_exit (sq (sq (rg (sh 4 [(53, aB (a0.fInt == 0)), (52, aB (a0.fInt == 0)), (51, aI a0.fInt), (50, .ptr 0 1)] (by kernel_rfl) ?_)))))
       refine seg (a0.fInt == 0) [53, 52] (fun b => [(57, aB (b && (sEq a0.fText ByteArray.empty))), (56, ifA b (aB (sEq a0.fText ByteArray.empty)) (.undef)), (55, ifA b (aS a0.fText) (.undef)), (54, ifA b (.ptr 0 3) (.undef))]) 8 (by kernel_rfl) ?_ ?_ ?_
       ·
        intro Q h
        refine sh 4 [(57, aB (sEq a0.fText ByteArray.empty)), (56, aB (sEq a0.fText ByteArray.empty)), (55, aS a0.fText), (54, .ptr 0 3)] (by kernel_rfl) ?_
        exact sameN (by kernel_rfl) (by kernel_rfl) h
       ·
        intro Q h
        refine sh 4 [(57, aB false), (56, .undef), (55, .undef), (54, .undef)] (by kernel_rfl) ?_
        exact sameN (by kernel_rfl) (by kernel_rfl) h
       refine sh 1 [(2, aB ((a0.fInt == 0) && (sEq a0.fText ByteArray.empty)))] (by kernel_rfl) (fin [(2, aB ((a0.fInt == 0) && (sEq a0.fText ByteArray.empty)))] rfl (by kernel_rfl) (wp_ret ?_))
       obtain rfl := Option.some.inj hm
       exact ⟨trivial, by kernel_rfl⟩
      ·
       refine cf h11 (by kernel_rfl) (wp_skip (sq (detn [(1, .ptr 0 0), (3, aB y1), (23, aB (a0.fKind == 4))] (by kernel_rfl) ?_)))
       rcases bif_some hm with ⟨h12, hm⟩ | ⟨h12, hm⟩
       ·
        refine ct h12 (by kernel_rfl) (wp_exit (sq (sq (rg (sh 4 [(61, aB (a0.fInt == 0)), (60, aB (a0.fInt == 0)), (59, aI a0.fInt), (58, .ptr 0 1)] (by kernel_rfl) ?_)))))
        refine seg (a0.fInt == 0) [61, 60] (fun b => [(63, aB (b && y1)), (62, ifA b (aB y1) (.undef))]) 6 (by kernel_rfl) ?_ ?_ ?_
        ·
         intro Q h
         refine sh 2 [(63, aB y1), (62, aB y1)] (by kernel_rfl) ?_
         exact sameN (by kernel_rfl) (by kernel_rfl) h
        ·
         intro Q h
         refine sh 2 [(63, aB false), (62, .undef)] (by kernel_rfl) ?_
         exact sameN (by kernel_rfl) (by kernel_rfl) h
        refine sh 1 [(64, aB ((a0.fInt == 0) && y1))] (by kernel_rfl) ?_
        refine seg ((a0.fInt == 0) && y1) [64, 63] (fun b => [(69, aB (b && (decide ((a0.fText.size : Int) ≤ 64)))), (68, ifA b (aB (decide ((a0.fText.size : Int) ≤ 64))) (.undef)), (67, ifA b (aI (a0.fText.size : Int)) (.undef)), (66, ifA b (aS a0.fText) (.undef)), (65, ifA b (.ptr 0 3) (.undef))]) 12 (by kernel_rfl) ?_ ?_ ?_
        ·
         intro Q h
         refine sh 5 [(69, aB (decide ((a0.fText.size : Int) ≤ 64))), (68, aB (decide ((a0.fText.size : Int) ≤ 64))), (67, aI (a0.fText.size : Int)), (66, aS a0.fText), (65, .ptr 0 3)] (by kernel_rfl) ?_
         exact sameN (by kernel_rfl) (by kernel_rfl) h
        ·
         intro Q h
         refine sh 5 [(69, aB false), (68, .undef), (67, .undef), (66, .undef), (65, .undef)] (by kernel_rfl) ?_
         exact sameN (by kernel_rfl) (by kernel_rfl) h
        refine sh 1 [(2, aB (((a0.fInt == 0) && y1) && (decide ((a0.fText.size : Int) ≤ 64))))] (by kernel_rfl) (fin [(2, aB (((a0.fInt == 0) && y1) && (decide ((a0.fText.size : Int) ≤ 64))))] rfl (by kernel_rfl) (wp_ret ?_))
        obtain rfl := Option.some.inj hm
        exact ⟨trivial, by kernel_rfl⟩
       ·
        refine cf h12 (by kernel_rfl) (wp_skip (wp_exit (sq (detn [(2, aB false)] (by kernel_rfl) (wp_ret ?_)))))
        obtain rfl := Option.some.inj hm
        exact ⟨trivial, by kernel_rfl⟩
  refine rg (sh 4 [(7, aB ((FloatKind.format .f64).order a0.fFloat 0 == some .eq)), (6, aB ((FloatKind.format .f64).order a0.fFloat 0 == some .eq)), (5, aF a0.fFloat), (4, .ptr 0 2)] (by kernel_rfl) ?_)
  rcases bif_some hm with ⟨h13, hm⟩ | ⟨h13, hm⟩
  ·
   refine known [7, 6] h13 (by kernel_rfl) (sh 2 [(9, aF a0.fFloat), (8, .ptr 0 2)] (by kernel_rfl) ?_)
   obtain ⟨x14, h15, hm⟩ := bs hm
   refine dv 10 (cpure (by kernel_rfl) (ok_math_Signbit h15) (by kernel_rfl) (by kernel_rfl) (by kernel_rfl)) (by kernel_rfl) (sh 3 [(3, aB (!x14)), (12, aB (!x14)), (11, aB (!x14))] (by kernel_rfl) (fin [(1, .ptr 0 0), (3, aB (!x14))] rfl (by kernel_rfl) ?_))
   exact ⟨(!x14), hm, rfl, rfl⟩
  ·
   refine known [7, 6] h13 (by kernel_rfl) (sh 6 [(3, aB false), (12, aB false), (11, .undef), (10, .undef), (9, .undef), (8, .undef)] (by kernel_rfl) (fin [(1, .ptr 0 0), (3, aB false)] rfl (by kernel_rfl) ?_))
   exact ⟨false, hm, rfl, rfl⟩
theorem ok_hist_plain {n : Nat} {a0 : api_Value} {r : Bool} (hm : hist_plain n a0 = some r) :
    call G n 104 [.agg [aI a0.fKind, aI a0.fInt, aF a0.fFloat, aS a0.fText]] [] = some (.ret (aB r), []) := by
  unfold hist_plain at hm
  obtain ⟨n, rfl, h0⟩ := at1_some hm
  replace hm := h0; clear h0
  refine callL 21 [(0, .agg [aI a0.fKind, aI a0.fInt, aF a0.fFloat, aS a0.fText])] func104 rfl (by kernel_rfl) (sq (det [(1, .ptr 0 0)] [.box [aI a0.fKind, aI a0.fInt, aF a0.fFloat, aS a0.fText] false] (by kernel_rfl) (sq (rg (sh 1 [(3, .agg [aI a0.fKind, aI a0.fInt, aF a0.fFloat, aS a0.fText])] (by kernel_rfl) ?_)))))
  obtain ⟨x1, h2, hm⟩ := bs hm
  refine dv 4 (cpure (by kernel_rfl) (ok_value_Right h2) (by kernel_rfl) (by kernel_rfl) (by kernel_rfl)) (by kernel_rfl) (sh 1 [(5, aB x1)] (by kernel_rfl) ?_)
  refine seg x1 [5, 4] (fun b => [(9, aB (b && (a0.fKind != 0))), (8, ifA b (aB (a0.fKind != 0)) (.undef)), (7, ifA b (aI a0.fKind) (.undef)), (6, ifA b (.ptr 0 0) (.undef))]) 7 (by kernel_rfl) ?_ ?_ ?_
  ·
   intro Q h
   refine sh 4 [(9, aB (a0.fKind != 0)), (8, aB (a0.fKind != 0)), (7, aI a0.fKind), (6, .ptr 0 0)] (by kernel_rfl) ?_
   exact sameN (by kernel_rfl) (by kernel_rfl) h
  ·
   intro Q h
   refine sh 4 [(9, aB false), (8, .undef), (7, .undef), (6, .undef)] (by kernel_rfl) ?_
   exact sameN (by kernel_rfl) (by kernel_rfl) h
  refine sh 1 [(10, aB (x1 && (a0.fKind != 0)))] (by kernel_rfl) ?_
  rcases bif_some hm with ⟨h3, hm⟩ | ⟨h3, hm⟩
  ·
   refine known [10, 9] h3 (by kernel_rfl) (sh 4 [(14, aB ((FloatKind.format .f64).order a0.fFloat 0 != some .eq)), (13, aB ((FloatKind.format .f64).order a0.fFloat 0 != some .eq)), (12, aF a0.fFloat), (11, .ptr 0 2)] (by kernel_rfl) ?_)
   rcases bif_some hm with ⟨h4, hm⟩ | ⟨h4, hm⟩
   ·
    refine known [14, 13] h4 (by kernel_rfl) (sh 7 [(2, aB true), (20, aB true), (19, aB true), (18, .undef), (17, .undef), (16, .undef), (15, .undef)] (by kernel_rfl) (fin [(2, aB true)] rfl (by kernel_rfl) (wp_ret ?_)))
    obtain rfl := Option.some.inj hm
    exact ⟨trivial, by kernel_rfl⟩
   ·
    refine known [14, 13] h4 (by kernel_rfl) (sh 2 [(16, aF a0.fFloat), (15, .ptr 0 2)] (by kernel_rfl) ?_)
    obtain ⟨x5, h6, hm⟩ := bs hm
    refine dv 17 (cpure (by kernel_rfl) (ok_math_Signbit h6) (by kernel_rfl) (by kernel_rfl) (by kernel_rfl)) (by kernel_rfl) (sh 4 [(2, aB (!x5)), (20, aB (!x5)), (19, aB (!x5)), (18, aB (!x5))] (by kernel_rfl) (fin [(2, aB (!x5))] rfl (by kernel_rfl) (wp_ret ?_)))
    obtain rfl := Option.some.inj hm
    exact ⟨trivial, by kernel_rfl⟩
  ·
   refine known [10, 9] h3 (by kernel_rfl) (sh 11 [(2, aB false), (20, aB false), (19, .undef), (18, .undef), (17, .undef), (16, .undef), (15, .undef), (14, .undef), (13, .undef), (12, .undef), (11, .undef)] (by kernel_rfl) (fin [(2, aB false)] rfl (by kernel_rfl) (wp_ret ?_)))
   obtain rfl := Option.some.inj hm
   exact ⟨trivial, by kernel_rfl⟩
theorem ok_math_IsNaN {n : Nat} {a0 : Nat} {r : Bool} (hm : math_IsNaN n a0 = some r) :
    call G n 106 [aF a0] [] = some (.ret (aB r), []) := by
  unfold math_IsNaN at hm
  obtain ⟨n, rfl, h0⟩ := at1_some hm
  replace hm := h0; clear h0
  refine callL 6 [(0, aF a0)] func106 rfl (by kernel_rfl) (sq (detn [(0, aF a0)] (by kernel_rfl) (sq (detn [(2, aB ((FloatKind.format .f64).order a0 a0 != some .eq))] (by kernel_rfl) (wp_ret ?_)))))
  obtain rfl := Option.some.inj hm
  exact ⟨trivial, by kernel_rfl⟩
theorem ok_value_Plain {n : Nat} {a0 : api_Value} {r : api_Value} (hm : value_Plain n a0 = some r) :
    call G n 76 [.agg [aI a0.fKind, aI a0.fInt, aF a0.fFloat, aS a0.fText]] [] = some (.ret (.agg [aI r.fKind, aI r.fInt, aF r.fFloat, aS r.fText]), []) := by
  unfold value_Plain at hm
  obtain ⟨n, rfl, h0⟩ := at1_some hm
  replace hm := h0; clear h0
  refine callL 30 [(0, .agg [aI a0.fKind, aI a0.fInt, aF a0.fFloat, aS a0.fText])] func76 rfl (by kernel_rfl) (sq (det [(1, .ptr 0 0), (2, .ptr 1 0)] [.box [aI a0.fKind, aI a0.fInt, aF a0.fFloat, aS a0.fText] false, .box [aI 0, aI 0, aF 0, aS ByteArray.empty] false] (by kernel_rfl) (sq (bq (sq (rg (sh 1 [(4, .agg [aI a0.fKind, aI a0.fInt, aF a0.fFloat, aS a0.fText])] (by kernel_rfl) ?_)))))))
  obtain ⟨x1, h2, hm⟩ := bs hm
  refine dv 5 (cpure (by kernel_rfl) (ok_value_Right h2) (by kernel_rfl) (by kernel_rfl) (by kernel_rfl)) (by kernel_rfl) (sh 2 [(3, aB (!x1)), (6, aB (!x1))] (by kernel_rfl) (fin [(1, .ptr 0 0), (2, .ptr 1 0), (3, aB (!x1))] rfl (by kernel_rfl) ?_))
  rcases bif_some hm with ⟨h3, hm⟩ | ⟨h3, hm⟩
  ·
   refine ct h3 (by kernel_rfl) (sq (detn [(2, .ptr 1 0)] (by kernel_rfl) (wp_ret ?_)))
   obtain rfl := Option.some.inj hm
   exact ⟨trivial, by kernel_rfl⟩
  ·
   refine cf h3 (by kernel_rfl) ?_
   obtain ⟨k5, hk5, hm⟩ := withK_some hm
   refine mid (fun t H => (∃ (y4 : Bool), k5 y4 = some r ∧ t = mk 30 [(1, .ptr 0 0), (2, .ptr 1 0), (8, aB y4)] ∧ H = [.box [aI a0.fKind, aI a0.fInt, aF a0.fFloat, aS a0.fText] false, .box [aI 0, aI 0, aF 0, aS ByteArray.empty] false])) ?_ ?_
   ·
    rintro _ _ ⟨y4, hm, rfl, rfl⟩
    subst hk5
    rcases bif_some hm with ⟨h6, hm⟩ | ⟨h6, hm⟩
    ·
     refine ct h6 (by kernel_rfl) (rg (sh 1 [(17, aF (Int.toNat 9221120237041090561))] (by kernel_rfl) (st 2 [(18, .ptr 0 2)] [.box [aI a0.fKind, aI a0.fInt, aF (Int.toNat 9221120237041090561), aS a0.fText] false, .box [aI 0, aI 0, aF 0, aS ByteArray.empty] false] (by kernel_rfl) (fin [(1, .ptr 0 0), (2, .ptr 1 0)] rfl (by kernel_rfl) (sq (det [(2, .ptr 1 0)] [.box [aI a0.fKind, aI a0.fInt, aF (Int.toNat 9221120237041090561), aS a0.fText] false, .box [aI a0.fKind, aI a0.fInt, aF (Int.toNat 9221120237041090561), aS a0.fText] false] (by kernel_rfl) (wp_ret ?_)))))))
     obtain rfl := Option.some.inj hm
     exact ⟨trivial, by kernel_rfl⟩
    ·
     refine cf h6 (by kernel_rfl) (sq (rg (sh 4 [(23, aB (a0.fKind == 3)), (22, aB (a0.fKind == 3)), (21, aI a0.fKind), (20, .ptr 0 0)] (by kernel_rfl) ?_)))
     refine seg (a0.fKind == 3) [23, 22] (fun b => [(27, aB (b && ((FloatKind.format .f64).order a0.fFloat 0 == some .eq))), (26, ifA b (aB ((FloatKind.format .f64).order a0.fFloat 0 == some .eq)) (.undef)), (25, ifA b (aF a0.fFloat) (.undef)), (24, ifA b (.ptr 0 2) (.undef))]) 8 (by kernel_rfl) ?_ ?_ ?_
     ·
      intro Q h
      refine sh 4 [(27, aB ((FloatKind.format .f64).order a0.fFloat 0 == some .eq)), (26, aB ((FloatKind.format .f64).order a0.fFloat 0 == some .eq)), (25, aF a0.fFloat), (24, .ptr 0 2)] (by kernel_rfl) ?_
      exact sameN (by kernel_rfl) (by kernel_rfl) h
     ·
      intro Q h
      refine sh 4 [(27, aB false), (26, .undef), (25, .undef), (24, .undef)] (by kernel_rfl) ?_
      exact sameN (by kernel_rfl) (by kernel_rfl) h
     refine sh 1 [(19, aB ((a0.fKind == 3) && ((FloatKind.format .f64).order a0.fFloat 0 == some .eq)))] (by kernel_rfl) (fin [(1, .ptr 0 0), (2, .ptr 1 0), (19, aB ((a0.fKind == 3) && ((FloatKind.format .f64).order a0.fFloat 0 == some .eq)))] rfl (by kernel_rfl) ?_)
     rcases bif_some hm with ⟨h7, hm⟩ | ⟨h7, hm⟩
     ·
      refine ct h7 (by kernel_rfl) (det [(1, .ptr 0 0), (2, .ptr 1 0)] [.box [aI a0.fKind, aI a0.fInt, aF 0, aS a0.fText] false, .box [aI 0, aI 0, aF 0, aS ByteArray.empty] false] (by kernel_rfl) (sq (det [(2, .ptr 1 0)] [.box [aI a0.fKind, aI a0.fInt, aF 0, aS a0.fText] false, .box [aI a0.fKind, aI a0.fInt, aF 0, aS a0.fText] false] (by kernel_rfl) (wp_ret ?_))))
      obtain rfl := Option.some.inj hm
      exact ⟨trivial, by kernel_rfl⟩
     ·
      refine cf h7 (by kernel_rfl) (wp_skip (sq (det [(2, .ptr 1 0)] [.box [aI a0.fKind, aI a0.fInt, aF a0.fFloat, aS a0.fText] false, .box [aI a0.fKind, aI a0.fInt, aF a0.fFloat, aS a0.fText] false] (by kernel_rfl) (wp_ret ?_))))
      obtain rfl := Option.some.inj hm
      exact ⟨trivial, by kernel_rfl⟩
   refine rg (sh 4 [(12, aB (a0.fKind == 3)), (11, aB (a0.fKind == 3)), (10, aI a0.fKind), (9, .ptr 0 0)] (by kernel_rfl) ?_)
   rcases bif_some hm with ⟨h8, hm⟩ | ⟨h8, hm⟩
   ·
    refine known [12, 11] h8 (by kernel_rfl) (sh 2 [(14, aF a0.fFloat), (13, .ptr 0 2)] (by kernel_rfl) ?_)
    obtain ⟨x9, h10, hm⟩ := bs hm
    refine dv 15 (cpure (by kernel_rfl) (ok_math_IsNaN h10) (by kernel_rfl) (by kernel_rfl) (by kernel_rfl)) (by kernel_rfl) (sh 2 [(8, aB x9), (16, aB x9)] (by kernel_rfl) (fin [(1, .ptr 0 0), (2, .ptr 1 0), (8, aB x9)] rfl (by kernel_rfl) ?_))
    exact ⟨x9, hm, rfl, rfl⟩
   ·
    refine known [12, 11] h8 (by kernel_rfl) (sh 5 [(8, aB false), (16, aB false), (15, .undef), (14, .undef), (13, .undef)] (by kernel_rfl) (fin [(1, .ptr 0 0), (2, .ptr 1 0), (8, aB false)] rfl (by kernel_rfl) ?_))
    exact ⟨false, hm, rfl, rfl⟩
theorem ok_cmp_isNaN_int {n : Nat} {a0 : Int} {r : Bool} (hm : cmp_isNaN_int n a0 = some r) :
    call G n 108 [aI a0] [] = some (.ret (aB r), []) := by
  unfold cmp_isNaN_int at hm
  obtain ⟨n, rfl, h0⟩ := at1_some hm
  replace hm := h0; clear h0
  refine callL 6 [(0, aI a0)] func108 rfl (by kernel_rfl) (sq (detn [(0, aI a0)] (by kernel_rfl) (sq (detn [(2, aB (a0 != a0))] (by kernel_rfl) (wp_ret ?_)))))
  obtain rfl := Option.some.inj hm
  exact ⟨trivial, by kernel_rfl⟩
theorem ok_cmp_Compare_int {n : Nat} {a0 : Int} {a1 : Int} {r : Int} (hm : cmp_Compare_int n a0 a1 = some r) :
    call G n 77 [aI a0, aI a1] [] = some (.ret (aI r), []) := by
  unfold cmp_Compare_int at hm
  obtain ⟨n, rfl, h0⟩ := at1_some hm
  replace hm := h0; clear h0
  refine callL 20 [(0, aI a0), (1, aI a1)] func77 rfl (by kernel_rfl) (sq (detn [(0, aI a0), (1, aI a1)] (by kernel_rfl) (sq (rg (sh 1 [(7, aI a0)] (by kernel_rfl) ?_)))))
  obtain ⟨x1, h2, hm⟩ := bs hm
  refine dv 8 (cpure (by kernel_rfl) (ok_cmp_isNaN_int h2) (by kernel_rfl) (by kernel_rfl) (by kernel_rfl)) (by kernel_rfl) (sh 1 [(5, aB x1)] (by kernel_rfl) (fin [(0, aI a0), (1, aI a1), (5, aB x1)] rfl (by kernel_rfl) (sq (rg (sh 1 [(9, aI a1)] (by kernel_rfl) ?_)))))
  obtain ⟨x3, h4, hm⟩ := bs hm
  refine dv 10 (cpure (by kernel_rfl) (ok_cmp_isNaN_int h4) (by kernel_rfl) (by kernel_rfl) (by kernel_rfl)) (by kernel_rfl) (sh 1 [(6, aB x3)] (by kernel_rfl) (fin [(0, aI a0), (1, aI a1), (5, aB x1), (6, aB x3)] rfl (by kernel_rfl) ?_))
  refine sq (sq (detn [(0, aI a0), (1, aI a1), (6, aB x3), (11, aB x1)] (by kernel_rfl) ?_))
  rcases bif_some hm with ⟨h5, hm⟩ | ⟨h5, hm⟩
  ·
   refine ct h5 (by kernel_rfl) (sq (sq (detn [(12, aB x3)] (by kernel_rfl) ?_)))
   rcases bif_some hm with ⟨h6, hm⟩ | ⟨h6, hm⟩
   ·
    refine ct h6 (by kernel_rfl) (sq (detn [(4, aI 0)] (by kernel_rfl) (wp_ret ?_)))
    obtain rfl := Option.some.inj hm
    exact ⟨trivial, by kernel_rfl⟩
   ·
    refine cf h6 (by kernel_rfl) (wp_skip (sq (detn [(4, aI (-1))] (by kernel_rfl) (wp_ret ?_))))
    obtain rfl := Option.some.inj hm
    exact ⟨trivial, by kernel_rfl⟩
  ·
   refine cf h5 (by kernel_rfl) (wp_skip ?_)
   refine sq (sq (detn [(0, aI a0), (1, aI a1), (13, aB x3)] (by kernel_rfl) ?_))
   rcases bif_some hm with ⟨h7, hm⟩ | ⟨h7, hm⟩
   ·
    refine ct h7 (by kernel_rfl) (sq (detn [(4, aI 1)] (by kernel_rfl) (wp_ret ?_)))
    obtain rfl := Option.some.inj hm
    exact ⟨trivial, by kernel_rfl⟩
   ·
    refine cf h7 (by kernel_rfl) (wp_skip (sq (sq (detn [(0, aI a0), (1, aI a1), (16, aB (decide (a0 < a1)))] (by kernel_rfl) ?_))))
    rcases bif_some hm with ⟨h8, hm⟩ | ⟨h8, hm⟩
    ·
     refine ct h8 (by kernel_rfl) (sq (detn [(4, aI (-1))] (by kernel_rfl) (wp_ret ?_)))
     obtain rfl := Option.some.inj hm
     exact ⟨trivial, by kernel_rfl⟩
    ·
     refine cf h8 (by kernel_rfl) (wp_skip (sq (sq (detn [(19, aB (decide (a0 > a1)))] (by kernel_rfl) ?_))))
     rcases bif_some hm with ⟨h9, hm⟩ | ⟨h9, hm⟩
     ·
      refine ct h9 (by kernel_rfl) (sq (detn [(4, aI 1)] (by kernel_rfl) (wp_ret ?_)))
      obtain rfl := Option.some.inj hm
      exact ⟨trivial, by kernel_rfl⟩
     ·
      refine cf h9 (by kernel_rfl) (wp_skip (sq (detn [(4, aI 0)] (by kernel_rfl) (wp_ret ?_))))
      obtain rfl := Option.some.inj hm
      exact ⟨trivial, by kernel_rfl⟩
theorem ok_value_floats {n : Nat} {a0 : Nat} {a1 : Nat} {r : Int} (hm : value_floats n a0 a1 = some r) :
    call G n 78 [aF a0, aF a1] [] = some (.ret (aI r), []) := by
  unfold value_floats at hm
  obtain ⟨n, rfl, h0⟩ := at1_some hm
  replace hm := h0; clear h0
  refine callL 28 [(0, aF a0), (1, aF a1)] func78 rfl (by kernel_rfl) (sq (detn [(0, aF a0), (1, aF a1)] (by kernel_rfl) (sq (sq (rg (sh 1 [(7, aF a0)] (by kernel_rfl) ?_))))))
  obtain ⟨x1, h2, hm⟩ := bs hm
  refine dv 8 (cpure (by kernel_rfl) (ok_math_IsNaN h2) (by kernel_rfl) (by kernel_rfl) (by kernel_rfl)) (by kernel_rfl) (sh 1 [(9, aF a1)] (by kernel_rfl) ?_)
  obtain ⟨x3, h4, hm⟩ := bs hm
  refine dv 10 (cpure (by kernel_rfl) (ok_math_IsNaN h4) (by kernel_rfl) (by kernel_rfl) (by kernel_rfl)) (by kernel_rfl) (sh 2 [(6, aB x3), (5, aB x1)] (by kernel_rfl) (fin [(0, aF a0), (1, aF a1), (5, aB x1), (6, aB x3)] rfl (by kernel_rfl) (bq ?_)))
  refine sq (rg (sh 2 [(13, aB x1), (12, aB x1)] (by kernel_rfl) ?_))
  refine seg x1 [13, 12, 5] (fun b => [(15, aB (b && x3)), (14, ifA b (aB x3) (.undef))]) 4 (by kernel_rfl) ?_ ?_ ?_
  ·
   intro Q h
   refine sh 2 [(15, aB x3), (14, aB x3)] (by kernel_rfl) ?_
   exact sameN (by kernel_rfl) (by kernel_rfl) h
  ·
   intro Q h
   refine sh 2 [(15, aB false), (14, .undef)] (by kernel_rfl) ?_
   exact sameN (by kernel_rfl) (by kernel_rfl) h
  refine sh 1 [(11, aB (x1 && x3))] (by kernel_rfl) (fin [(0, aF a0), (1, aF a1), (5, aB x1), (6, aB x3), (11, aB (x1 && x3))] rfl (by kernel_rfl) ?_)
  rcases bif_some hm with ⟨h5, hm⟩ | ⟨h5, hm⟩
  ·
   refine ct h5 (by kernel_rfl) (sq (detn [(4, aI 0)] (by kernel_rfl) (wp_ret ?_)))
   obtain rfl := Option.some.inj hm
   exact ⟨trivial, by kernel_rfl⟩
  ·
   refine cf h5 (by kernel_rfl) (sq (detn [(0, aF a0), (1, aF a1), (6, aB x3), (16, aB x1)] (by kernel_rfl) ?_))
   rcases bif_some hm with ⟨h6, hm⟩ | ⟨h6, hm⟩
   ·
    refine ct h6 (by kernel_rfl) (sq (detn [(4, aI 1)] (by kernel_rfl) (wp_ret ?_)))
    obtain rfl := Option.some.inj hm
    exact ⟨trivial, by kernel_rfl⟩
   ·
    refine cf h6 (by kernel_rfl) (sq (detn [(0, aF a0), (1, aF a1), (18, aB x3)] (by kernel_rfl) ?_))
    rcases bif_some hm with ⟨h7, hm⟩ | ⟨h7, hm⟩
    ·
     refine ct h7 (by kernel_rfl) (sq (detn [(4, aI (-1))] (by kernel_rfl) (wp_ret ?_)))
     obtain rfl := Option.some.inj hm
     exact ⟨trivial, by kernel_rfl⟩
    ·
     refine cf h7 (by kernel_rfl) (sq (detn [(0, aF a0), (1, aF a1), (20, aB ((FloatKind.format .f64).order a0 a1 == some .lt))] (by kernel_rfl) ?_))
     rcases bif_some hm with ⟨h8, hm⟩ | ⟨h8, hm⟩
     ·
      refine ct h8 (by kernel_rfl) (sq (detn [(4, aI (-1))] (by kernel_rfl) (wp_ret ?_)))
      obtain rfl := Option.some.inj hm
      exact ⟨trivial, by kernel_rfl⟩
     ·
      refine cf h8 (by kernel_rfl) (sq (detn [(24, aB ((FloatKind.format .f64).order a0 a1 == some .gt))] (by kernel_rfl) ?_))
      rcases bif_some hm with ⟨h9, hm⟩ | ⟨h9, hm⟩
      ·
       refine ct h9 (by kernel_rfl) (sq (detn [(4, aI 1)] (by kernel_rfl) (wp_ret ?_)))
       obtain rfl := Option.some.inj hm
       exact ⟨trivial, by kernel_rfl⟩
      ·
       refine cf h9 (by kernel_rfl) (wp_skip (sq (detn [(4, aI 0)] (by kernel_rfl) (wp_ret ?_))))
       obtain rfl := Option.some.inj hm
       exact ⟨trivial, by kernel_rfl⟩
theorem ok_cmp_isNaN_string {n : Nat} {a0 : ByteArray} {r : Bool} (hm : cmp_isNaN_string n a0 = some r) :
    call G n 109 [aS a0] [] = some (.ret (aB r), []) := by
  unfold cmp_isNaN_string at hm
  obtain ⟨n, rfl, h0⟩ := at1_some hm
  replace hm := h0; clear h0
  refine callL 6 [(0, aS a0)] func109 rfl (by kernel_rfl) (sq (detn [(0, aS a0)] (by kernel_rfl) (sq (detn [(2, aB (!(sEq a0 a0)))] (by kernel_rfl) (wp_ret ?_)))))
  obtain rfl := Option.some.inj hm
  exact ⟨trivial, by kernel_rfl⟩
theorem ok_cmp_Compare_string {n : Nat} {a0 : ByteArray} {a1 : ByteArray} {r : Int} (hm : cmp_Compare_string n a0 a1 = some r) :
    call G n 79 [aS a0, aS a1] [] = some (.ret (aI r), []) := by
  unfold cmp_Compare_string at hm
  obtain ⟨n, rfl, h0⟩ := at1_some hm
  replace hm := h0; clear h0
  refine callL 20 [(0, aS a0), (1, aS a1)] func79 rfl (by kernel_rfl) (sq (detn [(0, aS a0), (1, aS a1)] (by kernel_rfl) (sq (rg (sh 1 [(7, aS a0)] (by kernel_rfl) ?_)))))
  obtain ⟨x1, h2, hm⟩ := bs hm
  refine dv 8 (cpure (by kernel_rfl) (ok_cmp_isNaN_string h2) (by kernel_rfl) (by kernel_rfl) (by kernel_rfl)) (by kernel_rfl) (sh 1 [(5, aB x1)] (by kernel_rfl) (fin [(0, aS a0), (1, aS a1), (5, aB x1)] rfl (by kernel_rfl) (sq (rg (sh 1 [(9, aS a1)] (by kernel_rfl) ?_)))))
  obtain ⟨x3, h4, hm⟩ := bs hm
  refine dv 10 (cpure (by kernel_rfl) (ok_cmp_isNaN_string h4) (by kernel_rfl) (by kernel_rfl) (by kernel_rfl)) (by kernel_rfl) (sh 1 [(6, aB x3)] (by kernel_rfl) (fin [(0, aS a0), (1, aS a1), (5, aB x1), (6, aB x3)] rfl (by kernel_rfl) ?_))
  refine sq (sq (detn [(0, aS a0), (1, aS a1), (6, aB x3), (11, aB x1)] (by kernel_rfl) ?_))
  rcases bif_some hm with ⟨h5, hm⟩ | ⟨h5, hm⟩
  ·
   refine ct h5 (by kernel_rfl) (sq (sq (detn [(12, aB x3)] (by kernel_rfl) ?_)))
   rcases bif_some hm with ⟨h6, hm⟩ | ⟨h6, hm⟩
   ·
    refine ct h6 (by kernel_rfl) (sq (detn [(4, aI 0)] (by kernel_rfl) (wp_ret ?_)))
    obtain rfl := Option.some.inj hm
    exact ⟨trivial, by kernel_rfl⟩
   ·
    refine cf h6 (by kernel_rfl) (wp_skip (sq (detn [(4, aI (-1))] (by kernel_rfl) (wp_ret ?_))))
    obtain rfl := Option.some.inj hm
    exact ⟨trivial, by kernel_rfl⟩
  ·
   refine cf h5 (by kernel_rfl) (wp_skip ?_)
   refine sq (sq (detn [(0, aS a0), (1, aS a1), (13, aB x3)] (by kernel_rfl) ?_))
   rcases bif_some hm with ⟨h7, hm⟩ | ⟨h7, hm⟩
   ·
    refine ct h7 (by kernel_rfl) (sq (detn [(4, aI 1)] (by kernel_rfl) (wp_ret ?_)))
    obtain rfl := Option.some.inj hm
    exact ⟨trivial, by kernel_rfl⟩
   ·
    refine cf h7 (by kernel_rfl) (wp_skip (sq (sq (detn [(0, aS a0), (1, aS a1), (16, aB (sLt a0 a1))] (by kernel_rfl) ?_))))
    rcases bif_some hm with ⟨h8, hm⟩ | ⟨h8, hm⟩
    ·
     refine ct h8 (by kernel_rfl) (sq (detn [(4, aI (-1))] (by kernel_rfl) (wp_ret ?_)))
     obtain rfl := Option.some.inj hm
     exact ⟨trivial, by kernel_rfl⟩
    ·
     refine cf h8 (by kernel_rfl) (wp_skip (sq (sq (detn [(19, aB (!(sLt a0 a1 || sEq a0 a1)))] (by kernel_rfl) ?_))))
     rcases bif_some hm with ⟨h9, hm⟩ | ⟨h9, hm⟩
     ·
      refine ct h9 (by kernel_rfl) (sq (detn [(4, aI 1)] (by kernel_rfl) (wp_ret ?_)))
      obtain rfl := Option.some.inj hm
      exact ⟨trivial, by kernel_rfl⟩
     ·
      refine cf h9 (by kernel_rfl) (wp_skip (sq (detn [(4, aI 0)] (by kernel_rfl) (wp_ret ?_))))
      obtain rfl := Option.some.inj hm
      exact ⟨trivial, by kernel_rfl⟩
theorem ok_cmp_isNaN_int64 {n : Nat} {a0 : Int} {r : Bool} (hm : cmp_isNaN_int64 n a0 = some r) :
    call G n 110 [aI a0] [] = some (.ret (aB r), []) := by
  unfold cmp_isNaN_int64 at hm
  obtain ⟨n, rfl, h0⟩ := at1_some hm
  replace hm := h0; clear h0
  refine callL 6 [(0, aI a0)] func110 rfl (by kernel_rfl) (sq (detn [(0, aI a0)] (by kernel_rfl) (sq (detn [(2, aB (a0 != a0))] (by kernel_rfl) (wp_ret ?_)))))
  obtain rfl := Option.some.inj hm
  exact ⟨trivial, by kernel_rfl⟩
theorem ok_cmp_Compare_int64 {n : Nat} {a0 : Int} {a1 : Int} {r : Int} (hm : cmp_Compare_int64 n a0 a1 = some r) :
    call G n 80 [aI a0, aI a1] [] = some (.ret (aI r), []) := by
  unfold cmp_Compare_int64 at hm
  obtain ⟨n, rfl, h0⟩ := at1_some hm
  replace hm := h0; clear h0
  refine callL 20 [(0, aI a0), (1, aI a1)] func80 rfl (by kernel_rfl) (sq (detn [(0, aI a0), (1, aI a1)] (by kernel_rfl) (sq (rg (sh 1 [(7, aI a0)] (by kernel_rfl) ?_)))))
  obtain ⟨x1, h2, hm⟩ := bs hm
  refine dv 8 (cpure (by kernel_rfl) (ok_cmp_isNaN_int64 h2) (by kernel_rfl) (by kernel_rfl) (by kernel_rfl)) (by kernel_rfl) (sh 1 [(5, aB x1)] (by kernel_rfl) (fin [(0, aI a0), (1, aI a1), (5, aB x1)] rfl (by kernel_rfl) (sq (rg (sh 1 [(9, aI a1)] (by kernel_rfl) ?_)))))
  obtain ⟨x3, h4, hm⟩ := bs hm
  refine dv 10 (cpure (by kernel_rfl) (ok_cmp_isNaN_int64 h4) (by kernel_rfl) (by kernel_rfl) (by kernel_rfl)) (by kernel_rfl) (sh 1 [(6, aB x3)] (by kernel_rfl) (fin [(0, aI a0), (1, aI a1), (5, aB x1), (6, aB x3)] rfl (by kernel_rfl) ?_))
  refine sq (sq (detn [(0, aI a0), (1, aI a1), (6, aB x3), (11, aB x1)] (by kernel_rfl) ?_))
  rcases bif_some hm with ⟨h5, hm⟩ | ⟨h5, hm⟩
  ·
   refine ct h5 (by kernel_rfl) (sq (sq (detn [(12, aB x3)] (by kernel_rfl) ?_)))
   rcases bif_some hm with ⟨h6, hm⟩ | ⟨h6, hm⟩
   ·
    refine ct h6 (by kernel_rfl) (sq (detn [(4, aI 0)] (by kernel_rfl) (wp_ret ?_)))
    obtain rfl := Option.some.inj hm
    exact ⟨trivial, by kernel_rfl⟩
   ·
    refine cf h6 (by kernel_rfl) (wp_skip (sq (detn [(4, aI (-1))] (by kernel_rfl) (wp_ret ?_))))
    obtain rfl := Option.some.inj hm
    exact ⟨trivial, by kernel_rfl⟩
  ·
   refine cf h5 (by kernel_rfl) (wp_skip ?_)
   refine sq (sq (detn [(0, aI a0), (1, aI a1), (13, aB x3)] (by kernel_rfl) ?_))
   rcases bif_some hm with ⟨h7, hm⟩ | ⟨h7, hm⟩
   ·
    refine ct h7 (by kernel_rfl) (sq (detn [(4, aI 1)] (by kernel_rfl) (wp_ret ?_)))
    obtain rfl := Option.some.inj hm
    exact ⟨trivial, by kernel_rfl⟩
   ·
    refine cf h7 (by kernel_rfl) (wp_skip (sq (sq (detn [(0, aI a0), (1, aI a1), (16, aB (decide (a0 < a1)))] (by kernel_rfl) ?_))))
    rcases bif_some hm with ⟨h8, hm⟩ | ⟨h8, hm⟩
    ·
     refine ct h8 (by kernel_rfl) (sq (detn [(4, aI (-1))] (by kernel_rfl) (wp_ret ?_)))
     obtain rfl := Option.some.inj hm
     exact ⟨trivial, by kernel_rfl⟩
    ·
     refine cf h8 (by kernel_rfl) (wp_skip (sq (sq (detn [(19, aB (decide (a0 > a1)))] (by kernel_rfl) ?_))))
     rcases bif_some hm with ⟨h9, hm⟩ | ⟨h9, hm⟩
     ·
      refine ct h9 (by kernel_rfl) (sq (detn [(4, aI 1)] (by kernel_rfl) (wp_ret ?_)))
      obtain rfl := Option.some.inj hm
      exact ⟨trivial, by kernel_rfl⟩
     ·
      refine cf h9 (by kernel_rfl) (wp_skip (sq (detn [(4, aI 0)] (by kernel_rfl) (wp_ret ?_))))
      obtain rfl := Option.some.inj hm
      exact ⟨trivial, by kernel_rfl⟩
theorem ok_value_Cmp {n : Nat} {a0 : api_Value} {a1 : api_Value} {r : Int} (hm : value_Cmp n a0 a1 = some r) :
    call G n 41 [.agg [aI a0.fKind, aI a0.fInt, aF a0.fFloat, aS a0.fText], .agg [aI a1.fKind, aI a1.fInt, aF a1.fFloat, aS a1.fText]] [] = some (.ret (aI r), []) := by
  unfold value_Cmp at hm
  obtain ⟨n, rfl, h0⟩ := at1_some hm
  replace hm := h0; clear h0
  refine callL 40 [(0, .agg [aI a0.fKind, aI a0.fInt, aF a0.fFloat, aS a0.fText]), (1, .agg [aI a1.fKind, aI a1.fInt, aF a1.fFloat, aS a1.fText])] func41 rfl (by kernel_rfl) (sq (det [(2, .ptr 0 0), (3, .ptr 1 0)] [.box [aI a0.fKind, aI a0.fInt, aF a0.fFloat, aS a0.fText] false, .box [aI a1.fKind, aI a1.fInt, aF a1.fFloat, aS a1.fText] false] (by kernel_rfl) (sq (rgd (shd 1 [(5, .agg [aI a0.fKind, aI a0.fInt, aF a0.fFloat, aS a0.fText])] (by kernel_rfl) ?_)))))
  obtain ⟨x1, h2, hm⟩ := bs hm
  refine dvd 6 (cpure (by kernel_rfl) (ok_value_Plain h2) (by kernel_rfl) (by kernel_rfl) (by kernel_rfl)) (by kernel_rfl) (shd 1 [(7, .agg [aI a1.fKind, aI a1.fInt, aF a1.fFloat, aS a1.fText])] (by kernel_rfl) ?_)
  obtain ⟨x3, h4, hm⟩ := bs hm
  refine dvd 8 (cpure (by kernel_rfl) (ok_value_Plain h4) (by kernel_rfl) (by kernel_rfl) (by kernel_rfl)) (by kernel_rfl) (std 2 [] [.box [aI x1.fKind, aI x1.fInt, aF x1.fFloat, aS x1.fText] false, .box [aI x3.fKind, aI x3.fInt, aF x3.fFloat, aS x3.fText] false] (by kernel_rfl) (find [(2, .ptr 0 0), (3, .ptr 1 0)] rfl (by kernel_rfl) (by kernel_rfl) ?_))
  refine sq (sq (detn [(2, .ptr 0 0), (3, .ptr 1 0), (13, aB (x1.fKind != x3.fKind))] (by kernel_rfl) ?_))
  rcases bif_some hm with ⟨h5, hm⟩ | ⟨h5, hm⟩
  ·
   refine ct h5 (by kernel_rfl) (sq (rg (sh 4 [(17, aI x3.fKind), (16, .ptr 1 0), (15, aI x1.fKind), (14, .ptr 0 0)] (by kernel_rfl) ?_)))
   obtain ⟨x6, h7, hm⟩ := bs hm
   refine dv 18 (cpure (by kernel_rfl) (ok_cmp_Compare_int h7) (by kernel_rfl) (by kernel_rfl) (by kernel_rfl)) (by kernel_rfl) (sh 1 [(4, aI x6)] (by kernel_rfl) (fin [(4, aI x6)] rfl (by kernel_rfl) (wp_ret ?_)))
   obtain rfl := Option.some.inj hm
   exact ⟨trivial, by kernel_rfl⟩
  ·
   refine cf h5 (by kernel_rfl) (wp_skip (sq (sq (detn [(2, .ptr 0 0), (3, .ptr 1 0), (20, aI x1.fKind)] (by kernel_rfl) (bq (sq (detn [(2, .ptr 0 0), (3, .ptr 1 0), (20, aI x1.fKind), (21, aB (x1.fKind == 3))] (by kernel_rfl) ?_)))))))
   rcases bif_some hm with ⟨h8, hm⟩ | ⟨h8, hm⟩
   ·
    refine ct h8 (by kernel_rfl) (sq (rg (sh 4 [(26, aF x3.fFloat), (25, .ptr 1 2), (24, aF x1.fFloat), (23, .ptr 0 2)] (by kernel_rfl) ?_)))
    obtain ⟨x9, h10, hm⟩ := bs hm
    refine dv 27 (cpure (by kernel_rfl) (ok_value_floats h10) (by kernel_rfl) (by kernel_rfl) (by kernel_rfl)) (by kernel_rfl) (sh 1 [(4, aI x9)] (by kernel_rfl) (fin [(4, aI x9)] rfl (by kernel_rfl) (wp_ret ?_)))
    obtain rfl := Option.some.inj hm
    exact ⟨trivial, by kernel_rfl⟩
   ·
    refine cf h8 (by kernel_rfl) (sq (detn [(2, .ptr 0 0), (3, .ptr 1 0), (28, aB (x1.fKind == 4))] (by kernel_rfl) ?_))
    rcases bif_some hm with ⟨h11, hm⟩ | ⟨h11, hm⟩
    ·
     refine ct h11 (by kernel_rfl) (sq (rg (sh 4 [(33, aS x3.fText), (32, .ptr 1 3), (31, aS x1.fText), (30, .ptr 0 3)] (by kernel_rfl) ?_)))
     obtain ⟨x12, h13, hm⟩ := bs hm
     refine dv 34 (cpure (by kernel_rfl) (ok_cmp_Compare_string h13) (by kernel_rfl) (by kernel_rfl) (by kernel_rfl)) (by kernel_rfl) (sh 1 [(4, aI x12)] (by kernel_rfl) (fin [(4, aI x12)] rfl (by kernel_rfl) (wp_ret ?_)))
     obtain rfl := Option.some.inj hm
     exact ⟨trivial, by kernel_rfl⟩
    ·
     refine cf h11 (by kernel_rfl) (wp_skip (sq (rg (sh 4 [(38, aI x3.fInt), (37, .ptr 1 1), (36, aI x1.fInt), (35, .ptr 0 1)] (by kernel_rfl) ?_))))
     obtain ⟨x14, h15, hm⟩ := bs hm
     refine dv 39 (cpure (by kernel_rfl) (ok_cmp_Compare_int64 h15) (by kernel_rfl) (by kernel_rfl) (by kernel_rfl)) (by kernel_rfl) (sh 1 [(4, aI x14)] (by kernel_rfl) (fin [(4, aI x14)] rfl (by kernel_rfl) (wp_ret ?_)))
     obtain rfl := Option.some.inj hm
     exact ⟨trivial, by kernel_rfl⟩
theorem ok_hist_sound {n : Nat} {a0 : hist_Bucket} {r : Bool} (hm : hist_sound n a0 = some r) :
    call G n 69 [.agg [aI a0.fLow.fKind, aI a0.fLow.fInt, aF a0.fLow.fFloat, aS a0.fLow.fText, aI a0.fHigh.fKind, aI a0.fHigh.fInt, aF a0.fHigh.fFloat, aS a0.fHigh.fText, aI a0.fCount, aI a0.fDistinct]] [] = some (.ret (aB r), []) := by
  unfold hist_sound at hm
  obtain ⟨n, rfl, h0⟩ := at1_some hm
  replace hm := h0; clear h0
  refine callL 60 [(0, .agg [aI a0.fLow.fKind, aI a0.fLow.fInt, aF a0.fLow.fFloat, aS a0.fLow.fText, aI a0.fHigh.fKind, aI a0.fHigh.fInt, aF a0.fHigh.fFloat, aS a0.fHigh.fText, aI a0.fCount, aI a0.fDistinct])] func69 rfl (by kernel_rfl) (sq (det [(1, .ptr 0 0)] [.box [aI a0.fLow.fKind, aI a0.fLow.fInt, aF a0.fLow.fFloat, aS a0.fLow.fText, aI a0.fHigh.fKind, aI a0.fHigh.fInt, aF a0.fHigh.fFloat, aS a0.fHigh.fText, aI a0.fCount, aI a0.fDistinct] false] (by kernel_rfl) ?_))
  refine sq (sq (rg (sh 2 [(5, .agg [aI a0.fLow.fKind, aI a0.fLow.fInt, aF a0.fLow.fFloat, aS a0.fLow.fText]), (4, .ptr 0 0)] (by kernel_rfl) ?_)))
  obtain ⟨x1, h2, hm⟩ := bs hm
  refine dv 6 (cpure (by kernel_rfl) (ok_hist_plain h2) (by kernel_rfl) (by kernel_rfl) (by kernel_rfl)) (by kernel_rfl) (sh 2 [(8, aB (!x1)), (7, aB (!x1))] (by kernel_rfl) ?_)
  rcases bif_some hm with ⟨h3, hm⟩ | ⟨h3, hm⟩
  ·
   refine known [8, 7] h3 (by kernel_rfl) (sh 14 [(22, aB true), (21, .undef), (20, .undef), (19, .undef), (18, .undef), (17, .undef), (16, .undef), (15, .undef), (14, aB true), (13, aB true), (12, .undef), (11, .undef), (10, .undef), (9, .undef)] (by kernel_rfl) (fin [(1, .ptr 0 0), (22, aB true)] rfl (by kernel_rfl) (cT (by kernel_rfl) (sq (detn [(2, aB false)] (by kernel_rfl) (wp_ret ?_))))))
   obtain rfl := Option.some.inj hm
   exact ⟨trivial, by kernel_rfl⟩
  ·
   refine known [8, 7] h3 (by kernel_rfl) (sh 2 [(10, .agg [aI a0.fHigh.fKind, aI a0.fHigh.fInt, aF a0.fHigh.fFloat, aS a0.fHigh.fText]), (9, .ptr 0 4)] (by kernel_rfl) ?_)
   obtain ⟨x4, h5, hm⟩ := bs hm
   refine dv 11 (cpure (by kernel_rfl) (ok_hist_plain h5) (by kernel_rfl) (by kernel_rfl) (by kernel_rfl)) (by kernel_rfl) (sh 3 [(14, aB (!x4)), (13, aB (!x4)), (12, aB (!x4))] (by kernel_rfl) ?_)
   refine seg (!x4) [14, 13, 12] (fun b => [(22, aB (b || (a0.fLow.fKind != a0.fHigh.fKind))), (21, ifA b (.undef) (aB (a0.fLow.fKind != a0.fHigh.fKind))), (20, ifA b (.undef) (aI a0.fHigh.fKind)), (19, ifA b (.undef) (.ptr 0 4)), (18, ifA b (.undef) (.ptr 0 4)), (17, ifA b (.undef) (aI a0.fLow.fKind)), (16, ifA b (.undef) (.ptr 0 0)), (15, ifA b (.undef) (.ptr 0 0))]) 19 (by kernel_rfl) ?_ ?_ ?_
   ·
    intro Q h
    refine sh 8 [(22, aB true), (21, .undef), (20, .undef), (19, .undef), (18, .undef), (17, .undef), (16, .undef), (15, .undef)] (by kernel_rfl) ?_
    exact sameN (by kernel_rfl) (by kernel_rfl) h
   ·
    intro Q h
    refine sh 8 [(22, aB (a0.fLow.fKind != a0.fHigh.fKind)), (21, aB (a0.fLow.fKind != a0.fHigh.fKind)), (20, aI a0.fHigh.fKind), (19, .ptr 0 4), (18, .ptr 0 4), (17, aI a0.fLow.fKind), (16, .ptr 0 0), (15, .ptr 0 0)] (by kernel_rfl) ?_
    exact sameN (by kernel_rfl) (by kernel_rfl) h
   refine fin [(1, .ptr 0 0), (22, aB ((!x4) || (a0.fLow.fKind != a0.fHigh.fKind)))] rfl (by kernel_rfl) ?_
   rcases bif_some hm with ⟨h6, hm⟩ | ⟨h6, hm⟩
   ·
    refine ct h6 (by kernel_rfl) (sq (detn [(2, aB false)] (by kernel_rfl) (wp_ret ?_)))
    obtain rfl := Option.some.inj hm
    exact ⟨trivial, by kernel_rfl⟩
   ·
    refine cf h6 (by kernel_rfl) (wp_skip (sq (rg (sh 4 [(26, .agg [aI a0.fHigh.fKind, aI a0.fHigh.fInt, aF a0.fHigh.fFloat, aS a0.fHigh.fText]), (25, .ptr 0 4), (24, .agg [aI a0.fLow.fKind, aI a0.fLow.fInt, aF a0.fLow.fFloat, aS a0.fLow.fText]), (23, .ptr 0 0)] (by kernel_rfl) ?_))))
    obtain ⟨x7, h8, hm⟩ := bs hm
    refine dv 27 (cpure (by kernel_rfl) (ok_value_Cmp h8) (by kernel_rfl) (by kernel_rfl) (by kernel_rfl)) (by kernel_rfl) (sh 1 [(3, aI x7)] (by kernel_rfl) (fin [(1, .ptr 0 0), (3, aI x7)] rfl (by kernel_rfl) (sq (rg (sh 3 [(30, aB (decide (x7 ≤ 0))), (29, aB (decide (x7 ≤ 0))), (28, aI x7)] (by kernel_rfl) ?_)))))
    refine seg (decide (x7 ≤ 0)) [30, 29] (fun b => [(34, aB (b && (decide (a0.fCount ≥ 1)))), (33, ifA b (aB (decide (a0.fCount ≥ 1))) (.undef)), (32, ifA b (aI a0.fCount) (.undef)), (31, ifA b (.ptr 0 8) (.undef))]) 7 (by kernel_rfl) ?_ ?_ ?_
    ·
     intro Q h
     refine sh 4 [(34, aB (decide (a0.fCount ≥ 1))), (33, aB (decide (a0.fCount ≥ 1))), (32, aI a0.fCount), (31, .ptr 0 8)] (by kernel_rfl) ?_
     exact sameN (by kernel_rfl) (by kernel_rfl) h
    ·
     intro Q h
     refine sh 4 [(34, aB false), (33, .undef), (32, .undef), (31, .undef)] (by kernel_rfl) ?_
     exact sameN (by kernel_rfl) (by kernel_rfl) h
    refine sh 1 [(35, aB ((decide (x7 ≤ 0)) && (decide (a0.fCount ≥ 1))))] (by kernel_rfl) ?_
    refine seg ((decide (x7 ≤ 0)) && (decide (a0.fCount ≥ 1))) [35, 34] (fun b => [(39, aB (b && (decide (a0.fCount ≤ 1000000)))), (38, ifA b (aB (decide (a0.fCount ≤ 1000000))) (.undef)), (37, ifA b (aI a0.fCount) (.undef)), (36, ifA b (.ptr 0 8) (.undef))]) 12 (by kernel_rfl) ?_ ?_ ?_
    ·
     intro Q h
     refine sh 4 [(39, aB (decide (a0.fCount ≤ 1000000))), (38, aB (decide (a0.fCount ≤ 1000000))), (37, aI a0.fCount), (36, .ptr 0 8)] (by kernel_rfl) ?_
     exact sameN (by kernel_rfl) (by kernel_rfl) h
    ·
     intro Q h
     refine sh 4 [(39, aB false), (38, .undef), (37, .undef), (36, .undef)] (by kernel_rfl) ?_
     exact sameN (by kernel_rfl) (by kernel_rfl) h
    refine sh 1 [(40, aB (((decide (x7 ≤ 0)) && (decide (a0.fCount ≥ 1))) && (decide (a0.fCount ≤ 1000000))))] (by kernel_rfl) ?_
    refine seg (((decide (x7 ≤ 0)) && (decide (a0.fCount ≥ 1))) && (decide (a0.fCount ≤ 1000000))) [40, 39] (fun b => [(44, aB (b && (decide (a0.fDistinct ≥ 1)))), (43, ifA b (aB (decide (a0.fDistinct ≥ 1))) (.undef)), (42, ifA b (aI a0.fDistinct) (.undef)), (41, ifA b (.ptr 0 9) (.undef))]) 17 (by kernel_rfl) ?_ ?_ ?_
    ·
     intro Q h
     refine sh 4 [(44, aB (decide (a0.fDistinct ≥ 1))), (43, aB (decide (a0.fDistinct ≥ 1))), (42, aI a0.fDistinct), (41, .ptr 0 9)] (by kernel_rfl) ?_
     exact sameN (by kernel_rfl) (by kernel_rfl) h
    ·
     intro Q h
     refine sh 4 [(44, aB false), (43, .undef), (42, .undef), (41, .undef)] (by kernel_rfl) ?_
     exact sameN (by kernel_rfl) (by kernel_rfl) h
    refine sh 1 [(45, aB ((((decide (x7 ≤ 0)) && (decide (a0.fCount ≥ 1))) && (decide (a0.fCount ≤ 1000000))) && (decide (a0.fDistinct ≥ 1))))] (by kernel_rfl) ?_
    refine seg ((((decide (x7 ≤ 0)) && (decide (a0.fCount ≥ 1))) && (decide (a0.fCount ≤ 1000000))) && (decide (a0.fDistinct ≥ 1))) [45, 44] (fun b => [(51, aB (b && (decide (a0.fDistinct ≤ a0.fCount)))), (50, ifA b (aB (decide (a0.fDistinct ≤ a0.fCount))) (.undef)), (49, ifA b (aI a0.fCount) (.undef)), (48, ifA b (.ptr 0 8) (.undef)), (47, ifA b (aI a0.fDistinct) (.undef)), (46, ifA b (.ptr 0 9) (.undef))]) 24 (by kernel_rfl) ?_ ?_ ?_
    ·
     intro Q h
     refine sh 6 [(51, aB (decide (a0.fDistinct ≤ a0.fCount))), (50, aB (decide (a0.fDistinct ≤ a0.fCount))), (49, aI a0.fCount), (48, .ptr 0 8), (47, aI a0.fDistinct), (46, .ptr 0 9)] (by kernel_rfl) ?_
     exact sameN (by kernel_rfl) (by kernel_rfl) h
    ·
     intro Q h
     refine sh 6 [(51, aB false), (50, .undef), (49, .undef), (48, .undef), (47, .undef), (46, .undef)] (by kernel_rfl) ?_
     exact sameN (by kernel_rfl) (by kernel_rfl) h
    refine sh 1 [(52, aB (((((decide (x7 ≤ 0)) && (decide (a0.fCount ≥ 1))) && (decide (a0.fCount ≤ 1000000))) && (decide (a0.fDistinct ≥ 1))) && (decide (a0.fDistinct ≤ a0.fCount))))] (by kernel_rfl) ?_
    refine seg (((((decide (x7 ≤ 0)) && (decide (a0.fCount ≥ 1))) && (decide (a0.fCount ≤ 1000000))) && (decide (a0.fDistinct ≥ 1))) && (decide (a0.fDistinct ≤ a0.fCount))) [52, 51] (fun b => [(59, aB (b && ((x7 == 0) == (a0.fDistinct == 1)))), (58, ifA b (aB ((x7 == 0) == (a0.fDistinct == 1))) (.undef)), (57, ifA b (aB (a0.fDistinct == 1)) (.undef)), (56, ifA b (aI a0.fDistinct) (.undef)), (55, ifA b (.ptr 0 9) (.undef)), (54, ifA b (aB (x7 == 0)) (.undef)), (53, ifA b (aI x7) (.undef))]) 32 (by kernel_rfl) ?_ ?_ ?_
    ·
     intro Q h
     refine sh 7 [(59, aB ((x7 == 0) == (a0.fDistinct == 1))), (58, aB ((x7 == 0) == (a0.fDistinct == 1))), (57, aB (a0.fDistinct == 1)), (56, aI a0.fDistinct), (55, .ptr 0 9), (54, aB (x7 == 0)), (53, aI x7)] (by kernel_rfl) ?_
     exact sameN (by kernel_rfl) (by kernel_rfl) h
    ·
     intro Q h
     refine sh 7 [(59, aB false), (58, .undef), (57, .undef), (56, .undef), (55, .undef), (54, .undef), (53, .undef)] (by kernel_rfl) ?_
     exact sameN (by kernel_rfl) (by kernel_rfl) h
    refine sh 1 [(2, aB ((((((decide (x7 ≤ 0)) && (decide (a0.fCount ≥ 1))) && (decide (a0.fCount ≤ 1000000))) && (decide (a0.fDistinct ≥ 1))) && (decide (a0.fDistinct ≤ a0.fCount))) && ((x7 == 0) == (a0.fDistinct == 1))))] (by kernel_rfl) (fin [(2, aB ((((((decide (x7 ≤ 0)) && (decide (a0.fCount ≥ 1))) && (decide (a0.fCount ≤ 1000000))) && (decide (a0.fDistinct ≥ 1))) && (decide (a0.fDistinct ≤ a0.fCount))) && ((x7 == 0) == (a0.fDistinct == 1))))] rfl (by kernel_rfl) (wp_ret ?_))
    obtain rfl := Option.some.inj hm
    exact ⟨trivial, by kernel_rfl⟩
theorem ok_hist_Right {n : Nat} {a0 : (Option (List hist_Bucket))} {r : Bool} (hm : hist_Right n a0 = some r) :
    call G n 32 [.pv (encSl R_hist_Bucket a0)] [] = some (.ret (aB r), []) := by
  unfold hist_Right at hm
  obtain ⟨n, rfl, h0⟩ := at1_some hm
  replace hm := h0; clear h0
  refine callL 46 [(0, .pv (encSl R_hist_Bucket a0))] func32 rfl (by kernel_rfl) (sq (detn [(0, .pv (encSl R_hist_Bucket a0))] (by kernel_rfl) ?_))
  refine sq (sq (rg (sh 1 [(5, .pv (encSl R_hist_Bucket a0))] (by kernel_rfl) (dv 6 (v := aI ((sll a0).length : Int)) (len_slO R_hist_Bucket a0 t53 (by kernel_rfl)) (by kernel_rfl) (sh 1 [(7, aB (decide (((sll a0).length : Int) > 50)))] (by kernel_rfl) (fin [(0, .pv (encSl R_hist_Bucket a0)), (7, aB (decide (((sll a0).length : Int) > 50)))] rfl (by kernel_rfl) ?_))))))
  rcases bif_some hm with ⟨h1, hm⟩ | ⟨h1, hm⟩
  ·
   refine ct h1 (by kernel_rfl) (sq (detn [(2, aB false)] (by kernel_rfl) (wp_ret ?_)))
   obtain rfl := Option.some.inj hm
   exact ⟨trivial, by kernel_rfl⟩
  ·
   refine cf h1 (by kernel_rfl) (wp_skip ?_)
   obtain ⟨k4, hk4, hm⟩ := withK_some hm
   refine mid (fun t H => (∃ (y2 : Int) (y3 : Bool), k4 () = some r ∧ t = mk 46 [(0, .pv (encSl R_hist_Bucket a0)), (8, .pv (encSl R_hist_Bucket a0)), (9, aI ((sll a0).length : Int)), (10, aI y2), (11, aB y3)] ∧ H = [])) ?_ ?_
   ·
    rintro _ _ ⟨y2, y3, hm, rfl, rfl⟩
    subst hk4
    refine sq (detn [(2, aB true)] (by kernel_rfl) (wp_ret ?_))
    obtain rfl := Option.some.inj hm
    exact ⟨trivial, by kernel_rfl⟩
   refine sq (rg (sh 1 [(8, .pv (encSl R_hist_Bucket a0))] (by kernel_rfl) (dv 9 (v := aI ((sll a0).length : Int)) (len_slO R_hist_Bucket a0 t53 (by kernel_rfl)) (by kernel_rfl) (sh 1 [(10, aI 0)] (by kernel_rfl) (fin [(0, .pv (encSl R_hist_Bucket a0)), (8, .pv (encSl R_hist_Bucket a0)), (9, aI ((sll a0).length : Int)), (10, aI 0)] rfl (by kernel_rfl) (bq ?_))))))
   refine loopF (fun mm t H => (∃ (y6 : Int), hist_Right_l4 n a0 k4 mm y6 = some r ∧ t = mk 46 [(0, .pv (encSl R_hist_Bucket a0)), (8, .pv (encSl R_hist_Bucket a0)), (9, aI ((sll a0).length : Int)), (10, aI y6)] ∧ H = [])) (⟨0, hm, rfl, rfl⟩) ?_ ?_
   · rintro _ _ ⟨y6, hm, _⟩; exact nomatch hm
   rintro m7 _ _ ⟨y6, hm, rfl, rfl⟩
   simp only [hist_Right_l4] at hm
   refine sq (detn [(0, .pv (encSl R_hist_Bucket a0)), (8, .pv (encSl R_hist_Bucket a0)), (9, aI ((sll a0).length : Int)), (10, aI y6), (11, aB (decide (y6 < ((sll a0).length : Int))))] (by kernel_rfl) ?_)
   refine sq ?_
   rcases bif_some hm with ⟨h8, hm⟩ | ⟨h8, hm⟩
   ·
    refine ct h8 (by kernel_rfl) (wp_skip (sq (bq (sq (rg (sh 1 [(12, aI y6)] (by kernel_rfl) ?_))))))
    obtain ⟨x9, h10, hm⟩ := bs hm
    refine dv 13 (v := .pv (.ptr (R_hist_Bucket x9) 0)) (ia_slO R_hist_Bucket a0 .i64 t53 t77 h10 rfl (by kernel_rfl)) (by kernel_rfl) (st 4 [(3, aI y6), (4, .ptr 0 0), (14, .agg [aI x9.fLow.fKind, aI x9.fLow.fInt, aF x9.fLow.fFloat, aS x9.fLow.fText, aI x9.fHigh.fKind, aI x9.fHigh.fInt, aF x9.fHigh.fFloat, aS x9.fHigh.fText, aI x9.fCount, aI x9.fDistinct])] [.box [aI x9.fLow.fKind, aI x9.fLow.fInt, aF x9.fLow.fFloat, aS x9.fLow.fText, aI x9.fHigh.fKind, aI x9.fHigh.fInt, aF x9.fHigh.fFloat, aS x9.fHigh.fText, aI x9.fCount, aI x9.fDistinct] false] (by kernel_rfl) (fin [(0, .pv (encSl R_hist_Bucket a0)), (3, aI y6), (4, .ptr 0 0), (8, .pv (encSl R_hist_Bucket a0)), (9, aI ((sll a0).length : Int)), (10, aI y6)] rfl (by kernel_rfl) (sq (rgd (shd 1 [(15, .agg [aI x9.fLow.fKind, aI x9.fLow.fInt, aF x9.fLow.fFloat, aS x9.fLow.fText, aI x9.fHigh.fKind, aI x9.fHigh.fInt, aF x9.fHigh.fFloat, aS x9.fHigh.fText, aI x9.fCount, aI x9.fDistinct])] (by kernel_rfl) ?_)))))
    obtain ⟨x11, h12, hm⟩ := bs hm
    refine dvd 16 (cpure (by kernel_rfl) (ok_hist_sound h12) (by kernel_rfl) (by kernel_rfl) (by kernel_rfl)) (by kernel_rfl) (shd 2 [(18, aB (!x11)), (17, aB (!x11))] (by kernel_rfl) ?_)
    rcases bif_some hm with ⟨h13, hm⟩ | ⟨h13, hm⟩
    ·
     refine knownd [18, 17] h13 (by kernel_rfl) (shd 26 [(44, aB true), (43, .undef), (42, .undef), (41, .undef), (40, .undef), (39, .undef), (38, .undef), (37, .undef), (36, .undef), (35, .undef), (34, .undef), (33, .undef), (32, .undef), (31, .undef), (30, .undef), (29, .undef), (28, .undef), (27, .undef), (26, .undef), (25, .undef), (24, .undef), (23, .undef), (22, .undef), (21, .undef), (20, .undef), (19, .undef)] (by kernel_rfl) (find [(0, .pv (encSl R_hist_Bucket a0)), (8, .pv (encSl R_hist_Bucket a0)), (9, aI ((sll a0).length : Int)), (10, aI y6), (44, aB true)] rfl (by kernel_rfl) (by kernel_rfl) (cT (by kernel_rfl) (sq (detn [(2, aB false)] (by kernel_rfl) (wp_ret ?_))))))
     obtain rfl := Option.some.inj hm
     exact ⟨trivial, by kernel_rfl⟩
    ·
     refine knownd [18, 17] h13 (by kernel_rfl) (shd 3 [(21, aB (decide (y6 > 0))), (20, aB (decide (y6 > 0))), (19, aI y6)] (by kernel_rfl) ?_)
     rcases bif_some hm with ⟨h14, hm⟩ | ⟨h14, hm⟩
     ·
      refine knownd [21, 20] h14 (by kernel_rfl) (shd 4 [(25, .pv (encSl R_hist_Bucket a0)), (24, aI x9.fLow.fKind), (23, .ptr 0 0), (22, .ptr 0 0)] (by kernel_rfl) ?_)
      obtain ⟨x15, h16, hm⟩ := bs hm
      refine dvd 26 (v := .pv (.ptr (R_hist_Bucket x15) 0)) (ia_slO R_hist_Bucket a0 .i64 t53 t77 h16 rfl (by kernel_rfl)) (by kernel_rfl) (shd 5 [(31, aB (x9.fLow.fKind != x15.fLow.fKind)), (30, aB (x9.fLow.fKind != x15.fLow.fKind)), (29, aI x15.fLow.fKind), (28, .pv (.ptr (R_hist_Bucket x15) 0)), (27, .pv (.ptr (R_hist_Bucket x15) 0))] (by kernel_rfl) ?_)
      rcases bif_some hm with ⟨h17, hm⟩ | ⟨h17, hm⟩
      ·
       refine knownd [31, 30] h17 (by kernel_rfl) (shd 13 [(44, aB true), (43, aB true), (42, aB true), (41, .undef), (40, .undef), (39, .undef), (38, .undef), (37, .undef), (36, .undef), (35, .undef), (34, .undef), (33, .undef), (32, .undef)] (by kernel_rfl) (find [(0, .pv (encSl R_hist_Bucket a0)), (8, .pv (encSl R_hist_Bucket a0)), (9, aI ((sll a0).length : Int)), (10, aI y6), (44, aB true)] rfl (by kernel_rfl) (by kernel_rfl) (cT (by kernel_rfl) (sq (detn [(2, aB false)] (by kernel_rfl) (wp_ret ?_))))))
       obtain rfl := Option.some.inj hm
       exact ⟨trivial, by kernel_rfl⟩
      ·
       refine knownd [31, 30] h17 (by kernel_rfl) (shd 3 [(34, aI (IntKind.wrap .i64 (y6 - 1))), (33, aI y6), (32, .pv (encSl R_hist_Bucket a0))] (by kernel_rfl) ?_)
       obtain ⟨x18, h19, hm⟩ := bs hm
       refine dvd 35 (v := .pv (.ptr (R_hist_Bucket x18) 0)) (ia_slO R_hist_Bucket a0 .i64 t53 t77 h19 rfl (by kernel_rfl)) (by kernel_rfl) (shd 4 [(39, .agg [aI x9.fLow.fKind, aI x9.fLow.fInt, aF x9.fLow.fFloat, aS x9.fLow.fText]), (38, .ptr 0 0), (37, .agg [aI x18.fHigh.fKind, aI x18.fHigh.fInt, aF x18.fHigh.fFloat, aS x18.fHigh.fText]), (36, .pv (.ptr (R_hist_Bucket x18) 4))] (by kernel_rfl) ?_)
       obtain ⟨x20, h21, hm⟩ := bs hm
       refine dvd 40 (cpure (by kernel_rfl) (ok_value_Cmp h21) (by kernel_rfl) (by kernel_rfl) (by kernel_rfl)) (by kernel_rfl) (shd 4 [(44, aB (decide (x20 ≥ 0))), (43, aB (decide (x20 ≥ 0))), (42, aB (decide (x20 ≥ 0))), (41, aB (decide (x20 ≥ 0)))] (by kernel_rfl) (find [(0, .pv (encSl R_hist_Bucket a0)), (8, .pv (encSl R_hist_Bucket a0)), (9, aI ((sll a0).length : Int)), (10, aI y6), (44, aB (decide (x20 ≥ 0)))] rfl (by kernel_rfl) (by kernel_rfl) ?_))
       rcases bif_some hm with ⟨h22, hm⟩ | ⟨h22, hm⟩
       ·
        refine ct h22 (by kernel_rfl) (sq (detn [(2, aB false)] (by kernel_rfl) (wp_ret ?_)))
        obtain rfl := Option.some.inj hm
        exact ⟨trivial, by kernel_rfl⟩
       ·
        refine cf h22 (by kernel_rfl) (wp_skip (detn [(0, .pv (encSl R_hist_Bucket a0)), (8, .pv (encSl R_hist_Bucket a0)), (9, aI ((sll a0).length : Int)), (10, aI (IntKind.wrap .i64 (y6 + 1)))] (by kernel_rfl) ?_))
        exact ⟨_, _, tidyL [(0, .pv (encSl R_hist_Bucket a0)), (8, .pv (encSl R_hist_Bucket a0)), (9, aI ((sll a0).length : Int)), (10, aI (IntKind.wrap .i64 (y6 + 1)))] [] (by kernel_rfl), ⟨(IntKind.wrap .i64 (y6 + 1)), hm, rfl, rfl⟩⟩
     ·
      refine knownd [21, 20] h14 (by kernel_rfl) (shd 23 [(44, aB false), (43, aB false), (42, .undef), (41, .undef), (40, .undef), (39, .undef), (38, .undef), (37, .undef), (36, .undef), (35, .undef), (34, .undef), (33, .undef), (32, .undef), (31, .undef), (30, .undef), (29, .undef), (28, .undef), (27, .undef), (26, .undef), (25, .undef), (24, .undef), (23, .undef), (22, .undef)] (by kernel_rfl) (find [(0, .pv (encSl R_hist_Bucket a0)), (8, .pv (encSl R_hist_Bucket a0)), (9, aI ((sll a0).length : Int)), (10, aI y6), (44, aB false)] rfl (by kernel_rfl) (by kernel_rfl) (cF (by kernel_rfl) (wp_skip (detn [(0, .pv (encSl R_hist_Bucket a0)), (8, .pv (encSl R_hist_Bucket a0)), (9, aI ((sll a0).length : Int)), (10, aI (IntKind.wrap .i64 (y6 + 1)))] (by kernel_rfl) ?_)))))
      exact ⟨_, _, tidyL [(0, .pv (encSl R_hist_Bucket a0)), (8, .pv (encSl R_hist_Bucket a0)), (9, aI ((sll a0).length : Int)), (10, aI (IntKind.wrap .i64 (y6 + 1)))] [] (by kernel_rfl), ⟨(IntKind.wrap .i64 (y6 + 1)), hm, rfl, rfl⟩⟩
   ·
    refine cf h8 (by kernel_rfl) (wp_exit ?_)
    exact ⟨y6, (decide (y6 < ((sll a0).length : Int))), hm, rfl, rfl⟩
theorem ok_hll_Right {n : Nat} {a0 : hll_Sketch} {r : Bool} (hm : hll_Right n a0 = some r) :
    call G n 86 [.agg (aA .u8 64 a0.fRegs)] [] = some (.ret (aB r), []) := by
  unfold hll_Right at hm
  obtain ⟨n, rfl, h0⟩ := at1_some hm
  replace hm := h0; clear h0
  refine callL 13 [(0, .agg (aA .u8 64 a0.fRegs))] func86 rfl (by kernel_rfl) (sq (det [(1, .ptr 0 0)] [.box (aA .u8 64 a0.fRegs) false] (by kernel_rfl) ?_))
  obtain ⟨k3, hk3, hm⟩ := withK_some hm
  refine mid (fun t H => (∃ (y1 : Int) (y2 : Bool), k3 () = some r ∧ t = mk 13 [(6, .agg (aA .u8 64 a0.fRegs)), (7, aI y1), (8, aB y2)] ∧ H = [.box (aA .u8 64 a0.fRegs) false])) ?_ ?_
  ·
   rintro _ _ ⟨y1, y2, hm, rfl, rfl⟩
   subst hk3
   refine sq (detn [(2, aB true)] (by kernel_rfl) (wp_ret ?_))
   obtain rfl := Option.some.inj hm
   exact ⟨trivial, by kernel_rfl⟩
  refine sq (detn [(6, .agg (aA .u8 64 a0.fRegs)), (7, aI 0)] (by kernel_rfl) (bq ?_))
  refine loopF (fun mm t H => (∃ (y5 : Int), hll_Right_l2 n a0 k3 mm y5 = some r ∧ t = mk 13 [(6, .agg (aA .u8 64 a0.fRegs)), (7, aI y5)] ∧ H = [.box (aA .u8 64 a0.fRegs) false])) (⟨0, hm, rfl, rfl⟩) ?_ ?_
  · rintro _ _ ⟨y5, hm, _⟩; exact nomatch hm
  rintro m6 _ _ ⟨y5, hm, rfl, rfl⟩
  simp only [hll_Right_l2] at hm
  refine sq (detn [(6, .agg (aA .u8 64 a0.fRegs)), (7, aI y5), (8, aB (decide (y5 < 64)))] (by kernel_rfl) ?_)
  refine sq ?_
  rcases bif_some hm with ⟨h7, hm⟩ | ⟨h7, hm⟩
  ·
   refine ct h7 (by kernel_rfl) (wp_skip (sq (bq (sq (rg ?_)))))
   obtain ⟨_, h8, hm⟩ := bs hm
   refine dv 9 (v := aY (a0.fRegs (Int.toNat y5))) (ix_arrO (k := .u8) (n := 64) a0.fRegs .i64 t85 t5 rfl rfl h8 (by kernel_rfl)) (by kernel_rfl) (sh 1 [(4, aY (a0.fRegs (Int.toNat y5)))] (by kernel_rfl) (fin [(4, aY (a0.fRegs (Int.toNat y5))), (6, .agg (aA .u8 64 a0.fRegs)), (7, aI y5)] rfl (by kernel_rfl) (sq (detn [(6, .agg (aA .u8 64 a0.fRegs)), (7, aI y5), (11, aB (decide ((a0.fRegs (Int.toNat y5)) > 59)))] (by kernel_rfl) ?_))))
   rcases bif_some hm with ⟨h9, hm⟩ | ⟨h9, hm⟩
   ·
    refine ct h9 (by kernel_rfl) (sq (detn [(2, aB false)] (by kernel_rfl) (wp_ret ?_)))
    obtain rfl := Option.some.inj hm
    exact ⟨trivial, by kernel_rfl⟩
   ·
    refine cf h9 (by kernel_rfl) (wp_skip (detn [(6, .agg (aA .u8 64 a0.fRegs)), (7, aI (IntKind.wrap .i64 (y5 + 1)))] (by kernel_rfl) ?_))
    exact ⟨_, _, tidyL [(6, .agg (aA .u8 64 a0.fRegs)), (7, aI (IntKind.wrap .i64 (y5 + 1)))] [.box (aA .u8 64 a0.fRegs) false] (by kernel_rfl), ⟨(IntKind.wrap .i64 (y5 + 1)), hm, rfl, rfl⟩⟩
  ·
   refine cf h7 (by kernel_rfl) (wp_exit ?_)
   exact ⟨y5, (decide (y5 < 64)), hm, rfl, rfl⟩
theorem ok_stat_column_2 {n : Nat} {a0 : api_Value} {a1 : Int} {a2 : Int} {a3 : Int} {a4 : (Option (List hist_Bucket))} {a5 : (Option (List api_Value))} {a6 : (Nat → Int)} {r : Bool} (hm : stat_column_2 n a0 a1 a2 a3 a4 a5 a6 = some r) :
    call G n 88 [.agg [aI a0.fKind, aI a0.fInt, aF a0.fFloat, aS a0.fText], .pv (.ptr ([.int .i64 a1, .int .i64 a2, .int .i64 a3, encSl R_hist_Bucket a4, encSl R_api_Value a5] ++ (rA .u8 64 a6)) 0)] [] = some (.ret (aB r), []) := by
  unfold stat_column_2 at hm
  obtain ⟨n, rfl, h0⟩ := at1_some hm
  replace hm := h0; clear h0
  refine callL 19 [(0, .agg [aI a0.fKind, aI a0.fInt, aF a0.fFloat, aS a0.fText]), (1, .pv (.ptr ([.int .i64 a1, .int .i64 a2, .int .i64 a3, encSl R_hist_Bucket a4, encSl R_api_Value a5] ++ (rA .u8 64 a6)) 0))] func88 rfl (by kernel_rfl) (sq (det [(1, .pv (.ptr ([.int .i64 a1, .int .i64 a2, .int .i64 a3, encSl R_hist_Bucket a4, encSl R_api_Value a5] ++ (rA .u8 64 a6)) 0)), (2, .ptr 0 0)] [.box [aI a0.fKind, aI a0.fInt, aF a0.fFloat, aS a0.fText] false] (by kernel_rfl) (sq (rg (sh 1 [(4, .agg [aI a0.fKind, aI a0.fInt, aF a0.fFloat, aS a0.fText])] (by kernel_rfl) ?_)))))
  obtain ⟨x1, h2, hm⟩ := bs hm
  refine dv 5 (cpure (by kernel_rfl) (ok_value_Right h2) (by kernel_rfl) (by kernel_rfl) (by kernel_rfl)) (by kernel_rfl) (sh 2 [(7, aB (!x1)), (6, aB (!x1))] (by kernel_rfl) ?_)
  refine seg (!x1) [7, 6] (fun b => [(18, aB (b || ((a0.fKind != 0) && (a0.fKind != a1)))), (17, ifA b (.undef) (aB ((a0.fKind != 0) && (a0.fKind != a1)))), (16, ifA b (.undef) (ifA (a0.fKind != 0) (aB (a0.fKind != a1)) (.undef))), (15, ifA b (.undef) (ifA (a0.fKind != 0) (aI a1) (.undef))), (14, ifA b (.undef) (ifA (a0.fKind != 0) (.pv (.ptr ([.int .i64 a1, .int .i64 a2, .int .i64 a3, encSl R_hist_Bucket a4, encSl R_api_Value a5] ++ (rA .u8 64 a6)) 0)) (.undef))), (13, ifA b (.undef) (ifA (a0.fKind != 0) (aI a0.fKind) (.undef))), (12, ifA b (.undef) (ifA (a0.fKind != 0) (.ptr 0 0) (.undef))), (11, ifA b (.undef) (aB (a0.fKind != 0))), (10, ifA b (.undef) (aB (a0.fKind != 0))), (9, ifA b (.undef) (aI a0.fKind)), (8, ifA b (.undef) (.ptr 0 0))]) 15 (by kernel_rfl) ?_ ?_ ?_
  ·
   intro Q h
   refine sh 11 [(18, aB true), (17, .undef), (16, .undef), (15, .undef), (14, .undef), (13, .undef), (12, .undef), (11, .undef), (10, .undef), (9, .undef), (8, .undef)] (by kernel_rfl) ?_
   exact sameN (by kernel_rfl) (by kernel_rfl) h
  ·
   intro Q h
   refine sh 4 [(11, aB (a0.fKind != 0)), (10, aB (a0.fKind != 0)), (9, aI a0.fKind), (8, .ptr 0 0)] (by kernel_rfl) ?_
   refine seg (a0.fKind != 0) [11, 10] (fun b => [(17, aB (b && (a0.fKind != a1))), (16, ifA b (aB (a0.fKind != a1)) (.undef)), (15, ifA b (aI a1) (.undef)), (14, ifA b (.pv (.ptr ([.int .i64 a1, .int .i64 a2, .int .i64 a3, encSl R_hist_Bucket a4, encSl R_api_Value a5] ++ (rA .u8 64 a6)) 0)) (.undef)), (13, ifA b (aI a0.fKind) (.undef)), (12, ifA b (.ptr 0 0) (.undef))]) 14 (by kernel_rfl) ?_ ?_ ?_
   ·
    intro Q h
    refine sh 6 [(17, aB (a0.fKind != a1)), (16, aB (a0.fKind != a1)), (15, aI a1), (14, .pv (.ptr ([.int .i64 a1, .int .i64 a2, .int .i64 a3, encSl R_hist_Bucket a4, encSl R_api_Value a5] ++ (rA .u8 64 a6)) 0)), (13, aI a0.fKind), (12, .ptr 0 0)] (by kernel_rfl) ?_
    exact sameN (by kernel_rfl) (by kernel_rfl) h
   ·
    intro Q h
    refine sh 6 [(17, aB false), (16, .undef), (15, .undef), (14, .undef), (13, .undef), (12, .undef)] (by kernel_rfl) ?_
    exact sameN (by kernel_rfl) (by kernel_rfl) h
   refine sh 1 [(18, aB ((a0.fKind != 0) && (a0.fKind != a1)))] (by kernel_rfl) ?_
   exact sameN (by kernel_rfl) (by kernel_rfl) h
  refine sh 1 [(3, aB ((!x1) || ((a0.fKind != 0) && (a0.fKind != a1))))] (by kernel_rfl) (fin [(3, aB ((!x1) || ((a0.fKind != 0) && (a0.fKind != a1))))] rfl (by kernel_rfl) (wp_ret ?_))
  obtain rfl := Option.some.inj hm
  exact ⟨trivial, by kernel_rfl⟩
theorem ok_slices_IndexFunc_Value_stat_column_2 {n : Nat} {a0 : (Option (List api_Value))} {a1 : Int} {a2 : Int} {a3 : Int} {a4 : (Option (List hist_Bucket))} {a5 : (Option (List api_Value))} {a6 : (Nat → Int)} {r : Int} (hm : slices_IndexFunc_Value_stat_column_2 n a0 a1 a2 a3 a4 a5 a6 = some r) :
    call G n 115 [.pv (encSl R_api_Value a0), .pv (.fn 88 [] [.ptr ([.int .i64 a1, .int .i64 a2, .int .i64 a3, encSl R_hist_Bucket a4, encSl R_api_Value a5] ++ (rA .u8 64 a6)) 0])] [] = some (.ret (aI r), []) := by
  unfold slices_IndexFunc_Value_stat_column_2 at hm
  obtain ⟨n, rfl, h0⟩ := at1_some hm
  replace hm := h0; clear h0
  refine callL 19 [(0, .pv (encSl R_api_Value a0)), (1, .pv (.fn 88 [] [.ptr ([.int .i64 a1, .int .i64 a2, .int .i64 a3, encSl R_hist_Bucket a4, encSl R_api_Value a5] ++ (rA .u8 64 a6)) 0]))] func115 rfl (by kernel_rfl) (sq (detn [(0, .pv (encSl R_api_Value a0)), (1, .pv (.fn 88 [] [.ptr ([.int .i64 a1, .int .i64 a2, .int .i64 a3, encSl R_hist_Bucket a4, encSl R_api_Value a5] ++ (rA .u8 64 a6)) 0]))] (by kernel_rfl) ?_))
  obtain ⟨k3, hk3, hm⟩ := withK_some hm
  refine mid (fun t H => (∃ (y1 : Int) (y2 : Bool), k3 () = some r ∧ t = mk 19 [(0, .pv (encSl R_api_Value a0)), (1, .pv (.fn 88 [] [.ptr ([.int .i64 a1, .int .i64 a2, .int .i64 a3, encSl R_hist_Bucket a4, encSl R_api_Value a5] ++ (rA .u8 64 a6)) 0])), (7, aI ((sll a0).length : Int)), (8, aI y1), (9, aB y2)] ∧ H = [])) ?_ ?_
  ·
   rintro _ _ ⟨y1, y2, hm, rfl, rfl⟩
   subst hk3
   refine sq (detn [(4, aI (-1))] (by kernel_rfl) (wp_ret ?_))
   obtain rfl := Option.some.inj hm
   exact ⟨trivial, by kernel_rfl⟩
  refine sq (rg (sh 1 [(6, .pv (encSl R_api_Value a0))] (by kernel_rfl) (dv 7 (v := aI ((sll a0).length : Int)) (len_slO R_api_Value a0 t52 (by kernel_rfl)) (by kernel_rfl) (sh 1 [(8, aI 0)] (by kernel_rfl) (fin [(0, .pv (encSl R_api_Value a0)), (1, .pv (.fn 88 [] [.ptr ([.int .i64 a1, .int .i64 a2, .int .i64 a3, encSl R_hist_Bucket a4, encSl R_api_Value a5] ++ (rA .u8 64 a6)) 0])), (7, aI ((sll a0).length : Int)), (8, aI 0)] rfl (by kernel_rfl) (bq ?_))))))
  refine loopF (fun mm t H => (∃ (y5 : Int), slices_IndexFunc_Value_stat_column_2_l2 n a0 a1 a2 a3 a4 a5 a6 k3 mm y5 = some r ∧ t = mk 19 [(0, .pv (encSl R_api_Value a0)), (1, .pv (.fn 88 [] [.ptr ([.int .i64 a1, .int .i64 a2, .int .i64 a3, encSl R_hist_Bucket a4, encSl R_api_Value a5] ++ (rA .u8 64 a6)) 0])), (7, aI ((sll a0).length : Int)), (8, aI y5)] ∧ H = [])) (⟨0, hm, rfl, rfl⟩) ?_ ?_
  · rintro _ _ ⟨y5, hm, _⟩; exact nomatch hm
  rintro m6 _ _ ⟨y5, hm, rfl, rfl⟩
  simp only [slices_IndexFunc_Value_stat_column_2_l2] at hm
  refine sq (detn [(0, .pv (encSl R_api_Value a0)), (1, .pv (.fn 88 [] [.ptr ([.int .i64 a1, .int .i64 a2, .int .i64 a3, encSl R_hist_Bucket a4, encSl R_api_Value a5] ++ (rA .u8 64 a6)) 0])), (7, aI ((sll a0).length : Int)), (8, aI y5), (9, aB (decide (y5 < ((sll a0).length : Int))))] (by kernel_rfl) ?_)
  refine sq ?_
  rcases bif_some hm with ⟨h7, hm⟩ | ⟨h7, hm⟩
  ·
   refine ct h7 (by kernel_rfl) (wp_skip (sq (bq (sq (detn [(0, .pv (encSl R_api_Value a0)), (1, .pv (.fn 88 [] [.ptr ([.int .i64 a1, .int .i64 a2, .int .i64 a3, encSl R_hist_Bucket a4, encSl R_api_Value a5] ++ (rA .u8 64 a6)) 0])), (5, aI y5), (7, aI ((sll a0).length : Int)), (8, aI y5)] (by kernel_rfl) (sq (rg (sh 3 [(13, aI y5), (12, .pv (encSl R_api_Value a0)), (11, .pv (.fn 88 [] [.ptr ([.int .i64 a1, .int .i64 a2, .int .i64 a3, encSl R_hist_Bucket a4, encSl R_api_Value a5] ++ (rA .u8 64 a6)) 0]))] (by kernel_rfl) ?_))))))))
   obtain ⟨x8, h9, hm⟩ := bs hm
   refine dv 14 (v := .pv (.ptr (R_api_Value x8) 0)) (ia_slO R_api_Value a0 .i64 t52 t64 h9 rfl (by kernel_rfl)) (by kernel_rfl) (sh 1 [(15, .agg [aI x8.fKind, aI x8.fInt, aF x8.fFloat, aS x8.fText])] (by kernel_rfl) ?_)
   obtain ⟨x10, h11, hm⟩ := bs hm
   refine dv 16 (cpure (by kernel_rfl) (ok_stat_column_2 h11) (by kernel_rfl) (by kernel_rfl) (by kernel_rfl)) (by kernel_rfl) (fin [(0, .pv (encSl R_api_Value a0)), (1, .pv (.fn 88 [] [.ptr ([.int .i64 a1, .int .i64 a2, .int .i64 a3, encSl R_hist_Bucket a4, encSl R_api_Value a5] ++ (rA .u8 64 a6)) 0])), (5, aI y5), (7, aI ((sll a0).length : Int)), (8, aI y5), (16, aB x10)] rfl (by kernel_rfl) ?_)
   rcases bif_some hm with ⟨h12, hm⟩ | ⟨h12, hm⟩
   ·
    refine ct h12 (by kernel_rfl) (sq (detn [(4, aI y5)] (by kernel_rfl) (wp_ret ?_)))
    obtain rfl := Option.some.inj hm
    exact ⟨trivial, by kernel_rfl⟩
   ·
    refine cf h12 (by kernel_rfl) (wp_skip (detn [(0, .pv (encSl R_api_Value a0)), (1, .pv (.fn 88 [] [.ptr ([.int .i64 a1, .int .i64 a2, .int .i64 a3, encSl R_hist_Bucket a4, encSl R_api_Value a5] ++ (rA .u8 64 a6)) 0])), (7, aI ((sll a0).length : Int)), (8, aI (IntKind.wrap .i64 (y5 + 1)))] (by kernel_rfl) ?_))
    exact ⟨_, _, tidyL [(0, .pv (encSl R_api_Value a0)), (1, .pv (.fn 88 [] [.ptr ([.int .i64 a1, .int .i64 a2, .int .i64 a3, encSl R_hist_Bucket a4, encSl R_api_Value a5] ++ (rA .u8 64 a6)) 0])), (7, aI ((sll a0).length : Int)), (8, aI (IntKind.wrap .i64 (y5 + 1)))] [] (by kernel_rfl), ⟨(IntKind.wrap .i64 (y5 + 1)), hm, rfl, rfl⟩⟩
  ·
   refine cf h7 (by kernel_rfl) (wp_exit ?_)
   exact ⟨y5, (decide (y5 < ((sll a0).length : Int))), hm, rfl, rfl⟩
theorem ok_slices_ContainsFunc_Value_stat_column_2 {n : Nat} {a0 : (Option (List api_Value))} {a1 : Int} {a2 : Int} {a3 : Int} {a4 : (Option (List hist_Bucket))} {a5 : (Option (List api_Value))} {a6 : (Nat → Int)} {r : Bool} (hm : slices_ContainsFunc_Value_stat_column_2 n a0 a1 a2 a3 a4 a5 a6 = some r) :
    call G n 87 [.pv (encSl R_api_Value a0), .pv (.fn 88 [] [.ptr ([.int .i64 a1, .int .i64 a2, .int .i64 a3, encSl R_hist_Bucket a4, encSl R_api_Value a5] ++ (rA .u8 64 a6)) 0])] [] = some (.ret (aB r), []) := by
  unfold slices_ContainsFunc_Value_stat_column_2 at hm
  obtain ⟨n, rfl, h0⟩ := at1_some hm
  replace hm := h0; clear h0
  refine callL 9 [(0, .pv (encSl R_api_Value a0)), (1, .pv (.fn 88 [] [.ptr ([.int .i64 a1, .int .i64 a2, .int .i64 a3, encSl R_hist_Bucket a4, encSl R_api_Value a5] ++ (rA .u8 64 a6)) 0]))] func87 rfl (by kernel_rfl) (sq (detn [(0, .pv (encSl R_api_Value a0)), (1, .pv (.fn 88 [] [.ptr ([.int .i64 a1, .int .i64 a2, .int .i64 a3, encSl R_hist_Bucket a4, encSl R_api_Value a5] ++ (rA .u8 64 a6)) 0]))] (by kernel_rfl) (sq (rg (sh 2 [(6, .pv (.fn 88 [] [.ptr ([.int .i64 a1, .int .i64 a2, .int .i64 a3, encSl R_hist_Bucket a4, encSl R_api_Value a5] ++ (rA .u8 64 a6)) 0])), (5, .pv (encSl R_api_Value a0))] (by kernel_rfl) ?_)))))
  obtain ⟨x1, h2, hm⟩ := bs hm
  refine dv 7 (cpure (by kernel_rfl) (ok_slices_IndexFunc_Value_stat_column_2 h2) (by kernel_rfl) (by kernel_rfl) (by kernel_rfl)) (by kernel_rfl) (sh 2 [(4, aB (decide (x1 ≥ 0))), (8, aB (decide (x1 ≥ 0)))] (by kernel_rfl) (fin [(4, aB (decide (x1 ≥ 0)))] rfl (by kernel_rfl) (wp_ret ?_)))
  obtain rfl := Option.some.inj hm
  exact ⟨trivial, by kernel_rfl⟩
theorem ok_stat_column {n : Nat} {a0 : stat_Col} {a1 : Int} {r : Bool} (hm : stat_column n a0 a1 = some r) :
    call G n 47 [.agg ([aI a0.fKind, aI a0.fNulls, aI a0.fDistinct, .pv (encSl R_hist_Bucket a0.fHist), .pv (encSl R_api_Value a0.fSample)] ++ (aA .u8 64 a0.fSketch.fRegs)), aI a1] [] = some (.ret (aB r), []) := by
  unfold stat_column at hm
  obtain ⟨n, rfl, h0⟩ := at1_some hm
  replace hm := h0; clear h0
  refine callL 68 [(0, .agg ([aI a0.fKind, aI a0.fNulls, aI a0.fDistinct, .pv (encSl R_hist_Bucket a0.fHist), .pv (encSl R_api_Value a0.fSample)] ++ (aA .u8 64 a0.fSketch.fRegs))), (1, aI a1)] func47 rfl (by kernel_rfl) (sq (det [(2, .ptr 0 0), (3, .ptr 1 0)] [.box ([aI a0.fKind, aI a0.fNulls, aI a0.fDistinct, .pv (encSl R_hist_Bucket a0.fHist), .pv (encSl R_api_Value a0.fSample)] ++ (aA .u8 64 a0.fSketch.fRegs)) false, .box [aI a1] false] (by kernel_rfl) (sq (detn [(2, .ptr 0 0), (5, .fn 85 [] [.ptr 1 0])] (by kernel_rfl) (sq (bq ?_))))))
  obtain ⟨k2, hk2, hm⟩ := withK_some hm
  refine mid (fun t H => (∃ (y1 : Bool), k2 y1 = some r ∧ t = mk 68 [(2, .ptr 0 0), (7, aB y1)] ∧ H = [.box ([aI a0.fKind, aI a0.fNulls, aI a0.fDistinct, .pv (encSl R_hist_Bucket a0.fHist), .pv (encSl R_api_Value a0.fSample)] ++ (aA .u8 64 a0.fSketch.fRegs)) false, .box [aI a1] false])) ?_ ?_
  ·
   rintro _ _ ⟨y1, hm, rfl, rfl⟩
   subst hk2
   rcases bif_some hm with ⟨h3, hm⟩ | ⟨h3, hm⟩
   ·
    refine ct h3 (by kernel_rfl) (sq (detn [(4, aB false)] (by kernel_rfl) (wp_ret ?_)))
    obtain rfl := Option.some.inj hm
    exact ⟨trivial, by kernel_rfl⟩
   ·
    refine cf h3 (by kernel_rfl) ?_
    obtain ⟨k5, hk5, hm⟩ := withK_some hm
    refine mid (fun t H => (∃ (y4 : Bool), k5 y4 = some r ∧ t = mk 68 [(2, .ptr 0 0), (30, aB y4)] ∧ H = [.box ([aI a0.fKind, aI a0.fNulls, aI a0.fDistinct, .pv (encSl R_hist_Bucket a0.fHist), .pv (encSl R_api_Value a0.fSample)] ++ (aA .u8 64 a0.fSketch.fRegs)) false, .box [aI a1] false])) ?_ ?_
    ·
     rintro _ _ ⟨y4, hm, rfl, rfl⟩
     subst hk5
     rcases bif_some hm with ⟨h6, hm⟩ | ⟨h6, hm⟩
     ·
      refine ct h6 (by kernel_rfl) (sq (detn [(4, aB false)] (by kernel_rfl) (wp_ret ?_)))
      obtain rfl := Option.some.inj hm
      exact ⟨trivial, by kernel_rfl⟩
     ·
      refine cf h6 (by kernel_rfl) (sq (rg (sh 2 [(54, .pv (encSl R_api_Value a0.fSample)), (53, .ptr 0 4)] (by kernel_rfl) (dv 55 (v := aI ((sll a0.fSample).length : Int)) (len_slO R_api_Value a0.fSample t52 (by kernel_rfl)) (by kernel_rfl) (sh 2 [(57, aB (decide (((sll a0.fSample).length : Int) > 60))), (56, aB (decide (((sll a0.fSample).length : Int) > 60)))] (by kernel_rfl) ?_)))))
      rcases bif_some hm with ⟨h7, hm⟩ | ⟨h7, hm⟩
      ·
       refine known [57, 56] h7 (by kernel_rfl) (sh 6 [(52, aB true), (62, aB true), (61, .undef), (60, .undef), (59, .undef), (58, .undef)] (by kernel_rfl) (fin [(2, .ptr 0 0), (52, aB true)] rfl (by kernel_rfl) (cT (by kernel_rfl) (sq (detn [(4, aB false)] (by kernel_rfl) (wp_ret ?_))))))
       obtain rfl := Option.some.inj hm
       exact ⟨trivial, by kernel_rfl⟩
      ·
       refine known [57, 56] h7 (by kernel_rfl) (sh 2 [(59, .agg (aA .u8 64 a0.fSketch.fRegs)), (58, .ptr 0 5)] (by kernel_rfl) ?_)
       obtain ⟨x8, h9, hm⟩ := bs hm
       refine dv 60 (cpure (by kernel_rfl) (ok_hll_Right h9) (by kernel_rfl) (by kernel_rfl) (by kernel_rfl)) (by kernel_rfl) (sh 3 [(52, aB (!x8)), (62, aB (!x8)), (61, aB (!x8))] (by kernel_rfl) (fin [(2, .ptr 0 0), (52, aB (!x8))] rfl (by kernel_rfl) ?_))
       rcases bif_some hm with ⟨h10, hm⟩ | ⟨h10, hm⟩
       ·
        refine ct h10 (by kernel_rfl) (sq (detn [(4, aB false)] (by kernel_rfl) (wp_ret ?_)))
        obtain rfl := Option.some.inj hm
        exact ⟨trivial, by kernel_rfl⟩
       ·
        refine cf h10 (by kernel_rfl) (wp_skip (sq (rg (sh 3 [(65, .fn 88 [] [.ptr 0 0]), (64, .pv (encSl R_api_Value a0.fSample)), (63, .ptr 0 4)] (by kernel_rfl) ?_))))
        obtain ⟨x11, h12, hm⟩ := bs hm
        refine dO [(66, aB x11)] [.box ([aI a0.fKind, aI a0.fNulls, aI a0.fDistinct, .pv (encSl R_hist_Bucket a0.fHist), .pv (encSl R_api_Value a0.fSample)] ++ (aA .u8 64 a0.fSketch.fRegs)) false, .box [aI a1] false] (cpureR [0] [.pv (encSl R_api_Value a0.fSample), .fn 88 [] [.ptr 0 0]] (fl := true) (by kernel_rfl) (by kernel_rfl) (by kernel_rfl) (ok_slices_ContainsFunc_Value_stat_column_2 h12) (by kernel_rfl) (by kernel_rfl)) (by kernel_rfl) (sh 2 [(4, aB (!x11)), (67, aB (!x11))] (by kernel_rfl) (fin [(4, aB (!x11))] rfl (by kernel_rfl) (wp_ret ?_)))
        obtain rfl := Option.some.inj hm
        exact ⟨trivial, by kernel_rfl⟩
    refine rgd (shd 2 [(32, .pv (encSl R_hist_Bucket a0.fHist)), (31, .ptr 0 3)] (by kernel_rfl) ?_)
    obtain ⟨x13, h14, hm⟩ := bs hm
    refine dvd 33 (cpure (by kernel_rfl) (ok_hist_Right h14) (by kernel_rfl) (by kernel_rfl) (by kernel_rfl)) (by kernel_rfl) (shd 2 [(35, aB (!x13)), (34, aB (!x13))] (by kernel_rfl) ?_)
    rcases bif_some hm with ⟨h15, hm⟩ | ⟨h15, hm⟩
    ·
     refine knownd [35, 34] h15 (by kernel_rfl) (shd 17 [(30, aB true), (51, aB true), (50, .undef), (49, .undef), (48, .undef), (47, .undef), (46, .undef), (45, .undef), (44, .undef), (43, .undef), (42, .undef), (41, .undef), (40, .undef), (39, .undef), (38, .undef), (37, .undef), (36, .undef)] (by kernel_rfl) (find [(2, .ptr 0 0), (30, aB true)] rfl (by kernel_rfl) (by kernel_rfl) ?_))
     exact ⟨true, hm, rfl, rfl⟩
    ·
     refine knownd [35, 34] h15 (by kernel_rfl) (shd 2 [(37, .pv (encSl R_hist_Bucket a0.fHist)), (36, .ptr 0 3)] (by kernel_rfl) (dvd 38 (v := aI ((sll a0.fHist).length : Int)) (len_slO R_hist_Bucket a0.fHist t53 (by kernel_rfl)) (by kernel_rfl) (shd 2 [(40, aB (decide (((sll a0.fHist).length : Int) > 0))), (39, aB (decide (((sll a0.fHist).length : Int) > 0)))] (by kernel_rfl) ?_)))
     rcases bif_some hm with ⟨h16, hm⟩ | ⟨h16, hm⟩
     ·
      refine knownd [40, 39] h16 (by kernel_rfl) (shd 2 [(42, .pv (encSl R_hist_Bucket a0.fHist)), (41, .ptr 0 3)] (by kernel_rfl) ?_)
      obtain ⟨x17, h18, hm⟩ := bs hm
      refine dvd 43 (v := .pv (.ptr (R_hist_Bucket x17) 0)) (ia_slO R_hist_Bucket a0.fHist .i64 t53 t77 h18 rfl (by kernel_rfl)) (by kernel_rfl) (shd 9 [(30, aB (x17.fLow.fKind != a0.fKind)), (51, aB (x17.fLow.fKind != a0.fKind)), (50, aB (x17.fLow.fKind != a0.fKind)), (49, aB (x17.fLow.fKind != a0.fKind)), (48, aI a0.fKind), (47, .ptr 0 0), (46, aI x17.fLow.fKind), (45, .pv (.ptr (R_hist_Bucket x17) 0)), (44, .pv (.ptr (R_hist_Bucket x17) 0))] (by kernel_rfl) (find [(2, .ptr 0 0), (30, aB (x17.fLow.fKind != a0.fKind))] rfl (by kernel_rfl) (by kernel_rfl) ?_))
      exact ⟨(x17.fLow.fKind != a0.fKind), hm, rfl, rfl⟩
     ·
      refine knownd [40, 39] h16 (by kernel_rfl) (shd 12 [(30, aB false), (51, aB false), (50, aB false), (49, .undef), (48, .undef), (47, .undef), (46, .undef), (45, .undef), (44, .undef), (43, .undef), (42, .undef), (41, .undef)] (by kernel_rfl) (find [(2, .ptr 0 0), (30, aB false)] rfl (by kernel_rfl) (by kernel_rfl) ?_))
      exact ⟨false, hm, rfl, rfl⟩
  refine rg (sh 4 [(11, aB (decide (a0.fKind < 1))), (10, aB (decide (a0.fKind < 1))), (9, aI a0.fKind), (8, .ptr 0 0)] (by kernel_rfl) ?_)
  refine seg (decide (a0.fKind < 1)) [11, 10] (fun b => [(15, aB (b || (decide (a0.fKind > 4)))), (14, ifA b (.undef) (aB (decide (a0.fKind > 4)))), (13, ifA b (.undef) (aI a0.fKind)), (12, ifA b (.undef) (.ptr 0 0))]) 8 (by kernel_rfl) ?_ ?_ ?_
  ·
   intro Q h
   refine sh 4 [(15, aB true), (14, .undef), (13, .undef), (12, .undef)] (by kernel_rfl) ?_
   exact sameN (by kernel_rfl) (by kernel_rfl) h
  ·
   intro Q h
   refine sh 4 [(15, aB (decide (a0.fKind > 4))), (14, aB (decide (a0.fKind > 4))), (13, aI a0.fKind), (12, .ptr 0 0)] (by kernel_rfl) ?_
   exact sameN (by kernel_rfl) (by kernel_rfl) h
  refine sh 1 [(16, aB ((decide (a0.fKind < 1)) || (decide (a0.fKind > 4))))] (by kernel_rfl) ?_
  rcases bif_some hm with ⟨h19, hm⟩ | ⟨h19, hm⟩
  ·
   refine known [16, 15] h19 (by kernel_rfl) (sh 14 [(7, aB true), (29, aB true), (28, .undef), (27, .undef), (26, .undef), (25, .undef), (24, .undef), (23, aB true), (22, aB true), (21, .undef), (20, .undef), (19, .undef), (18, .undef), (17, .undef)] (by kernel_rfl) (fin [(2, .ptr 0 0), (7, aB true)] rfl (by kernel_rfl) ?_))
   exact ⟨true, hm, rfl, rfl⟩
  ·
   refine known [16, 15] h19 (by kernel_rfl) (sh 3 [(19, aI a0.fNulls), (18, .ptr 0 1), (17, .fn 85 [] [.ptr 1 0])] (by kernel_rfl) ?_)
   obtain ⟨x20, h21, hm⟩ := bs hm
   refine dO [(20, aB x20)] [.box ([aI a0.fKind, aI a0.fNulls, aI a0.fDistinct, .pv (encSl R_hist_Bucket a0.fHist), .pv (encSl R_api_Value a0.fSample)] ++ (aA .u8 64 a0.fSketch.fRegs)) false, .box [aI a1] false] (cpureR [1] [aI a0.fNulls, .ptr 1 0] (fl := true) (by kernel_rfl) (by kernel_rfl) (by kernel_rfl) (ok_stat_column_1 h21) (by kernel_rfl) (by kernel_rfl)) (by kernel_rfl) (sh 3 [(23, aB (!x20)), (22, aB (!x20)), (21, aB (!x20))] (by kernel_rfl) ?_)
   rcases bif_some hm with ⟨h22, hm⟩ | ⟨h22, hm⟩
   ·
    refine known [23, 22, 21] h22 (by kernel_rfl) (sh 7 [(7, aB true), (29, aB true), (28, .undef), (27, .undef), (26, .undef), (25, .undef), (24, .undef)] (by kernel_rfl) (fin [(2, .ptr 0 0), (7, aB true)] rfl (by kernel_rfl) ?_))
    exact ⟨true, hm, rfl, rfl⟩
   ·
    refine known [23, 22, 21] h22 (by kernel_rfl) (sh 3 [(26, aI a0.fDistinct), (25, .ptr 0 2), (24, .fn 85 [] [.ptr 1 0])] (by kernel_rfl) ?_)
    obtain ⟨x23, h24, hm⟩ := bs hm
    refine dO [(27, aB x23)] [.box ([aI a0.fKind, aI a0.fNulls, aI a0.fDistinct, .pv (encSl R_hist_Bucket a0.fHist), .pv (encSl R_api_Value a0.fSample)] ++ (aA .u8 64 a0.fSketch.fRegs)) false, .box [aI a1] false] (cpureR [1] [aI a0.fDistinct, .ptr 1 0] (fl := true) (by kernel_rfl) (by kernel_rfl) (by kernel_rfl) (ok_stat_column_1 h24) (by kernel_rfl) (by kernel_rfl)) (by kernel_rfl) (sh 3 [(7, aB (!x23)), (29, aB (!x23)), (28, aB (!x23))] (by kernel_rfl) (fin [(2, .ptr 0 0), (7, aB (!x23))] rfl (by kernel_rfl) ?_))
    exact ⟨(!x23), hm, rfl, rfl⟩
theorem ok_stat_Right_1 {n : Nat} {a0 : stat_Col} {a1 : Int} {a2 : (Option (List stat_Col))} {r : Bool} (hm : stat_Right_1 n a0 a1 a2 = some r) :
    call G n 46 [.agg ([aI a0.fKind, aI a0.fNulls, aI a0.fDistinct, .pv (encSl R_hist_Bucket a0.fHist), .pv (encSl R_api_Value a0.fSample)] ++ (aA .u8 64 a0.fSketch.fRegs)), .pv (.ptr [.int .i64 a1, encSl R_stat_Col a2] 0)] [] = some (.ret (aB r), []) := by
  unfold stat_Right_1 at hm
  obtain ⟨n, rfl, h0⟩ := at1_some hm
  replace hm := h0; clear h0
  refine callL 9 [(0, .agg ([aI a0.fKind, aI a0.fNulls, aI a0.fDistinct, .pv (encSl R_hist_Bucket a0.fHist), .pv (encSl R_api_Value a0.fSample)] ++ (aA .u8 64 a0.fSketch.fRegs))), (1, .pv (.ptr [.int .i64 a1, encSl R_stat_Col a2] 0))] func46 rfl (by kernel_rfl) (sq (det [(1, .pv (.ptr [.int .i64 a1, encSl R_stat_Col a2] 0)), (2, .ptr 0 0)] [.box ([aI a0.fKind, aI a0.fNulls, aI a0.fDistinct, .pv (encSl R_hist_Bucket a0.fHist), .pv (encSl R_api_Value a0.fSample)] ++ (aA .u8 64 a0.fSketch.fRegs)) false] (by kernel_rfl) (sq (rg (sh 3 [(6, aI a1), (5, .pv (.ptr [.int .i64 a1, encSl R_stat_Col a2] 0)), (4, .agg ([aI a0.fKind, aI a0.fNulls, aI a0.fDistinct, .pv (encSl R_hist_Bucket a0.fHist), .pv (encSl R_api_Value a0.fSample)] ++ (aA .u8 64 a0.fSketch.fRegs)))] (by kernel_rfl) ?_)))))
  obtain ⟨x1, h2, hm⟩ := bs hm
  refine dv 7 (cpure (by kernel_rfl) (ok_stat_column h2) (by kernel_rfl) (by kernel_rfl) (by kernel_rfl)) (by kernel_rfl) (sh 2 [(3, aB (!x1)), (8, aB (!x1))] (by kernel_rfl) (fin [(3, aB (!x1))] rfl (by kernel_rfl) (wp_ret ?_)))
  obtain rfl := Option.some.inj hm
  exact ⟨trivial, by kernel_rfl⟩
theorem ok_slices_IndexFunc_Col_stat_Right_1 {n : Nat} {a0 : (Option (List stat_Col))} {a1 : Int} {a2 : (Option (List stat_Col))} {r : Int} (hm : slices_IndexFunc_Col_stat_Right_1 n a0 a1 a2 = some r) :
    call G n 84 [.pv (encSl R_stat_Col a0), .pv (.fn 46 [] [.ptr [.int .i64 a1, encSl R_stat_Col a2] 0])] [] = some (.ret (aI r), []) := by
  unfold slices_IndexFunc_Col_stat_Right_1 at hm
  obtain ⟨n, rfl, h0⟩ := at1_some hm
  replace hm := h0; clear h0
  refine callL 19 [(0, .pv (encSl R_stat_Col a0)), (1, .pv (.fn 46 [] [.ptr [.int .i64 a1, encSl R_stat_Col a2] 0]))] func84 rfl (by kernel_rfl) (sq (detn [(0, .pv (encSl R_stat_Col a0)), (1, .pv (.fn 46 [] [.ptr [.int .i64 a1, encSl R_stat_Col a2] 0]))] (by kernel_rfl) ?_))
  obtain ⟨k3, hk3, hm⟩ := withK_some hm
  refine mid (fun t H => (∃ (y1 : Int) (y2 : Bool), k3 () = some r ∧ t = mk 19 [(0, .pv (encSl R_stat_Col a0)), (1, .pv (.fn 46 [] [.ptr [.int .i64 a1, encSl R_stat_Col a2] 0])), (7, aI ((sll a0).length : Int)), (8, aI y1), (9, aB y2)] ∧ H = [])) ?_ ?_
  ·
   rintro _ _ ⟨y1, y2, hm, rfl, rfl⟩
   subst hk3
   refine sq (detn [(4, aI (-1))] (by kernel_rfl) (wp_ret ?_))
   obtain rfl := Option.some.inj hm
   exact ⟨trivial, by kernel_rfl⟩
  refine sq (rg (sh 1 [(6, .pv (encSl R_stat_Col a0))] (by kernel_rfl) (dv 7 (v := aI ((sll a0).length : Int)) (len_slO R_stat_Col a0 t29 (by kernel_rfl)) (by kernel_rfl) (sh 1 [(8, aI 0)] (by kernel_rfl) (fin [(0, .pv (encSl R_stat_Col a0)), (1, .pv (.fn 46 [] [.ptr [.int .i64 a1, encSl R_stat_Col a2] 0])), (7, aI ((sll a0).length : Int)), (8, aI 0)] rfl (by kernel_rfl) (bq ?_))))))
  refine loopF (fun mm t H => (∃ (y5 : Int), slices_IndexFunc_Col_stat_Right_1_l2 n a0 a1 a2 k3 mm y5 = some r ∧ t = mk 19 [(0, .pv (encSl R_stat_Col a0)), (1, .pv (.fn 46 [] [.ptr [.int .i64 a1, encSl R_stat_Col a2] 0])), (7, aI ((sll a0).length : Int)), (8, aI y5)] ∧ H = [])) (⟨0, hm, rfl, rfl⟩) ?_ ?_
  · rintro _ _ ⟨y5, hm, _⟩; exact nomatch hm
  rintro m6 _ _ ⟨y5, hm, rfl, rfl⟩
  simp only [slices_IndexFunc_Col_stat_Right_1_l2] at hm
  refine sq (detn [(0, .pv (encSl R_stat_Col a0)), (1, .pv (.fn 46 [] [.ptr [.int .i64 a1, encSl R_stat_Col a2] 0])), (7, aI ((sll a0).length : Int)), (8, aI y5), (9, aB (decide (y5 < ((sll a0).length : Int))))] (by kernel_rfl) ?_)
  refine sq ?_
  rcases bif_some hm with ⟨h7, hm⟩ | ⟨h7, hm⟩
  ·
   refine ct h7 (by kernel_rfl) (wp_skip (sq (bq (sq (detn [(0, .pv (encSl R_stat_Col a0)), (1, .pv (.fn 46 [] [.ptr [.int .i64 a1, encSl R_stat_Col a2] 0])), (5, aI y5), (7, aI ((sll a0).length : Int)), (8, aI y5)] (by kernel_rfl) (sq (rg (sh 3 [(13, aI y5), (12, .pv (encSl R_stat_Col a0)), (11, .pv (.fn 46 [] [.ptr [.int .i64 a1, encSl R_stat_Col a2] 0]))] (by kernel_rfl) ?_))))))))
   obtain ⟨x8, h9, hm⟩ := bs hm
   refine dv 14 (v := .pv (.ptr (R_stat_Col x8) 0)) (ia_slO R_stat_Col a0 .i64 t29 t91 h9 rfl (by kernel_rfl)) (by kernel_rfl) (sh 1 [(15, .agg ([aI x8.fKind, aI x8.fNulls, aI x8.fDistinct, .pv (encSl R_hist_Bucket x8.fHist), .pv (encSl R_api_Value x8.fSample)] ++ (aA .u8 64 x8.fSketch.fRegs)))] (by kernel_rfl) ?_)
   obtain ⟨x10, h11, hm⟩ := bs hm
   refine dv 16 (cpure (by kernel_rfl) (ok_stat_Right_1 h11) (by kernel_rfl) (by kernel_rfl) (by kernel_rfl)) (by kernel_rfl) (fin [(0, .pv (encSl R_stat_Col a0)), (1, .pv (.fn 46 [] [.ptr [.int .i64 a1, encSl R_stat_Col a2] 0])), (5, aI y5), (7, aI ((sll a0).length : Int)), (8, aI y5), (16, aB x10)] rfl (by kernel_rfl) ?_)
   rcases bif_some hm with ⟨h12, hm⟩ | ⟨h12, hm⟩
   ·
    refine ct h12 (by kernel_rfl) (sq (detn [(4, aI y5)] (by kernel_rfl) (wp_ret ?_)))
    obtain rfl := Option.some.inj hm
    exact ⟨trivial, by kernel_rfl⟩
   ·
    refine cf h12 (by kernel_rfl) (wp_skip (detn [(0, .pv (encSl R_stat_Col a0)), (1, .pv (.fn 46 [] [.ptr [.int .i64 a1, encSl R_stat_Col a2] 0])), (7, aI ((sll a0).length : Int)), (8, aI (IntKind.wrap .i64 (y5 + 1)))] (by kernel_rfl) ?_))
    exact ⟨_, _, tidyL [(0, .pv (encSl R_stat_Col a0)), (1, .pv (.fn 46 [] [.ptr [.int .i64 a1, encSl R_stat_Col a2] 0])), (7, aI ((sll a0).length : Int)), (8, aI (IntKind.wrap .i64 (y5 + 1)))] [] (by kernel_rfl), ⟨(IntKind.wrap .i64 (y5 + 1)), hm, rfl, rfl⟩⟩
  ·
   refine cf h7 (by kernel_rfl) (wp_exit ?_)
   exact ⟨y5, (decide (y5 < ((sll a0).length : Int))), hm, rfl, rfl⟩
theorem ok_slices_ContainsFunc_Col_stat_Right_1 {n : Nat} {a0 : (Option (List stat_Col))} {a1 : Int} {a2 : (Option (List stat_Col))} {r : Bool} (hm : slices_ContainsFunc_Col_stat_Right_1 n a0 a1 a2 = some r) :
    call G n 45 [.pv (encSl R_stat_Col a0), .pv (.fn 46 [] [.ptr [.int .i64 a1, encSl R_stat_Col a2] 0])] [] = some (.ret (aB r), []) := by
  unfold slices_ContainsFunc_Col_stat_Right_1 at hm
  obtain ⟨n, rfl, h0⟩ := at1_some hm
  replace hm := h0; clear h0
  refine callL 9 [(0, .pv (encSl R_stat_Col a0)), (1, .pv (.fn 46 [] [.ptr [.int .i64 a1, encSl R_stat_Col a2] 0]))] func45 rfl (by kernel_rfl) (sq (detn [(0, .pv (encSl R_stat_Col a0)), (1, .pv (.fn 46 [] [.ptr [.int .i64 a1, encSl R_stat_Col a2] 0]))] (by kernel_rfl) (sq (rg (sh 2 [(6, .pv (.fn 46 [] [.ptr [.int .i64 a1, encSl R_stat_Col a2] 0])), (5, .pv (encSl R_stat_Col a0))] (by kernel_rfl) ?_)))))
  obtain ⟨x1, h2, hm⟩ := bs hm
  refine dv 7 (cpure (by kernel_rfl) (ok_slices_IndexFunc_Col_stat_Right_1 h2) (by kernel_rfl) (by kernel_rfl) (by kernel_rfl)) (by kernel_rfl) (sh 2 [(4, aB (decide (x1 ≥ 0))), (8, aB (decide (x1 ≥ 0)))] (by kernel_rfl) (fin [(4, aB (decide (x1 ≥ 0)))] rfl (by kernel_rfl) (wp_ret ?_)))
  obtain rfl := Option.some.inj hm
  exact ⟨trivial, by kernel_rfl⟩
theorem ok_stat_Right {n : Nat} {a0 : stat_Stat} {r : Bool} (hm : stat_Right n a0 = some r) :
    call G n 12 [.agg [aI a0.fRows, .pv (encSl R_stat_Col a0.fCols)]] [] = some (.ret (aB r), []) := by
  unfold stat_Right at hm
  obtain ⟨n, rfl, h0⟩ := at1_some hm
  replace hm := h0; clear h0
  refine callL 28 [(0, .agg [aI a0.fRows, .pv (encSl R_stat_Col a0.fCols)])] func12 rfl (by kernel_rfl) (sq (det [(1, .ptr 0 0)] [.box [aI a0.fRows, .pv (encSl R_stat_Col a0.fCols)] false] (by kernel_rfl) (sq (sq (rg (sh 4 [(6, aB (decide (a0.fRows < 0))), (5, aB (decide (a0.fRows < 0))), (4, aI a0.fRows), (3, .ptr 0 0)] (by kernel_rfl) ?_))))))
  refine seg (decide (a0.fRows < 0)) [6, 5] (fun b => [(10, aB (b || (decide (a0.fRows > 1000000)))), (9, ifA b (.undef) (aB (decide (a0.fRows > 1000000)))), (8, ifA b (.undef) (aI a0.fRows)), (7, ifA b (.undef) (.ptr 0 0))]) 8 (by kernel_rfl) ?_ ?_ ?_
  ·
   intro Q h
   refine sh 4 [(10, aB true), (9, .undef), (8, .undef), (7, .undef)] (by kernel_rfl) ?_
   exact sameN (by kernel_rfl) (by kernel_rfl) h
  ·
   intro Q h
   refine sh 4 [(10, aB (decide (a0.fRows > 1000000))), (9, aB (decide (a0.fRows > 1000000))), (8, aI a0.fRows), (7, .ptr 0 0)] (by kernel_rfl) ?_
   exact sameN (by kernel_rfl) (by kernel_rfl) h
  refine sh 1 [(11, aB ((decide (a0.fRows < 0)) || (decide (a0.fRows > 1000000))))] (by kernel_rfl) ?_
  refine seg ((decide (a0.fRows < 0)) || (decide (a0.fRows > 1000000))) [11, 10] (fun b => [(16, aB (b || (decide (((sll a0.fCols).length : Int) < 1)))), (15, ifA b (.undef) (aB (decide (((sll a0.fCols).length : Int) < 1)))), (14, ifA b (.undef) (aI ((sll a0.fCols).length : Int))), (13, ifA b (.undef) (.pv (encSl R_stat_Col a0.fCols))), (12, ifA b (.undef) (.ptr 0 1))]) 14 (by kernel_rfl) ?_ ?_ ?_
  ·
   intro Q h
   refine sh 5 [(16, aB true), (15, .undef), (14, .undef), (13, .undef), (12, .undef)] (by kernel_rfl) ?_
   exact sameN (by kernel_rfl) (by kernel_rfl) h
  ·
   intro Q h
   refine sh 2 [(13, .pv (encSl R_stat_Col a0.fCols)), (12, .ptr 0 1)] (by kernel_rfl) (dv 14 (v := aI ((sll a0.fCols).length : Int)) (len_slO R_stat_Col a0.fCols t29 (by kernel_rfl)) (by kernel_rfl) (sh 2 [(16, aB (decide (((sll a0.fCols).length : Int) < 1))), (15, aB (decide (((sll a0.fCols).length : Int) < 1)))] (by kernel_rfl) ?_))
   exact sameN (by kernel_rfl) (by kernel_rfl) h
  refine sh 1 [(17, aB (((decide (a0.fRows < 0)) || (decide (a0.fRows > 1000000))) || (decide (((sll a0.fCols).length : Int) < 1))))] (by kernel_rfl) ?_
  refine seg (((decide (a0.fRows < 0)) || (decide (a0.fRows > 1000000))) || (decide (((sll a0.fCols).length : Int) < 1))) [17, 16] (fun b => [(22, aB (b || (decide (((sll a0.fCols).length : Int) > 8)))), (21, ifA b (.undef) (aB (decide (((sll a0.fCols).length : Int) > 8)))), (20, ifA b (.undef) (aI ((sll a0.fCols).length : Int))), (19, ifA b (.undef) (.pv (encSl R_stat_Col a0.fCols))), (18, ifA b (.undef) (.ptr 0 1))]) 20 (by kernel_rfl) ?_ ?_ ?_
  ·
   intro Q h
   refine sh 5 [(22, aB true), (21, .undef), (20, .undef), (19, .undef), (18, .undef)] (by kernel_rfl) ?_
   exact sameN (by kernel_rfl) (by kernel_rfl) h
  ·
   intro Q h
   refine sh 2 [(19, .pv (encSl R_stat_Col a0.fCols)), (18, .ptr 0 1)] (by kernel_rfl) (dv 20 (v := aI ((sll a0.fCols).length : Int)) (len_slO R_stat_Col a0.fCols t29 (by kernel_rfl)) (by kernel_rfl) (sh 2 [(22, aB (decide (((sll a0.fCols).length : Int) > 8))), (21, aB (decide (((sll a0.fCols).length : Int) > 8)))] (by kernel_rfl) ?_))
   exact sameN (by kernel_rfl) (by kernel_rfl) h
  refine fin [(1, .ptr 0 0), (22, aB ((((decide (a0.fRows < 0)) || (decide (a0.fRows > 1000000))) || (decide (((sll a0.fCols).length : Int) < 1))) || (decide (((sll a0.fCols).length : Int) > 8))))] rfl (by kernel_rfl) ?_
  rcases bif_some hm with ⟨h1, hm⟩ | ⟨h1, hm⟩
  ·
   refine ct h1 (by kernel_rfl) (sq (detn [(2, aB false)] (by kernel_rfl) (wp_ret ?_)))
   obtain rfl := Option.some.inj hm
   exact ⟨trivial, by kernel_rfl⟩
  ·
   refine cf h1 (by kernel_rfl) (wp_skip (sq (rg (sh 3 [(25, .fn 46 [] [.ptr 0 0]), (24, .pv (encSl R_stat_Col a0.fCols)), (23, .ptr 0 1)] (by kernel_rfl) ?_))))
   obtain ⟨x2, h3, hm⟩ := bs hm
   refine dO [(26, aB x2)] [.box [aI a0.fRows, .pv (encSl R_stat_Col a0.fCols)] false] (cpureR [0] [.pv (encSl R_stat_Col a0.fCols), .fn 46 [] [.ptr 0 0]] (fl := true) (by kernel_rfl) (by kernel_rfl) (by kernel_rfl) (ok_slices_ContainsFunc_Col_stat_Right_1 h3) (by kernel_rfl) (by kernel_rfl)) (by kernel_rfl) (sh 2 [(2, aB (!x2)), (27, aB (!x2))] (by kernel_rfl) (fin [(2, aB (!x2))] rfl (by kernel_rfl) (wp_ret ?_)))
   obtain rfl := Option.some.inj hm
   exact ⟨trivial, by kernel_rfl⟩
theorem ok_codec_PutUint_nil {n : Nat} {a0 : Int} {r : (List Int)} (hm : codec_PutUint_nil n a0 = some r) :
    ∃ vv H1, call G n 82 [.pv .nils, aU a0] [] = some (.ret vv, H1) ∧ (match r with | r0 => (vv = aR 0 1 r0.length ∧ H1 = [bR 5 1 (rI .u8) r0 0 0])) := by
  unfold codec_PutUint_nil at hm
  obtain ⟨n, rfl, h0⟩ := at1_some hm
  replace hm := h0; clear h0
  refine callE 20 [(0, .pv .nils), (1, aU a0)] func82 rfl (by kernel_rfl) (sq (detn [(0, .pv .nils), (1, aU a0)] (by kernel_rfl) ?_))
  obtain ⟨k4, hk4, hm⟩ := withK_some hm
  refine mid (fun t H => (∃ (y3 : Int) (w1 : AV), k4 none y3 = some r ∧ t = mk 20 [(0, .pv .nils), (1, aU y3), (6, w1)] ∧ H = []) ∨ (∃ (y2 : (List Int)) (y3 : Int) (w1 : AV), k4 (some y2) y3 = some r ∧ t = mk 20 [(0, aR 0 1 y2.length), (1, aU y3), (6, w1)] ∧ H = [bR 5 1 (rI .u8) y2 0 0])) ?_ ?_
  ·
   rintro _ _ (⟨y3, w1, hm, rfl, rfl⟩ | ⟨y2, y3, w1, hm, rfl, rfl⟩)
   ·
    subst hk4
    refine sq (rg (st 4 [(18, aR 0 1 1), (17, aY (IntKind.wrap .u8 y3)), (16, aU y3), (15, .pv .nils)] [bR 5 1 (rI .u8) ([(IntKind.wrap .u8 y3)] : List Int) 0 0] (by kernel_rfl) ?_))
    obtain ⟨_, h5, hm⟩ := bs hm
    refine dO [(19, aR 1 1 (([(IntKind.wrap .u8 y3)] : List Int).length))] [bR 5 1 (rI .u8) ([(IntKind.wrap .u8 y3)] : List Int) 0 0, bR 5 1 (rI .u8) ([(IntKind.wrap .u8 y3)] : List Int) 0 0] (app_nilO (u := 0) (rI .u8) ([(IntKind.wrap .u8 y3)] : List Int) (b := 1) t43 t5 rfl rfl rfl (fun _ => rfl) rfl h5 (show srcRows (aR 0 1 1) _ = some (([(IntKind.wrap .u8 y3)] : List Int).map (rI .u8)) from by kernel_rfl) (by kernel_rfl)) (by kernel_rfl) (sh 1 [(4, aR 1 1 (([(IntKind.wrap .u8 y3)] : List Int).length))] (by kernel_rfl) (fin [(4, aR 1 1 (([(IntKind.wrap .u8 y3)] : List Int).length))] rfl (by kernel_rfl) (wp_ret ?_)))
    obtain rfl := Option.some.inj hm
    exact ⟨trivial, aR 0 1 (([(IntKind.wrap .u8 y3)] : List Int).length), [bR 5 1 (rI .u8) ([(IntKind.wrap .u8 y3)] : List Int) 0 0], by kernel_rfl, rfl, rfl⟩
   ·
    subst hk4
    refine sq (rg (st 4 [(18, aR 1 1 1), (17, aY (IntKind.wrap .u8 y3)), (16, aU y3), (15, aR 0 1 y2.length)] [bR 5 1 (rI .u8) y2 0 0, bR 5 1 (rI .u8) ([(IntKind.wrap .u8 y3)] : List Int) 0 0] (by kernel_rfl) ?_))
    obtain ⟨_, h6, hm⟩ := bs hm
    refine dO [(19, aR 0 1 ((y2 ++ ([(IntKind.wrap .u8 y3)] : List Int)).length))] [bR 5 1 (rI .u8) (y2 ++ ([(IntKind.wrap .u8 y3)] : List Int)) 0 0, bR 5 1 (rI .u8) ([(IntKind.wrap .u8 y3)] : List Int) 0 0] (app_refO (u := 0) (n := y2.length) (id := 0) (rI .u8) y2 ([(IntKind.wrap .u8 y3)] : List Int) (b := 1) t43 t5 rfl rfl rfl (fun _ => rfl) rfl h6 rfl rfl (Nat.zero_le _) (show srcRows (aR 1 1 1) _ = some (([(IntKind.wrap .u8 y3)] : List Int).map (rI .u8)) from by kernel_rfl) (by kernel_rfl)) (by kernel_rfl) (sh 1 [(4, aR 0 1 ((y2 ++ ([(IntKind.wrap .u8 y3)] : List Int)).length))] (by kernel_rfl) (fin [(4, aR 0 1 ((y2 ++ ([(IntKind.wrap .u8 y3)] : List Int)).length))] rfl (by kernel_rfl) (wp_ret ?_)))
    obtain rfl := Option.some.inj hm
    exact ⟨trivial, aR 0 1 ((y2 ++ ([(IntKind.wrap .u8 y3)] : List Int)).length), [bR 5 1 (rI .u8) (y2 ++ ([(IntKind.wrap .u8 y3)] : List Int)) 0 0], by kernel_rfl, rfl, rfl⟩
  refine bq ?_
  refine loopF (fun mm t H => (∃ (y12 : Int), codec_PutUint_nil_l1 n k4 mm none y12 = some r ∧ t = mk 20 [(0, .pv .nils), (1, aU y12)] ∧ H = []) ∨ (∃ (y11 : (List Int)) (y12 : Int), codec_PutUint_nil_l1 n k4 mm (some y11) y12 = some r ∧ t = mk 20 [(0, aR 0 1 y11.length), (1, aU y12)] ∧ H = [bR 5 1 (rI .u8) y11 0 0])) (.inl ⟨a0, hm, rfl, rfl⟩) ?_ ?_
  · rintro _ _ (⟨y12, hm, _⟩ | ⟨y11, y12, hm, _⟩) <;> exact nomatch hm
  rintro m13 _ _ (⟨y12, hm, rfl, rfl⟩ | ⟨y11, y12, hm, rfl, rfl⟩)
  ·
   simp only [codec_PutUint_nil_l1] at hm
   refine sq (sq (detn [(0, .pv .nils), (1, aU y12), (6, aB (decide (y12 ≥ 128)))] (by kernel_rfl) ?_))
   rcases bif_some hm with ⟨h14, hm⟩ | ⟨h14, hm⟩
   ·
    refine ct h14 (by kernel_rfl) (wp_skip (bq (sq (rg (st 5 [(11, aR 0 1 1), (10, aY (iOr .u8 (IntKind.wrap .u8 y12) 128)), (9, aY (IntKind.wrap .u8 y12)), (8, aU y12), (7, .pv .nils)] [bR 5 1 (rI .u8) ([(iOr .u8 (IntKind.wrap .u8 y12) 128)] : List Int) 0 0] (by kernel_rfl) ?_)))))
    obtain ⟨_, h15, hm⟩ := bs hm
    refine dO [(12, aR 1 1 (([(iOr .u8 (IntKind.wrap .u8 y12) 128)] : List Int).length))] [bR 5 1 (rI .u8) ([(iOr .u8 (IntKind.wrap .u8 y12) 128)] : List Int) 0 0, bR 5 1 (rI .u8) ([(iOr .u8 (IntKind.wrap .u8 y12) 128)] : List Int) 0 0] (app_nilO (u := 0) (rI .u8) ([(iOr .u8 (IntKind.wrap .u8 y12) 128)] : List Int) (b := 1) t43 t5 rfl rfl rfl (fun _ => rfl) rfl h15 (show srcRows (aR 0 1 1) _ = some (([(iOr .u8 (IntKind.wrap .u8 y12) 128)] : List Int).map (rI .u8)) from by kernel_rfl) (by kernel_rfl)) (by kernel_rfl) (sh 1 [(0, aR 1 1 (([(iOr .u8 (IntKind.wrap .u8 y12) 128)] : List Int).length))] (by kernel_rfl) (fin [(0, aR 1 1 (([(iOr .u8 (IntKind.wrap .u8 y12) 128)] : List Int).length)), (1, aU y12)] rfl (by kernel_rfl) (detn [(0, aR 1 1 (([(iOr .u8 (IntKind.wrap .u8 y12) 128)] : List Int).length)), (1, aU (iShr .u64 y12 7))] (by kernel_rfl) ?_)))
    exact ⟨_, _, tidyL [(0, aR 0 1 (([(iOr .u8 (IntKind.wrap .u8 y12) 128)] : List Int).length)), (1, aU (iShr .u64 y12 7))] [bR 5 1 (rI .u8) ([(iOr .u8 (IntKind.wrap .u8 y12) 128)] : List Int) 0 0] (by kernel_rfl), .inr (⟨([(iOr .u8 (IntKind.wrap .u8 y12) 128)] : List Int), (iShr .u64 y12 7), hm, rfl, rfl⟩)⟩
   ·
    refine cf h14 (by kernel_rfl) (wp_exit ?_)
    exact .inl ⟨y12, aB (decide (y12 ≥ 128)), hm, (mk_same (by kernel_rfl)), rfl⟩
  ·
   simp only [codec_PutUint_nil_l1] at hm
   refine sq (sq (detn [(0, aR 0 1 y11.length), (1, aU y12), (6, aB (decide (y12 ≥ 128)))] (by kernel_rfl) ?_))
   rcases bif_some hm with ⟨h16, hm⟩ | ⟨h16, hm⟩
   ·
    refine ct h16 (by kernel_rfl) (wp_skip (bq (sq (rg (st 5 [(11, aR 1 1 1), (10, aY (iOr .u8 (IntKind.wrap .u8 y12) 128)), (9, aY (IntKind.wrap .u8 y12)), (8, aU y12), (7, aR 0 1 y11.length)] [bR 5 1 (rI .u8) y11 0 0, bR 5 1 (rI .u8) ([(iOr .u8 (IntKind.wrap .u8 y12) 128)] : List Int) 0 0] (by kernel_rfl) ?_)))))
    obtain ⟨_, h17, hm⟩ := bs hm
    refine dO [(12, aR 0 1 ((y11 ++ ([(iOr .u8 (IntKind.wrap .u8 y12) 128)] : List Int)).length))] [bR 5 1 (rI .u8) (y11 ++ ([(iOr .u8 (IntKind.wrap .u8 y12) 128)] : List Int)) 0 0, bR 5 1 (rI .u8) ([(iOr .u8 (IntKind.wrap .u8 y12) 128)] : List Int) 0 0] (app_refO (u := 0) (n := y11.length) (id := 0) (rI .u8) y11 ([(iOr .u8 (IntKind.wrap .u8 y12) 128)] : List Int) (b := 1) t43 t5 rfl rfl rfl (fun _ => rfl) rfl h17 rfl rfl (Nat.zero_le _) (show srcRows (aR 1 1 1) _ = some (([(iOr .u8 (IntKind.wrap .u8 y12) 128)] : List Int).map (rI .u8)) from by kernel_rfl) (by kernel_rfl)) (by kernel_rfl) (sh 1 [(0, aR 0 1 ((y11 ++ ([(iOr .u8 (IntKind.wrap .u8 y12) 128)] : List Int)).length))] (by kernel_rfl) (fin [(0, aR 0 1 ((y11 ++ ([(iOr .u8 (IntKind.wrap .u8 y12) 128)] : List Int)).length)), (1, aU y12)] rfl (by kernel_rfl) (detn [(0, aR 0 1 ((y11 ++ ([(iOr .u8 (IntKind.wrap .u8 y12) 128)] : List Int)).length)), (1, aU (iShr .u64 y12 7))] (by kernel_rfl) ?_)))
    exact ⟨_, _, tidyL [(0, aR 0 1 ((y11 ++ ([(iOr .u8 (IntKind.wrap .u8 y12) 128)] : List Int)).length)), (1, aU (iShr .u64 y12 7))] [bR 5 1 (rI .u8) (y11 ++ ([(iOr .u8 (IntKind.wrap .u8 y12) 128)] : List Int)) 0 0] (by kernel_rfl), .inr (⟨(y11 ++ ([(iOr .u8 (IntKind.wrap .u8 y12) 128)] : List Int)), (iShr .u64 y12 7), hm, rfl, rfl⟩)⟩
   ·
    refine cf h16 (by kernel_rfl) (wp_exit ?_)
    exact .inr (⟨y11, y12, aB (decide (y12 ≥ 128)), hm, (mk_same (by kernel_rfl)), rfl⟩)
theorem ok_stat_number_nil {n : Nat} {a0 : Int} {r : (List Int)} (hm : stat_number_nil n a0 = some r) :
    ∃ vv H1, call G n 55 [.pv .nils, aI a0] [] = some (.ret vv, H1) ∧ (match r with | r0 => (vv = aR 0 1 r0.length ∧ H1 = [bR 5 1 (rI .u8) r0 0 0])) := by
  unfold stat_number_nil at hm
  obtain ⟨n, rfl, h0⟩ := at1_some hm
  replace hm := h0; clear h0
  refine callE 9 [(0, .pv .nils), (1, aI a0)] func55 rfl (by kernel_rfl) (sq (detn [(0, .pv .nils), (1, aI a0)] (by kernel_rfl) (sq (rg (sh 3 [(7, aU (IntKind.wrap .u64 a0)), (6, aI a0), (5, .pv .nils)] (by kernel_rfl) ?_)))))
  obtain ⟨x2, h1, hm⟩ := bs hm
  obtain ⟨vv, H1, hC, rfl, rfl⟩ := ok_codec_PutUint_nil h1
  refine dR [(8, aR 0 1 x2.length)] [bR 5 1 (rI .u8) x2 0 0] [] [.pv .nils, aU (IntKind.wrap .u64 a0)] (by kernel_rfl) (by kernel_rfl) (by kernel_rfl) hC (by kernel_rfl) (sh 1 [(4, aR 0 1 x2.length)] (by kernel_rfl) (fin [(4, aR 0 1 x2.length)] rfl (by kernel_rfl) (wp_ret ?_)))
  obtain rfl := Option.some.inj hm
  exact ⟨trivial, aR 0 1 x2.length, [bR 5 1 (rI .u8) x2 0 0], by kernel_rfl, rfl, rfl⟩
theorem ok_codec_PutUint_r (m0 : Nat) (f0 : Nat) {n : Nat} {a0 : (List Int)} {a1 : Int} {r : (List Int)} (hm0 : a0.length = m0) (hf0 : f0 ≤ a0.length) (hm : codec_PutUint_r n a0 a1 = some r) :
    ∃ vv H1, call G n 82 [aR 0 1 m0, aU a1] [bR 5 1 (rI .u8) a0 f0 0] = some (.ret vv, H1) ∧ (match r with | r0 => (∃ (e1 : Nat), e1 ≤ r0.length ∧ vv = aR 0 1 r0.length ∧ H1 = [bR 5 1 (rI .u8) r0 e1 0])) := by
  unfold codec_PutUint_r at hm
  obtain ⟨n, rfl, h0⟩ := at1_some hm
  replace hm := h0; clear h0
  refine callE 20 [(0, aR 0 1 m0), (1, aU a1)] func82 rfl (by kernel_rfl) (sq (detn [(0, aR 0 1 m0), (1, aU a1)] (by kernel_rfl) ?_))
  obtain ⟨k8, hk8, hm⟩ := withK_some hm
  refine mid (fun t H => (∃ (y1 : (List Int)) (y2 : Int) (y3 : Bool) (g4 : Nat) (g6 : Nat), k8 y1 y2 = some r ∧ t = mk 20 [(0, aR 0 1 g4), (1, aU y2), (6, aB y3)] ∧ H = [bR 5 1 (rI .u8) y1 g6 0] ∧ y1.length = g4 ∧ g6 ≤ y1.length)) ?_ ?_
  ·
   rintro _ _ ⟨y1, y2, y3, g4, g6, hm, rfl, rfl, q5, q7⟩
   subst hk8
   refine sq (rg (st 4 [(18, aR 1 1 1), (17, aY (IntKind.wrap .u8 y2)), (16, aU y2), (15, aR 0 1 g4)] [bR 5 1 (rI .u8) y1 g6 0, bR 5 1 (rI .u8) ([(IntKind.wrap .u8 y2)] : List Int) 0 0] (by kernel_rfl) ?_))
   obtain ⟨_, h9, hm⟩ := bs hm
   refine dO [(19, aR 0 1 ((y1 ++ ([(IntKind.wrap .u8 y2)] : List Int)).length))] [bR 5 1 (rI .u8) (y1 ++ ([(IntKind.wrap .u8 y2)] : List Int)) g6 0, bR 5 1 (rI .u8) ([(IntKind.wrap .u8 y2)] : List Int) 0 0] (app_refO (u := 0) (n := g4) (id := 0) (rI .u8) y1 ([(IntKind.wrap .u8 y2)] : List Int) (b := 1) t43 t5 rfl rfl rfl (fun _ => rfl) rfl h9 rfl (by omega) (by omega) (show srcRows (aR 1 1 1) _ = some (([(IntKind.wrap .u8 y2)] : List Int).map (rI .u8)) from by kernel_rfl) (by kernel_rfl)) (by kernel_rfl) (sh 1 [(4, aR 0 1 ((y1 ++ ([(IntKind.wrap .u8 y2)] : List Int)).length))] (by kernel_rfl) (fin [(4, aR 0 1 ((y1 ++ ([(IntKind.wrap .u8 y2)] : List Int)).length))] rfl (by kernel_rfl) (wp_ret ?_)))
   obtain rfl := Option.some.inj hm
   exact ⟨trivial, aR 0 1 ((y1 ++ ([(IntKind.wrap .u8 y2)] : List Int)).length), [bR 5 1 (rI .u8) (y1 ++ ([(IntKind.wrap .u8 y2)] : List Int)) g6 0], by kernel_rfl, g6, (by first | exact Nat.zero_le _ | exact Nat.le_refl _ | assumption | omega | (simp only [List.length_set, List.length_append, List.length_cons, List.length_nil, List.length_replicate, List.length_drop] at * <;> omega)), rfl, rfl⟩
  refine bq ?_
  refine loopF (fun mm t H => (∃ (y16 : (List Int)) (y17 : Int) (g18 : Nat) (g20 : Nat), codec_PutUint_r_l1 n k8 mm y16 y17 = some r ∧ t = mk 20 [(0, aR 0 1 g18), (1, aU y17)] ∧ H = [bR 5 1 (rI .u8) y16 g20 0] ∧ y16.length = g18 ∧ g20 ≤ y16.length)) (⟨a0, a1, m0, f0, hm, rfl, rfl, (by first | rfl | assumption | omega | (simp only [List.length_set, List.length_append, List.length_cons, List.length_nil, List.length_replicate, List.length_drop] at * <;> omega)), (by first | exact Nat.zero_le _ | exact Nat.le_refl _ | assumption | omega | (simp only [List.length_set, List.length_append, List.length_cons, List.length_nil, List.length_replicate, List.length_drop] at * <;> omega))⟩) ?_ ?_
  · rintro _ _ ⟨y16, y17, g18, g20, hm, _⟩; exact nomatch hm
  rintro m22 _ _ ⟨y16, y17, g18, g20, hm, rfl, rfl, q19, q21⟩
  simp only [codec_PutUint_r_l1] at hm
  refine sq (sq (detn [(0, aR 0 1 g18), (1, aU y17), (6, aB (decide (y17 ≥ 128)))] (by kernel_rfl) ?_))
  rcases bif_some hm with ⟨h23, hm⟩ | ⟨h23, hm⟩
  ·
   refine ct h23 (by kernel_rfl) (wp_skip (bq (sq (rg (st 5 [(11, aR 1 1 1), (10, aY (iOr .u8 (IntKind.wrap .u8 y17) 128)), (9, aY (IntKind.wrap .u8 y17)), (8, aU y17), (7, aR 0 1 g18)] [bR 5 1 (rI .u8) y16 g20 0, bR 5 1 (rI .u8) ([(iOr .u8 (IntKind.wrap .u8 y17) 128)] : List Int) 0 0] (by kernel_rfl) ?_)))))
   obtain ⟨_, h24, hm⟩ := bs hm
   refine dO [(12, aR 0 1 ((y16 ++ ([(iOr .u8 (IntKind.wrap .u8 y17) 128)] : List Int)).length))] [bR 5 1 (rI .u8) (y16 ++ ([(iOr .u8 (IntKind.wrap .u8 y17) 128)] : List Int)) g20 0, bR 5 1 (rI .u8) ([(iOr .u8 (IntKind.wrap .u8 y17) 128)] : List Int) 0 0] (app_refO (u := 0) (n := g18) (id := 0) (rI .u8) y16 ([(iOr .u8 (IntKind.wrap .u8 y17) 128)] : List Int) (b := 1) t43 t5 rfl rfl rfl (fun _ => rfl) rfl h24 rfl (by omega) (by omega) (show srcRows (aR 1 1 1) _ = some (([(iOr .u8 (IntKind.wrap .u8 y17) 128)] : List Int).map (rI .u8)) from by kernel_rfl) (by kernel_rfl)) (by kernel_rfl) (sh 1 [(0, aR 0 1 ((y16 ++ ([(iOr .u8 (IntKind.wrap .u8 y17) 128)] : List Int)).length))] (by kernel_rfl) (fin [(0, aR 0 1 ((y16 ++ ([(iOr .u8 (IntKind.wrap .u8 y17) 128)] : List Int)).length)), (1, aU y17)] rfl (by kernel_rfl) (detn [(0, aR 0 1 ((y16 ++ ([(iOr .u8 (IntKind.wrap .u8 y17) 128)] : List Int)).length)), (1, aU (iShr .u64 y17 7))] (by kernel_rfl) ?_)))
   exact ⟨_, _, tidyL [(0, aR 0 1 ((y16 ++ ([(iOr .u8 (IntKind.wrap .u8 y17) 128)] : List Int)).length)), (1, aU (iShr .u64 y17 7))] [bR 5 1 (rI .u8) (y16 ++ ([(iOr .u8 (IntKind.wrap .u8 y17) 128)] : List Int)) g20 0] (by kernel_rfl), ⟨(y16 ++ ([(iOr .u8 (IntKind.wrap .u8 y17) 128)] : List Int)), (iShr .u64 y17 7), (y16 ++ ([(iOr .u8 (IntKind.wrap .u8 y17) 128)] : List Int)).length, g20, hm, rfl, rfl, (by first | rfl | assumption | omega | (simp only [List.length_set, List.length_append, List.length_cons, List.length_nil, List.length_replicate, List.length_drop] at * <;> omega)), (by first | exact Nat.zero_le _ | exact Nat.le_refl _ | assumption | omega | (simp only [List.length_set, List.length_append, List.length_cons, List.length_nil, List.length_replicate, List.length_drop] at * <;> omega))⟩⟩
  ·
   refine cf h23 (by kernel_rfl) (wp_exit ?_)
   exact ⟨y16, y17, (decide (y17 ≥ 128)), g18, g20, hm, rfl, rfl, (by first | rfl | assumption | omega | (simp only [List.length_set, List.length_append, List.length_cons, List.length_nil, List.length_replicate, List.length_drop] at * <;> omega)), (by first | exact Nat.zero_le _ | exact Nat.le_refl _ | assumption | omega | (simp only [List.length_set, List.length_append, List.length_cons, List.length_nil, List.length_replicate, List.length_drop] at * <;> omega))⟩
theorem ok_stat_number_r (m0 : Nat) (f0 : Nat) {n : Nat} {a0 : (List Int)} {a1 : Int} {r : (List Int)} (hm0 : a0.length = m0) (hf0 : f0 ≤ a0.length) (hm : stat_number_r n a0 a1 = some r) :
    ∃ vv H1, call G n 55 [aR 0 1 m0, aI a1] [bR 5 1 (rI .u8) a0 f0 0] = some (.ret vv, H1) ∧ (match r with | r0 => (∃ (e1 : Nat), e1 ≤ r0.length ∧ vv = aR 0 1 r0.length ∧ H1 = [bR 5 1 (rI .u8) r0 e1 0])) := by
  unfold stat_number_r at hm
  obtain ⟨n, rfl, h0⟩ := at1_some hm
  replace hm := h0; clear h0
  refine callE 9 [(0, aR 0 1 m0), (1, aI a1)] func55 rfl (by kernel_rfl) (sq (detn [(0, aR 0 1 m0), (1, aI a1)] (by kernel_rfl) (sq (rg (sh 3 [(7, aU (IntKind.wrap .u64 a1)), (6, aI a1), (5, aR 0 1 m0)] (by kernel_rfl) ?_)))))
  obtain ⟨x2, h1, hm⟩ := bs hm
  obtain ⟨vv, H1, hC, g3, q4, rfl, rfl⟩ := ok_codec_PutUint_r m0 f0 (by first | rfl | assumption | omega | (simp only [List.length_set, List.length_append, List.length_cons, List.length_nil, List.length_replicate, List.length_drop] at * <;> omega)) (by first | exact Nat.zero_le _ | exact Nat.le_refl _ | assumption | omega | (simp only [List.length_set, List.length_append, List.length_cons, List.length_nil, List.length_replicate, List.length_drop] at * <;> omega)) h1
  refine dR [(8, aR 0 1 x2.length)] [bR 5 1 (rI .u8) x2 g3 0] [0] [aR 0 1 m0, aU (IntKind.wrap .u64 a1)] (by kernel_rfl) (by kernel_rfl) (by kernel_rfl) hC (by kernel_rfl) (sh 1 [(4, aR 0 1 x2.length)] (by kernel_rfl) (fin [(4, aR 0 1 x2.length)] rfl (by kernel_rfl) (wp_ret ?_)))
  obtain rfl := Option.some.inj hm
  exact ⟨trivial, aR 0 1 x2.length, [bR 5 1 (rI .u8) x2 g3 0], by kernel_rfl, g3, (by first | exact Nat.zero_le _ | exact Nat.le_refl _ | assumption | omega | (simp only [List.length_set, List.length_append, List.length_cons, List.length_nil, List.length_replicate, List.length_drop] at * <;> omega)), rfl, rfl⟩
theorem ok_codec_PutInt_r (m0 : Nat) (f0 : Nat) {n : Nat} {a0 : (List Int)} {a1 : Int} {r : (List Int)} (hm0 : a0.length = m0) (hf0 : f0 ≤ a0.length) (hm : codec_PutInt_r n a0 a1 = some r) :
    ∃ vv H1, call G n 94 [aR 0 1 m0, aI a1] [bR 5 1 (rI .u8) a0 f0 0] = some (.ret vv, H1) ∧ (match r with | r0 => (∃ (e1 : Nat), e1 ≤ r0.length ∧ vv = aR 0 1 r0.length ∧ H1 = [bR 5 1 (rI .u8) r0 e1 0])) := by
  unfold codec_PutInt_r at hm
  obtain ⟨n, rfl, h0⟩ := at1_some hm
  replace hm := h0; clear h0
  refine callE 16 [(0, aR 0 1 m0), (1, aI a1)] func94 rfl (by kernel_rfl) (sq (detn [(0, aR 0 1 m0), (1, aI a1)] (by kernel_rfl) (sq (detn [(0, aR 0 1 m0), (1, aI a1), (5, aU (iShl .u64 (IntKind.wrap .u64 a1) 1))] (by kernel_rfl) (sq (sq (detn [(0, aR 0 1 m0), (5, aU (iShl .u64 (IntKind.wrap .u64 a1) 1)), (10, aB (decide (a1 < 0)))] (by kernel_rfl) ?_)))))))
  rcases bif_some hm with ⟨h1, hm⟩ | ⟨h1, hm⟩
  ·
   refine ct h1 (by kernel_rfl) (detn [(0, aR 0 1 m0), (5, aU (notI .u64 (iShl .u64 (IntKind.wrap .u64 a1) 1)))] (by kernel_rfl) (sq (rg (sh 2 [(14, aU (notI .u64 (iShl .u64 (IntKind.wrap .u64 a1) 1))), (13, aR 0 1 m0)] (by kernel_rfl) ?_))))
   obtain ⟨x3, h2, hm⟩ := bs hm
   obtain ⟨vv, H1, hC, g4, q5, rfl, rfl⟩ := ok_codec_PutUint_r m0 f0 (by first | rfl | assumption | omega | (simp only [List.length_set, List.length_append, List.length_cons, List.length_nil, List.length_replicate, List.length_drop] at * <;> omega)) (by first | exact Nat.zero_le _ | exact Nat.le_refl _ | assumption | omega | (simp only [List.length_set, List.length_append, List.length_cons, List.length_nil, List.length_replicate, List.length_drop] at * <;> omega)) h2
   refine dR [(15, aR 0 1 x3.length)] [bR 5 1 (rI .u8) x3 g4 0] [0] [aR 0 1 m0, aU (notI .u64 (iShl .u64 (IntKind.wrap .u64 a1) 1))] (by kernel_rfl) (by kernel_rfl) (by kernel_rfl) hC (by kernel_rfl) (sh 1 [(4, aR 0 1 x3.length)] (by kernel_rfl) (fin [(4, aR 0 1 x3.length)] rfl (by kernel_rfl) (wp_ret ?_)))
   obtain rfl := Option.some.inj hm
   exact ⟨trivial, aR 0 1 x3.length, [bR 5 1 (rI .u8) x3 g4 0], by kernel_rfl, g4, (by first | exact Nat.zero_le _ | exact Nat.le_refl _ | assumption | omega | (simp only [List.length_set, List.length_append, List.length_cons, List.length_nil, List.length_replicate, List.length_drop] at * <;> omega)), rfl, rfl⟩
  ·
   refine cf h1 (by kernel_rfl) (wp_skip (sq (rg (sh 2 [(14, aU (iShl .u64 (IntKind.wrap .u64 a1) 1)), (13, aR 0 1 m0)] (by kernel_rfl) ?_))))
   obtain ⟨x7, h6, hm⟩ := bs hm
   obtain ⟨vv, H1, hC, g8, q9, rfl, rfl⟩ := ok_codec_PutUint_r m0 f0 (by first | rfl | assumption | omega | (simp only [List.length_set, List.length_append, List.length_cons, List.length_nil, List.length_replicate, List.length_drop] at * <;> omega)) (by first | exact Nat.zero_le _ | exact Nat.le_refl _ | assumption | omega | (simp only [List.length_set, List.length_append, List.length_cons, List.length_nil, List.length_replicate, List.length_drop] at * <;> omega)) h6
   refine dR [(15, aR 0 1 x7.length)] [bR 5 1 (rI .u8) x7 g8 0] [0] [aR 0 1 m0, aU (iShl .u64 (IntKind.wrap .u64 a1) 1)] (by kernel_rfl) (by kernel_rfl) (by kernel_rfl) hC (by kernel_rfl) (sh 1 [(4, aR 0 1 x7.length)] (by kernel_rfl) (fin [(4, aR 0 1 x7.length)] rfl (by kernel_rfl) (wp_ret ?_)))
   obtain rfl := Option.some.inj hm
   exact ⟨trivial, aR 0 1 x7.length, [bR 5 1 (rI .u8) x7 g8 0], by kernel_rfl, g8, (by first | exact Nat.zero_le _ | exact Nat.le_refl _ | assumption | omega | (simp only [List.length_set, List.length_append, List.length_cons, List.length_nil, List.length_replicate, List.length_drop] at * <;> omega)), rfl, rfl⟩
theorem ok_codec_bits {n : Nat} {a0 : Nat} {r : Int} (hm : codec_bits n a0 = some r) :
    call G n 117 [aF a0] [] = some (.ret (aU r), []) := by
  unfold codec_bits at hm
  obtain ⟨n, rfl, h0⟩ := at1_some hm
  replace hm := h0; clear h0
  refine callL 12 [(0, aF a0)] func117 rfl (by kernel_rfl) (sq (detn [(0, aF a0)] (by kernel_rfl) (sq (bq (sq (detn [(0, aF a0), (3, aB ((FloatKind.format .f64).order a0 a0 != some .eq))] (by kernel_rfl) ?_))))))
  rcases bif_some hm with ⟨h1, hm⟩ | ⟨h1, hm⟩
  ·
   refine ct h1 (by kernel_rfl) (sq (detn [(2, aU 9221120237041090561)] (by kernel_rfl) (wp_ret ?_)))
   obtain rfl := Option.some.inj hm
   exact ⟨trivial, by kernel_rfl⟩
  ·
   refine cf h1 (by kernel_rfl) (sq (detn [(0, aF a0), (7, aB ((FloatKind.format .f64).order a0 0 == some .eq))] (by kernel_rfl) ?_))
   rcases bif_some hm with ⟨h2, hm⟩ | ⟨h2, hm⟩
   ·
    refine ct h2 (by kernel_rfl) (sq (detn [(2, aU 0)] (by kernel_rfl) (wp_ret ?_)))
    obtain rfl := Option.some.inj hm
    exact ⟨trivial, by kernel_rfl⟩
   ·
    refine cf h2 (by kernel_rfl) (wp_skip (sq (rg (sh 1 [(10, aF a0)] (by kernel_rfl) (sh 1 [(11, aU (a0 : Int))] (by kernel_rfl) (sh 1 [(2, aU (a0 : Int))] (by kernel_rfl) (fin [(2, aU (a0 : Int))] rfl (by kernel_rfl) (wp_ret ?_))))))))
    obtain rfl := Option.some.inj hm
    exact ⟨trivial, by kernel_rfl⟩
theorem ok_codec_PutFixed_r (m0 : Nat) (f0 : Nat) {n : Nat} {a0 : (List Int)} {a1 : Int} {a2 : Int} {r : (List Int)} (hm0 : a0.length = m0) (hf0 : f0 ≤ a0.length) (hm : codec_PutFixed_r n a0 a1 a2 = some r) :
    ∃ vv H1, call G n 116 [aR 0 1 m0, aU a1, aI a2] [bR 5 1 (rI .u8) a0 f0 0] = some (.ret vv, H1) ∧ (match r with | r0 => (∃ (e1 : Nat) (e2 : Nat), r0.length = e1 ∧ e2 ≤ r0.length ∧ vv = aR 0 1 e1 ∧ H1 = [bR 5 1 (rI .u8) r0 e2 0])) := by
  unfold codec_PutFixed_r at hm
  obtain ⟨n, rfl, h0⟩ := at1_some hm
  replace hm := h0; clear h0
  refine callE 26 [(0, aR 0 1 m0), (1, aU a1), (2, aI a2)] func116 rfl (by kernel_rfl) (sq (detn [(0, aR 0 1 m0), (1, aU a1), (2, aI a2)] (by kernel_rfl) ?_))
  obtain ⟨k8, hk8, hm⟩ := withK_some hm
  refine mid (fun t H => (∃ (y1 : (List Int)) (y2 : Bool) (y3 : Int) (g4 : Nat) (g6 : Nat), k8 y1 = some r ∧ t = mk 26 [(0, aR 0 1 g4), (1, aU a1), (7, aI y3), (13, aB y2)] ∧ H = [bR 5 1 (rI .u8) y1 g6 0] ∧ y1.length = g4 ∧ g6 ≤ y1.length)) ?_ ?_
  ·
   rintro _ _ ⟨y1, y2, y3, g4, g6, hm, rfl, rfl, q5, q7⟩
   subst hk8
   refine sq (detn [(6, aR 0 1 g4)] (by kernel_rfl) (wp_ret ?_))
   obtain rfl := Option.some.inj hm
   exact ⟨trivial, aR 0 1 g4, [bR 5 1 (rI .u8) y1 g6 0], by kernel_rfl, g4, g6, (by first | rfl | assumption | omega | (simp only [List.length_set, List.length_append, List.length_cons, List.length_nil, List.length_replicate, List.length_drop] at * <;> omega)), (by first | exact Nat.zero_le _ | exact Nat.le_refl _ | assumption | omega | (simp only [List.length_set, List.length_append, List.length_cons, List.length_nil, List.length_replicate, List.length_drop] at * <;> omega)), rfl, rfl⟩
  refine sq (detn [(0, aR 0 1 m0), (1, aU a1), (7, aI (IntKind.wrap .i64 ((if 8 < (if 0 > a2 then 0 else a2) then 8 else (if 0 > a2 then 0 else a2)) - 1)))] (by kernel_rfl) (bq ?_))
  refine loopF (fun mm t H => (∃ (y15 : (List Int)) (y16 : Int) (g17 : Nat) (g19 : Nat), codec_PutFixed_r_l2 n a1 k8 mm y15 y16 = some r ∧ t = mk 26 [(0, aR 0 1 g17), (1, aU a1), (7, aI y16)] ∧ H = [bR 5 1 (rI .u8) y15 g19 0] ∧ y15.length = g17 ∧ g19 ≤ y15.length)) (⟨a0, (IntKind.wrap .i64 ((if 8 < (if 0 > a2 then 0 else a2) then 8 else (if 0 > a2 then 0 else a2)) - 1)), m0, f0, hm, rfl, rfl, (by first | rfl | assumption | omega | (simp only [List.length_set, List.length_append, List.length_cons, List.length_nil, List.length_replicate, List.length_drop] at * <;> omega)), (by first | exact Nat.zero_le _ | exact Nat.le_refl _ | assumption | omega | (simp only [List.length_set, List.length_append, List.length_cons, List.length_nil, List.length_replicate, List.length_drop] at * <;> omega))⟩) ?_ ?_
  · rintro _ _ ⟨y15, y16, g17, g19, hm, _⟩; exact nomatch hm
  rintro m21 _ _ ⟨y15, y16, g17, g19, hm, rfl, rfl, q18, q20⟩
  simp only [codec_PutFixed_r_l2] at hm
  refine sq (sq (detn [(0, aR 0 1 g17), (1, aU a1), (7, aI y16), (13, aB (decide (y16 ≥ 0)))] (by kernel_rfl) ?_))
  rcases bif_some hm with ⟨h22, hm⟩ | ⟨h22, hm⟩
  ·
   refine ct h22 (by kernel_rfl) (wp_skip (sq (bq (rg (sh 5 [(20, aU (IntKind.wrap .u64 (IntKind.wrap .i64 (8 * y16)))), (19, aI (IntKind.wrap .i64 (8 * y16))), (18, aI y16), (17, aU a1), (16, aR 0 1 g17)] (by kernel_rfl) ?_)))))
   obtain ⟨_, h23, hm⟩ := bs hm
   refine dv 21 (v := aU (iShr .u64 a1 (IntKind.wrap .u64 (IntKind.wrap .i64 (8 * y16))))) (shrO h23 (by kernel_rfl)) (by kernel_rfl) (st 2 [(23, aR 1 1 1), (22, aY (IntKind.wrap .u8 (iShr .u64 a1 (IntKind.wrap .u64 (IntKind.wrap .i64 (8 * y16))))))] [bR 5 1 (rI .u8) y15 g19 0, bR 5 1 (rI .u8) ([(IntKind.wrap .u8 (iShr .u64 a1 (IntKind.wrap .u64 (IntKind.wrap .i64 (8 * y16)))))] : List Int) 0 0] (by kernel_rfl) ?_)
   obtain ⟨_, h24, hm⟩ := bs hm
   refine dO [(24, aR 0 1 ((y15 ++ ([(IntKind.wrap .u8 (iShr .u64 a1 (IntKind.wrap .u64 (IntKind.wrap .i64 (8 * y16)))))] : List Int)).length))] [bR 5 1 (rI .u8) (y15 ++ ([(IntKind.wrap .u8 (iShr .u64 a1 (IntKind.wrap .u64 (IntKind.wrap .i64 (8 * y16)))))] : List Int)) g19 0, bR 5 1 (rI .u8) ([(IntKind.wrap .u8 (iShr .u64 a1 (IntKind.wrap .u64 (IntKind.wrap .i64 (8 * y16)))))] : List Int) 0 0] (app_refO (u := 0) (n := g17) (id := 0) (rI .u8) y15 ([(IntKind.wrap .u8 (iShr .u64 a1 (IntKind.wrap .u64 (IntKind.wrap .i64 (8 * y16)))))] : List Int) (b := 1) t43 t5 rfl rfl rfl (fun _ => rfl) rfl h24 rfl (by omega) (by omega) (show srcRows (aR 1 1 1) _ = some (([(IntKind.wrap .u8 (iShr .u64 a1 (IntKind.wrap .u64 (IntKind.wrap .i64 (8 * y16)))))] : List Int).map (rI .u8)) from by kernel_rfl) (by kernel_rfl)) (by kernel_rfl) (sh 1 [(0, aR 0 1 ((y15 ++ ([(IntKind.wrap .u8 (iShr .u64 a1 (IntKind.wrap .u64 (IntKind.wrap .i64 (8 * y16)))))] : List Int)).length))] (by kernel_rfl) (fin [(0, aR 0 1 ((y15 ++ ([(IntKind.wrap .u8 (iShr .u64 a1 (IntKind.wrap .u64 (IntKind.wrap .i64 (8 * y16)))))] : List Int)).length)), (1, aU a1), (7, aI y16)] rfl (by kernel_rfl) (detn [(0, aR 0 1 ((y15 ++ ([(IntKind.wrap .u8 (iShr .u64 a1 (IntKind.wrap .u64 (IntKind.wrap .i64 (8 * y16)))))] : List Int)).length)), (1, aU a1), (7, aI (IntKind.wrap .i64 (y16 - 1)))] (by kernel_rfl) ?_)))
   exact ⟨_, _, tidyL [(0, aR 0 1 ((y15 ++ ([(IntKind.wrap .u8 (iShr .u64 a1 (IntKind.wrap .u64 (IntKind.wrap .i64 (8 * y16)))))] : List Int)).length)), (1, aU a1), (7, aI (IntKind.wrap .i64 (y16 - 1)))] [bR 5 1 (rI .u8) (y15 ++ ([(IntKind.wrap .u8 (iShr .u64 a1 (IntKind.wrap .u64 (IntKind.wrap .i64 (8 * y16)))))] : List Int)) g19 0] (by kernel_rfl), ⟨(y15 ++ ([(IntKind.wrap .u8 (iShr .u64 a1 (IntKind.wrap .u64 (IntKind.wrap .i64 (8 * y16)))))] : List Int)), (IntKind.wrap .i64 (y16 - 1)), (y15 ++ ([(IntKind.wrap .u8 (iShr .u64 a1 (IntKind.wrap .u64 (IntKind.wrap .i64 (8 * y16)))))] : List Int)).length, g19, hm, rfl, rfl, (by first | rfl | assumption | omega | (simp only [List.length_set, List.length_append, List.length_cons, List.length_nil, List.length_replicate, List.length_drop] at * <;> omega)), (by first | exact Nat.zero_le _ | exact Nat.le_refl _ | assumption | omega | (simp only [List.length_set, List.length_append, List.length_cons, List.length_nil, List.length_replicate, List.length_drop] at * <;> omega))⟩⟩
  ·
   refine cf h22 (by kernel_rfl) (wp_exit ?_)
   exact ⟨y15, (decide (y16 ≥ 0)), y16, g17, g19, hm, rfl, rfl, (by first | rfl | assumption | omega | (simp only [List.length_set, List.length_append, List.length_cons, List.length_nil, List.length_replicate, List.length_drop] at * <;> omega)), (by first | exact Nat.zero_le _ | exact Nat.le_refl _ | assumption | omega | (simp only [List.length_set, List.length_append, List.length_cons, List.length_nil, List.length_replicate, List.length_drop] at * <;> omega))⟩
theorem ok_codec_PutFloat_r (m0 : Nat) (f0 : Nat) {n : Nat} {a0 : (List Int)} {a1 : Nat} {r : (List Int)} (hm0 : a0.length = m0) (hf0 : f0 ≤ a0.length) (hm : codec_PutFloat_r n a0 a1 = some r) :
    ∃ vv H1, call G n 95 [aR 0 1 m0, aF a1] [bR 5 1 (rI .u8) a0 f0 0] = some (.ret vv, H1) ∧ (match r with | r0 => (∃ (e1 : Nat) (e2 : Nat), r0.length = e1 ∧ e2 ≤ r0.length ∧ vv = aR 0 1 e1 ∧ H1 = [bR 5 1 (rI .u8) r0 e2 0])) := by
  unfold codec_PutFloat_r at hm
  obtain ⟨n, rfl, h0⟩ := at1_some hm
  replace hm := h0; clear h0
  refine callE 9 [(0, aR 0 1 m0), (1, aF a1)] func95 rfl (by kernel_rfl) (sq (detn [(0, aR 0 1 m0), (1, aF a1)] (by kernel_rfl) (sq (rg (sh 2 [(6, aF a1), (5, aR 0 1 m0)] (by kernel_rfl) ?_)))))
  obtain ⟨x1, h2, hm⟩ := bs hm
  refine dv 7 (cpure (by kernel_rfl) (ok_codec_bits h2) (by kernel_rfl) (by kernel_rfl) (by kernel_rfl)) (by kernel_rfl) ?_
  obtain ⟨x4, h3, hm⟩ := bs hm
  obtain ⟨vv, H1, hC, g5, g6, q7, q8, rfl, rfl⟩ := ok_codec_PutFixed_r m0 f0 (by first | rfl | assumption | omega | (simp only [List.length_set, List.length_append, List.length_cons, List.length_nil, List.length_replicate, List.length_drop] at * <;> omega)) (by first | exact Nat.zero_le _ | exact Nat.le_refl _ | assumption | omega | (simp only [List.length_set, List.length_append, List.length_cons, List.length_nil, List.length_replicate, List.length_drop] at * <;> omega)) h3
  refine dR [(8, aR 0 1 g5)] [bR 5 1 (rI .u8) x4 g6 0] [0] [aR 0 1 m0, aU x1, aI 8] (by kernel_rfl) (by kernel_rfl) (by kernel_rfl) hC (by kernel_rfl) (sh 1 [(4, aR 0 1 g5)] (by kernel_rfl) (fin [(4, aR 0 1 g5)] rfl (by kernel_rfl) (wp_ret ?_)))
  obtain rfl := Option.some.inj hm
  exact ⟨trivial, aR 0 1 g5, [bR 5 1 (rI .u8) x4 g6 0], by kernel_rfl, g5, g6, (by first | rfl | assumption | omega | (simp only [List.length_set, List.length_append, List.length_cons, List.length_nil, List.length_replicate, List.length_drop] at * <;> omega)), (by first | exact Nat.zero_le _ | exact Nat.le_refl _ | assumption | omega | (simp only [List.length_set, List.length_append, List.length_cons, List.length_nil, List.length_replicate, List.length_drop] at * <;> omega)), rfl, rfl⟩
theorem ok_codec_PutText_r (m0 : Nat) (f0 : Nat) {n : Nat} {a0 : (List Int)} {a1 : ByteArray} {r : (List Int)} (hm0 : a0.length = m0) (hf0 : f0 ≤ a0.length) (hm : codec_PutText_r n a0 a1 = some r) :
    ∃ vv H1, call G n 96 [aR 0 1 m0, aS a1] [bR 5 1 (rI .u8) a0 f0 0] = some (.ret vv, H1) ∧ (match r with | r0 => (∃ (e1 : Nat), e1 ≤ r0.length ∧ vv = aR 0 1 r0.length ∧ H1 = [bR 5 1 (rI .u8) r0 e1 0])) := by
  unfold codec_PutText_r at hm
  obtain ⟨n, rfl, h0⟩ := at1_some hm
  replace hm := h0; clear h0
  refine callE 12 [(0, aR 0 1 m0), (1, aS a1)] func96 rfl (by kernel_rfl) (sq (detn [(0, aR 0 1 m0), (1, aS a1)] (by kernel_rfl) (sq (rg (sh 4 [(8, aU (IntKind.wrap .u64 (a1.size : Int))), (7, aI (a1.size : Int)), (6, aS a1), (5, aR 0 1 m0)] (by kernel_rfl) ?_)))))
  obtain ⟨x2, h1, hm⟩ := bs hm
  obtain ⟨vv, H1, hC, g3, q4, rfl, rfl⟩ := ok_codec_PutUint_r m0 f0 (by first | rfl | assumption | omega | (simp only [List.length_set, List.length_append, List.length_cons, List.length_nil, List.length_replicate, List.length_drop] at * <;> omega)) (by first | exact Nat.zero_le _ | exact Nat.le_refl _ | assumption | omega | (simp only [List.length_set, List.length_append, List.length_cons, List.length_nil, List.length_replicate, List.length_drop] at * <;> omega)) h1
  refine dR [(9, aR 0 1 x2.length)] [bR 5 1 (rI .u8) x2 g3 0] [0] [aR 0 1 m0, aU (IntKind.wrap .u64 (a1.size : Int))] (by kernel_rfl) (by kernel_rfl) (by kernel_rfl) hC (by kernel_rfl) (sh 1 [(10, aS a1)] (by kernel_rfl) ?_)
  rcases bif_some hm with ⟨h5, hm⟩ | ⟨h5, hm⟩
  ·
   obtain ⟨_, h6, hm⟩ := bs hm
   refine dv 11 (v := aR 0 1 x2.length) (app_ref0O (u := 0) (y := aS a1) (n := x2.length) (id := 0) (rI .u8) x2 (bytesL a1) (b := 1) t43 t5 rfl rfl rfl h5 h6 rfl rfl (by omega) (src_str (s := a1)) (by kernel_rfl)) (by kernel_rfl) (sh 1 [(4, aR 0 1 x2.length)] (by kernel_rfl) (fin [(4, aR 0 1 x2.length)] rfl (by kernel_rfl) (wp_ret ?_)))
   obtain rfl := Option.some.inj hm
   exact ⟨trivial, aR 0 1 x2.length, [bR 5 1 (rI .u8) x2 g3 0], by kernel_rfl, g3, (by first | exact Nat.zero_le _ | exact Nat.le_refl _ | assumption | omega | (simp only [List.length_set, List.length_append, List.length_cons, List.length_nil, List.length_replicate, List.length_drop] at * <;> omega)), rfl, rfl⟩
  ·
   obtain ⟨_, h7, hm⟩ := bs hm
   refine dO [(11, aR 0 1 ((x2 ++ (bytesL a1)).length))] [bR 5 1 (rI .u8) (x2 ++ (bytesL a1)) g3 0] (app_refO (u := 0) (n := x2.length) (id := 0) (rI .u8) x2 (bytesL a1) (b := 1) t43 t5 rfl rfl rfl (fun _ => rfl) h5 h7 rfl rfl (by omega) (src_str (s := a1)) (by kernel_rfl)) (by kernel_rfl) (sh 1 [(4, aR 0 1 ((x2 ++ (bytesL a1)).length))] (by kernel_rfl) (fin [(4, aR 0 1 ((x2 ++ (bytesL a1)).length))] rfl (by kernel_rfl) (wp_ret ?_)))
   obtain rfl := Option.some.inj hm
   exact ⟨trivial, aR 0 1 ((x2 ++ (bytesL a1)).length), [bR 5 1 (rI .u8) (x2 ++ (bytesL a1)) g3 0], by kernel_rfl, g3, (by first | exact Nat.zero_le _ | exact Nat.le_refl _ | assumption | omega | (simp only [List.length_set, List.length_append, List.length_cons, List.length_nil, List.length_replicate, List.length_drop] at * <;> omega)), rfl, rfl⟩
theorem ok_value_Put_r (m0 : Nat) (f0 : Nat) {n : Nat} {a0 : (List Int)} {a1 : api_Value} {r : (List Int)} (hm0 : a0.length = m0) (hf0 : f0 ≤ a0.length) (hm : value_Put_r n a0 a1 = some r) :
    ∃ vv H1, call G n 56 [aR 0 1 m0, .agg [aI a1.fKind, aI a1.fInt, aF a1.fFloat, aS a1.fText]] [bR 5 1 (rI .u8) a0 f0 0] = some (.ret vv, H1) ∧ (match r with | r0 => (∃ (e1 : Nat) (e2 : Nat), r0.length = e1 ∧ e2 ≤ r0.length ∧ vv = aR 0 1 e1 ∧ H1 = [bR 5 1 (rI .u8) r0 e2 0])) := by
  unfold value_Put_r at hm
  obtain ⟨n, rfl, h0⟩ := at1_some hm
  replace hm := h0; clear h0
  refine callE 42 [(0, aR 0 1 m0), (1, .agg [aI a1.fKind, aI a1.fInt, aF a1.fFloat, aS a1.fText])] func56 rfl (by kernel_rfl) (sq (det [(0, aR 0 1 m0), (3, .ptr 1 0)] [bR 5 1 (rI .u8) a0 f0 0, .box [aI a1.fKind, aI a1.fInt, aF a1.fFloat, aS a1.fText] false] (by kernel_rfl) (sq (rg (sh 1 [(5, .agg [aI a1.fKind, aI a1.fInt, aF a1.fFloat, aS a1.fText])] (by kernel_rfl) ?_)))))
  obtain ⟨x1, h2, hm⟩ := bs hm
  refine dv 6 (cpure (by kernel_rfl) (ok_value_Plain h2) (by kernel_rfl) (by kernel_rfl) (by kernel_rfl)) (by kernel_rfl) (st 1 [] [bR 5 1 (rI .u8) a0 f0 0, .box [aI x1.fKind, aI x1.fInt, aF x1.fFloat, aS x1.fText] false] (by kernel_rfl) (fin [(0, aR 0 1 m0), (3, .ptr 1 0)] rfl (by kernel_rfl) (sq (rg (st 5 [(11, aR 2 1 1), (10, aY (IntKind.wrap .u8 x1.fKind)), (9, aI x1.fKind), (8, .ptr 1 0), (7, aR 0 1 m0)] [bR 5 1 (rI .u8) a0 f0 0, .box [aI x1.fKind, aI x1.fInt, aF x1.fFloat, aS x1.fText] false, bR 5 1 (rI .u8) ([(IntKind.wrap .u8 x1.fKind)] : List Int) 0 0] (by kernel_rfl) ?_)))))
  obtain ⟨_, h3, hm⟩ := bs hm
  refine dO [(12, aR 0 1 ((a0 ++ ([(IntKind.wrap .u8 x1.fKind)] : List Int)).length))] [bR 5 1 (rI .u8) (a0 ++ ([(IntKind.wrap .u8 x1.fKind)] : List Int)) f0 0, .box [aI x1.fKind, aI x1.fInt, aF x1.fFloat, aS x1.fText] false, bR 5 1 (rI .u8) ([(IntKind.wrap .u8 x1.fKind)] : List Int) 0 0] (app_refO (u := 0) (n := m0) (id := 0) (rI .u8) a0 ([(IntKind.wrap .u8 x1.fKind)] : List Int) (b := 1) t43 t5 rfl rfl rfl (fun _ => rfl) rfl h3 rfl (by omega) (by omega) (show srcRows (aR 2 1 1) _ = some (([(IntKind.wrap .u8 x1.fKind)] : List Int).map (rI .u8)) from by kernel_rfl) (by kernel_rfl)) (by kernel_rfl) (sh 1 [(0, aR 0 1 ((a0 ++ ([(IntKind.wrap .u8 x1.fKind)] : List Int)).length))] (by kernel_rfl) (fin [(0, aR 0 1 ((a0 ++ ([(IntKind.wrap .u8 x1.fKind)] : List Int)).length)), (3, .ptr 1 0)] rfl (by kernel_rfl) (sq (sq (detn [(0, aR 0 1 ((a0 ++ ([(IntKind.wrap .u8 x1.fKind)] : List Int)).length)), (3, .ptr 1 0), (14, aI x1.fKind)] (by kernel_rfl) (bq (sq (detn [(0, aR 0 1 ((a0 ++ ([(IntKind.wrap .u8 x1.fKind)] : List Int)).length)), (3, .ptr 1 0), (14, aI x1.fKind), (15, aB (x1.fKind == 1))] (by kernel_rfl) ?_))))))))
  rcases bif_some hm with ⟨h4, hm⟩ | ⟨h4, hm⟩
  ·
   refine ct h4 (by kernel_rfl) (sq (rg (st 5 [(21, aR 3 1 1), (20, aY (IntKind.wrap .u8 x1.fInt)), (19, aI x1.fInt), (18, .ptr 1 1), (17, aR 0 1 ((a0 ++ ([(IntKind.wrap .u8 x1.fKind)] : List Int)).length))] [bR 5 1 (rI .u8) (a0 ++ ([(IntKind.wrap .u8 x1.fKind)] : List Int)) f0 0, .box [aI x1.fKind, aI x1.fInt, aF x1.fFloat, aS x1.fText] false, bR 5 1 (rI .u8) ([(IntKind.wrap .u8 x1.fKind)] : List Int) 0 0, bR 5 1 (rI .u8) ([(IntKind.wrap .u8 x1.fInt)] : List Int) 0 0] (by kernel_rfl) ?_)))
   obtain ⟨_, h5, hm⟩ := bs hm
   refine dO [(22, aR 0 1 (((a0 ++ ([(IntKind.wrap .u8 x1.fKind)] : List Int)) ++ ([(IntKind.wrap .u8 x1.fInt)] : List Int)).length))] [bR 5 1 (rI .u8) ((a0 ++ ([(IntKind.wrap .u8 x1.fKind)] : List Int)) ++ ([(IntKind.wrap .u8 x1.fInt)] : List Int)) f0 0, .box [aI x1.fKind, aI x1.fInt, aF x1.fFloat, aS x1.fText] false, bR 5 1 (rI .u8) ([(IntKind.wrap .u8 x1.fKind)] : List Int) 0 0, bR 5 1 (rI .u8) ([(IntKind.wrap .u8 x1.fInt)] : List Int) 0 0] (app_refO (u := 0) (n := (a0 ++ ([(IntKind.wrap .u8 x1.fKind)] : List Int)).length) (id := 0) (rI .u8) (a0 ++ ([(IntKind.wrap .u8 x1.fKind)] : List Int)) ([(IntKind.wrap .u8 x1.fInt)] : List Int) (b := 1) t43 t5 rfl rfl rfl (fun _ => rfl) rfl h5 rfl rfl (by first | exact Nat.zero_le _ | exact Nat.le_refl _ | assumption | omega | (simp only [List.length_set, List.length_append, List.length_cons, List.length_nil, List.length_replicate, List.length_drop] at * <;> omega)) (show srcRows (aR 3 1 1) _ = some (([(IntKind.wrap .u8 x1.fInt)] : List Int).map (rI .u8)) from by kernel_rfl) (by kernel_rfl)) (by kernel_rfl) (sh 1 [(4, aR 0 1 (((a0 ++ ([(IntKind.wrap .u8 x1.fKind)] : List Int)) ++ ([(IntKind.wrap .u8 x1.fInt)] : List Int)).length))] (by kernel_rfl) (fin [(4, aR 0 1 (((a0 ++ ([(IntKind.wrap .u8 x1.fKind)] : List Int)) ++ ([(IntKind.wrap .u8 x1.fInt)] : List Int)).length))] rfl (by kernel_rfl) (wp_ret ?_)))
   obtain rfl := Option.some.inj hm
   exact ⟨trivial, aR 0 1 (((a0 ++ ([(IntKind.wrap .u8 x1.fKind)] : List Int)) ++ ([(IntKind.wrap .u8 x1.fInt)] : List Int)).length), [bR 5 1 (rI .u8) ((a0 ++ ([(IntKind.wrap .u8 x1.fKind)] : List Int)) ++ ([(IntKind.wrap .u8 x1.fInt)] : List Int)) f0 0], by kernel_rfl, ((a0 ++ ([(IntKind.wrap .u8 x1.fKind)] : List Int)) ++ ([(IntKind.wrap .u8 x1.fInt)] : List Int)).length, f0, (by first | rfl | assumption | omega | (simp only [List.length_set, List.length_append, List.length_cons, List.length_nil, List.length_replicate, List.length_drop] at * <;> omega)), (by first | exact Nat.zero_le _ | exact Nat.le_refl _ | assumption | omega | (simp only [List.length_set, List.length_append, List.length_cons, List.length_nil, List.length_replicate, List.length_drop] at * <;> omega)), rfl, rfl⟩
  ·
   refine cf h4 (by kernel_rfl) (sq (detn [(0, aR 0 1 ((a0 ++ ([(IntKind.wrap .u8 x1.fKind)] : List Int)).length)), (3, .ptr 1 0), (14, aI x1.fKind), (23, aB (x1.fKind == 2))] (by kernel_rfl) ?_))
   rcases bif_some hm with ⟨h6, hm⟩ | ⟨h6, hm⟩
   ·
    refine ct h6 (by kernel_rfl) (sq (rg (sh 3 [(27, aI x1.fInt), (26, .ptr 1 1), (25, aR 0 1 ((a0 ++ ([(IntKind.wrap .u8 x1.fKind)] : List Int)).length))] (by kernel_rfl) ?_)))
    obtain ⟨x8, h7, hm⟩ := bs hm
    obtain ⟨vv, H1, hC, g9, q10, rfl, rfl⟩ := ok_codec_PutInt_r ((a0 ++ ([(IntKind.wrap .u8 x1.fKind)] : List Int)).length) f0 (by first | rfl | assumption | omega | (simp only [List.length_set, List.length_append, List.length_cons, List.length_nil, List.length_replicate, List.length_drop] at * <;> omega)) (by first | exact Nat.zero_le _ | exact Nat.le_refl _ | assumption | omega | (simp only [List.length_set, List.length_append, List.length_cons, List.length_nil, List.length_replicate, List.length_drop] at * <;> omega)) h7
    refine dR [(28, aR 0 1 x8.length)] [bR 5 1 (rI .u8) x8 g9 0, .box [aI x1.fKind, aI x1.fInt, aF x1.fFloat, aS x1.fText] false, bR 5 1 (rI .u8) ([(IntKind.wrap .u8 x1.fKind)] : List Int) 0 0] [0] [aR 0 1 ((a0 ++ ([(IntKind.wrap .u8 x1.fKind)] : List Int)).length), aI x1.fInt] (by kernel_rfl) (by kernel_rfl) (by kernel_rfl) hC (by kernel_rfl) (sh 1 [(4, aR 0 1 x8.length)] (by kernel_rfl) (fin [(4, aR 0 1 x8.length)] rfl (by kernel_rfl) (wp_ret ?_)))
    obtain rfl := Option.some.inj hm
    exact ⟨trivial, aR 0 1 x8.length, [bR 5 1 (rI .u8) x8 g9 0], by kernel_rfl, x8.length, g9, (by first | rfl | assumption | omega | (simp only [List.length_set, List.length_append, List.length_cons, List.length_nil, List.length_replicate, List.length_drop] at * <;> omega)), (by first | exact Nat.zero_le _ | exact Nat.le_refl _ | assumption | omega | (simp only [List.length_set, List.length_append, List.length_cons, List.length_nil, List.length_replicate, List.length_drop] at * <;> omega)), rfl, rfl⟩
   ·
    refine cf h6 (by kernel_rfl) (sq (detn [(0, aR 0 1 ((a0 ++ ([(IntKind.wrap .u8 x1.fKind)] : List Int)).length)), (3, .ptr 1 0), (14, aI x1.fKind), (29, aB (x1.fKind == 3))] (by kernel_rfl) ?_))
    rcases bif_some hm with ⟨h11, hm⟩ | ⟨h11, hm⟩
    ·
     refine ct h11 (by kernel_rfl) (sq (rg (sh 3 [(33, aF x1.fFloat), (32, .ptr 1 2), (31, aR 0 1 ((a0 ++ ([(IntKind.wrap .u8 x1.fKind)] : List Int)).length))] (by kernel_rfl) ?_)))
     obtain ⟨x13, h12, hm⟩ := bs hm
     obtain ⟨vv, H1, hC, g14, g15, q16, q17, rfl, rfl⟩ := ok_codec_PutFloat_r ((a0 ++ ([(IntKind.wrap .u8 x1.fKind)] : List Int)).length) f0 (by first | rfl | assumption | omega | (simp only [List.length_set, List.length_append, List.length_cons, List.length_nil, List.length_replicate, List.length_drop] at * <;> omega)) (by first | exact Nat.zero_le _ | exact Nat.le_refl _ | assumption | omega | (simp only [List.length_set, List.length_append, List.length_cons, List.length_nil, List.length_replicate, List.length_drop] at * <;> omega)) h12
     refine dR [(34, aR 0 1 g14)] [bR 5 1 (rI .u8) x13 g15 0, .box [aI x1.fKind, aI x1.fInt, aF x1.fFloat, aS x1.fText] false, bR 5 1 (rI .u8) ([(IntKind.wrap .u8 x1.fKind)] : List Int) 0 0] [0] [aR 0 1 ((a0 ++ ([(IntKind.wrap .u8 x1.fKind)] : List Int)).length), aF x1.fFloat] (by kernel_rfl) (by kernel_rfl) (by kernel_rfl) hC (by kernel_rfl) (sh 1 [(4, aR 0 1 g14)] (by kernel_rfl) (fin [(4, aR 0 1 g14)] rfl (by kernel_rfl) (wp_ret ?_)))
     obtain rfl := Option.some.inj hm
     exact ⟨trivial, aR 0 1 g14, [bR 5 1 (rI .u8) x13 g15 0], by kernel_rfl, g14, g15, (by first | rfl | assumption | omega | (simp only [List.length_set, List.length_append, List.length_cons, List.length_nil, List.length_replicate, List.length_drop] at * <;> omega)), (by first | exact Nat.zero_le _ | exact Nat.le_refl _ | assumption | omega | (simp only [List.length_set, List.length_append, List.length_cons, List.length_nil, List.length_replicate, List.length_drop] at * <;> omega)), rfl, rfl⟩
    ·
     refine cf h11 (by kernel_rfl) (sq (detn [(0, aR 0 1 ((a0 ++ ([(IntKind.wrap .u8 x1.fKind)] : List Int)).length)), (3, .ptr 1 0), (35, aB (x1.fKind == 4))] (by kernel_rfl) ?_))
     rcases bif_some hm with ⟨h18, hm⟩ | ⟨h18, hm⟩
     ·
      refine ct h18 (by kernel_rfl) (sq (rg (sh 3 [(39, aS x1.fText), (38, .ptr 1 3), (37, aR 0 1 ((a0 ++ ([(IntKind.wrap .u8 x1.fKind)] : List Int)).length))] (by kernel_rfl) ?_)))
      obtain ⟨x20, h19, hm⟩ := bs hm
      obtain ⟨vv, H1, hC, g21, q22, rfl, rfl⟩ := ok_codec_PutText_r ((a0 ++ ([(IntKind.wrap .u8 x1.fKind)] : List Int)).length) f0 (by first | rfl | assumption | omega | (simp only [List.length_set, List.length_append, List.length_cons, List.length_nil, List.length_replicate, List.length_drop] at * <;> omega)) (by first | exact Nat.zero_le _ | exact Nat.le_refl _ | assumption | omega | (simp only [List.length_set, List.length_append, List.length_cons, List.length_nil, List.length_replicate, List.length_drop] at * <;> omega)) h19
      refine dR [(40, aR 0 1 x20.length)] [bR 5 1 (rI .u8) x20 g21 0, .box [aI x1.fKind, aI x1.fInt, aF x1.fFloat, aS x1.fText] false, bR 5 1 (rI .u8) ([(IntKind.wrap .u8 x1.fKind)] : List Int) 0 0] [0] [aR 0 1 ((a0 ++ ([(IntKind.wrap .u8 x1.fKind)] : List Int)).length), aS x1.fText] (by kernel_rfl) (by kernel_rfl) (by kernel_rfl) hC (by kernel_rfl) (sh 1 [(4, aR 0 1 x20.length)] (by kernel_rfl) (fin [(4, aR 0 1 x20.length)] rfl (by kernel_rfl) (wp_ret ?_)))
      obtain rfl := Option.some.inj hm
      exact ⟨trivial, aR 0 1 x20.length, [bR 5 1 (rI .u8) x20 g21 0], by kernel_rfl, x20.length, g21, (by first | rfl | assumption | omega | (simp only [List.length_set, List.length_append, List.length_cons, List.length_nil, List.length_replicate, List.length_drop] at * <;> omega)), (by first | exact Nat.zero_le _ | exact Nat.le_refl _ | assumption | omega | (simp only [List.length_set, List.length_append, List.length_cons, List.length_nil, List.length_replicate, List.length_drop] at * <;> omega)), rfl, rfl⟩
     ·
      refine cf h18 (by kernel_rfl) (wp_skip (sq (detn [(4, aR 0 1 ((a0 ++ ([(IntKind.wrap .u8 x1.fKind)] : List Int)).length))] (by kernel_rfl) (wp_ret ?_))))
      obtain rfl := Option.some.inj hm
      exact ⟨trivial, aR 0 1 ((a0 ++ ([(IntKind.wrap .u8 x1.fKind)] : List Int)).length), [bR 5 1 (rI .u8) (a0 ++ ([(IntKind.wrap .u8 x1.fKind)] : List Int)) f0 0], by kernel_rfl, (a0 ++ ([(IntKind.wrap .u8 x1.fKind)] : List Int)).length, f0, (by first | rfl | assumption | omega | (simp only [List.length_set, List.length_append, List.length_cons, List.length_nil, List.length_replicate, List.length_drop] at * <;> omega)), (by first | exact Nat.zero_le _ | exact Nat.le_refl _ | assumption | omega | (simp only [List.length_set, List.length_append, List.length_cons, List.length_nil, List.length_replicate, List.length_drop] at * <;> omega)), rfl, rfl⟩
theorem ok_hist_Put_r (m0 : Nat) (f0 : Nat) {n : Nat} {a0 : (List Int)} {a1 : (Option (List hist_Bucket))} {r : (List Int)} (hm0 : a0.length = m0) (hf0 : f0 ≤ a0.length) (hm : hist_Put_r n a0 a1 = some r) :
    ∃ vv H1, call G n 43 [aR 0 1 m0, .pv (encSl R_hist_Bucket a1)] [bR 5 1 (rI .u8) a0 f0 0] = some (.ret vv, H1) ∧ (match r with | r0 => (∃ (e1 : Nat), e1 ≤ r0.length ∧ vv = aR 0 1 r0.length ∧ H1 = [bR 5 1 (rI .u8) r0 e1 0])) := by
  unfold hist_Put_r at hm
  obtain ⟨n, rfl, h0⟩ := at1_some hm
  replace hm := h0; clear h0
  refine callE 36 [(0, aR 0 1 m0), (1, .pv (encSl R_hist_Bucket a1))] func43 rfl (by kernel_rfl) (sq (detn [(0, aR 0 1 m0), (1, .pv (encSl R_hist_Bucket a1))] (by kernel_rfl) (sq (rg (sh 2 [(8, .pv (encSl R_hist_Bucket a1)), (7, aR 0 1 m0)] (by kernel_rfl) (dv 9 (v := aI ((sll a1).length : Int)) (len_slO R_hist_Bucket a1 t53 (by kernel_rfl)) (by kernel_rfl) (sh 1 [(10, aU (IntKind.wrap .u64 ((sll a1).length : Int)))] (by kernel_rfl) ?_)))))))
  obtain ⟨x2, h1, hm⟩ := bs hm
  obtain ⟨vv, H1, hC, g3, q4, rfl, rfl⟩ := ok_codec_PutUint_r m0 f0 (by first | rfl | assumption | omega | (simp only [List.length_set, List.length_append, List.length_cons, List.length_nil, List.length_replicate, List.length_drop] at * <;> omega)) (by first | exact Nat.zero_le _ | exact Nat.le_refl _ | assumption | omega | (simp only [List.length_set, List.length_append, List.length_cons, List.length_nil, List.length_replicate, List.length_drop] at * <;> omega)) h1
  refine dR [(11, aR 0 1 x2.length)] [bR 5 1 (rI .u8) x2 g3 0] [0] [aR 0 1 m0, aU (IntKind.wrap .u64 ((sll a1).length : Int))] (by kernel_rfl) (by kernel_rfl) (by kernel_rfl) hC (by kernel_rfl) (sh 1 [(0, aR 0 1 x2.length)] (by kernel_rfl) (fin [(0, aR 0 1 x2.length), (1, .pv (encSl R_hist_Bucket a1))] rfl (by kernel_rfl) ?_))
  obtain ⟨k10, hk10, hm⟩ := withK_some hm
  refine mid (fun t H => (∃ (y5 : (List Int)) (y6 : Int) (y7 : Bool) (g8 : Nat), k10 y5 = some r ∧ t = mk 36 [(0, aR 0 1 y5.length), (12, .pv (encSl R_hist_Bucket a1)), (13, aI ((sll a1).length : Int)), (14, aI y6), (15, aB y7)] ∧ H = [bR 5 1 (rI .u8) y5 g8 0] ∧ g8 ≤ y5.length)) ?_ ?_
  ·
   rintro _ _ ⟨y5, y6, y7, g8, hm, rfl, rfl, q9⟩
   subst hk10
   refine sq (detn [(4, aR 0 1 y5.length)] (by kernel_rfl) (wp_ret ?_))
   obtain rfl := Option.some.inj hm
   exact ⟨trivial, aR 0 1 y5.length, [bR 5 1 (rI .u8) y5 g8 0], by kernel_rfl, g8, (by first | exact Nat.zero_le _ | exact Nat.le_refl _ | assumption | omega | (simp only [List.length_set, List.length_append, List.length_cons, List.length_nil, List.length_replicate, List.length_drop] at * <;> omega)), rfl, rfl⟩
  refine sq (rg (sh 1 [(12, .pv (encSl R_hist_Bucket a1))] (by kernel_rfl) (dv 13 (v := aI ((sll a1).length : Int)) (len_slO R_hist_Bucket a1 t53 (by kernel_rfl)) (by kernel_rfl) (sh 1 [(14, aI 0)] (by kernel_rfl) (fin [(0, aR 0 1 x2.length), (12, .pv (encSl R_hist_Bucket a1)), (13, aI ((sll a1).length : Int)), (14, aI 0)] rfl (by kernel_rfl) (bq ?_))))))
  refine loopF (fun mm t H => (∃ (y15 : (List Int)) (y16 : Int) (g17 : Nat), hist_Put_r_l3 n a1 k10 mm y15 y16 = some r ∧ t = mk 36 [(0, aR 0 1 y15.length), (12, .pv (encSl R_hist_Bucket a1)), (13, aI ((sll a1).length : Int)), (14, aI y16)] ∧ H = [bR 5 1 (rI .u8) y15 g17 0] ∧ g17 ≤ y15.length)) (⟨x2, 0, g3, hm, rfl, rfl, (by first | exact Nat.zero_le _ | exact Nat.le_refl _ | assumption | omega | (simp only [List.length_set, List.length_append, List.length_cons, List.length_nil, List.length_replicate, List.length_drop] at * <;> omega))⟩) ?_ ?_
  · rintro _ _ ⟨y15, y16, g17, hm, _⟩; exact nomatch hm
  rintro m19 _ _ ⟨y15, y16, g17, hm, rfl, rfl, q18⟩
  simp only [hist_Put_r_l3] at hm
  refine sq (detn [(0, aR 0 1 y15.length), (12, .pv (encSl R_hist_Bucket a1)), (13, aI ((sll a1).length : Int)), (14, aI y16), (15, aB (decide (y16 < ((sll a1).length : Int))))] (by kernel_rfl) ?_)
  refine sq ?_
  rcases bif_some hm with ⟨h20, hm⟩ | ⟨h20, hm⟩
  ·
   refine ct h20 (by kernel_rfl) (wp_skip (sq (bq (sq (rg ?_)))))
   obtain ⟨x21, h22, hm⟩ := bs hm
   refine dv 16 (v := .pv (.ptr (R_hist_Bucket x21) 0)) (ia_slO R_hist_Bucket a1 .i64 t53 t77 h22 rfl (by kernel_rfl)) (by kernel_rfl) (st 3 [(6, .ptr 1 0), (17, .agg [aI x21.fLow.fKind, aI x21.fLow.fInt, aF x21.fLow.fFloat, aS x21.fLow.fText, aI x21.fHigh.fKind, aI x21.fHigh.fInt, aF x21.fHigh.fFloat, aS x21.fHigh.fText, aI x21.fCount, aI x21.fDistinct])] [bR 5 1 (rI .u8) y15 g17 0, .box [aI x21.fLow.fKind, aI x21.fLow.fInt, aF x21.fLow.fFloat, aS x21.fLow.fText, aI x21.fHigh.fKind, aI x21.fHigh.fInt, aF x21.fHigh.fFloat, aS x21.fHigh.fText, aI x21.fCount, aI x21.fDistinct] false] (by kernel_rfl) (fin [(0, aR 0 1 y15.length), (6, .ptr 1 0), (12, .pv (encSl R_hist_Bucket a1)), (13, aI ((sll a1).length : Int)), (14, aI y16)] rfl (by kernel_rfl) (sq (rgd (shd 3 [(20, .agg [aI x21.fLow.fKind, aI x21.fLow.fInt, aF x21.fLow.fFloat, aS x21.fLow.fText]), (19, .ptr 1 0), (18, aR 0 1 y15.length)] (by kernel_rfl) ?_)))))
   obtain ⟨x24, h23, hm⟩ := bs hm
   obtain ⟨vv, H1, hC, g25, g26, q27, q28, rfl, rfl⟩ := ok_value_Put_r y15.length g17 (by first | rfl | assumption | omega | (simp only [List.length_set, List.length_append, List.length_cons, List.length_nil, List.length_replicate, List.length_drop] at * <;> omega)) (by first | exact Nat.zero_le _ | exact Nat.le_refl _ | assumption | omega | (simp only [List.length_set, List.length_append, List.length_cons, List.length_nil, List.length_replicate, List.length_drop] at * <;> omega)) h23
   refine dRd [(21, aR 0 1 g25)] [bR 5 1 (rI .u8) x24 g26 0, .box [aI x21.fLow.fKind, aI x21.fLow.fInt, aF x21.fLow.fFloat, aS x21.fLow.fText, aI x21.fHigh.fKind, aI x21.fHigh.fInt, aF x21.fHigh.fFloat, aS x21.fHigh.fText, aI x21.fCount, aI x21.fDistinct] false] [0] [aR 0 1 y15.length, .agg [aI x21.fLow.fKind, aI x21.fLow.fInt, aF x21.fLow.fFloat, aS x21.fLow.fText]] (by kernel_rfl) (by kernel_rfl) (by kernel_rfl) hC (by kernel_rfl) (shd 2 [(23, .agg [aI x21.fHigh.fKind, aI x21.fHigh.fInt, aF x21.fHigh.fFloat, aS x21.fHigh.fText]), (22, .ptr 1 4)] (by kernel_rfl) ?_)
   obtain ⟨x30, h29, hm⟩ := bs hm
   obtain ⟨vv, H1, hC, g31, g32, q33, q34, rfl, rfl⟩ := ok_value_Put_r g25 g26 (by first | rfl | assumption | omega | (simp only [List.length_set, List.length_append, List.length_cons, List.length_nil, List.length_replicate, List.length_drop] at * <;> omega)) (by first | exact Nat.zero_le _ | exact Nat.le_refl _ | assumption | omega | (simp only [List.length_set, List.length_append, List.length_cons, List.length_nil, List.length_replicate, List.length_drop] at * <;> omega)) h29
   refine dRd [(24, aR 0 1 g31)] [bR 5 1 (rI .u8) x30 g32 0, .box [aI x21.fLow.fKind, aI x21.fLow.fInt, aF x21.fLow.fFloat, aS x21.fLow.fText, aI x21.fHigh.fKind, aI x21.fHigh.fInt, aF x21.fHigh.fFloat, aS x21.fHigh.fText, aI x21.fCount, aI x21.fDistinct] false] [0] [aR 0 1 g25, .agg [aI x21.fHigh.fKind, aI x21.fHigh.fInt, aF x21.fHigh.fFloat, aS x21.fHigh.fText]] (by kernel_rfl) (by kernel_rfl) (by kernel_rfl) hC (by kernel_rfl) (shd 1 [(0, aR 0 1 g31)] (by kernel_rfl) (find [(0, aR 0 1 g31), (6, .ptr 1 0), (12, .pv (encSl R_hist_Bucket a1)), (13, aI ((sll a1).length : Int)), (14, aI y16)] rfl (by kernel_rfl) (by kernel_rfl) (rgd (shd 4 [(28, aU (IntKind.wrap .u64 x21.fCount)), (27, aI x21.fCount), (26, .ptr 1 8), (25, aR 0 1 g31)] (by kernel_rfl) ?_))))
   obtain ⟨x36, h35, hm⟩ := bs hm
   obtain ⟨vv, H1, hC, g37, q38, rfl, rfl⟩ := ok_codec_PutUint_r g31 g32 (by first | rfl | assumption | omega | (simp only [List.length_set, List.length_append, List.length_cons, List.length_nil, List.length_replicate, List.length_drop] at * <;> omega)) (by first | exact Nat.zero_le _ | exact Nat.le_refl _ | assumption | omega | (simp only [List.length_set, List.length_append, List.length_cons, List.length_nil, List.length_replicate, List.length_drop] at * <;> omega)) h35
   refine dRd [(29, aR 0 1 x36.length)] [bR 5 1 (rI .u8) x36 g37 0, .box [aI x21.fLow.fKind, aI x21.fLow.fInt, aF x21.fLow.fFloat, aS x21.fLow.fText, aI x21.fHigh.fKind, aI x21.fHigh.fInt, aF x21.fHigh.fFloat, aS x21.fHigh.fText, aI x21.fCount, aI x21.fDistinct] false] [0] [aR 0 1 g31, aU (IntKind.wrap .u64 x21.fCount)] (by kernel_rfl) (by kernel_rfl) (by kernel_rfl) hC (by kernel_rfl) (shd 3 [(32, aU (IntKind.wrap .u64 x21.fDistinct)), (31, aI x21.fDistinct), (30, .ptr 1 9)] (by kernel_rfl) ?_)
   obtain ⟨x40, h39, hm⟩ := bs hm
   obtain ⟨vv, H1, hC, g41, q42, rfl, rfl⟩ := ok_codec_PutUint_r x36.length g37 (by first | rfl | assumption | omega | (simp only [List.length_set, List.length_append, List.length_cons, List.length_nil, List.length_replicate, List.length_drop] at * <;> omega)) (by first | exact Nat.zero_le _ | exact Nat.le_refl _ | assumption | omega | (simp only [List.length_set, List.length_append, List.length_cons, List.length_nil, List.length_replicate, List.length_drop] at * <;> omega)) h39
   refine dRd [(33, aR 0 1 x40.length)] [bR 5 1 (rI .u8) x40 g41 0, .box [aI x21.fLow.fKind, aI x21.fLow.fInt, aF x21.fLow.fFloat, aS x21.fLow.fText, aI x21.fHigh.fKind, aI x21.fHigh.fInt, aF x21.fHigh.fFloat, aS x21.fHigh.fText, aI x21.fCount, aI x21.fDistinct] false] [0] [aR 0 1 x36.length, aU (IntKind.wrap .u64 x21.fDistinct)] (by kernel_rfl) (by kernel_rfl) (by kernel_rfl) hC (by kernel_rfl) (shd 1 [(0, aR 0 1 x40.length)] (by kernel_rfl) (find [(0, aR 0 1 x40.length), (12, .pv (encSl R_hist_Bucket a1)), (13, aI ((sll a1).length : Int)), (14, aI y16)] rfl (by kernel_rfl) (by kernel_rfl) (detn [(0, aR 0 1 x40.length), (12, .pv (encSl R_hist_Bucket a1)), (13, aI ((sll a1).length : Int)), (14, aI (IntKind.wrap .i64 (y16 + 1)))] (by kernel_rfl) ?_)))
   exact ⟨_, _, tidyL [(0, aR 0 1 x40.length), (12, .pv (encSl R_hist_Bucket a1)), (13, aI ((sll a1).length : Int)), (14, aI (IntKind.wrap .i64 (y16 + 1)))] [bR 5 1 (rI .u8) x40 g41 0] (by kernel_rfl), ⟨x40, (IntKind.wrap .i64 (y16 + 1)), g41, hm, rfl, rfl, (by first | exact Nat.zero_le _ | exact Nat.le_refl _ | assumption | omega | (simp only [List.length_set, List.length_append, List.length_cons, List.length_nil, List.length_replicate, List.length_drop] at * <;> omega))⟩⟩
  ·
   refine cf h20 (by kernel_rfl) (wp_exit ?_)
   exact ⟨y15, y16, (decide (y16 < ((sll a1).length : Int))), g17, hm, rfl, rfl, (by first | exact Nat.zero_le _ | exact Nat.le_refl _ | assumption | omega | (simp only [List.length_set, List.length_append, List.length_cons, List.length_nil, List.length_replicate, List.length_drop] at * <;> omega))⟩
theorem ok_hll_Put_r (m0 : Nat) (f0 : Nat) {n : Nat} {a0 : (List Int)} {a1 : hll_Sketch} {r : (List Int)} (hm0 : a0.length = m0) (hf0 : f0 ≤ a0.length) (hm : hll_Put_r n a0 a1 = some r) :
    ∃ vv H1, call G n 57 [aR 0 1 m0, .agg (aA .u8 64 a1.fRegs)] [bR 5 1 (rI .u8) a0 f0 0] = some (.ret vv, H1) ∧ (match r with | r0 => (∃ (e1 : Nat) (e2 : Nat), r0.length = e1 ∧ e2 ≤ r0.length ∧ vv = aR 0 1 e1 ∧ H1 = [bR 5 1 (rI .u8) r0 e2 0])) := by
  unfold hll_Put_r at hm
  obtain ⟨n, rfl, h0⟩ := at1_some hm
  replace hm := h0; clear h0
  refine callE 9 [(0, aR 0 1 m0), (1, .agg (aA .u8 64 a1.fRegs))] func57 rfl (by kernel_rfl) (sq (det [(0, aR 0 1 m0), (3, .ptr 1 0)] [bR 5 1 (rI .u8) a0 f0 0, .box (aA .u8 64 a1.fRegs) false] (by kernel_rfl) (sq (rg (sh 2 [(6, .ptr 1 0), (5, aR 0 1 m0)] (by kernel_rfl) (dO [(7, .pv (.sl ((lsA 64 a1.fRegs).map (rI .u8))))] [bR 5 1 (rI .u8) a0 f0 0, .box (aA .u8 64 a1.fRegs) true] (sl_arrO (k := .u8) (n := 64) (id := 1) (off := 0) (e := 5) a1.fRegs [] [] (rA .u8 64 a1.fRegs) [1] t5 rfl rfl (by kernel_rfl) (by kernel_rfl) (by kernel_rfl) (by kernel_rfl) (by kernel_rfl)) (by kernel_rfl) ?_))))))
  rcases bif_some hm with ⟨h1, hm⟩ | ⟨h1, hm⟩
  ·
   obtain ⟨_, h2, hm⟩ := bs hm
   refine dv 8 (v := aR 0 1 m0) (app_ref0O (u := 0) (y := .pv (.sl ((lsA 64 a1.fRegs).map (rI .u8)))) (n := m0) (id := 0) (rI .u8) a0 (lsA 64 a1.fRegs) (b := 1) t43 t5 rfl rfl rfl h1 h2 rfl (by omega) (by omega) (src_sl1 (R := (rI .u8)) (l := (lsA 64 a1.fRegs))) (by kernel_rfl)) (by kernel_rfl) (sh 1 [(4, aR 0 1 m0)] (by kernel_rfl) (fin [(4, aR 0 1 m0)] rfl (by kernel_rfl) (wp_ret ?_)))
   obtain rfl := Option.some.inj hm
   exact ⟨trivial, aR 0 1 m0, [bR 5 1 (rI .u8) a0 f0 0], by kernel_rfl, m0, f0, (by first | rfl | assumption | omega | (simp only [List.length_set, List.length_append, List.length_cons, List.length_nil, List.length_replicate, List.length_drop] at * <;> omega)), (by first | exact Nat.zero_le _ | exact Nat.le_refl _ | assumption | omega | (simp only [List.length_set, List.length_append, List.length_cons, List.length_nil, List.length_replicate, List.length_drop] at * <;> omega)), rfl, rfl⟩
  ·
   obtain ⟨_, h3, hm⟩ := bs hm
   refine dO [(8, aR 0 1 ((a0 ++ (lsA 64 a1.fRegs)).length))] [bR 5 1 (rI .u8) (a0 ++ (lsA 64 a1.fRegs)) f0 0, .box (aA .u8 64 a1.fRegs) true] (app_refO (u := 0) (n := m0) (id := 0) (rI .u8) a0 (lsA 64 a1.fRegs) (b := 1) t43 t5 rfl rfl rfl (fun _ => rfl) h1 h3 rfl (by omega) (by omega) (src_sl1 (R := (rI .u8)) (l := (lsA 64 a1.fRegs))) (by kernel_rfl)) (by kernel_rfl) (sh 1 [(4, aR 0 1 ((a0 ++ (lsA 64 a1.fRegs)).length))] (by kernel_rfl) (fin [(4, aR 0 1 ((a0 ++ (lsA 64 a1.fRegs)).length))] rfl (by kernel_rfl) (wp_ret ?_)))
   obtain rfl := Option.some.inj hm
   exact ⟨trivial, aR 0 1 ((a0 ++ (lsA 64 a1.fRegs)).length), [bR 5 1 (rI .u8) (a0 ++ (lsA 64 a1.fRegs)) f0 0], by kernel_rfl, (a0 ++ (lsA 64 a1.fRegs)).length, f0, (by first | rfl | assumption | omega | (simp only [List.length_set, List.length_append, List.length_cons, List.length_nil, List.length_replicate, List.length_drop] at * <;> omega)), (by first | exact Nat.zero_le _ | exact Nat.le_refl _ | assumption | omega | (simp only [List.length_set, List.length_append, List.length_cons, List.length_nil, List.length_replicate, List.length_drop] at * <;> omega)), rfl, rfl⟩
theorem ok_stat_Put_nil {n : Nat} {a0 : stat_Stat} {r : (List Int)} (hm : stat_Put_nil n a0 = some r) :
    ∃ vv H1, call G n 22 [.pv .nils, .agg [aI a0.fRows, .pv (encSl R_stat_Col a0.fCols)]] [] = some (.ret vv, H1) ∧ (match r with | r0 => (∃ (e1 : Nat) (e2 : Nat), r0.length = e1 ∧ e2 ≤ r0.length ∧ vv = aR 0 1 e1 ∧ H1 = [bR 5 1 (rI .u8) r0 e2 0])) := by
  unfold stat_Put_nil at hm
  obtain ⟨n, rfl, h0⟩ := at1_some hm
  replace hm := h0; clear h0
  refine callE 61 [(0, .pv .nils), (1, .agg [aI a0.fRows, .pv (encSl R_stat_Col a0.fCols)])] func22 rfl (by kernel_rfl) (sq (det [(0, .pv .nils), (3, .ptr 0 0)] [.box [aI a0.fRows, .pv (encSl R_stat_Col a0.fCols)] false] (by kernel_rfl) (sq (rgd (shd 3 [(11, aI a0.fRows), (10, .ptr 0 0), (9, .pv .nils)] (by kernel_rfl) ?_)))))
  obtain ⟨x2, h1, hm⟩ := bs hm
  obtain ⟨vv, H1, hC, rfl, rfl⟩ := ok_stat_number_nil h1
  refine dRd [(12, aR 1 1 x2.length)] [.box [aI a0.fRows, .pv (encSl R_stat_Col a0.fCols)] false, bR 5 1 (rI .u8) x2 0 0] [] [.pv .nils, aI a0.fRows] (by kernel_rfl) (by kernel_rfl) (by kernel_rfl) hC (by kernel_rfl) (shd 2 [(14, .pv (encSl R_stat_Col a0.fCols)), (13, .ptr 0 1)] (by kernel_rfl) (dvd 15 (v := aI ((sll a0.fCols).length : Int)) (len_slO R_stat_Col a0.fCols t29 (by kernel_rfl)) (by kernel_rfl) ?_))
  obtain ⟨x4, h3, hm⟩ := bs hm
  obtain ⟨vv, H1, hC, g5, q6, rfl, rfl⟩ := ok_stat_number_r x2.length 0 (by first | rfl | assumption | omega | (simp only [List.length_set, List.length_append, List.length_cons, List.length_nil, List.length_replicate, List.length_drop] at * <;> omega)) (by first | exact Nat.zero_le _ | exact Nat.le_refl _ | assumption | omega | (simp only [List.length_set, List.length_append, List.length_cons, List.length_nil, List.length_replicate, List.length_drop] at * <;> omega)) h3
  refine dRd [(16, aR 1 1 x4.length)] [.box [aI a0.fRows, .pv (encSl R_stat_Col a0.fCols)] false, bR 5 1 (rI .u8) x4 g5 0] [1] [aR 1 1 x2.length, aI ((sll a0.fCols).length : Int)] (by kernel_rfl) (by kernel_rfl) (by kernel_rfl) hC (by kernel_rfl) (shd 1 [(0, aR 1 1 x4.length)] (by kernel_rfl) (find [(0, aR 1 1 x4.length), (3, .ptr 0 0)] rfl (by kernel_rfl) (by kernel_rfl) ?_))
  obtain ⟨k14, hk14, hm⟩ := withK_some hm
  refine mid (fun t H => (∃ (y7 : (List Int)) (y8 : Int) (y9 : Bool) (g10 : Nat) (g12 : Nat), k14 y7 = some r ∧ t = mk 61 [(0, aR 1 1 g10), (18, .pv (encSl R_stat_Col a0.fCols)), (19, aI ((sll a0.fCols).length : Int)), (20, aI y8), (21, aB y9)] ∧ H = [.box [aI a0.fRows, .pv (encSl R_stat_Col a0.fCols)] false, bR 5 1 (rI .u8) y7 g12 0] ∧ y7.length = g10 ∧ g12 ≤ y7.length)) ?_ ?_
  ·
   rintro _ _ ⟨y7, y8, y9, g10, g12, hm, rfl, rfl, q11, q13⟩
   subst hk14
   refine sq (detn [(4, aR 1 1 g10)] (by kernel_rfl) (wp_ret ?_))
   obtain rfl := Option.some.inj hm
   exact ⟨trivial, aR 0 1 g10, [bR 5 1 (rI .u8) y7 g12 0], by kernel_rfl, g10, g12, (by first | rfl | assumption | omega | (simp only [List.length_set, List.length_append, List.length_cons, List.length_nil, List.length_replicate, List.length_drop] at * <;> omega)), (by first | exact Nat.zero_le _ | exact Nat.le_refl _ | assumption | omega | (simp only [List.length_set, List.length_append, List.length_cons, List.length_nil, List.length_replicate, List.length_drop] at * <;> omega)), rfl, rfl⟩
  refine sq (rg (sh 2 [(18, .pv (encSl R_stat_Col a0.fCols)), (17, .ptr 0 1)] (by kernel_rfl) (dv 19 (v := aI ((sll a0.fCols).length : Int)) (len_slO R_stat_Col a0.fCols t29 (by kernel_rfl)) (by kernel_rfl) (sh 1 [(20, aI 0)] (by kernel_rfl) (fin [(0, aR 1 1 x4.length), (18, .pv (encSl R_stat_Col a0.fCols)), (19, aI ((sll a0.fCols).length : Int)), (20, aI 0)] rfl (by kernel_rfl) (bq ?_))))))
  refine loopF (fun mm t H => (∃ (y21 : (List Int)) (y22 : Int) (g23 : Nat) (g25 : Nat), stat_Put_nil_l3 n a0 k14 mm y21 y22 = some r ∧ t = mk 61 [(0, aR 1 1 g23), (18, .pv (encSl R_stat_Col a0.fCols)), (19, aI ((sll a0.fCols).length : Int)), (20, aI y22)] ∧ H = [.box [aI a0.fRows, .pv (encSl R_stat_Col a0.fCols)] false, bR 5 1 (rI .u8) y21 g25 0] ∧ y21.length = g23 ∧ g25 ≤ y21.length)) (⟨x4, 0, x4.length, g5, hm, rfl, rfl, (by first | rfl | assumption | omega | (simp only [List.length_set, List.length_append, List.length_cons, List.length_nil, List.length_replicate, List.length_drop] at * <;> omega)), (by first | exact Nat.zero_le _ | exact Nat.le_refl _ | assumption | omega | (simp only [List.length_set, List.length_append, List.length_cons, List.length_nil, List.length_replicate, List.length_drop] at * <;> omega))⟩) ?_ ?_
  · rintro _ _ ⟨y21, y22, g23, g25, hm, _⟩; exact nomatch hm
  rintro m27 _ _ ⟨y21, y22, g23, g25, hm, rfl, rfl, q24, q26⟩
  simp only [stat_Put_nil_l3] at hm
  refine sq (detn [(0, aR 1 1 g23), (18, .pv (encSl R_stat_Col a0.fCols)), (19, aI ((sll a0.fCols).length : Int)), (20, aI y22), (21, aB (decide (y22 < ((sll a0.fCols).length : Int))))] (by kernel_rfl) ?_)
  refine sq ?_
  rcases bif_some hm with ⟨h28, hm⟩ | ⟨h28, hm⟩
  ·
   refine ct h28 (by kernel_rfl) (wp_skip ?_)
   obtain ⟨k42, hk42, hm⟩ := withK_some hm
   refine mid (fun t H => (∃ (y29 : (List Int)) (y30 : Int) (y31 : Int) (y32 : Int) (y33 : (Option (List hist_Bucket))) (y34 : (Option (List api_Value))) (y35 : (Nat → Int)) (y36 : (List Int)) (g37 : Nat) (g39 : Nat), k42 y29 = some r ∧ t = mk 61 [(0, aR 1 1 g37), (18, .pv (encSl R_stat_Col a0.fCols)), (19, aI ((sll a0.fCols).length : Int)), (20, aI y22)] ∧ H = [.box [aI a0.fRows, .pv (encSl R_stat_Col a0.fCols)] false, bR 5 1 (rI .u8) y29 g39 0, .box ([aI y30, aI y31, aI y32, .pv (encSl R_hist_Bucket y33), .pv (encSl R_api_Value y34)] ++ (aA .u8 64 y35)) false, bR 5 1 (rI .u8) y36 0 0] ∧ y29.length = g37 ∧ g39 ≤ y29.length ∧ y36.length = 1)) ?_ ?_
   ·
    rintro _ _ ⟨y29, y30, y31, y32, y33, y34, y35, y36, g37, g39, hm, rfl, rfl, q38, q40, q41⟩
    subst hk42
    refine detn [(0, aR 1 1 g37), (18, .pv (encSl R_stat_Col a0.fCols)), (19, aI ((sll a0.fCols).length : Int)), (20, aI (IntKind.wrap .i64 (y22 + 1)))] (by kernel_rfl) ?_
    exact ⟨_, _, tidyL [(0, aR 1 1 g37), (18, .pv (encSl R_stat_Col a0.fCols)), (19, aI ((sll a0.fCols).length : Int)), (20, aI (IntKind.wrap .i64 (y22 + 1)))] [.box [aI a0.fRows, .pv (encSl R_stat_Col a0.fCols)] false, bR 5 1 (rI .u8) y29 g39 0] (by kernel_rfl), ⟨y29, (IntKind.wrap .i64 (y22 + 1)), g37, g39, hm, rfl, rfl, (by first | rfl | assumption | omega | (simp only [List.length_set, List.length_append, List.length_cons, List.length_nil, List.length_replicate, List.length_drop] at * <;> omega)), (by first | exact Nat.zero_le _ | exact Nat.le_refl _ | assumption | omega | (simp only [List.length_set, List.length_append, List.length_cons, List.length_nil, List.length_replicate, List.length_drop] at * <;> omega))⟩⟩
   refine bq (sq (rg ?_))
   obtain ⟨x43, h44, hm⟩ := bs hm
   refine dv 22 (v := .pv (.ptr (R_stat_Col x43) 0)) (ia_slO R_stat_Col a0.fCols .i64 t29 t91 h44 rfl (by kernel_rfl)) (by kernel_rfl) (st 3 [(6, .ptr 2 0), (23, .agg ([aI x43.fKind, aI x43.fNulls, aI x43.fDistinct, .pv (encSl R_hist_Bucket x43.fHist), .pv (encSl R_api_Value x43.fSample)] ++ (aA .u8 64 x43.fSketch.fRegs)))] [.box [aI a0.fRows, .pv (encSl R_stat_Col a0.fCols)] false, bR 5 1 (rI .u8) y21 g25 0, .box ([aI x43.fKind, aI x43.fNulls, aI x43.fDistinct, .pv (encSl R_hist_Bucket x43.fHist), .pv (encSl R_api_Value x43.fSample)] ++ (aA .u8 64 x43.fSketch.fRegs)) false] (by kernel_rfl) (fin [(0, aR 1 1 g23), (6, .ptr 2 0), (18, .pv (encSl R_stat_Col a0.fCols)), (19, aI ((sll a0.fCols).length : Int)), (20, aI y22)] rfl (by kernel_rfl) (sq (rgd (std 5 [(28, aR 3 1 1), (27, aY (IntKind.wrap .u8 x43.fKind)), (26, aI x43.fKind), (25, .ptr 2 0), (24, aR 1 1 g23)] [.box [aI a0.fRows, .pv (encSl R_stat_Col a0.fCols)] false, bR 5 1 (rI .u8) y21 g25 0, .box ([aI x43.fKind, aI x43.fNulls, aI x43.fDistinct, .pv (encSl R_hist_Bucket x43.fHist), .pv (encSl R_api_Value x43.fSample)] ++ (aA .u8 64 x43.fSketch.fRegs)) false, bR 5 1 (rI .u8) ([(IntKind.wrap .u8 x43.fKind)] : List Int) 0 0] (by kernel_rfl) ?_)))))
   obtain ⟨_, h45, hm⟩ := bs hm
   refine dOd [(29, aR 1 1 ((y21 ++ ([(IntKind.wrap .u8 x43.fKind)] : List Int)).length))] [.box [aI a0.fRows, .pv (encSl R_stat_Col a0.fCols)] false, bR 5 1 (rI .u8) (y21 ++ ([(IntKind.wrap .u8 x43.fKind)] : List Int)) g25 0, .box ([aI x43.fKind, aI x43.fNulls, aI x43.fDistinct, .pv (encSl R_hist_Bucket x43.fHist), .pv (encSl R_api_Value x43.fSample)] ++ (aA .u8 64 x43.fSketch.fRegs)) false, bR 5 1 (rI .u8) ([(IntKind.wrap .u8 x43.fKind)] : List Int) 0 0] (app_refO (u := 0) (n := g23) (id := 1) (rI .u8) y21 ([(IntKind.wrap .u8 x43.fKind)] : List Int) (b := 1) t43 t5 rfl rfl rfl (fun _ => rfl) rfl h45 rfl (by omega) (by omega) (show srcRows (aR 3 1 1) _ = some (([(IntKind.wrap .u8 x43.fKind)] : List Int).map (rI .u8)) from by kernel_rfl) (by kernel_rfl)) (by kernel_rfl) (shd 2 [(31, aI x43.fNulls), (30, .ptr 2 1)] (by kernel_rfl) ?_)
   obtain ⟨x47, h46, hm⟩ := bs hm
   obtain ⟨vv, H1, hC, g48, q49, rfl, rfl⟩ := ok_stat_number_r ((y21 ++ ([(IntKind.wrap .u8 x43.fKind)] : List Int)).length) g25 (by first | rfl | assumption | omega | (simp only [List.length_set, List.length_append, List.length_cons, List.length_nil, List.length_replicate, List.length_drop] at * <;> omega)) (by first | exact Nat.zero_le _ | exact Nat.le_refl _ | assumption | omega | (simp only [List.length_set, List.length_append, List.length_cons, List.length_nil, List.length_replicate, List.length_drop] at * <;> omega)) h46
   refine dRd [(32, aR 1 1 x47.length)] [.box [aI a0.fRows, .pv (encSl R_stat_Col a0.fCols)] false, bR 5 1 (rI .u8) x47 g48 0, .box ([aI x43.fKind, aI x43.fNulls, aI x43.fDistinct, .pv (encSl R_hist_Bucket x43.fHist), .pv (encSl R_api_Value x43.fSample)] ++ (aA .u8 64 x43.fSketch.fRegs)) false, bR 5 1 (rI .u8) ([(IntKind.wrap .u8 x43.fKind)] : List Int) 0 0] [1] [aR 1 1 ((y21 ++ ([(IntKind.wrap .u8 x43.fKind)] : List Int)).length), aI x43.fNulls] (by kernel_rfl) (by kernel_rfl) (by kernel_rfl) hC (by kernel_rfl) (shd 2 [(34, aI x43.fDistinct), (33, .ptr 2 2)] (by kernel_rfl) ?_)
   obtain ⟨x51, h50, hm⟩ := bs hm
   obtain ⟨vv, H1, hC, g52, q53, rfl, rfl⟩ := ok_stat_number_r x47.length g48 (by first | rfl | assumption | omega | (simp only [List.length_set, List.length_append, List.length_cons, List.length_nil, List.length_replicate, List.length_drop] at * <;> omega)) (by first | exact Nat.zero_le _ | exact Nat.le_refl _ | assumption | omega | (simp only [List.length_set, List.length_append, List.length_cons, List.length_nil, List.length_replicate, List.length_drop] at * <;> omega)) h50
   refine dRd [(35, aR 1 1 x51.length)] [.box [aI a0.fRows, .pv (encSl R_stat_Col a0.fCols)] false, bR 5 1 (rI .u8) x51 g52 0, .box ([aI x43.fKind, aI x43.fNulls, aI x43.fDistinct, .pv (encSl R_hist_Bucket x43.fHist), .pv (encSl R_api_Value x43.fSample)] ++ (aA .u8 64 x43.fSketch.fRegs)) false, bR 5 1 (rI .u8) ([(IntKind.wrap .u8 x43.fKind)] : List Int) 0 0] [1] [aR 1 1 x47.length, aI x43.fDistinct] (by kernel_rfl) (by kernel_rfl) (by kernel_rfl) hC (by kernel_rfl) (shd 1 [(0, aR 1 1 x51.length)] (by kernel_rfl) (find [(0, aR 1 1 x51.length), (6, .ptr 2 0), (18, .pv (encSl R_stat_Col a0.fCols)), (19, aI ((sll a0.fCols).length : Int)), (20, aI y22)] rfl (by kernel_rfl) (by kernel_rfl) (sq (rgd (shd 3 [(38, .pv (encSl R_hist_Bucket x43.fHist)), (37, .ptr 2 3), (36, aR 1 1 x51.length)] (by kernel_rfl) ?_)))))
   obtain ⟨x55, h54, hm⟩ := bs hm
   obtain ⟨vv, H1, hC, g56, q57, rfl, rfl⟩ := ok_hist_Put_r x51.length g52 (by first | rfl | assumption | omega | (simp only [List.length_set, List.length_append, List.length_cons, List.length_nil, List.length_replicate, List.length_drop] at * <;> omega)) (by first | exact Nat.zero_le _ | exact Nat.le_refl _ | assumption | omega | (simp only [List.length_set, List.length_append, List.length_cons, List.length_nil, List.length_replicate, List.length_drop] at * <;> omega)) h54
   refine dRd [(39, aR 1 1 x55.length)] [.box [aI a0.fRows, .pv (encSl R_stat_Col a0.fCols)] false, bR 5 1 (rI .u8) x55 g56 0, .box ([aI x43.fKind, aI x43.fNulls, aI x43.fDistinct, .pv (encSl R_hist_Bucket x43.fHist), .pv (encSl R_api_Value x43.fSample)] ++ (aA .u8 64 x43.fSketch.fRegs)) false, bR 5 1 (rI .u8) ([(IntKind.wrap .u8 x43.fKind)] : List Int) 0 0] [1] [aR 1 1 x51.length, .pv (encSl R_hist_Bucket x43.fHist)] (by kernel_rfl) (by kernel_rfl) (by kernel_rfl) hC (by kernel_rfl) (shd 2 [(41, .pv (encSl R_api_Value x43.fSample)), (40, .ptr 2 4)] (by kernel_rfl) (dvd 42 (v := aI ((sll x43.fSample).length : Int)) (len_slO R_api_Value x43.fSample t52 (by kernel_rfl)) (by kernel_rfl) ?_))
   obtain ⟨x59, h58, hm⟩ := bs hm
   obtain ⟨vv, H1, hC, g60, q61, rfl, rfl⟩ := ok_stat_number_r x55.length g56 (by first | rfl | assumption | omega | (simp only [List.length_set, List.length_append, List.length_cons, List.length_nil, List.length_replicate, List.length_drop] at * <;> omega)) (by first | exact Nat.zero_le _ | exact Nat.le_refl _ | assumption | omega | (simp only [List.length_set, List.length_append, List.length_cons, List.length_nil, List.length_replicate, List.length_drop] at * <;> omega)) h58
   refine dRd [(43, aR 1 1 x59.length)] [.box [aI a0.fRows, .pv (encSl R_stat_Col a0.fCols)] false, bR 5 1 (rI .u8) x59 g60 0, .box ([aI x43.fKind, aI x43.fNulls, aI x43.fDistinct, .pv (encSl R_hist_Bucket x43.fHist), .pv (encSl R_api_Value x43.fSample)] ++ (aA .u8 64 x43.fSketch.fRegs)) false, bR 5 1 (rI .u8) ([(IntKind.wrap .u8 x43.fKind)] : List Int) 0 0] [1] [aR 1 1 x55.length, aI ((sll x43.fSample).length : Int)] (by kernel_rfl) (by kernel_rfl) (by kernel_rfl) hC (by kernel_rfl) (shd 1 [(0, aR 1 1 x59.length)] (by kernel_rfl) (find [(0, aR 1 1 x59.length), (6, .ptr 2 0), (18, .pv (encSl R_stat_Col a0.fCols)), (19, aI ((sll a0.fCols).length : Int)), (20, aI y22)] rfl (by kernel_rfl) (by kernel_rfl) ?_))
   obtain ⟨k69, hk69, hm⟩ := withK_some hm
   refine mid (fun t H => (∃ (y62 : (List Int)) (y63 : Int) (y64 : Bool) (g65 : Nat) (g67 : Nat), k69 y62 = some r ∧ t = mk 61 [(0, aR 1 1 g65), (6, .ptr 2 0), (18, .pv (encSl R_stat_Col a0.fCols)), (19, aI ((sll a0.fCols).length : Int)), (20, aI y22), (45, .pv (encSl R_api_Value x43.fSample)), (46, aI ((sll x43.fSample).length : Int)), (47, aI y63), (48, aB y64)] ∧ H = [.box [aI a0.fRows, .pv (encSl R_stat_Col a0.fCols)] false, bR 5 1 (rI .u8) y62 g67 0, .box ([aI x43.fKind, aI x43.fNulls, aI x43.fDistinct, .pv (encSl R_hist_Bucket x43.fHist), .pv (encSl R_api_Value x43.fSample)] ++ (aA .u8 64 x43.fSketch.fRegs)) false, bR 5 1 (rI .u8) ([(IntKind.wrap .u8 x43.fKind)] : List Int) 0 0] ∧ y62.length = g65 ∧ g67 ≤ y62.length)) ?_ ?_
   ·
    rintro _ _ ⟨y62, y63, y64, g65, g67, hm, rfl, rfl, q66, q68⟩
    subst hk69
    refine rg (sh 3 [(57, .agg (aA .u8 64 x43.fSketch.fRegs)), (56, .ptr 2 5), (55, aR 1 1 g65)] (by kernel_rfl) ?_)
    obtain ⟨x71, h70, hm⟩ := bs hm
    obtain ⟨vv, H1, hC, g72, g73, q74, q75, rfl, rfl⟩ := ok_hll_Put_r g65 g67 (by first | rfl | assumption | omega | (simp only [List.length_set, List.length_append, List.length_cons, List.length_nil, List.length_replicate, List.length_drop] at * <;> omega)) (by first | exact Nat.zero_le _ | exact Nat.le_refl _ | assumption | omega | (simp only [List.length_set, List.length_append, List.length_cons, List.length_nil, List.length_replicate, List.length_drop] at * <;> omega)) h70
    refine dR [(58, aR 1 1 g72)] [.box [aI a0.fRows, .pv (encSl R_stat_Col a0.fCols)] false, bR 5 1 (rI .u8) x71 g73 0, .box ([aI x43.fKind, aI x43.fNulls, aI x43.fDistinct, .pv (encSl R_hist_Bucket x43.fHist), .pv (encSl R_api_Value x43.fSample)] ++ (aA .u8 64 x43.fSketch.fRegs)) false, bR 5 1 (rI .u8) ([(IntKind.wrap .u8 x43.fKind)] : List Int) 0 0] [1] [aR 1 1 g65, .agg (aA .u8 64 x43.fSketch.fRegs)] (by kernel_rfl) (by kernel_rfl) (by kernel_rfl) hC (by kernel_rfl) (sh 1 [(0, aR 1 1 g72)] (by kernel_rfl) (fin [(0, aR 1 1 g72), (18, .pv (encSl R_stat_Col a0.fCols)), (19, aI ((sll a0.fCols).length : Int)), (20, aI y22)] rfl (by kernel_rfl) ?_))
    exact ⟨x71, x43.fKind, x43.fNulls, x43.fDistinct, x43.fHist, x43.fSample, x43.fSketch.fRegs, ([(IntKind.wrap .u8 x43.fKind)] : List Int), g72, g73, hm, rfl, rfl, (by first | rfl | assumption | omega | (simp only [List.length_set, List.length_append, List.length_cons, List.length_nil, List.length_replicate, List.length_drop] at * <;> omega)), (by first | exact Nat.zero_le _ | exact Nat.le_refl _ | assumption | omega | (simp only [List.length_set, List.length_append, List.length_cons, List.length_nil, List.length_replicate, List.length_drop] at * <;> omega)), (by first | rfl | assumption | omega | (simp only [List.length_set, List.length_append, List.length_cons, List.length_nil, List.length_replicate, List.length_drop] at * <;> omega))⟩
   refine sq (rg (sh 2 [(45, .pv (encSl R_api_Value x43.fSample)), (44, .ptr 2 4)] (by kernel_rfl) (dv 46 (v := aI ((sll x43.fSample).length : Int)) (len_slO R_api_Value x43.fSample t52 (by kernel_rfl)) (by kernel_rfl) (sh 1 [(47, aI 0)] (by kernel_rfl) (fin [(0, aR 1 1 x59.length), (6, .ptr 2 0), (18, .pv (encSl R_stat_Col a0.fCols)), (19, aI ((sll a0.fCols).length : Int)), (20, aI y22), (45, .pv (encSl R_api_Value x43.fSample)), (46, aI ((sll x43.fSample).length : Int)), (47, aI 0)] rfl (by kernel_rfl) (bq ?_))))))
   refine loopF (fun mm t H => (∃ (y82 : (List Int)) (y83 : Int) (g84 : Nat) (g86 : Nat), stat_Put_nil_l8 n x43 k69 mm y82 y83 = some r ∧ t = mk 61 [(0, aR 1 1 g84), (6, .ptr 2 0), (18, .pv (encSl R_stat_Col a0.fCols)), (19, aI ((sll a0.fCols).length : Int)), (20, aI y22), (45, .pv (encSl R_api_Value x43.fSample)), (46, aI ((sll x43.fSample).length : Int)), (47, aI y83)] ∧ H = [.box [aI a0.fRows, .pv (encSl R_stat_Col a0.fCols)] false, bR 5 1 (rI .u8) y82 g86 0, .box ([aI x43.fKind, aI x43.fNulls, aI x43.fDistinct, .pv (encSl R_hist_Bucket x43.fHist), .pv (encSl R_api_Value x43.fSample)] ++ (aA .u8 64 x43.fSketch.fRegs)) false, bR 5 1 (rI .u8) ([(IntKind.wrap .u8 x43.fKind)] : List Int) 0 0] ∧ y82.length = g84 ∧ g86 ≤ y82.length)) (⟨x59, 0, x59.length, g60, hm, rfl, rfl, (by first | rfl | assumption | omega | (simp only [List.length_set, List.length_append, List.length_cons, List.length_nil, List.length_replicate, List.length_drop] at * <;> omega)), (by first | exact Nat.zero_le _ | exact Nat.le_refl _ | assumption | omega | (simp only [List.length_set, List.length_append, List.length_cons, List.length_nil, List.length_replicate, List.length_drop] at * <;> omega))⟩) ?_ ?_
   · rintro _ _ ⟨y82, y83, g84, g86, hm, _⟩; exact nomatch hm
   rintro m88 _ _ ⟨y82, y83, g84, g86, hm, rfl, rfl, q85, q87⟩
   simp only [stat_Put_nil_l8] at hm
   refine sq (detn [(0, aR 1 1 g84), (6, .ptr 2 0), (18, .pv (encSl R_stat_Col a0.fCols)), (19, aI ((sll a0.fCols).length : Int)), (20, aI y22), (45, .pv (encSl R_api_Value x43.fSample)), (46, aI ((sll x43.fSample).length : Int)), (47, aI y83), (48, aB (decide (y83 < ((sll x43.fSample).length : Int))))] (by kernel_rfl) ?_)
   refine sq ?_
   rcases bif_some hm with ⟨h89, hm⟩ | ⟨h89, hm⟩
   ·
    refine ct h89 (by kernel_rfl) (wp_skip (sq (bq (sq (rg ?_)))))
    obtain ⟨x90, h91, hm⟩ := bs hm
    refine dv 49 (v := .pv (.ptr (R_api_Value x90) 0)) (ia_slO R_api_Value x43.fSample .i64 t52 t64 h91 rfl (by kernel_rfl)) (by kernel_rfl) (st 3 [(8, .ptr 4 0), (50, .agg [aI x90.fKind, aI x90.fInt, aF x90.fFloat, aS x90.fText])] [.box [aI a0.fRows, .pv (encSl R_stat_Col a0.fCols)] false, bR 5 1 (rI .u8) y82 g86 0, .box ([aI x43.fKind, aI x43.fNulls, aI x43.fDistinct, .pv (encSl R_hist_Bucket x43.fHist), .pv (encSl R_api_Value x43.fSample)] ++ (aA .u8 64 x43.fSketch.fRegs)) false, bR 5 1 (rI .u8) ([(IntKind.wrap .u8 x43.fKind)] : List Int) 0 0, .box [aI x90.fKind, aI x90.fInt, aF x90.fFloat, aS x90.fText] false] (by kernel_rfl) (fin [(0, aR 1 1 g84), (6, .ptr 2 0), (8, .ptr 4 0), (18, .pv (encSl R_stat_Col a0.fCols)), (19, aI ((sll a0.fCols).length : Int)), (20, aI y22), (45, .pv (encSl R_api_Value x43.fSample)), (46, aI ((sll x43.fSample).length : Int)), (47, aI y83)] rfl (by kernel_rfl) (rg (sh 2 [(52, .agg [aI x90.fKind, aI x90.fInt, aF x90.fFloat, aS x90.fText]), (51, aR 1 1 g84)] (by kernel_rfl) ?_))))
    obtain ⟨x93, h92, hm⟩ := bs hm
    obtain ⟨vv, H1, hC, g94, g95, q96, q97, rfl, rfl⟩ := ok_value_Put_r g84 g86 (by first | rfl | assumption | omega | (simp only [List.length_set, List.length_append, List.length_cons, List.length_nil, List.length_replicate, List.length_drop] at * <;> omega)) (by first | exact Nat.zero_le _ | exact Nat.le_refl _ | assumption | omega | (simp only [List.length_set, List.length_append, List.length_cons, List.length_nil, List.length_replicate, List.length_drop] at * <;> omega)) h92
    refine dR [(53, aR 1 1 g94)] [.box [aI a0.fRows, .pv (encSl R_stat_Col a0.fCols)] false, bR 5 1 (rI .u8) x93 g95 0, .box ([aI x43.fKind, aI x43.fNulls, aI x43.fDistinct, .pv (encSl R_hist_Bucket x43.fHist), .pv (encSl R_api_Value x43.fSample)] ++ (aA .u8 64 x43.fSketch.fRegs)) false, bR 5 1 (rI .u8) ([(IntKind.wrap .u8 x43.fKind)] : List Int) 0 0, .box [aI x90.fKind, aI x90.fInt, aF x90.fFloat, aS x90.fText] false] [1] [aR 1 1 g84, .agg [aI x90.fKind, aI x90.fInt, aF x90.fFloat, aS x90.fText]] (by kernel_rfl) (by kernel_rfl) (by kernel_rfl) hC (by kernel_rfl) (sh 1 [(0, aR 1 1 g94)] (by kernel_rfl) (fin [(0, aR 1 1 g94), (6, .ptr 2 0), (18, .pv (encSl R_stat_Col a0.fCols)), (19, aI ((sll a0.fCols).length : Int)), (20, aI y22), (45, .pv (encSl R_api_Value x43.fSample)), (46, aI ((sll x43.fSample).length : Int)), (47, aI y83)] rfl (by kernel_rfl) (detn [(0, aR 1 1 g94), (6, .ptr 2 0), (18, .pv (encSl R_stat_Col a0.fCols)), (19, aI ((sll a0.fCols).length : Int)), (20, aI y22), (45, .pv (encSl R_api_Value x43.fSample)), (46, aI ((sll x43.fSample).length : Int)), (47, aI (IntKind.wrap .i64 (y83 + 1)))] (by kernel_rfl) ?_)))
    exact ⟨_, _, tidyL [(0, aR 1 1 g94), (6, .ptr 2 0), (18, .pv (encSl R_stat_Col a0.fCols)), (19, aI ((sll a0.fCols).length : Int)), (20, aI y22), (45, .pv (encSl R_api_Value x43.fSample)), (46, aI ((sll x43.fSample).length : Int)), (47, aI (IntKind.wrap .i64 (y83 + 1)))] [.box [aI a0.fRows, .pv (encSl R_stat_Col a0.fCols)] false, bR 5 1 (rI .u8) x93 g95 0, .box ([aI x43.fKind, aI x43.fNulls, aI x43.fDistinct, .pv (encSl R_hist_Bucket x43.fHist), .pv (encSl R_api_Value x43.fSample)] ++ (aA .u8 64 x43.fSketch.fRegs)) false, bR 5 1 (rI .u8) ([(IntKind.wrap .u8 x43.fKind)] : List Int) 0 0] (by kernel_rfl), ⟨x93, (IntKind.wrap .i64 (y83 + 1)), g94, g95, hm, rfl, rfl, (by first | rfl | assumption | omega | (simp only [List.length_set, List.length_append, List.length_cons, List.length_nil, List.length_replicate, List.length_drop] at * <;> omega)), (by first | exact Nat.zero_le _ | exact Nat.le_refl _ | assumption | omega | (simp only [List.length_set, List.length_append, List.length_cons, List.length_nil, List.length_replicate, List.length_drop] at * <;> omega))⟩⟩
   ·
    refine cf h89 (by kernel_rfl) (wp_exit ?_)
    exact ⟨y82, y83, (decide (y83 < ((sll x43.fSample).length : Int))), g84, g86, hm, rfl, rfl, (by first | rfl | assumption | omega | (simp only [List.length_set, List.length_append, List.length_cons, List.length_nil, List.length_replicate, List.length_drop] at * <;> omega)), (by first | exact Nat.zero_le _ | exact Nat.le_refl _ | assumption | omega | (simp only [List.length_set, List.length_append, List.length_cons, List.length_nil, List.length_replicate, List.length_drop] at * <;> omega))⟩
  ·
   refine cf h28 (by kernel_rfl) (wp_exit ?_)
   exact ⟨y21, y22, (decide (y22 < ((sll a0.fCols).length : Int))), g23, g25, hm, rfl, rfl, (by first | rfl | assumption | omega | (simp only [List.length_set, List.length_append, List.length_cons, List.length_nil, List.length_replicate, List.length_drop] at * <;> omega)), (by first | exact Nat.zero_le _ | exact Nat.le_refl _ | assumption | omega | (simp only [List.length_set, List.length_append, List.length_cons, List.length_nil, List.length_replicate, List.length_drop] at * <;> omega))⟩
theorem ok_codec_Read {n : Nat} {a0 : (Option (List Int))} {r : Unit} (hm : codec_Read n a0 = some r) :
    ∃ vv H1, call G n 23 [.pv (encSl (rI .u8) a0)] [] = some (.ret vv, H1) ∧ (vv = .ptr 0 0 ∧ H1 = [.box [aB true, .pv (encSl (rI .u8) a0), aI 0] false]) := by
  unfold codec_Read at hm
  obtain ⟨n, rfl, h0⟩ := at1_some hm
  replace hm := h0; clear h0
  refine callE 6 [(0, .pv (encSl (rI .u8) a0))] func23 rfl (by kernel_rfl) (sq (detn [(0, .pv (encSl (rI .u8) a0))] (by kernel_rfl) (sq (det [(2, .ptr 0 0)] [.box [aB true, .pv (encSl (rI .u8) a0), aI 0] false] (by kernel_rfl) (wp_ret ?_)))))
  obtain rfl := Option.some.inj hm
  exact ⟨trivial, .ptr 0 0, [.box [aB true, .pv (encSl (rI .u8) a0), aI 0] false], by kernel_rfl, rfl, rfl⟩
theorem ok_codec_Reader_ready {n : Nat} {a0 : codec_Reader} {r : Unit} (hm : codec_Reader_ready n a0 = some r) :
    ∃ vv H1, call G n 61 [.ptr 0 0] [.box [aB a0.fmade, .pv (encSl (rI .u8) a0.fb), aI a0.fe] false] = some (.ret vv, H1) ∧ (vv = aB (a0.fmade && (a0.fe == 0)) ∧ H1 = [.box [aB a0.fmade, .pv (encSl (rI .u8) a0.fb), aI a0.fe] false]) := by
  unfold codec_Reader_ready at hm
  obtain ⟨n, rfl, h0⟩ := at1_some hm
  replace hm := h0; clear h0
  refine callE 18 [(0, .ptr 0 0)] func61 rfl (by kernel_rfl) (sq (detn [(0, .ptr 0 0)] (by kernel_rfl) (sq (rg (sh 9 [(11, aB a0.fmade), (10, aB a0.fmade), (9, aB a0.fmade), (8, .ptr 0 0), (7, .ptr 0 0), (6, .ptr 0 0), (5, aB true), (4, aB true), (3, .ptr 0 0)] (by kernel_rfl) ?_)))))
  refine seg a0.fmade [11, 10, 9] (fun b => [(17, aB (b && (a0.fe == 0))), (16, ifA b (aB (a0.fe == 0)) (.undef)), (15, ifA b (aI a0.fe) (.undef)), (14, ifA b (.ptr 0 2) (.undef)), (13, ifA b (.ptr 0 0) (.undef)), (12, ifA b (.ptr 0 0) (.undef))]) 15 (by kernel_rfl) ?_ ?_ ?_
  ·
   intro Q h
   refine sh 6 [(17, aB (a0.fe == 0)), (16, aB (a0.fe == 0)), (15, aI a0.fe), (14, .ptr 0 2), (13, .ptr 0 0), (12, .ptr 0 0)] (by kernel_rfl) ?_
   exact sameN (by kernel_rfl) (by kernel_rfl) h
  ·
   intro Q h
   refine sh 6 [(17, aB false), (16, .undef), (15, .undef), (14, .undef), (13, .undef), (12, .undef)] (by kernel_rfl) ?_
   exact sameN (by kernel_rfl) (by kernel_rfl) h
  refine sh 1 [(2, aB (a0.fmade && (a0.fe == 0)))] (by kernel_rfl) (fin [(2, aB (a0.fmade && (a0.fe == 0)))] rfl (by kernel_rfl) (wp_ret ?_))
  obtain rfl := Option.some.inj hm
  exact ⟨trivial, aB (a0.fmade && (a0.fe == 0)), [.box [aB a0.fmade, .pv (encSl (rI .u8) a0.fb), aI a0.fe] false], by kernel_rfl, rfl, rfl⟩
theorem ok_codec_Reader_fail {n : Nat} {a0 : codec_Reader} {a1 : Int} {r : Unit} (hm : codec_Reader_fail n a0 a1 = some r) :
    ∃ vv H1, call G n 98 [.ptr 0 0, aI a1] [.box [aB a0.fmade, .pv (encSl (rI .u8) a0.fb), aI a0.fe] false] = some (.ret vv, H1) ∧ (vv = .tup [] ∧ H1 = [.box [aB a0.fmade, .pv .nils, aI a1] false]) := by
  unfold codec_Reader_fail at hm
  obtain ⟨n, rfl, h0⟩ := at1_some hm
  replace hm := h0; clear h0
  refine callE 11 [(0, .ptr 0 0), (1, aI a1)] func98 rfl (by kernel_rfl) (det [] [.box [aB a0.fmade, .pv .nils, aI a1] false] (by kernel_rfl) ?_)
  obtain rfl := Option.some.inj hm
  exact ⟨trivial, .tup [], [.box [aB a0.fmade, .pv .nils, aI a1] false], by kernel_rfl, rfl, rfl⟩
theorem ok_codec_Reader_take {n : Nat} {a0 : codec_Reader} {a1 : Int} {r : (Option (List Int)) × Int × (Option (List Int)) × Bool} (hm : codec_Reader_take n a0 a1 = some r) :
    ∃ vv H1, call G n 118 [.ptr 0 0, aI a1] [.box [aB a0.fmade, .pv (encSl (rI .u8) a0.fb), aI a0.fe] false] = some (.ret vv, H1) ∧ (match r with | (r0, r1, r2, r3) => (vv = .tup [.pv (encSl (rI .u8) r2), aB r3] ∧ H1 = [.box [aB a0.fmade, .pv (encSl (rI .u8) r0), aI r1] false])) := by
  unfold codec_Reader_take at hm
  obtain ⟨n, rfl, h0⟩ := at1_some hm
  replace hm := h0; clear h0
  refine callE 32 [(0, .ptr 0 0), (1, aI a1)] func118 rfl (by kernel_rfl) (sq (detn [(0, .ptr 0 0), (1, aI a1)] (by kernel_rfl) ?_))
  refine sq (sq (rg (sh 5 [(11, .pv (encSl (rI .u8) a0.fb)), (10, .ptr 0 1), (9, .ptr 0 0), (8, .ptr 0 0), (7, aI a1)] (by kernel_rfl) (dv 12 (v := aI ((sll a0.fb).length : Int)) (len_slO (rI .u8) a0.fb t43 (by kernel_rfl)) (by kernel_rfl) (sh 1 [(13, aB (decide (a1 > ((sll a0.fb).length : Int))))] (by kernel_rfl) (fin [(0, .ptr 0 0), (1, aI a1), (13, aB (decide (a1 > ((sll a0.fb).length : Int))))] rfl (by kernel_rfl) ?_))))))
  rcases bif_some hm with ⟨h1, hm⟩ | ⟨h1, hm⟩
  ·
   refine ct h1 (by kernel_rfl) (sq (rg (sh 1 [(14, .ptr 0 0)] (by kernel_rfl) ?_)))
   obtain ⟨_, h2, hm⟩ := bs hm
   obtain ⟨vv, H1, hC, rfl, rfl⟩ := ok_codec_Reader_fail h2
   refine dR [(15, .tup [])] [.box [aB a0.fmade, .pv .nils, aI 21] false] [0] [.ptr 0 0, aI 21] (by kernel_rfl) (by kernel_rfl) (by kernel_rfl) hC (by kernel_rfl) (fin [] rfl (by kernel_rfl) (sq (detn [(4, .pv .nils), (5, aB false)] (by kernel_rfl) (wp_ret ?_))))
   obtain rfl := Option.some.inj hm
   exact ⟨trivial, .tup [.pv .nils, aB false], [.box [aB a0.fmade, .pv .nils, aI 21] false], by kernel_rfl, rfl, rfl⟩
  ·
   refine cf h1 (by kernel_rfl) (wp_skip (sq (rg (sh 5 [(20, aI a1), (19, .pv (encSl (rI .u8) a0.fb)), (18, .ptr 0 1), (17, .ptr 0 0), (16, .ptr 0 0)] (by kernel_rfl) ?_))))
   obtain ⟨_, h3, hm⟩ := bs hm
   refine dv 21 (v := .pv (encSl (rI .u8) (subSl a0.fb 0 a1))) (slice_slO (rI .u8) a0.fb (k := .i64) (k' := .i64) (xl := none) (xh := some (aI a1)) (esz := 1) h3 (fun _ => rfl) (.inl ⟨rfl, rfl⟩) (.inr rfl) (by kernel_rfl)) (by kernel_rfl) (sh 1 [(6, .pv (encSl (rI .u8) (subSl a0.fb 0 a1)))] (by kernel_rfl) (fin [(0, .ptr 0 0), (1, aI a1), (6, .pv (encSl (rI .u8) (subSl a0.fb 0 a1)))] rfl (by kernel_rfl) (sq (rg (sh 6 [(27, aI a1), (26, .pv (encSl (rI .u8) a0.fb)), (25, .ptr 0 1), (24, .ptr 0 0), (23, .ptr 0 0), (22, .ptr 0 0)] (by kernel_rfl) ?_)))))
   obtain ⟨_, h4, hm⟩ := bs hm
   refine dv 28 (v := .pv (encSl (rI .u8) (subSl a0.fb a1 ((sll a0.fb).length : Int)))) (slice_slO (rI .u8) a0.fb (k := .i64) (k' := .i64) (xl := some (aI a1)) (xh := none) (esz := 1) h4 (fun _ => rfl) (.inr rfl) (.inl ⟨rfl, rfl⟩) (by kernel_rfl)) (by kernel_rfl) (st 3 [(30, .ptr 0 1), (29, .ptr 0 0)] [.box [aB a0.fmade, .pv (encSl (rI .u8) (subSl a0.fb a1 ((sll a0.fb).length : Int))), aI a0.fe] false] (by kernel_rfl) (fin [(6, .pv (encSl (rI .u8) (subSl a0.fb 0 a1)))] rfl (by kernel_rfl) (sq (detn [(4, .pv (encSl (rI .u8) (subSl a0.fb 0 a1))), (5, aB true)] (by kernel_rfl) (wp_ret ?_)))))
   obtain rfl := Option.some.inj hm
   exact ⟨trivial, .tup [.pv (encSl (rI .u8) (subSl a0.fb 0 a1)), aB true], [.box [aB a0.fmade, .pv (encSl (rI .u8) (subSl a0.fb a1 ((sll a0.fb).length : Int))), aI a0.fe] false], by kernel_rfl, rfl, rfl⟩
end Go.Ab.S1
