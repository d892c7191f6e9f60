import Derived.Test.YtejbcaheoloahaaS1
import Derived.Test.YtejbcaheoloahaaPA
namespace Go.Ab.S1
open Go Go.Ab Go.Pl
open Go.Proofs.Try
set_option linter.unusedVariables false
set_option linter.unusedSimpArgs false
set_option maxRecDepth 100000
theorem run_law31_works : call G 3999999 11 [] [] = some (.ret (aB true), []) := by kernel_rfl
theorem ok_law31_works {n : Nat} {r : Bool} (hm : law31_works n = some r) :
    call G n 11 [] [] = some (.ret (aB r), []) := by
  unfold law31_works at hm
  have hn : n = 3999999 := by
    cases h : n == 3999999 with
    | true => exact eq_of_beq h
    | false => rw [h] at hm; cases hm
  subst hn
  have h2 : some true = some r := hm
  obtain rfl := Option.some.inj h2
  exact run_law31_works
theorem okf_ref22_Bulk {rc_ref22_Bulk : (Nat → (Option (List E_api_Expr)) → Int → Option (Int))} (ih_ref22_Bulk : ∀ {n : Nat} {a0 : (Option (List E_api_Expr))} {a1 : Int} {r : Int} (hm : rc_ref22_Bulk n a0 a1 = some r), call G n 44 [.pv (encSl R_E_api_Expr a0), aI a1] [] = some (.ret (aI r), [])) {n : Nat} {a0 : (Option (List E_api_Expr))} {a1 : Int} {r : Int} (hm : ref22_Bulk_f rc_ref22_Bulk n a0 a1 = some r) :
    call G n 44 [.pv (encSl R_E_api_Expr a0), aI a1] [] = some (.ret (aI r), []) := by
  unfold ref22_Bulk_f at hm
  obtain ⟨n, rfl, h0⟩ := at1_some hm
  replace hm := h0; clear h0
  refine callL 61 [(0, .pv (encSl R_E_api_Expr a0)), (1, aI a1)] func44 rfl (by kernel_rfl) (sq (detn [(0, .pv (encSl R_E_api_Expr a0)), (1, aI a1)] (by kernel_rfl) ?_))
  refine sq (sq (rg (sh 1 [(7, .pv (encSl R_E_api_Expr a0))] (by kernel_rfl) (dv 8 (v := aI ((sll a0).length : Int)) (len_slO R_E_api_Expr a0 t23 (by kernel_rfl)) (by kernel_rfl) (sh 2 [(10, aB (decide (((sll a0).length : Int) > a1))), (9, aI a1)] (by kernel_rfl) (fin [(0, .pv (encSl R_E_api_Expr a0)), (1, aI a1), (10, aB (decide (((sll a0).length : Int) > a1)))] rfl (by kernel_rfl) ?_))))))
  rcases bif_some hm with ⟨h1, hm⟩ | ⟨h1, hm⟩
  ·
   refine ct h1 (by kernel_rfl) (sq (detn [(4, aI (IntKind.wrap .i64 (a1 + 1)))] (by kernel_rfl) (wp_ret ?_)))
   obtain rfl := Option.some.inj hm
   exact ⟨trivial, by kernel_rfl⟩
  ·
   refine cf h1 (by kernel_rfl) (wp_skip (sq (rg (sh 1 [(13, .pv (encSl R_E_api_Expr a0))] (by kernel_rfl) (dv 14 (v := aI ((sll a0).length : Int)) (len_slO R_E_api_Expr a0 t23 (by kernel_rfl)) (by kernel_rfl) (sh 1 [(5, aI ((sll a0).length : Int))] (by kernel_rfl) (fin [(0, .pv (encSl R_E_api_Expr a0)), (1, aI a1), (5, aI ((sll a0).length : Int))] rfl (by kernel_rfl) ?_)))))))
   obtain ⟨k5, hk5, hm⟩ := withK_some hm
   refine mid (fun t H => (∃ (y2 : Bool) (y3 : Int) (y4 : Int), k5 y3 = some r ∧ t = mk 61 [(0, .pv (encSl R_E_api_Expr a0)), (1, aI a1), (5, aI y3), (6, aI y4), (23, aB y2)] ∧ H = [])) ?_ ?_
   ·
    rintro _ _ ⟨y2, y3, y4, hm, rfl, rfl⟩
    subst hk5
    refine sq (detn [(4, aI y3)] (by kernel_rfl) (wp_ret ?_))
    obtain rfl := Option.some.inj hm
    exact ⟨trivial, by kernel_rfl⟩
   refine sq (detn [(0, .pv (encSl R_E_api_Expr a0)), (1, aI a1), (5, aI ((sll a0).length : Int)), (6, aI 0)] (by kernel_rfl) (bq ?_))
   refine loopF (fun mm t H => (∃ (y8 : Int) (y9 : Int), ref22_Bulk_l5 n rc_ref22_Bulk a0 a1 k5 mm y8 y9 = some r ∧ t = mk 61 [(0, .pv (encSl R_E_api_Expr a0)), (1, aI a1), (5, aI y8), (6, aI y9)] ∧ H = [])) (⟨((sll a0).length : Int), 0, hm, rfl, rfl⟩) ?_ ?_
   · rintro _ _ ⟨y8, y9, hm, _⟩; exact nomatch hm
   rintro m10 _ _ ⟨y8, y9, hm, rfl, rfl⟩
   simp only [ref22_Bulk_l5] at hm
   refine sq (sq (rg (sh 2 [(16, .pv (encSl R_E_api_Expr a0)), (15, aI y9)] (by kernel_rfl) (dv 17 (v := aI ((sll a0).length : Int)) (len_slO R_E_api_Expr a0 t23 (by kernel_rfl)) (by kernel_rfl) (sh 2 [(19, aB (decide (y9 < ((sll a0).length : Int)))), (18, aB (decide (y9 < ((sll a0).length : Int))))] (by kernel_rfl) ?_)))))
   refine seg (decide (y9 < ((sll a0).length : Int))) [19, 18] (fun b => [(23, aB (b && (decide (y8 ≤ a1)))), (22, ifA b (aB (decide (y8 ≤ a1))) (.undef)), (21, ifA b (aI a1) (.undef)), (20, ifA b (aI y8) (.undef))]) 9 (by kernel_rfl) ?_ ?_ ?_
   ·
    intro Q h
    refine sh 4 [(23, aB (decide (y8 ≤ a1))), (22, aB (decide (y8 ≤ a1))), (21, aI a1), (20, aI y8)] (by kernel_rfl) ?_
    exact sameN (by kernel_rfl) (by kernel_rfl) h
   ·
    intro Q h
    refine sh 4 [(23, aB false), (22, .undef), (21, .undef), (20, .undef)] (by kernel_rfl) ?_
    exact sameN (by kernel_rfl) (by kernel_rfl) h
   refine fin [(0, .pv (encSl R_E_api_Expr a0)), (1, aI a1), (5, aI y8), (6, aI y9), (23, aB ((decide (y9 < ((sll a0).length : Int))) && (decide (y8 ≤ a1))))] rfl (by kernel_rfl) ?_
   rcases bif_some hm with ⟨h11, hm⟩ | ⟨h11, hm⟩
   ·
    refine ct h11 (by kernel_rfl) (wp_skip (sq (bq ?_)))
    refine sq (sq (rg (sh 2 [(27, aI y9), (26, .pv (encSl R_E_api_Expr a0))] (by kernel_rfl) ?_)))
    obtain ⟨x12, h13, hm⟩ := bs hm
    refine dv 28 (v := .pv (.ptr (R_api_Expr (un_api_Expr x12)) 0)) (ia_slE R_E_api_Expr a0 .i64 t23 t44 h13 (R_un_api_Expr x12) rfl (by kernel_rfl)) (by kernel_rfl) (sh 6 [(34, aB (decide (((((un_api_Expr x12).fConst).fText).size : Int) > a1))), (33, aI a1), (32, aI ((((un_api_Expr x12).fConst).fText).size : Int)), (31, aS (((un_api_Expr x12).fConst).fText)), (30, .pv (.ptr (R_api_Expr (un_api_Expr x12)) 6)), (29, .pv (.ptr (R_api_Expr (un_api_Expr x12)) 3))] (by kernel_rfl) (fin [(0, .pv (encSl R_E_api_Expr a0)), (1, aI a1), (5, aI y8), (6, aI y9), (34, aB (decide (((((un_api_Expr x12).fConst).fText).size : Int) > a1)))] rfl (by kernel_rfl) ?_))
    rcases bif_some hm with ⟨h14, hm⟩ | ⟨h14, hm⟩
    ·
     refine ct h14 (by kernel_rfl) (sq (detn [(4, aI (IntKind.wrap .i64 (a1 + 1)))] (by kernel_rfl) (wp_ret ?_)))
     obtain rfl := Option.some.inj hm
     exact ⟨trivial, by kernel_rfl⟩
    ·
     refine cf h14 (by kernel_rfl) (wp_skip (sq (rg (sh 3 [(39, aI y9), (38, .pv (encSl R_E_api_Expr a0)), (37, aI y8)] (by kernel_rfl) (dv 40 (v := .pv (.ptr (R_api_Expr (un_api_Expr x12)) 0)) (ia_slE R_E_api_Expr a0 .i64 t23 t44 h13 (R_un_api_Expr x12) rfl (by kernel_rfl)) (by kernel_rfl) (sh 6 [(5, aI (IntKind.wrap .i64 (y8 + ((((un_api_Expr x12).fConst).fText).size : Int)))), (45, aI (IntKind.wrap .i64 (y8 + ((((un_api_Expr x12).fConst).fText).size : Int)))), (44, aI ((((un_api_Expr x12).fConst).fText).size : Int)), (43, aS (((un_api_Expr x12).fConst).fText)), (42, .pv (.ptr (R_api_Expr (un_api_Expr x12)) 6)), (41, .pv (.ptr (R_api_Expr (un_api_Expr x12)) 3))] (by kernel_rfl) (fin [(0, .pv (encSl R_E_api_Expr a0)), (1, aI a1), (5, aI (IntKind.wrap .i64 (y8 + ((((un_api_Expr x12).fConst).fText).size : Int)))), (6, aI y9)] rfl (by kernel_rfl) (sq (detn [(0, .pv (encSl R_E_api_Expr a0)), (1, aI a1), (5, aI (IntKind.wrap .i64 (y8 + ((((un_api_Expr x12).fConst).fText).size : Int)))), (6, aI y9), (48, aB (decide ((IntKind.wrap .i64 (y8 + ((((un_api_Expr x12).fConst).fText).size : Int))) ≤ a1)))] (by kernel_rfl) ?_)))))))))
     rcases bif_some hm with ⟨h15, hm⟩ | ⟨h15, hm⟩
     ·
      refine ct h15 (by kernel_rfl) (rg (sh 3 [(51, aI y9), (50, .pv (encSl R_E_api_Expr a0)), (49, aI (IntKind.wrap .i64 (y8 + ((((un_api_Expr x12).fConst).fText).size : Int))))] (by kernel_rfl) (dv 52 (v := .pv (.ptr (R_api_Expr (un_api_Expr x12)) 0)) (ia_slE R_E_api_Expr a0 .i64 t23 t44 h13 (R_un_api_Expr x12) rfl (by kernel_rfl)) (by kernel_rfl) (sh 5 [(57, aI (IntKind.wrap .i64 (a1 - (IntKind.wrap .i64 (y8 + ((((un_api_Expr x12).fConst).fText).size : Int)))))), (56, aI (IntKind.wrap .i64 (y8 + ((((un_api_Expr x12).fConst).fText).size : Int)))), (55, aI a1), (54, .pv (encSl R_E_api_Expr ((un_api_Expr x12).fKids))), (53, .pv (.ptr (R_api_Expr (un_api_Expr x12)) 7))] (by kernel_rfl) ?_))))
      obtain ⟨x16, h17, hm⟩ := bs hm
      refine dv 58 (cpure (by kernel_rfl) (ih_ref22_Bulk h17) (by kernel_rfl) (by kernel_rfl) (by kernel_rfl)) (by kernel_rfl) (sh 2 [(5, aI (IntKind.wrap .i64 ((IntKind.wrap .i64 (y8 + ((((un_api_Expr x12).fConst).fText).size : Int))) + x16))), (59, aI (IntKind.wrap .i64 ((IntKind.wrap .i64 (y8 + ((((un_api_Expr x12).fConst).fText).size : Int))) + x16)))] (by kernel_rfl) (fin [(0, .pv (encSl R_E_api_Expr a0)), (1, aI a1), (5, aI (IntKind.wrap .i64 ((IntKind.wrap .i64 (y8 + ((((un_api_Expr x12).fConst).fText).size : Int))) + x16))), (6, aI y9)] rfl (by kernel_rfl) (detn [(0, .pv (encSl R_E_api_Expr a0)), (1, aI a1), (5, aI (IntKind.wrap .i64 ((IntKind.wrap .i64 (y8 + ((((un_api_Expr x12).fConst).fText).size : Int))) + x16))), (6, aI (IntKind.wrap .i64 (y9 + 1)))] (by kernel_rfl) ?_)))
      exact ⟨_, _, tidyL [(0, .pv (encSl R_E_api_Expr a0)), (1, aI a1), (5, aI (IntKind.wrap .i64 ((IntKind.wrap .i64 (y8 + ((((un_api_Expr x12).fConst).fText).size : Int))) + x16))), (6, aI (IntKind.wrap .i64 (y9 + 1)))] [] (by kernel_rfl), ⟨(IntKind.wrap .i64 ((IntKind.wrap .i64 (y8 + ((((un_api_Expr x12).fConst).fText).size : Int))) + x16)), (IntKind.wrap .i64 (y9 + 1)), hm, rfl, rfl⟩⟩
     ·
      refine cf h15 (by kernel_rfl) (wp_skip (detn [(0, .pv (encSl R_E_api_Expr a0)), (1, aI a1), (5, aI (IntKind.wrap .i64 (y8 + ((((un_api_Expr x12).fConst).fText).size : Int)))), (6, aI (IntKind.wrap .i64 (y9 + 1)))] (by kernel_rfl) ?_))
      exact ⟨_, _, tidyL [(0, .pv (encSl R_E_api_Expr a0)), (1, aI a1), (5, aI (IntKind.wrap .i64 (y8 + ((((un_api_Expr x12).fConst).fText).size : Int)))), (6, aI (IntKind.wrap .i64 (y9 + 1)))] [] (by kernel_rfl), ⟨(IntKind.wrap .i64 (y8 + ((((un_api_Expr x12).fConst).fText).size : Int))), (IntKind.wrap .i64 (y9 + 1)), hm, rfl, rfl⟩⟩
   ·
    refine cf h11 (by kernel_rfl) (wp_exit ?_)
    exact ⟨((decide (y9 < ((sll a0).length : Int))) && (decide (y8 ≤ a1))), y8, y9, hm, rfl, rfl⟩
theorem okt_ref22_Bulk : ∀ (m : Nat), ∀ {n : Nat} {a0 : (Option (List E_api_Expr))} {a1 : Int} {r : Int} (hm : ref22_Bulk_t m n a0 a1 = some r), call G n 44 [.pv (encSl R_E_api_Expr a0), aI a1] [] = some (.ret (aI r), [])
  | 0 => by intros; rename_i hm; exact nomatch hm
  | m + 1 => fun hm =>
    okf_ref22_Bulk (okt_ref22_Bulk m) hm
theorem ok_ref22_Bulk {n : Nat} {a0 : (Option (List E_api_Expr))} {a1 : Int} {r : Int} (hm : ref22_Bulk n a0 a1 = some r) :
    call G n 44 [.pv (encSl R_E_api_Expr a0), aI a1] [] = some (.ret (aI r), []) := okt_ref22_Bulk n hm
theorem ok_law20_Great {n : Nat} {a0 : tabularyref20_Stat} {r : Bool} (hm : law20_Great n a0 = some r) :
    call G n 45 [.agg [aI a0.fRows, .pv (encSl R_tabularyref20_Col a0.fCols)]] [] = some (.ret (aB r), []) := by
  unfold law20_Great at hm
  obtain ⟨n, rfl, h0⟩ := at1_some hm
  replace hm := h0; clear h0
  refine callL 27 [(0, .agg [aI a0.fRows, .pv (encSl R_tabularyref20_Col a0.fCols)])] func45 rfl (by kernel_rfl) (sq (det [(1, .ptr 0 0)] [.box [aI a0.fRows, .pv (encSl R_tabularyref20_Col a0.fCols)] false] (by kernel_rfl) ?_))
  refine sq (sq (rg (sh 2 [(6, .pv (encSl R_tabularyref20_Col a0.fCols)), (5, .ptr 0 1)] (by kernel_rfl) (dv 7 (v := aI ((sll a0.fCols).length : Int)) (len_slO R_tabularyref20_Col a0.fCols t98 (by kernel_rfl)) (by kernel_rfl) (sh 1 [(8, aB (decide (((sll a0.fCols).length : Int) > 12)))] (by kernel_rfl) (fin [(1, .ptr 0 0), (8, aB (decide (((sll a0.fCols).length : Int) > 12)))] rfl (by kernel_rfl) ?_))))))
  rcases bif_some hm with ⟨h1, hm⟩ | ⟨h1, hm⟩
  ·
   refine ct h1 (by kernel_rfl) (sq (detn [(2, aB true)] (by kernel_rfl) (wp_ret ?_)))
   obtain rfl := Option.some.inj hm
   exact ⟨trivial, by kernel_rfl⟩
  ·
   refine cf h1 (by kernel_rfl) (wp_skip ?_)
   obtain ⟨k4, hk4, hm⟩ := withK_some hm
   refine mid (fun t H => (∃ (y2 : Int) (y3 : Bool), k4 () = some r ∧ t = mk 27 [(10, .pv (encSl R_tabularyref20_Col a0.fCols)), (11, aI ((sll a0.fCols).length : Int)), (12, aI y2), (13, aB y3)] ∧ H = [.box [aI a0.fRows, .pv (encSl R_tabularyref20_Col a0.fCols)] false])) ?_ ?_
   ·
    rintro _ _ ⟨y2, y3, hm, rfl, rfl⟩
    subst hk4
    refine sq (detn [(2, aB false)] (by kernel_rfl) (wp_ret ?_))
    obtain rfl := Option.some.inj hm
    exact ⟨trivial, by kernel_rfl⟩
   refine sq (rg (sh 2 [(10, .pv (encSl R_tabularyref20_Col a0.fCols)), (9, .ptr 0 1)] (by kernel_rfl) (dv 11 (v := aI ((sll a0.fCols).length : Int)) (len_slO R_tabularyref20_Col a0.fCols t98 (by kernel_rfl)) (by kernel_rfl) (sh 1 [(12, aI 0)] (by kernel_rfl) (fin [(10, .pv (encSl R_tabularyref20_Col a0.fCols)), (11, aI ((sll a0.fCols).length : Int)), (12, aI 0)] rfl (by kernel_rfl) (bq ?_))))))
   refine loopF (fun mm t H => (∃ (y6 : Int), law20_Great_l4 n a0 k4 mm y6 = some r ∧ t = mk 27 [(10, .pv (encSl R_tabularyref20_Col a0.fCols)), (11, aI ((sll a0.fCols).length : Int)), (12, aI y6)] ∧ H = [.box [aI a0.fRows, .pv (encSl R_tabularyref20_Col a0.fCols)] false])) (⟨0, hm, rfl, rfl⟩) ?_ ?_
   · rintro _ _ ⟨y6, hm, _⟩; exact nomatch hm
   rintro m7 _ _ ⟨y6, hm, rfl, rfl⟩
   simp only [law20_Great_l4] at hm
   refine sq (detn [(10, .pv (encSl R_tabularyref20_Col a0.fCols)), (11, aI ((sll a0.fCols).length : Int)), (12, aI y6), (13, aB (decide (y6 < ((sll a0.fCols).length : Int))))] (by kernel_rfl) ?_)
   refine sq ?_
   rcases bif_some hm with ⟨h8, hm⟩ | ⟨h8, hm⟩
   ·
    refine ct h8 (by kernel_rfl) (wp_skip (sq (bq (sq (rg ?_)))))
    obtain ⟨x9, h10, hm⟩ := bs hm
    refine dv 14 (v := .pv (.ptr (R_tabularyref20_Col x9) 0)) (ia_slO R_tabularyref20_Col a0.fCols .i64 t98 t129 h10 rfl (by kernel_rfl)) (by kernel_rfl) (st 3 [(4, .ptr 1 0), (15, .agg ([aI x9.fKind, aI x9.fNulls, aI x9.fDistinct, .pv (encSl R_tabularyref19_Bucket x9.fHist), .pv (encSl R_api_Value x9.fSample)] ++ (aA .u8 64 x9.fSketch)))] [.box [aI a0.fRows, .pv (encSl R_tabularyref20_Col a0.fCols)] false, .box ([aI x9.fKind, aI x9.fNulls, aI x9.fDistinct, .pv (encSl R_tabularyref19_Bucket x9.fHist), .pv (encSl R_api_Value x9.fSample)] ++ (aA .u8 64 x9.fSketch)) false] (by kernel_rfl) (fin [(4, .ptr 1 0), (10, .pv (encSl R_tabularyref20_Col a0.fCols)), (11, aI ((sll a0.fCols).length : Int)), (12, aI y6)] rfl (by kernel_rfl) (sq (rg (sh 2 [(17, .pv (encSl R_tabularyref19_Bucket x9.fHist)), (16, .ptr 1 3)] (by kernel_rfl) (dv 18 (v := aI ((sll x9.fHist).length : Int)) (len_slO R_tabularyref19_Bucket x9.fHist t127 (by kernel_rfl)) (by kernel_rfl) (sh 2 [(20, aB (decide (((sll x9.fHist).length : Int) > 60))), (19, aB (decide (((sll x9.fHist).length : Int) > 60)))] (by kernel_rfl) ?_)))))))
    refine seg (decide (((sll x9.fHist).length : Int) > 60)) [20, 19] (fun b => [(25, aB (b || (decide (((sll x9.fSample).length : Int) > 70)))), (24, ifA b (.undef) (aB (decide (((sll x9.fSample).length : Int) > 70)))), (23, ifA b (.undef) (aI ((sll x9.fSample).length : Int))), (22, ifA b (.undef) (.pv (encSl R_api_Value x9.fSample))), (21, ifA b (.undef) (.ptr 1 4))]) 10 (by kernel_rfl) ?_ ?_ ?_
    ·
     intro Q h
     refine sh 5 [(25, aB true), (24, .undef), (23, .undef), (22, .undef), (21, .undef)] (by kernel_rfl) ?_
     exact sameN (by kernel_rfl) (by kernel_rfl) h
    ·
     intro Q h
     refine sh 2 [(22, .pv (encSl R_api_Value x9.fSample)), (21, .ptr 1 4)] (by kernel_rfl) (dv 23 (v := aI ((sll x9.fSample).length : Int)) (len_slO R_api_Value x9.fSample t85 (by kernel_rfl)) (by kernel_rfl) (sh 2 [(25, aB (decide (((sll x9.fSample).length : Int) > 70))), (24, aB (decide (((sll x9.fSample).length : Int) > 70)))] (by kernel_rfl) ?_))
     exact sameN (by kernel_rfl) (by kernel_rfl) h
    refine fin [(10, .pv (encSl R_tabularyref20_Col a0.fCols)), (11, aI ((sll a0.fCols).length : Int)), (12, aI y6), (25, aB ((decide (((sll x9.fHist).length : Int) > 60)) || (decide (((sll x9.fSample).length : Int) > 70))))] rfl (by kernel_rfl) ?_
    rcases bif_some hm with ⟨h11, hm⟩ | ⟨h11, hm⟩
    ·
     refine ct h11 (by kernel_rfl) (sq (detn [(2, aB true)] (by kernel_rfl) (wp_ret ?_)))
     obtain rfl := Option.some.inj hm
     exact ⟨trivial, by kernel_rfl⟩
    ·
     refine cf h11 (by kernel_rfl) (wp_skip (detn [(10, .pv (encSl R_tabularyref20_Col a0.fCols)), (11, aI ((sll a0.fCols).length : Int)), (12, aI (IntKind.wrap .i64 (y6 + 1)))] (by kernel_rfl) ?_))
     exact ⟨_, _, tidyL [(10, .pv (encSl R_tabularyref20_Col a0.fCols)), (11, aI ((sll a0.fCols).length : Int)), (12, aI (IntKind.wrap .i64 (y6 + 1)))] [.box [aI a0.fRows, .pv (encSl R_tabularyref20_Col a0.fCols)] false] (by kernel_rfl), ⟨(IntKind.wrap .i64 (y6 + 1)), hm, rfl, rfl⟩⟩
   ·
    refine cf h8 (by kernel_rfl) (wp_exit ?_)
    exact ⟨y6, (decide (y6 < ((sll a0.fCols).length : Int))), hm, rfl, rfl⟩
theorem ok_law31_Great {n : Nat} {a0 : (Option (List E_api_Expr))} {a1 : (Option (List tabularyref20_Stat))} {r : Bool} (hm : law31_Great n a0 a1 = some r) :
    call G n 12 [.pv (encSl R_E_api_Expr a0), .pv (encSl R_tabularyref20_Stat a1)] [] = some (.ret (aB r), []) := by
  unfold law31_Great at hm
  obtain ⟨n, rfl, h0⟩ := at1_some hm
  replace hm := h0; clear h0
  refine callL 24 [(0, .pv (encSl R_E_api_Expr a0)), (1, .pv (encSl R_tabularyref20_Stat a1))] func12 rfl (by kernel_rfl) (sq (detn [(0, .pv (encSl R_E_api_Expr a0)), (1, .pv (encSl R_tabularyref20_Stat a1))] (by kernel_rfl) ?_))
  refine sq (sq (rg (sh 1 [(7, .pv (encSl R_E_api_Expr a0))] (by kernel_rfl) ?_)))
  obtain ⟨x1, h2, hm⟩ := bs hm
  refine dv 8 (cpure (by kernel_rfl) (ok_ref22_Bulk h2) (by kernel_rfl) (by kernel_rfl) (by kernel_rfl)) (by kernel_rfl) (sh 2 [(10, aB (decide (x1 > 400))), (9, aB (decide (x1 > 400)))] (by kernel_rfl) ?_)
  refine seg (decide (x1 > 400)) [10, 9] (fun b => [(14, aB (b || (decide (((sll a1).length : Int) > 13)))), (13, ifA b (.undef) (aB (decide (((sll a1).length : Int) > 13)))), (12, ifA b (.undef) (aI ((sll a1).length : Int))), (11, ifA b (.undef) (.pv (encSl R_tabularyref20_Stat a1)))]) 8 (by kernel_rfl) ?_ ?_ ?_
  ·
   intro Q h
   refine sh 4 [(14, aB true), (13, .undef), (12, .undef), (11, .undef)] (by kernel_rfl) ?_
   exact sameN (by kernel_rfl) (by kernel_rfl) h
  ·
   intro Q h
   refine sh 1 [(11, .pv (encSl R_tabularyref20_Stat a1))] (by kernel_rfl) (dv 12 (v := aI ((sll a1).length : Int)) (len_slO R_tabularyref20_Stat a1 t45 (by kernel_rfl)) (by kernel_rfl) (sh 2 [(14, aB (decide (((sll a1).length : Int) > 13))), (13, aB (decide (((sll a1).length : Int) > 13)))] (by kernel_rfl) ?_))
   exact sameN (by kernel_rfl) (by kernel_rfl) h
  refine fin [(1, .pv (encSl R_tabularyref20_Stat a1)), (14, aB ((decide (x1 > 400)) || (decide (((sll a1).length : Int) > 13))))] rfl (by kernel_rfl) ?_
  rcases bif_some hm with ⟨h3, hm⟩ | ⟨h3, hm⟩
  ·
   refine ct h3 (by kernel_rfl) (sq (detn [(4, aB true)] (by kernel_rfl) (wp_ret ?_)))
   obtain rfl := Option.some.inj hm
   exact ⟨trivial, by kernel_rfl⟩
  ·
   refine cf h3 (by kernel_rfl) (wp_skip ?_)
   obtain ⟨k6, hk6, hm⟩ := withK_some hm
   refine mid (fun t H => (∃ (y4 : Int) (y5 : Bool), k6 () = some r ∧ t = mk 24 [(15, .pv (encSl R_tabularyref20_Stat a1)), (16, aI ((sll a1).length : Int)), (17, aI y4), (18, aB y5)] ∧ H = [])) ?_ ?_
   ·
    rintro _ _ ⟨y4, y5, hm, rfl, rfl⟩
    subst hk6
    refine sq (detn [(4, aB false)] (by kernel_rfl) (wp_ret ?_))
    obtain rfl := Option.some.inj hm
    exact ⟨trivial, by kernel_rfl⟩
   refine sq (rg (sh 1 [(15, .pv (encSl R_tabularyref20_Stat a1))] (by kernel_rfl) (dv 16 (v := aI ((sll a1).length : Int)) (len_slO R_tabularyref20_Stat a1 t45 (by kernel_rfl)) (by kernel_rfl) (sh 1 [(17, aI 0)] (by kernel_rfl) (fin [(15, .pv (encSl R_tabularyref20_Stat a1)), (16, aI ((sll a1).length : Int)), (17, aI 0)] rfl (by kernel_rfl) (bq ?_))))))
   refine loopF (fun mm t H => (∃ (y8 : Int), law31_Great_l4 n a1 k6 mm y8 = some r ∧ t = mk 24 [(15, .pv (encSl R_tabularyref20_Stat a1)), (16, aI ((sll a1).length : Int)), (17, aI y8)] ∧ H = [])) (⟨0, hm, rfl, rfl⟩) ?_ ?_
   · rintro _ _ ⟨y8, hm, _⟩; exact nomatch hm
   rintro m9 _ _ ⟨y8, hm, rfl, rfl⟩
   simp only [law31_Great_l4] at hm
   refine sq (detn [(15, .pv (encSl R_tabularyref20_Stat a1)), (16, aI ((sll a1).length : Int)), (17, aI y8), (18, aB (decide (y8 < ((sll a1).length : Int))))] (by kernel_rfl) ?_)
   refine sq ?_
   rcases bif_some hm with ⟨h10, hm⟩ | ⟨h10, hm⟩
   ·
    refine ct h10 (by kernel_rfl) (wp_skip (sq (bq (sq (rg ?_)))))
    obtain ⟨x11, h12, hm⟩ := bs hm
    refine dv 19 (v := .pv (.ptr (R_tabularyref20_Stat x11) 0)) (ia_slO R_tabularyref20_Stat a1 .i64 t45 t100 h12 rfl (by kernel_rfl)) (by kernel_rfl) (st 3 [(6, .ptr 0 0), (20, .agg [aI x11.fRows, .pv (encSl R_tabularyref20_Col x11.fCols)])] [.box [aI x11.fRows, .pv (encSl R_tabularyref20_Col x11.fCols)] false] (by kernel_rfl) (fin [(6, .ptr 0 0), (15, .pv (encSl R_tabularyref20_Stat a1)), (16, aI ((sll a1).length : Int)), (17, aI y8)] rfl (by kernel_rfl) (sq (rg (sh 1 [(21, .agg [aI x11.fRows, .pv (encSl R_tabularyref20_Col x11.fCols)])] (by kernel_rfl) ?_)))))
    obtain ⟨x13, h14, hm⟩ := bs hm
    refine dv 22 (cpure (by kernel_rfl) (ok_law20_Great h14) (by kernel_rfl) (by kernel_rfl) (by kernel_rfl)) (by kernel_rfl) (fin [(15, .pv (encSl R_tabularyref20_Stat a1)), (16, aI ((sll a1).length : Int)), (17, aI y8), (22, aB x13)] rfl (by kernel_rfl) ?_)
    rcases bif_some hm with ⟨h15, hm⟩ | ⟨h15, hm⟩
    ·
     refine ct h15 (by kernel_rfl) (sq (detn [(4, aB true)] (by kernel_rfl) (wp_ret ?_)))
     obtain rfl := Option.some.inj hm
     exact ⟨trivial, by kernel_rfl⟩
    ·
     refine cf h15 (by kernel_rfl) (wp_skip (detn [(15, .pv (encSl R_tabularyref20_Stat a1)), (16, aI ((sll a1).length : Int)), (17, aI (IntKind.wrap .i64 (y8 + 1)))] (by kernel_rfl) ?_))
     exact ⟨_, _, tidyL [(15, .pv (encSl R_tabularyref20_Stat a1)), (16, aI ((sll a1).length : Int)), (17, aI (IntKind.wrap .i64 (y8 + 1)))] [] (by kernel_rfl), ⟨(IntKind.wrap .i64 (y8 + 1)), hm, rfl, rfl⟩⟩
   ·
    refine cf h10 (by kernel_rfl) (wp_exit ?_)
    exact ⟨y8, (decide (y8 < ((sll a1).length : Int))), hm, rfl, rfl⟩
theorem okf_expr_Rels {rc_expr_Rels : (Nat → api_Expr → Option (Int))} (ih_expr_Rels : ∀ {n : Nat} {a0 : api_Expr} {r : Int} (hm : rc_expr_Rels n a0 = some r), call G n 51 [.agg [aI a0.fKind, aI a0.fRel, aI a0.fCol, aI a0.fConst.fKind, aI a0.fConst.fInt, aF a0.fConst.fFloat, aS a0.fConst.fText, .pv (encSl R_E_api_Expr a0.fKids)]] [] = some (.ret (.pv (.int .u32 r)), [])) {n : Nat} {a0 : api_Expr} {r : Int} (hm : expr_Rels_f rc_expr_Rels n a0 = some r) :
    call G n 51 [.agg [aI a0.fKind, aI a0.fRel, aI a0.fCol, aI a0.fConst.fKind, aI a0.fConst.fInt, aF a0.fConst.fFloat, aS a0.fConst.fText, .pv (encSl R_E_api_Expr a0.fKids)]] [] = some (.ret (.pv (.int .u32 r)), []) := by
  unfold expr_Rels_f at hm
  obtain ⟨n, rfl, h0⟩ := at1_some hm
  replace hm := h0; clear h0
  refine callL 36 [(0, .agg [aI a0.fKind, aI a0.fRel, aI a0.fCol, aI a0.fConst.fKind, aI a0.fConst.fInt, aF a0.fConst.fFloat, aS a0.fConst.fText, .pv (encSl R_E_api_Expr a0.fKids)])] func51 rfl (by kernel_rfl) (sq (det [(1, .ptr 0 0)] [.box [aI a0.fKind, aI a0.fRel, aI a0.fCol, aI a0.fConst.fKind, aI a0.fConst.fInt, aF a0.fConst.fFloat, aS a0.fConst.fText, .pv (encSl R_E_api_Expr a0.fKids)] false] (by kernel_rfl) (sq (detn [(1, .ptr 0 0), (3, .pv (.int .u32 0))] (by kernel_rfl) ?_))))
  obtain ⟨k3, hk3, hm⟩ := withK_some hm
  refine mid (fun t H => (∃ (y2 : Int) (w1 : AV), k3 y2 = some r ∧ t = mk 36 [(1, .ptr 0 0), (3, .pv (.int .u32 y2)), (18, w1)] ∧ H = [.box [aI a0.fKind, aI a0.fRel, aI a0.fCol, aI a0.fConst.fKind, aI a0.fConst.fInt, aF a0.fConst.fFloat, aS a0.fConst.fText, .pv (encSl R_E_api_Expr a0.fKids)] false])) ?_ ?_
  ·
   rintro _ _ ⟨y2, w1, hm, rfl, rfl⟩
   subst hk3
   obtain ⟨k7, hk7, hm⟩ := withK_some hm
   refine mid (fun t H => (∃ (y4 : Int) (y5 : Bool) (y6 : Int), k7 y6 = some r ∧ t = mk 36 [(3, .pv (.int .u32 y6)), (24, .pv (encSl R_E_api_Expr a0.fKids)), (25, aI ((sll a0.fKids).length : Int)), (26, aI y4), (27, aB y5)] ∧ H = [.box [aI a0.fKind, aI a0.fRel, aI a0.fCol, aI a0.fConst.fKind, aI a0.fConst.fInt, aF a0.fConst.fFloat, aS a0.fConst.fText, .pv (encSl R_E_api_Expr a0.fKids)] false])) ?_ ?_
   ·
    rintro _ _ ⟨y4, y5, y6, hm, rfl, rfl⟩
    subst hk7
    refine sq (detn [(2, .pv (.int .u32 y6))] (by kernel_rfl) (wp_ret ?_))
    obtain rfl := Option.some.inj hm
    exact ⟨trivial, by kernel_rfl⟩
   refine sq (rg (sh 2 [(24, .pv (encSl R_E_api_Expr a0.fKids)), (23, .ptr 0 7)] (by kernel_rfl) (dv 25 (v := aI ((sll a0.fKids).length : Int)) (len_slO R_E_api_Expr a0.fKids t23 (by kernel_rfl)) (by kernel_rfl) (sh 1 [(26, aI 0)] (by kernel_rfl) (fin [(3, .pv (.int .u32 y2)), (24, .pv (encSl R_E_api_Expr a0.fKids)), (25, aI ((sll a0.fKids).length : Int)), (26, aI 0)] rfl (by kernel_rfl) (bq ?_))))))
   refine loopF (fun mm t H => (∃ (y10 : Int) (y11 : Int), expr_Rels_l5 n rc_expr_Rels a0 k7 mm y10 y11 = some r ∧ t = mk 36 [(3, .pv (.int .u32 y11)), (24, .pv (encSl R_E_api_Expr a0.fKids)), (25, aI ((sll a0.fKids).length : Int)), (26, aI y10)] ∧ H = [.box [aI a0.fKind, aI a0.fRel, aI a0.fCol, aI a0.fConst.fKind, aI a0.fConst.fInt, aF a0.fConst.fFloat, aS a0.fConst.fText, .pv (encSl R_E_api_Expr a0.fKids)] false])) (⟨0, y2, hm, rfl, rfl⟩) ?_ ?_
   · rintro _ _ ⟨y10, y11, hm, _⟩; exact nomatch hm
   rintro m12 _ _ ⟨y10, y11, hm, rfl, rfl⟩
   simp only [expr_Rels_l5] at hm
   refine sq (detn [(3, .pv (.int .u32 y11)), (24, .pv (encSl R_E_api_Expr a0.fKids)), (25, aI ((sll a0.fKids).length : Int)), (26, aI y10), (27, aB (decide (y10 < ((sll a0.fKids).length : Int))))] (by kernel_rfl) ?_)
   refine sq ?_
   rcases bif_some hm with ⟨h13, hm⟩ | ⟨h13, hm⟩
   ·
    refine ct h13 (by kernel_rfl) (wp_skip (sq (bq (sq (rg ?_)))))
    obtain ⟨x14, h15, hm⟩ := bs hm
    refine dv 28 (v := .pv (.ptr (R_api_Expr (un_api_Expr x14)) 0)) (ia_slE R_E_api_Expr a0.fKids .i64 t23 t44 h15 (R_un_api_Expr x14) rfl (by kernel_rfl)) (by kernel_rfl) (st 3 [(5, .ptr 1 0), (29, .agg [aI ((un_api_Expr x14).fKind), aI ((un_api_Expr x14).fRel), aI ((un_api_Expr x14).fCol), aI (((un_api_Expr x14).fConst).fKind), aI (((un_api_Expr x14).fConst).fInt), aF (((un_api_Expr x14).fConst).fFloat), aS (((un_api_Expr x14).fConst).fText), .pv (encSl R_E_api_Expr ((un_api_Expr x14).fKids))])] [.box [aI a0.fKind, aI a0.fRel, aI a0.fCol, aI a0.fConst.fKind, aI a0.fConst.fInt, aF a0.fConst.fFloat, aS a0.fConst.fText, .pv (encSl R_E_api_Expr a0.fKids)] false, .box [aI ((un_api_Expr x14).fKind), aI ((un_api_Expr x14).fRel), aI ((un_api_Expr x14).fCol), aI (((un_api_Expr x14).fConst).fKind), aI (((un_api_Expr x14).fConst).fInt), aF (((un_api_Expr x14).fConst).fFloat), aS (((un_api_Expr x14).fConst).fText), .pv (encSl R_E_api_Expr ((un_api_Expr x14).fKids))] false] (by kernel_rfl) (fin [(3, .pv (.int .u32 y11)), (5, .ptr 1 0), (24, .pv (encSl R_E_api_Expr a0.fKids)), (25, aI ((sll a0.fKids).length : Int)), (26, aI y10)] rfl (by kernel_rfl) (rg (sh 2 [(31, .agg [aI ((un_api_Expr x14).fKind), aI ((un_api_Expr x14).fRel), aI ((un_api_Expr x14).fCol), aI (((un_api_Expr x14).fConst).fKind), aI (((un_api_Expr x14).fConst).fInt), aF (((un_api_Expr x14).fConst).fFloat), aS (((un_api_Expr x14).fConst).fText), .pv (encSl R_E_api_Expr ((un_api_Expr x14).fKids))]), (30, .pv (.int .u32 y11))] (by kernel_rfl) ?_))))
    obtain ⟨x16, h17, hm⟩ := bs hm
    refine dv 32 (cpure (by kernel_rfl) (ih_expr_Rels h17) (by kernel_rfl) (by kernel_rfl) (by kernel_rfl)) (by kernel_rfl) (sh 2 [(3, .pv (.int .u32 (iOr .u32 y11 x16))), (33, .pv (.int .u32 (iOr .u32 y11 x16)))] (by kernel_rfl) (fin [(3, .pv (.int .u32 (iOr .u32 y11 x16))), (24, .pv (encSl R_E_api_Expr a0.fKids)), (25, aI ((sll a0.fKids).length : Int)), (26, aI y10)] rfl (by kernel_rfl) (detn [(3, .pv (.int .u32 (iOr .u32 y11 x16))), (24, .pv (encSl R_E_api_Expr a0.fKids)), (25, aI ((sll a0.fKids).length : Int)), (26, aI (IntKind.wrap .i64 (y10 + 1)))] (by kernel_rfl) ?_)))
    exact ⟨_, _, tidyL [(3, .pv (.int .u32 (iOr .u32 y11 x16))), (24, .pv (encSl R_E_api_Expr a0.fKids)), (25, aI ((sll a0.fKids).length : Int)), (26, aI (IntKind.wrap .i64 (y10 + 1)))] [.box [aI a0.fKind, aI a0.fRel, aI a0.fCol, aI a0.fConst.fKind, aI a0.fConst.fInt, aF a0.fConst.fFloat, aS a0.fConst.fText, .pv (encSl R_E_api_Expr a0.fKids)] false] (by kernel_rfl), ⟨(IntKind.wrap .i64 (y10 + 1)), (iOr .u32 y11 x16), hm, rfl, rfl⟩⟩
   ·
    refine cf h13 (by kernel_rfl) (wp_exit ?_)
    exact ⟨y10, (decide (y10 < ((sll a0.fKids).length : Int))), y11, hm, rfl, rfl⟩
  refine sq (rg (sh 4 [(9, aB (a0.fKind == 1)), (8, aB (a0.fKind == 1)), (7, aI a0.fKind), (6, .ptr 0 0)] (by kernel_rfl) ?_))
  refine seg (a0.fKind == 1) [9, 8] (fun b => [(13, aB (b && (decide (a0.fRel ≥ 0)))), (12, ifA b (aB (decide (a0.fRel ≥ 0))) (.undef)), (11, ifA b (aI a0.fRel) (.undef)), (10, ifA b (.ptr 0 1) (.undef))]) 8 (by kernel_rfl) ?_ ?_ ?_
  ·
   intro Q h
   refine sh 4 [(13, aB (decide (a0.fRel ≥ 0))), (12, aB (decide (a0.fRel ≥ 0))), (11, aI a0.fRel), (10, .ptr 0 1)] (by kernel_rfl) ?_
   exact sameN (by kernel_rfl) (by kernel_rfl) h
  ·
   intro Q h
   refine sh 4 [(13, aB false), (12, .undef), (11, .undef), (10, .undef)] (by kernel_rfl) ?_
   exact sameN (by kernel_rfl) (by kernel_rfl) h
  refine sh 1 [(14, aB ((a0.fKind == 1) && (decide (a0.fRel ≥ 0))))] (by kernel_rfl) ?_
  refine seg ((a0.fKind == 1) && (decide (a0.fRel ≥ 0))) [14, 13] (fun b => [(18, aB (b && (decide (a0.fRel ≤ 31)))), (17, ifA b (aB (decide (a0.fRel ≤ 31))) (.undef)), (16, ifA b (aI a0.fRel) (.undef)), (15, ifA b (.ptr 0 1) (.undef))]) 13 (by kernel_rfl) ?_ ?_ ?_
  ·
   intro Q h
   refine sh 4 [(18, aB (decide (a0.fRel ≤ 31))), (17, aB (decide (a0.fRel ≤ 31))), (16, aI a0.fRel), (15, .ptr 0 1)] (by kernel_rfl) ?_
   exact sameN (by kernel_rfl) (by kernel_rfl) h
  ·
   intro Q h
   refine sh 4 [(18, aB false), (17, .undef), (16, .undef), (15, .undef)] (by kernel_rfl) ?_
   exact sameN (by kernel_rfl) (by kernel_rfl) h
  refine fin [(1, .ptr 0 0), (3, .pv (.int .u32 0)), (18, aB (((a0.fKind == 1) && (decide (a0.fRel ≥ 0))) && (decide (a0.fRel ≤ 31))))] rfl (by kernel_rfl) ?_
  rcases bif_some hm with ⟨h18, hm⟩ | ⟨h18, hm⟩
  ·
   refine ct h18 (by kernel_rfl) (rg (sh 3 [(21, aU (IntKind.wrap .u64 a0.fRel)), (20, aI a0.fRel), (19, .ptr 0 1)] (by kernel_rfl) ?_))
   obtain ⟨_, h19, hm⟩ := bs hm
   refine dv 22 (v := .pv (.int .u32 (iShl .u32 1 (IntKind.wrap .u64 a0.fRel)))) (shlO h19 (by kernel_rfl)) (by kernel_rfl) (sh 1 [(3, .pv (.int .u32 (iShl .u32 1 (IntKind.wrap .u64 a0.fRel))))] (by kernel_rfl) (fin [(1, .ptr 0 0), (3, .pv (.int .u32 (iShl .u32 1 (IntKind.wrap .u64 a0.fRel))))] rfl (by kernel_rfl) ?_))
   exact ⟨(iShl .u32 1 (IntKind.wrap .u64 a0.fRel)), .any, hm, (mk_same (by kernel_rfl)), rfl⟩
  ·
   refine cf h18 (by kernel_rfl) (wp_skip ?_)
   exact ⟨0, aB (((a0.fKind == 1) && (decide (a0.fRel ≥ 0))) && (decide (a0.fRel ≤ 31))), hm, (mk_same (by kernel_rfl)), rfl⟩
theorem okt_expr_Rels : ∀ (m : Nat), ∀ {n : Nat} {a0 : api_Expr} {r : Int} (hm : expr_Rels_t m n a0 = some r), call G n 51 [.agg [aI a0.fKind, aI a0.fRel, aI a0.fCol, aI a0.fConst.fKind, aI a0.fConst.fInt, aF a0.fConst.fFloat, aS a0.fConst.fText, .pv (encSl R_E_api_Expr a0.fKids)]] [] = some (.ret (.pv (.int .u32 r)), [])
  | 0 => by intros; rename_i hm; exact nomatch hm
  | m + 1 => fun hm =>
    okf_expr_Rels (okt_expr_Rels m) hm
theorem ok_expr_Rels {n : Nat} {a0 : api_Expr} {r : Int} (hm : expr_Rels n a0 = some r) :
    call G n 51 [.agg [aI a0.fKind, aI a0.fRel, aI a0.fCol, aI a0.fConst.fKind, aI a0.fConst.fInt, aF a0.fConst.fFloat, aS a0.fConst.fText, .pv (encSl R_E_api_Expr a0.fKids)]] [] = some (.ret (.pv (.int .u32 r)), []) := okt_expr_Rels n hm
theorem ok_guess_Within {n : Nat} {a0 : (Option (List E_api_Expr))} {a1 : Int} {r : (Option (List Int))} (hm : guess_Within n a0 a1 = some r) :
    call G n 16 [.pv (encSl R_E_api_Expr a0), .pv (.int .u32 a1)] [] = some (.ret (.pv (encSl (rI .i64) r)), []) := by
  unfold guess_Within at hm
  obtain ⟨n, rfl, h0⟩ := at1_some hm
  replace hm := h0; clear h0
  refine callL 37 [(0, .pv (encSl R_E_api_Expr a0)), (1, .pv (.int .u32 a1))] func16 rfl (by kernel_rfl) (sq (detn [(0, .pv (encSl R_E_api_Expr a0)), (1, .pv (.int .u32 a1))] (by kernel_rfl) (sq (detn [(0, .pv (encSl R_E_api_Expr a0)), (1, .pv (.int .u32 a1)), (5, .pv .nils)] (by kernel_rfl) ?_))))
  obtain ⟨k6, hk6, hm⟩ := withK_some hm
  refine mid (fun t H => (∃ (w1 : AV) (w2 : AV), k6 none = some r ∧ t = mk 37 [(1, .pv (.int .u32 a1)), (5, .pv .nils), (9, .pv (encSl R_E_api_Expr a0)), (10, aI ((sll a0).length : Int)), (11, w1), (12, w2)] ∧ H = []) ∨ (∃ (y3 : (List Int)) (w1 : AV) (w2 : AV) (g4 : Nat), k6 (some y3) = some r ∧ t = mk 37 [(1, .pv (.int .u32 a1)), (5, aR 0 1 g4), (9, .pv (encSl R_E_api_Expr a0)), (10, aI ((sll a0).length : Int)), (11, w1), (12, w2)] ∧ H = [bR 3 1 (rI .i64) y3 0 0] ∧ y3.length = g4)) ?_ ?_
  ·
   rintro _ _ (⟨w1, w2, hm, rfl, rfl⟩ | ⟨y3, w1, w2, g4, hm, rfl, rfl, q5⟩)
   ·
    subst hk6
    refine sq (detn [(4, .pv .nils)] (by kernel_rfl) (wp_ret ?_))
    obtain rfl := Option.some.inj hm
    exact ⟨trivial, by kernel_rfl⟩
   ·
    subst hk6
    refine sq (detn [(4, aR 0 1 g4)] (by kernel_rfl) (wp_ret ?_))
    obtain rfl := Option.some.inj hm
    exact ret_pure (v := aR 0 1 g4) trivial rfl (by kernel_rfl) (pA_ref (pur_ref' (n := g4) (id := 0) (l := y3) (R := (rI .i64)) rfl (by omega) (Nat.zero_le _)))
  refine sq (rg (sh 1 [(9, .pv (encSl R_E_api_Expr a0))] (by kernel_rfl) (dv 10 (v := aI ((sll a0).length : Int)) (len_slO R_E_api_Expr a0 t23 (by kernel_rfl)) (by kernel_rfl) (sh 1 [(11, aI 0)] (by kernel_rfl) (fin [(1, .pv (.int .u32 a1)), (5, .pv .nils), (9, .pv (encSl R_E_api_Expr a0)), (10, aI ((sll a0).length : Int)), (11, aI 0)] rfl (by kernel_rfl) (bq ?_))))))
  refine loopF (fun mm t H => (∃ (y14 : Int), guess_Within_l3 n a0 a1 k6 mm y14 none = some r ∧ t = mk 37 [(1, .pv (.int .u32 a1)), (5, .pv .nils), (9, .pv (encSl R_E_api_Expr a0)), (10, aI ((sll a0).length : Int)), (11, aI y14)] ∧ H = []) ∨ (∃ (y14 : Int) (y15 : (List Int)) (g16 : Nat), guess_Within_l3 n a0 a1 k6 mm y14 (some y15) = some r ∧ t = mk 37 [(1, .pv (.int .u32 a1)), (5, aR 0 1 g16), (9, .pv (encSl R_E_api_Expr a0)), (10, aI ((sll a0).length : Int)), (11, aI y14)] ∧ H = [bR 3 1 (rI .i64) y15 0 0] ∧ y15.length = g16)) (.inl ⟨0, hm, rfl, rfl⟩) ?_ ?_
  · rintro _ _ (⟨y14, hm, _⟩ | ⟨y14, y15, g16, hm, _⟩) <;> exact nomatch hm
  rintro m18 _ _ (⟨y14, hm, rfl, rfl⟩ | ⟨y14, y15, g16, hm, rfl, rfl, q17⟩)
  ·
   simp only [guess_Within_l3] at hm
   refine sq (detn [(1, .pv (.int .u32 a1)), (5, .pv .nils), (9, .pv (encSl R_E_api_Expr a0)), (10, aI ((sll a0).length : Int)), (11, aI y14), (12, aB (decide (y14 < ((sll a0).length : Int))))] (by kernel_rfl) ?_)
   refine sq ?_
   rcases bif_some hm with ⟨h19, hm⟩ | ⟨h19, hm⟩
   ·
    refine ct h19 (by kernel_rfl) (wp_skip (sq (bq (sq (rg (sh 1 [(13, aI y14)] (by kernel_rfl) ?_))))))
    obtain ⟨x20, h21, hm⟩ := bs hm
    refine dv 14 (v := .pv (.ptr (R_api_Expr (un_api_Expr x20)) 0)) (ia_slE R_E_api_Expr a0 .i64 t23 t44 h21 (R_un_api_Expr x20) rfl (by kernel_rfl)) (by kernel_rfl) (st 4 [(6, aI y14), (7, .ptr 0 0), (15, .agg [aI ((un_api_Expr x20).fKind), aI ((un_api_Expr x20).fRel), aI ((un_api_Expr x20).fCol), aI (((un_api_Expr x20).fConst).fKind), aI (((un_api_Expr x20).fConst).fInt), aF (((un_api_Expr x20).fConst).fFloat), aS (((un_api_Expr x20).fConst).fText), .pv (encSl R_E_api_Expr ((un_api_Expr x20).fKids))])] [.box [aI ((un_api_Expr x20).fKind), aI ((un_api_Expr x20).fRel), aI ((un_api_Expr x20).fCol), aI (((un_api_Expr x20).fConst).fKind), aI (((un_api_Expr x20).fConst).fInt), aF (((un_api_Expr x20).fConst).fFloat), aS (((un_api_Expr x20).fConst).fText), .pv (encSl R_E_api_Expr ((un_api_Expr x20).fKids))] false] (by kernel_rfl) (fin [(1, .pv (.int .u32 a1)), (5, .pv .nils), (6, aI y14), (7, .ptr 0 0), (9, .pv (encSl R_E_api_Expr a0)), (10, aI ((sll a0).length : Int)), (11, aI y14)] rfl (by kernel_rfl) (sq (rg (sh 1 [(16, .agg [aI ((un_api_Expr x20).fKind), aI ((un_api_Expr x20).fRel), aI ((un_api_Expr x20).fCol), aI (((un_api_Expr x20).fConst).fKind), aI (((un_api_Expr x20).fConst).fInt), aF (((un_api_Expr x20).fConst).fFloat), aS (((un_api_Expr x20).fConst).fText), .pv (encSl R_E_api_Expr ((un_api_Expr x20).fKids))])] (by kernel_rfl) ?_)))))
    obtain ⟨x22, h23, hm⟩ := bs hm
    refine dv 17 (cpure (by kernel_rfl) (ok_expr_Rels h23) (by kernel_rfl) (by kernel_rfl) (by kernel_rfl)) (by kernel_rfl) (sh 1 [(8, .pv (.int .u32 x22))] (by kernel_rfl) (fin [(1, .pv (.int .u32 a1)), (5, .pv .nils), (6, aI y14), (8, .pv (.int .u32 x22)), (9, .pv (encSl R_E_api_Expr a0)), (10, aI ((sll a0).length : Int)), (11, aI y14)] rfl (by kernel_rfl) (sq (rg (sh 5 [(22, aB ((iAndNot .u32 x22 a1) == 0)), (21, aB ((iAndNot .u32 x22 a1) == 0)), (20, .pv (.int .u32 (iAndNot .u32 x22 a1))), (19, .pv (.int .u32 a1)), (18, .pv (.int .u32 x22))] (by kernel_rfl) ?_)))))
    refine seg ((iAndNot .u32 x22 a1) == 0) [22, 21] (fun b => [(30, aB (b && ((x22 != 0) || ((iAnd .u32 a1 1) == 1)))), (29, ifA b (aB ((x22 != 0) || ((iAnd .u32 a1 1) == 1))) (.undef)), (28, ifA b (ifA (x22 != 0) (.undef) (aB ((iAnd .u32 a1 1) == 1))) (.undef)), (27, ifA b (ifA (x22 != 0) (.undef) (.pv (.int .u32 (iAnd .u32 a1 1)))) (.undef)), (26, ifA b (ifA (x22 != 0) (.undef) (.pv (.int .u32 a1))) (.undef)), (25, ifA b (aB (x22 != 0)) (.undef)), (24, ifA b (aB (x22 != 0)) (.undef)), (23, ifA b (.pv (.int .u32 x22)) (.undef))]) 13 (by kernel_rfl) ?_ ?_ ?_
    ·
     intro Q h
     refine sh 3 [(25, aB (x22 != 0)), (24, aB (x22 != 0)), (23, .pv (.int .u32 x22))] (by kernel_rfl) ?_
     refine seg (x22 != 0) [25, 24] (fun b => [(29, aB (b || ((iAnd .u32 a1 1) == 1))), (28, ifA b (.undef) (aB ((iAnd .u32 a1 1) == 1))), (27, ifA b (.undef) (.pv (.int .u32 (iAnd .u32 a1 1)))), (26, ifA b (.undef) (.pv (.int .u32 a1)))]) 12 (by kernel_rfl) ?_ ?_ ?_
     ·
      intro Q h
      refine sh 4 [(29, aB true), (28, .undef), (27, .undef), (26, .undef)] (by kernel_rfl) ?_
      exact sameN (by kernel_rfl) (by kernel_rfl) h
     ·
      intro Q h
      refine sh 4 [(29, aB ((iAnd .u32 a1 1) == 1)), (28, aB ((iAnd .u32 a1 1) == 1)), (27, .pv (.int .u32 (iAnd .u32 a1 1))), (26, .pv (.int .u32 a1))] (by kernel_rfl) ?_
      exact sameN (by kernel_rfl) (by kernel_rfl) h
     refine sh 1 [(30, aB ((x22 != 0) || ((iAnd .u32 a1 1) == 1)))] (by kernel_rfl) ?_
     exact sameN (by kernel_rfl) (by kernel_rfl) h
    ·
     intro Q h
     refine sh 8 [(30, aB false), (29, .undef), (28, .undef), (27, .undef), (26, .undef), (25, .undef), (24, .undef), (23, .undef)] (by kernel_rfl) ?_
     exact sameN (by kernel_rfl) (by kernel_rfl) h
    refine fin [(1, .pv (.int .u32 a1)), (5, .pv .nils), (6, aI y14), (9, .pv (encSl R_E_api_Expr a0)), (10, aI ((sll a0).length : Int)), (11, aI y14), (30, aB (((iAndNot .u32 x22 a1) == 0) && ((x22 != 0) || ((iAnd .u32 a1 1) == 1))))] rfl (by kernel_rfl) ?_
    rcases bif_some hm with ⟨h24, hm⟩ | ⟨h24, hm⟩
    ·
     refine ct h24 (by kernel_rfl) (rg (st 3 [(33, aR 1 1 1), (32, aI y14), (31, .pv .nils)] [.box [aI ((un_api_Expr x20).fKind), aI ((un_api_Expr x20).fRel), aI ((un_api_Expr x20).fCol), aI (((un_api_Expr x20).fConst).fKind), aI (((un_api_Expr x20).fConst).fInt), aF (((un_api_Expr x20).fConst).fFloat), aS (((un_api_Expr x20).fConst).fText), .pv (encSl R_E_api_Expr ((un_api_Expr x20).fKids))] false, bR 3 1 (rI .i64) ([y14] : List Int) 0 0] (by kernel_rfl) ?_))
     obtain ⟨_, h25, hm⟩ := bs hm
     refine dO [(34, aR 2 1 (([y14] : List Int).length))] [.box [aI ((un_api_Expr x20).fKind), aI ((un_api_Expr x20).fRel), aI ((un_api_Expr x20).fCol), aI (((un_api_Expr x20).fConst).fKind), aI (((un_api_Expr x20).fConst).fInt), aF (((un_api_Expr x20).fConst).fFloat), aS (((un_api_Expr x20).fConst).fText), .pv (encSl R_E_api_Expr ((un_api_Expr x20).fKids))] false, bR 3 1 (rI .i64) ([y14] : List Int) 0 0, bR 3 1 (rI .i64) ([y14] : List Int) 0 0] (app_nilO (u := 0) (rI .i64) ([y14] : List Int) (b := 8) t31 t3 rfl rfl rfl (fun _ => rfl) rfl h25 (show srcRows (aR 1 1 1) _ = some (([y14] : List Int).map (rI .i64)) from by kernel_rfl) (by kernel_rfl)) (by kernel_rfl) (sh 1 [(5, aR 2 1 (([y14] : List Int).length))] (by kernel_rfl) (fin [(1, .pv (.int .u32 a1)), (5, aR 2 1 (([y14] : List Int).length)), (9, .pv (encSl R_E_api_Expr a0)), (10, aI ((sll a0).length : Int)), (11, aI y14)] rfl (by kernel_rfl) (detn [(1, .pv (.int .u32 a1)), (5, aR 2 1 (([y14] : List Int).length)), (9, .pv (encSl R_E_api_Expr a0)), (10, aI ((sll a0).length : Int)), (11, aI (IntKind.wrap .i64 (y14 + 1)))] (by kernel_rfl) ?_)))
     exact ⟨_, _, tidyL [(1, .pv (.int .u32 a1)), (5, aR 0 1 (([y14] : List Int).length)), (9, .pv (encSl R_E_api_Expr a0)), (10, aI ((sll a0).length : Int)), (11, aI (IntKind.wrap .i64 (y14 + 1)))] [bR 3 1 (rI .i64) ([y14] : List Int) 0 0] (by kernel_rfl), .inr (⟨(IntKind.wrap .i64 (y14 + 1)), ([y14] : List Int), ([y14] : List Int).length, hm, rfl, rfl, (by first | rfl | assumption | omega | (simp only [List.length_set, List.length_append, List.length_cons, List.length_nil, List.length_replicate, List.length_drop] at * <;> omega))⟩)⟩
    ·
     refine cf h24 (by kernel_rfl) (wp_skip (detn [(1, .pv (.int .u32 a1)), (5, .pv .nils), (9, .pv (encSl R_E_api_Expr a0)), (10, aI ((sll a0).length : Int)), (11, aI (IntKind.wrap .i64 (y14 + 1)))] (by kernel_rfl) ?_))
     exact ⟨_, _, tidyL [(1, .pv (.int .u32 a1)), (5, .pv .nils), (9, .pv (encSl R_E_api_Expr a0)), (10, aI ((sll a0).length : Int)), (11, aI (IntKind.wrap .i64 (y14 + 1)))] [] (by kernel_rfl), .inl ⟨(IntKind.wrap .i64 (y14 + 1)), hm, rfl, rfl⟩⟩
   ·
    refine cf h19 (by kernel_rfl) (wp_exit ?_)
    exact .inl ⟨aI y14, aB (decide (y14 < ((sll a0).length : Int))), hm, (mk_same (by kernel_rfl)), rfl⟩
  ·
   simp only [guess_Within_l3] at hm
   refine sq (detn [(1, .pv (.int .u32 a1)), (5, aR 0 1 g16), (9, .pv (encSl R_E_api_Expr a0)), (10, aI ((sll a0).length : Int)), (11, aI y14), (12, aB (decide (y14 < ((sll a0).length : Int))))] (by kernel_rfl) ?_)
   refine sq ?_
   rcases bif_some hm with ⟨h26, hm⟩ | ⟨h26, hm⟩
   ·
    refine ct h26 (by kernel_rfl) (wp_skip (sq (bq (sq (rg (sh 1 [(13, aI y14)] (by kernel_rfl) ?_))))))
    obtain ⟨x27, h28, hm⟩ := bs hm
    refine dv 14 (v := .pv (.ptr (R_api_Expr (un_api_Expr x27)) 0)) (ia_slE R_E_api_Expr a0 .i64 t23 t44 h28 (R_un_api_Expr x27) rfl (by kernel_rfl)) (by kernel_rfl) (st 4 [(6, aI y14), (7, .ptr 1 0), (15, .agg [aI ((un_api_Expr x27).fKind), aI ((un_api_Expr x27).fRel), aI ((un_api_Expr x27).fCol), aI (((un_api_Expr x27).fConst).fKind), aI (((un_api_Expr x27).fConst).fInt), aF (((un_api_Expr x27).fConst).fFloat), aS (((un_api_Expr x27).fConst).fText), .pv (encSl R_E_api_Expr ((un_api_Expr x27).fKids))])] [bR 3 1 (rI .i64) y15 0 0, .box [aI ((un_api_Expr x27).fKind), aI ((un_api_Expr x27).fRel), aI ((un_api_Expr x27).fCol), aI (((un_api_Expr x27).fConst).fKind), aI (((un_api_Expr x27).fConst).fInt), aF (((un_api_Expr x27).fConst).fFloat), aS (((un_api_Expr x27).fConst).fText), .pv (encSl R_E_api_Expr ((un_api_Expr x27).fKids))] false] (by kernel_rfl) (fin [(1, .pv (.int .u32 a1)), (5, aR 0 1 g16), (6, aI y14), (7, .ptr 1 0), (9, .pv (encSl R_E_api_Expr a0)), (10, aI ((sll a0).length : Int)), (11, aI y14)] rfl (by kernel_rfl) (sq (rg (sh 1 [(16, .agg [aI ((un_api_Expr x27).fKind), aI ((un_api_Expr x27).fRel), aI ((un_api_Expr x27).fCol), aI (((un_api_Expr x27).fConst).fKind), aI (((un_api_Expr x27).fConst).fInt), aF (((un_api_Expr x27).fConst).fFloat), aS (((un_api_Expr x27).fConst).fText), .pv (encSl R_E_api_Expr ((un_api_Expr x27).fKids))])] (by kernel_rfl) ?_)))))
    obtain ⟨x29, h30, hm⟩ := bs hm
    refine dv 17 (cpure (by kernel_rfl) (ok_expr_Rels h30) (by kernel_rfl) (by kernel_rfl) (by kernel_rfl)) (by kernel_rfl) (sh 1 [(8, .pv (.int .u32 x29))] (by kernel_rfl) (fin [(1, .pv (.int .u32 a1)), (5, aR 0 1 g16), (6, aI y14), (8, .pv (.int .u32 x29)), (9, .pv (encSl R_E_api_Expr a0)), (10, aI ((sll a0).length : Int)), (11, aI y14)] rfl (by kernel_rfl) (sq (rg (sh 5 [(22, aB ((iAndNot .u32 x29 a1) == 0)), (21, aB ((iAndNot .u32 x29 a1) == 0)), (20, .pv (.int .u32 (iAndNot .u32 x29 a1))), (19, .pv (.int .u32 a1)), (18, .pv (.int .u32 x29))] (by kernel_rfl) ?_)))))
    refine seg ((iAndNot .u32 x29 a1) == 0) [22, 21] (fun b => [(30, aB (b && ((x29 != 0) || ((iAnd .u32 a1 1) == 1)))), (29, ifA b (aB ((x29 != 0) || ((iAnd .u32 a1 1) == 1))) (.undef)), (28, ifA b (ifA (x29 != 0) (.undef) (aB ((iAnd .u32 a1 1) == 1))) (.undef)), (27, ifA b (ifA (x29 != 0) (.undef) (.pv (.int .u32 (iAnd .u32 a1 1)))) (.undef)), (26, ifA b (ifA (x29 != 0) (.undef) (.pv (.int .u32 a1))) (.undef)), (25, ifA b (aB (x29 != 0)) (.undef)), (24, ifA b (aB (x29 != 0)) (.undef)), (23, ifA b (.pv (.int .u32 x29)) (.undef))]) 13 (by kernel_rfl) ?_ ?_ ?_
    ·
     intro Q h
     refine sh 3 [(25, aB (x29 != 0)), (24, aB (x29 != 0)), (23, .pv (.int .u32 x29))] (by kernel_rfl) ?_
     refine seg (x29 != 0) [25, 24] (fun b => [(29, aB (b || ((iAnd .u32 a1 1) == 1))), (28, ifA b (.undef) (aB ((iAnd .u32 a1 1) == 1))), (27, ifA b (.undef) (.pv (.int .u32 (iAnd .u32 a1 1)))), (26, ifA b (.undef) (.pv (.int .u32 a1)))]) 12 (by kernel_rfl) ?_ ?_ ?_
     ·
      intro Q h
      refine sh 4 [(29, aB true), (28, .undef), (27, .undef), (26, .undef)] (by kernel_rfl) ?_
      exact sameN (by kernel_rfl) (by kernel_rfl) h
     ·
      intro Q h
      refine sh 4 [(29, aB ((iAnd .u32 a1 1) == 1)), (28, aB ((iAnd .u32 a1 1) == 1)), (27, .pv (.int .u32 (iAnd .u32 a1 1))), (26, .pv (.int .u32 a1))] (by kernel_rfl) ?_
      exact sameN (by kernel_rfl) (by kernel_rfl) h
     refine sh 1 [(30, aB ((x29 != 0) || ((iAnd .u32 a1 1) == 1)))] (by kernel_rfl) ?_
     exact sameN (by kernel_rfl) (by kernel_rfl) h
    ·
     intro Q h
     refine sh 8 [(30, aB false), (29, .undef), (28, .undef), (27, .undef), (26, .undef), (25, .undef), (24, .undef), (23, .undef)] (by kernel_rfl) ?_
     exact sameN (by kernel_rfl) (by kernel_rfl) h
    refine fin [(1, .pv (.int .u32 a1)), (5, aR 0 1 g16), (6, aI y14), (9, .pv (encSl R_E_api_Expr a0)), (10, aI ((sll a0).length : Int)), (11, aI y14), (30, aB (((iAndNot .u32 x29 a1) == 0) && ((x29 != 0) || ((iAnd .u32 a1 1) == 1))))] rfl (by kernel_rfl) ?_
    rcases bif_some hm with ⟨h31, hm⟩ | ⟨h31, hm⟩
    ·
     refine ct h31 (by kernel_rfl) (rg (st 3 [(33, aR 2 1 1), (32, aI y14), (31, aR 0 1 g16)] [bR 3 1 (rI .i64) y15 0 0, .box [aI ((un_api_Expr x27).fKind), aI ((un_api_Expr x27).fRel), aI ((un_api_Expr x27).fCol), aI (((un_api_Expr x27).fConst).fKind), aI (((un_api_Expr x27).fConst).fInt), aF (((un_api_Expr x27).fConst).fFloat), aS (((un_api_Expr x27).fConst).fText), .pv (encSl R_E_api_Expr ((un_api_Expr x27).fKids))] false, bR 3 1 (rI .i64) ([y14] : List Int) 0 0] (by kernel_rfl) ?_))
     obtain ⟨_, h32, hm⟩ := bs hm
     refine dO [(34, aR 0 1 ((y15 ++ ([y14] : List Int)).length))] [bR 3 1 (rI .i64) (y15 ++ ([y14] : List Int)) 0 0, .box [aI ((un_api_Expr x27).fKind), aI ((un_api_Expr x27).fRel), aI ((un_api_Expr x27).fCol), aI (((un_api_Expr x27).fConst).fKind), aI (((un_api_Expr x27).fConst).fInt), aF (((un_api_Expr x27).fConst).fFloat), aS (((un_api_Expr x27).fConst).fText), .pv (encSl R_E_api_Expr ((un_api_Expr x27).fKids))] false, bR 3 1 (rI .i64) ([y14] : List Int) 0 0] (app_refO (u := 0) (n := g16) (id := 0) (rI .i64) y15 ([y14] : List Int) (b := 8) t31 t3 rfl rfl rfl (fun _ => rfl) rfl h32 rfl (by omega) (Nat.zero_le _) (show srcRows (aR 2 1 1) _ = some (([y14] : List Int).map (rI .i64)) from by kernel_rfl) (by kernel_rfl)) (by kernel_rfl) (sh 1 [(5, aR 0 1 ((y15 ++ ([y14] : List Int)).length))] (by kernel_rfl) (fin [(1, .pv (.int .u32 a1)), (5, aR 0 1 ((y15 ++ ([y14] : List Int)).length)), (9, .pv (encSl R_E_api_Expr a0)), (10, aI ((sll a0).length : Int)), (11, aI y14)] rfl (by kernel_rfl) (detn [(1, .pv (.int .u32 a1)), (5, aR 0 1 ((y15 ++ ([y14] : List Int)).length)), (9, .pv (encSl R_E_api_Expr a0)), (10, aI ((sll a0).length : Int)), (11, aI (IntKind.wrap .i64 (y14 + 1)))] (by kernel_rfl) ?_)))
     exact ⟨_, _, tidyL [(1, .pv (.int .u32 a1)), (5, aR 0 1 ((y15 ++ ([y14] : List Int)).length)), (9, .pv (encSl R_E_api_Expr a0)), (10, aI ((sll a0).length : Int)), (11, aI (IntKind.wrap .i64 (y14 + 1)))] [bR 3 1 (rI .i64) (y15 ++ ([y14] : List Int)) 0 0] (by kernel_rfl), .inr (⟨(IntKind.wrap .i64 (y14 + 1)), (y15 ++ ([y14] : List Int)), (y15 ++ ([y14] : List Int)).length, hm, rfl, rfl, (by first | rfl | assumption | omega | (simp only [List.length_set, List.length_append, List.length_cons, List.length_nil, List.length_replicate, List.length_drop] at * <;> omega))⟩)⟩
    ·
     refine cf h31 (by kernel_rfl) (wp_skip (detn [(1, .pv (.int .u32 a1)), (5, aR 0 1 g16), (9, .pv (encSl R_E_api_Expr a0)), (10, aI ((sll a0).length : Int)), (11, aI (IntKind.wrap .i64 (y14 + 1)))] (by kernel_rfl) ?_))
     exact ⟨_, _, tidyL [(1, .pv (.int .u32 a1)), (5, aR 0 1 g16), (9, .pv (encSl R_E_api_Expr a0)), (10, aI ((sll a0).length : Int)), (11, aI (IntKind.wrap .i64 (y14 + 1)))] [bR 3 1 (rI .i64) y15 0 0] (by kernel_rfl), .inr (⟨(IntKind.wrap .i64 (y14 + 1)), y15, g16, hm, rfl, rfl, (by first | rfl | assumption | omega | (simp only [List.length_set, List.length_append, List.length_cons, List.length_nil, List.length_replicate, List.length_drop] at * <;> omega))⟩)⟩
   ·
    refine cf h26 (by kernel_rfl) (wp_exit ?_)
    exact .inr (⟨y15, aI y14, aB (decide (y14 < ((sll a0).length : Int))), g16, hm, (mk_same (by kernel_rfl)), rfl, (by first | rfl | assumption | omega | (simp only [List.length_set, List.length_append, List.length_cons, List.length_nil, List.length_replicate, List.length_drop] at * <;> omega))⟩)
theorem ok_law31_in {n : Nat} {a0 : (Option (List E_api_Expr))} {a1 : Int} {a2 : Int} {r : Bool} (hm : law31_in n a0 a1 a2 = some r) :
    call G n 17 [.pv (encSl R_E_api_Expr a0), .pv (.int .u32 a1), aI a2] [] = some (.ret (aB r), []) := by
  unfold law31_in at hm
  obtain ⟨n, rfl, h0⟩ := at1_some hm
  replace hm := h0; clear h0
  refine callL 16 [(0, .pv (encSl R_E_api_Expr a0)), (1, .pv (.int .u32 a1)), (2, aI a2)] func17 rfl (by kernel_rfl) (sq (detn [(0, .pv (encSl R_E_api_Expr a0)), (1, .pv (.int .u32 a1)), (2, aI a2)] (by kernel_rfl) (sq (rg (sh 4 [(10, aI (IntKind.wrap .i64 (a2 + 1))), (9, aI a2), (8, aI a2), (7, .pv (encSl R_E_api_Expr a0))] (by kernel_rfl) ?_)))))
  obtain ⟨_, h1, hm⟩ := bs hm
  refine dv 11 (v := .pv (encSl R_E_api_Expr (subSl a0 a2 (IntKind.wrap .i64 (a2 + 1))))) (slice_slO R_E_api_Expr a0 (k := .i64) (k' := .i64) (xl := some (aI a2)) (xh := some (aI (IntKind.wrap .i64 (a2 + 1)))) (esz := 8) h1 len_E_api_Expr (.inr rfl) (.inr rfl) (by kernel_rfl)) (by kernel_rfl) (sh 1 [(12, .pv (.int .u32 a1))] (by kernel_rfl) ?_)
  obtain ⟨x2, h3, hm⟩ := bs hm
  refine dv 13 (cpure (by kernel_rfl) (ok_guess_Within h3) (by kernel_rfl) (by kernel_rfl) (by kernel_rfl)) (by kernel_rfl) (dv 14 (v := aI ((sll x2).length : Int)) (len_slO (rI .i64) x2 t31 (by kernel_rfl)) (by kernel_rfl) (sh 2 [(6, aB (((sll x2).length : Int) == 1)), (15, aB (((sll x2).length : Int) == 1))] (by kernel_rfl) (fin [(6, aB (((sll x2).length : Int) == 1))] rfl (by kernel_rfl) (wp_ret ?_))))
  obtain rfl := Option.some.inj hm
  exact ⟨trivial, by kernel_rfl⟩
theorem ok_law31_GuessSplits {n : Nat} {a0 : (Option (List E_api_Expr))} {a1 : Int} {a2 : Int} {r : Bool} (hm : law31_GuessSplits n a0 a1 a2 = some r) :
    call G n 5 [.pv (encSl R_E_api_Expr a0), .pv (.int .u32 a1), .pv (.int .u32 a2)] [] = some (.ret (aB r), []) := by
  unfold law31_GuessSplits at hm
  obtain ⟨n, rfl, h0⟩ := at1_some hm
  replace hm := h0; clear h0
  refine callL 61 [(0, .pv (encSl R_E_api_Expr a0)), (1, .pv (.int .u32 a1)), (2, .pv (.int .u32 a2))] func5 rfl (by kernel_rfl) (sq (detn [(0, .pv (encSl R_E_api_Expr a0)), (1, .pv (.int .u32 a1)), (2, .pv (.int .u32 a2))] (by kernel_rfl) ?_))
  refine sq (sq (rg ?_))
  obtain ⟨x1, h2, hm⟩ := bs hm
  refine dv 10 (cpure (by kernel_rfl) (ok_law31_works h2) (by kernel_rfl) (by kernel_rfl) (by kernel_rfl)) (by kernel_rfl) (sh 1 [(11, aB (!x1))] (by kernel_rfl) (fin [(0, .pv (encSl R_E_api_Expr a0)), (1, .pv (.int .u32 a1)), (2, .pv (.int .u32 a2)), (11, aB (!x1))] rfl (by kernel_rfl) ?_))
  rcases bif_some hm with ⟨h3, hm⟩ | ⟨h3, hm⟩
  ·
   refine ct h3 (by kernel_rfl) (sq (detn [(6, aB false)] (by kernel_rfl) (wp_ret ?_)))
   obtain rfl := Option.some.inj hm
   exact ⟨trivial, by kernel_rfl⟩
  ·
   refine cf h3 (by kernel_rfl) (wp_skip ?_)
   refine sq (sq (rg (sh 1 [(12, .pv (encSl R_E_api_Expr a0))] (by kernel_rfl) ?_)))
   obtain ⟨x4, h5, hm⟩ := bs hm
   refine dv 13 (cpure (by kernel_rfl) (ok_law31_Great h5) (by kernel_rfl) (by kernel_rfl) (by kernel_rfl)) (by kernel_rfl) (fin [(0, .pv (encSl R_E_api_Expr a0)), (1, .pv (.int .u32 a1)), (2, .pv (.int .u32 a2)), (13, aB x4)] rfl (by kernel_rfl) ?_)
   rcases bif_some hm with ⟨h6, hm⟩ | ⟨h6, hm⟩
   ·
    refine ct h6 (by kernel_rfl) (sq (detn [(6, aB true)] (by kernel_rfl) (wp_ret ?_)))
    obtain rfl := Option.some.inj hm
    exact ⟨trivial, by kernel_rfl⟩
   ·
    refine cf h6 (by kernel_rfl) (wp_skip (sq (detn [(0, .pv (encSl R_E_api_Expr a0)), (1, .pv (.int .u32 a1)), (2, .pv (.int .u32 (iAndNot .u32 a2 a1)))] (by kernel_rfl) (sq (detn [(0, .pv (encSl R_E_api_Expr a0)), (1, .pv (.int .u32 a1)), (2, .pv (.int .u32 (iAndNot .u32 a2 a1))), (7, aI 0)] (by kernel_rfl) ?_)))))
    obtain ⟨k12, hk12, hm⟩ := withK_some hm
    refine mid (fun t H => (∃ (y7 : (Option (List Int))) (y8 : Int) (y9 : Int) (y10 : Bool) (y11 : Int), k12 y11 = some r ∧ t = mk 61 [(0, .pv (encSl R_E_api_Expr a0)), (1, .pv (.int .u32 a1)), (2, .pv (.int .u32 (iAndNot .u32 a2 a1))), (7, aI y11), (21, .pv (encSl (rI .i64) y7)), (22, aI y8), (23, aI y9), (24, aB y10)] ∧ H = [])) ?_ ?_
    ·
     rintro _ _ ⟨y7, y8, y9, y10, y11, hm, rfl, rfl⟩
     subst hk12
     obtain ⟨k15, hk15, hm⟩ := withK_some hm
     refine mid (fun t H => (∃ (y13 : Bool) (y14 : Int), k15 () = some r ∧ t = mk 61 [(0, .pv (encSl R_E_api_Expr a0)), (1, .pv (.int .u32 a1)), (2, .pv (.int .u32 (iAndNot .u32 a2 a1))), (7, aI y14), (21, .pv (encSl (rI .i64) y7)), (22, aI y8), (23, aI y9), (24, aB y10), (48, aB y13)] ∧ H = [])) ?_ ?_
     ·
      rintro _ _ ⟨y13, y14, hm, rfl, rfl⟩
      subst hk15
      refine sq (detn [(6, aB true)] (by kernel_rfl) (wp_ret ?_))
      obtain rfl := Option.some.inj hm
      exact ⟨trivial, by kernel_rfl⟩
     refine bq ?_
     refine loopF (fun mm t H => (∃ (y17 : Int), law31_GuessSplits_l16 n a0 a1 a2 k15 mm y17 = some r ∧ t = mk 61 [(0, .pv (encSl R_E_api_Expr a0)), (1, .pv (.int .u32 a1)), (2, .pv (.int .u32 (iAndNot .u32 a2 a1))), (7, aI y17), (21, .pv (encSl (rI .i64) y7)), (22, aI y8), (23, aI y9), (24, aB y10)] ∧ H = [])) (⟨y11, hm, rfl, rfl⟩) ?_ ?_
     · rintro _ _ ⟨y17, hm, _⟩; exact nomatch hm
     rintro m18 _ _ ⟨y17, hm, rfl, rfl⟩
     simp only [law31_GuessSplits_l16] at hm
     refine sq (sq (rg (sh 2 [(46, .pv (encSl R_E_api_Expr a0)), (45, aI y17)] (by kernel_rfl) (dv 47 (v := aI ((sll a0).length : Int)) (len_slO R_E_api_Expr a0 t23 (by kernel_rfl)) (by kernel_rfl) (sh 1 [(48, aB (decide (y17 < ((sll a0).length : Int))))] (by kernel_rfl) (fin [(0, .pv (encSl R_E_api_Expr a0)), (1, .pv (.int .u32 a1)), (2, .pv (.int .u32 (iAndNot .u32 a2 a1))), (7, aI y17), (21, .pv (encSl (rI .i64) y7)), (22, aI y8), (23, aI y9), (24, aB y10), (48, aB (decide (y17 < ((sll a0).length : Int))))] rfl (by kernel_rfl) ?_))))))
     rcases bif_some hm with ⟨h19, hm⟩ | ⟨h19, hm⟩
     ·
      refine ct h19 (by kernel_rfl) (wp_skip (sq (bq (sq (rg (sh 3 [(53, aI y17), (52, .pv (.int .u32 a1)), (51, .pv (encSl R_E_api_Expr a0))] (by kernel_rfl) ?_))))))
      obtain ⟨x20, h21, hm⟩ := bs hm
      refine dv 54 (cpure (by kernel_rfl) (ok_law31_in h21) (by kernel_rfl) (by kernel_rfl) (by kernel_rfl)) (by kernel_rfl) (sh 1 [(55, aB x20)] (by kernel_rfl) ?_)
      rcases bif_some hm with ⟨h22, hm⟩ | ⟨h22, hm⟩
      ·
       refine known [55, 54] h22 (by kernel_rfl) (sh 5 [(60, aB true), (59, .undef), (58, .undef), (57, .undef), (56, .undef)] (by kernel_rfl) (fin [(0, .pv (encSl R_E_api_Expr a0)), (1, .pv (.int .u32 a1)), (2, .pv (.int .u32 (iAndNot .u32 a2 a1))), (7, aI y17), (21, .pv (encSl (rI .i64) y7)), (22, aI y8), (23, aI y9), (24, aB y10), (60, aB true)] rfl (by kernel_rfl) (cT (by kernel_rfl) (sq (detn [(6, aB false)] (by kernel_rfl) (wp_ret ?_))))))
       obtain rfl := Option.some.inj hm
       exact ⟨trivial, by kernel_rfl⟩
      ·
       refine known [55, 54] h22 (by kernel_rfl) (sh 3 [(58, aI y17), (57, .pv (.int .u32 (iAndNot .u32 a2 a1))), (56, .pv (encSl R_E_api_Expr a0))] (by kernel_rfl) ?_)
       obtain ⟨x23, h24, hm⟩ := bs hm
       refine dv 59 (cpure (by kernel_rfl) (ok_law31_in h24) (by kernel_rfl) (by kernel_rfl) (by kernel_rfl)) (by kernel_rfl) (sh 1 [(60, aB x23)] (by kernel_rfl) (fin [(0, .pv (encSl R_E_api_Expr a0)), (1, .pv (.int .u32 a1)), (2, .pv (.int .u32 (iAndNot .u32 a2 a1))), (7, aI y17), (21, .pv (encSl (rI .i64) y7)), (22, aI y8), (23, aI y9), (24, aB y10), (60, aB x23)] rfl (by kernel_rfl) ?_))
       rcases bif_some hm with ⟨h25, hm⟩ | ⟨h25, hm⟩
       ·
        refine ct h25 (by kernel_rfl) (sq (detn [(6, aB false)] (by kernel_rfl) (wp_ret ?_)))
        obtain rfl := Option.some.inj hm
        exact ⟨trivial, by kernel_rfl⟩
       ·
        refine cf h25 (by kernel_rfl) (wp_skip (detn [(0, .pv (encSl R_E_api_Expr a0)), (1, .pv (.int .u32 a1)), (2, .pv (.int .u32 (iAndNot .u32 a2 a1))), (7, aI (IntKind.wrap .i64 (y17 + 1))), (21, .pv (encSl (rI .i64) y7)), (22, aI y8), (23, aI y9), (24, aB y10)] (by kernel_rfl) ?_))
        exact ⟨_, _, tidyL [(0, .pv (encSl R_E_api_Expr a0)), (1, .pv (.int .u32 a1)), (2, .pv (.int .u32 (iAndNot .u32 a2 a1))), (7, aI (IntKind.wrap .i64 (y17 + 1))), (21, .pv (encSl (rI .i64) y7)), (22, aI y8), (23, aI y9), (24, aB y10)] [] (by kernel_rfl), ⟨(IntKind.wrap .i64 (y17 + 1)), hm, rfl, rfl⟩⟩
     ·
      refine cf h19 (by kernel_rfl) (wp_exit ?_)
      exact ⟨(decide (y17 < ((sll a0).length : Int))), y17, hm, rfl, rfl⟩
    refine sq (rg (sh 4 [(20, .pv (.int .u32 (iOr .u32 a1 (iAndNot .u32 a2 a1)))), (19, .pv (.int .u32 (iAndNot .u32 a2 a1))), (18, .pv (.int .u32 a1)), (17, .pv (encSl R_E_api_Expr a0))] (by kernel_rfl) ?_))
    obtain ⟨x26, h27, hm⟩ := bs hm
    refine dv 21 (cpure (by kernel_rfl) (ok_guess_Within h27) (by kernel_rfl) (by kernel_rfl) (by kernel_rfl)) (by kernel_rfl) (dv 22 (v := aI ((sll x26).length : Int)) (len_slO (rI .i64) x26 t31 (by kernel_rfl)) (by kernel_rfl) (sh 1 [(23, aI 0)] (by kernel_rfl) (fin [(0, .pv (encSl R_E_api_Expr a0)), (1, .pv (.int .u32 a1)), (2, .pv (.int .u32 (iAndNot .u32 a2 a1))), (7, aI 0), (21, .pv (encSl (rI .i64) x26)), (22, aI ((sll x26).length : Int)), (23, aI 0)] rfl (by kernel_rfl) (bq ?_))))
    refine loopF (fun mm t H => (∃ (y30 : Int) (y31 : Int), law31_GuessSplits_l8 n a0 a1 a2 k12 x26 mm y30 y31 = some r ∧ t = mk 61 [(0, .pv (encSl R_E_api_Expr a0)), (1, .pv (.int .u32 a1)), (2, .pv (.int .u32 (iAndNot .u32 a2 a1))), (7, aI y31), (21, .pv (encSl (rI .i64) x26)), (22, aI ((sll x26).length : Int)), (23, aI y30)] ∧ H = [])) (⟨0, 0, hm, rfl, rfl⟩) ?_ ?_
    · rintro _ _ ⟨y30, y31, hm, _⟩; exact nomatch hm
    rintro m32 _ _ ⟨y30, y31, hm, rfl, rfl⟩
    simp only [law31_GuessSplits_l8] at hm
    refine sq (detn [(0, .pv (encSl R_E_api_Expr a0)), (1, .pv (.int .u32 a1)), (2, .pv (.int .u32 (iAndNot .u32 a2 a1))), (7, aI y31), (21, .pv (encSl (rI .i64) x26)), (22, aI ((sll x26).length : Int)), (23, aI y30), (24, aB (decide (y30 < ((sll x26).length : Int))))] (by kernel_rfl) ?_)
    refine sq ?_
    rcases bif_some hm with ⟨h33, hm⟩ | ⟨h33, hm⟩
    ·
     refine ct h33 (by kernel_rfl) (wp_skip ?_)
     obtain ⟨k35, hk35, hm⟩ := withK_some hm
     refine mid (fun t H => (∃ (y34 : Int), k35 y34 = some r ∧ t = mk 61 [(0, .pv (encSl R_E_api_Expr a0)), (1, .pv (.int .u32 a1)), (2, .pv (.int .u32 (iAndNot .u32 a2 a1))), (7, aI y34), (21, .pv (encSl (rI .i64) x26)), (22, aI ((sll x26).length : Int)), (23, aI y30)] ∧ H = [])) ?_ ?_
     ·
      rintro _ _ ⟨y34, hm, rfl, rfl⟩
      subst hk35
      refine detn [(0, .pv (encSl R_E_api_Expr a0)), (1, .pv (.int .u32 a1)), (2, .pv (.int .u32 (iAndNot .u32 a2 a1))), (7, aI y34), (21, .pv (encSl (rI .i64) x26)), (22, aI ((sll x26).length : Int)), (23, aI (IntKind.wrap .i64 (y30 + 1)))] (by kernel_rfl) ?_
      exact ⟨_, _, tidyL [(0, .pv (encSl R_E_api_Expr a0)), (1, .pv (.int .u32 a1)), (2, .pv (.int .u32 (iAndNot .u32 a2 a1))), (7, aI y34), (21, .pv (encSl (rI .i64) x26)), (22, aI ((sll x26).length : Int)), (23, aI (IntKind.wrap .i64 (y30 + 1)))] [] (by kernel_rfl), ⟨(IntKind.wrap .i64 (y30 + 1)), y34, hm, rfl, rfl⟩⟩
     refine bq (sq (rg ?_))
     obtain ⟨x36, h37, hm⟩ := bs hm
     refine dv 25 (v := .pv (.ptr ((rI .i64) x36) 0)) (ia_slO (rI .i64) x26 .i64 t31 t3 h37 rfl (by kernel_rfl)) (by kernel_rfl) (sh 2 [(9, aI x36), (26, aI x36)] (by kernel_rfl) (fin [(0, .pv (encSl R_E_api_Expr a0)), (1, .pv (.int .u32 a1)), (2, .pv (.int .u32 (iAndNot .u32 a2 a1))), (7, aI y31), (9, aI x36), (21, .pv (encSl (rI .i64) x26)), (22, aI ((sll x26).length : Int)), (23, aI y30)] rfl (by kernel_rfl) ?_))
     obtain ⟨k40, hk40, hm⟩ := withK_some hm
     refine mid (fun t H => (∃ (y38 : Bool) (y39 : Int), k40 y39 = some r ∧ t = mk 61 [(0, .pv (encSl R_E_api_Expr a0)), (1, .pv (.int .u32 a1)), (2, .pv (.int .u32 (iAndNot .u32 a2 a1))), (7, aI y39), (9, aI x36), (21, .pv (encSl (rI .i64) x26)), (22, aI ((sll x26).length : Int)), (23, aI y30), (29, aB y38)] ∧ H = [])) ?_ ?_
     ·
      rintro _ _ ⟨y38, y39, hm, rfl, rfl⟩
      subst hk40
      refine detn [(0, .pv (encSl R_E_api_Expr a0)), (1, .pv (.int .u32 a1)), (2, .pv (.int .u32 (iAndNot .u32 a2 a1))), (7, aI (IntKind.wrap .i64 (y39 + 1))), (21, .pv (encSl (rI .i64) x26)), (22, aI ((sll x26).length : Int)), (23, aI y30)] (by kernel_rfl) ?_
      exact ⟨(IntKind.wrap .i64 (y39 + 1)), hm, rfl, rfl⟩
     refine bq ?_
     refine loopF (fun mm t H => (∃ (y42 : Int), law31_GuessSplits_l10 n a0 a1 a2 x36 k40 mm y42 = some r ∧ t = mk 61 [(0, .pv (encSl R_E_api_Expr a0)), (1, .pv (.int .u32 a1)), (2, .pv (.int .u32 (iAndNot .u32 a2 a1))), (7, aI y42), (9, aI x36), (21, .pv (encSl (rI .i64) x26)), (22, aI ((sll x26).length : Int)), (23, aI y30)] ∧ H = [])) (⟨y31, hm, rfl, rfl⟩) ?_ ?_
     · rintro _ _ ⟨y42, hm, _⟩; exact nomatch hm
     rintro m43 _ _ ⟨y42, hm, rfl, rfl⟩
     simp only [law31_GuessSplits_l10] at hm
     refine sq (sq (detn [(0, .pv (encSl R_E_api_Expr a0)), (1, .pv (.int .u32 a1)), (2, .pv (.int .u32 (iAndNot .u32 a2 a1))), (7, aI y42), (9, aI x36), (21, .pv (encSl (rI .i64) x26)), (22, aI ((sll x26).length : Int)), (23, aI y30), (29, aB (decide (y42 < x36)))] (by kernel_rfl) ?_))
     rcases bif_some hm with ⟨h44, hm⟩ | ⟨h44, hm⟩
     ·
      refine ct h44 (by kernel_rfl) (wp_skip (bq (sq (sq (rg (sh 3 [(32, aI y42), (31, .pv (.int .u32 a1)), (30, .pv (encSl R_E_api_Expr a0))] (by kernel_rfl) ?_))))))
      obtain ⟨x45, h46, hm⟩ := bs hm
      refine dv 33 (cpure (by kernel_rfl) (ok_law31_in h46) (by kernel_rfl) (by kernel_rfl) (by kernel_rfl)) (by kernel_rfl) (sh 1 [(34, aB x45)] (by kernel_rfl) ?_)
      rcases bif_some hm with ⟨h47, hm⟩ | ⟨h47, hm⟩
      ·
       refine known [34, 33] h47 (by kernel_rfl) (sh 5 [(39, aB true), (38, .undef), (37, .undef), (36, .undef), (35, .undef)] (by kernel_rfl) (fin [(0, .pv (encSl R_E_api_Expr a0)), (1, .pv (.int .u32 a1)), (2, .pv (.int .u32 (iAndNot .u32 a2 a1))), (7, aI y42), (9, aI x36), (21, .pv (encSl (rI .i64) x26)), (22, aI ((sll x26).length : Int)), (23, aI y30), (39, aB true)] rfl (by kernel_rfl) (cT (by kernel_rfl) (sq (detn [(6, aB false)] (by kernel_rfl) (wp_ret ?_))))))
       obtain rfl := Option.some.inj hm
       exact ⟨trivial, by kernel_rfl⟩
      ·
       refine known [34, 33] h47 (by kernel_rfl) (sh 3 [(37, aI y42), (36, .pv (.int .u32 (iAndNot .u32 a2 a1))), (35, .pv (encSl R_E_api_Expr a0))] (by kernel_rfl) ?_)
       obtain ⟨x48, h49, hm⟩ := bs hm
       refine dv 38 (cpure (by kernel_rfl) (ok_law31_in h49) (by kernel_rfl) (by kernel_rfl) (by kernel_rfl)) (by kernel_rfl) (sh 1 [(39, aB x48)] (by kernel_rfl) (fin [(0, .pv (encSl R_E_api_Expr a0)), (1, .pv (.int .u32 a1)), (2, .pv (.int .u32 (iAndNot .u32 a2 a1))), (7, aI y42), (9, aI x36), (21, .pv (encSl (rI .i64) x26)), (22, aI ((sll x26).length : Int)), (23, aI y30), (39, aB x48)] rfl (by kernel_rfl) ?_))
       rcases bif_some hm with ⟨h50, hm⟩ | ⟨h50, hm⟩
       ·
        refine ct h50 (by kernel_rfl) (sq (detn [(6, aB false)] (by kernel_rfl) (wp_ret ?_)))
        obtain rfl := Option.some.inj hm
        exact ⟨trivial, by kernel_rfl⟩
       ·
        refine cf h50 (by kernel_rfl) (wp_skip (detn [(0, .pv (encSl R_E_api_Expr a0)), (1, .pv (.int .u32 a1)), (2, .pv (.int .u32 (iAndNot .u32 a2 a1))), (7, aI (IntKind.wrap .i64 (y42 + 1))), (9, aI x36), (21, .pv (encSl (rI .i64) x26)), (22, aI ((sll x26).length : Int)), (23, aI y30)] (by kernel_rfl) ?_))
        exact ⟨_, _, tidyL [(0, .pv (encSl R_E_api_Expr a0)), (1, .pv (.int .u32 a1)), (2, .pv (.int .u32 (iAndNot .u32 a2 a1))), (7, aI (IntKind.wrap .i64 (y42 + 1))), (9, aI x36), (21, .pv (encSl (rI .i64) x26)), (22, aI ((sll x26).length : Int)), (23, aI y30)] [] (by kernel_rfl), ⟨(IntKind.wrap .i64 (y42 + 1)), hm, rfl, rfl⟩⟩
     ·
      refine cf h44 (by kernel_rfl) (wp_exit ?_)
      exact ⟨(decide (y42 < x36)), y42, hm, rfl, rfl⟩
    ·
     refine cf h33 (by kernel_rfl) (wp_exit ?_)
     exact ⟨x26, ((sll x26).length : Int), y30, (decide (y30 < ((sll x26).length : Int))), y31, hm, rfl, rfl⟩
end Go.Ab.S1
