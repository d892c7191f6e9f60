import Derived.Test.YtmdjdpnmbgdngaaS1
import Derived.Test.YtmdjdpnmbgdngaaPA
namespace Go.Ab.S1
open Go Go.Ab Go.Pl
open Go.Proofs.Try
set_option linter.unusedVariables false
set_option linter.unusedSimpArgs false
set_option maxRecDepth 100000
theorem run_law05_works : call G 3999999 16 [] [] = some (.ret (aB true), []) := by kernel_rfl
theorem ok_law05_works {n : Nat} {r : Bool} (hm : law05_works n = some r) :
    call G n 16 [] [] = some (.ret (aB r), []) := by
  unfold law05_works at hm
  have hn : n = 3999999 := by
    cases h : n == 3999999 with
    | true => exact eq_of_beq h
    | false => rw [h] at hm; cases hm
  subst hn
  have h2 : some true = some r := hm
  obtain rfl := Option.some.inj h2
  exact run_law05_works
theorem ok_ref05_Bulk {n : Nat} {a0 : (Option (List (Option (List api_Value))))} {a1 : Int} {r : Int} (hm : ref05_Bulk n a0 a1 = some r) :
    call G n 31 [.pv (encSl (rSl R_api_Value) a0), aI a1] [] = some (.ret (aI r), []) := by
  unfold ref05_Bulk at hm
  obtain ⟨n, rfl, h0⟩ := at1_some hm
  replace hm := h0; clear h0
  refine callL 71 [(0, .pv (encSl (rSl R_api_Value) a0)), (1, aI a1)] func31 rfl (by kernel_rfl) (sq (detn [(0, .pv (encSl (rSl R_api_Value) a0)), (1, aI a1)] (by kernel_rfl) ?_))
  refine sq (sq (rg (sh 1 [(8, .pv (encSl (rSl R_api_Value) a0))] (by kernel_rfl) (dv 9 (v := aI ((sll a0).length : Int)) (len_slO (rSl R_api_Value) a0 t25 (by kernel_rfl)) (by kernel_rfl) (sh 2 [(11, aB (decide (((sll a0).length : Int) > a1))), (10, aI a1)] (by kernel_rfl) (fin [(0, .pv (encSl (rSl R_api_Value) a0)), (1, aI a1), (11, aB (decide (((sll a0).length : Int) > a1)))] rfl (by kernel_rfl) ?_))))))
  rcases bif_some hm with ⟨h1, hm⟩ | ⟨h1, hm⟩
  ·
   refine ct h1 (by kernel_rfl) (sq (detn [(4, aI (IntKind.wrap .i64 (a1 + 1)))] (by kernel_rfl) (wp_ret ?_)))
   obtain rfl := Option.some.inj hm
   exact ⟨trivial, by kernel_rfl⟩
  ·
   refine cf h1 (by kernel_rfl) (wp_skip (sq (rg (sh 1 [(14, .pv (encSl (rSl R_api_Value) a0))] (by kernel_rfl) (dv 15 (v := aI ((sll a0).length : Int)) (len_slO (rSl R_api_Value) a0 t25 (by kernel_rfl)) (by kernel_rfl) (sh 1 [(5, aI ((sll a0).length : Int))] (by kernel_rfl) (fin [(0, .pv (encSl (rSl R_api_Value) a0)), (1, aI a1), (5, aI ((sll a0).length : Int))] rfl (by kernel_rfl) ?_)))))))
   obtain ⟨k5, hk5, hm⟩ := withK_some hm
   refine mid (fun t H => (∃ (y2 : Bool) (y3 : Int) (y4 : Int), k5 y3 = some r ∧ t = mk 71 [(0, .pv (encSl (rSl R_api_Value) a0)), (1, aI a1), (5, aI y3), (6, aI y4), (19, aB y2)] ∧ H = [])) ?_ ?_
   ·
    rintro _ _ ⟨y2, y3, y4, hm, rfl, rfl⟩
    subst hk5
    refine sq (detn [(4, aI y3)] (by kernel_rfl) (wp_ret ?_))
    obtain rfl := Option.some.inj hm
    exact ⟨trivial, by kernel_rfl⟩
   refine sq (detn [(0, .pv (encSl (rSl R_api_Value) a0)), (1, aI a1), (5, aI ((sll a0).length : Int)), (6, aI 0)] (by kernel_rfl) (bq ?_))
   refine loopF (fun mm t H => (∃ (y8 : Int) (y9 : Int), ref05_Bulk_l5 n a0 a1 k5 mm y8 y9 = some r ∧ t = mk 71 [(0, .pv (encSl (rSl R_api_Value) a0)), (1, aI a1), (5, aI y8), (6, aI y9)] ∧ H = [])) (⟨((sll a0).length : Int), 0, hm, rfl, rfl⟩) ?_ ?_
   · rintro _ _ ⟨y8, y9, hm, _⟩; exact nomatch hm
   rintro m10 _ _ ⟨y8, y9, hm, rfl, rfl⟩
   simp only [ref05_Bulk_l5] at hm
   refine sq (sq (rg (sh 2 [(17, .pv (encSl (rSl R_api_Value) a0)), (16, aI y9)] (by kernel_rfl) (dv 18 (v := aI ((sll a0).length : Int)) (len_slO (rSl R_api_Value) a0 t25 (by kernel_rfl)) (by kernel_rfl) (sh 1 [(19, aB (decide (y9 < ((sll a0).length : Int))))] (by kernel_rfl) (fin [(0, .pv (encSl (rSl R_api_Value) a0)), (1, aI a1), (5, aI y8), (6, aI y9), (19, aB (decide (y9 < ((sll a0).length : Int))))] rfl (by kernel_rfl) ?_))))))
   rcases bif_some hm with ⟨h11, hm⟩ | ⟨h11, hm⟩
   ·
    refine ct h11 (by kernel_rfl) (wp_skip ?_)
    obtain ⟨k15, hk15, hm⟩ := withK_some hm
    refine mid (fun t H => (∃ (y12 : Bool) (y13 : Int) (y14 : Int), k15 y13 = some r ∧ t = mk 71 [(0, .pv (encSl (rSl R_api_Value) a0)), (1, aI a1), (5, aI y13), (6, aI y9), (7, aI y14), (37, aB y12)] ∧ H = [])) ?_ ?_
    ·
     rintro _ _ ⟨y12, y13, y14, hm, rfl, rfl⟩
     subst hk15
     refine detn [(0, .pv (encSl (rSl R_api_Value) a0)), (1, aI a1), (5, aI y13), (6, aI (IntKind.wrap .i64 (y9 + 1)))] (by kernel_rfl) ?_
     exact ⟨_, _, tidyL [(0, .pv (encSl (rSl R_api_Value) a0)), (1, aI a1), (5, aI y13), (6, aI (IntKind.wrap .i64 (y9 + 1)))] [] (by kernel_rfl), ⟨y13, (IntKind.wrap .i64 (y9 + 1)), hm, rfl, rfl⟩⟩
    refine bq ?_
    refine sq (sq (rg (sh 2 [(23, aI y9), (22, .pv (encSl (rSl R_api_Value) a0))] (by kernel_rfl) ?_)))
    obtain ⟨x16, h17, hm⟩ := bs hm
    refine dv 24 (v := .pv (.ptr ((rSl R_api_Value) x16) 0)) (ia_slO (rSl R_api_Value) a0 .i64 t25 t22 h17 rfl (by kernel_rfl)) (by kernel_rfl) (sh 1 [(25, .pv (encSl R_api_Value x16))] (by kernel_rfl) (dv 26 (v := aI ((sll x16).length : Int)) (len_slO R_api_Value x16 t22 (by kernel_rfl)) (by kernel_rfl) (sh 2 [(28, aB (decide (((sll x16).length : Int) > a1))), (27, aI a1)] (by kernel_rfl) (fin [(0, .pv (encSl (rSl R_api_Value) a0)), (1, aI a1), (5, aI y8), (6, aI y9), (28, aB (decide (((sll x16).length : Int) > a1)))] rfl (by kernel_rfl) ?_))))
    rcases bif_some hm with ⟨h18, hm⟩ | ⟨h18, hm⟩
    ·
     refine ct h18 (by kernel_rfl) (sq (detn [(4, aI (IntKind.wrap .i64 (a1 + 1)))] (by kernel_rfl) (wp_ret ?_)))
     obtain rfl := Option.some.inj hm
     exact ⟨trivial, by kernel_rfl⟩
    ·
     refine cf h18 (by kernel_rfl) (wp_skip (sq (detn [(0, .pv (encSl (rSl R_api_Value) a0)), (1, aI a1), (5, aI y8), (6, aI y9), (7, aI 0)] (by kernel_rfl) (bq ?_))))
     refine loopF (fun mm t H => (∃ (y21 : Int) (y22 : Int), ref05_Bulk_l10 n a1 k15 x16 mm y21 y22 = some r ∧ t = mk 71 [(0, .pv (encSl (rSl R_api_Value) a0)), (1, aI a1), (5, aI y21), (6, aI y9), (7, aI y22)] ∧ H = [])) (⟨y8, 0, hm, rfl, rfl⟩) ?_ ?_
     · rintro _ _ ⟨y21, y22, hm, _⟩; exact nomatch hm
     rintro m23 _ _ ⟨y21, y22, hm, rfl, rfl⟩
     simp only [ref05_Bulk_l10] at hm
     refine sq (sq (rg (sh 3 [(33, aI y9), (32, .pv (encSl (rSl R_api_Value) a0)), (31, aI y22)] (by kernel_rfl) (dv 34 (v := .pv (.ptr ((rSl R_api_Value) x16) 0)) (ia_slO (rSl R_api_Value) a0 .i64 t25 t22 h17 rfl (by kernel_rfl)) (by kernel_rfl) (sh 1 [(35, .pv (encSl R_api_Value x16))] (by kernel_rfl) (dv 36 (v := aI ((sll x16).length : Int)) (len_slO R_api_Value x16 t22 (by kernel_rfl)) (by kernel_rfl) (sh 1 [(37, aB (decide (y22 < ((sll x16).length : Int))))] (by kernel_rfl) (fin [(0, .pv (encSl (rSl R_api_Value) a0)), (1, aI a1), (5, aI y21), (6, aI y9), (7, aI y22), (37, aB (decide (y22 < ((sll x16).length : Int))))] rfl (by kernel_rfl) ?_))))))))
     rcases bif_some hm with ⟨h24, hm⟩ | ⟨h24, hm⟩
     ·
      refine ct h24 (by kernel_rfl) (wp_skip (sq (bq ?_)))
      refine sq (sq (rg (sh 4 [(43, aB (decide (y21 > a1))), (42, aB (decide (y21 > a1))), (41, aI a1), (40, aI y21)] (by kernel_rfl) ?_)))
      rcases bif_some hm with ⟨h25, hm⟩ | ⟨h25, hm⟩
      ·
       refine known [43, 42] h25 (by kernel_rfl) (sh 12 [(55, aB true), (54, .undef), (53, .undef), (52, .undef), (51, .undef), (50, .undef), (49, .undef), (48, .undef), (47, .undef), (46, .undef), (45, .undef), (44, .undef)] (by kernel_rfl) (fin [(0, .pv (encSl (rSl R_api_Value) a0)), (1, aI a1), (5, aI y21), (6, aI y9), (7, aI y22), (55, aB true)] rfl (by kernel_rfl) (cT (by kernel_rfl) (sq (detn [(4, aI (IntKind.wrap .i64 (a1 + 1)))] (by kernel_rfl) (wp_ret ?_))))))
       obtain rfl := Option.some.inj hm
       exact ⟨trivial, by kernel_rfl⟩
      ·
       refine known [43, 42] h25 (by kernel_rfl) (sh 2 [(45, aI y9), (44, .pv (encSl (rSl R_api_Value) a0))] (by kernel_rfl) (dv 46 (v := .pv (.ptr ((rSl R_api_Value) x16) 0)) (ia_slO (rSl R_api_Value) a0 .i64 t25 t22 h17 rfl (by kernel_rfl)) (by kernel_rfl) (sh 2 [(48, aI y22), (47, .pv (encSl R_api_Value x16))] (by kernel_rfl) ?_)))
       obtain ⟨x26, h27, hm⟩ := bs hm
       refine dv 49 (v := .pv (.ptr (R_api_Value x26) 0)) (ia_slO R_api_Value x16 .i64 t22 t38 h27 rfl (by kernel_rfl)) (by kernel_rfl) (sh 6 [(55, aB (decide ((x26.fText.size : Int) > a1))), (54, aB (decide ((x26.fText.size : Int) > a1))), (53, aI a1), (52, aI (x26.fText.size : Int)), (51, aS x26.fText), (50, .pv (.ptr (R_api_Value x26) 3))] (by kernel_rfl) (fin [(0, .pv (encSl (rSl R_api_Value) a0)), (1, aI a1), (5, aI y21), (6, aI y9), (7, aI y22), (55, aB (decide ((x26.fText.size : Int) > a1)))] rfl (by kernel_rfl) ?_))
       rcases bif_some hm with ⟨h28, hm⟩ | ⟨h28, hm⟩
       ·
        refine ct h28 (by kernel_rfl) (sq (detn [(4, aI (IntKind.wrap .i64 (a1 + 1)))] (by kernel_rfl) (wp_ret ?_)))
        obtain rfl := Option.some.inj hm
        exact ⟨trivial, by kernel_rfl⟩
       ·
        refine cf h28 (by kernel_rfl) (wp_skip (rg (sh 4 [(61, aI y9), (60, .pv (encSl (rSl R_api_Value) a0)), (59, aI (IntKind.wrap .i64 (y21 + 1))), (58, aI y21)] (by kernel_rfl) (dv 62 (v := .pv (.ptr ((rSl R_api_Value) x16) 0)) (ia_slO (rSl R_api_Value) a0 .i64 t25 t22 h17 rfl (by kernel_rfl)) (by kernel_rfl) (sh 2 [(64, aI y22), (63, .pv (encSl R_api_Value x16))] (by kernel_rfl) (dv 65 (v := .pv (.ptr (R_api_Value x26) 0)) (ia_slO R_api_Value x16 .i64 t22 t38 h27 rfl (by kernel_rfl)) (by kernel_rfl) (sh 5 [(5, aI (IntKind.wrap .i64 ((IntKind.wrap .i64 (y21 + 1)) + (x26.fText.size : Int)))), (69, aI (IntKind.wrap .i64 ((IntKind.wrap .i64 (y21 + 1)) + (x26.fText.size : Int)))), (68, aI (x26.fText.size : Int)), (67, aS x26.fText), (66, .pv (.ptr (R_api_Value x26) 3))] (by kernel_rfl) (fin [(0, .pv (encSl (rSl R_api_Value) a0)), (1, aI a1), (5, aI (IntKind.wrap .i64 ((IntKind.wrap .i64 (y21 + 1)) + (x26.fText.size : Int)))), (6, aI y9), (7, aI y22)] rfl (by kernel_rfl) (detn [(0, .pv (encSl (rSl R_api_Value) a0)), (1, aI a1), (5, aI (IntKind.wrap .i64 ((IntKind.wrap .i64 (y21 + 1)) + (x26.fText.size : Int)))), (6, aI y9), (7, aI (IntKind.wrap .i64 (y22 + 1)))] (by kernel_rfl) ?_)))))))))
        exact ⟨_, _, tidyL [(0, .pv (encSl (rSl R_api_Value) a0)), (1, aI a1), (5, aI (IntKind.wrap .i64 ((IntKind.wrap .i64 (y21 + 1)) + (x26.fText.size : Int)))), (6, aI y9), (7, aI (IntKind.wrap .i64 (y22 + 1)))] [] (by kernel_rfl), ⟨(IntKind.wrap .i64 ((IntKind.wrap .i64 (y21 + 1)) + (x26.fText.size : Int))), (IntKind.wrap .i64 (y22 + 1)), hm, rfl, rfl⟩⟩
     ·
      refine cf h24 (by kernel_rfl) (wp_exit ?_)
      exact ⟨(decide (y22 < ((sll x16).length : Int))), y21, y22, hm, rfl, rfl⟩
   ·
    refine cf h11 (by kernel_rfl) (wp_exit ?_)
    exact ⟨(decide (y9 < ((sll a0).length : Int))), y8, y9, hm, rfl, rfl⟩
theorem ok_law05_great {n : Nat} {a0 : (Option (List (Option (List api_Value))))} {r : Bool} (hm : law05_great n a0 = some r) :
    call G n 9 [.pv (encSl (rSl R_api_Value) a0)] [] = some (.ret (aB r), []) := by
  unfold law05_great at hm
  obtain ⟨n, rfl, h0⟩ := at1_some hm
  replace hm := h0; clear h0
  refine callL 6 [(0, .pv (encSl (rSl R_api_Value) a0))] func9 rfl (by kernel_rfl) (sq (detn [(0, .pv (encSl (rSl R_api_Value) a0))] (by kernel_rfl) (sq (rg (sh 1 [(3, .pv (encSl (rSl R_api_Value) a0))] (by kernel_rfl) ?_)))))
  obtain ⟨x1, h2, hm⟩ := bs hm
  refine dv 4 (cpure (by kernel_rfl) (ok_ref05_Bulk h2) (by kernel_rfl) (by kernel_rfl) (by kernel_rfl)) (by kernel_rfl) (sh 2 [(2, aB (decide (x1 > 600))), (5, aB (decide (x1 > 600)))] (by kernel_rfl) (fin [(2, aB (decide (x1 > 600)))] rfl (by kernel_rfl) (wp_ret ?_)))
  obtain rfl := Option.some.inj hm
  exact ⟨trivial, by kernel_rfl⟩
theorem ok_math_Signbit {n : Nat} {a0 : Nat} {r : Bool} (hm : math_Signbit n a0 = some r) :
    call G n 57 [aF a0] [] = some (.ret (aB r), []) := by
  unfold math_Signbit at hm
  obtain ⟨n, rfl, h0⟩ := at1_some hm
  replace hm := h0; clear h0
  refine callL 7 [(0, aF a0)] func57 rfl (by kernel_rfl) (sq (detn [(0, aF a0)] (by kernel_rfl) (sq (rg (sh 1 [(3, aF a0)] (by kernel_rfl) (sh 1 [(4, aU (a0 : Int))] (by kernel_rfl) (sh 3 [(2, aB (decide ((IntKind.wrap .i64 (a0 : Int)) < 0))), (6, aB (decide ((IntKind.wrap .i64 (a0 : Int)) < 0))), (5, aI (IntKind.wrap .i64 (a0 : Int)))] (by kernel_rfl) (fin [(2, aB (decide ((IntKind.wrap .i64 (a0 : Int)) < 0)))] rfl (by kernel_rfl) (wp_ret ?_)))))))))
  obtain rfl := Option.some.inj hm
  exact ⟨trivial, by kernel_rfl⟩
theorem ok_value_Right {n : Nat} {a0 : api_Value} {r : Bool} (hm : value_Right n a0 = some r) :
    call G n 34 [.agg [aI a0.fKind, aI a0.fInt, aF a0.fFloat, aS a0.fText]] [] = some (.ret (aB r), []) := by
  unfold value_Right at hm
  obtain ⟨n, rfl, h0⟩ := at1_some hm
  replace hm := h0; clear h0
  refine callL 70 [(0, .agg [aI a0.fKind, aI a0.fInt, aF a0.fFloat, aS a0.fText])] func34 rfl (by kernel_rfl) (sq (det [(1, .ptr 0 0)] [.box [aI a0.fKind, aI a0.fInt, aF a0.fFloat, aS a0.fText] false] (by kernel_rfl) ?_))
  obtain ⟨k2, hk2, hm⟩ := withK_some hm
  refine mid (fun t H => (∃ (y1 : Bool), k2 y1 = some r ∧ t = mk 70 [(1, .ptr 0 0), (3, aB y1)] ∧ H = [.box [aI a0.fKind, aI a0.fInt, aF a0.fFloat, aS a0.fText] false])) ?_ ?_
  ·
   rintro _ _ ⟨y1, hm, rfl, rfl⟩
   subst hk2
   refine sq (sq (detn [(1, .ptr 0 0), (3, aB y1), (14, aI a0.fKind)] (by kernel_rfl) (bq ?_)))
   refine sq (bq ?_)
   refine sq (bq ?_)
   obtain ⟨k6, hk6, hm⟩ := withK_some hm
   refine mid (fun t H => (∃ (w3 : AV) (w4 : AV) (w5 : AV), k6 () = some r ∧ t = mk 70 [(1, .ptr 0 0), (3, aB y1), (14, w3), (19, w4), (43, w5)] ∧ H = [.box [aI a0.fKind, aI a0.fInt, aF a0.fFloat, aS a0.fText] false])) ?_ ?_
   ·
    rintro _ _ ⟨w3, w4, w5, hm, rfl, rfl⟩
    subst hk6
    refine sq (sq (rg (sh 2 [(45, aB y1), (44, aB y1)] (by kernel_rfl) ?_)))
    refine seg y1 [45, 44, 3] (fun b => [(49, aB (b && (sEq a0.fText ByteArray.empty))), (48, ifA b (aB (sEq a0.fText ByteArray.empty)) (.undef)), (47, ifA b (aS a0.fText) (.undef)), (46, ifA b (.ptr 0 3) (.undef))]) 6 (by kernel_rfl) ?_ ?_ ?_
    ·
     intro Q h
     refine sh 4 [(49, aB (sEq a0.fText ByteArray.empty)), (48, aB (sEq a0.fText ByteArray.empty)), (47, aS a0.fText), (46, .ptr 0 3)] (by kernel_rfl) ?_
     exact sameN (by kernel_rfl) (by kernel_rfl) h
    ·
     intro Q h
     refine sh 4 [(49, aB false), (48, .undef), (47, .undef), (46, .undef)] (by kernel_rfl) ?_
     exact sameN (by kernel_rfl) (by kernel_rfl) h
    refine sh 1 [(2, aB (y1 && (sEq a0.fText ByteArray.empty)))] (by kernel_rfl) (fin [(2, aB (y1 && (sEq a0.fText ByteArray.empty)))] rfl (by kernel_rfl) (wp_ret ?_))
    obtain rfl := Option.some.inj hm
    exact ⟨trivial, by kernel_rfl⟩
   refine bq ?_
   refine sq (bq ?_)
   refine sq (bq (sq ?_))
   refine sq (sq (detn [(1, .ptr 0 0), (3, aB y1), (14, aI a0.fKind), (15, aB (a0.fKind == 0))] (by kernel_rfl) ?_))
   rcases bif_some hm with ⟨h7, hm⟩ | ⟨h7, hm⟩
   ·
    refine ct h7 (by kernel_rfl) (wp_exit (sq (sq (rg (sh 4 [(28, aB (a0.fInt == 0)), (27, aB (a0.fInt == 0)), (26, aI a0.fInt), (25, .ptr 0 1)] (by kernel_rfl) ?_)))))
    refine seg (a0.fInt == 0) [28, 27] (fun b => [(30, aB (b && y1)), (29, ifA b (aB y1) (.undef))]) 6 (by kernel_rfl) ?_ ?_ ?_
    ·
     intro Q h
     refine sh 2 [(30, aB y1), (29, aB y1)] (by kernel_rfl) ?_
     exact sameN (by kernel_rfl) (by kernel_rfl) h
    ·
     intro Q h
     refine sh 2 [(30, aB false), (29, .undef)] (by kernel_rfl) ?_
     exact sameN (by kernel_rfl) (by kernel_rfl) h
    refine sh 1 [(31, aB ((a0.fInt == 0) && y1))] (by kernel_rfl) ?_
    refine seg ((a0.fInt == 0) && y1) [31, 30] (fun b => [(35, aB (b && (sEq a0.fText ByteArray.empty))), (34, ifA b (aB (sEq a0.fText ByteArray.empty)) (.undef)), (33, ifA b (aS a0.fText) (.undef)), (32, ifA b (.ptr 0 3) (.undef))]) 11 (by kernel_rfl) ?_ ?_ ?_
    ·
     intro Q h
     refine sh 4 [(35, aB (sEq a0.fText ByteArray.empty)), (34, aB (sEq a0.fText ByteArray.empty)), (33, aS a0.fText), (32, .ptr 0 3)] (by kernel_rfl) ?_
     exact sameN (by kernel_rfl) (by kernel_rfl) h
    ·
     intro Q h
     refine sh 4 [(35, aB false), (34, .undef), (33, .undef), (32, .undef)] (by kernel_rfl) ?_
     exact sameN (by kernel_rfl) (by kernel_rfl) h
    refine sh 1 [(2, aB (((a0.fInt == 0) && y1) && (sEq a0.fText ByteArray.empty)))] (by kernel_rfl) (fin [(2, aB (((a0.fInt == 0) && y1) && (sEq a0.fText ByteArray.empty)))] rfl (by kernel_rfl) (wp_ret ?_))
    obtain rfl := Option.some.inj hm
    exact ⟨trivial, by kernel_rfl⟩
   ·
    refine cf h7 (by kernel_rfl) (wp_skip (sq (sq (detn [(1, .ptr 0 0), (3, aB y1), (14, aI a0.fKind), (17, aB (a0.fKind == 1))] (by kernel_rfl) ?_))))
    rcases bif_some hm with ⟨h8, hm⟩ | ⟨h8, hm⟩
    ·
     refine ct h8 (by kernel_rfl) (wp_exit (sq (rg (sh 4 [(39, aB (a0.fInt != 0)), (38, aB (a0.fInt != 0)), (37, aI a0.fInt), (36, .ptr 0 1)] (by kernel_rfl) ?_))))
     refine seg (a0.fInt != 0) [39, 38] (fun b => [(43, aB (b && (a0.fInt != 1))), (42, ifA b (aB (a0.fInt != 1)) (.undef)), (41, ifA b (aI a0.fInt) (.undef)), (40, ifA b (.ptr 0 1) (.undef))]) 8 (by kernel_rfl) ?_ ?_ ?_
     ·
      intro Q h
      refine sh 4 [(43, aB (a0.fInt != 1)), (42, aB (a0.fInt != 1)), (41, aI a0.fInt), (40, .ptr 0 1)] (by kernel_rfl) ?_
      exact sameN (by kernel_rfl) (by kernel_rfl) h
     ·
      intro Q h
      refine sh 4 [(43, aB false), (42, .undef), (41, .undef), (40, .undef)] (by kernel_rfl) ?_
      exact sameN (by kernel_rfl) (by kernel_rfl) h
     refine fin [(1, .ptr 0 0), (3, aB y1), (43, aB ((a0.fInt != 0) && (a0.fInt != 1)))] rfl (by kernel_rfl) ?_
     rcases bif_some hm with ⟨h9, hm⟩ | ⟨h9, hm⟩
     ·
      refine ct h9 (by kernel_rfl) (sq (detn [(2, aB false)] (by kernel_rfl) (wp_ret ?_)))
      obtain rfl := Option.some.inj hm
      exact ⟨trivial, by kernel_rfl⟩
     ·
      refine cf h9 (by kernel_rfl) (wp_skip ?_)
      exact ⟨.any, .any, aB ((a0.fInt != 0) && (a0.fInt != 1)), hm, (mk_same (by kernel_rfl)), rfl⟩
    ·
     refine cf h8 (by kernel_rfl) (wp_skip (sq (sq (detn [(1, .ptr 0 0), (3, aB y1), (14, aI a0.fKind), (19, aB (a0.fKind == 2))] (by kernel_rfl) ?_))))
     rcases bif_some hm with ⟨h10, hm⟩ | ⟨h10, hm⟩
     ·
      refine ct h10 (by kernel_rfl) (wp_exit ?_)
      exact ⟨aI a0.fKind, aB (a0.fKind == 2), .any, hm, (mk_same (by kernel_rfl)), rfl⟩
     ·
      refine cf h10 (by kernel_rfl) (wp_skip (sq (sq (detn [(1, .ptr 0 0), (3, aB y1), (14, aI a0.fKind), (21, aB (a0.fKind == 3))] (by kernel_rfl) ?_))))
      rcases bif_some hm with ⟨h11, hm⟩ | ⟨h11, hm⟩
      ·
       refine ct h11 (by kernel_rfl) (wp_exit (sq (sq (rg (sh 4 [(53, aB (a0.fInt == 0)), (52, aB (a0.fInt == 0)), (51, aI a0.fInt), (50, .ptr 0 1)] (by kernel_rfl) ?_)))))
       refine seg (a0.fInt == 0) [53, 52] (fun b => [(57, aB (b && (sEq a0.fText ByteArray.empty))), (56, ifA b (aB (sEq a0.fText ByteArray.empty)) (.undef)), (55, ifA b (aS a0.fText) (.undef)), (54, ifA b (.ptr 0 3) (.undef))]) 8 (by kernel_rfl) ?_ ?_ ?_
       ·
        intro Q h
        refine sh 4 [(57, aB (sEq a0.fText ByteArray.empty)), (56, aB (sEq a0.fText ByteArray.empty)), (55, aS a0.fText), (54, .ptr 0 3)] (by kernel_rfl) ?_
        exact sameN (by kernel_rfl) (by kernel_rfl) h
       ·
        intro Q h
        refine sh 4 [(57, aB false), (56, .undef), (55, .undef), (54, .undef)] (by kernel_rfl) ?_
        exact sameN (by kernel_rfl) (by kernel_rfl) h
       refine sh 1 [(2, aB ((a0.fInt == 0) && (sEq a0.fText ByteArray.empty)))] (by kernel_rfl) (fin [(2, aB ((a0.fInt == 0) && (sEq a0.fText ByteArray.empty)))] rfl (by kernel_rfl) (wp_ret ?_))
       obtain rfl := Option.some.inj hm
       exact ⟨trivial, by kernel_rfl⟩
      ·
       refine cf h11 (by kernel_rfl) (wp_skip (sq (detn [(1, .ptr 0 0), (3, aB y1), (23, aB (a0.fKind == 4))] (by kernel_rfl) ?_)))
       rcases bif_some hm with ⟨h12, hm⟩ | ⟨h12, hm⟩
       ·
        refine ct h12 (by kernel_rfl) (wp_exit (sq (sq (rg (sh 4 [(61, aB (a0.fInt == 0)), (60, aB (a0.fInt == 0)), (59, aI a0.fInt), (58, .ptr 0 1)] (by kernel_rfl) ?_)))))
        refine seg (a0.fInt == 0) [61, 60] (fun b => [(63, aB (b && y1)), (62, ifA b (aB y1) (.undef))]) 6 (by kernel_rfl) ?_ ?_ ?_
        ·
         intro Q h
         refine sh 2 [(63, aB y1), (62, aB y1)] (by kernel_rfl) ?_
         exact sameN (by kernel_rfl) (by kernel_rfl) h
        ·
         intro Q h
         refine sh 2 [(63, aB false), (62, .undef)] (by kernel_rfl) ?_
         exact sameN (by kernel_rfl) (by kernel_rfl) h
        refine sh 1 [(64, aB ((a0.fInt == 0) && y1))] (by kernel_rfl) ?_
        refine seg ((a0.fInt == 0) && y1) [64, 63] (fun b => [(69, aB (b && (decide ((a0.fText.size : Int) ≤ 64)))), (68, ifA b (aB (decide ((a0.fText.size : Int) ≤ 64))) (.undef)), (67, ifA b (aI (a0.fText.size : Int)) (.undef)), (66, ifA b (aS a0.fText) (.undef)), (65, ifA b (.ptr 0 3) (.undef))]) 12 (by kernel_rfl) ?_ ?_ ?_
        ·
         intro Q h
         refine sh 5 [(69, aB (decide ((a0.fText.size : Int) ≤ 64))), (68, aB (decide ((a0.fText.size : Int) ≤ 64))), (67, aI (a0.fText.size : Int)), (66, aS a0.fText), (65, .ptr 0 3)] (by kernel_rfl) ?_
         exact sameN (by kernel_rfl) (by kernel_rfl) h
        ·
         intro Q h
         refine sh 5 [(69, aB false), (68, .undef), (67, .undef), (66, .undef), (65, .undef)] (by kernel_rfl) ?_
         exact sameN (by kernel_rfl) (by kernel_rfl) h
        refine sh 1 [(2, aB (((a0.fInt == 0) && y1) && (decide ((a0.fText.size : Int) ≤ 64))))] (by kernel_rfl) (fin [(2, aB (((a0.fInt == 0) && y1) && (decide ((a0.fText.size : Int) ≤ 64))))] rfl (by kernel_rfl) (wp_ret ?_))
        obtain rfl := Option.some.inj hm
        exact ⟨trivial, by kernel_rfl⟩
       ·
        refine cf h12 (by kernel_rfl) (wp_skip (wp_exit (sq (detn [(2, aB false)] (by kernel_rfl) (wp_ret ?_)))))
        obtain rfl := Option.some.inj hm
        exact ⟨trivial, by kernel_rfl⟩
  refine rg (sh 4 [(7, aB ((FloatKind.format .f64).order a0.fFloat 0 == some .eq)), (6, aB ((FloatKind.format .f64).order a0.fFloat 0 == some .eq)), (5, aF a0.fFloat), (4, .ptr 0 2)] (by kernel_rfl) ?_)
  rcases bif_some hm with ⟨h13, hm⟩ | ⟨h13, hm⟩
  ·
   refine known [7, 6] h13 (by kernel_rfl) (sh 2 [(9, aF a0.fFloat), (8, .ptr 0 2)] (by kernel_rfl) ?_)
   obtain ⟨x14, h15, hm⟩ := bs hm
   refine dv 10 (cpure (by kernel_rfl) (ok_math_Signbit h15) (by kernel_rfl) (by kernel_rfl) (by kernel_rfl)) (by kernel_rfl) (sh 3 [(3, aB (!x14)), (12, aB (!x14)), (11, aB (!x14))] (by kernel_rfl) (fin [(1, .ptr 0 0), (3, aB (!x14))] rfl (by kernel_rfl) ?_))
   exact ⟨(!x14), hm, rfl, rfl⟩
  ·
   refine known [7, 6] h13 (by kernel_rfl) (sh 6 [(3, aB false), (12, aB false), (11, .undef), (10, .undef), (9, .undef), (8, .undef)] (by kernel_rfl) (fin [(1, .ptr 0 0), (3, aB false)] rfl (by kernel_rfl) ?_))
   exact ⟨false, hm, rfl, rfl⟩
theorem ok_row_Right_1 {n : Nat} {a0 : api_Value} {r : Bool} (hm : row_Right_1 n a0 = some r) :
    call G n 33 [.agg [aI a0.fKind, aI a0.fInt, aF a0.fFloat, aS a0.fText]] [] = some (.ret (aB r), []) := by
  unfold row_Right_1 at hm
  obtain ⟨n, rfl, h0⟩ := at1_some hm
  replace hm := h0; clear h0
  refine callL 6 [(0, .agg [aI a0.fKind, aI a0.fInt, aF a0.fFloat, aS a0.fText])] func33 rfl (by kernel_rfl) (sq (det [(1, .ptr 0 0)] [.box [aI a0.fKind, aI a0.fInt, aF a0.fFloat, aS a0.fText] false] (by kernel_rfl) (sq (rg (sh 1 [(3, .agg [aI a0.fKind, aI a0.fInt, aF a0.fFloat, aS a0.fText])] (by kernel_rfl) ?_)))))
  obtain ⟨x1, h2, hm⟩ := bs hm
  refine dv 4 (cpure (by kernel_rfl) (ok_value_Right h2) (by kernel_rfl) (by kernel_rfl) (by kernel_rfl)) (by kernel_rfl) (sh 2 [(2, aB (!x1)), (5, aB (!x1))] (by kernel_rfl) (fin [(2, aB (!x1))] rfl (by kernel_rfl) (wp_ret ?_)))
  obtain rfl := Option.some.inj hm
  exact ⟨trivial, by kernel_rfl⟩
theorem ok_slices_IndexFunc_Value_row_Right_1 {n : Nat} {a0 : (Option (List api_Value))} {r : Int} (hm : slices_IndexFunc_Value_row_Right_1 n a0 = some r) :
    call G n 56 [.pv (encSl R_api_Value a0), .pv (.fn 33 [] [])] [] = some (.ret (aI r), []) := by
  unfold slices_IndexFunc_Value_row_Right_1 at hm
  obtain ⟨n, rfl, h0⟩ := at1_some hm
  replace hm := h0; clear h0
  refine callL 19 [(0, .pv (encSl R_api_Value a0)), (1, .pv (.fn 33 [] []))] func56 rfl (by kernel_rfl) (sq (detn [(0, .pv (encSl R_api_Value a0)), (1, .pv (.fn 33 [] []))] (by kernel_rfl) ?_))
  obtain ⟨k3, hk3, hm⟩ := withK_some hm
  refine mid (fun t H => (∃ (y1 : Int) (y2 : Bool), k3 () = some r ∧ t = mk 19 [(0, .pv (encSl R_api_Value a0)), (1, .pv (.fn 33 [] [])), (7, aI ((sll a0).length : Int)), (8, aI y1), (9, aB y2)] ∧ H = [])) ?_ ?_
  ·
   rintro _ _ ⟨y1, y2, hm, rfl, rfl⟩
   subst hk3
   refine sq (detn [(4, aI (-1))] (by kernel_rfl) (wp_ret ?_))
   obtain rfl := Option.some.inj hm
   exact ⟨trivial, by kernel_rfl⟩
  refine sq (rg (sh 1 [(6, .pv (encSl R_api_Value a0))] (by kernel_rfl) (dv 7 (v := aI ((sll a0).length : Int)) (len_slO R_api_Value a0 t22 (by kernel_rfl)) (by kernel_rfl) (sh 1 [(8, aI 0)] (by kernel_rfl) (fin [(0, .pv (encSl R_api_Value a0)), (1, .pv (.fn 33 [] [])), (7, aI ((sll a0).length : Int)), (8, aI 0)] rfl (by kernel_rfl) (bq ?_))))))
  refine loopF (fun mm t H => (∃ (y5 : Int), slices_IndexFunc_Value_row_Right_1_l2 n a0 k3 mm y5 = some r ∧ t = mk 19 [(0, .pv (encSl R_api_Value a0)), (1, .pv (.fn 33 [] [])), (7, aI ((sll a0).length : Int)), (8, aI y5)] ∧ H = [])) (⟨0, hm, rfl, rfl⟩) ?_ ?_
  · rintro _ _ ⟨y5, hm, _⟩; exact nomatch hm
  rintro m6 _ _ ⟨y5, hm, rfl, rfl⟩
  simp only [slices_IndexFunc_Value_row_Right_1_l2] at hm
  refine sq (detn [(0, .pv (encSl R_api_Value a0)), (1, .pv (.fn 33 [] [])), (7, aI ((sll a0).length : Int)), (8, aI y5), (9, aB (decide (y5 < ((sll a0).length : Int))))] (by kernel_rfl) ?_)
  refine sq ?_
  rcases bif_some hm with ⟨h7, hm⟩ | ⟨h7, hm⟩
  ·
   refine ct h7 (by kernel_rfl) (wp_skip (sq (bq (sq (detn [(0, .pv (encSl R_api_Value a0)), (1, .pv (.fn 33 [] [])), (5, aI y5), (7, aI ((sll a0).length : Int)), (8, aI y5)] (by kernel_rfl) (sq (rg (sh 3 [(13, aI y5), (12, .pv (encSl R_api_Value a0)), (11, .pv (.fn 33 [] []))] (by kernel_rfl) ?_))))))))
   obtain ⟨x8, h9, hm⟩ := bs hm
   refine dv 14 (v := .pv (.ptr (R_api_Value x8) 0)) (ia_slO R_api_Value a0 .i64 t22 t38 h9 rfl (by kernel_rfl)) (by kernel_rfl) (sh 1 [(15, .agg [aI x8.fKind, aI x8.fInt, aF x8.fFloat, aS x8.fText])] (by kernel_rfl) ?_)
   obtain ⟨x10, h11, hm⟩ := bs hm
   refine dv 16 (cpure (by kernel_rfl) (ok_row_Right_1 h11) (by kernel_rfl) (by kernel_rfl) (by kernel_rfl)) (by kernel_rfl) (fin [(0, .pv (encSl R_api_Value a0)), (1, .pv (.fn 33 [] [])), (5, aI y5), (7, aI ((sll a0).length : Int)), (8, aI y5), (16, aB x10)] rfl (by kernel_rfl) ?_)
   rcases bif_some hm with ⟨h12, hm⟩ | ⟨h12, hm⟩
   ·
    refine ct h12 (by kernel_rfl) (sq (detn [(4, aI y5)] (by kernel_rfl) (wp_ret ?_)))
    obtain rfl := Option.some.inj hm
    exact ⟨trivial, by kernel_rfl⟩
   ·
    refine cf h12 (by kernel_rfl) (wp_skip (detn [(0, .pv (encSl R_api_Value a0)), (1, .pv (.fn 33 [] [])), (7, aI ((sll a0).length : Int)), (8, aI (IntKind.wrap .i64 (y5 + 1)))] (by kernel_rfl) ?_))
    exact ⟨_, _, tidyL [(0, .pv (encSl R_api_Value a0)), (1, .pv (.fn 33 [] [])), (7, aI ((sll a0).length : Int)), (8, aI (IntKind.wrap .i64 (y5 + 1)))] [] (by kernel_rfl), ⟨(IntKind.wrap .i64 (y5 + 1)), hm, rfl, rfl⟩⟩
  ·
   refine cf h7 (by kernel_rfl) (wp_exit ?_)
   exact ⟨y5, (decide (y5 < ((sll a0).length : Int))), hm, rfl, rfl⟩
theorem ok_slices_ContainsFunc_Value_row_Right_1 {n : Nat} {a0 : (Option (List api_Value))} {r : Bool} (hm : slices_ContainsFunc_Value_row_Right_1 n a0 = some r) :
    call G n 32 [.pv (encSl R_api_Value a0), .pv (.fn 33 [] [])] [] = some (.ret (aB r), []) := by
  unfold slices_ContainsFunc_Value_row_Right_1 at hm
  obtain ⟨n, rfl, h0⟩ := at1_some hm
  replace hm := h0; clear h0
  refine callL 9 [(0, .pv (encSl R_api_Value a0)), (1, .pv (.fn 33 [] []))] func32 rfl (by kernel_rfl) (sq (detn [(0, .pv (encSl R_api_Value a0)), (1, .pv (.fn 33 [] []))] (by kernel_rfl) (sq (rg (sh 2 [(6, .pv (.fn 33 [] [])), (5, .pv (encSl R_api_Value a0))] (by kernel_rfl) ?_)))))
  obtain ⟨x1, h2, hm⟩ := bs hm
  refine dv 7 (cpure (by kernel_rfl) (ok_slices_IndexFunc_Value_row_Right_1 h2) (by kernel_rfl) (by kernel_rfl) (by kernel_rfl)) (by kernel_rfl) (sh 2 [(4, aB (decide (x1 ≥ 0))), (8, aB (decide (x1 ≥ 0)))] (by kernel_rfl) (fin [(4, aB (decide (x1 ≥ 0)))] rfl (by kernel_rfl) (wp_ret ?_)))
  obtain rfl := Option.some.inj hm
  exact ⟨trivial, by kernel_rfl⟩
theorem ok_row_Right {n : Nat} {a0 : (Option (List api_Value))} {r : Bool} (hm : row_Right n a0 = some r) :
    call G n 10 [.pv (encSl R_api_Value a0)] [] = some (.ret (aB r), []) := by
  unfold row_Right at hm
  obtain ⟨n, rfl, h0⟩ := at1_some hm
  replace hm := h0; clear h0
  refine callL 11 [(0, .pv (encSl R_api_Value a0))] func10 rfl (by kernel_rfl) (sq (detn [(0, .pv (encSl R_api_Value a0))] (by kernel_rfl) (sq (rg (sh 1 [(3, .pv (encSl R_api_Value a0))] (by kernel_rfl) (dv 4 (v := aI ((sll a0).length : Int)) (len_slO R_api_Value a0 t22 (by kernel_rfl)) (by kernel_rfl) (sh 2 [(6, aB (decide (((sll a0).length : Int) ≤ 200))), (5, aB (decide (((sll a0).length : Int) ≤ 200)))] (by kernel_rfl) ?_)))))))
  rcases bif_some hm with ⟨h1, hm⟩ | ⟨h1, hm⟩
  ·
   refine known [6, 5] h1 (by kernel_rfl) (sh 1 [(7, .pv (encSl R_api_Value a0))] (by kernel_rfl) ?_)
   obtain ⟨x2, h3, hm⟩ := bs hm
   refine dv 8 (cpure (by kernel_rfl) (ok_slices_ContainsFunc_Value_row_Right_1 h3) (by kernel_rfl) (by kernel_rfl) (by kernel_rfl)) (by kernel_rfl) (sh 3 [(2, aB (!x2)), (10, aB (!x2)), (9, aB (!x2))] (by kernel_rfl) (fin [(2, aB (!x2))] rfl (by kernel_rfl) (wp_ret ?_)))
   obtain rfl := Option.some.inj hm
   exact ⟨trivial, by kernel_rfl⟩
  ·
   refine known [6, 5] h1 (by kernel_rfl) (sh 5 [(2, aB false), (10, aB false), (9, .undef), (8, .undef), (7, .undef)] (by kernel_rfl) (fin [(2, aB false)] rfl (by kernel_rfl) (wp_ret ?_)))
   obtain rfl := Option.some.inj hm
   exact ⟨trivial, by kernel_rfl⟩
theorem ok_codec_PutUint_nil {n : Nat} {a0 : Int} {r : (List Int)} (hm : codec_PutUint_nil n a0 = some r) :
    ∃ vv H1, call G n 50 [.pv .nils, aU a0] [] = some (.ret vv, H1) ∧ (match r with | r0 => (vv = aR 0 1 r0.length ∧ H1 = [bR 5 1 (rI .u8) r0 0 0])) := by
  unfold codec_PutUint_nil at hm
  obtain ⟨n, rfl, h0⟩ := at1_some hm
  replace hm := h0; clear h0
  refine callE 20 [(0, .pv .nils), (1, aU a0)] func50 rfl (by kernel_rfl) (sq (detn [(0, .pv .nils), (1, aU a0)] (by kernel_rfl) ?_))
  obtain ⟨k4, hk4, hm⟩ := withK_some hm
  refine mid (fun t H => (∃ (y2 : Int) (y3 : Bool), k4 none y2 = some r ∧ t = mk 20 [(0, .pv .nils), (1, aU y2), (6, aB y3)] ∧ H = []) ∨ (∃ (y1 : (List Int)) (y2 : Int) (y3 : Bool), k4 (some y1) y2 = some r ∧ t = mk 20 [(0, aR 0 1 y1.length), (1, aU y2), (6, aB y3)] ∧ H = [bR 5 1 (rI .u8) y1 0 0])) ?_ ?_
  ·
   rintro _ _ (⟨y2, y3, hm, rfl, rfl⟩ | ⟨y1, y2, y3, hm, rfl, rfl⟩)
   ·
    subst hk4
    refine sq (rg (st 4 [(18, aR 0 1 1), (17, aY (IntKind.wrap .u8 y2)), (16, aU y2), (15, .pv .nils)] [bR 5 1 (rI .u8) ([(IntKind.wrap .u8 y2)] : List Int) 0 0] (by kernel_rfl) ?_))
    obtain ⟨_, h5, hm⟩ := bs hm
    refine dO [(19, aR 1 1 (([(IntKind.wrap .u8 y2)] : List Int).length))] [bR 5 1 (rI .u8) ([(IntKind.wrap .u8 y2)] : List Int) 0 0, bR 5 1 (rI .u8) ([(IntKind.wrap .u8 y2)] : List Int) 0 0] (app_nilO (u := 0) (rI .u8) ([(IntKind.wrap .u8 y2)] : List Int) (b := 1) t39 t5 rfl rfl rfl (fun _ => rfl) rfl h5 (show srcRows (aR 0 1 1) _ = some (([(IntKind.wrap .u8 y2)] : List Int).map (rI .u8)) from by kernel_rfl) (by kernel_rfl)) (by kernel_rfl) (sh 1 [(4, aR 1 1 (([(IntKind.wrap .u8 y2)] : List Int).length))] (by kernel_rfl) (fin [(4, aR 1 1 (([(IntKind.wrap .u8 y2)] : List Int).length))] rfl (by kernel_rfl) (wp_ret ?_)))
    obtain rfl := Option.some.inj hm
    exact ⟨trivial, aR 0 1 (([(IntKind.wrap .u8 y2)] : List Int).length), [bR 5 1 (rI .u8) ([(IntKind.wrap .u8 y2)] : List Int) 0 0], by kernel_rfl, rfl, rfl⟩
   ·
    subst hk4
    refine sq (rg (st 4 [(18, aR 1 1 1), (17, aY (IntKind.wrap .u8 y2)), (16, aU y2), (15, aR 0 1 y1.length)] [bR 5 1 (rI .u8) y1 0 0, bR 5 1 (rI .u8) ([(IntKind.wrap .u8 y2)] : List Int) 0 0] (by kernel_rfl) ?_))
    obtain ⟨_, h6, hm⟩ := bs hm
    refine dO [(19, aR 0 1 ((y1 ++ ([(IntKind.wrap .u8 y2)] : List Int)).length))] [bR 5 1 (rI .u8) (y1 ++ ([(IntKind.wrap .u8 y2)] : List Int)) 0 0, bR 5 1 (rI .u8) ([(IntKind.wrap .u8 y2)] : List Int) 0 0] (app_refO (u := 0) (n := y1.length) (id := 0) (rI .u8) y1 ([(IntKind.wrap .u8 y2)] : List Int) (b := 1) t39 t5 rfl rfl rfl (fun _ => rfl) rfl h6 rfl rfl (Nat.zero_le _) (show srcRows (aR 1 1 1) _ = some (([(IntKind.wrap .u8 y2)] : List Int).map (rI .u8)) from by kernel_rfl) (by kernel_rfl)) (by kernel_rfl) (sh 1 [(4, aR 0 1 ((y1 ++ ([(IntKind.wrap .u8 y2)] : List Int)).length))] (by kernel_rfl) (fin [(4, aR 0 1 ((y1 ++ ([(IntKind.wrap .u8 y2)] : List Int)).length))] rfl (by kernel_rfl) (wp_ret ?_)))
    obtain rfl := Option.some.inj hm
    exact ⟨trivial, aR 0 1 ((y1 ++ ([(IntKind.wrap .u8 y2)] : List Int)).length), [bR 5 1 (rI .u8) (y1 ++ ([(IntKind.wrap .u8 y2)] : List Int)) 0 0], by kernel_rfl, rfl, rfl⟩
  refine bq ?_
  refine loopF (fun mm t H => (∃ (y12 : Int), codec_PutUint_nil_l1 n k4 mm none y12 = some r ∧ t = mk 20 [(0, .pv .nils), (1, aU y12)] ∧ H = []) ∨ (∃ (y11 : (List Int)) (y12 : Int), codec_PutUint_nil_l1 n k4 mm (some y11) y12 = some r ∧ t = mk 20 [(0, aR 0 1 y11.length), (1, aU y12)] ∧ H = [bR 5 1 (rI .u8) y11 0 0])) (.inl ⟨a0, hm, rfl, rfl⟩) ?_ ?_
  · rintro _ _ (⟨y12, hm, _⟩ | ⟨y11, y12, hm, _⟩) <;> exact nomatch hm
  rintro m13 _ _ (⟨y12, hm, rfl, rfl⟩ | ⟨y11, y12, hm, rfl, rfl⟩)
  ·
   simp only [codec_PutUint_nil_l1] at hm
   refine sq (sq (detn [(0, .pv .nils), (1, aU y12), (6, aB (decide (y12 ≥ 128)))] (by kernel_rfl) ?_))
   rcases bif_some hm with ⟨h14, hm⟩ | ⟨h14, hm⟩
   ·
    refine ct h14 (by kernel_rfl) (wp_skip (bq (sq (rg (st 5 [(11, aR 0 1 1), (10, aY (iOr .u8 (IntKind.wrap .u8 y12) 128)), (9, aY (IntKind.wrap .u8 y12)), (8, aU y12), (7, .pv .nils)] [bR 5 1 (rI .u8) ([(iOr .u8 (IntKind.wrap .u8 y12) 128)] : List Int) 0 0] (by kernel_rfl) ?_)))))
    obtain ⟨_, h15, hm⟩ := bs hm
    refine dO [(12, aR 1 1 (([(iOr .u8 (IntKind.wrap .u8 y12) 128)] : List Int).length))] [bR 5 1 (rI .u8) ([(iOr .u8 (IntKind.wrap .u8 y12) 128)] : List Int) 0 0, bR 5 1 (rI .u8) ([(iOr .u8 (IntKind.wrap .u8 y12) 128)] : List Int) 0 0] (app_nilO (u := 0) (rI .u8) ([(iOr .u8 (IntKind.wrap .u8 y12) 128)] : List Int) (b := 1) t39 t5 rfl rfl rfl (fun _ => rfl) rfl h15 (show srcRows (aR 0 1 1) _ = some (([(iOr .u8 (IntKind.wrap .u8 y12) 128)] : List Int).map (rI .u8)) from by kernel_rfl) (by kernel_rfl)) (by kernel_rfl) (sh 1 [(0, aR 1 1 (([(iOr .u8 (IntKind.wrap .u8 y12) 128)] : List Int).length))] (by kernel_rfl) (fin [(0, aR 1 1 (([(iOr .u8 (IntKind.wrap .u8 y12) 128)] : List Int).length)), (1, aU y12)] rfl (by kernel_rfl) (detn [(0, aR 1 1 (([(iOr .u8 (IntKind.wrap .u8 y12) 128)] : List Int).length)), (1, aU (iShr .u64 y12 7))] (by kernel_rfl) ?_)))
    exact ⟨_, _, tidyL [(0, aR 0 1 (([(iOr .u8 (IntKind.wrap .u8 y12) 128)] : List Int).length)), (1, aU (iShr .u64 y12 7))] [bR 5 1 (rI .u8) ([(iOr .u8 (IntKind.wrap .u8 y12) 128)] : List Int) 0 0] (by kernel_rfl), .inr (⟨([(iOr .u8 (IntKind.wrap .u8 y12) 128)] : List Int), (iShr .u64 y12 7), hm, rfl, rfl⟩)⟩
   ·
    refine cf h14 (by kernel_rfl) (wp_exit ?_)
    exact .inl ⟨y12, (decide (y12 ≥ 128)), hm, rfl, rfl⟩
  ·
   simp only [codec_PutUint_nil_l1] at hm
   refine sq (sq (detn [(0, aR 0 1 y11.length), (1, aU y12), (6, aB (decide (y12 ≥ 128)))] (by kernel_rfl) ?_))
   rcases bif_some hm with ⟨h16, hm⟩ | ⟨h16, hm⟩
   ·
    refine ct h16 (by kernel_rfl) (wp_skip (bq (sq (rg (st 5 [(11, aR 1 1 1), (10, aY (iOr .u8 (IntKind.wrap .u8 y12) 128)), (9, aY (IntKind.wrap .u8 y12)), (8, aU y12), (7, aR 0 1 y11.length)] [bR 5 1 (rI .u8) y11 0 0, bR 5 1 (rI .u8) ([(iOr .u8 (IntKind.wrap .u8 y12) 128)] : List Int) 0 0] (by kernel_rfl) ?_)))))
    obtain ⟨_, h17, hm⟩ := bs hm
    refine dO [(12, aR 0 1 ((y11 ++ ([(iOr .u8 (IntKind.wrap .u8 y12) 128)] : List Int)).length))] [bR 5 1 (rI .u8) (y11 ++ ([(iOr .u8 (IntKind.wrap .u8 y12) 128)] : List Int)) 0 0, bR 5 1 (rI .u8) ([(iOr .u8 (IntKind.wrap .u8 y12) 128)] : List Int) 0 0] (app_refO (u := 0) (n := y11.length) (id := 0) (rI .u8) y11 ([(iOr .u8 (IntKind.wrap .u8 y12) 128)] : List Int) (b := 1) t39 t5 rfl rfl rfl (fun _ => rfl) rfl h17 rfl rfl (Nat.zero_le _) (show srcRows (aR 1 1 1) _ = some (([(iOr .u8 (IntKind.wrap .u8 y12) 128)] : List Int).map (rI .u8)) from by kernel_rfl) (by kernel_rfl)) (by kernel_rfl) (sh 1 [(0, aR 0 1 ((y11 ++ ([(iOr .u8 (IntKind.wrap .u8 y12) 128)] : List Int)).length))] (by kernel_rfl) (fin [(0, aR 0 1 ((y11 ++ ([(iOr .u8 (IntKind.wrap .u8 y12) 128)] : List Int)).length)), (1, aU y12)] rfl (by kernel_rfl) (detn [(0, aR 0 1 ((y11 ++ ([(iOr .u8 (IntKind.wrap .u8 y12) 128)] : List Int)).length)), (1, aU (iShr .u64 y12 7))] (by kernel_rfl) ?_)))
    exact ⟨_, _, tidyL [(0, aR 0 1 ((y11 ++ ([(iOr .u8 (IntKind.wrap .u8 y12) 128)] : List Int)).length)), (1, aU (iShr .u64 y12 7))] [bR 5 1 (rI .u8) (y11 ++ ([(iOr .u8 (IntKind.wrap .u8 y12) 128)] : List Int)) 0 0] (by kernel_rfl), .inr (⟨(y11 ++ ([(iOr .u8 (IntKind.wrap .u8 y12) 128)] : List Int)), (iShr .u64 y12 7), hm, rfl, rfl⟩)⟩
   ·
    refine cf h16 (by kernel_rfl) (wp_exit ?_)
    exact .inr (⟨y11, y12, (decide (y12 ≥ 128)), hm, rfl, rfl⟩)
theorem ok_math_IsNaN {n : Nat} {a0 : Nat} {r : Bool} (hm : math_IsNaN n a0 = some r) :
    call G n 81 [aF a0] [] = some (.ret (aB r), []) := by
  unfold math_IsNaN at hm
  obtain ⟨n, rfl, h0⟩ := at1_some hm
  replace hm := h0; clear h0
  refine callL 6 [(0, aF a0)] func81 rfl (by kernel_rfl) (sq (detn [(0, aF a0)] (by kernel_rfl) (sq (detn [(2, aB ((FloatKind.format .f64).order a0 a0 != some .eq))] (by kernel_rfl) (wp_ret ?_)))))
  obtain rfl := Option.some.inj hm
  exact ⟨trivial, by kernel_rfl⟩
theorem ok_value_Plain {n : Nat} {a0 : api_Value} {r : api_Value} (hm : value_Plain n a0 = some r) :
    call G n 60 [.agg [aI a0.fKind, aI a0.fInt, aF a0.fFloat, aS a0.fText]] [] = some (.ret (.agg [aI r.fKind, aI r.fInt, aF r.fFloat, aS r.fText]), []) := by
  unfold value_Plain at hm
  obtain ⟨n, rfl, h0⟩ := at1_some hm
  replace hm := h0; clear h0
  refine callL 30 [(0, .agg [aI a0.fKind, aI a0.fInt, aF a0.fFloat, aS a0.fText])] func60 rfl (by kernel_rfl) (sq (det [(1, .ptr 0 0), (2, .ptr 1 0)] [.box [aI a0.fKind, aI a0.fInt, aF a0.fFloat, aS a0.fText] false, .box [aI 0, aI 0, aF 0, aS ByteArray.empty] false] (by kernel_rfl) (sq (bq (sq (rg (sh 1 [(4, .agg [aI a0.fKind, aI a0.fInt, aF a0.fFloat, aS a0.fText])] (by kernel_rfl) ?_)))))))
  obtain ⟨x1, h2, hm⟩ := bs hm
  refine dv 5 (cpure (by kernel_rfl) (ok_value_Right h2) (by kernel_rfl) (by kernel_rfl) (by kernel_rfl)) (by kernel_rfl) (sh 2 [(3, aB (!x1)), (6, aB (!x1))] (by kernel_rfl) (fin [(1, .ptr 0 0), (2, .ptr 1 0), (3, aB (!x1))] rfl (by kernel_rfl) ?_))
  rcases bif_some hm with ⟨h3, hm⟩ | ⟨h3, hm⟩
  ·
   refine ct h3 (by kernel_rfl) (sq (detn [(2, .ptr 1 0)] (by kernel_rfl) (wp_ret ?_)))
   obtain rfl := Option.some.inj hm
   exact ⟨trivial, by kernel_rfl⟩
  ·
   refine cf h3 (by kernel_rfl) ?_
   obtain ⟨k5, hk5, hm⟩ := withK_some hm
   refine mid (fun t H => (∃ (y4 : Bool), k5 y4 = some r ∧ t = mk 30 [(1, .ptr 0 0), (2, .ptr 1 0), (8, aB y4)] ∧ H = [.box [aI a0.fKind, aI a0.fInt, aF a0.fFloat, aS a0.fText] false, .box [aI 0, aI 0, aF 0, aS ByteArray.empty] false])) ?_ ?_
   ·
    rintro _ _ ⟨y4, hm, rfl, rfl⟩
    subst hk5
    rcases bif_some hm with ⟨h6, hm⟩ | ⟨h6, hm⟩
    ·
     refine ct h6 (by kernel_rfl) (rg (sh 1 [(17, aF (Int.toNat 9221120237041090561))] (by kernel_rfl) (st 2 [(18, .ptr 0 2)] [.box [aI a0.fKind, aI a0.fInt, aF (Int.toNat 9221120237041090561), aS a0.fText] false, .box [aI 0, aI 0, aF 0, aS ByteArray.empty] false] (by kernel_rfl) (fin [(1, .ptr 0 0), (2, .ptr 1 0)] rfl (by kernel_rfl) (sq (det [(2, .ptr 1 0)] [.box [aI a0.fKind, aI a0.fInt, aF (Int.toNat 9221120237041090561), aS a0.fText] false, .box [aI a0.fKind, aI a0.fInt, aF (Int.toNat 9221120237041090561), aS a0.fText] false] (by kernel_rfl) (wp_ret ?_)))))))
     obtain rfl := Option.some.inj hm
     exact ⟨trivial, by kernel_rfl⟩
    ·
     refine cf h6 (by kernel_rfl) (sq (rg (sh 4 [(23, aB (a0.fKind == 3)), (22, aB (a0.fKind == 3)), (21, aI a0.fKind), (20, .ptr 0 0)] (by kernel_rfl) ?_)))
     refine seg (a0.fKind == 3) [23, 22] (fun b => [(27, aB (b && ((FloatKind.format .f64).order a0.fFloat 0 == some .eq))), (26, ifA b (aB ((FloatKind.format .f64).order a0.fFloat 0 == some .eq)) (.undef)), (25, ifA b (aF a0.fFloat) (.undef)), (24, ifA b (.ptr 0 2) (.undef))]) 8 (by kernel_rfl) ?_ ?_ ?_
     ·
      intro Q h
      refine sh 4 [(27, aB ((FloatKind.format .f64).order a0.fFloat 0 == some .eq)), (26, aB ((FloatKind.format .f64).order a0.fFloat 0 == some .eq)), (25, aF a0.fFloat), (24, .ptr 0 2)] (by kernel_rfl) ?_
      exact sameN (by kernel_rfl) (by kernel_rfl) h
     ·
      intro Q h
      refine sh 4 [(27, aB false), (26, .undef), (25, .undef), (24, .undef)] (by kernel_rfl) ?_
      exact sameN (by kernel_rfl) (by kernel_rfl) h
     refine sh 1 [(19, aB ((a0.fKind == 3) && ((FloatKind.format .f64).order a0.fFloat 0 == some .eq)))] (by kernel_rfl) (fin [(1, .ptr 0 0), (2, .ptr 1 0), (19, aB ((a0.fKind == 3) && ((FloatKind.format .f64).order a0.fFloat 0 == some .eq)))] rfl (by kernel_rfl) ?_)
     rcases bif_some hm with ⟨h7, hm⟩ | ⟨h7, hm⟩
     ·
      refine ct h7 (by kernel_rfl) (det [(1, .ptr 0 0), (2, .ptr 1 0)] [.box [aI a0.fKind, aI a0.fInt, aF 0, aS a0.fText] false, .box [aI 0, aI 0, aF 0, aS ByteArray.empty] false] (by kernel_rfl) (sq (det [(2, .ptr 1 0)] [.box [aI a0.fKind, aI a0.fInt, aF 0, aS a0.fText] false, .box [aI a0.fKind, aI a0.fInt, aF 0, aS a0.fText] false] (by kernel_rfl) (wp_ret ?_))))
      obtain rfl := Option.some.inj hm
      exact ⟨trivial, by kernel_rfl⟩
     ·
      refine cf h7 (by kernel_rfl) (wp_skip (sq (det [(2, .ptr 1 0)] [.box [aI a0.fKind, aI a0.fInt, aF a0.fFloat, aS a0.fText] false, .box [aI a0.fKind, aI a0.fInt, aF a0.fFloat, aS a0.fText] false] (by kernel_rfl) (wp_ret ?_))))
      obtain rfl := Option.some.inj hm
      exact ⟨trivial, by kernel_rfl⟩
   refine rg (sh 4 [(12, aB (a0.fKind == 3)), (11, aB (a0.fKind == 3)), (10, aI a0.fKind), (9, .ptr 0 0)] (by kernel_rfl) ?_)
   rcases bif_some hm with ⟨h8, hm⟩ | ⟨h8, hm⟩
   ·
    refine known [12, 11] h8 (by kernel_rfl) (sh 2 [(14, aF a0.fFloat), (13, .ptr 0 2)] (by kernel_rfl) ?_)
    obtain ⟨x9, h10, hm⟩ := bs hm
    refine dv 15 (cpure (by kernel_rfl) (ok_math_IsNaN h10) (by kernel_rfl) (by kernel_rfl) (by kernel_rfl)) (by kernel_rfl) (sh 2 [(8, aB x9), (16, aB x9)] (by kernel_rfl) (fin [(1, .ptr 0 0), (2, .ptr 1 0), (8, aB x9)] rfl (by kernel_rfl) ?_))
    exact ⟨x9, hm, rfl, rfl⟩
   ·
    refine known [12, 11] h8 (by kernel_rfl) (sh 5 [(8, aB false), (16, aB false), (15, .undef), (14, .undef), (13, .undef)] (by kernel_rfl) (fin [(1, .ptr 0 0), (2, .ptr 1 0), (8, aB false)] rfl (by kernel_rfl) ?_))
    exact ⟨false, hm, rfl, rfl⟩
theorem ok_codec_PutUint_r (m0 : Nat) {n : Nat} {a0 : (List Int)} {a1 : Int} {r : (List Int)} (hm0 : a0.length = m0) (hm : codec_PutUint_r n a0 a1 = some r) :
    ∃ vv H1, call G n 50 [aR 0 1 m0, aU a1] [bR 5 1 (rI .u8) a0 0 0] = some (.ret vv, H1) ∧ (match r with | r0 => (vv = aR 0 1 r0.length ∧ H1 = [bR 5 1 (rI .u8) r0 0 0])) := by
  unfold codec_PutUint_r at hm
  obtain ⟨n, rfl, h0⟩ := at1_some hm
  replace hm := h0; clear h0
  refine callE 20 [(0, aR 0 1 m0), (1, aU a1)] func50 rfl (by kernel_rfl) (sq (detn [(0, aR 0 1 m0), (1, aU a1)] (by kernel_rfl) ?_))
  obtain ⟨k6, hk6, hm⟩ := withK_some hm
  refine mid (fun t H => (∃ (y1 : (List Int)) (y2 : Int) (y3 : Bool) (g4 : Nat), k6 y1 y2 = some r ∧ t = mk 20 [(0, aR 0 1 g4), (1, aU y2), (6, aB y3)] ∧ H = [bR 5 1 (rI .u8) y1 0 0] ∧ y1.length = g4)) ?_ ?_
  ·
   rintro _ _ ⟨y1, y2, y3, g4, hm, rfl, rfl, q5⟩
   subst hk6
   refine sq (rg (st 4 [(18, aR 1 1 1), (17, aY (IntKind.wrap .u8 y2)), (16, aU y2), (15, aR 0 1 g4)] [bR 5 1 (rI .u8) y1 0 0, bR 5 1 (rI .u8) ([(IntKind.wrap .u8 y2)] : List Int) 0 0] (by kernel_rfl) ?_))
   obtain ⟨_, h7, hm⟩ := bs hm
   refine dO [(19, aR 0 1 ((y1 ++ ([(IntKind.wrap .u8 y2)] : List Int)).length))] [bR 5 1 (rI .u8) (y1 ++ ([(IntKind.wrap .u8 y2)] : List Int)) 0 0, bR 5 1 (rI .u8) ([(IntKind.wrap .u8 y2)] : List Int) 0 0] (app_refO (u := 0) (n := g4) (id := 0) (rI .u8) y1 ([(IntKind.wrap .u8 y2)] : List Int) (b := 1) t39 t5 rfl rfl rfl (fun _ => rfl) rfl h7 rfl (by omega) (Nat.zero_le _) (show srcRows (aR 1 1 1) _ = some (([(IntKind.wrap .u8 y2)] : List Int).map (rI .u8)) from by kernel_rfl) (by kernel_rfl)) (by kernel_rfl) (sh 1 [(4, aR 0 1 ((y1 ++ ([(IntKind.wrap .u8 y2)] : List Int)).length))] (by kernel_rfl) (fin [(4, aR 0 1 ((y1 ++ ([(IntKind.wrap .u8 y2)] : List Int)).length))] rfl (by kernel_rfl) (wp_ret ?_)))
   obtain rfl := Option.some.inj hm
   exact ⟨trivial, aR 0 1 ((y1 ++ ([(IntKind.wrap .u8 y2)] : List Int)).length), [bR 5 1 (rI .u8) (y1 ++ ([(IntKind.wrap .u8 y2)] : List Int)) 0 0], by kernel_rfl, rfl, rfl⟩
  refine bq ?_
  refine loopF (fun mm t H => (∃ (y12 : (List Int)) (y13 : Int) (g14 : Nat), codec_PutUint_r_l1 n k6 mm y12 y13 = some r ∧ t = mk 20 [(0, aR 0 1 g14), (1, aU y13)] ∧ H = [bR 5 1 (rI .u8) y12 0 0] ∧ y12.length = g14)) (⟨a0, a1, m0, hm, rfl, rfl, (by first | rfl | assumption | omega | (simp only [List.length_set, List.length_append, List.length_cons, List.length_nil, List.length_replicate] at *; omega))⟩) ?_ ?_
  · rintro _ _ ⟨y12, y13, g14, hm, _⟩; exact nomatch hm
  rintro m16 _ _ ⟨y12, y13, g14, hm, rfl, rfl, q15⟩
  simp only [codec_PutUint_r_l1] at hm
  refine sq (sq (detn [(0, aR 0 1 g14), (1, aU y13), (6, aB (decide (y13 ≥ 128)))] (by kernel_rfl) ?_))
  rcases bif_some hm with ⟨h17, hm⟩ | ⟨h17, hm⟩
  ·
   refine ct h17 (by kernel_rfl) (wp_skip (bq (sq (rg (st 5 [(11, aR 1 1 1), (10, aY (iOr .u8 (IntKind.wrap .u8 y13) 128)), (9, aY (IntKind.wrap .u8 y13)), (8, aU y13), (7, aR 0 1 g14)] [bR 5 1 (rI .u8) y12 0 0, bR 5 1 (rI .u8) ([(iOr .u8 (IntKind.wrap .u8 y13) 128)] : List Int) 0 0] (by kernel_rfl) ?_)))))
   obtain ⟨_, h18, hm⟩ := bs hm
   refine dO [(12, aR 0 1 ((y12 ++ ([(iOr .u8 (IntKind.wrap .u8 y13) 128)] : List Int)).length))] [bR 5 1 (rI .u8) (y12 ++ ([(iOr .u8 (IntKind.wrap .u8 y13) 128)] : List Int)) 0 0, bR 5 1 (rI .u8) ([(iOr .u8 (IntKind.wrap .u8 y13) 128)] : List Int) 0 0] (app_refO (u := 0) (n := g14) (id := 0) (rI .u8) y12 ([(iOr .u8 (IntKind.wrap .u8 y13) 128)] : List Int) (b := 1) t39 t5 rfl rfl rfl (fun _ => rfl) rfl h18 rfl (by omega) (Nat.zero_le _) (show srcRows (aR 1 1 1) _ = some (([(iOr .u8 (IntKind.wrap .u8 y13) 128)] : List Int).map (rI .u8)) from by kernel_rfl) (by kernel_rfl)) (by kernel_rfl) (sh 1 [(0, aR 0 1 ((y12 ++ ([(iOr .u8 (IntKind.wrap .u8 y13) 128)] : List Int)).length))] (by kernel_rfl) (fin [(0, aR 0 1 ((y12 ++ ([(iOr .u8 (IntKind.wrap .u8 y13) 128)] : List Int)).length)), (1, aU y13)] rfl (by kernel_rfl) (detn [(0, aR 0 1 ((y12 ++ ([(iOr .u8 (IntKind.wrap .u8 y13) 128)] : List Int)).length)), (1, aU (iShr .u64 y13 7))] (by kernel_rfl) ?_)))
   exact ⟨_, _, tidyL [(0, aR 0 1 ((y12 ++ ([(iOr .u8 (IntKind.wrap .u8 y13) 128)] : List Int)).length)), (1, aU (iShr .u64 y13 7))] [bR 5 1 (rI .u8) (y12 ++ ([(iOr .u8 (IntKind.wrap .u8 y13) 128)] : List Int)) 0 0] (by kernel_rfl), ⟨(y12 ++ ([(iOr .u8 (IntKind.wrap .u8 y13) 128)] : List Int)), (iShr .u64 y13 7), (y12 ++ ([(iOr .u8 (IntKind.wrap .u8 y13) 128)] : List Int)).length, hm, rfl, rfl, (by first | rfl | assumption | omega | (simp only [List.length_set, List.length_append, List.length_cons, List.length_nil, List.length_replicate] at *; omega))⟩⟩
  ·
   refine cf h17 (by kernel_rfl) (wp_exit ?_)
   exact ⟨y12, y13, (decide (y13 ≥ 128)), g14, hm, rfl, rfl, (by first | rfl | assumption | omega | (simp only [List.length_set, List.length_append, List.length_cons, List.length_nil, List.length_replicate] at *; omega))⟩
theorem ok_codec_PutInt_r (m0 : Nat) {n : Nat} {a0 : (List Int)} {a1 : Int} {r : (List Int)} (hm0 : a0.length = m0) (hm : codec_PutInt_r n a0 a1 = some r) :
    ∃ vv H1, call G n 70 [aR 0 1 m0, aI a1] [bR 5 1 (rI .u8) a0 0 0] = some (.ret vv, H1) ∧ (match r with | r0 => (vv = aR 0 1 r0.length ∧ H1 = [bR 5 1 (rI .u8) r0 0 0])) := by
  unfold codec_PutInt_r at hm
  obtain ⟨n, rfl, h0⟩ := at1_some hm
  replace hm := h0; clear h0
  refine callE 16 [(0, aR 0 1 m0), (1, aI a1)] func70 rfl (by kernel_rfl) (sq (detn [(0, aR 0 1 m0), (1, aI a1)] (by kernel_rfl) (sq (detn [(0, aR 0 1 m0), (1, aI a1), (5, aU (iShl .u64 (IntKind.wrap .u64 a1) 1))] (by kernel_rfl) (sq (sq (detn [(0, aR 0 1 m0), (5, aU (iShl .u64 (IntKind.wrap .u64 a1) 1)), (10, aB (decide (a1 < 0)))] (by kernel_rfl) ?_)))))))
  rcases bif_some hm with ⟨h1, hm⟩ | ⟨h1, hm⟩
  ·
   refine ct h1 (by kernel_rfl) (detn [(0, aR 0 1 m0), (5, aU (notI .u64 (iShl .u64 (IntKind.wrap .u64 a1) 1)))] (by kernel_rfl) (sq (rg (sh 2 [(14, aU (notI .u64 (iShl .u64 (IntKind.wrap .u64 a1) 1))), (13, aR 0 1 m0)] (by kernel_rfl) ?_))))
   obtain ⟨x3, h2, hm⟩ := bs hm
   obtain ⟨vv, H1, hC, rfl, rfl⟩ := ok_codec_PutUint_r m0 (by first | rfl | assumption | omega | (simp only [List.length_set, List.length_append, List.length_cons, List.length_nil, List.length_replicate] at *; omega)) h2
   refine dR [(15, aR 0 1 x3.length)] [bR 5 1 (rI .u8) x3 0 0] [0] [aR 0 1 m0, aU (notI .u64 (iShl .u64 (IntKind.wrap .u64 a1) 1))] (by kernel_rfl) (by kernel_rfl) (by kernel_rfl) hC (by kernel_rfl) (sh 1 [(4, aR 0 1 x3.length)] (by kernel_rfl) (fin [(4, aR 0 1 x3.length)] rfl (by kernel_rfl) (wp_ret ?_)))
   obtain rfl := Option.some.inj hm
   exact ⟨trivial, aR 0 1 x3.length, [bR 5 1 (rI .u8) x3 0 0], by kernel_rfl, rfl, rfl⟩
  ·
   refine cf h1 (by kernel_rfl) (wp_skip (sq (rg (sh 2 [(14, aU (iShl .u64 (IntKind.wrap .u64 a1) 1)), (13, aR 0 1 m0)] (by kernel_rfl) ?_))))
   obtain ⟨x5, h4, hm⟩ := bs hm
   obtain ⟨vv, H1, hC, rfl, rfl⟩ := ok_codec_PutUint_r m0 (by first | rfl | assumption | omega | (simp only [List.length_set, List.length_append, List.length_cons, List.length_nil, List.length_replicate] at *; omega)) h4
   refine dR [(15, aR 0 1 x5.length)] [bR 5 1 (rI .u8) x5 0 0] [0] [aR 0 1 m0, aU (iShl .u64 (IntKind.wrap .u64 a1) 1)] (by kernel_rfl) (by kernel_rfl) (by kernel_rfl) hC (by kernel_rfl) (sh 1 [(4, aR 0 1 x5.length)] (by kernel_rfl) (fin [(4, aR 0 1 x5.length)] rfl (by kernel_rfl) (wp_ret ?_)))
   obtain rfl := Option.some.inj hm
   exact ⟨trivial, aR 0 1 x5.length, [bR 5 1 (rI .u8) x5 0 0], by kernel_rfl, rfl, rfl⟩
theorem ok_codec_bits {n : Nat} {a0 : Nat} {r : Int} (hm : codec_bits n a0 = some r) :
    call G n 91 [aF a0] [] = some (.ret (aU r), []) := by
  unfold codec_bits at hm
  obtain ⟨n, rfl, h0⟩ := at1_some hm
  replace hm := h0; clear h0
  refine callL 12 [(0, aF a0)] func91 rfl (by kernel_rfl) (sq (detn [(0, aF a0)] (by kernel_rfl) (sq (bq (sq (detn [(0, aF a0), (3, aB ((FloatKind.format .f64).order a0 a0 != some .eq))] (by kernel_rfl) ?_))))))
  rcases bif_some hm with ⟨h1, hm⟩ | ⟨h1, hm⟩
  ·
   refine ct h1 (by kernel_rfl) (sq (detn [(2, aU 9221120237041090561)] (by kernel_rfl) (wp_ret ?_)))
   obtain rfl := Option.some.inj hm
   exact ⟨trivial, by kernel_rfl⟩
  ·
   refine cf h1 (by kernel_rfl) (sq (detn [(0, aF a0), (7, aB ((FloatKind.format .f64).order a0 0 == some .eq))] (by kernel_rfl) ?_))
   rcases bif_some hm with ⟨h2, hm⟩ | ⟨h2, hm⟩
   ·
    refine ct h2 (by kernel_rfl) (sq (detn [(2, aU 0)] (by kernel_rfl) (wp_ret ?_)))
    obtain rfl := Option.some.inj hm
    exact ⟨trivial, by kernel_rfl⟩
   ·
    refine cf h2 (by kernel_rfl) (wp_skip (sq (rg (sh 1 [(10, aF a0)] (by kernel_rfl) (sh 1 [(11, aU (a0 : Int))] (by kernel_rfl) (sh 1 [(2, aU (a0 : Int))] (by kernel_rfl) (fin [(2, aU (a0 : Int))] rfl (by kernel_rfl) (wp_ret ?_))))))))
    obtain rfl := Option.some.inj hm
    exact ⟨trivial, by kernel_rfl⟩
theorem ok_codec_PutFixed_r (m0 : Nat) {n : Nat} {a0 : (List Int)} {a1 : Int} {a2 : Int} {r : (List Int)} (hm0 : a0.length = m0) (hm : codec_PutFixed_r n a0 a1 a2 = some r) :
    ∃ vv H1, call G n 90 [aR 0 1 m0, aU a1, aI a2] [bR 5 1 (rI .u8) a0 0 0] = some (.ret vv, H1) ∧ (match r with | r0 => (∃ (e1 : Nat), r0.length = e1 ∧ vv = aR 0 1 e1 ∧ H1 = [bR 5 1 (rI .u8) r0 0 0])) := by
  unfold codec_PutFixed_r at hm
  obtain ⟨n, rfl, h0⟩ := at1_some hm
  replace hm := h0; clear h0
  refine callE 26 [(0, aR 0 1 m0), (1, aU a1), (2, aI a2)] func90 rfl (by kernel_rfl) (sq (detn [(0, aR 0 1 m0), (1, aU a1), (2, aI a2)] (by kernel_rfl) ?_))
  obtain ⟨k6, hk6, hm⟩ := withK_some hm
  refine mid (fun t H => (∃ (y1 : (List Int)) (y2 : Bool) (y3 : Int) (g4 : Nat), k6 y1 = some r ∧ t = mk 26 [(0, aR 0 1 g4), (1, aU a1), (7, aI y3), (13, aB y2)] ∧ H = [bR 5 1 (rI .u8) y1 0 0] ∧ y1.length = g4)) ?_ ?_
  ·
   rintro _ _ ⟨y1, y2, y3, g4, hm, rfl, rfl, q5⟩
   subst hk6
   refine sq (detn [(6, aR 0 1 g4)] (by kernel_rfl) (wp_ret ?_))
   obtain rfl := Option.some.inj hm
   exact ⟨trivial, aR 0 1 g4, [bR 5 1 (rI .u8) y1 0 0], by kernel_rfl, g4, (by first | rfl | assumption | omega | (simp only [List.length_set, List.length_append, List.length_cons, List.length_nil, List.length_replicate] at *; omega)), rfl, rfl⟩
  refine sq (detn [(0, aR 0 1 m0), (1, aU a1), (7, aI (IntKind.wrap .i64 ((if 8 < (if 0 > a2 then 0 else a2) then 8 else (if 0 > a2 then 0 else a2)) - 1)))] (by kernel_rfl) (bq ?_))
  refine loopF (fun mm t H => (∃ (y11 : (List Int)) (y12 : Int) (g13 : Nat), codec_PutFixed_r_l2 n a1 k6 mm y11 y12 = some r ∧ t = mk 26 [(0, aR 0 1 g13), (1, aU a1), (7, aI y12)] ∧ H = [bR 5 1 (rI .u8) y11 0 0] ∧ y11.length = g13)) (⟨a0, (IntKind.wrap .i64 ((if 8 < (if 0 > a2 then 0 else a2) then 8 else (if 0 > a2 then 0 else a2)) - 1)), m0, hm, rfl, rfl, (by first | rfl | assumption | omega | (simp only [List.length_set, List.length_append, List.length_cons, List.length_nil, List.length_replicate] at *; omega))⟩) ?_ ?_
  · rintro _ _ ⟨y11, y12, g13, hm, _⟩; exact nomatch hm
  rintro m15 _ _ ⟨y11, y12, g13, hm, rfl, rfl, q14⟩
  simp only [codec_PutFixed_r_l2] at hm
  refine sq (sq (detn [(0, aR 0 1 g13), (1, aU a1), (7, aI y12), (13, aB (decide (y12 ≥ 0)))] (by kernel_rfl) ?_))
  rcases bif_some hm with ⟨h16, hm⟩ | ⟨h16, hm⟩
  ·
   refine ct h16 (by kernel_rfl) (wp_skip (sq (bq (rg (sh 5 [(20, aU (IntKind.wrap .u64 (IntKind.wrap .i64 (8 * y12)))), (19, aI (IntKind.wrap .i64 (8 * y12))), (18, aI y12), (17, aU a1), (16, aR 0 1 g13)] (by kernel_rfl) ?_)))))
   obtain ⟨_, h17, hm⟩ := bs hm
   refine dv 21 (v := aU (iShr .u64 a1 (IntKind.wrap .u64 (IntKind.wrap .i64 (8 * y12))))) (shrO h17 (by kernel_rfl)) (by kernel_rfl) (st 2 [(23, aR 1 1 1), (22, aY (IntKind.wrap .u8 (iShr .u64 a1 (IntKind.wrap .u64 (IntKind.wrap .i64 (8 * y12))))))] [bR 5 1 (rI .u8) y11 0 0, bR 5 1 (rI .u8) ([(IntKind.wrap .u8 (iShr .u64 a1 (IntKind.wrap .u64 (IntKind.wrap .i64 (8 * y12)))))] : List Int) 0 0] (by kernel_rfl) ?_)
   obtain ⟨_, h18, hm⟩ := bs hm
   refine dO [(24, aR 0 1 ((y11 ++ ([(IntKind.wrap .u8 (iShr .u64 a1 (IntKind.wrap .u64 (IntKind.wrap .i64 (8 * y12)))))] : List Int)).length))] [bR 5 1 (rI .u8) (y11 ++ ([(IntKind.wrap .u8 (iShr .u64 a1 (IntKind.wrap .u64 (IntKind.wrap .i64 (8 * y12)))))] : List Int)) 0 0, bR 5 1 (rI .u8) ([(IntKind.wrap .u8 (iShr .u64 a1 (IntKind.wrap .u64 (IntKind.wrap .i64 (8 * y12)))))] : List Int) 0 0] (app_refO (u := 0) (n := g13) (id := 0) (rI .u8) y11 ([(IntKind.wrap .u8 (iShr .u64 a1 (IntKind.wrap .u64 (IntKind.wrap .i64 (8 * y12)))))] : List Int) (b := 1) t39 t5 rfl rfl rfl (fun _ => rfl) rfl h18 rfl (by omega) (Nat.zero_le _) (show srcRows (aR 1 1 1) _ = some (([(IntKind.wrap .u8 (iShr .u64 a1 (IntKind.wrap .u64 (IntKind.wrap .i64 (8 * y12)))))] : List Int).map (rI .u8)) from by kernel_rfl) (by kernel_rfl)) (by kernel_rfl) (sh 1 [(0, aR 0 1 ((y11 ++ ([(IntKind.wrap .u8 (iShr .u64 a1 (IntKind.wrap .u64 (IntKind.wrap .i64 (8 * y12)))))] : List Int)).length))] (by kernel_rfl) (fin [(0, aR 0 1 ((y11 ++ ([(IntKind.wrap .u8 (iShr .u64 a1 (IntKind.wrap .u64 (IntKind.wrap .i64 (8 * y12)))))] : List Int)).length)), (1, aU a1), (7, aI y12)] rfl (by kernel_rfl) (detn [(0, aR 0 1 ((y11 ++ ([(IntKind.wrap .u8 (iShr .u64 a1 (IntKind.wrap .u64 (IntKind.wrap .i64 (8 * y12)))))] : List Int)).length)), (1, aU a1), (7, aI (IntKind.wrap .i64 (y12 - 1)))] (by kernel_rfl) ?_)))
   exact ⟨_, _, tidyL [(0, aR 0 1 ((y11 ++ ([(IntKind.wrap .u8 (iShr .u64 a1 (IntKind.wrap .u64 (IntKind.wrap .i64 (8 * y12)))))] : List Int)).length)), (1, aU a1), (7, aI (IntKind.wrap .i64 (y12 - 1)))] [bR 5 1 (rI .u8) (y11 ++ ([(IntKind.wrap .u8 (iShr .u64 a1 (IntKind.wrap .u64 (IntKind.wrap .i64 (8 * y12)))))] : List Int)) 0 0] (by kernel_rfl), ⟨(y11 ++ ([(IntKind.wrap .u8 (iShr .u64 a1 (IntKind.wrap .u64 (IntKind.wrap .i64 (8 * y12)))))] : List Int)), (IntKind.wrap .i64 (y12 - 1)), (y11 ++ ([(IntKind.wrap .u8 (iShr .u64 a1 (IntKind.wrap .u64 (IntKind.wrap .i64 (8 * y12)))))] : List Int)).length, hm, rfl, rfl, (by first | rfl | assumption | omega | (simp only [List.length_set, List.length_append, List.length_cons, List.length_nil, List.length_replicate] at *; omega))⟩⟩
  ·
   refine cf h16 (by kernel_rfl) (wp_exit ?_)
   exact ⟨y11, (decide (y12 ≥ 0)), y12, g13, hm, rfl, rfl, (by first | rfl | assumption | omega | (simp only [List.length_set, List.length_append, List.length_cons, List.length_nil, List.length_replicate] at *; omega))⟩
theorem ok_codec_PutFloat_r (m0 : Nat) {n : Nat} {a0 : (List Int)} {a1 : Nat} {r : (List Int)} (hm0 : a0.length = m0) (hm : codec_PutFloat_r n a0 a1 = some r) :
    ∃ vv H1, call G n 71 [aR 0 1 m0, aF a1] [bR 5 1 (rI .u8) a0 0 0] = some (.ret vv, H1) ∧ (match r with | r0 => (∃ (e1 : Nat), r0.length = e1 ∧ vv = aR 0 1 e1 ∧ H1 = [bR 5 1 (rI .u8) r0 0 0])) := by
  unfold codec_PutFloat_r at hm
  obtain ⟨n, rfl, h0⟩ := at1_some hm
  replace hm := h0; clear h0
  refine callE 9 [(0, aR 0 1 m0), (1, aF a1)] func71 rfl (by kernel_rfl) (sq (detn [(0, aR 0 1 m0), (1, aF a1)] (by kernel_rfl) (sq (rg (sh 2 [(6, aF a1), (5, aR 0 1 m0)] (by kernel_rfl) ?_)))))
  obtain ⟨x1, h2, hm⟩ := bs hm
  refine dv 7 (cpure (by kernel_rfl) (ok_codec_bits h2) (by kernel_rfl) (by kernel_rfl) (by kernel_rfl)) (by kernel_rfl) ?_
  obtain ⟨x4, h3, hm⟩ := bs hm
  obtain ⟨vv, H1, hC, g5, q6, rfl, rfl⟩ := ok_codec_PutFixed_r m0 (by first | rfl | assumption | omega | (simp only [List.length_set, List.length_append, List.length_cons, List.length_nil, List.length_replicate] at *; omega)) h3
  refine dR [(8, aR 0 1 g5)] [bR 5 1 (rI .u8) x4 0 0] [0] [aR 0 1 m0, aU x1, aI 8] (by kernel_rfl) (by kernel_rfl) (by kernel_rfl) hC (by kernel_rfl) (sh 1 [(4, aR 0 1 g5)] (by kernel_rfl) (fin [(4, aR 0 1 g5)] rfl (by kernel_rfl) (wp_ret ?_)))
  obtain rfl := Option.some.inj hm
  exact ⟨trivial, aR 0 1 g5, [bR 5 1 (rI .u8) x4 0 0], by kernel_rfl, g5, (by first | rfl | assumption | omega | (simp only [List.length_set, List.length_append, List.length_cons, List.length_nil, List.length_replicate] at *; omega)), rfl, rfl⟩
theorem ok_codec_PutText_r (m0 : Nat) {n : Nat} {a0 : (List Int)} {a1 : ByteArray} {r : (List Int)} (hm0 : a0.length = m0) (hm : codec_PutText_r n a0 a1 = some r) :
    ∃ vv H1, call G n 72 [aR 0 1 m0, aS a1] [bR 5 1 (rI .u8) a0 0 0] = some (.ret vv, H1) ∧ (match r with | r0 => (vv = aR 0 1 r0.length ∧ H1 = [bR 5 1 (rI .u8) r0 0 0])) := by
  unfold codec_PutText_r at hm
  obtain ⟨n, rfl, h0⟩ := at1_some hm
  replace hm := h0; clear h0
  refine callE 12 [(0, aR 0 1 m0), (1, aS a1)] func72 rfl (by kernel_rfl) (sq (detn [(0, aR 0 1 m0), (1, aS a1)] (by kernel_rfl) (sq (rg (sh 4 [(8, aU (IntKind.wrap .u64 (a1.size : Int))), (7, aI (a1.size : Int)), (6, aS a1), (5, aR 0 1 m0)] (by kernel_rfl) ?_)))))
  obtain ⟨x2, h1, hm⟩ := bs hm
  obtain ⟨vv, H1, hC, rfl, rfl⟩ := ok_codec_PutUint_r m0 (by first | rfl | assumption | omega | (simp only [List.length_set, List.length_append, List.length_cons, List.length_nil, List.length_replicate] at *; omega)) h1
  refine dR [(9, aR 0 1 x2.length)] [bR 5 1 (rI .u8) x2 0 0] [0] [aR 0 1 m0, aU (IntKind.wrap .u64 (a1.size : Int))] (by kernel_rfl) (by kernel_rfl) (by kernel_rfl) hC (by kernel_rfl) (sh 1 [(10, aS a1)] (by kernel_rfl) ?_)
  rcases bif_some hm with ⟨h3, hm⟩ | ⟨h3, hm⟩
  ·
   obtain ⟨_, h4, hm⟩ := bs hm
   refine dv 11 (v := aR 0 1 x2.length) (app_ref0O (u := 0) (n := x2.length) (id := 0) (rI .u8) x2 (bytesL a1) (b := 1) t39 t5 rfl rfl rfl h3 h4 rfl rfl (Nat.zero_le _) (src_str (s := a1)) (by kernel_rfl)) (by kernel_rfl) (sh 1 [(4, aR 0 1 x2.length)] (by kernel_rfl) (fin [(4, aR 0 1 x2.length)] rfl (by kernel_rfl) (wp_ret ?_)))
   obtain rfl := Option.some.inj hm
   exact ⟨trivial, aR 0 1 x2.length, [bR 5 1 (rI .u8) x2 0 0], by kernel_rfl, rfl, rfl⟩
  ·
   obtain ⟨_, h5, hm⟩ := bs hm
   refine dO [(11, aR 0 1 ((x2 ++ (bytesL a1)).length))] [bR 5 1 (rI .u8) (x2 ++ (bytesL a1)) 0 0] (app_refO (u := 0) (n := x2.length) (id := 0) (rI .u8) x2 (bytesL a1) (b := 1) t39 t5 rfl rfl rfl (fun _ => rfl) h3 h5 rfl rfl (Nat.zero_le _) (src_str (s := a1)) (by kernel_rfl)) (by kernel_rfl) (sh 1 [(4, aR 0 1 ((x2 ++ (bytesL a1)).length))] (by kernel_rfl) (fin [(4, aR 0 1 ((x2 ++ (bytesL a1)).length))] rfl (by kernel_rfl) (wp_ret ?_)))
   obtain rfl := Option.some.inj hm
   exact ⟨trivial, aR 0 1 ((x2 ++ (bytesL a1)).length), [bR 5 1 (rI .u8) (x2 ++ (bytesL a1)) 0 0], by kernel_rfl, rfl, rfl⟩
theorem ok_value_Put_r (m0 : Nat) {n : Nat} {a0 : (List Int)} {a1 : api_Value} {r : (List Int)} (hm0 : a0.length = m0) (hm : value_Put_r n a0 a1 = some r) :
    ∃ vv H1, call G n 51 [aR 0 1 m0, .agg [aI a1.fKind, aI a1.fInt, aF a1.fFloat, aS a1.fText]] [bR 5 1 (rI .u8) a0 0 0] = some (.ret vv, H1) ∧ (match r with | r0 => (∃ (e1 : Nat), r0.length = e1 ∧ vv = aR 0 1 e1 ∧ H1 = [bR 5 1 (rI .u8) r0 0 0])) := by
  unfold value_Put_r at hm
  obtain ⟨n, rfl, h0⟩ := at1_some hm
  replace hm := h0; clear h0
  refine callE 42 [(0, aR 0 1 m0), (1, .agg [aI a1.fKind, aI a1.fInt, aF a1.fFloat, aS a1.fText])] func51 rfl (by kernel_rfl) (sq (det [(0, aR 0 1 m0), (3, .ptr 1 0)] [bR 5 1 (rI .u8) a0 0 0, .box [aI a1.fKind, aI a1.fInt, aF a1.fFloat, aS a1.fText] false] (by kernel_rfl) (sq (rg (sh 1 [(5, .agg [aI a1.fKind, aI a1.fInt, aF a1.fFloat, aS a1.fText])] (by kernel_rfl) ?_)))))
  obtain ⟨x1, h2, hm⟩ := bs hm
  refine dv 6 (cpure (by kernel_rfl) (ok_value_Plain h2) (by kernel_rfl) (by kernel_rfl) (by kernel_rfl)) (by kernel_rfl) (st 1 [] [bR 5 1 (rI .u8) a0 0 0, .box [aI x1.fKind, aI x1.fInt, aF x1.fFloat, aS x1.fText] false] (by kernel_rfl) (fin [(0, aR 0 1 m0), (3, .ptr 1 0)] rfl (by kernel_rfl) (sq (rg (st 5 [(11, aR 2 1 1), (10, aY (IntKind.wrap .u8 x1.fKind)), (9, aI x1.fKind), (8, .ptr 1 0), (7, aR 0 1 m0)] [bR 5 1 (rI .u8) a0 0 0, .box [aI x1.fKind, aI x1.fInt, aF x1.fFloat, aS x1.fText] false, bR 5 1 (rI .u8) ([(IntKind.wrap .u8 x1.fKind)] : List Int) 0 0] (by kernel_rfl) ?_)))))
  obtain ⟨_, h3, hm⟩ := bs hm
  refine dO [(12, aR 0 1 ((a0 ++ ([(IntKind.wrap .u8 x1.fKind)] : List Int)).length))] [bR 5 1 (rI .u8) (a0 ++ ([(IntKind.wrap .u8 x1.fKind)] : List Int)) 0 0, .box [aI x1.fKind, aI x1.fInt, aF x1.fFloat, aS x1.fText] false, bR 5 1 (rI .u8) ([(IntKind.wrap .u8 x1.fKind)] : List Int) 0 0] (app_refO (u := 0) (n := m0) (id := 0) (rI .u8) a0 ([(IntKind.wrap .u8 x1.fKind)] : List Int) (b := 1) t39 t5 rfl rfl rfl (fun _ => rfl) rfl h3 rfl (by omega) (Nat.zero_le _) (show srcRows (aR 2 1 1) _ = some (([(IntKind.wrap .u8 x1.fKind)] : List Int).map (rI .u8)) from by kernel_rfl) (by kernel_rfl)) (by kernel_rfl) (sh 1 [(0, aR 0 1 ((a0 ++ ([(IntKind.wrap .u8 x1.fKind)] : List Int)).length))] (by kernel_rfl) (fin [(0, aR 0 1 ((a0 ++ ([(IntKind.wrap .u8 x1.fKind)] : List Int)).length)), (3, .ptr 1 0)] rfl (by kernel_rfl) (sq (sq (detn [(0, aR 0 1 ((a0 ++ ([(IntKind.wrap .u8 x1.fKind)] : List Int)).length)), (3, .ptr 1 0), (14, aI x1.fKind)] (by kernel_rfl) (bq (sq (detn [(0, aR 0 1 ((a0 ++ ([(IntKind.wrap .u8 x1.fKind)] : List Int)).length)), (3, .ptr 1 0), (14, aI x1.fKind), (15, aB (x1.fKind == 1))] (by kernel_rfl) ?_))))))))
  rcases bif_some hm with ⟨h4, hm⟩ | ⟨h4, hm⟩
  ·
   refine ct h4 (by kernel_rfl) (sq (rg (st 5 [(21, aR 3 1 1), (20, aY (IntKind.wrap .u8 x1.fInt)), (19, aI x1.fInt), (18, .ptr 1 1), (17, aR 0 1 ((a0 ++ ([(IntKind.wrap .u8 x1.fKind)] : List Int)).length))] [bR 5 1 (rI .u8) (a0 ++ ([(IntKind.wrap .u8 x1.fKind)] : List Int)) 0 0, .box [aI x1.fKind, aI x1.fInt, aF x1.fFloat, aS x1.fText] false, bR 5 1 (rI .u8) ([(IntKind.wrap .u8 x1.fKind)] : List Int) 0 0, bR 5 1 (rI .u8) ([(IntKind.wrap .u8 x1.fInt)] : List Int) 0 0] (by kernel_rfl) ?_)))
   obtain ⟨_, h5, hm⟩ := bs hm
   refine dO [(22, aR 0 1 (((a0 ++ ([(IntKind.wrap .u8 x1.fKind)] : List Int)) ++ ([(IntKind.wrap .u8 x1.fInt)] : List Int)).length))] [bR 5 1 (rI .u8) ((a0 ++ ([(IntKind.wrap .u8 x1.fKind)] : List Int)) ++ ([(IntKind.wrap .u8 x1.fInt)] : List Int)) 0 0, .box [aI x1.fKind, aI x1.fInt, aF x1.fFloat, aS x1.fText] false, bR 5 1 (rI .u8) ([(IntKind.wrap .u8 x1.fKind)] : List Int) 0 0, bR 5 1 (rI .u8) ([(IntKind.wrap .u8 x1.fInt)] : List Int) 0 0] (app_refO (u := 0) (n := (a0 ++ ([(IntKind.wrap .u8 x1.fKind)] : List Int)).length) (id := 0) (rI .u8) (a0 ++ ([(IntKind.wrap .u8 x1.fKind)] : List Int)) ([(IntKind.wrap .u8 x1.fInt)] : List Int) (b := 1) t39 t5 rfl rfl rfl (fun _ => rfl) rfl h5 rfl rfl (Nat.zero_le _) (show srcRows (aR 3 1 1) _ = some (([(IntKind.wrap .u8 x1.fInt)] : List Int).map (rI .u8)) from by kernel_rfl) (by kernel_rfl)) (by kernel_rfl) (sh 1 [(4, aR 0 1 (((a0 ++ ([(IntKind.wrap .u8 x1.fKind)] : List Int)) ++ ([(IntKind.wrap .u8 x1.fInt)] : List Int)).length))] (by kernel_rfl) (fin [(4, aR 0 1 (((a0 ++ ([(IntKind.wrap .u8 x1.fKind)] : List Int)) ++ ([(IntKind.wrap .u8 x1.fInt)] : List Int)).length))] rfl (by kernel_rfl) (wp_ret ?_)))
   obtain rfl := Option.some.inj hm
   exact ⟨trivial, aR 0 1 (((a0 ++ ([(IntKind.wrap .u8 x1.fKind)] : List Int)) ++ ([(IntKind.wrap .u8 x1.fInt)] : List Int)).length), [bR 5 1 (rI .u8) ((a0 ++ ([(IntKind.wrap .u8 x1.fKind)] : List Int)) ++ ([(IntKind.wrap .u8 x1.fInt)] : List Int)) 0 0], by kernel_rfl, ((a0 ++ ([(IntKind.wrap .u8 x1.fKind)] : List Int)) ++ ([(IntKind.wrap .u8 x1.fInt)] : List Int)).length, (by first | rfl | assumption | omega | (simp only [List.length_set, List.length_append, List.length_cons, List.length_nil, List.length_replicate] at *; omega)), rfl, rfl⟩
  ·
   refine cf h4 (by kernel_rfl) (sq (detn [(0, aR 0 1 ((a0 ++ ([(IntKind.wrap .u8 x1.fKind)] : List Int)).length)), (3, .ptr 1 0), (14, aI x1.fKind), (23, aB (x1.fKind == 2))] (by kernel_rfl) ?_))
   rcases bif_some hm with ⟨h6, hm⟩ | ⟨h6, hm⟩
   ·
    refine ct h6 (by kernel_rfl) (sq (rg (sh 3 [(27, aI x1.fInt), (26, .ptr 1 1), (25, aR 0 1 ((a0 ++ ([(IntKind.wrap .u8 x1.fKind)] : List Int)).length))] (by kernel_rfl) ?_)))
    obtain ⟨x8, h7, hm⟩ := bs hm
    obtain ⟨vv, H1, hC, rfl, rfl⟩ := ok_codec_PutInt_r ((a0 ++ ([(IntKind.wrap .u8 x1.fKind)] : List Int)).length) (by first | rfl | assumption | omega | (simp only [List.length_set, List.length_append, List.length_cons, List.length_nil, List.length_replicate] at *; omega)) h7
    refine dR [(28, aR 0 1 x8.length)] [bR 5 1 (rI .u8) x8 0 0, .box [aI x1.fKind, aI x1.fInt, aF x1.fFloat, aS x1.fText] false, bR 5 1 (rI .u8) ([(IntKind.wrap .u8 x1.fKind)] : List Int) 0 0] [0] [aR 0 1 ((a0 ++ ([(IntKind.wrap .u8 x1.fKind)] : List Int)).length), aI x1.fInt] (by kernel_rfl) (by kernel_rfl) (by kernel_rfl) hC (by kernel_rfl) (sh 1 [(4, aR 0 1 x8.length)] (by kernel_rfl) (fin [(4, aR 0 1 x8.length)] rfl (by kernel_rfl) (wp_ret ?_)))
    obtain rfl := Option.some.inj hm
    exact ⟨trivial, aR 0 1 x8.length, [bR 5 1 (rI .u8) x8 0 0], by kernel_rfl, x8.length, (by first | rfl | assumption | omega | (simp only [List.length_set, List.length_append, List.length_cons, List.length_nil, List.length_replicate] at *; omega)), rfl, rfl⟩
   ·
    refine cf h6 (by kernel_rfl) (sq (detn [(0, aR 0 1 ((a0 ++ ([(IntKind.wrap .u8 x1.fKind)] : List Int)).length)), (3, .ptr 1 0), (14, aI x1.fKind), (29, aB (x1.fKind == 3))] (by kernel_rfl) ?_))
    rcases bif_some hm with ⟨h9, hm⟩ | ⟨h9, hm⟩
    ·
     refine ct h9 (by kernel_rfl) (sq (rg (sh 3 [(33, aF x1.fFloat), (32, .ptr 1 2), (31, aR 0 1 ((a0 ++ ([(IntKind.wrap .u8 x1.fKind)] : List Int)).length))] (by kernel_rfl) ?_)))
     obtain ⟨x11, h10, hm⟩ := bs hm
     obtain ⟨vv, H1, hC, g12, q13, rfl, rfl⟩ := ok_codec_PutFloat_r ((a0 ++ ([(IntKind.wrap .u8 x1.fKind)] : List Int)).length) (by first | rfl | assumption | omega | (simp only [List.length_set, List.length_append, List.length_cons, List.length_nil, List.length_replicate] at *; omega)) h10
     refine dR [(34, aR 0 1 g12)] [bR 5 1 (rI .u8) x11 0 0, .box [aI x1.fKind, aI x1.fInt, aF x1.fFloat, aS x1.fText] false, bR 5 1 (rI .u8) ([(IntKind.wrap .u8 x1.fKind)] : List Int) 0 0] [0] [aR 0 1 ((a0 ++ ([(IntKind.wrap .u8 x1.fKind)] : List Int)).length), aF x1.fFloat] (by kernel_rfl) (by kernel_rfl) (by kernel_rfl) hC (by kernel_rfl) (sh 1 [(4, aR 0 1 g12)] (by kernel_rfl) (fin [(4, aR 0 1 g12)] rfl (by kernel_rfl) (wp_ret ?_)))
     obtain rfl := Option.some.inj hm
     exact ⟨trivial, aR 0 1 g12, [bR 5 1 (rI .u8) x11 0 0], by kernel_rfl, g12, (by first | rfl | assumption | omega | (simp only [List.length_set, List.length_append, List.length_cons, List.length_nil, List.length_replicate] at *; omega)), rfl, rfl⟩
    ·
     refine cf h9 (by kernel_rfl) (sq (detn [(0, aR 0 1 ((a0 ++ ([(IntKind.wrap .u8 x1.fKind)] : List Int)).length)), (3, .ptr 1 0), (35, aB (x1.fKind == 4))] (by kernel_rfl) ?_))
     rcases bif_some hm with ⟨h14, hm⟩ | ⟨h14, hm⟩
     ·
      refine ct h14 (by kernel_rfl) (sq (rg (sh 3 [(39, aS x1.fText), (38, .ptr 1 3), (37, aR 0 1 ((a0 ++ ([(IntKind.wrap .u8 x1.fKind)] : List Int)).length))] (by kernel_rfl) ?_)))
      obtain ⟨x16, h15, hm⟩ := bs hm
      obtain ⟨vv, H1, hC, rfl, rfl⟩ := ok_codec_PutText_r ((a0 ++ ([(IntKind.wrap .u8 x1.fKind)] : List Int)).length) (by first | rfl | assumption | omega | (simp only [List.length_set, List.length_append, List.length_cons, List.length_nil, List.length_replicate] at *; omega)) h15
      refine dR [(40, aR 0 1 x16.length)] [bR 5 1 (rI .u8) x16 0 0, .box [aI x1.fKind, aI x1.fInt, aF x1.fFloat, aS x1.fText] false, bR 5 1 (rI .u8) ([(IntKind.wrap .u8 x1.fKind)] : List Int) 0 0] [0] [aR 0 1 ((a0 ++ ([(IntKind.wrap .u8 x1.fKind)] : List Int)).length), aS x1.fText] (by kernel_rfl) (by kernel_rfl) (by kernel_rfl) hC (by kernel_rfl) (sh 1 [(4, aR 0 1 x16.length)] (by kernel_rfl) (fin [(4, aR 0 1 x16.length)] rfl (by kernel_rfl) (wp_ret ?_)))
      obtain rfl := Option.some.inj hm
      exact ⟨trivial, aR 0 1 x16.length, [bR 5 1 (rI .u8) x16 0 0], by kernel_rfl, x16.length, (by first | rfl | assumption | omega | (simp only [List.length_set, List.length_append, List.length_cons, List.length_nil, List.length_replicate] at *; omega)), rfl, rfl⟩
     ·
      refine cf h14 (by kernel_rfl) (wp_skip (sq (detn [(4, aR 0 1 ((a0 ++ ([(IntKind.wrap .u8 x1.fKind)] : List Int)).length))] (by kernel_rfl) (wp_ret ?_))))
      obtain rfl := Option.some.inj hm
      exact ⟨trivial, aR 0 1 ((a0 ++ ([(IntKind.wrap .u8 x1.fKind)] : List Int)).length), [bR 5 1 (rI .u8) (a0 ++ ([(IntKind.wrap .u8 x1.fKind)] : List Int)) 0 0], by kernel_rfl, (a0 ++ ([(IntKind.wrap .u8 x1.fKind)] : List Int)).length, (by first | rfl | assumption | omega | (simp only [List.length_set, List.length_append, List.length_cons, List.length_nil, List.length_replicate] at *; omega)), rfl, rfl⟩
theorem ok_row_Put_nil {n : Nat} {a0 : (Option (List api_Value))} {r : (List Int)} (hm : row_Put_nil n a0 = some r) :
    ∃ vv H1, call G n 28 [.pv .nils, .pv (encSl R_api_Value a0)] [] = some (.ret vv, H1) ∧ (match r with | r0 => (∃ (e1 : Nat), r0.length = e1 ∧ vv = aR 0 1 e1 ∧ H1 = [bR 5 1 (rI .u8) r0 0 0])) := by
  unfold row_Put_nil at hm
  obtain ⟨n, rfl, h0⟩ := at1_some hm
  replace hm := h0; clear h0
  refine callE 23 [(0, .pv .nils), (1, .pv (encSl R_api_Value a0))] func28 rfl (by kernel_rfl) (sq (detn [(0, .pv .nils), (1, .pv (encSl R_api_Value a0))] (by kernel_rfl) (sq (rg (sh 2 [(8, .pv (encSl R_api_Value a0)), (7, .pv .nils)] (by kernel_rfl) (dv 9 (v := aI ((sll a0).length : Int)) (len_slO R_api_Value a0 t22 (by kernel_rfl)) (by kernel_rfl) (sh 1 [(10, aU (IntKind.wrap .u64 ((sll a0).length : Int)))] (by kernel_rfl) ?_)))))))
  obtain ⟨x2, h1, hm⟩ := bs hm
  obtain ⟨vv, H1, hC, rfl, rfl⟩ := ok_codec_PutUint_nil h1
  refine dR [(11, aR 0 1 x2.length)] [bR 5 1 (rI .u8) x2 0 0] [] [.pv .nils, aU (IntKind.wrap .u64 ((sll a0).length : Int))] (by kernel_rfl) (by kernel_rfl) (by kernel_rfl) hC (by kernel_rfl) (sh 1 [(0, aR 0 1 x2.length)] (by kernel_rfl) (fin [(0, aR 0 1 x2.length), (1, .pv (encSl R_api_Value a0))] rfl (by kernel_rfl) ?_))
  obtain ⟨k8, hk8, hm⟩ := withK_some hm
  refine mid (fun t H => (∃ (y3 : (List Int)) (y4 : Int) (y5 : Bool) (g6 : Nat), k8 y3 = some r ∧ t = mk 23 [(0, aR 0 1 g6), (12, .pv (encSl R_api_Value a0)), (13, aI ((sll a0).length : Int)), (14, aI y4), (15, aB y5)] ∧ H = [bR 5 1 (rI .u8) y3 0 0] ∧ y3.length = g6)) ?_ ?_
  ·
   rintro _ _ ⟨y3, y4, y5, g6, hm, rfl, rfl, q7⟩
   subst hk8
   refine sq (detn [(4, aR 0 1 g6)] (by kernel_rfl) (wp_ret ?_))
   obtain rfl := Option.some.inj hm
   exact ⟨trivial, aR 0 1 g6, [bR 5 1 (rI .u8) y3 0 0], by kernel_rfl, g6, (by first | rfl | assumption | omega | (simp only [List.length_set, List.length_append, List.length_cons, List.length_nil, List.length_replicate] at *; omega)), rfl, rfl⟩
  refine sq (rg (sh 1 [(12, .pv (encSl R_api_Value a0))] (by kernel_rfl) (dv 13 (v := aI ((sll a0).length : Int)) (len_slO R_api_Value a0 t22 (by kernel_rfl)) (by kernel_rfl) (sh 1 [(14, aI 0)] (by kernel_rfl) (fin [(0, aR 0 1 x2.length), (12, .pv (encSl R_api_Value a0)), (13, aI ((sll a0).length : Int)), (14, aI 0)] rfl (by kernel_rfl) (bq ?_))))))
  refine loopF (fun mm t H => (∃ (y13 : (List Int)) (y14 : Int) (g15 : Nat), row_Put_nil_l3 n a0 k8 mm y13 y14 = some r ∧ t = mk 23 [(0, aR 0 1 g15), (12, .pv (encSl R_api_Value a0)), (13, aI ((sll a0).length : Int)), (14, aI y14)] ∧ H = [bR 5 1 (rI .u8) y13 0 0] ∧ y13.length = g15)) (⟨x2, 0, x2.length, hm, rfl, rfl, (by first | rfl | assumption | omega | (simp only [List.length_set, List.length_append, List.length_cons, List.length_nil, List.length_replicate] at *; omega))⟩) ?_ ?_
  · rintro _ _ ⟨y13, y14, g15, hm, _⟩; exact nomatch hm
  rintro m17 _ _ ⟨y13, y14, g15, hm, rfl, rfl, q16⟩
  simp only [row_Put_nil_l3] at hm
  refine sq (detn [(0, aR 0 1 g15), (12, .pv (encSl R_api_Value a0)), (13, aI ((sll a0).length : Int)), (14, aI y14), (15, aB (decide (y14 < ((sll a0).length : Int))))] (by kernel_rfl) ?_)
  refine sq ?_
  rcases bif_some hm with ⟨h18, hm⟩ | ⟨h18, hm⟩
  ·
   refine ct h18 (by kernel_rfl) (wp_skip (sq (bq (sq (rg ?_)))))
   obtain ⟨x19, h20, hm⟩ := bs hm
   refine dv 16 (v := .pv (.ptr (R_api_Value x19) 0)) (ia_slO R_api_Value a0 .i64 t22 t38 h20 rfl (by kernel_rfl)) (by kernel_rfl) (st 3 [(6, .ptr 1 0), (17, .agg [aI x19.fKind, aI x19.fInt, aF x19.fFloat, aS x19.fText])] [bR 5 1 (rI .u8) y13 0 0, .box [aI x19.fKind, aI x19.fInt, aF x19.fFloat, aS x19.fText] false] (by kernel_rfl) (fin [(0, aR 0 1 g15), (6, .ptr 1 0), (12, .pv (encSl R_api_Value a0)), (13, aI ((sll a0).length : Int)), (14, aI y14)] rfl (by kernel_rfl) (rg (sh 2 [(19, .agg [aI x19.fKind, aI x19.fInt, aF x19.fFloat, aS x19.fText]), (18, aR 0 1 g15)] (by kernel_rfl) ?_))))
   obtain ⟨x22, h21, hm⟩ := bs hm
   obtain ⟨vv, H1, hC, g23, q24, rfl, rfl⟩ := ok_value_Put_r g15 (by first | rfl | assumption | omega | (simp only [List.length_set, List.length_append, List.length_cons, List.length_nil, List.length_replicate] at *; omega)) h21
   refine dR [(20, aR 0 1 g23)] [bR 5 1 (rI .u8) x22 0 0, .box [aI x19.fKind, aI x19.fInt, aF x19.fFloat, aS x19.fText] false] [0] [aR 0 1 g15, .agg [aI x19.fKind, aI x19.fInt, aF x19.fFloat, aS x19.fText]] (by kernel_rfl) (by kernel_rfl) (by kernel_rfl) hC (by kernel_rfl) (sh 1 [(0, aR 0 1 g23)] (by kernel_rfl) (fin [(0, aR 0 1 g23), (12, .pv (encSl R_api_Value a0)), (13, aI ((sll a0).length : Int)), (14, aI y14)] rfl (by kernel_rfl) (detn [(0, aR 0 1 g23), (12, .pv (encSl R_api_Value a0)), (13, aI ((sll a0).length : Int)), (14, aI (IntKind.wrap .i64 (y14 + 1)))] (by kernel_rfl) ?_)))
   exact ⟨_, _, tidyL [(0, aR 0 1 g23), (12, .pv (encSl R_api_Value a0)), (13, aI ((sll a0).length : Int)), (14, aI (IntKind.wrap .i64 (y14 + 1)))] [bR 5 1 (rI .u8) x22 0 0] (by kernel_rfl), ⟨x22, (IntKind.wrap .i64 (y14 + 1)), g23, hm, rfl, rfl, (by first | rfl | assumption | omega | (simp only [List.length_set, List.length_append, List.length_cons, List.length_nil, List.length_replicate] at *; omega))⟩⟩
  ·
   refine cf h18 (by kernel_rfl) (wp_exit ?_)
   exact ⟨y13, y14, (decide (y14 < ((sll a0).length : Int))), g15, hm, rfl, rfl, (by first | rfl | assumption | omega | (simp only [List.length_set, List.length_append, List.length_cons, List.length_nil, List.length_replicate] at *; omega))⟩
theorem ok_codec_Read {n : Nat} {a0 : (Option (List Int))} {r : Unit} (hm : codec_Read n a0 = some r) :
    ∃ vv H1, call G n 27 [.pv (encSl (rI .u8) a0)] [] = some (.ret vv, H1) ∧ (vv = .ptr 0 0 ∧ H1 = [.box [aB true, .pv (encSl (rI .u8) a0), aI 0] false]) := by
  unfold codec_Read at hm
  obtain ⟨n, rfl, h0⟩ := at1_some hm
  replace hm := h0; clear h0
  refine callE 6 [(0, .pv (encSl (rI .u8) a0))] func27 rfl (by kernel_rfl) (sq (detn [(0, .pv (encSl (rI .u8) a0))] (by kernel_rfl) (sq (det [(2, .ptr 0 0)] [.box [aB true, .pv (encSl (rI .u8) a0), aI 0] false] (by kernel_rfl) (wp_ret ?_)))))
  obtain rfl := Option.some.inj hm
  exact ⟨trivial, .ptr 0 0, [.box [aB true, .pv (encSl (rI .u8) a0), aI 0] false], by kernel_rfl, rfl, rfl⟩
theorem ok_codec_Reader_ready {n : Nat} {a0 : codec_Reader} {r : Unit} (hm : codec_Reader_ready n a0 = some r) :
    ∃ vv H1, call G n 55 [.ptr 0 0] [.box [aB a0.fmade, .pv (encSl (rI .u8) a0.fb), aI a0.fe] false] = some (.ret vv, H1) ∧ (vv = aB (a0.fmade && (a0.fe == 0)) ∧ H1 = [.box [aB a0.fmade, .pv (encSl (rI .u8) a0.fb), aI a0.fe] false]) := by
  unfold codec_Reader_ready at hm
  obtain ⟨n, rfl, h0⟩ := at1_some hm
  replace hm := h0; clear h0
  refine callE 18 [(0, .ptr 0 0)] func55 rfl (by kernel_rfl) (sq (detn [(0, .ptr 0 0)] (by kernel_rfl) (sq (rg (sh 9 [(11, aB a0.fmade), (10, aB a0.fmade), (9, aB a0.fmade), (8, .ptr 0 0), (7, .ptr 0 0), (6, .ptr 0 0), (5, aB true), (4, aB true), (3, .ptr 0 0)] (by kernel_rfl) ?_)))))
  refine seg a0.fmade [11, 10, 9] (fun b => [(17, aB (b && (a0.fe == 0))), (16, ifA b (aB (a0.fe == 0)) (.undef)), (15, ifA b (aI a0.fe) (.undef)), (14, ifA b (.ptr 0 2) (.undef)), (13, ifA b (.ptr 0 0) (.undef)), (12, ifA b (.ptr 0 0) (.undef))]) 15 (by kernel_rfl) ?_ ?_ ?_
  ·
   intro Q h
   refine sh 6 [(17, aB (a0.fe == 0)), (16, aB (a0.fe == 0)), (15, aI a0.fe), (14, .ptr 0 2), (13, .ptr 0 0), (12, .ptr 0 0)] (by kernel_rfl) ?_
   exact sameN (by kernel_rfl) (by kernel_rfl) h
  ·
   intro Q h
   refine sh 6 [(17, aB false), (16, .undef), (15, .undef), (14, .undef), (13, .undef), (12, .undef)] (by kernel_rfl) ?_
   exact sameN (by kernel_rfl) (by kernel_rfl) h
  refine sh 1 [(2, aB (a0.fmade && (a0.fe == 0)))] (by kernel_rfl) (fin [(2, aB (a0.fmade && (a0.fe == 0)))] rfl (by kernel_rfl) (wp_ret ?_))
  obtain rfl := Option.some.inj hm
  exact ⟨trivial, aB (a0.fmade && (a0.fe == 0)), [.box [aB a0.fmade, .pv (encSl (rI .u8) a0.fb), aI a0.fe] false], by kernel_rfl, rfl, rfl⟩
theorem ok_codec_Reader_fail {n : Nat} {a0 : codec_Reader} {a1 : Int} {r : Unit} (hm : codec_Reader_fail n a0 a1 = some r) :
    ∃ vv H1, call G n 74 [.ptr 0 0, aI a1] [.box [aB a0.fmade, .pv (encSl (rI .u8) a0.fb), aI a0.fe] false] = some (.ret vv, H1) ∧ (vv = .tup [] ∧ H1 = [.box [aB a0.fmade, .pv .nils, aI a1] false]) := by
  unfold codec_Reader_fail at hm
  obtain ⟨n, rfl, h0⟩ := at1_some hm
  replace hm := h0; clear h0
  refine callE 11 [(0, .ptr 0 0), (1, aI a1)] func74 rfl (by kernel_rfl) (det [] [.box [aB a0.fmade, .pv .nils, aI a1] false] (by kernel_rfl) ?_)
  obtain rfl := Option.some.inj hm
  exact ⟨trivial, .tup [], [.box [aB a0.fmade, .pv .nils, aI a1] false], by kernel_rfl, rfl, rfl⟩
theorem ok_codec_Reader_take {n : Nat} {a0 : codec_Reader} {a1 : Int} {r : (Option (List Int)) × Int × (Option (List Int)) × Bool} (hm : codec_Reader_take n a0 a1 = some r) :
    ∃ vv H1, call G n 92 [.ptr 0 0, aI a1] [.box [aB a0.fmade, .pv (encSl (rI .u8) a0.fb), aI a0.fe] false] = some (.ret vv, H1) ∧ (match r with | (r0, r1, r2, r3) => (vv = .tup [.pv (encSl (rI .u8) r2), aB r3] ∧ H1 = [.box [aB a0.fmade, .pv (encSl (rI .u8) r0), aI r1] false])) := by
  unfold codec_Reader_take at hm
  obtain ⟨n, rfl, h0⟩ := at1_some hm
  replace hm := h0; clear h0
  refine callE 32 [(0, .ptr 0 0), (1, aI a1)] func92 rfl (by kernel_rfl) (sq (detn [(0, .ptr 0 0), (1, aI a1)] (by kernel_rfl) ?_))
  refine sq (sq (rg (sh 5 [(11, .pv (encSl (rI .u8) a0.fb)), (10, .ptr 0 1), (9, .ptr 0 0), (8, .ptr 0 0), (7, aI a1)] (by kernel_rfl) (dv 12 (v := aI ((sll a0.fb).length : Int)) (len_slO (rI .u8) a0.fb t39 (by kernel_rfl)) (by kernel_rfl) (sh 1 [(13, aB (decide (a1 > ((sll a0.fb).length : Int))))] (by kernel_rfl) (fin [(0, .ptr 0 0), (1, aI a1), (13, aB (decide (a1 > ((sll a0.fb).length : Int))))] rfl (by kernel_rfl) ?_))))))
  rcases bif_some hm with ⟨h1, hm⟩ | ⟨h1, hm⟩
  ·
   refine ct h1 (by kernel_rfl) (sq (rg (sh 1 [(14, .ptr 0 0)] (by kernel_rfl) ?_)))
   obtain ⟨_, h2, hm⟩ := bs hm
   obtain ⟨vv, H1, hC, rfl, rfl⟩ := ok_codec_Reader_fail h2
   refine dR [(15, .tup [])] [.box [aB a0.fmade, .pv .nils, aI 21] false] [0] [.ptr 0 0, aI 21] (by kernel_rfl) (by kernel_rfl) (by kernel_rfl) hC (by kernel_rfl) (fin [] rfl (by kernel_rfl) (sq (detn [(4, .pv .nils), (5, aB false)] (by kernel_rfl) (wp_ret ?_))))
   obtain rfl := Option.some.inj hm
   exact ⟨trivial, .tup [.pv .nils, aB false], [.box [aB a0.fmade, .pv .nils, aI 21] false], by kernel_rfl, rfl, rfl⟩
  ·
   refine cf h1 (by kernel_rfl) (wp_skip (sq (rg (sh 5 [(20, aI a1), (19, .pv (encSl (rI .u8) a0.fb)), (18, .ptr 0 1), (17, .ptr 0 0), (16, .ptr 0 0)] (by kernel_rfl) ?_))))
   obtain ⟨_, h3, hm⟩ := bs hm
   refine dv 21 (v := .pv (encSl (rI .u8) (subSl a0.fb 0 a1))) (slice_slO (rI .u8) a0.fb (k := .i64) (k' := .i64) (xl := none) (xh := some (aI a1)) (esz := 1) h3 (fun _ => rfl) (.inl ⟨rfl, rfl⟩) (.inr rfl) (by kernel_rfl)) (by kernel_rfl) (sh 1 [(6, .pv (encSl (rI .u8) (subSl a0.fb 0 a1)))] (by kernel_rfl) (fin [(0, .ptr 0 0), (1, aI a1), (6, .pv (encSl (rI .u8) (subSl a0.fb 0 a1)))] rfl (by kernel_rfl) (sq (rg (sh 6 [(27, aI a1), (26, .pv (encSl (rI .u8) a0.fb)), (25, .ptr 0 1), (24, .ptr 0 0), (23, .ptr 0 0), (22, .ptr 0 0)] (by kernel_rfl) ?_)))))
   obtain ⟨_, h4, hm⟩ := bs hm
   refine dv 28 (v := .pv (encSl (rI .u8) (subSl a0.fb a1 ((sll a0.fb).length : Int)))) (slice_slO (rI .u8) a0.fb (k := .i64) (k' := .i64) (xl := some (aI a1)) (xh := none) (esz := 1) h4 (fun _ => rfl) (.inr rfl) (.inl ⟨rfl, rfl⟩) (by kernel_rfl)) (by kernel_rfl) (st 3 [(30, .ptr 0 1), (29, .ptr 0 0)] [.box [aB a0.fmade, .pv (encSl (rI .u8) (subSl a0.fb a1 ((sll a0.fb).length : Int))), aI a0.fe] false] (by kernel_rfl) (fin [(6, .pv (encSl (rI .u8) (subSl a0.fb 0 a1)))] rfl (by kernel_rfl) (sq (detn [(4, .pv (encSl (rI .u8) (subSl a0.fb 0 a1))), (5, aB true)] (by kernel_rfl) (wp_ret ?_)))))
   obtain rfl := Option.some.inj hm
   exact ⟨trivial, .tup [.pv (encSl (rI .u8) (subSl a0.fb 0 a1)), aB true], [.box [aB a0.fmade, .pv (encSl (rI .u8) (subSl a0.fb a1 ((sll a0.fb).length : Int))), aI a0.fe] false], by kernel_rfl, rfl, rfl⟩
theorem ok_codec_Reader_number {n : Nat} {a0 : codec_Reader} {r : Bool × (Option (List Int)) × Int × Int × Bool} (hm : codec_Reader_number n a0 = some r) :
    ∃ vv H1, call G n 73 [.ptr 0 0] [.box [aB a0.fmade, .pv (encSl (rI .u8) a0.fb), aI a0.fe] false] = some (.ret vv, H1) ∧ (match r with | (r0, r1, r2, r3, r4) => (vv = .tup [aU r3, aB r4] ∧ H1 = [.box [aB r0, .pv (encSl (rI .u8) r1), aI r2] false])) := by
  unfold codec_Reader_number at hm
  obtain ⟨n, rfl, h0⟩ := at1_some hm
  replace hm := h0; clear h0
  refine callE 52 [(0, .ptr 0 0)] func73 rfl (by kernel_rfl) (sq (detn [(0, .ptr 0 0), (2, aU 0)] (by kernel_rfl) (scq (sq (detn [(0, .ptr 0 0), (2, aU 0), (4, aI 22)] (by kernel_rfl) ?_)))))
  refine sq (sq (detn [(0, .ptr 0 0), (2, aU 0), (4, aI 22), (5, aI 0)] (by kernel_rfl) (bq ?_)))
  refine loopF (fun mm t H => (∃ (y10 : Bool) (y11 : (Option (List Int))) (y12 : Int) (y13 : Int) (y14 : Int), codec_Reader_number_l4 n mm y10 y11 y12 y13 y14 = some r ∧ t = mk 52 [(0, .ptr 0 0), (2, aU y13), (4, aI 22), (5, aI y14)] ∧ H = [.box [aB y10, .pv (encSl (rI .u8) y11), aI y12] false])) (⟨a0.fmade, a0.fb, a0.fe, 0, 0, hm, rfl, rfl⟩) ?_ ?_
  · rintro _ _ ⟨y10, y11, y12, y13, y14, hm, _⟩; exact nomatch hm
  rintro m15 _ _ ⟨y10, y11, y12, y13, y14, hm, rfl, rfl⟩
  simp only [codec_Reader_number_l4] at hm
  refine sq (bq ?_)
  refine sq (sq (detn [(0, .ptr 0 0), (2, aU y13), (4, aI 22), (5, aI y14), (12, aB (y14 == 10))] (by kernel_rfl) ?_))
  rcases bif_some hm with ⟨h16, hm⟩ | ⟨h16, hm⟩
  ·
   refine ct h16 (by kernel_rfl) (wp_goto ?_)
   refine ⟨by kernel_rfl, ?_⟩
   refine wp_seq_r (by kernel_rfl) (wp_seq_r (by kernel_rfl) (sql (by kernel_rfl) (wp_label_l (sq (rg (sh 2 [(50, aI 22), (49, .ptr 0 0)] (by kernel_rfl) ?_))))))
   obtain ⟨_, h17, hm⟩ := bs hm
   obtain ⟨vv, H1, hC, rfl, rfl⟩ := ok_codec_Reader_fail h17
   refine dR [(51, .tup [])] [.box [aB ((codec_Reader.mk y10 y11 y12).fmade), .pv .nils, aI 22] false] [0] [.ptr 0 0, aI 22] (by kernel_rfl) (by kernel_rfl) (by kernel_rfl) hC (by kernel_rfl) (fin [] rfl (by kernel_rfl) (sq (detn [(2, aU 0), (3, aB false)] (by kernel_rfl) (wp_ret ?_))))
   obtain rfl := Option.some.inj hm
   exact ⟨trivial, .tup [aU 0, aB false], [.box [aB ((codec_Reader.mk y10 y11 y12).fmade), .pv .nils, aI 22] false], by kernel_rfl, rfl, rfl⟩
  ·
   refine cf h16 (by kernel_rfl) (wp_skip (sq (rg (sh 1 [(14, .ptr 0 0)] (by kernel_rfl) ?_))))
   obtain ⟨⟨x19, x20, x21, x22⟩, h18, hm⟩ := bs hm
   obtain ⟨vv, H1, hC, rfl, rfl⟩ := ok_codec_Reader_take h18
   refine dR [(15, .tup [.pv (encSl (rI .u8) x21), aB x22])] [.box [aB ((codec_Reader.mk y10 y11 y12).fmade), .pv (encSl (rI .u8) x19), aI x20] false] [0] [.ptr 0 0, aI 1] (by kernel_rfl) (by kernel_rfl) (by kernel_rfl) hC (by kernel_rfl) (sh 5 [(7, aB x22), (6, .pv (encSl (rI .u8) x21)), (17, aB x22), (16, .pv (encSl (rI .u8) x21)), (13, .tup [.pv (encSl (rI .u8) x21), aB x22])] (by kernel_rfl) (fin [(0, .ptr 0 0), (2, aU y13), (4, aI 22), (5, aI y14), (6, .pv (encSl (rI .u8) x21)), (7, aB x22)] rfl (by kernel_rfl) ?_))
   refine sq (sq (detn [(0, .ptr 0 0), (2, aU y13), (4, aI 22), (5, aI y14), (6, .pv (encSl (rI .u8) x21)), (19, aB (!x22))] (by kernel_rfl) ?_))
   rcases bif_some hm with ⟨h23, hm⟩ | ⟨h23, hm⟩
   ·
    refine ct h23 (by kernel_rfl) (sq (detn [(2, aU 0), (3, aB false)] (by kernel_rfl) (wp_ret ?_)))
    obtain rfl := Option.some.inj hm
    exact ⟨trivial, .tup [aU 0, aB false], [.box [aB ((codec_Reader.mk y10 y11 y12).fmade), .pv (encSl (rI .u8) x19), aI x20] false], by kernel_rfl, rfl, rfl⟩
   ·
    refine cf h23 (by kernel_rfl) (wp_skip (sq (rg (sh 1 [(20, .pv (encSl (rI .u8) x21))] (by kernel_rfl) ?_))))
    obtain ⟨x24, h25, hm⟩ := bs hm
    refine dv 21 (v := .pv (.ptr ((rI .u8) x24) 0)) (ia_slO (rI .u8) x21 .i64 t39 t5 h25 rfl (by kernel_rfl)) (by kernel_rfl) (sh 2 [(8, aY x24), (22, aY x24)] (by kernel_rfl) (fin [(0, .ptr 0 0), (2, aU y13), (4, aI 22), (5, aI y14), (8, aY x24)] rfl (by kernel_rfl) ?_))
    refine sq (sq (rg (sh 3 [(25, aB (y14 == 9)), (24, aB (y14 == 9)), (23, aI y14)] (by kernel_rfl) ?_)))
    refine seg (y14 == 9) [25, 24] (fun b => [(28, aB (b && (decide (x24 > 1)))), (27, ifA b (aB (decide (x24 > 1))) (.undef)), (26, ifA b (aY x24) (.undef))]) 6 (by kernel_rfl) ?_ ?_ ?_
    ·
     intro Q h
     refine sh 3 [(28, aB (decide (x24 > 1))), (27, aB (decide (x24 > 1))), (26, aY x24)] (by kernel_rfl) ?_
     exact sameN (by kernel_rfl) (by kernel_rfl) h
    ·
     intro Q h
     refine sh 3 [(28, aB false), (27, .undef), (26, .undef)] (by kernel_rfl) ?_
     exact sameN (by kernel_rfl) (by kernel_rfl) h
    refine sh 1 [(29, aB ((y14 == 9) && (decide (x24 > 1))))] (by kernel_rfl) ?_
    refine seg ((y14 == 9) && (decide (x24 > 1))) [29, 28] (fun b => [(36, aB (b || ((decide (y14 > 0)) && (x24 == 0)))), (35, ifA b (.undef) (aB ((decide (y14 > 0)) && (x24 == 0)))), (34, ifA b (.undef) (ifA (decide (y14 > 0)) (aB (x24 == 0)) (.undef))), (33, ifA b (.undef) (ifA (decide (y14 > 0)) (aY x24) (.undef))), (32, ifA b (.undef) (aB (decide (y14 > 0)))), (31, ifA b (.undef) (aB (decide (y14 > 0)))), (30, ifA b (.undef) (aI y14))]) 14 (by kernel_rfl) ?_ ?_ ?_
    ·
     intro Q h
     refine sh 7 [(36, aB true), (35, .undef), (34, .undef), (33, .undef), (32, .undef), (31, .undef), (30, .undef)] (by kernel_rfl) ?_
     exact sameN (by kernel_rfl) (by kernel_rfl) h
    ·
     intro Q h
     refine sh 3 [(32, aB (decide (y14 > 0))), (31, aB (decide (y14 > 0))), (30, aI y14)] (by kernel_rfl) ?_
     refine seg (decide (y14 > 0)) [32, 31] (fun b => [(35, aB (b && (x24 == 0))), (34, ifA b (aB (x24 == 0)) (.undef)), (33, ifA b (aY x24) (.undef))]) 13 (by kernel_rfl) ?_ ?_ ?_
     ·
      intro Q h
      refine sh 3 [(35, aB (x24 == 0)), (34, aB (x24 == 0)), (33, aY x24)] (by kernel_rfl) ?_
      exact sameN (by kernel_rfl) (by kernel_rfl) h
     ·
      intro Q h
      refine sh 3 [(35, aB false), (34, .undef), (33, .undef)] (by kernel_rfl) ?_
      exact sameN (by kernel_rfl) (by kernel_rfl) h
     refine sh 1 [(36, aB ((decide (y14 > 0)) && (x24 == 0)))] (by kernel_rfl) ?_
     exact sameN (by kernel_rfl) (by kernel_rfl) h
    refine fin [(0, .ptr 0 0), (2, aU y13), (4, aI 22), (5, aI y14), (8, aY x24), (36, aB (((y14 == 9) && (decide (x24 > 1))) || ((decide (y14 > 0)) && (x24 == 0))))] rfl (by kernel_rfl) ?_
    rcases bif_some hm with ⟨h26, hm⟩ | ⟨h26, hm⟩
    ·
     refine ct h26 (by kernel_rfl) (wp_goto ?_)
     refine ⟨by kernel_rfl, ?_⟩
     refine wp_seq_r (by kernel_rfl) (wp_seq_r (by kernel_rfl) (sql (by kernel_rfl) (wp_label_l (sq (rg (sh 2 [(50, aI 22), (49, .ptr 0 0)] (by kernel_rfl) ?_))))))
     obtain ⟨_, h27, hm⟩ := bs hm
     obtain ⟨vv, H1, hC, rfl, rfl⟩ := ok_codec_Reader_fail h27
     refine dR [(51, .tup [])] [.box [aB ((codec_Reader.mk ((codec_Reader.mk y10 y11 y12).fmade) x19 x20).fmade), .pv .nils, aI 22] false] [0] [.ptr 0 0, aI 22] (by kernel_rfl) (by kernel_rfl) (by kernel_rfl) hC (by kernel_rfl) (fin [] rfl (by kernel_rfl) (sq (detn [(2, aU 0), (3, aB false)] (by kernel_rfl) (wp_ret ?_))))
     obtain rfl := Option.some.inj hm
     exact ⟨trivial, .tup [aU 0, aB false], [.box [aB ((codec_Reader.mk ((codec_Reader.mk y10 y11 y12).fmade) x19 x20).fmade), .pv .nils, aI 22] false], by kernel_rfl, rfl, rfl⟩
    ·
     refine cf h26 (by kernel_rfl) (wp_skip (sq (rg (sh 7 [(43, aU (IntKind.wrap .u64 (IntKind.wrap .i64 (7 * y14)))), (42, aI (IntKind.wrap .i64 (7 * y14))), (41, aI y14), (40, aU (IntKind.wrap .u64 (iAnd .u8 x24 127))), (39, aY (iAnd .u8 x24 127)), (38, aY x24), (37, aU y13)] (by kernel_rfl) ?_))))
     obtain ⟨_, h28, hm⟩ := bs hm
     refine dv 44 (v := aU (iShl .u64 (IntKind.wrap .u64 (iAnd .u8 x24 127)) (IntKind.wrap .u64 (IntKind.wrap .i64 (7 * y14))))) (shlO h28 (by kernel_rfl)) (by kernel_rfl) (sh 2 [(2, aU (iOr .u64 y13 (iShl .u64 (IntKind.wrap .u64 (iAnd .u8 x24 127)) (IntKind.wrap .u64 (IntKind.wrap .i64 (7 * y14)))))), (45, aU (iOr .u64 y13 (iShl .u64 (IntKind.wrap .u64 (iAnd .u8 x24 127)) (IntKind.wrap .u64 (IntKind.wrap .i64 (7 * y14))))))] (by kernel_rfl) (fin [(0, .ptr 0 0), (2, aU (iOr .u64 y13 (iShl .u64 (IntKind.wrap .u64 (iAnd .u8 x24 127)) (IntKind.wrap .u64 (IntKind.wrap .i64 (7 * y14)))))), (4, aI 22), (5, aI y14), (8, aY x24)] rfl (by kernel_rfl) (sq (detn [(0, .ptr 0 0), (2, aU (iOr .u64 y13 (iShl .u64 (IntKind.wrap .u64 (iAnd .u8 x24 127)) (IntKind.wrap .u64 (IntKind.wrap .i64 (7 * y14)))))), (4, aI 22), (5, aI y14), (47, aB (decide (x24 < 128)))] (by kernel_rfl) ?_))))
     rcases bif_some hm with ⟨h29, hm⟩ | ⟨h29, hm⟩
     ·
      refine ct h29 (by kernel_rfl) (sq (detn [(2, aU (iOr .u64 y13 (iShl .u64 (IntKind.wrap .u64 (iAnd .u8 x24 127)) (IntKind.wrap .u64 (IntKind.wrap .i64 (7 * y14)))))), (3, aB true)] (by kernel_rfl) (wp_ret ?_)))
      obtain rfl := Option.some.inj hm
      exact ⟨trivial, .tup [aU (iOr .u64 y13 (iShl .u64 (IntKind.wrap .u64 (iAnd .u8 x24 127)) (IntKind.wrap .u64 (IntKind.wrap .i64 (7 * y14))))), aB true], [.box [aB ((codec_Reader.mk y10 y11 y12).fmade), .pv (encSl (rI .u8) x19), aI x20] false], by kernel_rfl, rfl, rfl⟩
     ·
      refine cf h29 (by kernel_rfl) (wp_skip (detn [(0, .ptr 0 0), (2, aU (iOr .u64 y13 (iShl .u64 (IntKind.wrap .u64 (iAnd .u8 x24 127)) (IntKind.wrap .u64 (IntKind.wrap .i64 (7 * y14)))))), (4, aI 22), (5, aI (IntKind.wrap .i64 (y14 + 1)))] (by kernel_rfl) ?_))
      exact ⟨_, _, tidyL [(0, .ptr 0 0), (2, aU (iOr .u64 y13 (iShl .u64 (IntKind.wrap .u64 (iAnd .u8 x24 127)) (IntKind.wrap .u64 (IntKind.wrap .i64 (7 * y14)))))), (4, aI 22), (5, aI (IntKind.wrap .i64 (y14 + 1)))] [.box [aB ((codec_Reader.mk y10 y11 y12).fmade), .pv (encSl (rI .u8) x19), aI x20] false] (by kernel_rfl), ⟨((codec_Reader.mk y10 y11 y12).fmade), x19, x20, (iOr .u64 y13 (iShl .u64 (IntKind.wrap .u64 (iAnd .u8 x24 127)) (IntKind.wrap .u64 (IntKind.wrap .i64 (7 * y14))))), (IntKind.wrap .i64 (y14 + 1)), hm, rfl, rfl⟩⟩
theorem ok_codec_Reader_Uint {n : Nat} {a0 : codec_Reader} {a1 : Int} {r : Bool × (Option (List Int)) × Int × Int} (hm : codec_Reader_Uint n a0 a1 = some r) :
    ∃ vv H1, call G n 52 [.ptr 0 0, aU a1] [.box [aB a0.fmade, .pv (encSl (rI .u8) a0.fb), aI a0.fe] false] = some (.ret vv, H1) ∧ (match r with | (r0, r1, r2, r3) => (vv = aU r3 ∧ H1 = [.box [aB r0, .pv (encSl (rI .u8) r1), aI r2] false])) := by
  unfold codec_Reader_Uint at hm
  obtain ⟨n, rfl, h0⟩ := at1_some hm
  replace hm := h0; clear h0
  refine callE 24 [(0, .ptr 0 0), (1, aU a1)] func52 rfl (by kernel_rfl) (sq (detn [(0, .ptr 0 0), (1, aU a1)] (by kernel_rfl) ?_))
  refine sq (sq (rg (sh 1 [(7, .ptr 0 0)] (by kernel_rfl) ?_)))
  obtain ⟨_, h1, hm⟩ := bs hm
  obtain ⟨vv, H1, hC, rfl, rfl⟩ := ok_codec_Reader_ready h1
  refine dR [(8, aB (a0.fmade && (a0.fe == 0)))] [.box [aB a0.fmade, .pv (encSl (rI .u8) a0.fb), aI a0.fe] false] [0] [.ptr 0 0] (by kernel_rfl) (by kernel_rfl) (by kernel_rfl) hC (by kernel_rfl) (sh 1 [(9, aB (!(a0.fmade && (a0.fe == 0))))] (by kernel_rfl) (fin [(0, .ptr 0 0), (1, aU a1), (9, aB (!(a0.fmade && (a0.fe == 0))))] rfl (by kernel_rfl) ?_))
  rcases bif_some hm with ⟨h2, hm⟩ | ⟨h2, hm⟩
  ·
   refine ct h2 (by kernel_rfl) (sq (detn [(4, aU 0)] (by kernel_rfl) (wp_ret ?_)))
   obtain rfl := Option.some.inj hm
   exact ⟨trivial, aU 0, [.box [aB a0.fmade, .pv (encSl (rI .u8) a0.fb), aI a0.fe] false], by kernel_rfl, rfl, rfl⟩
  ·
   refine cf h2 (by kernel_rfl) (wp_skip (sq (rg (sh 1 [(11, .ptr 0 0)] (by kernel_rfl) ?_))))
   obtain ⟨⟨x4, x5, x6, x7, x8⟩, h3, hm⟩ := bs hm
   obtain ⟨vv, H1, hC, rfl, rfl⟩ := ok_codec_Reader_number h3
   refine dR [(12, .tup [aU x7, aB x8])] [.box [aB x4, .pv (encSl (rI .u8) x5), aI x6] false] [0] [.ptr 0 0] (by kernel_rfl) (by kernel_rfl) (by kernel_rfl) hC (by kernel_rfl) (sh 5 [(6, aB x8), (5, aU x7), (14, aB x8), (13, aU x7), (10, .tup [aU x7, aB x8])] (by kernel_rfl) (fin [(0, .ptr 0 0), (1, aU a1), (5, aU x7), (6, aB x8)] rfl (by kernel_rfl) (sq (sq (rg (sh 2 [(16, aB x8), (15, aB x8)] (by kernel_rfl) ?_))))))
   refine seg x8 [16, 15, 6] (fun b => [(20, aB (b && (decide (x7 > a1)))), (19, ifA b (aB (decide (x7 > a1))) (.undef)), (18, ifA b (aU a1) (.undef)), (17, ifA b (aU x7) (.undef))]) 6 (by kernel_rfl) ?_ ?_ ?_
   ·
    intro Q h
    refine sh 4 [(20, aB (decide (x7 > a1))), (19, aB (decide (x7 > a1))), (18, aU a1), (17, aU x7)] (by kernel_rfl) ?_
    exact sameN (by kernel_rfl) (by kernel_rfl) h
   ·
    intro Q h
    refine sh 4 [(20, aB false), (19, .undef), (18, .undef), (17, .undef)] (by kernel_rfl) ?_
    exact sameN (by kernel_rfl) (by kernel_rfl) h
   refine fin [(0, .ptr 0 0), (5, aU x7), (20, aB (x8 && (decide (x7 > a1))))] rfl (by kernel_rfl) ?_
   rcases bif_some hm with ⟨h9, hm⟩ | ⟨h9, hm⟩
   ·
    refine ct h9 (by kernel_rfl) (sq (rg (sh 1 [(21, .ptr 0 0)] (by kernel_rfl) ?_)))
    obtain ⟨_, h10, hm⟩ := bs hm
    obtain ⟨vv, H1, hC, rfl, rfl⟩ := ok_codec_Reader_fail h10
    refine dR [(22, .tup [])] [.box [aB ((codec_Reader.mk x4 x5 x6).fmade), .pv .nils, aI 3] false] [0] [.ptr 0 0, aI 3] (by kernel_rfl) (by kernel_rfl) (by kernel_rfl) hC (by kernel_rfl) (fin [] rfl (by kernel_rfl) (sq (detn [(4, aU 0)] (by kernel_rfl) (wp_ret ?_))))
    obtain rfl := Option.some.inj hm
    exact ⟨trivial, aU 0, [.box [aB ((codec_Reader.mk x4 x5 x6).fmade), .pv .nils, aI 3] false], by kernel_rfl, rfl, rfl⟩
   ·
    refine cf h9 (by kernel_rfl) (wp_skip (sq (detn [(4, aU x7)] (by kernel_rfl) (wp_ret ?_))))
    obtain rfl := Option.some.inj hm
    exact ⟨trivial, aU x7, [.box [aB x4, .pv (encSl (rI .u8) x5), aI x6] false], by kernel_rfl, rfl, rfl⟩
theorem ok_codec_Reader_Err {n : Nat} {a0 : codec_Reader} {r : Int} (hm : codec_Reader_Err n a0 = some r) :
    ∃ vv H1, call G n 53 [.ptr 0 0] [.box [aB a0.fmade, .pv (encSl (rI .u8) a0.fb), aI a0.fe] false] = some (.ret vv, H1) ∧ (match r with | r0 => (vv = aI r0 ∧ H1 = [.box [aB a0.fmade, .pv (encSl (rI .u8) a0.fb), aI a0.fe] false])) := by
  unfold codec_Reader_Err at hm
  obtain ⟨n, rfl, h0⟩ := at1_some hm
  replace hm := h0; clear h0
  refine callE 16 [(0, .ptr 0 0)] func53 rfl (by kernel_rfl) (sq (detn [(0, .ptr 0 0)] (by kernel_rfl) (sq (sq (detn [(0, .ptr 0 0), (11, aB (!a0.fmade))] (by kernel_rfl) ?_)))))
  rcases bif_some hm with ⟨h1, hm⟩ | ⟨h1, hm⟩
  ·
   refine ct h1 (by kernel_rfl) (sq (detn [(2, aI 1)] (by kernel_rfl) (wp_ret ?_)))
   obtain rfl := Option.some.inj hm
   exact ⟨trivial, aI 1, [.box [aB a0.fmade, .pv (encSl (rI .u8) a0.fb), aI a0.fe] false], by kernel_rfl, rfl, rfl⟩
  ·
   refine cf h1 (by kernel_rfl) (wp_skip (sq (detn [(2, aI a0.fe)] (by kernel_rfl) (wp_ret ?_))))
   obtain rfl := Option.some.inj hm
   exact ⟨trivial, aI a0.fe, [.box [aB a0.fmade, .pv (encSl (rI .u8) a0.fb), aI a0.fe] false], by kernel_rfl, rfl, rfl⟩
theorem ok_codec_Reader_Fixed {n : Nat} {a0 : codec_Reader} {a1 : Int} {r : (Option (List Int)) × Int × Int} (hm : codec_Reader_Fixed n a0 a1 = some r) :
    ∃ vv H1, call G n 93 [.ptr 0 0, aI a1] [.box [aB a0.fmade, .pv (encSl (rI .u8) a0.fb), aI a0.fe] false] = some (.ret vv, H1) ∧ (match r with | (r0, r1, r2) => (vv = aU r2 ∧ H1 = [.box [aB a0.fmade, .pv (encSl (rI .u8) r0), aI r1] false])) := by
  unfold codec_Reader_Fixed at hm
  obtain ⟨n, rfl, h0⟩ := at1_some hm
  replace hm := h0; clear h0
  refine callE 34 [(0, .ptr 0 0), (1, aI a1)] func93 rfl (by kernel_rfl) (sq (detn [(0, .ptr 0 0), (1, aI a1)] (by kernel_rfl) ?_))
  refine sq (sq (rg (sh 1 [(10, .ptr 0 0)] (by kernel_rfl) ?_)))
  obtain ⟨_, h1, hm⟩ := bs hm
  obtain ⟨vv, H1, hC, rfl, rfl⟩ := ok_codec_Reader_ready h1
  refine dR [(11, aB (a0.fmade && (a0.fe == 0)))] [.box [aB a0.fmade, .pv (encSl (rI .u8) a0.fb), aI a0.fe] false] [0] [.ptr 0 0] (by kernel_rfl) (by kernel_rfl) (by kernel_rfl) hC (by kernel_rfl) (sh 1 [(12, aB (!(a0.fmade && (a0.fe == 0))))] (by kernel_rfl) (fin [(0, .ptr 0 0), (1, aI a1), (12, aB (!(a0.fmade && (a0.fe == 0))))] rfl (by kernel_rfl) ?_))
  rcases bif_some hm with ⟨h2, hm⟩ | ⟨h2, hm⟩
  ·
   refine ct h2 (by kernel_rfl) (sq (detn [(4, aU 0)] (by kernel_rfl) (wp_ret ?_)))
   obtain rfl := Option.some.inj hm
   exact ⟨trivial, aU 0, [.box [aB a0.fmade, .pv (encSl (rI .u8) a0.fb), aI a0.fe] false], by kernel_rfl, rfl, rfl⟩
  ·
   refine cf h2 (by kernel_rfl) (wp_skip (sq (rg (sh 4 [(17, aI (if 8 < (if 0 > a1 then 0 else a1) then 8 else (if 0 > a1 then 0 else a1))), (16, aI (if 0 > a1 then 0 else a1)), (15, aI a1), (14, .ptr 0 0)] (by kernel_rfl) ?_))))
   obtain ⟨⟨x4, x5, x6, x7⟩, h3, hm⟩ := bs hm
   obtain ⟨vv, H1, hC, rfl, rfl⟩ := ok_codec_Reader_take h3
   refine dR [(18, .tup [.pv (encSl (rI .u8) x6), aB x7])] [.box [aB a0.fmade, .pv (encSl (rI .u8) x4), aI x5] false] [0] [.ptr 0 0, aI (if 8 < (if 0 > a1 then 0 else a1) then 8 else (if 0 > a1 then 0 else a1))] (by kernel_rfl) (by kernel_rfl) (by kernel_rfl) hC (by kernel_rfl) (sh 5 [(6, aB x7), (5, .pv (encSl (rI .u8) x6)), (20, aB x7), (19, .pv (encSl (rI .u8) x6)), (13, .tup [.pv (encSl (rI .u8) x6), aB x7])] (by kernel_rfl) (fin [(5, .pv (encSl (rI .u8) x6))] rfl (by kernel_rfl) (sq (detn [(5, .pv (encSl (rI .u8) x6)), (7, aU 0)] (by kernel_rfl) ?_))))
   obtain ⟨k11, hk11, hm⟩ := withK_some hm
   refine mid (fun t H => (∃ (y8 : Int) (y9 : Bool) (y10 : Int), k11 y10 = some r ∧ t = mk 34 [(7, aU y10), (21, .pv (encSl (rI .u8) x6)), (22, aI ((sll x6).length : Int)), (23, aI y8), (24, aB y9)] ∧ H = [.box [aB a0.fmade, .pv (encSl (rI .u8) x4), aI x5] false])) ?_ ?_
   ·
    rintro _ _ ⟨y8, y9, y10, hm, rfl, rfl⟩
    subst hk11
    refine sq (detn [(4, aU y10)] (by kernel_rfl) (wp_ret ?_))
    obtain rfl := Option.some.inj hm
    exact ⟨trivial, aU y10, [.box [aB a0.fmade, .pv (encSl (rI .u8) x4), aI x5] false], by kernel_rfl, rfl, rfl⟩
   refine sq (rg (sh 1 [(21, .pv (encSl (rI .u8) x6))] (by kernel_rfl) (dv 22 (v := aI ((sll x6).length : Int)) (len_slO (rI .u8) x6 t39 (by kernel_rfl)) (by kernel_rfl) (sh 1 [(23, aI 0)] (by kernel_rfl) (fin [(7, aU 0), (21, .pv (encSl (rI .u8) x6)), (22, aI ((sll x6).length : Int)), (23, aI 0)] rfl (by kernel_rfl) (bq ?_))))))
   refine loopF (fun mm t H => (∃ (y14 : Int) (y15 : Int), codec_Reader_Fixed_l6 n x6 k11 mm y14 y15 = some r ∧ t = mk 34 [(7, aU y15), (21, .pv (encSl (rI .u8) x6)), (22, aI ((sll x6).length : Int)), (23, aI y14)] ∧ H = [.box [aB a0.fmade, .pv (encSl (rI .u8) x4), aI x5] false])) (⟨0, 0, hm, rfl, rfl⟩) ?_ ?_
   · rintro _ _ ⟨y14, y15, hm, _⟩; exact nomatch hm
   rintro m16 _ _ ⟨y14, y15, hm, rfl, rfl⟩
   simp only [codec_Reader_Fixed_l6] at hm
   refine sq (detn [(7, aU y15), (21, .pv (encSl (rI .u8) x6)), (22, aI ((sll x6).length : Int)), (23, aI y14), (24, aB (decide (y14 < ((sll x6).length : Int))))] (by kernel_rfl) ?_)
   refine sq ?_
   rcases bif_some hm with ⟨h17, hm⟩ | ⟨h17, hm⟩
   ·
    refine ct h17 (by kernel_rfl) (wp_skip (sq (bq (sq (rg ?_)))))
    obtain ⟨x18, h19, hm⟩ := bs hm
    refine dv 25 (v := .pv (.ptr ((rI .u8) x18) 0)) (ia_slO (rI .u8) x6 .i64 t39 t5 h19 rfl (by kernel_rfl)) (by kernel_rfl) (sh 2 [(9, aY x18), (26, aY x18)] (by kernel_rfl) (fin [(7, aU y15), (9, aY x18), (21, .pv (encSl (rI .u8) x6)), (22, aI ((sll x6).length : Int)), (23, aI y14)] rfl (by kernel_rfl) (detn [(7, aU (iOr .u64 (iShl .u64 y15 8) (IntKind.wrap .u64 x18))), (21, .pv (encSl (rI .u8) x6)), (22, aI ((sll x6).length : Int)), (23, aI y14)] (by kernel_rfl) (detn [(7, aU (iOr .u64 (iShl .u64 y15 8) (IntKind.wrap .u64 x18))), (21, .pv (encSl (rI .u8) x6)), (22, aI ((sll x6).length : Int)), (23, aI (IntKind.wrap .i64 (y14 + 1)))] (by kernel_rfl) ?_))))
    exact ⟨_, _, tidyL [(7, aU (iOr .u64 (iShl .u64 y15 8) (IntKind.wrap .u64 x18))), (21, .pv (encSl (rI .u8) x6)), (22, aI ((sll x6).length : Int)), (23, aI (IntKind.wrap .i64 (y14 + 1)))] [.box [aB a0.fmade, .pv (encSl (rI .u8) x4), aI x5] false] (by kernel_rfl), ⟨(IntKind.wrap .i64 (y14 + 1)), (iOr .u64 (iShl .u64 y15 8) (IntKind.wrap .u64 x18)), hm, rfl, rfl⟩⟩
   ·
    refine cf h17 (by kernel_rfl) (wp_exit ?_)
    exact ⟨y14, (decide (y14 < ((sll x6).length : Int))), y15, hm, rfl, rfl⟩
theorem ok_codec_Reader_Byte {n : Nat} {a0 : codec_Reader} {r : (Option (List Int)) × Int × Int} (hm : codec_Reader_Byte n a0 = some r) :
    ∃ vv H1, call G n 75 [.ptr 0 0] [.box [aB a0.fmade, .pv (encSl (rI .u8) a0.fb), aI a0.fe] false] = some (.ret vv, H1) ∧ (match r with | (r0, r1, r2) => (vv = aY r2 ∧ H1 = [.box [aB a0.fmade, .pv (encSl (rI .u8) r0), aI r1] false])) := by
  unfold codec_Reader_Byte at hm
  obtain ⟨n, rfl, h0⟩ := at1_some hm
  replace hm := h0; clear h0
  refine callE 6 [(0, .ptr 0 0)] func75 rfl (by kernel_rfl) (sq (detn [(0, .ptr 0 0)] (by kernel_rfl) (sq (rg (sh 1 [(3, .ptr 0 0)] (by kernel_rfl) ?_)))))
  obtain ⟨⟨x2, x3, x4⟩, h1, hm⟩ := bs hm
  obtain ⟨vv, H1, hC, rfl, rfl⟩ := ok_codec_Reader_Fixed h1
  refine dR [(4, aU x4)] [.box [aB a0.fmade, .pv (encSl (rI .u8) x2), aI x3] false] [0] [.ptr 0 0, aI 1] (by kernel_rfl) (by kernel_rfl) (by kernel_rfl) hC (by kernel_rfl) (sh 2 [(2, aY (IntKind.wrap .u8 x4)), (5, aY (IntKind.wrap .u8 x4))] (by kernel_rfl) (fin [(2, aY (IntKind.wrap .u8 x4))] rfl (by kernel_rfl) (wp_ret ?_)))
  obtain rfl := Option.some.inj hm
  exact ⟨trivial, aY (IntKind.wrap .u8 x4), [.box [aB a0.fmade, .pv (encSl (rI .u8) x2), aI x3] false], by kernel_rfl, rfl, rfl⟩
theorem ok_codec_Reader_Int {n : Nat} {a0 : codec_Reader} {r : Bool × (Option (List Int)) × Int × Int} (hm : codec_Reader_Int n a0 = some r) :
    ∃ vv H1, call G n 76 [.ptr 0 0] [.box [aB a0.fmade, .pv (encSl (rI .u8) a0.fb), aI a0.fe] false] = some (.ret vv, H1) ∧ (match r with | (r0, r1, r2, r3) => (vv = aI r3 ∧ H1 = [.box [aB r0, .pv (encSl (rI .u8) r1), aI r2] false])) := by
  unfold codec_Reader_Int at hm
  obtain ⟨n, rfl, h0⟩ := at1_some hm
  replace hm := h0; clear h0
  refine callE 16 [(0, .ptr 0 0)] func76 rfl (by kernel_rfl) (sq (detn [(0, .ptr 0 0)] (by kernel_rfl) (sq (rg (sh 1 [(4, .ptr 0 0)] (by kernel_rfl) ?_)))))
  obtain ⟨⟨x2, x3, x4, x5⟩, h1, hm⟩ := bs hm
  obtain ⟨vv, H1, hC, rfl, rfl⟩ := ok_codec_Reader_Uint h1
  refine dR [(5, aU x5)] [.box [aB x2, .pv (encSl (rI .u8) x3), aI x4] false] [0] [.ptr 0 0, aU 18446744073709551615] (by kernel_rfl) (by kernel_rfl) (by kernel_rfl) hC (by kernel_rfl) (sh 1 [(3, aU x5)] (by kernel_rfl) (fin [(3, aU x5)] rfl (by kernel_rfl) (sq (sq (detn [(3, aU x5), (8, aB ((iAnd .u64 x5 1) == 1))] (by kernel_rfl) ?_)))))
  rcases bif_some hm with ⟨h6, hm⟩ | ⟨h6, hm⟩
  ·
   refine ct h6 (by kernel_rfl) (sq (detn [(2, aI (IntKind.wrap .i64 (notI .u64 (iShr .u64 x5 1))))] (by kernel_rfl) (wp_ret ?_)))
   obtain rfl := Option.some.inj hm
   exact ⟨trivial, aI (IntKind.wrap .i64 (notI .u64 (iShr .u64 x5 1))), [.box [aB x2, .pv (encSl (rI .u8) x3), aI x4] false], by kernel_rfl, rfl, rfl⟩
  ·
   refine cf h6 (by kernel_rfl) (wp_skip (sq (detn [(2, aI (IntKind.wrap .i64 (iShr .u64 x5 1)))] (by kernel_rfl) (wp_ret ?_))))
   obtain rfl := Option.some.inj hm
   exact ⟨trivial, aI (IntKind.wrap .i64 (iShr .u64 x5 1)), [.box [aB x2, .pv (encSl (rI .u8) x3), aI x4] false], by kernel_rfl, rfl, rfl⟩
theorem ok_codec_Reader_Float {n : Nat} {a0 : codec_Reader} {r : Bool × (Option (List Int)) × Int × Nat} (hm : codec_Reader_Float n a0 = some r) :
    ∃ vv H1, call G n 77 [.ptr 0 0] [.box [aB a0.fmade, .pv (encSl (rI .u8) a0.fb), aI a0.fe] false] = some (.ret vv, H1) ∧ (match r with | (r0, r1, r2, r3) => (vv = aF r3 ∧ H1 = [.box [aB r0, .pv (encSl (rI .u8) r1), aI r2] false])) := by
  unfold codec_Reader_Float at hm
  obtain ⟨n, rfl, h0⟩ := at1_some hm
  replace hm := h0; clear h0
  refine callE 19 [(0, .ptr 0 0)] func77 rfl (by kernel_rfl) (sq (detn [(0, .ptr 0 0)] (by kernel_rfl) (sq (rg (sh 1 [(5, .ptr 0 0)] (by kernel_rfl) ?_)))))
  obtain ⟨⟨x2, x3, x4⟩, h1, hm⟩ := bs hm
  obtain ⟨vv, H1, hC, rfl, rfl⟩ := ok_codec_Reader_Fixed h1
  refine dR [(6, aU x4)] [.box [aB a0.fmade, .pv (encSl (rI .u8) x2), aI x3] false] [0] [.ptr 0 0, aI 8] (by kernel_rfl) (by kernel_rfl) (by kernel_rfl) hC (by kernel_rfl) (sh 1 [(3, aU x4)] (by kernel_rfl) (fin [(0, .ptr 0 0), (3, aU x4)] rfl (by kernel_rfl) ?_))
  refine sq (sq (rg (sh 1 [(7, .ptr 0 0)] (by kernel_rfl) ?_)))
  obtain ⟨_, h5, hm⟩ := bs hm
  obtain ⟨vv, H1, hC, rfl, rfl⟩ := ok_codec_Reader_ready h5
  refine dR [(8, aB ((codec_Reader.mk a0.fmade x2 x3).fmade && ((codec_Reader.mk a0.fmade x2 x3).fe == 0)))] [.box [aB a0.fmade, .pv (encSl (rI .u8) x2), aI x3] false] [0] [.ptr 0 0] (by kernel_rfl) (by kernel_rfl) (by kernel_rfl) hC (by kernel_rfl) (sh 1 [(9, aB (!((codec_Reader.mk a0.fmade x2 x3).fmade && ((codec_Reader.mk a0.fmade x2 x3).fe == 0))))] (by kernel_rfl) (fin [(0, .ptr 0 0), (3, aU x4), (9, aB (!((codec_Reader.mk a0.fmade x2 x3).fmade && ((codec_Reader.mk a0.fmade x2 x3).fe == 0))))] rfl (by kernel_rfl) ?_))
  rcases bif_some hm with ⟨h6, hm⟩ | ⟨h6, hm⟩
  ·
   refine ct h6 (by kernel_rfl) (sq (detn [(2, aF 0)] (by kernel_rfl) (wp_ret ?_)))
   obtain rfl := Option.some.inj hm
   exact ⟨trivial, aF 0, [.box [aB a0.fmade, .pv (encSl (rI .u8) x2), aI x3] false], by kernel_rfl, rfl, rfl⟩
  ·
   refine cf h6 (by kernel_rfl) (wp_skip (sq (rg (sh 1 [(10, aU x4)] (by kernel_rfl) (sh 1 [(11, aF (Int.toNat x4))] (by kernel_rfl) (sh 1 [(4, aF (Int.toNat x4))] (by kernel_rfl) (fin [(0, .ptr 0 0), (3, aU x4), (4, aF (Int.toNat x4))] rfl (by kernel_rfl) (sq (sq (rg (sh 1 [(12, aF (Int.toNat x4))] (by kernel_rfl) ?_)))))))))))
   obtain ⟨x7, h8, hm⟩ := bs hm
   refine dv 13 (cpure (by kernel_rfl) (ok_codec_bits h8) (by kernel_rfl) (by kernel_rfl) (by kernel_rfl)) (by kernel_rfl) (sh 2 [(15, aB (x7 != x4)), (14, aU x4)] (by kernel_rfl) (fin [(0, .ptr 0 0), (4, aF (Int.toNat x4)), (15, aB (x7 != x4))] rfl (by kernel_rfl) ?_))
   rcases bif_some hm with ⟨h9, hm⟩ | ⟨h9, hm⟩
   ·
    refine ct h9 (by kernel_rfl) (sq (rg (sh 1 [(16, .ptr 0 0)] (by kernel_rfl) ?_)))
    obtain ⟨_, h10, hm⟩ := bs hm
    obtain ⟨vv, H1, hC, rfl, rfl⟩ := ok_codec_Reader_fail h10
    refine dR [(17, .tup [])] [.box [aB ((codec_Reader.mk a0.fmade x2 x3).fmade), .pv .nils, aI 22] false] [0] [.ptr 0 0, aI 22] (by kernel_rfl) (by kernel_rfl) (by kernel_rfl) hC (by kernel_rfl) (fin [] rfl (by kernel_rfl) (sq (detn [(2, aF 0)] (by kernel_rfl) (wp_ret ?_))))
    obtain rfl := Option.some.inj hm
    exact ⟨trivial, aF 0, [.box [aB ((codec_Reader.mk a0.fmade x2 x3).fmade), .pv .nils, aI 22] false], by kernel_rfl, rfl, rfl⟩
   ·
    refine cf h9 (by kernel_rfl) (wp_skip (sq (detn [(2, aF (Int.toNat x4))] (by kernel_rfl) (wp_ret ?_))))
    obtain rfl := Option.some.inj hm
    exact ⟨trivial, aF (Int.toNat x4), [.box [aB a0.fmade, .pv (encSl (rI .u8) x2), aI x3] false], by kernel_rfl, rfl, rfl⟩
theorem ok_codec_Reader_Text {n : Nat} {a0 : codec_Reader} {a1 : Int} {r : Bool × (Option (List Int)) × Int × ByteArray} (hm : codec_Reader_Text n a0 a1 = some r) :
    ∃ vv H1, call G n 78 [.ptr 0 0, aI a1] [.box [aB a0.fmade, .pv (encSl (rI .u8) a0.fb), aI a0.fe] false] = some (.ret vv, H1) ∧ (match r with | (r0, r1, r2, r3) => (vv = aS r3 ∧ H1 = [.box [aB r0, .pv (encSl (rI .u8) r1), aI r2] false])) := by
  unfold codec_Reader_Text at hm
  obtain ⟨n, rfl, h0⟩ := at1_some hm
  replace hm := h0; clear h0
  refine callE 25 [(0, .ptr 0 0), (1, aI a1)] func78 rfl (by kernel_rfl) (sq (detn [(0, .ptr 0 0), (1, aI a1)] (by kernel_rfl) (sq (rg (sh 4 [(11, aU (IntKind.wrap .u64 (if 0 > a1 then 0 else a1))), (10, aI (if 0 > a1 then 0 else a1)), (9, aI a1), (8, .ptr 0 0)] (by kernel_rfl) ?_)))))
  obtain ⟨⟨x2, x3, x4, x5⟩, h1, hm⟩ := bs hm
  obtain ⟨vv, H1, hC, rfl, rfl⟩ := ok_codec_Reader_Uint h1
  refine dR [(12, aU x5)] [.box [aB x2, .pv (encSl (rI .u8) x3), aI x4] false] [0] [.ptr 0 0, aU (IntKind.wrap .u64 (if 0 > a1 then 0 else a1))] (by kernel_rfl) (by kernel_rfl) (by kernel_rfl) hC (by kernel_rfl) (sh 1 [(5, aU x5)] (by kernel_rfl) (fin [(0, .ptr 0 0), (5, aU x5)] rfl (by kernel_rfl) ?_))
  refine sq (sq (rg (sh 1 [(13, .ptr 0 0)] (by kernel_rfl) ?_)))
  obtain ⟨_, h6, hm⟩ := bs hm
  obtain ⟨vv, H1, hC, rfl, rfl⟩ := ok_codec_Reader_ready h6
  refine dR [(14, aB ((codec_Reader.mk x2 x3 x4).fmade && ((codec_Reader.mk x2 x3 x4).fe == 0)))] [.box [aB x2, .pv (encSl (rI .u8) x3), aI x4] false] [0] [.ptr 0 0] (by kernel_rfl) (by kernel_rfl) (by kernel_rfl) hC (by kernel_rfl) (sh 1 [(15, aB (!((codec_Reader.mk x2 x3 x4).fmade && ((codec_Reader.mk x2 x3 x4).fe == 0))))] (by kernel_rfl) (fin [(0, .ptr 0 0), (5, aU x5), (15, aB (!((codec_Reader.mk x2 x3 x4).fmade && ((codec_Reader.mk x2 x3 x4).fe == 0))))] rfl (by kernel_rfl) ?_))
  rcases bif_some hm with ⟨h7, hm⟩ | ⟨h7, hm⟩
  ·
   refine ct h7 (by kernel_rfl) (sq (detn [(4, aS ByteArray.empty)] (by kernel_rfl) (wp_ret ?_)))
   obtain rfl := Option.some.inj hm
   exact ⟨trivial, aS ByteArray.empty, [.box [aB x2, .pv (encSl (rI .u8) x3), aI x4] false], by kernel_rfl, rfl, rfl⟩
  ·
   refine cf h7 (by kernel_rfl) (wp_skip (sq (rg (sh 3 [(19, aI (IntKind.wrap .i64 x5)), (18, aU x5), (17, .ptr 0 0)] (by kernel_rfl) ?_))))
   obtain ⟨⟨x9, x10, x11, x12⟩, h8, hm⟩ := bs hm
   obtain ⟨vv, H1, hC, rfl, rfl⟩ := ok_codec_Reader_take h8
   refine dR [(20, .tup [.pv (encSl (rI .u8) x11), aB x12])] [.box [aB ((codec_Reader.mk x2 x3 x4).fmade), .pv (encSl (rI .u8) x9), aI x10] false] [0] [.ptr 0 0, aI (IntKind.wrap .i64 x5)] (by kernel_rfl) (by kernel_rfl) (by kernel_rfl) hC (by kernel_rfl) (sh 5 [(7, aB x12), (6, .pv (encSl (rI .u8) x11)), (22, aB x12), (21, .pv (encSl (rI .u8) x11)), (16, .tup [.pv (encSl (rI .u8) x11), aB x12])] (by kernel_rfl) (fin [(6, .pv (encSl (rI .u8) x11))] rfl (by kernel_rfl) (sq (rg (sh 1 [(23, .pv (encSl (rI .u8) x11))] (by kernel_rfl) (dv 24 (v := aS (strOf (sll x11))) (str_ofO (l := (sll x11)) t39 t9 t5 (src_sl (R := (rI .u8)) (s := x11)) (noStr_sl x11) (by kernel_rfl)) (by kernel_rfl) (sh 1 [(4, aS (strOf (sll x11)))] (by kernel_rfl) (fin [(4, aS (strOf (sll x11)))] rfl (by kernel_rfl) (wp_ret ?_)))))))))
   obtain rfl := Option.some.inj hm
   exact ⟨trivial, aS (strOf (sll x11)), [.box [aB ((codec_Reader.mk x2 x3 x4).fmade), .pv (encSl (rI .u8) x9), aI x10] false], by kernel_rfl, rfl, rfl⟩
theorem ok_value_Take {n : Nat} {a0 : codec_Reader} {r : Bool × (Option (List Int)) × Int × Int × Int × Nat × ByteArray × Int} (hm : value_Take n a0 = some r) :
    ∃ vv H1, call G n 54 [.ptr 0 0] [.box [aB a0.fmade, .pv (encSl (rI .u8) a0.fb), aI a0.fe] false] = some (.ret vv, H1) ∧ (match r with | (r0, r1, r2, r3, r4, r5, r6, r7) => (vv = .tup [.agg [aI r3, aI r4, aF r5, aS r6], aI r7] ∧ H1 = [.box [aB r0, .pv (encSl (rI .u8) r1), aI r2] false])) := by
  unfold value_Take at hm
  obtain ⟨n, rfl, h0⟩ := at1_some hm
  replace hm := h0; clear h0
  refine callE 46 [(0, .ptr 0 0)] func54 rfl (by kernel_rfl) (sq (det [(0, .ptr 0 0), (2, .ptr 1 0)] [.box [aB a0.fmade, .pv (encSl (rI .u8) a0.fb), aI a0.fe] false, .box [aI 0, aI 0, aF 0, aS ByteArray.empty] false] (by kernel_rfl) (sq (rg (sh 1 [(6, .ptr 0 0)] (by kernel_rfl) ?_)))))
  obtain ⟨⟨x2, x3, x4⟩, h1, hm⟩ := bs hm
  obtain ⟨vv, H1, hC, rfl, rfl⟩ := ok_codec_Reader_Byte h1
  refine dR [(7, aY x4)] [.box [aB a0.fmade, .pv (encSl (rI .u8) x2), aI x3] false, .box [aI 0, aI 0, aF 0, aS ByteArray.empty] false] [0] [.ptr 0 0] (by kernel_rfl) (by kernel_rfl) (by kernel_rfl) hC (by kernel_rfl) (st 4 [(4, .ptr 2 0), (9, .agg [aI (IntKind.wrap .i64 x4), aI 0, aF 0, aS ByteArray.empty]), (8, aI (IntKind.wrap .i64 x4))] [.box [aB a0.fmade, .pv (encSl (rI .u8) x2), aI x3] false, .box [aI 0, aI 0, aF 0, aS ByteArray.empty] false, .box [aI (IntKind.wrap .i64 x4), aI 0, aF 0, aS ByteArray.empty] false] (by kernel_rfl) (fin [(0, .ptr 0 0), (2, .ptr 1 0), (4, .ptr 2 0)] rfl (by kernel_rfl) ?_))
  obtain ⟨k12, hk12, hm⟩ := withK_some hm
  refine mid (fun t H => (∃ (y6 : Bool) (y7 : (Option (List Int))) (y8 : Int) (y9 : Int) (y10 : Nat) (y11 : ByteArray) (w5 : AV), k12 y6 y7 y8 y9 y10 y11 = some r ∧ t = mk 46 [(0, .ptr 0 0), (2, .ptr 1 0), (4, .ptr 2 0), (28, w5)] ∧ H = [.box [aB y6, .pv (encSl (rI .u8) y7), aI y8] false, .box [aI 0, aI 0, aF 0, aS ByteArray.empty] false, .box [aI (IntKind.wrap .i64 x4), aI y9, aF y10, aS y11] false])) ?_ ?_
  ·
   rintro _ _ ⟨y6, y7, y8, y9, y10, y11, w5, hm, rfl, rfl⟩
   subst hk12
   refine sq (sq (rg (sh 1 [(33, .ptr 0 0)] (by kernel_rfl) ?_)))
   obtain ⟨x14, h13, hm⟩ := bs hm
   obtain ⟨vv, H1, hC, rfl, rfl⟩ := ok_codec_Reader_Err h13
   refine dR [(34, aI x14)] [.box [aB y6, .pv (encSl (rI .u8) y7), aI y8] false, .box [aI 0, aI 0, aF 0, aS ByteArray.empty] false, .box [aI (IntKind.wrap .i64 x4), aI y9, aF y10, aS y11] false] [0] [.ptr 0 0] (by kernel_rfl) (by kernel_rfl) (by kernel_rfl) hC (by kernel_rfl) (sh 1 [(5, aI x14)] (by kernel_rfl) (fin [(2, .ptr 1 0), (4, .ptr 2 0), (5, aI x14)] rfl (by kernel_rfl) (bq (sq (detn [(2, .ptr 1 0), (4, .ptr 2 0), (5, aI x14), (35, aB (x14 != 0))] (by kernel_rfl) ?_)))))
   rcases bif_some hm with ⟨h15, hm⟩ | ⟨h15, hm⟩
   ·
    refine ct h15 (by kernel_rfl) (sq (detn [(2, .ptr 1 0), (3, aI x14)] (by kernel_rfl) (wp_ret ?_)))
    obtain rfl := Option.some.inj hm
    exact ⟨trivial, .tup [.agg [aI 0, aI 0, aF 0, aS ByteArray.empty], aI x14], [.box [aB y6, .pv (encSl (rI .u8) y7), aI y8] false], by kernel_rfl, rfl, rfl⟩
   ·
    refine cf h15 (by kernel_rfl) (sq (rg (sh 1 [(41, .agg [aI (IntKind.wrap .i64 x4), aI y9, aF y10, aS y11])] (by kernel_rfl) ?_)))
    obtain ⟨x16, h17, hm⟩ := bs hm
    refine dv 42 (cpure (by kernel_rfl) (ok_value_Right h17) (by kernel_rfl) (by kernel_rfl) (by kernel_rfl)) (by kernel_rfl) (sh 2 [(40, aB (!x16)), (43, aB (!x16))] (by kernel_rfl) (fin [(2, .ptr 1 0), (4, .ptr 2 0), (40, aB (!x16))] rfl (by kernel_rfl) ?_))
    rcases bif_some hm with ⟨h18, hm⟩ | ⟨h18, hm⟩
    ·
     refine ct h18 (by kernel_rfl) (sq (detn [(2, .ptr 1 0), (3, aI 22)] (by kernel_rfl) (wp_ret ?_)))
     obtain rfl := Option.some.inj hm
     exact ⟨trivial, .tup [.agg [aI 0, aI 0, aF 0, aS ByteArray.empty], aI 22], [.box [aB y6, .pv (encSl (rI .u8) y7), aI y8] false], by kernel_rfl, rfl, rfl⟩
    ·
     refine cf h18 (by kernel_rfl) (wp_skip (sq (det [(2, .ptr 1 0), (3, aI 0)] [.box [aB y6, .pv (encSl (rI .u8) y7), aI y8] false, .box [aI (IntKind.wrap .i64 x4), aI y9, aF y10, aS y11] false, .box [aI (IntKind.wrap .i64 x4), aI y9, aF y10, aS y11] false] (by kernel_rfl) (wp_ret ?_))))
     obtain rfl := Option.some.inj hm
     exact ⟨trivial, .tup [.agg [aI (IntKind.wrap .i64 x4), aI y9, aF y10, aS y11], aI 0], [.box [aB y6, .pv (encSl (rI .u8) y7), aI y8] false], by kernel_rfl, rfl, rfl⟩
  refine sq (detn [(0, .ptr 0 0), (2, .ptr 1 0), (4, .ptr 2 0), (11, aI (IntKind.wrap .i64 x4))] (by kernel_rfl) (bq (sq (detn [(0, .ptr 0 0), (2, .ptr 1 0), (4, .ptr 2 0), (11, aI (IntKind.wrap .i64 x4)), (12, aB ((IntKind.wrap .i64 x4) == 1))] (by kernel_rfl) ?_))))
  rcases bif_some hm with ⟨h19, hm⟩ | ⟨h19, hm⟩
  ·
   refine ct h19 (by kernel_rfl) (rg (sh 1 [(14, .ptr 0 0)] (by kernel_rfl) ?_))
   obtain ⟨⟨x21, x22, x23⟩, h20, hm⟩ := bs hm
   obtain ⟨vv, H1, hC, rfl, rfl⟩ := ok_codec_Reader_Byte h20
   refine dR [(15, aY x23)] [.box [aB ((codec_Reader.mk a0.fmade x2 x3).fmade), .pv (encSl (rI .u8) x21), aI x22] false, .box [aI 0, aI 0, aF 0, aS ByteArray.empty] false, .box [aI (IntKind.wrap .i64 x4), aI 0, aF 0, aS ByteArray.empty] false] [0] [.ptr 0 0] (by kernel_rfl) (by kernel_rfl) (by kernel_rfl) hC (by kernel_rfl) (st 3 [(17, .ptr 2 1), (16, aI (IntKind.wrap .i64 x23))] [.box [aB ((codec_Reader.mk a0.fmade x2 x3).fmade), .pv (encSl (rI .u8) x21), aI x22] false, .box [aI 0, aI 0, aF 0, aS ByteArray.empty] false, .box [aI (IntKind.wrap .i64 x4), aI (IntKind.wrap .i64 x23), aF 0, aS ByteArray.empty] false] (by kernel_rfl) (fin [(0, .ptr 0 0), (2, .ptr 1 0), (4, .ptr 2 0)] rfl (by kernel_rfl) ?_))
   exact ⟨((codec_Reader.mk a0.fmade x2 x3).fmade), x21, x22, (IntKind.wrap .i64 x23), 0, ByteArray.empty, .any, hm, (mk_same (by kernel_rfl)), rfl⟩
  ·
   refine cf h19 (by kernel_rfl) (sq (detn [(0, .ptr 0 0), (2, .ptr 1 0), (4, .ptr 2 0), (11, aI (IntKind.wrap .i64 x4)), (18, aB ((IntKind.wrap .i64 x4) == 2))] (by kernel_rfl) ?_))
   rcases bif_some hm with ⟨h24, hm⟩ | ⟨h24, hm⟩
   ·
    refine ct h24 (by kernel_rfl) (rg (sh 1 [(20, .ptr 0 0)] (by kernel_rfl) ?_))
    obtain ⟨⟨x26, x27, x28, x29⟩, h25, hm⟩ := bs hm
    obtain ⟨vv, H1, hC, rfl, rfl⟩ := ok_codec_Reader_Int h25
    refine dR [(21, aI x29)] [.box [aB x26, .pv (encSl (rI .u8) x27), aI x28] false, .box [aI 0, aI 0, aF 0, aS ByteArray.empty] false, .box [aI (IntKind.wrap .i64 x4), aI 0, aF 0, aS ByteArray.empty] false] [0] [.ptr 0 0] (by kernel_rfl) (by kernel_rfl) (by kernel_rfl) hC (by kernel_rfl) (st 2 [(22, .ptr 2 1)] [.box [aB x26, .pv (encSl (rI .u8) x27), aI x28] false, .box [aI 0, aI 0, aF 0, aS ByteArray.empty] false, .box [aI (IntKind.wrap .i64 x4), aI x29, aF 0, aS ByteArray.empty] false] (by kernel_rfl) (fin [(0, .ptr 0 0), (2, .ptr 1 0), (4, .ptr 2 0)] rfl (by kernel_rfl) ?_))
    exact ⟨x26, x27, x28, x29, 0, ByteArray.empty, .any, hm, (mk_same (by kernel_rfl)), rfl⟩
   ·
    refine cf h24 (by kernel_rfl) (sq (detn [(0, .ptr 0 0), (2, .ptr 1 0), (4, .ptr 2 0), (11, aI (IntKind.wrap .i64 x4)), (23, aB ((IntKind.wrap .i64 x4) == 3))] (by kernel_rfl) ?_))
    rcases bif_some hm with ⟨h30, hm⟩ | ⟨h30, hm⟩
    ·
     refine ct h30 (by kernel_rfl) (rg (sh 1 [(25, .ptr 0 0)] (by kernel_rfl) ?_))
     obtain ⟨⟨x32, x33, x34, x35⟩, h31, hm⟩ := bs hm
     obtain ⟨vv, H1, hC, rfl, rfl⟩ := ok_codec_Reader_Float h31
     refine dR [(26, aF x35)] [.box [aB x32, .pv (encSl (rI .u8) x33), aI x34] false, .box [aI 0, aI 0, aF 0, aS ByteArray.empty] false, .box [aI (IntKind.wrap .i64 x4), aI 0, aF 0, aS ByteArray.empty] false] [0] [.ptr 0 0] (by kernel_rfl) (by kernel_rfl) (by kernel_rfl) hC (by kernel_rfl) (st 2 [(27, .ptr 2 2)] [.box [aB x32, .pv (encSl (rI .u8) x33), aI x34] false, .box [aI 0, aI 0, aF 0, aS ByteArray.empty] false, .box [aI (IntKind.wrap .i64 x4), aI 0, aF x35, aS ByteArray.empty] false] (by kernel_rfl) (fin [(0, .ptr 0 0), (2, .ptr 1 0), (4, .ptr 2 0)] rfl (by kernel_rfl) ?_))
     exact ⟨x32, x33, x34, 0, x35, ByteArray.empty, .any, hm, (mk_same (by kernel_rfl)), rfl⟩
    ·
     refine cf h30 (by kernel_rfl) (sq (detn [(0, .ptr 0 0), (2, .ptr 1 0), (4, .ptr 2 0), (28, aB ((IntKind.wrap .i64 x4) == 4))] (by kernel_rfl) ?_))
     rcases bif_some hm with ⟨h36, hm⟩ | ⟨h36, hm⟩
     ·
      refine ct h36 (by kernel_rfl) (rg (sh 1 [(30, .ptr 0 0)] (by kernel_rfl) ?_))
      obtain ⟨⟨x38, x39, x40, x41⟩, h37, hm⟩ := bs hm
      obtain ⟨vv, H1, hC, rfl, rfl⟩ := ok_codec_Reader_Text h37
      refine dR [(31, aS x41)] [.box [aB x38, .pv (encSl (rI .u8) x39), aI x40] false, .box [aI 0, aI 0, aF 0, aS ByteArray.empty] false, .box [aI (IntKind.wrap .i64 x4), aI 0, aF 0, aS ByteArray.empty] false] [0] [.ptr 0 0, aI 64] (by kernel_rfl) (by kernel_rfl) (by kernel_rfl) hC (by kernel_rfl) (st 2 [(32, .ptr 2 3)] [.box [aB x38, .pv (encSl (rI .u8) x39), aI x40] false, .box [aI 0, aI 0, aF 0, aS ByteArray.empty] false, .box [aI (IntKind.wrap .i64 x4), aI 0, aF 0, aS x41] false] (by kernel_rfl) (fin [(0, .ptr 0 0), (2, .ptr 1 0), (4, .ptr 2 0)] rfl (by kernel_rfl) ?_))
      exact ⟨x38, x39, x40, 0, 0, x41, .any, hm, (mk_same (by kernel_rfl)), rfl⟩
     ·
      refine cf h36 (by kernel_rfl) (wp_skip ?_)
      exact ⟨a0.fmade, x2, x3, 0, 0, ByteArray.empty, aB ((IntKind.wrap .i64 x4) == 4), hm, (mk_same (by kernel_rfl)), rfl⟩
theorem ok_row_Take {n : Nat} {a0 : codec_Reader} {r : Bool × (Option (List Int)) × Int × (Option (List api_Value)) × Int} (hm : row_Take n a0 = some r) :
    ∃ vv H1, call G n 29 [.ptr 0 0] [.box [aB a0.fmade, .pv (encSl (rI .u8) a0.fb), aI a0.fe] false] = some (.ret vv, H1) ∧ (match r with | (r0, r1, r2, none, r3) => (vv = .tup [.pv .nils, aI r3] ∧ H1 = [.box [aB r0, .pv (encSl (rI .u8) r1), aI r2] false]) | (r0, r1, r2, some r4, r3) => (vv = .tup [aR 1 4 r4.length, aI r3] ∧ H1 = [.box [aB r0, .pv (encSl (rI .u8) r1), aI r2] false, bR 38 4 R_api_Value r4 0 0])) := by
  unfold row_Take at hm
  obtain ⟨n, rfl, h0⟩ := at1_some hm
  replace hm := h0; clear h0
  refine callE 33 [(0, .ptr 0 0)] func29 rfl (by kernel_rfl) (sq (detn [(0, .ptr 0 0)] (by kernel_rfl) (sq (rg (sh 1 [(9, .ptr 0 0)] (by kernel_rfl) ?_)))))
  obtain ⟨⟨x2, x3, x4, x5⟩, h1, hm⟩ := bs hm
  obtain ⟨vv, H1, hC, rfl, rfl⟩ := ok_codec_Reader_Uint h1
  refine dR [(10, aU x5)] [.box [aB x2, .pv (encSl (rI .u8) x3), aI x4] false] [0] [.ptr 0 0, aU 200] (by kernel_rfl) (by kernel_rfl) (by kernel_rfl) hC (by kernel_rfl) (sh 1 [(4, aU x5)] (by kernel_rfl) (fin [(0, .ptr 0 0), (4, aU x5)] rfl (by kernel_rfl) ?_))
  refine sq (sq (rg (sh 1 [(11, .ptr 0 0)] (by kernel_rfl) ?_)))
  obtain ⟨x7, h6, hm⟩ := bs hm
  obtain ⟨vv, H1, hC, rfl, rfl⟩ := ok_codec_Reader_Err h6
  refine dR [(12, aI x7)] [.box [aB x2, .pv (encSl (rI .u8) x3), aI x4] false] [0] [.ptr 0 0] (by kernel_rfl) (by kernel_rfl) (by kernel_rfl) hC (by kernel_rfl) (sh 1 [(5, aI x7)] (by kernel_rfl) (fin [(0, .ptr 0 0), (4, aU x5), (5, aI x7)] rfl (by kernel_rfl) (sq (detn [(0, .ptr 0 0), (4, aU x5), (5, aI x7), (14, aB (x7 != 0))] (by kernel_rfl) ?_))))
  rcases bif_some hm with ⟨h8, hm⟩ | ⟨h8, hm⟩
  ·
   refine ct h8 (by kernel_rfl) (sq (detn [(2, .pv .nils), (3, aI x7)] (by kernel_rfl) (wp_ret ?_)))
   obtain rfl := Option.some.inj hm
   exact ⟨trivial, .tup [.pv .nils, aI x7], [.box [aB x2, .pv (encSl (rI .u8) x3), aI x4] false], by kernel_rfl, rfl, rfl⟩
  ·
   refine cf h8 (by kernel_rfl) (wp_skip (sq (detn [(0, .ptr 0 0), (4, aU x5), (6, .pv .nils)] (by kernel_rfl) ?_)))
   obtain ⟨k15, hk15, hm⟩ := withK_some hm
   refine mid (fun t H => (∃ (y9 : Bool) (y10 : (Option (List Int))) (y11 : Int) (y12 : Int) (y13 : Bool), k15 y9 y10 y11 none = some r ∧ t = mk 33 [(0, .ptr 0 0), (6, .pv .nils), (16, aU x5), (17, aU y12), (18, aB y13)] ∧ H = [.box [aB y9, .pv (encSl (rI .u8) y10), aI y11] false]) ∨ (∃ (y9 : Bool) (y10 : (Option (List Int))) (y11 : Int) (y12 : Int) (y13 : Bool) (y14 : (List api_Value)), k15 y9 y10 y11 (some y14) = some r ∧ t = mk 33 [(0, .ptr 0 0), (6, aR 1 4 y14.length), (16, aU x5), (17, aU y12), (18, aB y13)] ∧ H = [.box [aB y9, .pv (encSl (rI .u8) y10), aI y11] false, bR 38 4 R_api_Value y14 0 0])) ?_ ?_
   ·
    rintro _ _ (⟨y9, y10, y11, y12, y13, hm, rfl, rfl⟩ | ⟨y9, y10, y11, y12, y13, y14, hm, rfl, rfl⟩)
    ·
     subst hk15
     refine sq (detn [(2, .pv .nils), (3, aI 0)] (by kernel_rfl) (wp_ret ?_))
     obtain rfl := Option.some.inj hm
     exact ⟨trivial, .tup [.pv .nils, aI 0], [.box [aB y9, .pv (encSl (rI .u8) y10), aI y11] false], by kernel_rfl, rfl, rfl⟩
    ·
     subst hk15
     refine sq (detn [(2, aR 1 4 y14.length), (3, aI 0)] (by kernel_rfl) (wp_ret ?_))
     obtain rfl := Option.some.inj hm
     exact ⟨trivial, .tup [aR 1 4 y14.length, aI 0], [.box [aB y9, .pv (encSl (rI .u8) y10), aI y11] false, bR 38 4 R_api_Value y14 0 0], by kernel_rfl, rfl, rfl⟩
   refine sq (detn [(0, .ptr 0 0), (6, .pv .nils), (16, aU x5), (17, aU 0)] (by kernel_rfl) (bq ?_))
   refine loopF (fun mm t H => (∃ (y22 : Bool) (y23 : (Option (List Int))) (y24 : Int) (y25 : Int), row_Take_l7 n x5 k15 mm y22 y23 y24 y25 none = some r ∧ t = mk 33 [(0, .ptr 0 0), (6, .pv .nils), (16, aU x5), (17, aU y25)] ∧ H = [.box [aB y22, .pv (encSl (rI .u8) y23), aI y24] false]) ∨ (∃ (y22 : Bool) (y23 : (Option (List Int))) (y24 : Int) (y25 : Int) (y26 : (List api_Value)), row_Take_l7 n x5 k15 mm y22 y23 y24 y25 (some y26) = some r ∧ t = mk 33 [(0, .ptr 0 0), (6, aR 1 4 y26.length), (16, aU x5), (17, aU y25)] ∧ H = [.box [aB y22, .pv (encSl (rI .u8) y23), aI y24] false, bR 38 4 R_api_Value y26 0 0])) (.inl ⟨x2, x3, x4, 0, hm, rfl, rfl⟩) ?_ ?_
   · rintro _ _ (⟨y22, y23, y24, y25, hm, _⟩ | ⟨y22, y23, y24, y25, y26, hm, _⟩) <;> exact nomatch hm
   rintro m27 _ _ (⟨y22, y23, y24, y25, hm, rfl, rfl⟩ | ⟨y22, y23, y24, y25, y26, hm, rfl, rfl⟩)
   ·
    simp only [row_Take_l7] at hm
    refine sq (detn [(0, .ptr 0 0), (6, .pv .nils), (16, aU x5), (17, aU y25), (18, aB (decide (y25 < x5)))] (by kernel_rfl) ?_)
    refine sq ?_
    rcases bif_some hm with ⟨h28, hm⟩ | ⟨h28, hm⟩
    ·
     refine ct h28 (by kernel_rfl) (wp_skip (sq (bq (sq (rg (sh 1 [(20, .ptr 0 0)] (by kernel_rfl) ?_))))))
     obtain ⟨⟨x30, x31, x32, x33, x34, x35, x36, x37⟩, h29, hm⟩ := bs hm
     obtain ⟨vv, H1, hC, rfl, rfl⟩ := ok_value_Take h29
     refine dR [(21, .tup [.agg [aI x33, aI x34, aF x35, aS x36], aI x37])] [.box [aB x30, .pv (encSl (rI .u8) x31), aI x32] false] [0] [.ptr 0 0] (by kernel_rfl) (by kernel_rfl) (by kernel_rfl) hC (by kernel_rfl) (st 6 [(8, aI x37), (7, .ptr 1 0), (23, aI x37), (22, .agg [aI x33, aI x34, aF x35, aS x36]), (19, .tup [.agg [aI x33, aI x34, aF x35, aS x36], aI x37])] [.box [aB x30, .pv (encSl (rI .u8) x31), aI x32] false, .box [aI x33, aI x34, aF x35, aS x36] false] (by kernel_rfl) (fin [(0, .ptr 0 0), (6, .pv .nils), (7, .ptr 1 0), (8, aI x37), (16, aU x5), (17, aU y25)] rfl (by kernel_rfl) (sq (sq (detn [(0, .ptr 0 0), (6, .pv .nils), (7, .ptr 1 0), (8, aI x37), (16, aU x5), (17, aU y25), (25, aB (x37 != 0))] (by kernel_rfl) ?_)))))
     rcases bif_some hm with ⟨h38, hm⟩ | ⟨h38, hm⟩
     ·
      refine ct h38 (by kernel_rfl) (sq (detn [(2, .pv .nils), (3, aI x37)] (by kernel_rfl) (wp_ret ?_)))
      obtain rfl := Option.some.inj hm
      exact ⟨trivial, .tup [.pv .nils, aI x37], [.box [aB x30, .pv (encSl (rI .u8) x31), aI x32] false], by kernel_rfl, rfl, rfl⟩
     ·
      refine cf h38 (by kernel_rfl) (wp_skip (rg (st 3 [(29, aR 2 4 1), (28, .agg [aI x33, aI x34, aF x35, aS x36]), (27, .pv .nils)] [.box [aB x30, .pv (encSl (rI .u8) x31), aI x32] false, .box [aI x33, aI x34, aF x35, aS x36] false, bR 38 4 R_api_Value ([(api_Value.mk x33 x34 x35 x36)] : List api_Value) 0 0] (by kernel_rfl) ?_)))
      obtain ⟨_, h39, hm⟩ := bs hm
      refine dO [(30, aR 3 4 (([(api_Value.mk x33 x34 x35 x36)] : List api_Value).length))] [.box [aB x30, .pv (encSl (rI .u8) x31), aI x32] false, .box [aI x33, aI x34, aF x35, aS x36] false, bR 38 4 R_api_Value ([(api_Value.mk x33 x34 x35 x36)] : List api_Value) 0 0, bR 38 4 R_api_Value ([(api_Value.mk x33 x34 x35 x36)] : List api_Value) 0 0] (app_nilO (u := 0) R_api_Value ([(api_Value.mk x33 x34 x35 x36)] : List api_Value) (b := 40) t22 t38 rfl rfl rfl (fun _ => rfl) rfl h39 (show srcRows (aR 2 4 1) _ = some (([(api_Value.mk x33 x34 x35 x36)] : List api_Value).map R_api_Value) from by kernel_rfl) (by kernel_rfl)) (by kernel_rfl) (sh 1 [(6, aR 3 4 (([(api_Value.mk x33 x34 x35 x36)] : List api_Value).length))] (by kernel_rfl) (fin [(0, .ptr 0 0), (6, aR 3 4 (([(api_Value.mk x33 x34 x35 x36)] : List api_Value).length)), (16, aU x5), (17, aU y25)] rfl (by kernel_rfl) (detn [(0, .ptr 0 0), (6, aR 3 4 (([(api_Value.mk x33 x34 x35 x36)] : List api_Value).length)), (16, aU x5), (17, aU (IntKind.wrap .u64 (y25 + 1)))] (by kernel_rfl) ?_)))
      exact ⟨_, _, tidyL [(0, .ptr 0 0), (6, aR 1 4 (([(api_Value.mk x33 x34 x35 x36)] : List api_Value).length)), (16, aU x5), (17, aU (IntKind.wrap .u64 (y25 + 1)))] [.box [aB x30, .pv (encSl (rI .u8) x31), aI x32] false, bR 38 4 R_api_Value ([(api_Value.mk x33 x34 x35 x36)] : List api_Value) 0 0] (by kernel_rfl), .inr (⟨x30, x31, x32, (IntKind.wrap .u64 (y25 + 1)), ([(api_Value.mk x33 x34 x35 x36)] : List api_Value), hm, rfl, rfl⟩)⟩
    ·
     refine cf h28 (by kernel_rfl) (wp_exit ?_)
     exact .inl ⟨y22, y23, y24, y25, (decide (y25 < x5)), hm, rfl, rfl⟩
   ·
    simp only [row_Take_l7] at hm
    refine sq (detn [(0, .ptr 0 0), (6, aR 1 4 y26.length), (16, aU x5), (17, aU y25), (18, aB (decide (y25 < x5)))] (by kernel_rfl) ?_)
    refine sq ?_
    rcases bif_some hm with ⟨h40, hm⟩ | ⟨h40, hm⟩
    ·
     refine ct h40 (by kernel_rfl) (wp_skip (sq (bq (sq (rg (sh 1 [(20, .ptr 0 0)] (by kernel_rfl) ?_))))))
     obtain ⟨⟨x42, x43, x44, x45, x46, x47, x48, x49⟩, h41, hm⟩ := bs hm
     obtain ⟨vv, H1, hC, rfl, rfl⟩ := ok_value_Take h41
     refine dR [(21, .tup [.agg [aI x45, aI x46, aF x47, aS x48], aI x49])] [.box [aB x42, .pv (encSl (rI .u8) x43), aI x44] false, bR 38 4 R_api_Value y26 0 0] [0] [.ptr 0 0] (by kernel_rfl) (by kernel_rfl) (by kernel_rfl) hC (by kernel_rfl) (st 6 [(8, aI x49), (7, .ptr 2 0), (23, aI x49), (22, .agg [aI x45, aI x46, aF x47, aS x48]), (19, .tup [.agg [aI x45, aI x46, aF x47, aS x48], aI x49])] [.box [aB x42, .pv (encSl (rI .u8) x43), aI x44] false, bR 38 4 R_api_Value y26 0 0, .box [aI x45, aI x46, aF x47, aS x48] false] (by kernel_rfl) (fin [(0, .ptr 0 0), (6, aR 1 4 y26.length), (7, .ptr 2 0), (8, aI x49), (16, aU x5), (17, aU y25)] rfl (by kernel_rfl) (sq (sq (detn [(0, .ptr 0 0), (6, aR 1 4 y26.length), (7, .ptr 2 0), (8, aI x49), (16, aU x5), (17, aU y25), (25, aB (x49 != 0))] (by kernel_rfl) ?_)))))
     rcases bif_some hm with ⟨h50, hm⟩ | ⟨h50, hm⟩
     ·
      refine ct h50 (by kernel_rfl) (sq (detn [(2, .pv .nils), (3, aI x49)] (by kernel_rfl) (wp_ret ?_)))
      obtain rfl := Option.some.inj hm
      exact ⟨trivial, .tup [.pv .nils, aI x49], [.box [aB x42, .pv (encSl (rI .u8) x43), aI x44] false], by kernel_rfl, rfl, rfl⟩
     ·
      refine cf h50 (by kernel_rfl) (wp_skip (rg (st 3 [(29, aR 3 4 1), (28, .agg [aI x45, aI x46, aF x47, aS x48]), (27, aR 1 4 y26.length)] [.box [aB x42, .pv (encSl (rI .u8) x43), aI x44] false, bR 38 4 R_api_Value y26 0 0, .box [aI x45, aI x46, aF x47, aS x48] false, bR 38 4 R_api_Value ([(api_Value.mk x45 x46 x47 x48)] : List api_Value) 0 0] (by kernel_rfl) ?_)))
      obtain ⟨_, h51, hm⟩ := bs hm
      refine dO [(30, aR 1 4 ((y26 ++ ([(api_Value.mk x45 x46 x47 x48)] : List api_Value)).length))] [.box [aB x42, .pv (encSl (rI .u8) x43), aI x44] false, bR 38 4 R_api_Value (y26 ++ ([(api_Value.mk x45 x46 x47 x48)] : List api_Value)) 0 0, .box [aI x45, aI x46, aF x47, aS x48] false, bR 38 4 R_api_Value ([(api_Value.mk x45 x46 x47 x48)] : List api_Value) 0 0] (app_refO (u := 0) (n := y26.length) (id := 1) R_api_Value y26 ([(api_Value.mk x45 x46 x47 x48)] : List api_Value) (b := 40) t22 t38 rfl rfl rfl (fun _ => rfl) rfl h51 rfl rfl (Nat.zero_le _) (show srcRows (aR 3 4 1) _ = some (([(api_Value.mk x45 x46 x47 x48)] : List api_Value).map R_api_Value) from by kernel_rfl) (by kernel_rfl)) (by kernel_rfl) (sh 1 [(6, aR 1 4 ((y26 ++ ([(api_Value.mk x45 x46 x47 x48)] : List api_Value)).length))] (by kernel_rfl) (fin [(0, .ptr 0 0), (6, aR 1 4 ((y26 ++ ([(api_Value.mk x45 x46 x47 x48)] : List api_Value)).length)), (16, aU x5), (17, aU y25)] rfl (by kernel_rfl) (detn [(0, .ptr 0 0), (6, aR 1 4 ((y26 ++ ([(api_Value.mk x45 x46 x47 x48)] : List api_Value)).length)), (16, aU x5), (17, aU (IntKind.wrap .u64 (y25 + 1)))] (by kernel_rfl) ?_)))
      exact ⟨_, _, tidyL [(0, .ptr 0 0), (6, aR 1 4 ((y26 ++ ([(api_Value.mk x45 x46 x47 x48)] : List api_Value)).length)), (16, aU x5), (17, aU (IntKind.wrap .u64 (y25 + 1)))] [.box [aB x42, .pv (encSl (rI .u8) x43), aI x44] false, bR 38 4 R_api_Value (y26 ++ ([(api_Value.mk x45 x46 x47 x48)] : List api_Value)) 0 0] (by kernel_rfl), .inr (⟨x42, x43, x44, (IntKind.wrap .u64 (y25 + 1)), (y26 ++ ([(api_Value.mk x45 x46 x47 x48)] : List api_Value)), hm, rfl, rfl⟩)⟩
    ·
     refine cf h40 (by kernel_rfl) (wp_exit ?_)
     exact .inr (⟨y22, y23, y24, y25, (decide (y25 < x5)), y26, hm, rfl, rfl⟩)
theorem ok_cmp_isNaN_int {n : Nat} {a0 : Int} {r : Bool} (hm : cmp_isNaN_int n a0 = some r) :
    call G n 80 [aI a0] [] = some (.ret (aB r), []) := by
  unfold cmp_isNaN_int at hm
  obtain ⟨n, rfl, h0⟩ := at1_some hm
  replace hm := h0; clear h0
  refine callL 6 [(0, aI a0)] func80 rfl (by kernel_rfl) (sq (detn [(0, aI a0)] (by kernel_rfl) (sq (detn [(2, aB (a0 != a0))] (by kernel_rfl) (wp_ret ?_)))))
  obtain rfl := Option.some.inj hm
  exact ⟨trivial, by kernel_rfl⟩
theorem ok_cmp_Compare_int {n : Nat} {a0 : Int} {a1 : Int} {r : Int} (hm : cmp_Compare_int n a0 a1 = some r) :
    call G n 59 [aI a0, aI a1] [] = some (.ret (aI r), []) := by
  unfold cmp_Compare_int at hm
  obtain ⟨n, rfl, h0⟩ := at1_some hm
  replace hm := h0; clear h0
  refine callL 20 [(0, aI a0), (1, aI a1)] func59 rfl (by kernel_rfl) (sq (detn [(0, aI a0), (1, aI a1)] (by kernel_rfl) (sq (rg (sh 1 [(7, aI a0)] (by kernel_rfl) ?_)))))
  obtain ⟨x1, h2, hm⟩ := bs hm
  refine dv 8 (cpure (by kernel_rfl) (ok_cmp_isNaN_int h2) (by kernel_rfl) (by kernel_rfl) (by kernel_rfl)) (by kernel_rfl) (sh 1 [(5, aB x1)] (by kernel_rfl) (fin [(0, aI a0), (1, aI a1), (5, aB x1)] rfl (by kernel_rfl) (sq (rg (sh 1 [(9, aI a1)] (by kernel_rfl) ?_)))))
  obtain ⟨x3, h4, hm⟩ := bs hm
  refine dv 10 (cpure (by kernel_rfl) (ok_cmp_isNaN_int h4) (by kernel_rfl) (by kernel_rfl) (by kernel_rfl)) (by kernel_rfl) (sh 1 [(6, aB x3)] (by kernel_rfl) (fin [(0, aI a0), (1, aI a1), (5, aB x1), (6, aB x3)] rfl (by kernel_rfl) ?_))
  refine sq (sq (detn [(0, aI a0), (1, aI a1), (6, aB x3), (11, aB x1)] (by kernel_rfl) ?_))
  rcases bif_some hm with ⟨h5, hm⟩ | ⟨h5, hm⟩
  ·
   refine ct h5 (by kernel_rfl) (sq (sq (detn [(12, aB x3)] (by kernel_rfl) ?_)))
   rcases bif_some hm with ⟨h6, hm⟩ | ⟨h6, hm⟩
   ·
    refine ct h6 (by kernel_rfl) (sq (detn [(4, aI 0)] (by kernel_rfl) (wp_ret ?_)))
    obtain rfl := Option.some.inj hm
    exact ⟨trivial, by kernel_rfl⟩
   ·
    refine cf h6 (by kernel_rfl) (wp_skip (sq (detn [(4, aI (-1))] (by kernel_rfl) (wp_ret ?_))))
    obtain rfl := Option.some.inj hm
    exact ⟨trivial, by kernel_rfl⟩
  ·
   refine cf h5 (by kernel_rfl) (wp_skip ?_)
   refine sq (sq (detn [(0, aI a0), (1, aI a1), (13, aB x3)] (by kernel_rfl) ?_))
   rcases bif_some hm with ⟨h7, hm⟩ | ⟨h7, hm⟩
   ·
    refine ct h7 (by kernel_rfl) (sq (detn [(4, aI 1)] (by kernel_rfl) (wp_ret ?_)))
    obtain rfl := Option.some.inj hm
    exact ⟨trivial, by kernel_rfl⟩
   ·
    refine cf h7 (by kernel_rfl) (wp_skip (sq (sq (detn [(0, aI a0), (1, aI a1), (16, aB (decide (a0 < a1)))] (by kernel_rfl) ?_))))
    rcases bif_some hm with ⟨h8, hm⟩ | ⟨h8, hm⟩
    ·
     refine ct h8 (by kernel_rfl) (sq (detn [(4, aI (-1))] (by kernel_rfl) (wp_ret ?_)))
     obtain rfl := Option.some.inj hm
     exact ⟨trivial, by kernel_rfl⟩
    ·
     refine cf h8 (by kernel_rfl) (wp_skip (sq (sq (detn [(19, aB (decide (a0 > a1)))] (by kernel_rfl) ?_))))
     rcases bif_some hm with ⟨h9, hm⟩ | ⟨h9, hm⟩
     ·
      refine ct h9 (by kernel_rfl) (sq (detn [(4, aI 1)] (by kernel_rfl) (wp_ret ?_)))
      obtain rfl := Option.some.inj hm
      exact ⟨trivial, by kernel_rfl⟩
     ·
      refine cf h9 (by kernel_rfl) (wp_skip (sq (detn [(4, aI 0)] (by kernel_rfl) (wp_ret ?_))))
      obtain rfl := Option.some.inj hm
      exact ⟨trivial, by kernel_rfl⟩
theorem ok_value_floats {n : Nat} {a0 : Nat} {a1 : Nat} {r : Int} (hm : value_floats n a0 a1 = some r) :
    call G n 61 [aF a0, aF a1] [] = some (.ret (aI r), []) := by
  unfold value_floats at hm
  obtain ⟨n, rfl, h0⟩ := at1_some hm
  replace hm := h0; clear h0
  refine callL 28 [(0, aF a0), (1, aF a1)] func61 rfl (by kernel_rfl) (sq (detn [(0, aF a0), (1, aF a1)] (by kernel_rfl) (sq (sq (rg (sh 1 [(7, aF a0)] (by kernel_rfl) ?_))))))
  obtain ⟨x1, h2, hm⟩ := bs hm
  refine dv 8 (cpure (by kernel_rfl) (ok_math_IsNaN h2) (by kernel_rfl) (by kernel_rfl) (by kernel_rfl)) (by kernel_rfl) (sh 1 [(9, aF a1)] (by kernel_rfl) ?_)
  obtain ⟨x3, h4, hm⟩ := bs hm
  refine dv 10 (cpure (by kernel_rfl) (ok_math_IsNaN h4) (by kernel_rfl) (by kernel_rfl) (by kernel_rfl)) (by kernel_rfl) (sh 2 [(6, aB x3), (5, aB x1)] (by kernel_rfl) (fin [(0, aF a0), (1, aF a1), (5, aB x1), (6, aB x3)] rfl (by kernel_rfl) (bq ?_)))
  refine sq (rg (sh 2 [(13, aB x1), (12, aB x1)] (by kernel_rfl) ?_))
  refine seg x1 [13, 12, 5] (fun b => [(15, aB (b && x3)), (14, ifA b (aB x3) (.undef))]) 4 (by kernel_rfl) ?_ ?_ ?_
  ·
   intro Q h
   refine sh 2 [(15, aB x3), (14, aB x3)] (by kernel_rfl) ?_
   exact sameN (by kernel_rfl) (by kernel_rfl) h
  ·
   intro Q h
   refine sh 2 [(15, aB false), (14, .undef)] (by kernel_rfl) ?_
   exact sameN (by kernel_rfl) (by kernel_rfl) h
  refine sh 1 [(11, aB (x1 && x3))] (by kernel_rfl) (fin [(0, aF a0), (1, aF a1), (5, aB x1), (6, aB x3), (11, aB (x1 && x3))] rfl (by kernel_rfl) ?_)
  rcases bif_some hm with ⟨h5, hm⟩ | ⟨h5, hm⟩
  ·
   refine ct h5 (by kernel_rfl) (sq (detn [(4, aI 0)] (by kernel_rfl) (wp_ret ?_)))
   obtain rfl := Option.some.inj hm
   exact ⟨trivial, by kernel_rfl⟩
  ·
   refine cf h5 (by kernel_rfl) (sq (detn [(0, aF a0), (1, aF a1), (6, aB x3), (16, aB x1)] (by kernel_rfl) ?_))
   rcases bif_some hm with ⟨h6, hm⟩ | ⟨h6, hm⟩
   ·
    refine ct h6 (by kernel_rfl) (sq (detn [(4, aI 1)] (by kernel_rfl) (wp_ret ?_)))
    obtain rfl := Option.some.inj hm
    exact ⟨trivial, by kernel_rfl⟩
   ·
    refine cf h6 (by kernel_rfl) (sq (detn [(0, aF a0), (1, aF a1), (18, aB x3)] (by kernel_rfl) ?_))
    rcases bif_some hm with ⟨h7, hm⟩ | ⟨h7, hm⟩
    ·
     refine ct h7 (by kernel_rfl) (sq (detn [(4, aI (-1))] (by kernel_rfl) (wp_ret ?_)))
     obtain rfl := Option.some.inj hm
     exact ⟨trivial, by kernel_rfl⟩
    ·
     refine cf h7 (by kernel_rfl) (sq (detn [(0, aF a0), (1, aF a1), (20, aB ((FloatKind.format .f64).order a0 a1 == some .lt))] (by kernel_rfl) ?_))
     rcases bif_some hm with ⟨h8, hm⟩ | ⟨h8, hm⟩
     ·
      refine ct h8 (by kernel_rfl) (sq (detn [(4, aI (-1))] (by kernel_rfl) (wp_ret ?_)))
      obtain rfl := Option.some.inj hm
      exact ⟨trivial, by kernel_rfl⟩
     ·
      refine cf h8 (by kernel_rfl) (sq (detn [(24, aB ((FloatKind.format .f64).order a0 a1 == some .gt))] (by kernel_rfl) ?_))
      rcases bif_some hm with ⟨h9, hm⟩ | ⟨h9, hm⟩
      ·
       refine ct h9 (by kernel_rfl) (sq (detn [(4, aI 1)] (by kernel_rfl) (wp_ret ?_)))
       obtain rfl := Option.some.inj hm
       exact ⟨trivial, by kernel_rfl⟩
      ·
       refine cf h9 (by kernel_rfl) (wp_skip (sq (detn [(4, aI 0)] (by kernel_rfl) (wp_ret ?_))))
       obtain rfl := Option.some.inj hm
       exact ⟨trivial, by kernel_rfl⟩
theorem ok_cmp_isNaN_string {n : Nat} {a0 : ByteArray} {r : Bool} (hm : cmp_isNaN_string n a0 = some r) :
    call G n 83 [aS a0] [] = some (.ret (aB r), []) := by
  unfold cmp_isNaN_string at hm
  obtain ⟨n, rfl, h0⟩ := at1_some hm
  replace hm := h0; clear h0
  refine callL 6 [(0, aS a0)] func83 rfl (by kernel_rfl) (sq (detn [(0, aS a0)] (by kernel_rfl) (sq (detn [(2, aB (!(sEq a0 a0)))] (by kernel_rfl) (wp_ret ?_)))))
  obtain rfl := Option.some.inj hm
  exact ⟨trivial, by kernel_rfl⟩
theorem ok_cmp_Compare_string {n : Nat} {a0 : ByteArray} {a1 : ByteArray} {r : Int} (hm : cmp_Compare_string n a0 a1 = some r) :
    call G n 62 [aS a0, aS a1] [] = some (.ret (aI r), []) := by
  unfold cmp_Compare_string at hm
  obtain ⟨n, rfl, h0⟩ := at1_some hm
  replace hm := h0; clear h0
  refine callL 20 [(0, aS a0), (1, aS a1)] func62 rfl (by kernel_rfl) (sq (detn [(0, aS a0), (1, aS a1)] (by kernel_rfl) (sq (rg (sh 1 [(7, aS a0)] (by kernel_rfl) ?_)))))
  obtain ⟨x1, h2, hm⟩ := bs hm
  refine dv 8 (cpure (by kernel_rfl) (ok_cmp_isNaN_string h2) (by kernel_rfl) (by kernel_rfl) (by kernel_rfl)) (by kernel_rfl) (sh 1 [(5, aB x1)] (by kernel_rfl) (fin [(0, aS a0), (1, aS a1), (5, aB x1)] rfl (by kernel_rfl) (sq (rg (sh 1 [(9, aS a1)] (by kernel_rfl) ?_)))))
  obtain ⟨x3, h4, hm⟩ := bs hm
  refine dv 10 (cpure (by kernel_rfl) (ok_cmp_isNaN_string h4) (by kernel_rfl) (by kernel_rfl) (by kernel_rfl)) (by kernel_rfl) (sh 1 [(6, aB x3)] (by kernel_rfl) (fin [(0, aS a0), (1, aS a1), (5, aB x1), (6, aB x3)] rfl (by kernel_rfl) ?_))
  refine sq (sq (detn [(0, aS a0), (1, aS a1), (6, aB x3), (11, aB x1)] (by kernel_rfl) ?_))
  rcases bif_some hm with ⟨h5, hm⟩ | ⟨h5, hm⟩
  ·
   refine ct h5 (by kernel_rfl) (sq (sq (detn [(12, aB x3)] (by kernel_rfl) ?_)))
   rcases bif_some hm with ⟨h6, hm⟩ | ⟨h6, hm⟩
   ·
    refine ct h6 (by kernel_rfl) (sq (detn [(4, aI 0)] (by kernel_rfl) (wp_ret ?_)))
    obtain rfl := Option.some.inj hm
    exact ⟨trivial, by kernel_rfl⟩
   ·
    refine cf h6 (by kernel_rfl) (wp_skip (sq (detn [(4, aI (-1))] (by kernel_rfl) (wp_ret ?_))))
    obtain rfl := Option.some.inj hm
    exact ⟨trivial, by kernel_rfl⟩
  ·
   refine cf h5 (by kernel_rfl) (wp_skip ?_)
   refine sq (sq (detn [(0, aS a0), (1, aS a1), (13, aB x3)] (by kernel_rfl) ?_))
   rcases bif_some hm with ⟨h7, hm⟩ | ⟨h7, hm⟩
   ·
    refine ct h7 (by kernel_rfl) (sq (detn [(4, aI 1)] (by kernel_rfl) (wp_ret ?_)))
    obtain rfl := Option.some.inj hm
    exact ⟨trivial, by kernel_rfl⟩
   ·
    refine cf h7 (by kernel_rfl) (wp_skip (sq (sq (detn [(0, aS a0), (1, aS a1), (16, aB (sLt a0 a1))] (by kernel_rfl) ?_))))
    rcases bif_some hm with ⟨h8, hm⟩ | ⟨h8, hm⟩
    ·
     refine ct h8 (by kernel_rfl) (sq (detn [(4, aI (-1))] (by kernel_rfl) (wp_ret ?_)))
     obtain rfl := Option.some.inj hm
     exact ⟨trivial, by kernel_rfl⟩
    ·
     refine cf h8 (by kernel_rfl) (wp_skip (sq (sq (detn [(19, aB (!(sLt a0 a1 || sEq a0 a1)))] (by kernel_rfl) ?_))))
     rcases bif_some hm with ⟨h9, hm⟩ | ⟨h9, hm⟩
     ·
      refine ct h9 (by kernel_rfl) (sq (detn [(4, aI 1)] (by kernel_rfl) (wp_ret ?_)))
      obtain rfl := Option.some.inj hm
      exact ⟨trivial, by kernel_rfl⟩
     ·
      refine cf h9 (by kernel_rfl) (wp_skip (sq (detn [(4, aI 0)] (by kernel_rfl) (wp_ret ?_))))
      obtain rfl := Option.some.inj hm
      exact ⟨trivial, by kernel_rfl⟩
theorem ok_cmp_isNaN_int64 {n : Nat} {a0 : Int} {r : Bool} (hm : cmp_isNaN_int64 n a0 = some r) :
    call G n 84 [aI a0] [] = some (.ret (aB r), []) := by
  unfold cmp_isNaN_int64 at hm
  obtain ⟨n, rfl, h0⟩ := at1_some hm
  replace hm := h0; clear h0
  refine callL 6 [(0, aI a0)] func84 rfl (by kernel_rfl) (sq (detn [(0, aI a0)] (by kernel_rfl) (sq (detn [(2, aB (a0 != a0))] (by kernel_rfl) (wp_ret ?_)))))
  obtain rfl := Option.some.inj hm
  exact ⟨trivial, by kernel_rfl⟩
theorem ok_cmp_Compare_int64 {n : Nat} {a0 : Int} {a1 : Int} {r : Int} (hm : cmp_Compare_int64 n a0 a1 = some r) :
    call G n 63 [aI a0, aI a1] [] = some (.ret (aI r), []) := by
  unfold cmp_Compare_int64 at hm
  obtain ⟨n, rfl, h0⟩ := at1_some hm
  replace hm := h0; clear h0
  refine callL 20 [(0, aI a0), (1, aI a1)] func63 rfl (by kernel_rfl) (sq (detn [(0, aI a0), (1, aI a1)] (by kernel_rfl) (sq (rg (sh 1 [(7, aI a0)] (by kernel_rfl) ?_)))))
  obtain ⟨x1, h2, hm⟩ := bs hm
  refine dv 8 (cpure (by kernel_rfl) (ok_cmp_isNaN_int64 h2) (by kernel_rfl) (by kernel_rfl) (by kernel_rfl)) (by kernel_rfl) (sh 1 [(5, aB x1)] (by kernel_rfl) (fin [(0, aI a0), (1, aI a1), (5, aB x1)] rfl (by kernel_rfl) (sq (rg (sh 1 [(9, aI a1)] (by kernel_rfl) ?_)))))
  obtain ⟨x3, h4, hm⟩ := bs hm
  refine dv 10 (cpure (by kernel_rfl) (ok_cmp_isNaN_int64 h4) (by kernel_rfl) (by kernel_rfl) (by kernel_rfl)) (by kernel_rfl) (sh 1 [(6, aB x3)] (by kernel_rfl) (fin [(0, aI a0), (1, aI a1), (5, aB x1), (6, aB x3)] rfl (by kernel_rfl) ?_))
  refine sq (sq (detn [(0, aI a0), (1, aI a1), (6, aB x3), (11, aB x1)] (by kernel_rfl) ?_))
  rcases bif_some hm with ⟨h5, hm⟩ | ⟨h5, hm⟩
  ·
   refine ct h5 (by kernel_rfl) (sq (sq (detn [(12, aB x3)] (by kernel_rfl) ?_)))
   rcases bif_some hm with ⟨h6, hm⟩ | ⟨h6, hm⟩
   ·
    refine ct h6 (by kernel_rfl) (sq (detn [(4, aI 0)] (by kernel_rfl) (wp_ret ?_)))
    obtain rfl := Option.some.inj hm
    exact ⟨trivial, by kernel_rfl⟩
   ·
    refine cf h6 (by kernel_rfl) (wp_skip (sq (detn [(4, aI (-1))] (by kernel_rfl) (wp_ret ?_))))
    obtain rfl := Option.some.inj hm
    exact ⟨trivial, by kernel_rfl⟩
  ·
   refine cf h5 (by kernel_rfl) (wp_skip ?_)
   refine sq (sq (detn [(0, aI a0), (1, aI a1), (13, aB x3)] (by kernel_rfl) ?_))
   rcases bif_some hm with ⟨h7, hm⟩ | ⟨h7, hm⟩
   ·
    refine ct h7 (by kernel_rfl) (sq (detn [(4, aI 1)] (by kernel_rfl) (wp_ret ?_)))
    obtain rfl := Option.some.inj hm
    exact ⟨trivial, by kernel_rfl⟩
   ·
    refine cf h7 (by kernel_rfl) (wp_skip (sq (sq (detn [(0, aI a0), (1, aI a1), (16, aB (decide (a0 < a1)))] (by kernel_rfl) ?_))))
    rcases bif_some hm with ⟨h8, hm⟩ | ⟨h8, hm⟩
    ·
     refine ct h8 (by kernel_rfl) (sq (detn [(4, aI (-1))] (by kernel_rfl) (wp_ret ?_)))
     obtain rfl := Option.some.inj hm
     exact ⟨trivial, by kernel_rfl⟩
    ·
     refine cf h8 (by kernel_rfl) (wp_skip (sq (sq (detn [(19, aB (decide (a0 > a1)))] (by kernel_rfl) ?_))))
     rcases bif_some hm with ⟨h9, hm⟩ | ⟨h9, hm⟩
     ·
      refine ct h9 (by kernel_rfl) (sq (detn [(4, aI 1)] (by kernel_rfl) (wp_ret ?_)))
      obtain rfl := Option.some.inj hm
      exact ⟨trivial, by kernel_rfl⟩
     ·
      refine cf h9 (by kernel_rfl) (wp_skip (sq (detn [(4, aI 0)] (by kernel_rfl) (wp_ret ?_))))
      obtain rfl := Option.some.inj hm
      exact ⟨trivial, by kernel_rfl⟩
theorem ok_value_Cmp {n : Nat} {a0 : api_Value} {a1 : api_Value} {r : Int} (hm : value_Cmp n a0 a1 = some r) :
    call G n 37 [.agg [aI a0.fKind, aI a0.fInt, aF a0.fFloat, aS a0.fText], .agg [aI a1.fKind, aI a1.fInt, aF a1.fFloat, aS a1.fText]] [] = some (.ret (aI r), []) := by
  unfold value_Cmp at hm
  obtain ⟨n, rfl, h0⟩ := at1_some hm
  replace hm := h0; clear h0
  refine callL 40 [(0, .agg [aI a0.fKind, aI a0.fInt, aF a0.fFloat, aS a0.fText]), (1, .agg [aI a1.fKind, aI a1.fInt, aF a1.fFloat, aS a1.fText])] func37 rfl (by kernel_rfl) (sq (det [(2, .ptr 0 0), (3, .ptr 1 0)] [.box [aI a0.fKind, aI a0.fInt, aF a0.fFloat, aS a0.fText] false, .box [aI a1.fKind, aI a1.fInt, aF a1.fFloat, aS a1.fText] false] (by kernel_rfl) (sq (rgd (shd 1 [(5, .agg [aI a0.fKind, aI a0.fInt, aF a0.fFloat, aS a0.fText])] (by kernel_rfl) ?_)))))
  obtain ⟨x1, h2, hm⟩ := bs hm
  refine dvd 6 (cpure (by kernel_rfl) (ok_value_Plain h2) (by kernel_rfl) (by kernel_rfl) (by kernel_rfl)) (by kernel_rfl) (shd 1 [(7, .agg [aI a1.fKind, aI a1.fInt, aF a1.fFloat, aS a1.fText])] (by kernel_rfl) ?_)
  obtain ⟨x3, h4, hm⟩ := bs hm
  refine dvd 8 (cpure (by kernel_rfl) (ok_value_Plain h4) (by kernel_rfl) (by kernel_rfl) (by kernel_rfl)) (by kernel_rfl) (std 2 [] [.box [aI x1.fKind, aI x1.fInt, aF x1.fFloat, aS x1.fText] false, .box [aI x3.fKind, aI x3.fInt, aF x3.fFloat, aS x3.fText] false] (by kernel_rfl) (find [(2, .ptr 0 0), (3, .ptr 1 0)] rfl (by kernel_rfl) (by kernel_rfl) ?_))
  refine sq (sq (detn [(2, .ptr 0 0), (3, .ptr 1 0), (13, aB (x1.fKind != x3.fKind))] (by kernel_rfl) ?_))
  rcases bif_some hm with ⟨h5, hm⟩ | ⟨h5, hm⟩
  ·
   refine ct h5 (by kernel_rfl) (sq (rg (sh 4 [(17, aI x3.fKind), (16, .ptr 1 0), (15, aI x1.fKind), (14, .ptr 0 0)] (by kernel_rfl) ?_)))
   obtain ⟨x6, h7, hm⟩ := bs hm
   refine dv 18 (cpure (by kernel_rfl) (ok_cmp_Compare_int h7) (by kernel_rfl) (by kernel_rfl) (by kernel_rfl)) (by kernel_rfl) (sh 1 [(4, aI x6)] (by kernel_rfl) (fin [(4, aI x6)] rfl (by kernel_rfl) (wp_ret ?_)))
   obtain rfl := Option.some.inj hm
   exact ⟨trivial, by kernel_rfl⟩
  ·
   refine cf h5 (by kernel_rfl) (wp_skip (sq (sq (detn [(2, .ptr 0 0), (3, .ptr 1 0), (20, aI x1.fKind)] (by kernel_rfl) (bq (sq (detn [(2, .ptr 0 0), (3, .ptr 1 0), (20, aI x1.fKind), (21, aB (x1.fKind == 3))] (by kernel_rfl) ?_)))))))
   rcases bif_some hm with ⟨h8, hm⟩ | ⟨h8, hm⟩
   ·
    refine ct h8 (by kernel_rfl) (sq (rg (sh 4 [(26, aF x3.fFloat), (25, .ptr 1 2), (24, aF x1.fFloat), (23, .ptr 0 2)] (by kernel_rfl) ?_)))
    obtain ⟨x9, h10, hm⟩ := bs hm
    refine dv 27 (cpure (by kernel_rfl) (ok_value_floats h10) (by kernel_rfl) (by kernel_rfl) (by kernel_rfl)) (by kernel_rfl) (sh 1 [(4, aI x9)] (by kernel_rfl) (fin [(4, aI x9)] rfl (by kernel_rfl) (wp_ret ?_)))
    obtain rfl := Option.some.inj hm
    exact ⟨trivial, by kernel_rfl⟩
   ·
    refine cf h8 (by kernel_rfl) (sq (detn [(2, .ptr 0 0), (3, .ptr 1 0), (28, aB (x1.fKind == 4))] (by kernel_rfl) ?_))
    rcases bif_some hm with ⟨h11, hm⟩ | ⟨h11, hm⟩
    ·
     refine ct h11 (by kernel_rfl) (sq (rg (sh 4 [(33, aS x3.fText), (32, .ptr 1 3), (31, aS x1.fText), (30, .ptr 0 3)] (by kernel_rfl) ?_)))
     obtain ⟨x12, h13, hm⟩ := bs hm
     refine dv 34 (cpure (by kernel_rfl) (ok_cmp_Compare_string h13) (by kernel_rfl) (by kernel_rfl) (by kernel_rfl)) (by kernel_rfl) (sh 1 [(4, aI x12)] (by kernel_rfl) (fin [(4, aI x12)] rfl (by kernel_rfl) (wp_ret ?_)))
     obtain rfl := Option.some.inj hm
     exact ⟨trivial, by kernel_rfl⟩
    ·
     refine cf h11 (by kernel_rfl) (wp_skip (sq (rg (sh 4 [(38, aI x3.fInt), (37, .ptr 1 1), (36, aI x1.fInt), (35, .ptr 0 1)] (by kernel_rfl) ?_))))
     obtain ⟨x14, h15, hm⟩ := bs hm
     refine dv 39 (cpure (by kernel_rfl) (ok_cmp_Compare_int64 h15) (by kernel_rfl) (by kernel_rfl) (by kernel_rfl)) (by kernel_rfl) (sh 1 [(4, aI x14)] (by kernel_rfl) (fin [(4, aI x14)] rfl (by kernel_rfl) (wp_ret ?_)))
     obtain rfl := Option.some.inj hm
     exact ⟨trivial, by kernel_rfl⟩
theorem ok_row_lists_Value_value_Cmp {n : Nat} {a0 : (Option (List api_Value))} {a1 : (Option (List api_Value))} {r : Int} (hm : row_lists_Value_value_Cmp n a0 a1 = some r) :
    call G n 36 [.pv (encSl R_api_Value a0), .pv (encSl R_api_Value a1), .pv (.fn 37 [] [])] [] = some (.ret (aI r), []) := by
  unfold row_lists_Value_value_Cmp at hm
  obtain ⟨n, rfl, h0⟩ := at1_some hm
  replace hm := h0; clear h0
  refine callL 39 [(0, .pv (encSl R_api_Value a0)), (1, .pv (encSl R_api_Value a1)), (2, .pv (.fn 37 [] []))] func36 rfl (by kernel_rfl) (sq (detn [(0, .pv (encSl R_api_Value a0)), (1, .pv (encSl R_api_Value a1)), (2, .pv (.fn 37 [] []))] (by kernel_rfl) ?_))
  obtain ⟨k3, hk3, hm⟩ := withK_some hm
  refine mid (fun t H => (∃ (y1 : Bool) (y2 : Int), k3 () = some r ∧ t = mk 39 [(0, .pv (encSl R_api_Value a0)), (1, .pv (encSl R_api_Value a1)), (2, .pv (.fn 37 [] [])), (7, aI y2), (18, aB y1)] ∧ H = [])) ?_ ?_
  ·
   rintro _ _ ⟨y1, y2, hm, rfl, rfl⟩
   subst hk3
   refine sq (rg (sh 1 [(34, .pv (encSl R_api_Value a0))] (by kernel_rfl) (dv 35 (v := aI ((sll a0).length : Int)) (len_slO R_api_Value a0 t22 (by kernel_rfl)) (by kernel_rfl) (sh 1 [(36, .pv (encSl R_api_Value a1))] (by kernel_rfl) (dv 37 (v := aI ((sll a1).length : Int)) (len_slO R_api_Value a1 t22 (by kernel_rfl)) (by kernel_rfl) ?_)))))
   obtain ⟨x4, h5, hm⟩ := bs hm
   refine dv 38 (cpure (by kernel_rfl) (ok_cmp_Compare_int h5) (by kernel_rfl) (by kernel_rfl) (by kernel_rfl)) (by kernel_rfl) (sh 1 [(6, aI x4)] (by kernel_rfl) (fin [(6, aI x4)] rfl (by kernel_rfl) (wp_ret ?_)))
   obtain rfl := Option.some.inj hm
   exact ⟨trivial, by kernel_rfl⟩
  refine sq (detn [(0, .pv (encSl R_api_Value a0)), (1, .pv (encSl R_api_Value a1)), (2, .pv (.fn 37 [] [])), (7, aI 0)] (by kernel_rfl) (bq ?_))
  refine loopF (fun mm t H => (∃ (y7 : Int), row_lists_Value_value_Cmp_l2 n a0 a1 k3 mm y7 = some r ∧ t = mk 39 [(0, .pv (encSl R_api_Value a0)), (1, .pv (encSl R_api_Value a1)), (2, .pv (.fn 37 [] [])), (7, aI y7)] ∧ H = [])) (⟨0, hm, rfl, rfl⟩) ?_ ?_
  · rintro _ _ ⟨y7, hm, _⟩; exact nomatch hm
  rintro m8 _ _ ⟨y7, hm, rfl, rfl⟩
  simp only [row_lists_Value_value_Cmp_l2] at hm
  refine sq (sq (rg (sh 2 [(10, .pv (encSl R_api_Value a0)), (9, aI y7)] (by kernel_rfl) (dv 11 (v := aI ((sll a0).length : Int)) (len_slO R_api_Value a0 t22 (by kernel_rfl)) (by kernel_rfl) (sh 2 [(13, aB (decide (y7 < ((sll a0).length : Int)))), (12, aB (decide (y7 < ((sll a0).length : Int))))] (by kernel_rfl) ?_)))))
  refine seg (decide (y7 < ((sll a0).length : Int))) [13, 12] (fun b => [(18, aB (b && (decide (y7 < ((sll a1).length : Int))))), (17, ifA b (aB (decide (y7 < ((sll a1).length : Int)))) (.undef)), (16, ifA b (aI ((sll a1).length : Int)) (.undef)), (15, ifA b (.pv (encSl R_api_Value a1)) (.undef)), (14, ifA b (aI y7) (.undef))]) 10 (by kernel_rfl) ?_ ?_ ?_
  ·
   intro Q h
   refine sh 2 [(15, .pv (encSl R_api_Value a1)), (14, aI y7)] (by kernel_rfl) (dv 16 (v := aI ((sll a1).length : Int)) (len_slO R_api_Value a1 t22 (by kernel_rfl)) (by kernel_rfl) (sh 2 [(18, aB (decide (y7 < ((sll a1).length : Int)))), (17, aB (decide (y7 < ((sll a1).length : Int))))] (by kernel_rfl) ?_))
   exact sameN (by kernel_rfl) (by kernel_rfl) h
  ·
   intro Q h
   refine sh 5 [(18, aB false), (17, .undef), (16, .undef), (15, .undef), (14, .undef)] (by kernel_rfl) ?_
   exact sameN (by kernel_rfl) (by kernel_rfl) h
  refine fin [(0, .pv (encSl R_api_Value a0)), (1, .pv (encSl R_api_Value a1)), (2, .pv (.fn 37 [] [])), (7, aI y7), (18, aB ((decide (y7 < ((sll a0).length : Int))) && (decide (y7 < ((sll a1).length : Int)))))] rfl (by kernel_rfl) ?_
  rcases bif_some hm with ⟨h9, hm⟩ | ⟨h9, hm⟩
  ·
   refine ct h9 (by kernel_rfl) (wp_skip (sq (bq (sq (rgd (shd 3 [(23, aI y7), (22, .pv (encSl R_api_Value a0)), (21, .pv (.fn 37 [] []))] (by kernel_rfl) ?_))))))
   obtain ⟨x10, h11, hm⟩ := bs hm
   refine dvd 24 (v := .pv (.ptr (R_api_Value x10) 0)) (ia_slO R_api_Value a0 .i64 t22 t38 h11 rfl (by kernel_rfl)) (by kernel_rfl) (shd 3 [(27, aI y7), (26, .pv (encSl R_api_Value a1)), (25, .agg [aI x10.fKind, aI x10.fInt, aF x10.fFloat, aS x10.fText])] (by kernel_rfl) ?_)
   obtain ⟨x12, h13, hm⟩ := bs hm
   refine dvd 28 (v := .pv (.ptr (R_api_Value x12) 0)) (ia_slO R_api_Value a1 .i64 t22 t38 h13 rfl (by kernel_rfl)) (by kernel_rfl) (shd 1 [(29, .agg [aI x12.fKind, aI x12.fInt, aF x12.fFloat, aS x12.fText])] (by kernel_rfl) ?_)
   obtain ⟨x14, h15, hm⟩ := bs hm
   refine dvd 30 (cpure (by kernel_rfl) (ok_value_Cmp h15) (by kernel_rfl) (by kernel_rfl) (by kernel_rfl)) (by kernel_rfl) (shd 1 [(8, aI x14)] (by kernel_rfl) (find [(0, .pv (encSl R_api_Value a0)), (1, .pv (encSl R_api_Value a1)), (2, .pv (.fn 37 [] [])), (7, aI y7), (8, aI x14)] rfl (by kernel_rfl) (by kernel_rfl) (sq (detn [(0, .pv (encSl R_api_Value a0)), (1, .pv (encSl R_api_Value a1)), (2, .pv (.fn 37 [] [])), (7, aI y7), (8, aI x14), (32, aB (x14 != 0))] (by kernel_rfl) ?_))))
   rcases bif_some hm with ⟨h16, hm⟩ | ⟨h16, hm⟩
   ·
    refine ct h16 (by kernel_rfl) (sq (detn [(6, aI x14)] (by kernel_rfl) (wp_ret ?_)))
    obtain rfl := Option.some.inj hm
    exact ⟨trivial, by kernel_rfl⟩
   ·
    refine cf h16 (by kernel_rfl) (wp_skip (detn [(0, .pv (encSl R_api_Value a0)), (1, .pv (encSl R_api_Value a1)), (2, .pv (.fn 37 [] [])), (7, aI (IntKind.wrap .i64 (y7 + 1)))] (by kernel_rfl) ?_))
    exact ⟨_, _, tidyL [(0, .pv (encSl R_api_Value a0)), (1, .pv (encSl R_api_Value a1)), (2, .pv (.fn 37 [] [])), (7, aI (IntKind.wrap .i64 (y7 + 1)))] [] (by kernel_rfl), ⟨(IntKind.wrap .i64 (y7 + 1)), hm, rfl, rfl⟩⟩
  ·
   refine cf h9 (by kernel_rfl) (wp_exit ?_)
   exact ⟨((decide (y7 < ((sll a0).length : Int))) && (decide (y7 < ((sll a1).length : Int)))), y7, hm, rfl, rfl⟩
theorem ok_row_Cmp {n : Nat} {a0 : (Option (List api_Value))} {a1 : (Option (List api_Value))} {r : Int} (hm : row_Cmp n a0 a1 = some r) :
    call G n 12 [.pv (encSl R_api_Value a0), .pv (encSl R_api_Value a1)] [] = some (.ret (aI r), []) := by
  unfold row_Cmp at hm
  obtain ⟨n, rfl, h0⟩ := at1_some hm
  replace hm := h0; clear h0
  refine callL 8 [(0, .pv (encSl R_api_Value a0)), (1, .pv (encSl R_api_Value a1))] func12 rfl (by kernel_rfl) (sq (detn [(0, .pv (encSl R_api_Value a0)), (1, .pv (encSl R_api_Value a1))] (by kernel_rfl) (sq (rg (sh 2 [(6, .pv (encSl R_api_Value a1)), (5, .pv (encSl R_api_Value a0))] (by kernel_rfl) ?_)))))
  obtain ⟨x1, h2, hm⟩ := bs hm
  refine dv 7 (cpure (by kernel_rfl) (ok_row_lists_Value_value_Cmp h2) (by kernel_rfl) (by kernel_rfl) (by kernel_rfl)) (by kernel_rfl) (sh 1 [(4, aI x1)] (by kernel_rfl) (fin [(4, aI x1)] rfl (by kernel_rfl) (wp_ret ?_)))
  obtain rfl := Option.some.inj hm
  exact ⟨trivial, by kernel_rfl⟩
theorem ok_codec_Reader_Left {n : Nat} {a0 : codec_Reader} {r : Int} (hm : codec_Reader_Left n a0 = some r) :
    ∃ vv H1, call G n 30 [.ptr 0 0] [.box [aB a0.fmade, .pv (encSl (rI .u8) a0.fb), aI a0.fe] false] = some (.ret vv, H1) ∧ (match r with | r0 => (vv = aI r0 ∧ H1 = [.box [aB a0.fmade, .pv (encSl (rI .u8) a0.fb), aI a0.fe] false])) := by
  unfold codec_Reader_Left at hm
  obtain ⟨n, rfl, h0⟩ := at1_some hm
  replace hm := h0; clear h0
  refine callE 11 [(0, .ptr 0 0)] func30 rfl (by kernel_rfl) (sq (detn [(0, .ptr 0 0)] (by kernel_rfl) (sq (sq (rg (sh 1 [(3, .ptr 0 0)] (by kernel_rfl) ?_))))))
  obtain ⟨_, h1, hm⟩ := bs hm
  obtain ⟨vv, H1, hC, rfl, rfl⟩ := ok_codec_Reader_ready h1
  refine dR [(4, aB (a0.fmade && (a0.fe == 0)))] [.box [aB a0.fmade, .pv (encSl (rI .u8) a0.fb), aI a0.fe] false] [0] [.ptr 0 0] (by kernel_rfl) (by kernel_rfl) (by kernel_rfl) hC (by kernel_rfl) (sh 1 [(5, aB (!(a0.fmade && (a0.fe == 0))))] (by kernel_rfl) (fin [(0, .ptr 0 0), (5, aB (!(a0.fmade && (a0.fe == 0))))] rfl (by kernel_rfl) ?_))
  rcases bif_some hm with ⟨h2, hm⟩ | ⟨h2, hm⟩
  ·
   refine ct h2 (by kernel_rfl) (sq (detn [(2, aI 0)] (by kernel_rfl) (wp_ret ?_)))
   obtain rfl := Option.some.inj hm
   exact ⟨trivial, aI 0, [.box [aB a0.fmade, .pv (encSl (rI .u8) a0.fb), aI a0.fe] false], by kernel_rfl, rfl, rfl⟩
  ·
   refine cf h2 (by kernel_rfl) (wp_skip (sq (rg (sh 4 [(9, .pv (encSl (rI .u8) a0.fb)), (8, .ptr 0 1), (7, .ptr 0 0), (6, .ptr 0 0)] (by kernel_rfl) (dv 10 (v := aI ((sll a0.fb).length : Int)) (len_slO (rI .u8) a0.fb t39 (by kernel_rfl)) (by kernel_rfl) (sh 1 [(2, aI ((sll a0.fb).length : Int))] (by kernel_rfl) (fin [(2, aI ((sll a0.fb).length : Int))] rfl (by kernel_rfl) (wp_ret ?_))))))))
   obtain rfl := Option.some.inj hm
   exact ⟨trivial, aI ((sll a0.fb).length : Int), [.box [aB a0.fmade, .pv (encSl (rI .u8) a0.fb), aI a0.fe] false], by kernel_rfl, rfl, rfl⟩
theorem ok_law05_RowBack {n : Nat} {a0 : (Option (List api_Value))} {a1 : (Option (List Int))} {r : Bool} (hm : law05_RowBack n a0 a1 = some r) :
    call G n 8 [.pv (encSl R_api_Value a0), .pv (encSl (rI .u8) a1)] [] = some (.ret (aB r), []) := by
  unfold law05_RowBack at hm
  obtain ⟨n, rfl, h0⟩ := at1_some hm
  replace hm := h0; clear h0
  refine callL 59 [(0, .pv (encSl R_api_Value a0)), (1, .pv (encSl (rI .u8) a1))] func8 rfl (by kernel_rfl) (sq (detn [(0, .pv (encSl R_api_Value a0)), (1, .pv (encSl (rI .u8) a1))] (by kernel_rfl) ?_))
  refine sq (sq (rg ?_))
  obtain ⟨x1, h2, hm⟩ := bs hm
  refine dv 8 (cpure (by kernel_rfl) (ok_law05_works h2) (by kernel_rfl) (by kernel_rfl) (by kernel_rfl)) (by kernel_rfl) (sh 1 [(9, aB (!x1))] (by kernel_rfl) (fin [(0, .pv (encSl R_api_Value a0)), (1, .pv (encSl (rI .u8) a1)), (9, aB (!x1))] rfl (by kernel_rfl) ?_))
  rcases bif_some hm with ⟨h3, hm⟩ | ⟨h3, hm⟩
  ·
   refine ct h3 (by kernel_rfl) (sq (detn [(4, aB false)] (by kernel_rfl) (wp_ret ?_)))
   obtain rfl := Option.some.inj hm
   exact ⟨trivial, by kernel_rfl⟩
  ·
   refine cf h3 (by kernel_rfl) (wp_skip ?_)
   refine sq (sq (rg (st 2 [(11, aR 0 1 1), (10, .pv (encSl R_api_Value a0))] [bR 22 1 (rSl R_api_Value) ([a0] : List (Option (List api_Value))) 0 0] (by kernel_rfl) ?_)))
   obtain ⟨x4, h5, hm⟩ := bs hm
   refine dO [(12, aB x4)] [bR 22 1 (rSl R_api_Value) ([a0] : List (Option (List api_Value))) 0 0] (cpureR [0] [aR 0 1 1] (fl := true) (by kernel_rfl) (by kernel_rfl) (by kernel_rfl) (ok_law05_great h5) (by kernel_rfl) (by kernel_rfl)) (by kernel_rfl) (sh 1 [(13, aB x4)] (by kernel_rfl) ?_)
   refine seg x4 [13, 12] (fun b => [(17, aB (b || (decide (((sll a1).length : Int) > 2000)))), (16, ifA b (.undef) (aB (decide (((sll a1).length : Int) > 2000)))), (15, ifA b (.undef) (aI ((sll a1).length : Int))), (14, ifA b (.undef) (.pv (encSl (rI .u8) a1)))]) 8 (by kernel_rfl) ?_ ?_ ?_
   ·
    intro Q h
    refine sh 4 [(17, aB true), (16, .undef), (15, .undef), (14, .undef)] (by kernel_rfl) ?_
    exact sameN (by kernel_rfl) (by kernel_rfl) h
   ·
    intro Q h
    refine sh 1 [(14, .pv (encSl (rI .u8) a1))] (by kernel_rfl) (dv 15 (v := aI ((sll a1).length : Int)) (len_slO (rI .u8) a1 t39 (by kernel_rfl)) (by kernel_rfl) (sh 2 [(17, aB (decide (((sll a1).length : Int) > 2000))), (16, aB (decide (((sll a1).length : Int) > 2000)))] (by kernel_rfl) ?_))
    exact sameN (by kernel_rfl) (by kernel_rfl) h
   refine sh 1 [(18, aB (x4 || (decide (((sll a1).length : Int) > 2000))))] (by kernel_rfl) ?_
   rcases bif_some hm with ⟨h6, hm⟩ | ⟨h6, hm⟩
   ·
    refine known [18, 17] h6 (by kernel_rfl) (sh 4 [(22, aB true), (21, .undef), (20, .undef), (19, .undef)] (by kernel_rfl) (fin [(0, .pv (encSl R_api_Value a0)), (1, .pv (encSl (rI .u8) a1)), (22, aB true)] rfl (by kernel_rfl) (cT (by kernel_rfl) (sq (detn [(4, aB true)] (by kernel_rfl) (wp_ret ?_))))))
    obtain rfl := Option.some.inj hm
    exact ⟨trivial, by kernel_rfl⟩
   ·
    refine known [18, 17] h6 (by kernel_rfl) (sh 1 [(19, .pv (encSl R_api_Value a0))] (by kernel_rfl) ?_)
    obtain ⟨x7, h8, hm⟩ := bs hm
    refine dv 20 (cpure (by kernel_rfl) (ok_row_Right h8) (by kernel_rfl) (by kernel_rfl) (by kernel_rfl)) (by kernel_rfl) (sh 2 [(22, aB (!x7)), (21, aB (!x7))] (by kernel_rfl) (fin [(0, .pv (encSl R_api_Value a0)), (1, .pv (encSl (rI .u8) a1)), (22, aB (!x7))] rfl (by kernel_rfl) ?_))
    rcases bif_some hm with ⟨h9, hm⟩ | ⟨h9, hm⟩
    ·
     refine ct h9 (by kernel_rfl) (sq (detn [(4, aB true)] (by kernel_rfl) (wp_ret ?_)))
     obtain rfl := Option.some.inj hm
     exact ⟨trivial, by kernel_rfl⟩
    ·
     refine cf h9 (by kernel_rfl) (wp_skip ?_)
     obtain ⟨k15, hk15, hm⟩ := withK_some hm
     refine mid (fun t H => (∃ (y10 : (List Int)) (y11 : (Option (List Int))) (g12 : Nat) (g14 : Nat), k15 y11 = some r ∧ t = mk 59 [(0, .pv (encSl R_api_Value a0)), (1, .pv (encSl (rI .u8) a1)), (5, .ptr 2 0)] ∧ H = [bR 22 1 (rSl R_api_Value) ([a0] : List (Option (List api_Value))) 0 0, bR 5 1 (rI .u8) y10 0 g14, .box [aB true, .pv (encSl (rI .u8) y11), aI 0] false] ∧ y10.length = g12)) ?_ ?_
     ·
      rintro _ _ ⟨y10, y11, g12, g14, hm, rfl, rfl, q13⟩
      subst hk15
      obtain ⟨k21, hk21, hm⟩ := withK_some hm
      refine mid (fun t H => (∃ (y16 : Bool) (y17 : (Option (List Int))) (y18 : Int) (y20 : Int), k21 y16 y17 y18 none y20 = some r ∧ t = mk 59 [(0, .pv (encSl R_api_Value a0)), (1, .pv (encSl (rI .u8) a1)), (5, .ptr 2 0), (6, .pv .nils), (7, aI y20)] ∧ H = [bR 22 1 (rSl R_api_Value) ([a0] : List (Option (List api_Value))) 0 0, bR 5 1 (rI .u8) y10 0 g14, .box [aB y16, .pv (encSl (rI .u8) y17), aI y18] false]) ∨ (∃ (y16 : Bool) (y17 : (Option (List Int))) (y18 : Int) (y19 : (List api_Value)) (y20 : Int), k21 y16 y17 y18 (some y19) y20 = some r ∧ t = mk 59 [(0, .pv (encSl R_api_Value a0)), (1, .pv (encSl (rI .u8) a1)), (5, .ptr 2 0), (6, aR 3 4 y19.length), (7, aI y20)] ∧ H = [bR 22 1 (rSl R_api_Value) ([a0] : List (Option (List api_Value))) 0 0, bR 5 1 (rI .u8) y10 0 g14, .box [aB y16, .pv (encSl (rI .u8) y17), aI y18] false, bR 38 4 R_api_Value y19 0 0])) ?_ ?_
      ·
       rintro _ _ (⟨y16, y17, y18, y20, hm, rfl, rfl⟩ | ⟨y16, y17, y18, y19, y20, hm, rfl, rfl⟩)
       ·
        subst hk21
        refine sq (rg (sh 3 [(35, aB (y20 == 0)), (34, aB (y20 == 0)), (33, aI y20)] (by kernel_rfl) ?_))
        refine seg (y20 == 0) [35, 34] (fun b => [(41, aB (b && ((0 : Int) == ((sll a0).length : Int)))), (40, ifA b (aB ((0 : Int) == ((sll a0).length : Int))) (.undef)), (39, ifA b (aI ((sll a0).length : Int)) (.undef)), (38, ifA b (.pv (encSl R_api_Value a0)) (.undef)), (37, ifA b (aI 0) (.undef)), (36, ifA b (.pv .nils) (.undef))]) 9 (by kernel_rfl) ?_ ?_ ?_
        ·
         intro Q h
         refine sh 3 [(38, .pv (encSl R_api_Value a0)), (37, aI 0), (36, .pv .nils)] (by kernel_rfl) (dv 39 (v := aI ((sll a0).length : Int)) (len_slO R_api_Value a0 t22 (by kernel_rfl)) (by kernel_rfl) (sh 2 [(41, aB ((0 : Int) == ((sll a0).length : Int))), (40, aB ((0 : Int) == ((sll a0).length : Int)))] (by kernel_rfl) ?_))
         exact sameN (by kernel_rfl) (by kernel_rfl) h
        ·
         intro Q h
         refine sh 6 [(41, aB false), (40, .undef), (39, .undef), (38, .undef), (37, .undef), (36, .undef)] (by kernel_rfl) ?_
         exact sameN (by kernel_rfl) (by kernel_rfl) h
        refine sh 1 [(42, aB ((y20 == 0) && ((0 : Int) == ((sll a0).length : Int))))] (by kernel_rfl) ?_
        rcases bif_some hm with ⟨h22, hm⟩ | ⟨h22, hm⟩
        ·
         refine known [42, 41] h22 (by kernel_rfl) (sh 2 [(44, .pv (encSl R_api_Value a0)), (43, .pv .nils)] (by kernel_rfl) ?_)
         obtain ⟨x23, h24, hm⟩ := bs hm
         refine dv 45 (cpure (by kernel_rfl) (ok_row_Cmp h24) (by kernel_rfl) (by kernel_rfl) (by kernel_rfl)) (by kernel_rfl) (sh 3 [(48, aB (x23 == 0)), (47, aB (x23 == 0)), (46, aB (x23 == 0))] (by kernel_rfl) ?_)
         rcases bif_some hm with ⟨h25, hm⟩ | ⟨h25, hm⟩
         ·
          refine known [48, 47, 46] h25 (by kernel_rfl) (sh 1 [(49, .pv .nils)] (by kernel_rfl) ?_)
          obtain ⟨x26, h27, hm⟩ := bs hm
          refine dv 50 (cpure (by kernel_rfl) (ok_row_Right h27) (by kernel_rfl) (by kernel_rfl) (by kernel_rfl)) (by kernel_rfl) (sh 2 [(52, aB x26), (51, aB x26)] (by kernel_rfl) ?_)
          rcases bif_some hm with ⟨h28, hm⟩ | ⟨h28, hm⟩
          ·
           refine known [52, 51, 50] h28 (by kernel_rfl) (sh 1 [(53, .ptr 2 0)] (by kernel_rfl) ?_)
           obtain ⟨x30, h29, hm⟩ := bs hm
           obtain ⟨vv, H1, hC, rfl, rfl⟩ := ok_codec_Reader_Left h29
           refine dR [(54, aI x30)] [bR 22 1 (rSl R_api_Value) ([a0] : List (Option (List api_Value))) 0 0, bR 5 1 (rI .u8) y10 0 g14, .box [aB y16, .pv (encSl (rI .u8) y17), aI y18] false] [2] [.ptr 2 0] (by kernel_rfl) (by kernel_rfl) (by kernel_rfl) hC (by kernel_rfl) (sh 1 [(55, .pv (encSl (rI .u8) a1))] (by kernel_rfl) (dv 56 (v := aI ((sll a1).length : Int)) (len_slO (rI .u8) a1 t39 (by kernel_rfl)) (by kernel_rfl) (sh 3 [(4, aB (x30 == ((sll a1).length : Int))), (58, aB (x30 == ((sll a1).length : Int))), (57, aB (x30 == ((sll a1).length : Int)))] (by kernel_rfl) (fin [(4, aB (x30 == ((sll a1).length : Int)))] rfl (by kernel_rfl) (wp_ret ?_)))))
           obtain rfl := Option.some.inj hm
           exact ⟨trivial, by kernel_rfl⟩
          ·
           refine known [52, 51, 50] h28 (by kernel_rfl) (sh 7 [(4, aB false), (58, aB false), (57, .undef), (56, .undef), (55, .undef), (54, .undef), (53, .undef)] (by kernel_rfl) (fin [(4, aB false)] rfl (by kernel_rfl) (wp_ret ?_)))
           obtain rfl := Option.some.inj hm
           exact ⟨trivial, by kernel_rfl⟩
         ·
          refine known [48, 47, 46] h25 (by kernel_rfl) (sh 11 [(4, aB false), (58, aB false), (57, .undef), (56, .undef), (55, .undef), (54, .undef), (53, .undef), (52, aB false), (51, aB false), (50, .undef), (49, .undef)] (by kernel_rfl) (fin [(4, aB false)] rfl (by kernel_rfl) (wp_ret ?_)))
          obtain rfl := Option.some.inj hm
          exact ⟨trivial, by kernel_rfl⟩
        ·
         refine known [42, 41] h22 (by kernel_rfl) (sh 17 [(4, aB false), (58, aB false), (57, .undef), (56, .undef), (55, .undef), (54, .undef), (53, .undef), (52, aB false), (51, aB false), (50, .undef), (49, .undef), (48, aB false), (47, aB false), (46, .undef), (45, .undef), (44, .undef), (43, .undef)] (by kernel_rfl) (fin [(4, aB false)] rfl (by kernel_rfl) (wp_ret ?_)))
         obtain rfl := Option.some.inj hm
         exact ⟨trivial, by kernel_rfl⟩
       ·
        subst hk21
        refine sq (rg (sh 3 [(35, aB (y20 == 0)), (34, aB (y20 == 0)), (33, aI y20)] (by kernel_rfl) ?_))
        refine seg (y20 == 0) [35, 34] (fun b => [(41, aB (b && ((y19.length : Int) == ((sll a0).length : Int)))), (40, ifA b (aB ((y19.length : Int) == ((sll a0).length : Int))) (.undef)), (39, ifA b (aI ((sll a0).length : Int)) (.undef)), (38, ifA b (.pv (encSl R_api_Value a0)) (.undef)), (37, ifA b (aI (y19.length : Int)) (.undef)), (36, ifA b (aR 3 4 y19.length) (.undef))]) 9 (by kernel_rfl) ?_ ?_ ?_
        ·
         intro Q h
         refine sh 1 [(36, aR 3 4 y19.length)] (by kernel_rfl) (dv 37 (v := aI (y19.length : Int)) (len_refO y19 (n := y19.length) (id := 3) (esz := 4) t22 rfl (by kernel_rfl)) (by kernel_rfl) (sh 1 [(38, .pv (encSl R_api_Value a0))] (by kernel_rfl) (dv 39 (v := aI ((sll a0).length : Int)) (len_slO R_api_Value a0 t22 (by kernel_rfl)) (by kernel_rfl) (sh 2 [(41, aB ((y19.length : Int) == ((sll a0).length : Int))), (40, aB ((y19.length : Int) == ((sll a0).length : Int)))] (by kernel_rfl) ?_))))
         exact sameN (by kernel_rfl) (by kernel_rfl) h
        ·
         intro Q h
         refine sh 6 [(41, aB false), (40, .undef), (39, .undef), (38, .undef), (37, .undef), (36, .undef)] (by kernel_rfl) ?_
         exact sameN (by kernel_rfl) (by kernel_rfl) h
        refine sh 1 [(42, aB ((y20 == 0) && ((y19.length : Int) == ((sll a0).length : Int))))] (by kernel_rfl) ?_
        rcases bif_some hm with ⟨h31, hm⟩ | ⟨h31, hm⟩
        ·
         refine known [42, 41] h31 (by kernel_rfl) (sh 2 [(44, .pv (encSl R_api_Value a0)), (43, aR 3 4 y19.length)] (by kernel_rfl) ?_)
         obtain ⟨x32, h33, hm⟩ := bs hm
         refine dO [(45, aI x32)] [bR 22 1 (rSl R_api_Value) ([a0] : List (Option (List api_Value))) 0 0, bR 5 1 (rI .u8) y10 0 g14, .box [aB y16, .pv (encSl (rI .u8) y17), aI y18] false, bR 38 4 R_api_Value y19 0 0] (cpureR [3] [aR 3 4 y19.length, .pv (encSl R_api_Value a0)] (fl := true) (by kernel_rfl) (by kernel_rfl) (pAs_cons (pA_ref (pur_ref' (n := y19.length) (id := 3) (l := y19) (R := R_api_Value) rfl rfl (Nat.zero_le _))) (pAs_cons (pA_pv) (rfl))) (ok_row_Cmp h33) (by kernel_rfl) (by kernel_rfl)) (by kernel_rfl) (sh 3 [(48, aB (x32 == 0)), (47, aB (x32 == 0)), (46, aB (x32 == 0))] (by kernel_rfl) ?_)
         rcases bif_some hm with ⟨h34, hm⟩ | ⟨h34, hm⟩
         ·
          refine known [48, 47, 46] h34 (by kernel_rfl) (sh 1 [(49, aR 3 4 y19.length)] (by kernel_rfl) ?_)
          obtain ⟨x35, h36, hm⟩ := bs hm
          refine dO [(50, aB x35)] [bR 22 1 (rSl R_api_Value) ([a0] : List (Option (List api_Value))) 0 0, bR 5 1 (rI .u8) y10 0 g14, .box [aB y16, .pv (encSl (rI .u8) y17), aI y18] false, bR 38 4 R_api_Value y19 0 0] (cpureR [3] [aR 3 4 y19.length] (fl := true) (by kernel_rfl) (by kernel_rfl) (pAs_cons (pA_ref (pur_ref' (n := y19.length) (id := 3) (l := y19) (R := R_api_Value) rfl rfl (Nat.zero_le _))) (rfl)) (ok_row_Right h36) (by kernel_rfl) (by kernel_rfl)) (by kernel_rfl) (sh 2 [(52, aB x35), (51, aB x35)] (by kernel_rfl) ?_)
          rcases bif_some hm with ⟨h37, hm⟩ | ⟨h37, hm⟩
          ·
           refine known [52, 51, 50] h37 (by kernel_rfl) (sh 1 [(53, .ptr 2 0)] (by kernel_rfl) ?_)
           obtain ⟨x39, h38, hm⟩ := bs hm
           obtain ⟨vv, H1, hC, rfl, rfl⟩ := ok_codec_Reader_Left h38
           refine dR [(54, aI x39)] [bR 22 1 (rSl R_api_Value) ([a0] : List (Option (List api_Value))) 0 0, bR 5 1 (rI .u8) y10 0 g14, .box [aB y16, .pv (encSl (rI .u8) y17), aI y18] false, bR 38 4 R_api_Value y19 0 0] [2] [.ptr 2 0] (by kernel_rfl) (by kernel_rfl) (by kernel_rfl) hC (by kernel_rfl) (sh 1 [(55, .pv (encSl (rI .u8) a1))] (by kernel_rfl) (dv 56 (v := aI ((sll a1).length : Int)) (len_slO (rI .u8) a1 t39 (by kernel_rfl)) (by kernel_rfl) (sh 3 [(4, aB (x39 == ((sll a1).length : Int))), (58, aB (x39 == ((sll a1).length : Int))), (57, aB (x39 == ((sll a1).length : Int)))] (by kernel_rfl) (fin [(4, aB (x39 == ((sll a1).length : Int)))] rfl (by kernel_rfl) (wp_ret ?_)))))
           obtain rfl := Option.some.inj hm
           exact ⟨trivial, by kernel_rfl⟩
          ·
           refine known [52, 51, 50] h37 (by kernel_rfl) (sh 7 [(4, aB false), (58, aB false), (57, .undef), (56, .undef), (55, .undef), (54, .undef), (53, .undef)] (by kernel_rfl) (fin [(4, aB false)] rfl (by kernel_rfl) (wp_ret ?_)))
           obtain rfl := Option.some.inj hm
           exact ⟨trivial, by kernel_rfl⟩
         ·
          refine known [48, 47, 46] h34 (by kernel_rfl) (sh 11 [(4, aB false), (58, aB false), (57, .undef), (56, .undef), (55, .undef), (54, .undef), (53, .undef), (52, aB false), (51, aB false), (50, .undef), (49, .undef)] (by kernel_rfl) (fin [(4, aB false)] rfl (by kernel_rfl) (wp_ret ?_)))
          obtain rfl := Option.some.inj hm
          exact ⟨trivial, by kernel_rfl⟩
        ·
         refine known [42, 41] h31 (by kernel_rfl) (sh 17 [(4, aB false), (58, aB false), (57, .undef), (56, .undef), (55, .undef), (54, .undef), (53, .undef), (52, aB false), (51, aB false), (50, .undef), (49, .undef), (48, aB false), (47, aB false), (46, .undef), (45, .undef), (44, .undef), (43, .undef)] (by kernel_rfl) (fin [(4, aB false)] rfl (by kernel_rfl) (wp_ret ?_)))
         obtain rfl := Option.some.inj hm
         exact ⟨trivial, by kernel_rfl⟩
      refine rg (sh 1 [(29, .ptr 2 0)] (by kernel_rfl) ?_)
      obtain ⟨x46, h40, hm⟩ := bs hm
      rcases x46 with ⟨x41, x42, x43, _ | x44, x45⟩
      ·
       obtain ⟨vv, H1, hC, rfl, rfl⟩ := ok_row_Take h40
       refine dR [(30, .tup [.pv .nils, aI x45])] [bR 22 1 (rSl R_api_Value) ([a0] : List (Option (List api_Value))) 0 0, bR 5 1 (rI .u8) y10 0 g14, .box [aB x41, .pv (encSl (rI .u8) x42), aI x43] false] [2] [.ptr 2 0] (by kernel_rfl) (by kernel_rfl) (by kernel_rfl) hC (by kernel_rfl) (sh 5 [(7, aI x45), (6, .pv .nils), (32, aI x45), (31, .pv .nils), (28, .tup [.pv .nils, aI x45])] (by kernel_rfl) (fin [(0, .pv (encSl R_api_Value a0)), (1, .pv (encSl (rI .u8) a1)), (5, .ptr 2 0), (6, .pv .nils), (7, aI x45)] rfl (by kernel_rfl) ?_))
       exact .inl ⟨x41, x42, x43, x45, hm, rfl, rfl⟩
      ·
       obtain ⟨vv, H1, hC, rfl, rfl⟩ := ok_row_Take h40
       refine dR [(30, .tup [aR 3 4 x44.length, aI x45])] [bR 22 1 (rSl R_api_Value) ([a0] : List (Option (List api_Value))) 0 0, bR 5 1 (rI .u8) y10 0 g14, .box [aB x41, .pv (encSl (rI .u8) x42), aI x43] false, bR 38 4 R_api_Value x44 0 0] [2] [.ptr 2 0] (by kernel_rfl) (by kernel_rfl) (by kernel_rfl) hC (by kernel_rfl) (sh 5 [(7, aI x45), (6, aR 3 4 x44.length), (32, aI x45), (31, aR 3 4 x44.length), (28, .tup [aR 3 4 x44.length, aI x45])] (by kernel_rfl) (fin [(0, .pv (encSl R_api_Value a0)), (1, .pv (encSl (rI .u8) a1)), (5, .ptr 2 0), (6, aR 3 4 x44.length), (7, aI x45)] rfl (by kernel_rfl) ?_))
       exact .inr (⟨x41, x42, x43, x44, x45, hm, rfl, rfl⟩)
     refine rg (sh 1 [(23, .pv (encSl R_api_Value a0))] (by kernel_rfl) ?_)
     obtain ⟨x48, h47, hm⟩ := bs hm
     obtain ⟨vv, H1, hC, g49, q50, rfl, rfl⟩ := ok_row_Put_nil h47
     refine dR [(24, aR 1 1 g49)] [bR 22 1 (rSl R_api_Value) ([a0] : List (Option (List api_Value))) 0 0, bR 5 1 (rI .u8) x48 0 0] [] [.pv .nils, .pv (encSl R_api_Value a0)] (by kernel_rfl) (by kernel_rfl) (by kernel_rfl) hC (by kernel_rfl) (sh 1 [(25, .pv (encSl (rI .u8) a1))] (by kernel_rfl) ?_)
     rcases bif_some hm with ⟨h51, hm⟩ | ⟨h51, hm⟩
     ·
      obtain ⟨_, h52, hm⟩ := bs hm
      refine dv 26 (v := aR 1 1 g49) (app_ref0O (u := 0) (n := g49) (id := 1) (rI .u8) x48 (sll a1) (b := 1) t39 t5 rfl rfl rfl h51 h52 rfl (by omega) (Nat.zero_le _) (src_sl (R := (rI .u8)) (s := a1)) (by kernel_rfl)) (by kernel_rfl) ?_
      obtain ⟨_, h53, hm⟩ := bs hm
      obtain ⟨vv, H1, hC, rfl, rfl⟩ := ok_codec_Read h53
      refine dO [(27, .ptr 2 0)] [bR 22 1 (rSl R_api_Value) ([a0] : List (Option (List api_Value))) 0 0, bR 5 1 (rI .u8) x48 0 (max 0 (x48.map (rI .u8)).length), .box [aB true, .pv (encSl (rI .u8) (some x48)), aI 0] false] (cownO [1] [aR 1 1 g49] (v' := .ptr 2 0) (bs' := [.box [aB true, .pv (encSl (rI .u8) (some x48)), aI 0] false]) (by kernel_rfl) (by kernel_rfl) (pAs_cons (pA_ref (pur_ref' (n := g49) (id := 1) (l := x48) (R := (rI .u8)) rfl (by omega) (Nat.zero_le _))) (rfl)) hC (by kernel_rfl) (by kernel_rfl) (by kernel_rfl)) (by kernel_rfl) (sh 1 [(5, .ptr 2 0)] (by kernel_rfl) (fin [(0, .pv (encSl R_api_Value a0)), (1, .pv (encSl (rI .u8) a1)), (5, .ptr 2 0)] rfl (by kernel_rfl) ?_))
      exact ⟨x48, (some x48), g49, (max 0 (x48.map (rI .u8)).length), hm, rfl, rfl, (by first | rfl | assumption | omega | (simp only [List.length_set, List.length_append, List.length_cons, List.length_nil, List.length_replicate] at *; omega))⟩
     ·
      obtain ⟨_, h54, hm⟩ := bs hm
      refine dO [(26, aR 1 1 ((x48 ++ (sll a1)).length))] [bR 22 1 (rSl R_api_Value) ([a0] : List (Option (List api_Value))) 0 0, bR 5 1 (rI .u8) (x48 ++ (sll a1)) 0 0] (app_refO (u := 0) (n := g49) (id := 1) (rI .u8) x48 (sll a1) (b := 1) t39 t5 rfl rfl rfl (fun _ => rfl) h51 h54 rfl (by omega) (Nat.zero_le _) (src_sl (R := (rI .u8)) (s := a1)) (by kernel_rfl)) (by kernel_rfl) ?_
      obtain ⟨_, h55, hm⟩ := bs hm
      obtain ⟨vv, H1, hC, rfl, rfl⟩ := ok_codec_Read h55
      refine dO [(27, .ptr 2 0)] [bR 22 1 (rSl R_api_Value) ([a0] : List (Option (List api_Value))) 0 0, bR 5 1 (rI .u8) (x48 ++ (sll a1)) 0 (max 0 ((x48 ++ (sll a1)).map (rI .u8)).length), .box [aB true, .pv (encSl (rI .u8) (some (x48 ++ (sll a1)))), aI 0] false] (cownO [1] [aR 1 1 ((x48 ++ (sll a1)).length)] (v' := .ptr 2 0) (bs' := [.box [aB true, .pv (encSl (rI .u8) (some (x48 ++ (sll a1)))), aI 0] false]) (by kernel_rfl) (by kernel_rfl) (pAs_cons (pA_ref (pur_ref' (n := (x48 ++ (sll a1)).length) (id := 1) (l := (x48 ++ (sll a1))) (R := (rI .u8)) rfl rfl (Nat.zero_le _))) (rfl)) hC (by kernel_rfl) (by kernel_rfl) (by kernel_rfl)) (by kernel_rfl) (sh 1 [(5, .ptr 2 0)] (by kernel_rfl) (fin [(0, .pv (encSl R_api_Value a0)), (1, .pv (encSl (rI .u8) a1)), (5, .ptr 2 0)] rfl (by kernel_rfl) ?_))
      exact ⟨(x48 ++ (sll a1)), (some (x48 ++ (sll a1))), (x48 ++ (sll a1)).length, (max 0 ((x48 ++ (sll a1)).map (rI .u8)).length), hm, rfl, rfl, (by first | rfl | assumption | omega | (simp only [List.length_set, List.length_append, List.length_cons, List.length_nil, List.length_replicate] at *; omega))⟩
end Go.Ab.S1
