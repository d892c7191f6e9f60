import Derived.Test.YtmdjdpnmbgdngaaS1
import Derived.Test.YtmdjdpnmbgdngaaPA
namespace Go.Ab.S1
open Go Go.Ab Go.Pl
open Go.Proofs.Try
set_option linter.unusedVariables false
set_option linter.unusedSimpArgs false
set_option maxRecDepth 100000
theorem ok_ref05_Bulk {n : Nat} {a0 : (Option (List (Option (List api_Value))))} {a1 : Int} {r : Int} (hm : ref05_Bulk n a0 a1 = some r) :
    call G n 31 [.pv (encSl (rSl R_api_Value) a0), aI a1] [] = some (.ret (aI r), []) := by
  unfold ref05_Bulk at hm
  obtain ⟨n, rfl, h0⟩ := at1_some hm
  replace hm := h0; clear h0
  refine callL 71 [(0, .pv (encSl (rSl R_api_Value) a0)), (1, aI a1)] func31 rfl (by kernel_rfl) (sq (detn [(0, .pv (encSl (rSl R_api_Value) a0)), (1, aI a1)] (by kernel_rfl) ?_))
  refine sq (sq (rg (sh 1 [(8, .pv (encSl (rSl R_api_Value) a0))] (by kernel_rfl) (dv 9 (v := aI ((sll a0).length : Int)) (len_slO (rSl R_api_Value) a0 t25 (by kernel_rfl)) (by kernel_rfl) (sh 2 [(11, aB (decide (((sll a0).length : Int) > a1))), (10, aI a1)] (by kernel_rfl) (fin [(0, .pv (encSl (rSl R_api_Value) a0)), (1, aI a1), (11, aB (decide (((sll a0).length : Int) > a1)))] rfl (by kernel_rfl) ?_))))))
  rcases bif_some hm with ⟨h1, hm⟩ | ⟨h1, hm⟩
  ·
   refine ct h1 (by kernel_rfl) (sq (detn [(4, aI (IntKind.wrap .i64 (a1 + 1)))] (by kernel_rfl) (wp_ret ?_)))
   obtain rfl := Option.some.inj hm
   exact ⟨trivial, by kernel_rfl⟩
  ·
   refine cf h1 (by kernel_rfl) (wp_skip (sq (rg (sh 1 [(14, .pv (encSl (rSl R_api_Value) a0))] (by kernel_rfl) (dv 15 (v := aI ((sll a0).length : Int)) (len_slO (rSl R_api_Value) a0 t25 (by kernel_rfl)) (by kernel_rfl) (sh 1 [(5, aI ((sll a0).length : Int))] (by kernel_rfl) (fin [(0, .pv (encSl (rSl R_api_Value) a0)), (1, aI a1), (5, aI ((sll a0).length : Int))] rfl (by kernel_rfl) ?_)))))))
   obtain ⟨k5, hk5, hm⟩ := withK_some hm
   refine mid (fun t H => (∃ (y2 : Bool) (y3 : Int) (y4 : Int), k5 y3 = some r ∧ t = mk 71 [(0, .pv (encSl (rSl R_api_Value) a0)), (1, aI a1), (5, aI y3), (6, aI y4), (19, aB y2)] ∧ H = [])) ?_ ?_
   ·
    rintro _ _ ⟨y2, y3, y4, hm, rfl, rfl⟩
    subst hk5
    refine sq (detn [(4, aI y3)] (by kernel_rfl) (wp_ret ?_))
    obtain rfl := Option.some.inj hm
    exact ⟨trivial, by kernel_rfl⟩
   refine sq (detn [(0, .pv (encSl (rSl R_api_Value) a0)), (1, aI a1), (5, aI ((sll a0).length : Int)), (6, aI 0)] (by kernel_rfl) (bq ?_))
   refine loopF (fun mm t H => (∃ (y8 : Int) (y9 : Int), ref05_Bulk_l5 n a0 a1 k5 mm y8 y9 = some r ∧ t = mk 71 [(0, .pv (encSl (rSl R_api_Value) a0)), (1, aI a1), (5, aI y8), (6, aI y9)] ∧ H = [])) (⟨((sll a0).length : Int), 0, hm, rfl, rfl⟩) ?_ ?_
   · rintro _ _ ⟨y8, y9, hm, _⟩; exact nomatch hm
   rintro m10 _ _ ⟨y8, y9, hm, rfl, rfl⟩
   simp only [ref05_Bulk_l5] at hm
   refine sq (sq (rg (sh 2 [(17, .pv (encSl (rSl R_api_Value) a0)), (16, aI y9)] (by kernel_rfl) (dv 18 (v := aI ((sll a0).length : Int)) (len_slO (rSl R_api_Value) a0 t25 (by kernel_rfl)) (by kernel_rfl) (sh 1 [(19, aB (decide (y9 < ((sll a0).length : Int))))] (by kernel_rfl) (fin [(0, .pv (encSl (rSl R_api_Value) a0)), (1, aI a1), (5, aI y8), (6, aI y9), (19, aB (decide (y9 < ((sll a0).length : Int))))] rfl (by kernel_rfl) ?_))))))
   rcases bif_some hm with ⟨h11, hm⟩ | ⟨h11, hm⟩
   ·
    refine ct h11 (by kernel_rfl) (wp_skip ?_)
    obtain ⟨k15, hk15, hm⟩ := withK_some hm
    refine mid (fun t H => (∃ (y12 : Bool) (y13 : Int) (y14 : Int), k15 y13 = some r ∧ t = mk 71 [(0, .pv (encSl (rSl R_api_Value) a0)), (1, aI a1), (5, aI y13), (6, aI y9), (7, aI y14), (37, aB y12)] ∧ H = [])) ?_ ?_
    ·
     rintro _ _ ⟨y12, y13, y14, hm, rfl, rfl⟩
     subst hk15
     refine detn [(0, .pv (encSl (rSl R_api_Value) a0)), (1, aI a1), (5, aI y13), (6, aI (IntKind.wrap .i64 (y9 + 1)))] (by kernel_rfl) ?_
     exact ⟨_, _, tidyL [(0, .pv (encSl (rSl R_api_Value) a0)), (1, aI a1), (5, aI y13), (6, aI (IntKind.wrap .i64 (y9 + 1)))] [] (by kernel_rfl), ⟨y13, (IntKind.wrap .i64 (y9 + 1)), hm, rfl, rfl⟩⟩
    refine bq ?_
    refine sq (sq (rg (sh 2 [(23, aI y9), (22, .pv (encSl (rSl R_api_Value) a0))] (by kernel_rfl) ?_)))
    obtain ⟨x16, h17, hm⟩ := bs hm
    refine dv 24 (v := .pv (.ptr ((rSl R_api_Value) x16) 0)) (ia_slO (rSl R_api_Value) a0 .i64 t25 t22 h17 rfl (by kernel_rfl)) (by kernel_rfl) (sh 1 [(25, .pv (encSl R_api_Value x16))] (by kernel_rfl) (dv 26 (v := aI ((sll x16).length : Int)) (len_slO R_api_Value x16 t22 (by kernel_rfl)) (by kernel_rfl) (sh 2 [(28, aB (decide (((sll x16).length : Int) > a1))), (27, aI a1)] (by kernel_rfl) (fin [(0, .pv (encSl (rSl R_api_Value) a0)), (1, aI a1), (5, aI y8), (6, aI y9), (28, aB (decide (((sll x16).length : Int) > a1)))] rfl (by kernel_rfl) ?_))))
    rcases bif_some hm with ⟨h18, hm⟩ | ⟨h18, hm⟩
    ·
     refine ct h18 (by kernel_rfl) (sq (detn [(4, aI (IntKind.wrap .i64 (a1 + 1)))] (by kernel_rfl) (wp_ret ?_)))
     obtain rfl := Option.some.inj hm
     exact ⟨trivial, by kernel_rfl⟩
    ·
     refine cf h18 (by kernel_rfl) (wp_skip (sq (detn [(0, .pv (encSl (rSl R_api_Value) a0)), (1, aI a1), (5, aI y8), (6, aI y9), (7, aI 0)] (by kernel_rfl) (bq ?_))))
     refine loopF (fun mm t H => (∃ (y21 : Int) (y22 : Int), ref05_Bulk_l10 n a1 k15 x16 mm y21 y22 = some r ∧ t = mk 71 [(0, .pv (encSl (rSl R_api_Value) a0)), (1, aI a1), (5, aI y21), (6, aI y9), (7, aI y22)] ∧ H = [])) (⟨y8, 0, hm, rfl, rfl⟩) ?_ ?_
     · rintro _ _ ⟨y21, y22, hm, _⟩; exact nomatch hm
     rintro m23 _ _ ⟨y21, y22, hm, rfl, rfl⟩
     simp only [ref05_Bulk_l10] at hm
     refine sq (sq (rg (sh 3 [(33, aI y9), (32, .pv (encSl (rSl R_api_Value) a0)), (31, aI y22)] (by kernel_rfl) (dv 34 (v := .pv (.ptr ((rSl R_api_Value) x16) 0)) (ia_slO (rSl R_api_Value) a0 .i64 t25 t22 h17 rfl (by kernel_rfl)) (by kernel_rfl) (sh 1 [(35, .pv (encSl R_api_Value x16))] (by kernel_rfl) (dv 36 (v := aI ((sll x16).length : Int)) (len_slO R_api_Value x16 t22 (by kernel_rfl)) (by kernel_rfl) (sh 1 [(37, aB (decide (y22 < ((sll x16).length : Int))))] (by kernel_rfl) (fin [(0, .pv (encSl (rSl R_api_Value) a0)), (1, aI a1), (5, aI y21), (6, aI y9), (7, aI y22), (37, aB (decide (y22 < ((sll x16).length : Int))))] rfl (by kernel_rfl) ?_))))))))
     rcases bif_some hm with ⟨h24, hm⟩ | ⟨h24, hm⟩
     ·
      refine ct h24 (by kernel_rfl) (wp_skip (sq (bq ?_)))
      refine sq (sq (rg (sh 4 [(43, aB (decide (y21 > a1))), (42, aB (decide (y21 > a1))), (41, aI a1), (40, aI y21)] (by kernel_rfl) ?_)))
      rcases bif_some hm with ⟨h25, hm⟩ | ⟨h25, hm⟩
      ·
       refine known [43, 42] h25 (by kernel_rfl) (sh 12 [(55, aB true), (54, .undef), (53, .undef), (52, .undef), (51, .undef), (50, .undef), (49, .undef), (48, .undef), (47, .undef), (46, .undef), (45, .undef), (44, .undef)] (by kernel_rfl) (fin [(0, .pv (encSl (rSl R_api_Value) a0)), (1, aI a1), (5, aI y21), (6, aI y9), (7, aI y22), (55, aB true)] rfl (by kernel_rfl) (cT (by kernel_rfl) (sq (detn [(4, aI (IntKind.wrap .i64 (a1 + 1)))] (by kernel_rfl) (wp_ret ?_))))))
       obtain rfl := Option.some.inj hm
       exact ⟨trivial, by kernel_rfl⟩
      ·
       refine known [43, 42] h25 (by kernel_rfl) (sh 2 [(45, aI y9), (44, .pv (encSl (rSl R_api_Value) a0))] (by kernel_rfl) (dv 46 (v := .pv (.ptr ((rSl R_api_Value) x16) 0)) (ia_slO (rSl R_api_Value) a0 .i64 t25 t22 h17 rfl (by kernel_rfl)) (by kernel_rfl) (sh 2 [(48, aI y22), (47, .pv (encSl R_api_Value x16))] (by kernel_rfl) ?_)))
       obtain ⟨x26, h27, hm⟩ := bs hm
       refine dv 49 (v := .pv (.ptr (R_api_Value x26) 0)) (ia_slO R_api_Value x16 .i64 t22 t38 h27 rfl (by kernel_rfl)) (by kernel_rfl) (sh 6 [(55, aB (decide ((x26.fText.size : Int) > a1))), (54, aB (decide ((x26.fText.size : Int) > a1))), (53, aI a1), (52, aI (x26.fText.size : Int)), (51, aS x26.fText), (50, .pv (.ptr (R_api_Value x26) 3))] (by kernel_rfl) (fin [(0, .pv (encSl (rSl R_api_Value) a0)), (1, aI a1), (5, aI y21), (6, aI y9), (7, aI y22), (55, aB (decide ((x26.fText.size : Int) > a1)))] rfl (by kernel_rfl) ?_))
       rcases bif_some hm with ⟨h28, hm⟩ | ⟨h28, hm⟩
       ·
        refine ct h28 (by kernel_rfl) (sq (detn [(4, aI (IntKind.wrap .i64 (a1 + 1)))] (by kernel_rfl) (wp_ret ?_)))
        obtain rfl := Option.some.inj hm
        exact ⟨trivial, by kernel_rfl⟩
       ·
        refine cf h28 (by kernel_rfl) (wp_skip (rg (sh 4 [(61, aI y9), (60, .pv (encSl (rSl R_api_Value) a0)), (59, aI (IntKind.wrap .i64 (y21 + 1))), (58, aI y21)] (by kernel_rfl) (dv 62 (v := .pv (.ptr ((rSl R_api_Value) x16) 0)) (ia_slO (rSl R_api_Value) a0 .i64 t25 t22 h17 rfl (by kernel_rfl)) (by kernel_rfl) (sh 2 [(64, aI y22), (63, .pv (encSl R_api_Value x16))] (by kernel_rfl) (dv 65 (v := .pv (.ptr (R_api_Value x26) 0)) (ia_slO R_api_Value x16 .i64 t22 t38 h27 rfl (by kernel_rfl)) (by kernel_rfl) (sh 5 [(5, aI (IntKind.wrap .i64 ((IntKind.wrap .i64 (y21 + 1)) + (x26.fText.size : Int)))), (69, aI (IntKind.wrap .i64 ((IntKind.wrap .i64 (y21 + 1)) + (x26.fText.size : Int)))), (68, aI (x26.fText.size : Int)), (67, aS x26.fText), (66, .pv (.ptr (R_api_Value x26) 3))] (by kernel_rfl) (fin [(0, .pv (encSl (rSl R_api_Value) a0)), (1, aI a1), (5, aI (IntKind.wrap .i64 ((IntKind.wrap .i64 (y21 + 1)) + (x26.fText.size : Int)))), (6, aI y9), (7, aI y22)] rfl (by kernel_rfl) (detn [(0, .pv (encSl (rSl R_api_Value) a0)), (1, aI a1), (5, aI (IntKind.wrap .i64 ((IntKind.wrap .i64 (y21 + 1)) + (x26.fText.size : Int)))), (6, aI y9), (7, aI (IntKind.wrap .i64 (y22 + 1)))] (by kernel_rfl) ?_)))))))))
        exact ⟨_, _, tidyL [(0, .pv (encSl (rSl R_api_Value) a0)), (1, aI a1), (5, aI (IntKind.wrap .i64 ((IntKind.wrap .i64 (y21 + 1)) + (x26.fText.size : Int)))), (6, aI y9), (7, aI (IntKind.wrap .i64 (y22 + 1)))] [] (by kernel_rfl), ⟨(IntKind.wrap .i64 ((IntKind.wrap .i64 (y21 + 1)) + (x26.fText.size : Int))), (IntKind.wrap .i64 (y22 + 1)), hm, rfl, rfl⟩⟩
     ·
      refine cf h24 (by kernel_rfl) (wp_exit ?_)
      exact ⟨(decide (y22 < ((sll x16).length : Int))), y21, y22, hm, rfl, rfl⟩
   ·
    refine cf h11 (by kernel_rfl) (wp_exit ?_)
    exact ⟨(decide (y9 < ((sll a0).length : Int))), y8, y9, hm, rfl, rfl⟩
theorem ok_law05_great {n : Nat} {a0 : (Option (List (Option (List api_Value))))} {r : Bool} (hm : law05_great n a0 = some r) :
    call G n 9 [.pv (encSl (rSl R_api_Value) a0)] [] = some (.ret (aB r), []) := by
  unfold law05_great at hm
  obtain ⟨n, rfl, h0⟩ := at1_some hm
  replace hm := h0; clear h0
  refine callL 6 [(0, .pv (encSl (rSl R_api_Value) a0))] func9 rfl (by kernel_rfl) (sq (detn [(0, .pv (encSl (rSl R_api_Value) a0))] (by kernel_rfl) (sq (rg (sh 1 [(3, .pv (encSl (rSl R_api_Value) a0))] (by kernel_rfl) ?_)))))
  obtain ⟨x1, h2, hm⟩ := bs hm
  refine dv 4 (cpure (by kernel_rfl) (ok_ref05_Bulk h2) (by kernel_rfl) (by kernel_rfl) (by kernel_rfl)) (by kernel_rfl) (sh 2 [(2, aB (decide (x1 > 600))), (5, aB (decide (x1 > 600)))] (by kernel_rfl) (fin [(2, aB (decide (x1 > 600)))] rfl (by kernel_rfl) (wp_ret ?_)))
  obtain rfl := Option.some.inj hm
  exact ⟨trivial, by kernel_rfl⟩
theorem ok_math_Signbit {n : Nat} {a0 : Nat} {r : Bool} (hm : math_Signbit n a0 = some r) :
    call G n 57 [aF a0] [] = some (.ret (aB r), []) := by
  unfold math_Signbit at hm
  obtain ⟨n, rfl, h0⟩ := at1_some hm
  replace hm := h0; clear h0
  refine callL 7 [(0, aF a0)] func57 rfl (by kernel_rfl) (sq (detn [(0, aF a0)] (by kernel_rfl) (sq (rg (sh 1 [(3, aF a0)] (by kernel_rfl) (sh 1 [(4, aU (a0 : Int))] (by kernel_rfl) (sh 3 [(2, aB (decide ((IntKind.wrap .i64 (a0 : Int)) < 0))), (6, aB (decide ((IntKind.wrap .i64 (a0 : Int)) < 0))), (5, aI (IntKind.wrap .i64 (a0 : Int)))] (by kernel_rfl) (fin [(2, aB (decide ((IntKind.wrap .i64 (a0 : Int)) < 0)))] rfl (by kernel_rfl) (wp_ret ?_)))))))))
  obtain rfl := Option.some.inj hm
  exact ⟨trivial, by kernel_rfl⟩
theorem ok_value_Right {n : Nat} {a0 : api_Value} {r : Bool} (hm : value_Right n a0 = some r) :
    call G n 34 [.agg [aI a0.fKind, aI a0.fInt, aF a0.fFloat, aS a0.fText]] [] = some (.ret (aB r), []) := by
  unfold value_Right at hm
  obtain ⟨n, rfl, h0⟩ := at1_some hm
  replace hm := h0; clear h0
  refine callL 70 [(0, .agg [aI a0.fKind, aI a0.fInt, aF a0.fFloat, aS a0.fText])] func34 rfl (by kernel_rfl) (sq (det [(1, .ptr 0 0)] [.box [aI a0.fKind, aI a0.fInt, aF a0.fFloat, aS a0.fText] false] (by kernel_rfl) ?_))
  obtain ⟨k2, hk2, hm⟩ := withK_some hm
  refine mid (fun t H => (∃ (y1 : Bool), k2 y1 = some r ∧ t = mk 70 [(1, .ptr 0 0), (3, aB y1)] ∧ H = [.box [aI a0.fKind, aI a0.fInt, aF a0.fFloat, aS a0.fText] false])) ?_ ?_
  ·
   rintro _ _ ⟨y1, hm, rfl, rfl⟩
   subst hk2
   refine sq (sq (detn [(1, .ptr 0 0), (3, aB y1), (14, aI a0.fKind)] (by kernel_rfl) (bq ?_)))
   refine sq (bq ?_)
   refine sq (bq ?_)
   obtain ⟨k6, hk6, hm⟩ := withK_some hm
   refine mid (fun t H => (∃ (w3 : AV) (w4 : AV) (w5 : AV), k6 () = some r ∧ t = mk 70 [(1, .ptr 0 0), (3, aB y1), (14, w3), (19, w4), (43, w5)] ∧ H = [.box [aI a0.fKind, aI a0.fInt, aF a0.fFloat, aS a0.fText] false])) ?_ ?_
   ·
    rintro _ _ ⟨w3, w4, w5, hm, rfl, rfl⟩
    subst hk6
    refine sq (sq (rg (sh 2 [(45, aB y1), (44, aB y1)] (by kernel_rfl) ?_)))
    refine seg y1 [45, 44, 3] (fun b => [(49, aB (b && (sEq a0.fText ByteArray.empty))), (48, ifA b (aB (sEq a0.fText ByteArray.empty)) (.undef)), (47, ifA b (aS a0.fText) (.undef)), (46, ifA b (.ptr 0 3) (.undef))]) 6 (by kernel_rfl) ?_ ?_ ?_
    ·
     intro Q h
     refine sh 4 [(49, aB (sEq a0.fText ByteArray.empty)), (48, aB (sEq a0.fText ByteArray.empty)), (47, aS a0.fText), (46, .ptr 0 3)] (by kernel_rfl) ?_
     exact sameN (by kernel_rfl) (by kernel_rfl) h
    ·
     intro Q h
     refine sh 4 [(49, aB false), (48, .undef), (47, .undef), (46, .undef)] (by kernel_rfl) ?_
     exact sameN (by kernel_rfl) (by kernel_rfl) h
    refine sh 1 [(2, aB (y1 && (sEq a0.fText ByteArray.empty)))] (by kernel_rfl) (fin [(2, aB (y1 && (sEq a0.fText ByteArray.empty)))] rfl (by kernel_rfl) (wp_ret ?_))
    obtain rfl := Option.some.inj hm
    exact ⟨trivial, by kernel_rfl⟩
   refine bq ?_
   refine sq (bq ?_)
   refine sq (bq (sq ?_))
   refine sq (sq (detn [(1, .ptr 0 0), (3, aB y1), (14, aI a0.fKind), (15, aB (a0.fKind == 0))] (by kernel_rfl) ?_))
   rcases bif_some hm with ⟨h7, hm⟩ | ⟨h7, hm⟩
   ·
    refine ct h7 (by kernel_rfl) (wp_exit (sq (sq (rg (sh 4 [(28, aB (a0.fInt == 0)), (27, aB (a0.fInt == 0)), (26, aI a0.fInt), (25, .ptr 0 1)] (by kernel_rfl) ?_)))))
    refine seg (a0.fInt == 0) [28, 27] (fun b => [(30, aB (b && y1)), (29, ifA b (aB y1) (.undef))]) 6 (by kernel_rfl) ?_ ?_ ?_
    ·
     intro Q h
     refine sh 2 [(30, aB y1), (29, aB y1)] (by kernel_rfl) ?_
     exact sameN (by kernel_rfl) (by kernel_rfl) h
    ·
     intro Q h
     refine sh 2 [(30, aB false), (29, .undef)] (by kernel_rfl) ?_
     exact sameN (by kernel_rfl) (by kernel_rfl) h
    refine sh 1 [(31, aB ((a0.fInt == 0) && y1))] (by kernel_rfl) ?_
    refine seg ((a0.fInt == 0) && y1) [31, 30] (fun b => [(35, aB (b && (sEq a0.fText ByteArray.empty))), (34, ifA b (aB (sEq a0.fText ByteArray.empty)) (.undef)), (33, ifA b (aS a0.fText) (.undef)), (32, ifA b (.ptr 0 3) (.undef))]) 11 (by kernel_rfl) ?_ ?_ ?_
    ·
     intro Q h
     refine sh 4 [(35, aB (sEq a0.fText ByteArray.empty)), (34, aB (sEq a0.fText ByteArray.empty)), (33, aS a0.fText), (32, .ptr 0 3)] (by kernel_rfl) ?_
     exact sameN (by kernel_rfl) (by kernel_rfl) h
    ·
     intro Q h
     refine sh 4 [(35, aB false), (34, .undef), (33, .undef), (32, .undef)] (by kernel_rfl) ?_
     exact sameN (by kernel_rfl) (by kernel_rfl) h
    refine sh 1 [(2, aB (((a0.fInt == 0) && y1) && (sEq a0.fText ByteArray.empty)))] (by kernel_rfl) (fin [(2, aB (((a0.fInt == 0) && y1) && (sEq a0.fText ByteArray.empty)))] rfl (by kernel_rfl) (wp_ret ?_))
    obtain rfl := Option.some.inj hm
    exact ⟨trivial, by kernel_rfl⟩
   ·
    refine cf h7 (by kernel_rfl) (wp_skip (sq (sq (detn [(1, .ptr 0 0), (3, aB y1), (14, aI a0.fKind), (17, aB (a0.fKind == 1))] (by kernel_rfl) ?_))))
    rcases bif_some hm with ⟨h8, hm⟩ | ⟨h8, hm⟩
    ·
     refine ct h8 (by kernel_rfl) (wp_exit (sq (rg (sh 4 [(39, aB (a0.fInt != 0)), (38, aB (a0.fInt != 0)), (37, aI a0.fInt), (36, .ptr 0 1)] (by kernel_rfl) ?_))))
     refine seg (a0.fInt != 0) [39, 38] (fun b => [(43, aB (b && (a0.fInt != 1))), (42, ifA b (aB (a0.fInt != 1)) (.undef)), (41, ifA b (aI a0.fInt) (.undef)), (40, ifA b (.ptr 0 1) (.undef))]) 8 (by kernel_rfl) ?_ ?_ ?_
     ·
      intro Q h
      refine sh 4 [(43, aB (a0.fInt != 1)), (42, aB (a0.fInt != 1)), (41, aI a0.fInt), (40, .ptr 0 1)] (by kernel_rfl) ?_
      exact sameN (by kernel_rfl) (by kernel_rfl) h
     ·
      intro Q h
      refine sh 4 [(43, aB false), (42, .undef), (41, .undef), (40, .undef)] (by kernel_rfl) ?_
      exact sameN (by kernel_rfl) (by kernel_rfl) h
     refine fin [(1, .ptr 0 0), (3, aB y1), (43, aB ((a0.fInt != 0) && (a0.fInt != 1)))] rfl (by kernel_rfl) ?_
     rcases bif_some hm with ⟨h9, hm⟩ | ⟨h9, hm⟩
     ·
      refine ct h9 (by kernel_rfl) (sq (detn [(2, aB false)] (by kernel_rfl) (wp_ret ?_)))
      obtain rfl := Option.some.inj hm
      exact ⟨trivial, by kernel_rfl⟩
     ·
      refine cf h9 (by kernel_rfl) (wp_skip ?_)
      exact ⟨.any, .any, aB ((a0.fInt != 0) && (a0.fInt != 1)), hm, (mk_same (by kernel_rfl)), rfl⟩
    ·
     refine cf h8 (by kernel_rfl) (wp_skip (sq (sq (detn [(1, .ptr 0 0), (3, aB y1), (14, aI a0.fKind), (19, aB (a0.fKind == 2))] (by kernel_rfl) ?_))))
     rcases bif_some hm with ⟨h10, hm⟩ | ⟨h10, hm⟩
     ·
      refine ct h10 (by kernel_rfl) (wp_exit ?_)
      exact ⟨aI a0.fKind, aB (a0.fKind == 2), .any, hm, (mk_same (by kernel_rfl)), rfl⟩
     ·
      refine cf h10 (by kernel_rfl) (wp_skip (sq (sq (detn [(1, .ptr 0 0), (3, aB y1), (14, aI a0.fKind), (21, aB (a0.fKind == 3))] (by kernel_rfl) ?_))))
      rcases bif_some hm with ⟨h11, hm⟩ | ⟨h11, hm⟩
      ·
       refine ct h11 (by kernel_rfl) (wp_exit (sq (sq (rg (sh 4 [(53, aB (a0.fInt == 0)), (52, aB (a0.fInt == 0)), (51, aI a0.fInt), (50, .ptr 0 1)] (by kernel_rfl) ?_)))))
       refine seg (a0.fInt == 0) [53, 52] (fun b => [(57, aB (b && (sEq a0.fText ByteArray.empty))), (56, ifA b (aB (sEq a0.fText ByteArray.empty)) (.undef)), (55, ifA b (aS a0.fText) (.undef)), (54, ifA b (.ptr 0 3) (.undef))]) 8 (by kernel_rfl) ?_ ?_ ?_
       ·
        intro Q h
        refine sh 4 [(57, aB (sEq a0.fText ByteArray.empty)), (56, aB (sEq a0.fText ByteArray.empty)), (55, aS a0.fText), (54, .ptr 0 3)] (by kernel_rfl) ?_
        exact sameN (by kernel_rfl) (by kernel_rfl) h
       ·
        intro Q h
        refine sh 4 [(57, aB false), (56, .undef), (55, .undef), (54, .undef)] (by kernel_rfl) ?_
        exact sameN (by kernel_rfl) (by kernel_rfl) h
       refine sh 1 [(2, aB ((a0.fInt == 0) && (sEq a0.fText ByteArray.empty)))] (by kernel_rfl) (fin [(2, aB ((a0.fInt == 0) && (sEq a0.fText ByteArray.empty)))] rfl (by kernel_rfl) (wp_ret ?_))
       obtain rfl := Option.some.inj hm
       exact ⟨trivial, by kernel_rfl⟩
      ·
       refine cf h11 (by kernel_rfl) (wp_skip (sq (detn [(1, .ptr 0 0), (3, aB y1), (23, aB (a0.fKind == 4))] (by kernel_rfl) ?_)))
       rcases bif_some hm with ⟨h12, hm⟩ | ⟨h12, hm⟩
       ·
        refine ct h12 (by kernel_rfl) (wp_exit (sq (sq (rg (sh 4 [(61, aB (a0.fInt == 0)), (60, aB (a0.fInt == 0)), (59, aI a0.fInt), (58, .ptr 0 1)] (by kernel_rfl) ?_)))))
        refine seg (a0.fInt == 0) [61, 60] (fun b => [(63, aB (b && y1)), (62, ifA b (aB y1) (.undef))]) 6 (by kernel_rfl) ?_ ?_ ?_
        ·
         intro Q h
         refine sh 2 [(63, aB y1), (62, aB y1)] (by kernel_rfl) ?_
         exact sameN (by kernel_rfl) (by kernel_rfl) h
        ·
         intro Q h
         refine sh 2 [(63, aB false), (62, .undef)] (by kernel_rfl) ?_
         exact sameN (by kernel_rfl) (by kernel_rfl) h
        refine sh 1 [(64, aB ((a0.fInt == 0) && y1))] (by kernel_rfl) ?_
        refine seg ((a0.fInt == 0) && y1) [64, 63] (fun b => [(69, aB (b && (decide ((a0.fText.size : Int) ≤ 64)))), (68, ifA b (aB (decide ((a0.fText.size : Int) ≤ 64))) (.undef)), (67, ifA b (aI (a0.fText.size : Int)) (.undef)), (66, ifA b (aS a0.fText) (.undef)), (65, ifA b (.ptr 0 3) (.undef))]) 12 (by kernel_rfl) ?_ ?_ ?_
        ·
         intro Q h
         refine sh 5 [(69, aB (decide ((a0.fText.size : Int) ≤ 64))), (68, aB (decide ((a0.fText.size : Int) ≤ 64))), (67, aI (a0.fText.size : Int)), (66, aS a0.fText), (65, .ptr 0 3)] (by kernel_rfl) ?_
         exact sameN (by kernel_rfl) (by kernel_rfl) h
        ·
         intro Q h
         refine sh 5 [(69, aB false), (68, .undef), (67, .undef), (66, .undef), (65, .undef)] (by kernel_rfl) ?_
         exact sameN (by kernel_rfl) (by kernel_rfl) h
        refine sh 1 [(2, aB (((a0.fInt == 0) && y1) && (decide ((a0.fText.size : Int) ≤ 64))))] (by kernel_rfl) (fin [(2, aB (((a0.fInt == 0) && y1) && (decide ((a0.fText.size : Int) ≤ 64))))] rfl (by kernel_rfl) (wp_ret ?_))
        obtain rfl := Option.some.inj hm
        exact ⟨trivial, by kernel_rfl⟩
       ·
        refine cf h12 (by kernel_rfl) (wp_skip (wp_exit (sq (detn [(2, aB false)] (by kernel_rfl) (wp_ret ?_)))))
        obtain rfl := Option.some.inj hm
        exact ⟨trivial, by kernel_rfl⟩
  refine rg (sh 4 [(7, aB ((FloatKind.format .f64).order a0.fFloat 0 == some .eq)), (6, aB ((FloatKind.format .f64).order a0.fFloat 0 == some .eq)), (5, aF a0.fFloat), (4, .ptr 0 2)] (by kernel_rfl) ?_)
  rcases bif_some hm with ⟨h13, hm⟩ | ⟨h13, hm⟩
  ·
   refine known [7, 6] h13 (by kernel_rfl) (sh 2 [(9, aF a0.fFloat), (8, .ptr 0 2)] (by kernel_rfl) ?_)
   obtain ⟨x14, h15, hm⟩ := bs hm
   refine dv 10 (cpure (by kernel_rfl) (ok_math_Signbit h15) (by kernel_rfl) (by kernel_rfl) (by kernel_rfl)) (by kernel_rfl) (sh 3 [(3, aB (!x14)), (12, aB (!x14)), (11, aB (!x14))] (by kernel_rfl) (fin [(1, .ptr 0 0), (3, aB (!x14))] rfl (by kernel_rfl) ?_))
   exact ⟨(!x14), hm, rfl, rfl⟩
  ·
   refine known [7, 6] h13 (by kernel_rfl) (sh 6 [(3, aB false), (12, aB false), (11, .undef), (10, .undef), (9, .undef), (8, .undef)] (by kernel_rfl) (fin [(1, .ptr 0 0), (3, aB false)] rfl (by kernel_rfl) ?_))
   exact ⟨false, hm, rfl, rfl⟩
theorem ok_row_Right_1 {n : Nat} {a0 : api_Value} {r : Bool} (hm : row_Right_1 n a0 = some r) :
    call G n 33 [.agg [aI a0.fKind, aI a0.fInt, aF a0.fFloat, aS a0.fText]] [] = some (.ret (aB r), []) := by
  unfold row_Right_1 at hm
  obtain ⟨n, rfl, h0⟩ := at1_some hm
  replace hm := h0; clear h0
  refine callL 6 [(0, .agg [aI a0.fKind, aI a0.fInt, aF a0.fFloat, aS a0.fText])] func33 rfl (by kernel_rfl) (sq (det [(1, .ptr 0 0)] [.box [aI a0.fKind, aI a0.fInt, aF a0.fFloat, aS a0.fText] false] (by kernel_rfl) (sq (rg (sh 1 [(3, .agg [aI a0.fKind, aI a0.fInt, aF a0.fFloat, aS a0.fText])] (by kernel_rfl) ?_)))))
  obtain ⟨x1, h2, hm⟩ := bs hm
  refine dv 4 (cpure (by kernel_rfl) (ok_value_Right h2) (by kernel_rfl) (by kernel_rfl) (by kernel_rfl)) (by kernel_rfl) (sh 2 [(2, aB (!x1)), (5, aB (!x1))] (by kernel_rfl) (fin [(2, aB (!x1))] rfl (by kernel_rfl) (wp_ret ?_)))
  obtain rfl := Option.some.inj hm
  exact ⟨trivial, by kernel_rfl⟩
theorem ok_slices_IndexFunc_Value_row_Right_1 {n : Nat} {a0 : (Option (List api_Value))} {r : Int} (hm : slices_IndexFunc_Value_row_Right_1 n a0 = some r) :
    call G n 56 [.pv (encSl R_api_Value a0), .pv (.fn 33 [] [])] [] = some (.ret (aI r), []) := by
  unfold slices_IndexFunc_Value_row_Right_1 at hm
  obtain ⟨n, rfl, h0⟩ := at1_some hm
  replace hm := h0; clear h0
  refine callL 19 [(0, .pv (encSl R_api_Value a0)), (1, .pv (.fn 33 [] []))] func56 rfl (by kernel_rfl) (sq (detn [(0, .pv (encSl R_api_Value a0)), (1, .pv (.fn 33 [] []))] (by kernel_rfl) ?_))
  obtain ⟨k3, hk3, hm⟩ := withK_some hm
  refine mid (fun t H => (∃ (y1 : Int) (y2 : Bool), k3 () = some r ∧ t = mk 19 [(0, .pv (encSl R_api_Value a0)), (1, .pv (.fn 33 [] [])), (7, aI ((sll a0).length : Int)), (8, aI y1), (9, aB y2)] ∧ H = [])) ?_ ?_
  ·
   rintro _ _ ⟨y1, y2, hm, rfl, rfl⟩
   subst hk3
   refine sq (detn [(4, aI (-1))] (by kernel_rfl) (wp_ret ?_))
   obtain rfl := Option.some.inj hm
   exact ⟨trivial, by kernel_rfl⟩
  refine sq (rg (sh 1 [(6, .pv (encSl R_api_Value a0))] (by kernel_rfl) (dv 7 (v := aI ((sll a0).length : Int)) (len_slO R_api_Value a0 t22 (by kernel_rfl)) (by kernel_rfl) (sh 1 [(8, aI 0)] (by kernel_rfl) (fin [(0, .pv (encSl R_api_Value a0)), (1, .pv (.fn 33 [] [])), (7, aI ((sll a0).length : Int)), (8, aI 0)] rfl (by kernel_rfl) (bq ?_))))))
  refine loopF (fun mm t H => (∃ (y5 : Int), slices_IndexFunc_Value_row_Right_1_l2 n a0 k3 mm y5 = some r ∧ t = mk 19 [(0, .pv (encSl R_api_Value a0)), (1, .pv (.fn 33 [] [])), (7, aI ((sll a0).length : Int)), (8, aI y5)] ∧ H = [])) (⟨0, hm, rfl, rfl⟩) ?_ ?_
  · rintro _ _ ⟨y5, hm, _⟩; exact nomatch hm
  rintro m6 _ _ ⟨y5, hm, rfl, rfl⟩
  simp only [slices_IndexFunc_Value_row_Right_1_l2] at hm
  refine sq (detn [(0, .pv (encSl R_api_Value a0)), (1, .pv (.fn 33 [] [])), (7, aI ((sll a0).length : Int)), (8, aI y5), (9, aB (decide (y5 < ((sll a0).length : Int))))] (by kernel_rfl) ?_)
  refine sq ?_
  rcases bif_some hm with ⟨h7, hm⟩ | ⟨h7, hm⟩
  ·
   refine ct h7 (by kernel_rfl) (wp_skip (sq (bq (sq (detn [(0, .pv (encSl R_api_Value a0)), (1, .pv (.fn 33 [] [])), (5, aI y5), (7, aI ((sll a0).length : Int)), (8, aI y5)] (by kernel_rfl) (sq (rg (sh 3 [(13, aI y5), (12, .pv (encSl R_api_Value a0)), (11, .pv (.fn 33 [] []))] (by kernel_rfl) ?_))))))))
   obtain ⟨x8, h9, hm⟩ := bs hm
   refine dv 14 (v := .pv (.ptr (R_api_Value x8) 0)) (ia_slO R_api_Value a0 .i64 t22 t38 h9 rfl (by kernel_rfl)) (by kernel_rfl) (sh 1 [(15, .agg [aI x8.fKind, aI x8.fInt, aF x8.fFloat, aS x8.fText])] (by kernel_rfl) ?_)
   obtain ⟨x10, h11, hm⟩ := bs hm
   refine dv 16 (cpure (by kernel_rfl) (ok_row_Right_1 h11) (by kernel_rfl) (by kernel_rfl) (by kernel_rfl)) (by kernel_rfl) (fin [(0, .pv (encSl R_api_Value a0)), (1, .pv (.fn 33 [] [])), (5, aI y5), (7, aI ((sll a0).length : Int)), (8, aI y5), (16, aB x10)] rfl (by kernel_rfl) ?_)
   rcases bif_some hm with ⟨h12, hm⟩ | ⟨h12, hm⟩
   ·
    refine ct h12 (by kernel_rfl) (sq (detn [(4, aI y5)] (by kernel_rfl) (wp_ret ?_)))
    obtain rfl := Option.some.inj hm
    exact ⟨trivial, by kernel_rfl⟩
   ·
    refine cf h12 (by kernel_rfl) (wp_skip (detn [(0, .pv (encSl R_api_Value a0)), (1, .pv (.fn 33 [] [])), (7, aI ((sll a0).length : Int)), (8, aI (IntKind.wrap .i64 (y5 + 1)))] (by kernel_rfl) ?_))
    exact ⟨_, _, tidyL [(0, .pv (encSl R_api_Value a0)), (1, .pv (.fn 33 [] [])), (7, aI ((sll a0).length : Int)), (8, aI (IntKind.wrap .i64 (y5 + 1)))] [] (by kernel_rfl), ⟨(IntKind.wrap .i64 (y5 + 1)), hm, rfl, rfl⟩⟩
  ·
   refine cf h7 (by kernel_rfl) (wp_exit ?_)
   exact ⟨y5, (decide (y5 < ((sll a0).length : Int))), hm, rfl, rfl⟩
theorem ok_slices_ContainsFunc_Value_row_Right_1 {n : Nat} {a0 : (Option (List api_Value))} {r : Bool} (hm : slices_ContainsFunc_Value_row_Right_1 n a0 = some r) :
    call G n 32 [.pv (encSl R_api_Value a0), .pv (.fn 33 [] [])] [] = some (.ret (aB r), []) := by
  unfold slices_ContainsFunc_Value_row_Right_1 at hm
  obtain ⟨n, rfl, h0⟩ := at1_some hm
  replace hm := h0; clear h0
  refine callL 9 [(0, .pv (encSl R_api_Value a0)), (1, .pv (.fn 33 [] []))] func32 rfl (by kernel_rfl) (sq (detn [(0, .pv (encSl R_api_Value a0)), (1, .pv (.fn 33 [] []))] (by kernel_rfl) (sq (rg (sh 2 [(6, .pv (.fn 33 [] [])), (5, .pv (encSl R_api_Value a0))] (by kernel_rfl) ?_)))))
  obtain ⟨x1, h2, hm⟩ := bs hm
  refine dv 7 (cpure (by kernel_rfl) (ok_slices_IndexFunc_Value_row_Right_1 h2) (by kernel_rfl) (by kernel_rfl) (by kernel_rfl)) (by kernel_rfl) (sh 2 [(4, aB (decide (x1 ≥ 0))), (8, aB (decide (x1 ≥ 0)))] (by kernel_rfl) (fin [(4, aB (decide (x1 ≥ 0)))] rfl (by kernel_rfl) (wp_ret ?_)))
  obtain rfl := Option.some.inj hm
  exact ⟨trivial, by kernel_rfl⟩
theorem ok_row_Right {n : Nat} {a0 : (Option (List api_Value))} {r : Bool} (hm : row_Right n a0 = some r) :
    call G n 10 [.pv (encSl R_api_Value a0)] [] = some (.ret (aB r), []) := by
  unfold row_Right at hm
  obtain ⟨n, rfl, h0⟩ := at1_some hm
  replace hm := h0; clear h0
  refine callL 11 [(0, .pv (encSl R_api_Value a0))] func10 rfl (by kernel_rfl) (sq (detn [(0, .pv (encSl R_api_Value a0))] (by kernel_rfl) (sq (rg (sh 1 [(3, .pv (encSl R_api_Value a0))] (by kernel_rfl) (dv 4 (v := aI ((sll a0).length : Int)) (len_slO R_api_Value a0 t22 (by kernel_rfl)) (by kernel_rfl) (sh 2 [(6, aB (decide (((sll a0).length : Int) ≤ 200))), (5, aB (decide (((sll a0).length : Int) ≤ 200)))] (by kernel_rfl) ?_)))))))
  rcases bif_some hm with ⟨h1, hm⟩ | ⟨h1, hm⟩
  ·
   refine known [6, 5] h1 (by kernel_rfl) (sh 1 [(7, .pv (encSl R_api_Value a0))] (by kernel_rfl) ?_)
   obtain ⟨x2, h3, hm⟩ := bs hm
   refine dv 8 (cpure (by kernel_rfl) (ok_slices_ContainsFunc_Value_row_Right_1 h3) (by kernel_rfl) (by kernel_rfl) (by kernel_rfl)) (by kernel_rfl) (sh 3 [(2, aB (!x2)), (10, aB (!x2)), (9, aB (!x2))] (by kernel_rfl) (fin [(2, aB (!x2))] rfl (by kernel_rfl) (wp_ret ?_)))
   obtain rfl := Option.some.inj hm
   exact ⟨trivial, by kernel_rfl⟩
  ·
   refine known [6, 5] h1 (by kernel_rfl) (sh 5 [(2, aB false), (10, aB false), (9, .undef), (8, .undef), (7, .undef)] (by kernel_rfl) (fin [(2, aB false)] rfl (by kernel_rfl) (wp_ret ?_)))
   obtain rfl := Option.some.inj hm
   exact ⟨trivial, by kernel_rfl⟩
theorem ok_ref04_zero {n : Nat} {a0 : Nat} {r : Bool} (hm : ref04_zero n a0 = some r) :
    call G n 58 [aF a0] [] = some (.ret (aB r), []) := by
  unfold ref04_zero at hm
  obtain ⟨n, rfl, h0⟩ := at1_some hm
  replace hm := h0; clear h0
  refine callL 10 [(0, aF a0)] func58 rfl (by kernel_rfl) (sq (detn [(0, aF a0)] (by kernel_rfl) (sq (rg (sh 3 [(5, aB ((FloatKind.format .f64).order a0 0 == some .eq)), (4, aB ((FloatKind.format .f64).order a0 0 == some .eq)), (3, aF a0)] (by kernel_rfl) ?_)))))
  rcases bif_some hm with ⟨h1, hm⟩ | ⟨h1, hm⟩
  ·
   refine known [5, 4] h1 (by kernel_rfl) (sh 1 [(6, aF a0)] (by kernel_rfl) ?_)
   obtain ⟨x2, h3, hm⟩ := bs hm
   refine dv 7 (v := aF x2) (flt_arith h3 (by kernel_rfl)) (by kernel_rfl) (sh 3 [(2, aB ((FloatKind.format .f64).order x2 0 == some .gt)), (9, aB ((FloatKind.format .f64).order x2 0 == some .gt)), (8, aB ((FloatKind.format .f64).order x2 0 == some .gt))] (by kernel_rfl) (fin [(2, aB ((FloatKind.format .f64).order x2 0 == some .gt))] rfl (by kernel_rfl) (wp_ret ?_)))
   obtain rfl := Option.some.inj hm
   exact ⟨trivial, by kernel_rfl⟩
  ·
   refine known [5, 4] h1 (by kernel_rfl) (sh 5 [(2, aB false), (9, aB false), (8, .undef), (7, .undef), (6, .undef)] (by kernel_rfl) (fin [(2, aB false)] rfl (by kernel_rfl) (wp_ret ?_)))
   obtain rfl := Option.some.inj hm
   exact ⟨trivial, by kernel_rfl⟩
theorem ok_ref04_Right {n : Nat} {a0 : api_Value} {r : Bool} (hm : ref04_Right n a0 = some r) :
    call G n 35 [.agg [aI a0.fKind, aI a0.fInt, aF a0.fFloat, aS a0.fText]] [] = some (.ret (aB r), []) := by
  unfold ref04_Right at hm
  obtain ⟨n, rfl, h0⟩ := at1_some hm
  replace hm := h0; clear h0
  refine callL 76 [(0, .agg [aI a0.fKind, aI a0.fInt, aF a0.fFloat, aS a0.fText])] func35 rfl (by kernel_rfl) (sq (det [(1, .ptr 0 0)] [.box [aI a0.fKind, aI a0.fInt, aF a0.fFloat, aS a0.fText] false] (by kernel_rfl) (sq (sq (detn [(1, .ptr 0 0), (4, aI a0.fKind)] (by kernel_rfl) (bq (sq (detn [(1, .ptr 0 0), (4, aI a0.fKind), (5, aB (a0.fKind == 0))] (by kernel_rfl) ?_))))))))
  rcases bif_some hm with ⟨h1, hm⟩ | ⟨h1, hm⟩
  ·
   refine ct h1 (by kernel_rfl) (sq (rg (sh 4 [(10, aB (a0.fInt == 0)), (9, aB (a0.fInt == 0)), (8, aI a0.fInt), (7, .ptr 0 1)] (by kernel_rfl) ?_)))
   rcases bif_some hm with ⟨h2, hm⟩ | ⟨h2, hm⟩
   ·
    refine known [10, 9] h2 (by kernel_rfl) (sh 2 [(12, aF a0.fFloat), (11, .ptr 0 2)] (by kernel_rfl) ?_)
    obtain ⟨x3, h4, hm⟩ := bs hm
    refine dv 13 (cpure (by kernel_rfl) (ok_ref04_zero h4) (by kernel_rfl) (by kernel_rfl) (by kernel_rfl)) (by kernel_rfl) (sh 2 [(15, aB x3), (14, aB x3)] (by kernel_rfl) ?_)
    refine seg x3 [15, 14, 13] (fun b => [(19, aB (b && (sEq a0.fText ByteArray.empty))), (18, ifA b (aB (sEq a0.fText ByteArray.empty)) (.undef)), (17, ifA b (aS a0.fText) (.undef)), (16, ifA b (.ptr 0 3) (.undef))]) 13 (by kernel_rfl) ?_ ?_ ?_
    ·
     intro Q h
     refine sh 4 [(19, aB (sEq a0.fText ByteArray.empty)), (18, aB (sEq a0.fText ByteArray.empty)), (17, aS a0.fText), (16, .ptr 0 3)] (by kernel_rfl) ?_
     exact sameN (by kernel_rfl) (by kernel_rfl) h
    ·
     intro Q h
     refine sh 4 [(19, aB false), (18, .undef), (17, .undef), (16, .undef)] (by kernel_rfl) ?_
     exact sameN (by kernel_rfl) (by kernel_rfl) h
    refine sh 1 [(2, aB (x3 && (sEq a0.fText ByteArray.empty)))] (by kernel_rfl) (fin [(2, aB (x3 && (sEq a0.fText ByteArray.empty)))] rfl (by kernel_rfl) (wp_ret ?_))
    obtain rfl := Option.some.inj hm
    exact ⟨trivial, by kernel_rfl⟩
   ·
    refine known [10, 9] h2 (by kernel_rfl) (sh 10 [(2, aB false), (19, aB false), (18, .undef), (17, .undef), (16, .undef), (15, aB false), (14, aB false), (13, .undef), (12, .undef), (11, .undef)] (by kernel_rfl) (fin [(2, aB false)] rfl (by kernel_rfl) (wp_ret ?_)))
    obtain rfl := Option.some.inj hm
    exact ⟨trivial, by kernel_rfl⟩
  ·
   refine cf h1 (by kernel_rfl) (sq (detn [(1, .ptr 0 0), (4, aI a0.fKind), (20, aB (a0.fKind == 1))] (by kernel_rfl) ?_))
   rcases bif_some hm with ⟨h5, hm⟩ | ⟨h5, hm⟩
   ·
    refine ct h5 (by kernel_rfl) (sq (rg (sh 4 [(25, aB (a0.fInt == 0)), (24, aB (a0.fInt == 0)), (23, aI a0.fInt), (22, .ptr 0 1)] (by kernel_rfl) ?_)))
    refine seg (a0.fInt == 0) [25, 24] (fun b => [(29, aB (b || (a0.fInt == 1))), (28, ifA b (.undef) (aB (a0.fInt == 1))), (27, ifA b (.undef) (aI a0.fInt)), (26, ifA b (.undef) (.ptr 0 1))]) 8 (by kernel_rfl) ?_ ?_ ?_
    ·
     intro Q h
     refine sh 4 [(29, aB true), (28, .undef), (27, .undef), (26, .undef)] (by kernel_rfl) ?_
     exact sameN (by kernel_rfl) (by kernel_rfl) h
    ·
     intro Q h
     refine sh 4 [(29, aB (a0.fInt == 1)), (28, aB (a0.fInt == 1)), (27, aI a0.fInt), (26, .ptr 0 1)] (by kernel_rfl) ?_
     exact sameN (by kernel_rfl) (by kernel_rfl) h
    refine sh 1 [(30, aB ((a0.fInt == 0) || (a0.fInt == 1)))] (by kernel_rfl) ?_
    rcases bif_some hm with ⟨h6, hm⟩ | ⟨h6, hm⟩
    ·
     refine known [30, 29] h6 (by kernel_rfl) (sh 2 [(32, aF a0.fFloat), (31, .ptr 0 2)] (by kernel_rfl) ?_)
     obtain ⟨x7, h8, hm⟩ := bs hm
     refine dv 33 (cpure (by kernel_rfl) (ok_ref04_zero h8) (by kernel_rfl) (by kernel_rfl) (by kernel_rfl)) (by kernel_rfl) (sh 2 [(35, aB x7), (34, aB x7)] (by kernel_rfl) ?_)
     refine seg x7 [35, 34, 33] (fun b => [(39, aB (b && (sEq a0.fText ByteArray.empty))), (38, ifA b (aB (sEq a0.fText ByteArray.empty)) (.undef)), (37, ifA b (aS a0.fText) (.undef)), (36, ifA b (.ptr 0 3) (.undef))]) 18 (by kernel_rfl) ?_ ?_ ?_
     ·
      intro Q h
      refine sh 4 [(39, aB (sEq a0.fText ByteArray.empty)), (38, aB (sEq a0.fText ByteArray.empty)), (37, aS a0.fText), (36, .ptr 0 3)] (by kernel_rfl) ?_
      exact sameN (by kernel_rfl) (by kernel_rfl) h
     ·
      intro Q h
      refine sh 4 [(39, aB false), (38, .undef), (37, .undef), (36, .undef)] (by kernel_rfl) ?_
      exact sameN (by kernel_rfl) (by kernel_rfl) h
     refine sh 1 [(2, aB (x7 && (sEq a0.fText ByteArray.empty)))] (by kernel_rfl) (fin [(2, aB (x7 && (sEq a0.fText ByteArray.empty)))] rfl (by kernel_rfl) (wp_ret ?_))
     obtain rfl := Option.some.inj hm
     exact ⟨trivial, by kernel_rfl⟩
    ·
     refine known [30, 29] h6 (by kernel_rfl) (sh 10 [(2, aB false), (39, aB false), (38, .undef), (37, .undef), (36, .undef), (35, aB false), (34, aB false), (33, .undef), (32, .undef), (31, .undef)] (by kernel_rfl) (fin [(2, aB false)] rfl (by kernel_rfl) (wp_ret ?_)))
     obtain rfl := Option.some.inj hm
     exact ⟨trivial, by kernel_rfl⟩
   ·
    refine cf h5 (by kernel_rfl) (sq (detn [(1, .ptr 0 0), (4, aI a0.fKind), (40, aB (a0.fKind == 2))] (by kernel_rfl) ?_))
    rcases bif_some hm with ⟨h9, hm⟩ | ⟨h9, hm⟩
    ·
     refine ct h9 (by kernel_rfl) (sq (rg (sh 2 [(43, aF a0.fFloat), (42, .ptr 0 2)] (by kernel_rfl) ?_)))
     obtain ⟨x10, h11, hm⟩ := bs hm
     refine dv 44 (cpure (by kernel_rfl) (ok_ref04_zero h11) (by kernel_rfl) (by kernel_rfl) (by kernel_rfl)) (by kernel_rfl) (sh 1 [(45, aB x10)] (by kernel_rfl) ?_)
     refine seg x10 [45, 44] (fun b => [(49, aB (b && (sEq a0.fText ByteArray.empty))), (48, ifA b (aB (sEq a0.fText ByteArray.empty)) (.undef)), (47, ifA b (aS a0.fText) (.undef)), (46, ifA b (.ptr 0 3) (.undef))]) 8 (by kernel_rfl) ?_ ?_ ?_
     ·
      intro Q h
      refine sh 4 [(49, aB (sEq a0.fText ByteArray.empty)), (48, aB (sEq a0.fText ByteArray.empty)), (47, aS a0.fText), (46, .ptr 0 3)] (by kernel_rfl) ?_
      exact sameN (by kernel_rfl) (by kernel_rfl) h
     ·
      intro Q h
      refine sh 4 [(49, aB false), (48, .undef), (47, .undef), (46, .undef)] (by kernel_rfl) ?_
      exact sameN (by kernel_rfl) (by kernel_rfl) h
     refine sh 1 [(2, aB (x10 && (sEq a0.fText ByteArray.empty)))] (by kernel_rfl) (fin [(2, aB (x10 && (sEq a0.fText ByteArray.empty)))] rfl (by kernel_rfl) (wp_ret ?_))
     obtain rfl := Option.some.inj hm
     exact ⟨trivial, by kernel_rfl⟩
    ·
     refine cf h9 (by kernel_rfl) (sq (detn [(1, .ptr 0 0), (4, aI a0.fKind), (50, aB (a0.fKind == 3))] (by kernel_rfl) ?_))
     rcases bif_some hm with ⟨h12, hm⟩ | ⟨h12, hm⟩
     ·
      refine ct h12 (by kernel_rfl) (sq (rg (sh 4 [(55, aB (a0.fInt == 0)), (54, aB (a0.fInt == 0)), (53, aI a0.fInt), (52, .ptr 0 1)] (by kernel_rfl) ?_)))
      refine seg (a0.fInt == 0) [55, 54] (fun b => [(59, aB (b && (sEq a0.fText ByteArray.empty))), (58, ifA b (aB (sEq a0.fText ByteArray.empty)) (.undef)), (57, ifA b (aS a0.fText) (.undef)), (56, ifA b (.ptr 0 3) (.undef))]) 8 (by kernel_rfl) ?_ ?_ ?_
      ·
       intro Q h
       refine sh 4 [(59, aB (sEq a0.fText ByteArray.empty)), (58, aB (sEq a0.fText ByteArray.empty)), (57, aS a0.fText), (56, .ptr 0 3)] (by kernel_rfl) ?_
       exact sameN (by kernel_rfl) (by kernel_rfl) h
      ·
       intro Q h
       refine sh 4 [(59, aB false), (58, .undef), (57, .undef), (56, .undef)] (by kernel_rfl) ?_
       exact sameN (by kernel_rfl) (by kernel_rfl) h
      refine sh 1 [(2, aB ((a0.fInt == 0) && (sEq a0.fText ByteArray.empty)))] (by kernel_rfl) (fin [(2, aB ((a0.fInt == 0) && (sEq a0.fText ByteArray.empty)))] rfl (by kernel_rfl) (wp_ret ?_))
      obtain rfl := Option.some.inj hm
      exact ⟨trivial, by kernel_rfl⟩
     ·
      refine cf h12 (by kernel_rfl) (sq (detn [(1, .ptr 0 0), (60, aB (a0.fKind == 4))] (by kernel_rfl) ?_))
      rcases bif_some hm with ⟨h13, hm⟩ | ⟨h13, hm⟩
      ·
       refine ct h13 (by kernel_rfl) (sq (rg (sh 4 [(65, aB (a0.fInt == 0)), (64, aB (a0.fInt == 0)), (63, aI a0.fInt), (62, .ptr 0 1)] (by kernel_rfl) ?_)))
       rcases bif_some hm with ⟨h14, hm⟩ | ⟨h14, hm⟩
       ·
        refine known [65, 64] h14 (by kernel_rfl) (sh 2 [(67, aF a0.fFloat), (66, .ptr 0 2)] (by kernel_rfl) ?_)
        obtain ⟨x15, h16, hm⟩ := bs hm
        refine dv 68 (cpure (by kernel_rfl) (ok_ref04_zero h16) (by kernel_rfl) (by kernel_rfl) (by kernel_rfl)) (by kernel_rfl) (sh 2 [(70, aB x15), (69, aB x15)] (by kernel_rfl) ?_)
        refine seg x15 [70, 69, 68] (fun b => [(75, aB (b && (decide ((a0.fText.size : Int) ≤ 64)))), (74, ifA b (aB (decide ((a0.fText.size : Int) ≤ 64))) (.undef)), (73, ifA b (aI (a0.fText.size : Int)) (.undef)), (72, ifA b (aS a0.fText) (.undef)), (71, ifA b (.ptr 0 3) (.undef))]) 14 (by kernel_rfl) ?_ ?_ ?_
        ·
         intro Q h
         refine sh 5 [(75, aB (decide ((a0.fText.size : Int) ≤ 64))), (74, aB (decide ((a0.fText.size : Int) ≤ 64))), (73, aI (a0.fText.size : Int)), (72, aS a0.fText), (71, .ptr 0 3)] (by kernel_rfl) ?_
         exact sameN (by kernel_rfl) (by kernel_rfl) h
        ·
         intro Q h
         refine sh 5 [(75, aB false), (74, .undef), (73, .undef), (72, .undef), (71, .undef)] (by kernel_rfl) ?_
         exact sameN (by kernel_rfl) (by kernel_rfl) h
        refine sh 1 [(2, aB (x15 && (decide ((a0.fText.size : Int) ≤ 64))))] (by kernel_rfl) (fin [(2, aB (x15 && (decide ((a0.fText.size : Int) ≤ 64))))] rfl (by kernel_rfl) (wp_ret ?_))
        obtain rfl := Option.some.inj hm
        exact ⟨trivial, by kernel_rfl⟩
       ·
        refine known [65, 64] h14 (by kernel_rfl) (sh 11 [(2, aB false), (75, aB false), (74, .undef), (73, .undef), (72, .undef), (71, .undef), (70, aB false), (69, aB false), (68, .undef), (67, .undef), (66, .undef)] (by kernel_rfl) (fin [(2, aB false)] rfl (by kernel_rfl) (wp_ret ?_)))
        obtain rfl := Option.some.inj hm
        exact ⟨trivial, by kernel_rfl⟩
      ·
       refine cf h13 (by kernel_rfl) (wp_skip (sq (detn [(2, aB false)] (by kernel_rfl) (wp_ret ?_))))
       obtain rfl := Option.some.inj hm
       exact ⟨trivial, by kernel_rfl⟩
theorem ok_ref05_Right {n : Nat} {a0 : (Option (List api_Value))} {r : Bool} (hm : ref05_Right n a0 = some r) :
    call G n 11 [.pv (encSl R_api_Value a0)] [] = some (.ret (aB r), []) := by
  unfold ref05_Right at hm
  obtain ⟨n, rfl, h0⟩ := at1_some hm
  replace hm := h0; clear h0
  refine callL 19 [(0, .pv (encSl R_api_Value a0))] func11 rfl (by kernel_rfl) (sq (detn [(0, .pv (encSl R_api_Value a0))] (by kernel_rfl) ?_))
  refine sq (sq (rg (sh 1 [(4, .pv (encSl R_api_Value a0))] (by kernel_rfl) (dv 5 (v := aI ((sll a0).length : Int)) (len_slO R_api_Value a0 t22 (by kernel_rfl)) (by kernel_rfl) (sh 1 [(6, aB (decide (((sll a0).length : Int) > 200)))] (by kernel_rfl) (fin [(0, .pv (encSl R_api_Value a0)), (6, aB (decide (((sll a0).length : Int) > 200)))] rfl (by kernel_rfl) ?_))))))
  rcases bif_some hm with ⟨h1, hm⟩ | ⟨h1, hm⟩
  ·
   refine ct h1 (by kernel_rfl) (sq (detn [(2, aB false)] (by kernel_rfl) (wp_ret ?_)))
   obtain rfl := Option.some.inj hm
   exact ⟨trivial, by kernel_rfl⟩
  ·
   refine cf h1 (by kernel_rfl) (wp_skip ?_)
   obtain ⟨k4, hk4, hm⟩ := withK_some hm
   refine mid (fun t H => (∃ (y2 : Bool) (y3 : Int), k4 () = some r ∧ t = mk 19 [(0, .pv (encSl R_api_Value a0)), (3, aI y3), (10, aB y2)] ∧ H = [])) ?_ ?_
   ·
    rintro _ _ ⟨y2, y3, hm, rfl, rfl⟩
    subst hk4
    refine sq (detn [(2, aB true)] (by kernel_rfl) (wp_ret ?_))
    obtain rfl := Option.some.inj hm
    exact ⟨trivial, by kernel_rfl⟩
   refine sq (detn [(0, .pv (encSl R_api_Value a0)), (3, aI 0)] (by kernel_rfl) (bq ?_))
   refine loopF (fun mm t H => (∃ (y6 : Int), ref05_Right_l4 n a0 k4 mm y6 = some r ∧ t = mk 19 [(0, .pv (encSl R_api_Value a0)), (3, aI y6)] ∧ H = [])) (⟨0, hm, rfl, rfl⟩) ?_ ?_
   · rintro _ _ ⟨y6, hm, _⟩; exact nomatch hm
   rintro m7 _ _ ⟨y6, hm, rfl, rfl⟩
   simp only [ref05_Right_l4] at hm
   refine sq (sq (rg (sh 2 [(8, .pv (encSl R_api_Value a0)), (7, aI y6)] (by kernel_rfl) (dv 9 (v := aI ((sll a0).length : Int)) (len_slO R_api_Value a0 t22 (by kernel_rfl)) (by kernel_rfl) (sh 1 [(10, aB (decide (y6 < ((sll a0).length : Int))))] (by kernel_rfl) (fin [(0, .pv (encSl R_api_Value a0)), (3, aI y6), (10, aB (decide (y6 < ((sll a0).length : Int))))] rfl (by kernel_rfl) ?_))))))
   rcases bif_some hm with ⟨h8, hm⟩ | ⟨h8, hm⟩
   ·
    refine ct h8 (by kernel_rfl) (wp_skip (sq (bq (sq (rg (sh 2 [(14, aI y6), (13, .pv (encSl R_api_Value a0))] (by kernel_rfl) ?_))))))
    obtain ⟨x9, h10, hm⟩ := bs hm
    refine dv 15 (v := .pv (.ptr (R_api_Value x9) 0)) (ia_slO R_api_Value a0 .i64 t22 t38 h10 rfl (by kernel_rfl)) (by kernel_rfl) (sh 1 [(16, .agg [aI x9.fKind, aI x9.fInt, aF x9.fFloat, aS x9.fText])] (by kernel_rfl) ?_)
    obtain ⟨x11, h12, hm⟩ := bs hm
    refine dv 17 (cpure (by kernel_rfl) (ok_ref04_Right h12) (by kernel_rfl) (by kernel_rfl) (by kernel_rfl)) (by kernel_rfl) (sh 1 [(18, aB (!x11))] (by kernel_rfl) (fin [(0, .pv (encSl R_api_Value a0)), (3, aI y6), (18, aB (!x11))] rfl (by kernel_rfl) ?_))
    rcases bif_some hm with ⟨h13, hm⟩ | ⟨h13, hm⟩
    ·
     refine ct h13 (by kernel_rfl) (sq (detn [(2, aB false)] (by kernel_rfl) (wp_ret ?_)))
     obtain rfl := Option.some.inj hm
     exact ⟨trivial, by kernel_rfl⟩
    ·
     refine cf h13 (by kernel_rfl) (wp_skip (detn [(0, .pv (encSl R_api_Value a0)), (3, aI (IntKind.wrap .i64 (y6 + 1)))] (by kernel_rfl) ?_))
     exact ⟨_, _, tidyL [(0, .pv (encSl R_api_Value a0)), (3, aI (IntKind.wrap .i64 (y6 + 1)))] [] (by kernel_rfl), ⟨(IntKind.wrap .i64 (y6 + 1)), hm, rfl, rfl⟩⟩
   ·
    refine cf h8 (by kernel_rfl) (wp_exit ?_)
    exact ⟨(decide (y6 < ((sll a0).length : Int))), y6, hm, rfl, rfl⟩
theorem ok_math_IsNaN {n : Nat} {a0 : Nat} {r : Bool} (hm : math_IsNaN n a0 = some r) :
    call G n 81 [aF a0] [] = some (.ret (aB r), []) := by
  unfold math_IsNaN at hm
  obtain ⟨n, rfl, h0⟩ := at1_some hm
  replace hm := h0; clear h0
  refine callL 6 [(0, aF a0)] func81 rfl (by kernel_rfl) (sq (detn [(0, aF a0)] (by kernel_rfl) (sq (detn [(2, aB ((FloatKind.format .f64).order a0 a0 != some .eq))] (by kernel_rfl) (wp_ret ?_)))))
  obtain rfl := Option.some.inj hm
  exact ⟨trivial, by kernel_rfl⟩
theorem ok_value_Plain {n : Nat} {a0 : api_Value} {r : api_Value} (hm : value_Plain n a0 = some r) :
    call G n 60 [.agg [aI a0.fKind, aI a0.fInt, aF a0.fFloat, aS a0.fText]] [] = some (.ret (.agg [aI r.fKind, aI r.fInt, aF r.fFloat, aS r.fText]), []) := by
  unfold value_Plain at hm
  obtain ⟨n, rfl, h0⟩ := at1_some hm
  replace hm := h0; clear h0
  refine callL 30 [(0, .agg [aI a0.fKind, aI a0.fInt, aF a0.fFloat, aS a0.fText])] func60 rfl (by kernel_rfl) (sq (det [(1, .ptr 0 0), (2, .ptr 1 0)] [.box [aI a0.fKind, aI a0.fInt, aF a0.fFloat, aS a0.fText] false, .box [aI 0, aI 0, aF 0, aS ByteArray.empty] false] (by kernel_rfl) (sq (bq (sq (rg (sh 1 [(4, .agg [aI a0.fKind, aI a0.fInt, aF a0.fFloat, aS a0.fText])] (by kernel_rfl) ?_)))))))
  obtain ⟨x1, h2, hm⟩ := bs hm
  refine dv 5 (cpure (by kernel_rfl) (ok_value_Right h2) (by kernel_rfl) (by kernel_rfl) (by kernel_rfl)) (by kernel_rfl) (sh 2 [(3, aB (!x1)), (6, aB (!x1))] (by kernel_rfl) (fin [(1, .ptr 0 0), (2, .ptr 1 0), (3, aB (!x1))] rfl (by kernel_rfl) ?_))
  rcases bif_some hm with ⟨h3, hm⟩ | ⟨h3, hm⟩
  ·
   refine ct h3 (by kernel_rfl) (sq (detn [(2, .ptr 1 0)] (by kernel_rfl) (wp_ret ?_)))
   obtain rfl := Option.some.inj hm
   exact ⟨trivial, by kernel_rfl⟩
  ·
   refine cf h3 (by kernel_rfl) ?_
   obtain ⟨k5, hk5, hm⟩ := withK_some hm
   refine mid (fun t H => (∃ (y4 : Bool), k5 y4 = some r ∧ t = mk 30 [(1, .ptr 0 0), (2, .ptr 1 0), (8, aB y4)] ∧ H = [.box [aI a0.fKind, aI a0.fInt, aF a0.fFloat, aS a0.fText] false, .box [aI 0, aI 0, aF 0, aS ByteArray.empty] false])) ?_ ?_
   ·
    rintro _ _ ⟨y4, hm, rfl, rfl⟩
    subst hk5
    rcases bif_some hm with ⟨h6, hm⟩ | ⟨h6, hm⟩
    ·
     refine ct h6 (by kernel_rfl) (rg (sh 1 [(17, aF (Int.toNat 9221120237041090561))] (by kernel_rfl) (st 2 [(18, .ptr 0 2)] [.box [aI a0.fKind, aI a0.fInt, aF (Int.toNat 9221120237041090561), aS a0.fText] false, .box [aI 0, aI 0, aF 0, aS ByteArray.empty] false] (by kernel_rfl) (fin [(1, .ptr 0 0), (2, .ptr 1 0)] rfl (by kernel_rfl) (sq (det [(2, .ptr 1 0)] [.box [aI a0.fKind, aI a0.fInt, aF (Int.toNat 9221120237041090561), aS a0.fText] false, .box [aI a0.fKind, aI a0.fInt, aF (Int.toNat 9221120237041090561), aS a0.fText] false] (by kernel_rfl) (wp_ret ?_)))))))
     obtain rfl := Option.some.inj hm
     exact ⟨trivial, by kernel_rfl⟩
    ·
     refine cf h6 (by kernel_rfl) (sq (rg (sh 4 [(23, aB (a0.fKind == 3)), (22, aB (a0.fKind == 3)), (21, aI a0.fKind), (20, .ptr 0 0)] (by kernel_rfl) ?_)))
     refine seg (a0.fKind == 3) [23, 22] (fun b => [(27, aB (b && ((FloatKind.format .f64).order a0.fFloat 0 == some .eq))), (26, ifA b (aB ((FloatKind.format .f64).order a0.fFloat 0 == some .eq)) (.undef)), (25, ifA b (aF a0.fFloat) (.undef)), (24, ifA b (.ptr 0 2) (.undef))]) 8 (by kernel_rfl) ?_ ?_ ?_
     ·
      intro Q h
      refine sh 4 [(27, aB ((FloatKind.format .f64).order a0.fFloat 0 == some .eq)), (26, aB ((FloatKind.format .f64).order a0.fFloat 0 == some .eq)), (25, aF a0.fFloat), (24, .ptr 0 2)] (by kernel_rfl) ?_
      exact sameN (by kernel_rfl) (by kernel_rfl) h
     ·
      intro Q h
      refine sh 4 [(27, aB false), (26, .undef), (25, .undef), (24, .undef)] (by kernel_rfl) ?_
      exact sameN (by kernel_rfl) (by kernel_rfl) h
     refine sh 1 [(19, aB ((a0.fKind == 3) && ((FloatKind.format .f64).order a0.fFloat 0 == some .eq)))] (by kernel_rfl) (fin [(1, .ptr 0 0), (2, .ptr 1 0), (19, aB ((a0.fKind == 3) && ((FloatKind.format .f64).order a0.fFloat 0 == some .eq)))] rfl (by kernel_rfl) ?_)
     rcases bif_some hm with ⟨h7, hm⟩ | ⟨h7, hm⟩
     ·
      refine ct h7 (by kernel_rfl) (det [(1, .ptr 0 0), (2, .ptr 1 0)] [.box [aI a0.fKind, aI a0.fInt, aF 0, aS a0.fText] false, .box [aI 0, aI 0, aF 0, aS ByteArray.empty] false] (by kernel_rfl) (sq (det [(2, .ptr 1 0)] [.box [aI a0.fKind, aI a0.fInt, aF 0, aS a0.fText] false, .box [aI a0.fKind, aI a0.fInt, aF 0, aS a0.fText] false] (by kernel_rfl) (wp_ret ?_))))
      obtain rfl := Option.some.inj hm
      exact ⟨trivial, by kernel_rfl⟩
     ·
      refine cf h7 (by kernel_rfl) (wp_skip (sq (det [(2, .ptr 1 0)] [.box [aI a0.fKind, aI a0.fInt, aF a0.fFloat, aS a0.fText] false, .box [aI a0.fKind, aI a0.fInt, aF a0.fFloat, aS a0.fText] false] (by kernel_rfl) (wp_ret ?_))))
      obtain rfl := Option.some.inj hm
      exact ⟨trivial, by kernel_rfl⟩
   refine rg (sh 4 [(12, aB (a0.fKind == 3)), (11, aB (a0.fKind == 3)), (10, aI a0.fKind), (9, .ptr 0 0)] (by kernel_rfl) ?_)
   rcases bif_some hm with ⟨h8, hm⟩ | ⟨h8, hm⟩
   ·
    refine known [12, 11] h8 (by kernel_rfl) (sh 2 [(14, aF a0.fFloat), (13, .ptr 0 2)] (by kernel_rfl) ?_)
    obtain ⟨x9, h10, hm⟩ := bs hm
    refine dv 15 (cpure (by kernel_rfl) (ok_math_IsNaN h10) (by kernel_rfl) (by kernel_rfl) (by kernel_rfl)) (by kernel_rfl) (sh 2 [(8, aB x9), (16, aB x9)] (by kernel_rfl) (fin [(1, .ptr 0 0), (2, .ptr 1 0), (8, aB x9)] rfl (by kernel_rfl) ?_))
    exact ⟨x9, hm, rfl, rfl⟩
   ·
    refine known [12, 11] h8 (by kernel_rfl) (sh 5 [(8, aB false), (16, aB false), (15, .undef), (14, .undef), (13, .undef)] (by kernel_rfl) (fin [(1, .ptr 0 0), (2, .ptr 1 0), (8, aB false)] rfl (by kernel_rfl) ?_))
    exact ⟨false, hm, rfl, rfl⟩
theorem ok_cmp_isNaN_int {n : Nat} {a0 : Int} {r : Bool} (hm : cmp_isNaN_int n a0 = some r) :
    call G n 80 [aI a0] [] = some (.ret (aB r), []) := by
  unfold cmp_isNaN_int at hm
  obtain ⟨n, rfl, h0⟩ := at1_some hm
  replace hm := h0; clear h0
  refine callL 6 [(0, aI a0)] func80 rfl (by kernel_rfl) (sq (detn [(0, aI a0)] (by kernel_rfl) (sq (detn [(2, aB (a0 != a0))] (by kernel_rfl) (wp_ret ?_)))))
  obtain rfl := Option.some.inj hm
  exact ⟨trivial, by kernel_rfl⟩
theorem ok_cmp_Compare_int {n : Nat} {a0 : Int} {a1 : Int} {r : Int} (hm : cmp_Compare_int n a0 a1 = some r) :
    call G n 59 [aI a0, aI a1] [] = some (.ret (aI r), []) := by
  unfold cmp_Compare_int at hm
  obtain ⟨n, rfl, h0⟩ := at1_some hm
  replace hm := h0; clear h0
  refine callL 20 [(0, aI a0), (1, aI a1)] func59 rfl (by kernel_rfl) (sq (detn [(0, aI a0), (1, aI a1)] (by kernel_rfl) (sq (rg (sh 1 [(7, aI a0)] (by kernel_rfl) ?_)))))
  obtain ⟨x1, h2, hm⟩ := bs hm
  refine dv 8 (cpure (by kernel_rfl) (ok_cmp_isNaN_int h2) (by kernel_rfl) (by kernel_rfl) (by kernel_rfl)) (by kernel_rfl) (sh 1 [(5, aB x1)] (by kernel_rfl) (fin [(0, aI a0), (1, aI a1), (5, aB x1)] rfl (by kernel_rfl) (sq (rg (sh 1 [(9, aI a1)] (by kernel_rfl) ?_)))))
  obtain ⟨x3, h4, hm⟩ := bs hm
  refine dv 10 (cpure (by kernel_rfl) (ok_cmp_isNaN_int h4) (by kernel_rfl) (by kernel_rfl) (by kernel_rfl)) (by kernel_rfl) (sh 1 [(6, aB x3)] (by kernel_rfl) (fin [(0, aI a0), (1, aI a1), (5, aB x1), (6, aB x3)] rfl (by kernel_rfl) ?_))
  refine sq (sq (detn [(0, aI a0), (1, aI a1), (6, aB x3), (11, aB x1)] (by kernel_rfl) ?_))
  rcases bif_some hm with ⟨h5, hm⟩ | ⟨h5, hm⟩
  ·
   refine ct h5 (by kernel_rfl) (sq (sq (detn [(12, aB x3)] (by kernel_rfl) ?_)))
   rcases bif_some hm with ⟨h6, hm⟩ | ⟨h6, hm⟩
   ·
    refine ct h6 (by kernel_rfl) (sq (detn [(4, aI 0)] (by kernel_rfl) (wp_ret ?_)))
    obtain rfl := Option.some.inj hm
    exact ⟨trivial, by kernel_rfl⟩
   ·
    refine cf h6 (by kernel_rfl) (wp_skip (sq (detn [(4, aI (-1))] (by kernel_rfl) (wp_ret ?_))))
    obtain rfl := Option.some.inj hm
    exact ⟨trivial, by kernel_rfl⟩
  ·
   refine cf h5 (by kernel_rfl) (wp_skip ?_)
   refine sq (sq (detn [(0, aI a0), (1, aI a1), (13, aB x3)] (by kernel_rfl) ?_))
   rcases bif_some hm with ⟨h7, hm⟩ | ⟨h7, hm⟩
   ·
    refine ct h7 (by kernel_rfl) (sq (detn [(4, aI 1)] (by kernel_rfl) (wp_ret ?_)))
    obtain rfl := Option.some.inj hm
    exact ⟨trivial, by kernel_rfl⟩
   ·
    refine cf h7 (by kernel_rfl) (wp_skip (sq (sq (detn [(0, aI a0), (1, aI a1), (16, aB (decide (a0 < a1)))] (by kernel_rfl) ?_))))
    rcases bif_some hm with ⟨h8, hm⟩ | ⟨h8, hm⟩
    ·
     refine ct h8 (by kernel_rfl) (sq (detn [(4, aI (-1))] (by kernel_rfl) (wp_ret ?_)))
     obtain rfl := Option.some.inj hm
     exact ⟨trivial, by kernel_rfl⟩
    ·
     refine cf h8 (by kernel_rfl) (wp_skip (sq (sq (detn [(19, aB (decide (a0 > a1)))] (by kernel_rfl) ?_))))
     rcases bif_some hm with ⟨h9, hm⟩ | ⟨h9, hm⟩
     ·
      refine ct h9 (by kernel_rfl) (sq (detn [(4, aI 1)] (by kernel_rfl) (wp_ret ?_)))
      obtain rfl := Option.some.inj hm
      exact ⟨trivial, by kernel_rfl⟩
     ·
      refine cf h9 (by kernel_rfl) (wp_skip (sq (detn [(4, aI 0)] (by kernel_rfl) (wp_ret ?_))))
      obtain rfl := Option.some.inj hm
      exact ⟨trivial, by kernel_rfl⟩
theorem ok_value_floats {n : Nat} {a0 : Nat} {a1 : Nat} {r : Int} (hm : value_floats n a0 a1 = some r) :
    call G n 61 [aF a0, aF a1] [] = some (.ret (aI r), []) := by
  unfold value_floats at hm
  obtain ⟨n, rfl, h0⟩ := at1_some hm
  replace hm := h0; clear h0
  refine callL 28 [(0, aF a0), (1, aF a1)] func61 rfl (by kernel_rfl) (sq (detn [(0, aF a0), (1, aF a1)] (by kernel_rfl) (sq (sq (rg (sh 1 [(7, aF a0)] (by kernel_rfl) ?_))))))
  obtain ⟨x1, h2, hm⟩ := bs hm
  refine dv 8 (cpure (by kernel_rfl) (ok_math_IsNaN h2) (by kernel_rfl) (by kernel_rfl) (by kernel_rfl)) (by kernel_rfl) (sh 1 [(9, aF a1)] (by kernel_rfl) ?_)
  obtain ⟨x3, h4, hm⟩ := bs hm
  refine dv 10 (cpure (by kernel_rfl) (ok_math_IsNaN h4) (by kernel_rfl) (by kernel_rfl) (by kernel_rfl)) (by kernel_rfl) (sh 2 [(6, aB x3), (5, aB x1)] (by kernel_rfl) (fin [(0, aF a0), (1, aF a1), (5, aB x1), (6, aB x3)] rfl (by kernel_rfl) (bq ?_)))
  refine sq (rg (sh 2 [(13, aB x1), (12, aB x1)] (by kernel_rfl) ?_))
  refine seg x1 [13, 12, 5] (fun b => [(15, aB (b && x3)), (14, ifA b (aB x3) (.undef))]) 4 (by kernel_rfl) ?_ ?_ ?_
  ·
   intro Q h
   refine sh 2 [(15, aB x3), (14, aB x3)] (by kernel_rfl) ?_
   exact sameN (by kernel_rfl) (by kernel_rfl) h
  ·
   intro Q h
   refine sh 2 [(15, aB false), (14, .undef)] (by kernel_rfl) ?_
   exact sameN (by kernel_rfl) (by kernel_rfl) h
  refine sh 1 [(11, aB (x1 && x3))] (by kernel_rfl) (fin [(0, aF a0), (1, aF a1), (5, aB x1), (6, aB x3), (11, aB (x1 && x3))] rfl (by kernel_rfl) ?_)
  rcases bif_some hm with ⟨h5, hm⟩ | ⟨h5, hm⟩
  ·
   refine ct h5 (by kernel_rfl) (sq (detn [(4, aI 0)] (by kernel_rfl) (wp_ret ?_)))
   obtain rfl := Option.some.inj hm
   exact ⟨trivial, by kernel_rfl⟩
  ·
   refine cf h5 (by kernel_rfl) (sq (detn [(0, aF a0), (1, aF a1), (6, aB x3), (16, aB x1)] (by kernel_rfl) ?_))
   rcases bif_some hm with ⟨h6, hm⟩ | ⟨h6, hm⟩
   ·
    refine ct h6 (by kernel_rfl) (sq (detn [(4, aI 1)] (by kernel_rfl) (wp_ret ?_)))
    obtain rfl := Option.some.inj hm
    exact ⟨trivial, by kernel_rfl⟩
   ·
    refine cf h6 (by kernel_rfl) (sq (detn [(0, aF a0), (1, aF a1), (18, aB x3)] (by kernel_rfl) ?_))
    rcases bif_some hm with ⟨h7, hm⟩ | ⟨h7, hm⟩
    ·
     refine ct h7 (by kernel_rfl) (sq (detn [(4, aI (-1))] (by kernel_rfl) (wp_ret ?_)))
     obtain rfl := Option.some.inj hm
     exact ⟨trivial, by kernel_rfl⟩
    ·
     refine cf h7 (by kernel_rfl) (sq (detn [(0, aF a0), (1, aF a1), (20, aB ((FloatKind.format .f64).order a0 a1 == some .lt))] (by kernel_rfl) ?_))
     rcases bif_some hm with ⟨h8, hm⟩ | ⟨h8, hm⟩
     ·
      refine ct h8 (by kernel_rfl) (sq (detn [(4, aI (-1))] (by kernel_rfl) (wp_ret ?_)))
      obtain rfl := Option.some.inj hm
      exact ⟨trivial, by kernel_rfl⟩
     ·
      refine cf h8 (by kernel_rfl) (sq (detn [(24, aB ((FloatKind.format .f64).order a0 a1 == some .gt))] (by kernel_rfl) ?_))
      rcases bif_some hm with ⟨h9, hm⟩ | ⟨h9, hm⟩
      ·
       refine ct h9 (by kernel_rfl) (sq (detn [(4, aI 1)] (by kernel_rfl) (wp_ret ?_)))
       obtain rfl := Option.some.inj hm
       exact ⟨trivial, by kernel_rfl⟩
      ·
       refine cf h9 (by kernel_rfl) (wp_skip (sq (detn [(4, aI 0)] (by kernel_rfl) (wp_ret ?_))))
       obtain rfl := Option.some.inj hm
       exact ⟨trivial, by kernel_rfl⟩
theorem ok_cmp_isNaN_string {n : Nat} {a0 : ByteArray} {r : Bool} (hm : cmp_isNaN_string n a0 = some r) :
    call G n 83 [aS a0] [] = some (.ret (aB r), []) := by
  unfold cmp_isNaN_string at hm
  obtain ⟨n, rfl, h0⟩ := at1_some hm
  replace hm := h0; clear h0
  refine callL 6 [(0, aS a0)] func83 rfl (by kernel_rfl) (sq (detn [(0, aS a0)] (by kernel_rfl) (sq (detn [(2, aB (!(sEq a0 a0)))] (by kernel_rfl) (wp_ret ?_)))))
  obtain rfl := Option.some.inj hm
  exact ⟨trivial, by kernel_rfl⟩
theorem ok_cmp_Compare_string {n : Nat} {a0 : ByteArray} {a1 : ByteArray} {r : Int} (hm : cmp_Compare_string n a0 a1 = some r) :
    call G n 62 [aS a0, aS a1] [] = some (.ret (aI r), []) := by
  unfold cmp_Compare_string at hm
  obtain ⟨n, rfl, h0⟩ := at1_some hm
  replace hm := h0; clear h0
  refine callL 20 [(0, aS a0), (1, aS a1)] func62 rfl (by kernel_rfl) (sq (detn [(0, aS a0), (1, aS a1)] (by kernel_rfl) (sq (rg (sh 1 [(7, aS a0)] (by kernel_rfl) ?_)))))
  obtain ⟨x1, h2, hm⟩ := bs hm
  refine dv 8 (cpure (by kernel_rfl) (ok_cmp_isNaN_string h2) (by kernel_rfl) (by kernel_rfl) (by kernel_rfl)) (by kernel_rfl) (sh 1 [(5, aB x1)] (by kernel_rfl) (fin [(0, aS a0), (1, aS a1), (5, aB x1)] rfl (by kernel_rfl) (sq (rg (sh 1 [(9, aS a1)] (by kernel_rfl) ?_)))))
  obtain ⟨x3, h4, hm⟩ := bs hm
  refine dv 10 (cpure (by kernel_rfl) (ok_cmp_isNaN_string h4) (by kernel_rfl) (by kernel_rfl) (by kernel_rfl)) (by kernel_rfl) (sh 1 [(6, aB x3)] (by kernel_rfl) (fin [(0, aS a0), (1, aS a1), (5, aB x1), (6, aB x3)] rfl (by kernel_rfl) ?_))
  refine sq (sq (detn [(0, aS a0), (1, aS a1), (6, aB x3), (11, aB x1)] (by kernel_rfl) ?_))
  rcases bif_some hm with ⟨h5, hm⟩ | ⟨h5, hm⟩
  ·
   refine ct h5 (by kernel_rfl) (sq (sq (detn [(12, aB x3)] (by kernel_rfl) ?_)))
   rcases bif_some hm with ⟨h6, hm⟩ | ⟨h6, hm⟩
   ·
    refine ct h6 (by kernel_rfl) (sq (detn [(4, aI 0)] (by kernel_rfl) (wp_ret ?_)))
    obtain rfl := Option.some.inj hm
    exact ⟨trivial, by kernel_rfl⟩
   ·
    refine cf h6 (by kernel_rfl) (wp_skip (sq (detn [(4, aI (-1))] (by kernel_rfl) (wp_ret ?_))))
    obtain rfl := Option.some.inj hm
    exact ⟨trivial, by kernel_rfl⟩
  ·
   refine cf h5 (by kernel_rfl) (wp_skip ?_)
   refine sq (sq (detn [(0, aS a0), (1, aS a1), (13, aB x3)] (by kernel_rfl) ?_))
   rcases bif_some hm with ⟨h7, hm⟩ | ⟨h7, hm⟩
   ·
    refine ct h7 (by kernel_rfl) (sq (detn [(4, aI 1)] (by kernel_rfl) (wp_ret ?_)))
    obtain rfl := Option.some.inj hm
    exact ⟨trivial, by kernel_rfl⟩
   ·
    refine cf h7 (by kernel_rfl) (wp_skip (sq (sq (detn [(0, aS a0), (1, aS a1), (16, aB (sLt a0 a1))] (by kernel_rfl) ?_))))
    rcases bif_some hm with ⟨h8, hm⟩ | ⟨h8, hm⟩
    ·
     refine ct h8 (by kernel_rfl) (sq (detn [(4, aI (-1))] (by kernel_rfl) (wp_ret ?_)))
     obtain rfl := Option.some.inj hm
     exact ⟨trivial, by kernel_rfl⟩
    ·
     refine cf h8 (by kernel_rfl) (wp_skip (sq (sq (detn [(19, aB (!(sLt a0 a1 || sEq a0 a1)))] (by kernel_rfl) ?_))))
     rcases bif_some hm with ⟨h9, hm⟩ | ⟨h9, hm⟩
     ·
      refine ct h9 (by kernel_rfl) (sq (detn [(4, aI 1)] (by kernel_rfl) (wp_ret ?_)))
      obtain rfl := Option.some.inj hm
      exact ⟨trivial, by kernel_rfl⟩
     ·
      refine cf h9 (by kernel_rfl) (wp_skip (sq (detn [(4, aI 0)] (by kernel_rfl) (wp_ret ?_))))
      obtain rfl := Option.some.inj hm
      exact ⟨trivial, by kernel_rfl⟩
theorem ok_cmp_isNaN_int64 {n : Nat} {a0 : Int} {r : Bool} (hm : cmp_isNaN_int64 n a0 = some r) :
    call G n 84 [aI a0] [] = some (.ret (aB r), []) := by
  unfold cmp_isNaN_int64 at hm
  obtain ⟨n, rfl, h0⟩ := at1_some hm
  replace hm := h0; clear h0
  refine callL 6 [(0, aI a0)] func84 rfl (by kernel_rfl) (sq (detn [(0, aI a0)] (by kernel_rfl) (sq (detn [(2, aB (a0 != a0))] (by kernel_rfl) (wp_ret ?_)))))
  obtain rfl := Option.some.inj hm
  exact ⟨trivial, by kernel_rfl⟩
theorem ok_cmp_Compare_int64 {n : Nat} {a0 : Int} {a1 : Int} {r : Int} (hm : cmp_Compare_int64 n a0 a1 = some r) :
    call G n 63 [aI a0, aI a1] [] = some (.ret (aI r), []) := by
  unfold cmp_Compare_int64 at hm
  obtain ⟨n, rfl, h0⟩ := at1_some hm
  replace hm := h0; clear h0
  refine callL 20 [(0, aI a0), (1, aI a1)] func63 rfl (by kernel_rfl) (sq (detn [(0, aI a0), (1, aI a1)] (by kernel_rfl) (sq (rg (sh 1 [(7, aI a0)] (by kernel_rfl) ?_)))))
  obtain ⟨x1, h2, hm⟩ := bs hm
  refine dv 8 (cpure (by kernel_rfl) (ok_cmp_isNaN_int64 h2) (by kernel_rfl) (by kernel_rfl) (by kernel_rfl)) (by kernel_rfl) (sh 1 [(5, aB x1)] (by kernel_rfl) (fin [(0, aI a0), (1, aI a1), (5, aB x1)] rfl (by kernel_rfl) (sq (rg (sh 1 [(9, aI a1)] (by kernel_rfl) ?_)))))
  obtain ⟨x3, h4, hm⟩ := bs hm
  refine dv 10 (cpure (by kernel_rfl) (ok_cmp_isNaN_int64 h4) (by kernel_rfl) (by kernel_rfl) (by kernel_rfl)) (by kernel_rfl) (sh 1 [(6, aB x3)] (by kernel_rfl) (fin [(0, aI a0), (1, aI a1), (5, aB x1), (6, aB x3)] rfl (by kernel_rfl) ?_))
  refine sq (sq (detn [(0, aI a0), (1, aI a1), (6, aB x3), (11, aB x1)] (by kernel_rfl) ?_))
  rcases bif_some hm with ⟨h5, hm⟩ | ⟨h5, hm⟩
  ·
   refine ct h5 (by kernel_rfl) (sq (sq (detn [(12, aB x3)] (by kernel_rfl) ?_)))
   rcases bif_some hm with ⟨h6, hm⟩ | ⟨h6, hm⟩
   ·
    refine ct h6 (by kernel_rfl) (sq (detn [(4, aI 0)] (by kernel_rfl) (wp_ret ?_)))
    obtain rfl := Option.some.inj hm
    exact ⟨trivial, by kernel_rfl⟩
   ·
    refine cf h6 (by kernel_rfl) (wp_skip (sq (detn [(4, aI (-1))] (by kernel_rfl) (wp_ret ?_))))
    obtain rfl := Option.some.inj hm
    exact ⟨trivial, by kernel_rfl⟩
  ·
   refine cf h5 (by kernel_rfl) (wp_skip ?_)
   refine sq (sq (detn [(0, aI a0), (1, aI a1), (13, aB x3)] (by kernel_rfl) ?_))
   rcases bif_some hm with ⟨h7, hm⟩ | ⟨h7, hm⟩
   ·
    refine ct h7 (by kernel_rfl) (sq (detn [(4, aI 1)] (by kernel_rfl) (wp_ret ?_)))
    obtain rfl := Option.some.inj hm
    exact ⟨trivial, by kernel_rfl⟩
   ·
    refine cf h7 (by kernel_rfl) (wp_skip (sq (sq (detn [(0, aI a0), (1, aI a1), (16, aB (decide (a0 < a1)))] (by kernel_rfl) ?_))))
    rcases bif_some hm with ⟨h8, hm⟩ | ⟨h8, hm⟩
    ·
     refine ct h8 (by kernel_rfl) (sq (detn [(4, aI (-1))] (by kernel_rfl) (wp_ret ?_)))
     obtain rfl := Option.some.inj hm
     exact ⟨trivial, by kernel_rfl⟩
    ·
     refine cf h8 (by kernel_rfl) (wp_skip (sq (sq (detn [(19, aB (decide (a0 > a1)))] (by kernel_rfl) ?_))))
     rcases bif_some hm with ⟨h9, hm⟩ | ⟨h9, hm⟩
     ·
      refine ct h9 (by kernel_rfl) (sq (detn [(4, aI 1)] (by kernel_rfl) (wp_ret ?_)))
      obtain rfl := Option.some.inj hm
      exact ⟨trivial, by kernel_rfl⟩
     ·
      refine cf h9 (by kernel_rfl) (wp_skip (sq (detn [(4, aI 0)] (by kernel_rfl) (wp_ret ?_))))
      obtain rfl := Option.some.inj hm
      exact ⟨trivial, by kernel_rfl⟩
theorem ok_value_Cmp {n : Nat} {a0 : api_Value} {a1 : api_Value} {r : Int} (hm : value_Cmp n a0 a1 = some r) :
    call G n 37 [.agg [aI a0.fKind, aI a0.fInt, aF a0.fFloat, aS a0.fText], .agg [aI a1.fKind, aI a1.fInt, aF a1.fFloat, aS a1.fText]] [] = some (.ret (aI r), []) := by
  unfold value_Cmp at hm
  obtain ⟨n, rfl, h0⟩ := at1_some hm
  replace hm := h0; clear h0
  refine callL 40 [(0, .agg [aI a0.fKind, aI a0.fInt, aF a0.fFloat, aS a0.fText]), (1, .agg [aI a1.fKind, aI a1.fInt, aF a1.fFloat, aS a1.fText])] func37 rfl (by kernel_rfl) (sq (det [(2, .ptr 0 0), (3, .ptr 1 0)] [.box [aI a0.fKind, aI a0.fInt, aF a0.fFloat, aS a0.fText] false, .box [aI a1.fKind, aI a1.fInt, aF a1.fFloat, aS a1.fText] false] (by kernel_rfl) (sq (rgd (shd 1 [(5, .agg [aI a0.fKind, aI a0.fInt, aF a0.fFloat, aS a0.fText])] (by kernel_rfl) ?_)))))
  obtain ⟨x1, h2, hm⟩ := bs hm
  refine dvd 6 (cpure (by kernel_rfl) (ok_value_Plain h2) (by kernel_rfl) (by kernel_rfl) (by kernel_rfl)) (by kernel_rfl) (shd 1 [(7, .agg [aI a1.fKind, aI a1.fInt, aF a1.fFloat, aS a1.fText])] (by kernel_rfl) ?_)
  obtain ⟨x3, h4, hm⟩ := bs hm
  refine dvd 8 (cpure (by kernel_rfl) (ok_value_Plain h4) (by kernel_rfl) (by kernel_rfl) (by kernel_rfl)) (by kernel_rfl) (std 2 [] [.box [aI x1.fKind, aI x1.fInt, aF x1.fFloat, aS x1.fText] false, .box [aI x3.fKind, aI x3.fInt, aF x3.fFloat, aS x3.fText] false] (by kernel_rfl) (find [(2, .ptr 0 0), (3, .ptr 1 0)] rfl (by kernel_rfl) (by kernel_rfl) ?_))
  refine sq (sq (detn [(2, .ptr 0 0), (3, .ptr 1 0), (13, aB (x1.fKind != x3.fKind))] (by kernel_rfl) ?_))
  rcases bif_some hm with ⟨h5, hm⟩ | ⟨h5, hm⟩
  ·
   refine ct h5 (by kernel_rfl) (sq (rg (sh 4 [(17, aI x3.fKind), (16, .ptr 1 0), (15, aI x1.fKind), (14, .ptr 0 0)] (by kernel_rfl) ?_)))
   obtain ⟨x6, h7, hm⟩ := bs hm
   refine dv 18 (cpure (by kernel_rfl) (ok_cmp_Compare_int h7) (by kernel_rfl) (by kernel_rfl) (by kernel_rfl)) (by kernel_rfl) (sh 1 [(4, aI x6)] (by kernel_rfl) (fin [(4, aI x6)] rfl (by kernel_rfl) (wp_ret ?_)))
   obtain rfl := Option.some.inj hm
   exact ⟨trivial, by kernel_rfl⟩
  ·
   refine cf h5 (by kernel_rfl) (wp_skip (sq (sq (detn [(2, .ptr 0 0), (3, .ptr 1 0), (20, aI x1.fKind)] (by kernel_rfl) (bq (sq (detn [(2, .ptr 0 0), (3, .ptr 1 0), (20, aI x1.fKind), (21, aB (x1.fKind == 3))] (by kernel_rfl) ?_)))))))
   rcases bif_some hm with ⟨h8, hm⟩ | ⟨h8, hm⟩
   ·
    refine ct h8 (by kernel_rfl) (sq (rg (sh 4 [(26, aF x3.fFloat), (25, .ptr 1 2), (24, aF x1.fFloat), (23, .ptr 0 2)] (by kernel_rfl) ?_)))
    obtain ⟨x9, h10, hm⟩ := bs hm
    refine dv 27 (cpure (by kernel_rfl) (ok_value_floats h10) (by kernel_rfl) (by kernel_rfl) (by kernel_rfl)) (by kernel_rfl) (sh 1 [(4, aI x9)] (by kernel_rfl) (fin [(4, aI x9)] rfl (by kernel_rfl) (wp_ret ?_)))
    obtain rfl := Option.some.inj hm
    exact ⟨trivial, by kernel_rfl⟩
   ·
    refine cf h8 (by kernel_rfl) (sq (detn [(2, .ptr 0 0), (3, .ptr 1 0), (28, aB (x1.fKind == 4))] (by kernel_rfl) ?_))
    rcases bif_some hm with ⟨h11, hm⟩ | ⟨h11, hm⟩
    ·
     refine ct h11 (by kernel_rfl) (sq (rg (sh 4 [(33, aS x3.fText), (32, .ptr 1 3), (31, aS x1.fText), (30, .ptr 0 3)] (by kernel_rfl) ?_)))
     obtain ⟨x12, h13, hm⟩ := bs hm
     refine dv 34 (cpure (by kernel_rfl) (ok_cmp_Compare_string h13) (by kernel_rfl) (by kernel_rfl) (by kernel_rfl)) (by kernel_rfl) (sh 1 [(4, aI x12)] (by kernel_rfl) (fin [(4, aI x12)] rfl (by kernel_rfl) (wp_ret ?_)))
     obtain rfl := Option.some.inj hm
     exact ⟨trivial, by kernel_rfl⟩
    ·
     refine cf h11 (by kernel_rfl) (wp_skip (sq (rg (sh 4 [(38, aI x3.fInt), (37, .ptr 1 1), (36, aI x1.fInt), (35, .ptr 0 1)] (by kernel_rfl) ?_))))
     obtain ⟨x14, h15, hm⟩ := bs hm
     refine dv 39 (cpure (by kernel_rfl) (ok_cmp_Compare_int64 h15) (by kernel_rfl) (by kernel_rfl) (by kernel_rfl)) (by kernel_rfl) (sh 1 [(4, aI x14)] (by kernel_rfl) (fin [(4, aI x14)] rfl (by kernel_rfl) (wp_ret ?_)))
     obtain rfl := Option.some.inj hm
     exact ⟨trivial, by kernel_rfl⟩
theorem ok_row_lists_Value_value_Cmp {n : Nat} {a0 : (Option (List api_Value))} {a1 : (Option (List api_Value))} {r : Int} (hm : row_lists_Value_value_Cmp n a0 a1 = some r) :
    call G n 36 [.pv (encSl R_api_Value a0), .pv (encSl R_api_Value a1), .pv (.fn 37 [] [])] [] = some (.ret (aI r), []) := by
  unfold row_lists_Value_value_Cmp at hm
  obtain ⟨n, rfl, h0⟩ := at1_some hm
  replace hm := h0; clear h0
  refine callL 39 [(0, .pv (encSl R_api_Value a0)), (1, .pv (encSl R_api_Value a1)), (2, .pv (.fn 37 [] []))] func36 rfl (by kernel_rfl) (sq (detn [(0, .pv (encSl R_api_Value a0)), (1, .pv (encSl R_api_Value a1)), (2, .pv (.fn 37 [] []))] (by kernel_rfl) ?_))
  obtain ⟨k3, hk3, hm⟩ := withK_some hm
  refine mid (fun t H => (∃ (y1 : Bool) (y2 : Int), k3 () = some r ∧ t = mk 39 [(0, .pv (encSl R_api_Value a0)), (1, .pv (encSl R_api_Value a1)), (2, .pv (.fn 37 [] [])), (7, aI y2), (18, aB y1)] ∧ H = [])) ?_ ?_
  ·
   rintro _ _ ⟨y1, y2, hm, rfl, rfl⟩
   subst hk3
   refine sq (rg (sh 1 [(34, .pv (encSl R_api_Value a0))] (by kernel_rfl) (dv 35 (v := aI ((sll a0).length : Int)) (len_slO R_api_Value a0 t22 (by kernel_rfl)) (by kernel_rfl) (sh 1 [(36, .pv (encSl R_api_Value a1))] (by kernel_rfl) (dv 37 (v := aI ((sll a1).length : Int)) (len_slO R_api_Value a1 t22 (by kernel_rfl)) (by kernel_rfl) ?_)))))
   obtain ⟨x4, h5, hm⟩ := bs hm
   refine dv 38 (cpure (by kernel_rfl) (ok_cmp_Compare_int h5) (by kernel_rfl) (by kernel_rfl) (by kernel_rfl)) (by kernel_rfl) (sh 1 [(6, aI x4)] (by kernel_rfl) (fin [(6, aI x4)] rfl (by kernel_rfl) (wp_ret ?_)))
   obtain rfl := Option.some.inj hm
   exact ⟨trivial, by kernel_rfl⟩
  refine sq (detn [(0, .pv (encSl R_api_Value a0)), (1, .pv (encSl R_api_Value a1)), (2, .pv (.fn 37 [] [])), (7, aI 0)] (by kernel_rfl) (bq ?_))
  refine loopF (fun mm t H => (∃ (y7 : Int), row_lists_Value_value_Cmp_l2 n a0 a1 k3 mm y7 = some r ∧ t = mk 39 [(0, .pv (encSl R_api_Value a0)), (1, .pv (encSl R_api_Value a1)), (2, .pv (.fn 37 [] [])), (7, aI y7)] ∧ H = [])) (⟨0, hm, rfl, rfl⟩) ?_ ?_
  · rintro _ _ ⟨y7, hm, _⟩; exact nomatch hm
  rintro m8 _ _ ⟨y7, hm, rfl, rfl⟩
  simp only [row_lists_Value_value_Cmp_l2] at hm
  refine sq (sq (rg (sh 2 [(10, .pv (encSl R_api_Value a0)), (9, aI y7)] (by kernel_rfl) (dv 11 (v := aI ((sll a0).length : Int)) (len_slO R_api_Value a0 t22 (by kernel_rfl)) (by kernel_rfl) (sh 2 [(13, aB (decide (y7 < ((sll a0).length : Int)))), (12, aB (decide (y7 < ((sll a0).length : Int))))] (by kernel_rfl) ?_)))))
  refine seg (decide (y7 < ((sll a0).length : Int))) [13, 12] (fun b => [(18, aB (b && (decide (y7 < ((sll a1).length : Int))))), (17, ifA b (aB (decide (y7 < ((sll a1).length : Int)))) (.undef)), (16, ifA b (aI ((sll a1).length : Int)) (.undef)), (15, ifA b (.pv (encSl R_api_Value a1)) (.undef)), (14, ifA b (aI y7) (.undef))]) 10 (by kernel_rfl) ?_ ?_ ?_
  ·
   intro Q h
   refine sh 2 [(15, .pv (encSl R_api_Value a1)), (14, aI y7)] (by kernel_rfl) (dv 16 (v := aI ((sll a1).length : Int)) (len_slO R_api_Value a1 t22 (by kernel_rfl)) (by kernel_rfl) (sh 2 [(18, aB (decide (y7 < ((sll a1).length : Int)))), (17, aB (decide (y7 < ((sll a1).length : Int))))] (by kernel_rfl) ?_))
   exact sameN (by kernel_rfl) (by kernel_rfl) h
  ·
   intro Q h
   refine sh 5 [(18, aB false), (17, .undef), (16, .undef), (15, .undef), (14, .undef)] (by kernel_rfl) ?_
   exact sameN (by kernel_rfl) (by kernel_rfl) h
  refine fin [(0, .pv (encSl R_api_Value a0)), (1, .pv (encSl R_api_Value a1)), (2, .pv (.fn 37 [] [])), (7, aI y7), (18, aB ((decide (y7 < ((sll a0).length : Int))) && (decide (y7 < ((sll a1).length : Int)))))] rfl (by kernel_rfl) ?_
  rcases bif_some hm with ⟨h9, hm⟩ | ⟨h9, hm⟩
  ·
   refine ct h9 (by kernel_rfl) (wp_skip (sq (bq (sq (rgd (shd 3 [(23, aI y7), (22, .pv (encSl R_api_Value a0)), (21, .pv (.fn 37 [] []))] (by kernel_rfl) ?_))))))
   obtain ⟨x10, h11, hm⟩ := bs hm
   refine dvd 24 (v := .pv (.ptr (R_api_Value x10) 0)) (ia_slO R_api_Value a0 .i64 t22 t38 h11 rfl (by kernel_rfl)) (by kernel_rfl) (shd 3 [(27, aI y7), (26, .pv (encSl R_api_Value a1)), (25, .agg [aI x10.fKind, aI x10.fInt, aF x10.fFloat, aS x10.fText])] (by kernel_rfl) ?_)
   obtain ⟨x12, h13, hm⟩ := bs hm
   refine dvd 28 (v := .pv (.ptr (R_api_Value x12) 0)) (ia_slO R_api_Value a1 .i64 t22 t38 h13 rfl (by kernel_rfl)) (by kernel_rfl) (shd 1 [(29, .agg [aI x12.fKind, aI x12.fInt, aF x12.fFloat, aS x12.fText])] (by kernel_rfl) ?_)
   obtain ⟨x14, h15, hm⟩ := bs hm
   refine dvd 30 (cpure (by kernel_rfl) (ok_value_Cmp h15) (by kernel_rfl) (by kernel_rfl) (by kernel_rfl)) (by kernel_rfl) (shd 1 [(8, aI x14)] (by kernel_rfl) (find [(0, .pv (encSl R_api_Value a0)), (1, .pv (encSl R_api_Value a1)), (2, .pv (.fn 37 [] [])), (7, aI y7), (8, aI x14)] rfl (by kernel_rfl) (by kernel_rfl) (sq (detn [(0, .pv (encSl R_api_Value a0)), (1, .pv (encSl R_api_Value a1)), (2, .pv (.fn 37 [] [])), (7, aI y7), (8, aI x14), (32, aB (x14 != 0))] (by kernel_rfl) ?_))))
   rcases bif_some hm with ⟨h16, hm⟩ | ⟨h16, hm⟩
   ·
    refine ct h16 (by kernel_rfl) (sq (detn [(6, aI x14)] (by kernel_rfl) (wp_ret ?_)))
    obtain rfl := Option.some.inj hm
    exact ⟨trivial, by kernel_rfl⟩
   ·
    refine cf h16 (by kernel_rfl) (wp_skip (detn [(0, .pv (encSl R_api_Value a0)), (1, .pv (encSl R_api_Value a1)), (2, .pv (.fn 37 [] [])), (7, aI (IntKind.wrap .i64 (y7 + 1)))] (by kernel_rfl) ?_))
    exact ⟨_, _, tidyL [(0, .pv (encSl R_api_Value a0)), (1, .pv (encSl R_api_Value a1)), (2, .pv (.fn 37 [] [])), (7, aI (IntKind.wrap .i64 (y7 + 1)))] [] (by kernel_rfl), ⟨(IntKind.wrap .i64 (y7 + 1)), hm, rfl, rfl⟩⟩
  ·
   refine cf h9 (by kernel_rfl) (wp_exit ?_)
   exact ⟨((decide (y7 < ((sll a0).length : Int))) && (decide (y7 < ((sll a1).length : Int)))), y7, hm, rfl, rfl⟩
theorem ok_row_Cmp {n : Nat} {a0 : (Option (List api_Value))} {a1 : (Option (List api_Value))} {r : Int} (hm : row_Cmp n a0 a1 = some r) :
    call G n 12 [.pv (encSl R_api_Value a0), .pv (encSl R_api_Value a1)] [] = some (.ret (aI r), []) := by
  unfold row_Cmp at hm
  obtain ⟨n, rfl, h0⟩ := at1_some hm
  replace hm := h0; clear h0
  refine callL 8 [(0, .pv (encSl R_api_Value a0)), (1, .pv (encSl R_api_Value a1))] func12 rfl (by kernel_rfl) (sq (detn [(0, .pv (encSl R_api_Value a0)), (1, .pv (encSl R_api_Value a1))] (by kernel_rfl) (sq (rg (sh 2 [(6, .pv (encSl R_api_Value a1)), (5, .pv (encSl R_api_Value a0))] (by kernel_rfl) ?_)))))
  obtain ⟨x1, h2, hm⟩ := bs hm
  refine dv 7 (cpure (by kernel_rfl) (ok_row_lists_Value_value_Cmp h2) (by kernel_rfl) (by kernel_rfl) (by kernel_rfl)) (by kernel_rfl) (sh 1 [(4, aI x1)] (by kernel_rfl) (fin [(4, aI x1)] rfl (by kernel_rfl) (wp_ret ?_)))
  obtain rfl := Option.some.inj hm
  exact ⟨trivial, by kernel_rfl⟩
theorem ok_ref04_Plain {n : Nat} {a0 : api_Value} {r : api_Value} (hm : ref04_Plain n a0 = some r) :
    call G n 64 [.agg [aI a0.fKind, aI a0.fInt, aF a0.fFloat, aS a0.fText]] [] = some (.ret (.agg [aI r.fKind, aI r.fInt, aF r.fFloat, aS r.fText]), []) := by
  unfold ref04_Plain at hm
  obtain ⟨n, rfl, h0⟩ := at1_some hm
  replace hm := h0; clear h0
  refine callL 17 [(0, .agg [aI a0.fKind, aI a0.fInt, aF a0.fFloat, aS a0.fText])] func64 rfl (by kernel_rfl) (sq (det [(1, .ptr 0 0), (2, .ptr 1 0)] [.box [aI a0.fKind, aI a0.fInt, aF a0.fFloat, aS a0.fText] false, .box [aI 0, aI 0, aF 0, aS ByteArray.empty] false] (by kernel_rfl) ?_))
  refine sq (sq (rg (sh 1 [(3, .agg [aI a0.fKind, aI a0.fInt, aF a0.fFloat, aS a0.fText])] (by kernel_rfl) ?_)))
  obtain ⟨x1, h2, hm⟩ := bs hm
  refine dv 4 (cpure (by kernel_rfl) (ok_ref04_Right h2) (by kernel_rfl) (by kernel_rfl) (by kernel_rfl)) (by kernel_rfl) (sh 1 [(5, aB (!x1))] (by kernel_rfl) (fin [(1, .ptr 0 0), (2, .ptr 1 0), (5, aB (!x1))] rfl (by kernel_rfl) ?_))
  rcases bif_some hm with ⟨h3, hm⟩ | ⟨h3, hm⟩
  ·
   refine ct h3 (by kernel_rfl) (sq (detn [(2, .ptr 1 0)] (by kernel_rfl) (wp_ret ?_)))
   obtain rfl := Option.some.inj hm
   exact ⟨trivial, by kernel_rfl⟩
  ·
   refine cf h3 (by kernel_rfl) (wp_skip (sq (sq (rg (sh 4 [(10, aB (a0.fKind == 3)), (9, aB (a0.fKind == 3)), (8, aI a0.fKind), (7, .ptr 0 0)] (by kernel_rfl) ?_)))))
   refine seg (a0.fKind == 3) [10, 9] (fun b => [(14, aB (b && ((FloatKind.format .f64).order a0.fFloat 0 == some .eq))), (13, ifA b (aB ((FloatKind.format .f64).order a0.fFloat 0 == some .eq)) (.undef)), (12, ifA b (aF a0.fFloat) (.undef)), (11, ifA b (.ptr 0 2) (.undef))]) 8 (by kernel_rfl) ?_ ?_ ?_
   ·
    intro Q h
    refine sh 4 [(14, aB ((FloatKind.format .f64).order a0.fFloat 0 == some .eq)), (13, aB ((FloatKind.format .f64).order a0.fFloat 0 == some .eq)), (12, aF a0.fFloat), (11, .ptr 0 2)] (by kernel_rfl) ?_
    exact sameN (by kernel_rfl) (by kernel_rfl) h
   ·
    intro Q h
    refine sh 4 [(14, aB false), (13, .undef), (12, .undef), (11, .undef)] (by kernel_rfl) ?_
    exact sameN (by kernel_rfl) (by kernel_rfl) h
   refine fin [(1, .ptr 0 0), (2, .ptr 1 0), (14, aB ((a0.fKind == 3) && ((FloatKind.format .f64).order a0.fFloat 0 == some .eq)))] rfl (by kernel_rfl) ?_
   rcases bif_some hm with ⟨h4, hm⟩ | ⟨h4, hm⟩
   ·
    refine ct h4 (by kernel_rfl) (sq (det [(2, .ptr 1 0)] [.box [aI a0.fKind, aI a0.fInt, aF a0.fFloat, aS a0.fText] false, .box [aI 3, aI 0, aF 0, aS ByteArray.empty] false] (by kernel_rfl) (wp_ret ?_)))
    obtain rfl := Option.some.inj hm
    exact ⟨trivial, by kernel_rfl⟩
   ·
    refine cf h4 (by kernel_rfl) (wp_skip (sq (det [(2, .ptr 1 0)] [.box [aI a0.fKind, aI a0.fInt, aF a0.fFloat, aS a0.fText] false, .box [aI a0.fKind, aI a0.fInt, aF a0.fFloat, aS a0.fText] false] (by kernel_rfl) (wp_ret ?_))))
    obtain rfl := Option.some.inj hm
    exact ⟨trivial, by kernel_rfl⟩
theorem ok_ref04_Cmp {n : Nat} {a0 : api_Value} {a1 : api_Value} {r : Int} (hm : ref04_Cmp n a0 a1 = some r) :
    call G n 38 [.agg [aI a0.fKind, aI a0.fInt, aF a0.fFloat, aS a0.fText], .agg [aI a1.fKind, aI a1.fInt, aF a1.fFloat, aS a1.fText]] [] = some (.ret (aI r), []) := by
  unfold ref04_Cmp at hm
  obtain ⟨n, rfl, h0⟩ := at1_some hm
  replace hm := h0; clear h0
  refine callL 85 [(0, .agg [aI a0.fKind, aI a0.fInt, aF a0.fFloat, aS a0.fText]), (1, .agg [aI a1.fKind, aI a1.fInt, aF a1.fFloat, aS a1.fText])] func38 rfl (by kernel_rfl) (sq (det [(2, .ptr 0 0), (3, .ptr 1 0)] [.box [aI a0.fKind, aI a0.fInt, aF a0.fFloat, aS a0.fText] false, .box [aI a1.fKind, aI a1.fInt, aF a1.fFloat, aS a1.fText] false] (by kernel_rfl) (sq (rg (sh 1 [(9, .agg [aI a0.fKind, aI a0.fInt, aF a0.fFloat, aS a0.fText])] (by kernel_rfl) ?_)))))
  obtain ⟨x1, h2, hm⟩ := bs hm
  refine dv 10 (cpure (by kernel_rfl) (ok_ref04_Plain h2) (by kernel_rfl) (by kernel_rfl) (by kernel_rfl)) (by kernel_rfl) (st 1 [] [.box [aI x1.fKind, aI x1.fInt, aF x1.fFloat, aS x1.fText] false, .box [aI a1.fKind, aI a1.fInt, aF a1.fFloat, aS a1.fText] false] (by kernel_rfl) (fin [(2, .ptr 0 0), (3, .ptr 1 0)] rfl (by kernel_rfl) (sq (rg (sh 1 [(11, .agg [aI a1.fKind, aI a1.fInt, aF a1.fFloat, aS a1.fText])] (by kernel_rfl) ?_)))))
  obtain ⟨x3, h4, hm⟩ := bs hm
  refine dv 12 (cpure (by kernel_rfl) (ok_ref04_Plain h4) (by kernel_rfl) (by kernel_rfl) (by kernel_rfl)) (by kernel_rfl) (st 1 [] [.box [aI x1.fKind, aI x1.fInt, aF x1.fFloat, aS x1.fText] false, .box [aI x3.fKind, aI x3.fInt, aF x3.fFloat, aS x3.fText] false] (by kernel_rfl) (fin [(2, .ptr 0 0), (3, .ptr 1 0)] rfl (by kernel_rfl) ?_))
  refine sq (sq (detn [(2, .ptr 0 0), (3, .ptr 1 0), (17, aB (x1.fKind != x3.fKind))] (by kernel_rfl) ?_))
  rcases bif_some hm with ⟨h5, hm⟩ | ⟨h5, hm⟩
  ·
   refine ct h5 (by kernel_rfl) (sq (sq (detn [(22, aB (decide (x1.fKind < x3.fKind)))] (by kernel_rfl) ?_)))
   rcases bif_some hm with ⟨h6, hm⟩ | ⟨h6, hm⟩
   ·
    refine ct h6 (by kernel_rfl) (sq (detn [(4, aI (-1))] (by kernel_rfl) (wp_ret ?_)))
    obtain rfl := Option.some.inj hm
    exact ⟨trivial, by kernel_rfl⟩
   ·
    refine cf h6 (by kernel_rfl) (wp_skip (sq (detn [(4, aI 1)] (by kernel_rfl) (wp_ret ?_))))
    obtain rfl := Option.some.inj hm
    exact ⟨trivial, by kernel_rfl⟩
  ·
   refine cf h5 (by kernel_rfl) (wp_skip (sq (detn [(2, .ptr 0 0), (3, .ptr 1 0), (5, aB (decide (x1.fInt < x3.fInt)))] (by kernel_rfl) (sq (detn [(2, .ptr 0 0), (3, .ptr 1 0), (5, aB (decide (x1.fInt < x3.fInt))), (6, aB (decide (x1.fInt > x3.fInt)))] (by kernel_rfl) ?_)))))
   obtain ⟨k10, hk10, hm⟩ := withK_some hm
   refine mid (fun t H => (∃ (y8 : Bool) (y9 : Bool) (w7 : AV), k10 y8 y9 = some r ∧ t = mk 85 [(2, .ptr 0 0), (3, .ptr 1 0), (5, aB y8), (6, aB y9), (35, w7)] ∧ H = [.box [aI x1.fKind, aI x1.fInt, aF x1.fFloat, aS x1.fText] false, .box [aI x3.fKind, aI x3.fInt, aF x3.fFloat, aS x3.fText] false])) ?_ ?_
   ·
    rintro _ _ ⟨y8, y9, w7, hm, rfl, rfl⟩
    subst hk10
    refine sq (sq (detn [(2, .ptr 0 0), (3, .ptr 1 0), (5, aB y8), (6, aB y9), (72, aB (x1.fKind == 4))] (by kernel_rfl) ?_))
    rcases bif_some hm with ⟨h11, hm⟩ | ⟨h11, hm⟩
    ·
     refine ct h11 (by kernel_rfl) (sq (detn [(2, .ptr 0 0), (3, .ptr 1 0), (5, aB (sLt x1.fText x3.fText))] (by kernel_rfl) (detn [(5, aB (sLt x1.fText x3.fText)), (6, aB (!(sLt x1.fText x3.fText || sEq x1.fText x3.fText)))] (by kernel_rfl) (sq (sq (detn [(6, aB (!(sLt x1.fText x3.fText || sEq x1.fText x3.fText))), (83, aB (sLt x1.fText x3.fText))] (by kernel_rfl) ?_))))))
     rcases bif_some hm with ⟨h12, hm⟩ | ⟨h12, hm⟩
     ·
      refine ct h12 (by kernel_rfl) (sq (detn [(4, aI (-1))] (by kernel_rfl) (wp_ret ?_)))
      obtain rfl := Option.some.inj hm
      exact ⟨trivial, by kernel_rfl⟩
     ·
      refine cf h12 (by kernel_rfl) (wp_skip (sq (sq (detn [(84, aB (!(sLt x1.fText x3.fText || sEq x1.fText x3.fText)))] (by kernel_rfl) ?_))))
      rcases bif_some hm with ⟨h13, hm⟩ | ⟨h13, hm⟩
      ·
       refine ct h13 (by kernel_rfl) (sq (detn [(4, aI 1)] (by kernel_rfl) (wp_ret ?_)))
       obtain rfl := Option.some.inj hm
       exact ⟨trivial, by kernel_rfl⟩
      ·
       refine cf h13 (by kernel_rfl) (wp_skip (sq (detn [(4, aI 0)] (by kernel_rfl) (wp_ret ?_))))
       obtain rfl := Option.some.inj hm
       exact ⟨trivial, by kernel_rfl⟩
    ·
     refine cf h11 (by kernel_rfl) (wp_skip (sq (sq (detn [(6, aB y9), (83, aB y8)] (by kernel_rfl) ?_))))
     rcases bif_some hm with ⟨h14, hm⟩ | ⟨h14, hm⟩
     ·
      refine ct h14 (by kernel_rfl) (sq (detn [(4, aI (-1))] (by kernel_rfl) (wp_ret ?_)))
      obtain rfl := Option.some.inj hm
      exact ⟨trivial, by kernel_rfl⟩
     ·
      refine cf h14 (by kernel_rfl) (wp_skip (sq (sq (detn [(84, aB y9)] (by kernel_rfl) ?_))))
      rcases bif_some hm with ⟨h15, hm⟩ | ⟨h15, hm⟩
      ·
       refine ct h15 (by kernel_rfl) (sq (detn [(4, aI 1)] (by kernel_rfl) (wp_ret ?_)))
       obtain rfl := Option.some.inj hm
       exact ⟨trivial, by kernel_rfl⟩
      ·
       refine cf h15 (by kernel_rfl) (wp_skip (sq (detn [(4, aI 0)] (by kernel_rfl) (wp_ret ?_))))
       obtain rfl := Option.some.inj hm
       exact ⟨trivial, by kernel_rfl⟩
   refine sq (detn [(2, .ptr 0 0), (3, .ptr 1 0), (5, aB (decide (x1.fInt < x3.fInt))), (6, aB (decide (x1.fInt > x3.fInt))), (35, aB (x1.fKind == 3))] (by kernel_rfl) ?_)
   rcases bif_some hm with ⟨h16, hm⟩ | ⟨h16, hm⟩
   ·
    refine ct h16 (by kernel_rfl) (sq (detn [(2, .ptr 0 0), (3, .ptr 1 0), (7, aB ((FloatKind.format .f64).order x1.fFloat x1.fFloat != some .eq))] (by kernel_rfl) (sq (detn [(2, .ptr 0 0), (3, .ptr 1 0), (7, aB ((FloatKind.format .f64).order x1.fFloat x1.fFloat != some .eq)), (8, aB ((FloatKind.format .f64).order x3.fFloat x3.fFloat != some .eq))] (by kernel_rfl) ?_))))
    refine sq (rg (sh 6 [(51, aB ((FloatKind.format .f64).order x1.fFloat x3.fFloat == some .lt)), (50, aB ((FloatKind.format .f64).order x1.fFloat x3.fFloat == some .lt)), (49, aF x3.fFloat), (48, .ptr 1 2), (47, aF x1.fFloat), (46, .ptr 0 2)] (by kernel_rfl) ?_))
    refine seg ((FloatKind.format .f64).order x1.fFloat x3.fFloat == some .lt) [51, 50] (fun b => [(57, aB (b || ((!((FloatKind.format .f64).order x1.fFloat x1.fFloat != some .eq)) && ((FloatKind.format .f64).order x3.fFloat x3.fFloat != some .eq)))), (56, ifA b (.undef) (aB ((!((FloatKind.format .f64).order x1.fFloat x1.fFloat != some .eq)) && ((FloatKind.format .f64).order x3.fFloat x3.fFloat != some .eq)))), (55, ifA b (.undef) (ifA (!((FloatKind.format .f64).order x1.fFloat x1.fFloat != some .eq)) (aB ((FloatKind.format .f64).order x3.fFloat x3.fFloat != some .eq)) (.undef))), (54, ifA b (.undef) (aB (!((FloatKind.format .f64).order x1.fFloat x1.fFloat != some .eq)))), (53, ifA b (.undef) (aB (!((FloatKind.format .f64).order x1.fFloat x1.fFloat != some .eq)))), (52, ifA b (.undef) (aB ((FloatKind.format .f64).order x1.fFloat x1.fFloat != some .eq)))]) 12 (by kernel_rfl) ?_ ?_ ?_
    ·
     intro Q h
     refine sh 6 [(57, aB true), (56, .undef), (55, .undef), (54, .undef), (53, .undef), (52, .undef)] (by kernel_rfl) ?_
     exact sameN (by kernel_rfl) (by kernel_rfl) h
    ·
     intro Q h
     refine sh 3 [(54, aB (!((FloatKind.format .f64).order x1.fFloat x1.fFloat != some .eq))), (53, aB (!((FloatKind.format .f64).order x1.fFloat x1.fFloat != some .eq))), (52, aB ((FloatKind.format .f64).order x1.fFloat x1.fFloat != some .eq))] (by kernel_rfl) ?_
     refine seg (!((FloatKind.format .f64).order x1.fFloat x1.fFloat != some .eq)) [54, 53] (fun b => [(56, aB (b && ((FloatKind.format .f64).order x3.fFloat x3.fFloat != some .eq))), (55, ifA b (aB ((FloatKind.format .f64).order x3.fFloat x3.fFloat != some .eq)) (.undef))]) 11 (by kernel_rfl) ?_ ?_ ?_
     ·
      intro Q h
      refine sh 2 [(56, aB ((FloatKind.format .f64).order x3.fFloat x3.fFloat != some .eq)), (55, aB ((FloatKind.format .f64).order x3.fFloat x3.fFloat != some .eq))] (by kernel_rfl) ?_
      exact sameN (by kernel_rfl) (by kernel_rfl) h
     ·
      intro Q h
      refine sh 2 [(56, aB false), (55, .undef)] (by kernel_rfl) ?_
      exact sameN (by kernel_rfl) (by kernel_rfl) h
     refine sh 1 [(57, aB ((!((FloatKind.format .f64).order x1.fFloat x1.fFloat != some .eq)) && ((FloatKind.format .f64).order x3.fFloat x3.fFloat != some .eq)))] (by kernel_rfl) ?_
     exact sameN (by kernel_rfl) (by kernel_rfl) h
    refine sh 1 [(5, aB (((FloatKind.format .f64).order x1.fFloat x3.fFloat == some .lt) || ((!((FloatKind.format .f64).order x1.fFloat x1.fFloat != some .eq)) && ((FloatKind.format .f64).order x3.fFloat x3.fFloat != some .eq))))] (by kernel_rfl) (fin [(2, .ptr 0 0), (3, .ptr 1 0), (5, aB (((FloatKind.format .f64).order x1.fFloat x3.fFloat == some .lt) || ((!((FloatKind.format .f64).order x1.fFloat x1.fFloat != some .eq)) && ((FloatKind.format .f64).order x3.fFloat x3.fFloat != some .eq)))), (7, aB ((FloatKind.format .f64).order x1.fFloat x1.fFloat != some .eq)), (8, aB ((FloatKind.format .f64).order x3.fFloat x3.fFloat != some .eq))] rfl (by kernel_rfl) (rg (sh 6 [(63, aB ((FloatKind.format .f64).order x1.fFloat x3.fFloat == some .gt)), (62, aB ((FloatKind.format .f64).order x1.fFloat x3.fFloat == some .gt)), (61, aF x3.fFloat), (60, .ptr 1 2), (59, aF x1.fFloat), (58, .ptr 0 2)] (by kernel_rfl) ?_)))
    refine seg ((FloatKind.format .f64).order x1.fFloat x3.fFloat == some .gt) [63, 62] (fun b => [(69, aB (b || (((FloatKind.format .f64).order x1.fFloat x1.fFloat != some .eq) && (!((FloatKind.format .f64).order x3.fFloat x3.fFloat != some .eq))))), (68, ifA b (.undef) (aB (((FloatKind.format .f64).order x1.fFloat x1.fFloat != some .eq) && (!((FloatKind.format .f64).order x3.fFloat x3.fFloat != some .eq))))), (67, ifA b (.undef) (ifA ((FloatKind.format .f64).order x1.fFloat x1.fFloat != some .eq) (aB (!((FloatKind.format .f64).order x3.fFloat x3.fFloat != some .eq))) (.undef))), (66, ifA b (.undef) (ifA ((FloatKind.format .f64).order x1.fFloat x1.fFloat != some .eq) (aB ((FloatKind.format .f64).order x3.fFloat x3.fFloat != some .eq)) (.undef))), (65, ifA b (.undef) (aB ((FloatKind.format .f64).order x1.fFloat x1.fFloat != some .eq))), (64, ifA b (.undef) (aB ((FloatKind.format .f64).order x1.fFloat x1.fFloat != some .eq))), (7, aB ((FloatKind.format .f64).order x1.fFloat x1.fFloat != some .eq))]) 12 (by kernel_rfl) ?_ ?_ ?_
    ·
     intro Q h
     refine sh 6 [(69, aB true), (68, .undef), (67, .undef), (66, .undef), (65, .undef), (64, .undef)] (by kernel_rfl) ?_
     exact sameN (by kernel_rfl) (by kernel_rfl) h
    ·
     intro Q h
     refine sh 2 [(65, aB ((FloatKind.format .f64).order x1.fFloat x1.fFloat != some .eq)), (64, aB ((FloatKind.format .f64).order x1.fFloat x1.fFloat != some .eq))] (by kernel_rfl) ?_
     refine seg ((FloatKind.format .f64).order x1.fFloat x1.fFloat != some .eq) [65, 64, 7] (fun b => [(68, aB (b && (!((FloatKind.format .f64).order x3.fFloat x3.fFloat != some .eq)))), (67, ifA b (aB (!((FloatKind.format .f64).order x3.fFloat x3.fFloat != some .eq))) (.undef)), (66, ifA b (aB ((FloatKind.format .f64).order x3.fFloat x3.fFloat != some .eq)) (.undef))]) 11 (by kernel_rfl) ?_ ?_ ?_
     ·
      intro Q h
      refine sh 3 [(68, aB (!((FloatKind.format .f64).order x3.fFloat x3.fFloat != some .eq))), (67, aB (!((FloatKind.format .f64).order x3.fFloat x3.fFloat != some .eq))), (66, aB ((FloatKind.format .f64).order x3.fFloat x3.fFloat != some .eq))] (by kernel_rfl) ?_
      exact sameN (by kernel_rfl) (by kernel_rfl) h
     ·
      intro Q h
      refine sh 3 [(68, aB false), (67, .undef), (66, .undef)] (by kernel_rfl) ?_
      exact sameN (by kernel_rfl) (by kernel_rfl) h
     refine sh 1 [(69, aB (((FloatKind.format .f64).order x1.fFloat x1.fFloat != some .eq) && (!((FloatKind.format .f64).order x3.fFloat x3.fFloat != some .eq))))] (by kernel_rfl) ?_
     exact sameN (by kernel_rfl) (by kernel_rfl) h
    refine sh 1 [(6, aB (((FloatKind.format .f64).order x1.fFloat x3.fFloat == some .gt) || (((FloatKind.format .f64).order x1.fFloat x1.fFloat != some .eq) && (!((FloatKind.format .f64).order x3.fFloat x3.fFloat != some .eq)))))] (by kernel_rfl) (fin [(2, .ptr 0 0), (3, .ptr 1 0), (5, aB (((FloatKind.format .f64).order x1.fFloat x3.fFloat == some .lt) || ((!((FloatKind.format .f64).order x1.fFloat x1.fFloat != some .eq)) && ((FloatKind.format .f64).order x3.fFloat x3.fFloat != some .eq)))), (6, aB (((FloatKind.format .f64).order x1.fFloat x3.fFloat == some .gt) || (((FloatKind.format .f64).order x1.fFloat x1.fFloat != some .eq) && (!((FloatKind.format .f64).order x3.fFloat x3.fFloat != some .eq)))))] rfl (by kernel_rfl) ?_)
    exact ⟨(((FloatKind.format .f64).order x1.fFloat x3.fFloat == some .lt) || ((!((FloatKind.format .f64).order x1.fFloat x1.fFloat != some .eq)) && ((FloatKind.format .f64).order x3.fFloat x3.fFloat != some .eq))), (((FloatKind.format .f64).order x1.fFloat x3.fFloat == some .gt) || (((FloatKind.format .f64).order x1.fFloat x1.fFloat != some .eq) && (!((FloatKind.format .f64).order x3.fFloat x3.fFloat != some .eq)))), .any, hm, (mk_same (by kernel_rfl)), rfl⟩
   ·
    refine cf h16 (by kernel_rfl) (wp_skip ?_)
    exact ⟨(decide (x1.fInt < x3.fInt)), (decide (x1.fInt > x3.fInt)), aB (x1.fKind == 3), hm, (mk_same (by kernel_rfl)), rfl⟩
theorem ok_ref05_Cmp {n : Nat} {a0 : (Option (List api_Value))} {a1 : (Option (List api_Value))} {r : Int} (hm : ref05_Cmp n a0 a1 = some r) :
    call G n 13 [.pv (encSl R_api_Value a0), .pv (encSl R_api_Value a1)] [] = some (.ret (aI r), []) := by
  unfold ref05_Cmp at hm
  obtain ⟨n, rfl, h0⟩ := at1_some hm
  replace hm := h0; clear h0
  refine callL 41 [(0, .pv (encSl R_api_Value a0)), (1, .pv (encSl R_api_Value a1))] func13 rfl (by kernel_rfl) (sq (detn [(0, .pv (encSl R_api_Value a0)), (1, .pv (encSl R_api_Value a1))] (by kernel_rfl) ?_))
  obtain ⟨k3, hk3, hm⟩ := withK_some hm
  refine mid (fun t H => (∃ (y1 : Bool) (y2 : Int), k3 () = some r ∧ t = mk 41 [(0, .pv (encSl R_api_Value a0)), (1, .pv (encSl R_api_Value a1)), (5, aI y2), (16, aB y1)] ∧ H = [])) ?_ ?_
  ·
   rintro _ _ ⟨y1, y2, hm, rfl, rfl⟩
   subst hk3
   refine sq (sq (rg (sh 1 [(31, .pv (encSl R_api_Value a0))] (by kernel_rfl) (dv 32 (v := aI ((sll a0).length : Int)) (len_slO R_api_Value a0 t22 (by kernel_rfl)) (by kernel_rfl) (sh 1 [(33, .pv (encSl R_api_Value a1))] (by kernel_rfl) (dv 34 (v := aI ((sll a1).length : Int)) (len_slO R_api_Value a1 t22 (by kernel_rfl)) (by kernel_rfl) (sh 1 [(35, aB (decide (((sll a0).length : Int) < ((sll a1).length : Int))))] (by kernel_rfl) (fin [(0, .pv (encSl R_api_Value a0)), (1, .pv (encSl R_api_Value a1)), (35, aB (decide (((sll a0).length : Int) < ((sll a1).length : Int))))] rfl (by kernel_rfl) ?_))))))))
   rcases bif_some hm with ⟨h4, hm⟩ | ⟨h4, hm⟩
   ·
    refine ct h4 (by kernel_rfl) (sq (detn [(4, aI (-1))] (by kernel_rfl) (wp_ret ?_)))
    obtain rfl := Option.some.inj hm
    exact ⟨trivial, by kernel_rfl⟩
   ·
    refine cf h4 (by kernel_rfl) (wp_skip (sq (sq (rg (sh 1 [(36, .pv (encSl R_api_Value a0))] (by kernel_rfl) (dv 37 (v := aI ((sll a0).length : Int)) (len_slO R_api_Value a0 t22 (by kernel_rfl)) (by kernel_rfl) (sh 1 [(38, .pv (encSl R_api_Value a1))] (by kernel_rfl) (dv 39 (v := aI ((sll a1).length : Int)) (len_slO R_api_Value a1 t22 (by kernel_rfl)) (by kernel_rfl) (sh 1 [(40, aB (decide (((sll a0).length : Int) > ((sll a1).length : Int))))] (by kernel_rfl) (fin [(40, aB (decide (((sll a0).length : Int) > ((sll a1).length : Int))))] rfl (by kernel_rfl) ?_))))))))))
    rcases bif_some hm with ⟨h5, hm⟩ | ⟨h5, hm⟩
    ·
     refine ct h5 (by kernel_rfl) (sq (detn [(4, aI 1)] (by kernel_rfl) (wp_ret ?_)))
     obtain rfl := Option.some.inj hm
     exact ⟨trivial, by kernel_rfl⟩
    ·
     refine cf h5 (by kernel_rfl) (wp_skip (sq (detn [(4, aI 0)] (by kernel_rfl) (wp_ret ?_))))
     obtain rfl := Option.some.inj hm
     exact ⟨trivial, by kernel_rfl⟩
  refine sq (detn [(0, .pv (encSl R_api_Value a0)), (1, .pv (encSl R_api_Value a1)), (5, aI 0)] (by kernel_rfl) (bq ?_))
  refine loopF (fun mm t H => (∃ (y7 : Int), ref05_Cmp_l2 n a0 a1 k3 mm y7 = some r ∧ t = mk 41 [(0, .pv (encSl R_api_Value a0)), (1, .pv (encSl R_api_Value a1)), (5, aI y7)] ∧ H = [])) (⟨0, hm, rfl, rfl⟩) ?_ ?_
  · rintro _ _ ⟨y7, hm, _⟩; exact nomatch hm
  rintro m8 _ _ ⟨y7, hm, rfl, rfl⟩
  simp only [ref05_Cmp_l2] at hm
  refine sq (sq (rg (sh 2 [(8, .pv (encSl R_api_Value a0)), (7, aI y7)] (by kernel_rfl) (dv 9 (v := aI ((sll a0).length : Int)) (len_slO R_api_Value a0 t22 (by kernel_rfl)) (by kernel_rfl) (sh 2 [(11, aB (decide (y7 < ((sll a0).length : Int)))), (10, aB (decide (y7 < ((sll a0).length : Int))))] (by kernel_rfl) ?_)))))
  refine seg (decide (y7 < ((sll a0).length : Int))) [11, 10] (fun b => [(16, aB (b && (decide (y7 < ((sll a1).length : Int))))), (15, ifA b (aB (decide (y7 < ((sll a1).length : Int)))) (.undef)), (14, ifA b (aI ((sll a1).length : Int)) (.undef)), (13, ifA b (.pv (encSl R_api_Value a1)) (.undef)), (12, ifA b (aI y7) (.undef))]) 10 (by kernel_rfl) ?_ ?_ ?_
  ·
   intro Q h
   refine sh 2 [(13, .pv (encSl R_api_Value a1)), (12, aI y7)] (by kernel_rfl) (dv 14 (v := aI ((sll a1).length : Int)) (len_slO R_api_Value a1 t22 (by kernel_rfl)) (by kernel_rfl) (sh 2 [(16, aB (decide (y7 < ((sll a1).length : Int)))), (15, aB (decide (y7 < ((sll a1).length : Int))))] (by kernel_rfl) ?_))
   exact sameN (by kernel_rfl) (by kernel_rfl) h
  ·
   intro Q h
   refine sh 5 [(16, aB false), (15, .undef), (14, .undef), (13, .undef), (12, .undef)] (by kernel_rfl) ?_
   exact sameN (by kernel_rfl) (by kernel_rfl) h
  refine fin [(0, .pv (encSl R_api_Value a0)), (1, .pv (encSl R_api_Value a1)), (5, aI y7), (16, aB ((decide (y7 < ((sll a0).length : Int))) && (decide (y7 < ((sll a1).length : Int)))))] rfl (by kernel_rfl) ?_
  rcases bif_some hm with ⟨h9, hm⟩ | ⟨h9, hm⟩
  ·
   refine ct h9 (by kernel_rfl) (wp_skip (sq (bq (sq (rgd (shd 2 [(20, aI y7), (19, .pv (encSl R_api_Value a0))] (by kernel_rfl) ?_))))))
   obtain ⟨x10, h11, hm⟩ := bs hm
   refine dvd 21 (v := .pv (.ptr (R_api_Value x10) 0)) (ia_slO R_api_Value a0 .i64 t22 t38 h11 rfl (by kernel_rfl)) (by kernel_rfl) (shd 3 [(24, aI y7), (23, .pv (encSl R_api_Value a1)), (22, .agg [aI x10.fKind, aI x10.fInt, aF x10.fFloat, aS x10.fText])] (by kernel_rfl) ?_)
   obtain ⟨x12, h13, hm⟩ := bs hm
   refine dvd 25 (v := .pv (.ptr (R_api_Value x12) 0)) (ia_slO R_api_Value a1 .i64 t22 t38 h13 rfl (by kernel_rfl)) (by kernel_rfl) (shd 1 [(26, .agg [aI x12.fKind, aI x12.fInt, aF x12.fFloat, aS x12.fText])] (by kernel_rfl) ?_)
   obtain ⟨x14, h15, hm⟩ := bs hm
   refine dvd 27 (cpure (by kernel_rfl) (ok_ref04_Cmp h15) (by kernel_rfl) (by kernel_rfl) (by kernel_rfl)) (by kernel_rfl) (shd 1 [(6, aI x14)] (by kernel_rfl) (find [(0, .pv (encSl R_api_Value a0)), (1, .pv (encSl R_api_Value a1)), (5, aI y7), (6, aI x14)] rfl (by kernel_rfl) (by kernel_rfl) (sq (detn [(0, .pv (encSl R_api_Value a0)), (1, .pv (encSl R_api_Value a1)), (5, aI y7), (6, aI x14), (29, aB (x14 != 0))] (by kernel_rfl) ?_))))
   rcases bif_some hm with ⟨h16, hm⟩ | ⟨h16, hm⟩
   ·
    refine ct h16 (by kernel_rfl) (sq (detn [(4, aI x14)] (by kernel_rfl) (wp_ret ?_)))
    obtain rfl := Option.some.inj hm
    exact ⟨trivial, by kernel_rfl⟩
   ·
    refine cf h16 (by kernel_rfl) (wp_skip (detn [(0, .pv (encSl R_api_Value a0)), (1, .pv (encSl R_api_Value a1)), (5, aI (IntKind.wrap .i64 (y7 + 1)))] (by kernel_rfl) ?_))
    exact ⟨_, _, tidyL [(0, .pv (encSl R_api_Value a0)), (1, .pv (encSl R_api_Value a1)), (5, aI (IntKind.wrap .i64 (y7 + 1)))] [] (by kernel_rfl), ⟨(IntKind.wrap .i64 (y7 + 1)), hm, rfl, rfl⟩⟩
  ·
   refine cf h9 (by kernel_rfl) (wp_exit ?_)
   exact ⟨((decide (y7 < ((sll a0).length : Int))) && (decide (y7 < ((sll a1).length : Int)))), y7, hm, rfl, rfl⟩
theorem ok_row_at {n : Nat} {a0 : (Option (List api_Value))} {a1 : Int} {r : api_Value} (hm : row_at n a0 a1 = some r) :
    call G n 39 [.pv (encSl R_api_Value a0), aI a1] [] = some (.ret (.agg [aI r.fKind, aI r.fInt, aF r.fFloat, aS r.fText]), []) := by
  unfold row_at at hm
  obtain ⟨n, rfl, h0⟩ := at1_some hm
  replace hm := h0; clear h0
  refine callL 18 [(0, .pv (encSl R_api_Value a0)), (1, aI a1)] func39 rfl (by kernel_rfl) (sq (det [(0, .pv (encSl R_api_Value a0)), (1, aI a1), (4, .ptr 0 0)] [.box [aI 0, aI 0, aF 0, aS ByteArray.empty] false] (by kernel_rfl) (sq (sq (rg (sh 3 [(7, aB (decide (a1 < 0))), (6, aB (decide (a1 < 0))), (5, aI a1)] (by kernel_rfl) ?_))))))
  refine seg (decide (a1 < 0)) [7, 6] (fun b => [(12, aB (b || (decide (a1 ≥ ((sll a0).length : Int))))), (11, ifA b (.undef) (aB (decide (a1 ≥ ((sll a0).length : Int))))), (10, ifA b (.undef) (aI ((sll a0).length : Int))), (9, ifA b (.undef) (.pv (encSl R_api_Value a0))), (8, ifA b (.undef) (aI a1))]) 8 (by kernel_rfl) ?_ ?_ ?_
  ·
   intro Q h
   refine sh 5 [(12, aB true), (11, .undef), (10, .undef), (9, .undef), (8, .undef)] (by kernel_rfl) ?_
   exact sameN (by kernel_rfl) (by kernel_rfl) h
  ·
   intro Q h
   refine sh 2 [(9, .pv (encSl R_api_Value a0)), (8, aI a1)] (by kernel_rfl) (dv 10 (v := aI ((sll a0).length : Int)) (len_slO R_api_Value a0 t22 (by kernel_rfl)) (by kernel_rfl) (sh 2 [(12, aB (decide (a1 ≥ ((sll a0).length : Int)))), (11, aB (decide (a1 ≥ ((sll a0).length : Int))))] (by kernel_rfl) ?_))
   exact sameN (by kernel_rfl) (by kernel_rfl) h
  refine fin [(0, .pv (encSl R_api_Value a0)), (1, aI a1), (4, .ptr 0 0), (12, aB ((decide (a1 < 0)) || (decide (a1 ≥ ((sll a0).length : Int)))))] rfl (by kernel_rfl) ?_
  rcases bif_some hm with ⟨h1, hm⟩ | ⟨h1, hm⟩
  ·
   refine ct h1 (by kernel_rfl) (sq (detn [(4, .ptr 0 0)] (by kernel_rfl) (wp_ret ?_)))
   obtain rfl := Option.some.inj hm
   exact ⟨trivial, by kernel_rfl⟩
  ·
   refine cf h1 (by kernel_rfl) (wp_skip (sq (rg (sh 2 [(15, aI a1), (14, .pv (encSl R_api_Value a0))] (by kernel_rfl) ?_))))
   obtain ⟨x2, h3, hm⟩ := bs hm
   refine dv 16 (v := .pv (.ptr (R_api_Value x2) 0)) (ia_slO R_api_Value a0 .i64 t22 t38 h3 rfl (by kernel_rfl)) (by kernel_rfl) (st 2 [(17, .agg [aI x2.fKind, aI x2.fInt, aF x2.fFloat, aS x2.fText])] [.box [aI x2.fKind, aI x2.fInt, aF x2.fFloat, aS x2.fText] false] (by kernel_rfl) (fin [(4, .ptr 0 0)] rfl (by kernel_rfl) (wp_ret ?_)))
   obtain rfl := Option.some.inj hm
   exact ⟨trivial, by kernel_rfl⟩
theorem ok_row_By {n : Nat} {a0 : (Option (List api_Key))} {a1 : (Option (List api_Value))} {a2 : (Option (List api_Value))} {r : Int} (hm : row_By n a0 a1 a2 = some r) :
    call G n 14 [.pv (encSl R_api_Key a0), .pv (encSl R_api_Value a1), .pv (encSl R_api_Value a2)] [] = some (.ret (aI r), []) := by
  unfold row_By at hm
  obtain ⟨n, rfl, h0⟩ := at1_some hm
  replace hm := h0; clear h0
  refine callL 33 [(0, .pv (encSl R_api_Key a0)), (1, .pv (encSl R_api_Value a1)), (2, .pv (encSl R_api_Value a2))] func14 rfl (by kernel_rfl) (sq (detn [(0, .pv (encSl R_api_Key a0)), (1, .pv (encSl R_api_Value a1)), (2, .pv (encSl R_api_Value a2))] (by kernel_rfl) ?_))
  obtain ⟨k3, hk3, hm⟩ := withK_some hm
  refine mid (fun t H => (∃ (y1 : Int) (y2 : Bool), k3 () = some r ∧ t = mk 33 [(1, .pv (encSl R_api_Value a1)), (2, .pv (encSl R_api_Value a2)), (10, .pv (encSl R_api_Key a0)), (11, aI ((sll a0).length : Int)), (12, aI y1), (13, aB y2)] ∧ H = [])) ?_ ?_
  ·
   rintro _ _ ⟨y1, y2, hm, rfl, rfl⟩
   subst hk3
   refine sq (detn [(6, aI 0)] (by kernel_rfl) (wp_ret ?_))
   obtain rfl := Option.some.inj hm
   exact ⟨trivial, by kernel_rfl⟩
  refine sq (rg (sh 1 [(10, .pv (encSl R_api_Key a0))] (by kernel_rfl) (dv 11 (v := aI ((sll a0).length : Int)) (len_slO R_api_Key a0 t23 (by kernel_rfl)) (by kernel_rfl) (sh 1 [(12, aI 0)] (by kernel_rfl) (fin [(1, .pv (encSl R_api_Value a1)), (2, .pv (encSl R_api_Value a2)), (10, .pv (encSl R_api_Key a0)), (11, aI ((sll a0).length : Int)), (12, aI 0)] rfl (by kernel_rfl) (bq ?_))))))
  refine loopF (fun mm t H => (∃ (y5 : Int), row_By_l2 n a0 a1 a2 k3 mm y5 = some r ∧ t = mk 33 [(1, .pv (encSl R_api_Value a1)), (2, .pv (encSl R_api_Value a2)), (10, .pv (encSl R_api_Key a0)), (11, aI ((sll a0).length : Int)), (12, aI y5)] ∧ H = [])) (⟨0, hm, rfl, rfl⟩) ?_ ?_
  · rintro _ _ ⟨y5, hm, _⟩; exact nomatch hm
  rintro m6 _ _ ⟨y5, hm, rfl, rfl⟩
  simp only [row_By_l2] at hm
  refine sq (detn [(1, .pv (encSl R_api_Value a1)), (2, .pv (encSl R_api_Value a2)), (10, .pv (encSl R_api_Key a0)), (11, aI ((sll a0).length : Int)), (12, aI y5), (13, aB (decide (y5 < ((sll a0).length : Int))))] (by kernel_rfl) ?_)
  refine sq ?_
  rcases bif_some hm with ⟨h7, hm⟩ | ⟨h7, hm⟩
  ·
   refine ct h7 (by kernel_rfl) (wp_skip (sq (bq (sq (rg ?_)))))
   obtain ⟨x8, h9, hm⟩ := bs hm
   refine dv 14 (v := .pv (.ptr (R_api_Key x8) 0)) (ia_slO R_api_Key a0 .i64 t23 t54 h9 rfl (by kernel_rfl)) (by kernel_rfl) (st 3 [(8, .ptr 0 0), (15, .agg [aI x8.fOut, aB x8.fDesc])] [.box [aI x8.fOut, aB x8.fDesc] false] (by kernel_rfl) (fin [(1, .pv (encSl R_api_Value a1)), (2, .pv (encSl R_api_Value a2)), (8, .ptr 0 0), (10, .pv (encSl R_api_Key a0)), (11, aI ((sll a0).length : Int)), (12, aI y5)] rfl (by kernel_rfl) (sq (rgd (shd 3 [(18, aI x8.fOut), (17, .ptr 0 0), (16, .pv (encSl R_api_Value a1))] (by kernel_rfl) ?_)))))
   obtain ⟨x10, h11, hm⟩ := bs hm
   refine dvd 19 (cpure (by kernel_rfl) (ok_row_at h11) (by kernel_rfl) (by kernel_rfl) (by kernel_rfl)) (by kernel_rfl) (shd 3 [(22, aI x8.fOut), (21, .ptr 0 0), (20, .pv (encSl R_api_Value a2))] (by kernel_rfl) ?_)
   obtain ⟨x12, h13, hm⟩ := bs hm
   refine dvd 23 (cpure (by kernel_rfl) (ok_row_at h13) (by kernel_rfl) (by kernel_rfl) (by kernel_rfl)) (by kernel_rfl) ?_
   obtain ⟨x14, h15, hm⟩ := bs hm
   refine dvd 24 (cpure (by kernel_rfl) (ok_value_Cmp h15) (by kernel_rfl) (by kernel_rfl) (by kernel_rfl)) (by kernel_rfl) (shd 1 [(9, aI x14)] (by kernel_rfl) (find [(1, .pv (encSl R_api_Value a1)), (2, .pv (encSl R_api_Value a2)), (8, .ptr 0 0), (9, aI x14), (10, .pv (encSl R_api_Key a0)), (11, aI ((sll a0).length : Int)), (12, aI y5)] rfl (by kernel_rfl) (by kernel_rfl) (sq (sq (detn [(1, .pv (encSl R_api_Value a1)), (2, .pv (encSl R_api_Value a2)), (9, aI x14), (10, .pv (encSl R_api_Key a0)), (11, aI ((sll a0).length : Int)), (12, aI y5), (26, aB x8.fDesc)] (by kernel_rfl) ?_)))))
   rcases bif_some hm with ⟨h16, hm⟩ | ⟨h16, hm⟩
   ·
    refine ct h16 (by kernel_rfl) (detn [(1, .pv (encSl R_api_Value a1)), (2, .pv (encSl R_api_Value a2)), (9, aI (IntKind.wrap .i64 (0 - x14))), (10, .pv (encSl R_api_Key a0)), (11, aI ((sll a0).length : Int)), (12, aI y5)] (by kernel_rfl) (sq (detn [(1, .pv (encSl R_api_Value a1)), (2, .pv (encSl R_api_Value a2)), (9, aI (IntKind.wrap .i64 (0 - x14))), (10, .pv (encSl R_api_Key a0)), (11, aI ((sll a0).length : Int)), (12, aI y5), (30, aB ((IntKind.wrap .i64 (0 - x14)) != 0))] (by kernel_rfl) ?_)))
    rcases bif_some hm with ⟨h17, hm⟩ | ⟨h17, hm⟩
    ·
     refine ct h17 (by kernel_rfl) (sq (detn [(6, aI (IntKind.wrap .i64 (0 - x14)))] (by kernel_rfl) (wp_ret ?_)))
     obtain rfl := Option.some.inj hm
     exact ⟨trivial, by kernel_rfl⟩
    ·
     refine cf h17 (by kernel_rfl) (wp_skip (detn [(1, .pv (encSl R_api_Value a1)), (2, .pv (encSl R_api_Value a2)), (10, .pv (encSl R_api_Key a0)), (11, aI ((sll a0).length : Int)), (12, aI (IntKind.wrap .i64 (y5 + 1)))] (by kernel_rfl) ?_))
     exact ⟨_, _, tidyL [(1, .pv (encSl R_api_Value a1)), (2, .pv (encSl R_api_Value a2)), (10, .pv (encSl R_api_Key a0)), (11, aI ((sll a0).length : Int)), (12, aI (IntKind.wrap .i64 (y5 + 1)))] [] (by kernel_rfl), ⟨(IntKind.wrap .i64 (y5 + 1)), hm, rfl, rfl⟩⟩
   ·
    refine cf h16 (by kernel_rfl) (wp_skip (sq (detn [(1, .pv (encSl R_api_Value a1)), (2, .pv (encSl R_api_Value a2)), (9, aI x14), (10, .pv (encSl R_api_Key a0)), (11, aI ((sll a0).length : Int)), (12, aI y5), (30, aB (x14 != 0))] (by kernel_rfl) ?_)))
    rcases bif_some hm with ⟨h18, hm⟩ | ⟨h18, hm⟩
    ·
     refine ct h18 (by kernel_rfl) (sq (detn [(6, aI x14)] (by kernel_rfl) (wp_ret ?_)))
     obtain rfl := Option.some.inj hm
     exact ⟨trivial, by kernel_rfl⟩
    ·
     refine cf h18 (by kernel_rfl) (wp_skip (detn [(1, .pv (encSl R_api_Value a1)), (2, .pv (encSl R_api_Value a2)), (10, .pv (encSl R_api_Key a0)), (11, aI ((sll a0).length : Int)), (12, aI (IntKind.wrap .i64 (y5 + 1)))] (by kernel_rfl) ?_))
     exact ⟨_, _, tidyL [(1, .pv (encSl R_api_Value a1)), (2, .pv (encSl R_api_Value a2)), (10, .pv (encSl R_api_Key a0)), (11, aI ((sll a0).length : Int)), (12, aI (IntKind.wrap .i64 (y5 + 1)))] [] (by kernel_rfl), ⟨(IntKind.wrap .i64 (y5 + 1)), hm, rfl, rfl⟩⟩
  ·
   refine cf h7 (by kernel_rfl) (wp_exit ?_)
   exact ⟨y5, (decide (y5 < ((sll a0).length : Int))), hm, rfl, rfl⟩
theorem ok_ref05_in {n : Nat} {a0 : (Option (List api_Value))} {a1 : Int} {r : api_Value} (hm : ref05_in n a0 a1 = some r) :
    call G n 40 [.pv (encSl R_api_Value a0), aI a1] [] = some (.ret (.agg [aI r.fKind, aI r.fInt, aF r.fFloat, aS r.fText]), []) := by
  unfold ref05_in at hm
  obtain ⟨n, rfl, h0⟩ := at1_some hm
  replace hm := h0; clear h0
  refine callL 18 [(0, .pv (encSl R_api_Value a0)), (1, aI a1)] func40 rfl (by kernel_rfl) (sq (det [(0, .pv (encSl R_api_Value a0)), (1, aI a1), (4, .ptr 0 0)] [.box [aI 0, aI 0, aF 0, aS ByteArray.empty] false] (by kernel_rfl) (sq (sq (rg (sh 3 [(7, aB (decide (a1 < 0))), (6, aB (decide (a1 < 0))), (5, aI a1)] (by kernel_rfl) ?_))))))
  refine seg (decide (a1 < 0)) [7, 6] (fun b => [(12, aB (b || (decide (a1 ≥ ((sll a0).length : Int))))), (11, ifA b (.undef) (aB (decide (a1 ≥ ((sll a0).length : Int))))), (10, ifA b (.undef) (aI ((sll a0).length : Int))), (9, ifA b (.undef) (.pv (encSl R_api_Value a0))), (8, ifA b (.undef) (aI a1))]) 8 (by kernel_rfl) ?_ ?_ ?_
  ·
   intro Q h
   refine sh 5 [(12, aB true), (11, .undef), (10, .undef), (9, .undef), (8, .undef)] (by kernel_rfl) ?_
   exact sameN (by kernel_rfl) (by kernel_rfl) h
  ·
   intro Q h
   refine sh 2 [(9, .pv (encSl R_api_Value a0)), (8, aI a1)] (by kernel_rfl) (dv 10 (v := aI ((sll a0).length : Int)) (len_slO R_api_Value a0 t22 (by kernel_rfl)) (by kernel_rfl) (sh 2 [(12, aB (decide (a1 ≥ ((sll a0).length : Int)))), (11, aB (decide (a1 ≥ ((sll a0).length : Int))))] (by kernel_rfl) ?_))
   exact sameN (by kernel_rfl) (by kernel_rfl) h
  refine fin [(0, .pv (encSl R_api_Value a0)), (1, aI a1), (4, .ptr 0 0), (12, aB ((decide (a1 < 0)) || (decide (a1 ≥ ((sll a0).length : Int)))))] rfl (by kernel_rfl) ?_
  rcases bif_some hm with ⟨h1, hm⟩ | ⟨h1, hm⟩
  ·
   refine ct h1 (by kernel_rfl) (sq (detn [(4, .ptr 0 0)] (by kernel_rfl) (wp_ret ?_)))
   obtain rfl := Option.some.inj hm
   exact ⟨trivial, by kernel_rfl⟩
  ·
   refine cf h1 (by kernel_rfl) (wp_skip (sq (rg (sh 2 [(15, aI a1), (14, .pv (encSl R_api_Value a0))] (by kernel_rfl) ?_))))
   obtain ⟨x2, h3, hm⟩ := bs hm
   refine dv 16 (v := .pv (.ptr (R_api_Value x2) 0)) (ia_slO R_api_Value a0 .i64 t22 t38 h3 rfl (by kernel_rfl)) (by kernel_rfl) (st 2 [(17, .agg [aI x2.fKind, aI x2.fInt, aF x2.fFloat, aS x2.fText])] [.box [aI x2.fKind, aI x2.fInt, aF x2.fFloat, aS x2.fText] false] (by kernel_rfl) (fin [(4, .ptr 0 0)] rfl (by kernel_rfl) (wp_ret ?_)))
   obtain rfl := Option.some.inj hm
   exact ⟨trivial, by kernel_rfl⟩
theorem ok_ref05_By {n : Nat} {a0 : (Option (List api_Key))} {a1 : (Option (List api_Value))} {a2 : (Option (List api_Value))} {r : Int} (hm : ref05_By n a0 a1 a2 = some r) :
    call G n 15 [.pv (encSl R_api_Key a0), .pv (encSl R_api_Value a1), .pv (encSl R_api_Value a2)] [] = some (.ret (aI r), []) := by
  unfold ref05_By at hm
  obtain ⟨n, rfl, h0⟩ := at1_some hm
  replace hm := h0; clear h0
  refine callL 44 [(0, .pv (encSl R_api_Key a0)), (1, .pv (encSl R_api_Value a1)), (2, .pv (encSl R_api_Value a2))] func15 rfl (by kernel_rfl) (sq (detn [(0, .pv (encSl R_api_Key a0)), (1, .pv (encSl R_api_Value a1)), (2, .pv (encSl R_api_Value a2))] (by kernel_rfl) ?_))
  obtain ⟨k3, hk3, hm⟩ := withK_some hm
  refine mid (fun t H => (∃ (y1 : Bool) (y2 : Int), k3 () = some r ∧ t = mk 44 [(0, .pv (encSl R_api_Key a0)), (1, .pv (encSl R_api_Value a1)), (2, .pv (encSl R_api_Value a2)), (7, aI y2), (12, aB y1)] ∧ H = [])) ?_ ?_
  ·
   rintro _ _ ⟨y1, y2, hm, rfl, rfl⟩
   subst hk3
   refine sq (detn [(6, aI 0)] (by kernel_rfl) (wp_ret ?_))
   obtain rfl := Option.some.inj hm
   exact ⟨trivial, by kernel_rfl⟩
  refine sq (detn [(0, .pv (encSl R_api_Key a0)), (1, .pv (encSl R_api_Value a1)), (2, .pv (encSl R_api_Value a2)), (7, aI 0)] (by kernel_rfl) (bq ?_))
  refine loopF (fun mm t H => (∃ (y5 : Int), ref05_By_l2 n a0 a1 a2 k3 mm y5 = some r ∧ t = mk 44 [(0, .pv (encSl R_api_Key a0)), (1, .pv (encSl R_api_Value a1)), (2, .pv (encSl R_api_Value a2)), (7, aI y5)] ∧ H = [])) (⟨0, hm, rfl, rfl⟩) ?_ ?_
  · rintro _ _ ⟨y5, hm, _⟩; exact nomatch hm
  rintro m6 _ _ ⟨y5, hm, rfl, rfl⟩
  simp only [ref05_By_l2] at hm
  refine sq (sq (rg (sh 2 [(10, .pv (encSl R_api_Key a0)), (9, aI y5)] (by kernel_rfl) (dv 11 (v := aI ((sll a0).length : Int)) (len_slO R_api_Key a0 t23 (by kernel_rfl)) (by kernel_rfl) (sh 1 [(12, aB (decide (y5 < ((sll a0).length : Int))))] (by kernel_rfl) (fin [(0, .pv (encSl R_api_Key a0)), (1, .pv (encSl R_api_Value a1)), (2, .pv (encSl R_api_Value a2)), (7, aI y5), (12, aB (decide (y5 < ((sll a0).length : Int))))] rfl (by kernel_rfl) ?_))))))
  rcases bif_some hm with ⟨h7, hm⟩ | ⟨h7, hm⟩
  ·
   refine ct h7 (by kernel_rfl) (wp_skip (sq (bq (sq (rgd (shd 3 [(17, aI y5), (16, .pv (encSl R_api_Key a0)), (15, .pv (encSl R_api_Value a1))] (by kernel_rfl) ?_))))))
   obtain ⟨x8, h9, hm⟩ := bs hm
   refine dvd 18 (v := .pv (.ptr (R_api_Key x8) 0)) (ia_slO R_api_Key a0 .i64 t23 t54 h9 rfl (by kernel_rfl)) (by kernel_rfl) (shd 2 [(20, aI x8.fOut), (19, .pv (.ptr (R_api_Key x8) 0))] (by kernel_rfl) ?_)
   obtain ⟨x10, h11, hm⟩ := bs hm
   refine dvd 21 (cpure (by kernel_rfl) (ok_ref05_in h11) (by kernel_rfl) (by kernel_rfl) (by kernel_rfl)) (by kernel_rfl) (shd 3 [(24, aI y5), (23, .pv (encSl R_api_Key a0)), (22, .pv (encSl R_api_Value a2))] (by kernel_rfl) (dvd 25 (v := .pv (.ptr (R_api_Key x8) 0)) (ia_slO R_api_Key a0 .i64 t23 t54 h9 rfl (by kernel_rfl)) (by kernel_rfl) (shd 2 [(27, aI x8.fOut), (26, .pv (.ptr (R_api_Key x8) 0))] (by kernel_rfl) ?_)))
   obtain ⟨x12, h13, hm⟩ := bs hm
   refine dvd 28 (cpure (by kernel_rfl) (ok_ref05_in h13) (by kernel_rfl) (by kernel_rfl) (by kernel_rfl)) (by kernel_rfl) ?_
   obtain ⟨x14, h15, hm⟩ := bs hm
   refine dvd 29 (cpure (by kernel_rfl) (ok_ref04_Cmp h15) (by kernel_rfl) (by kernel_rfl) (by kernel_rfl)) (by kernel_rfl) (shd 1 [(8, aI x14)] (by kernel_rfl) (find [(0, .pv (encSl R_api_Key a0)), (1, .pv (encSl R_api_Value a1)), (2, .pv (encSl R_api_Value a2)), (7, aI y5), (8, aI x14)] rfl (by kernel_rfl) (by kernel_rfl) (sq (sq (rg (sh 3 [(32, aB (x14 != 0)), (31, aB (x14 != 0)), (30, aI x14)] (by kernel_rfl) ?_))))))
   refine seg (x14 != 0) [32, 31] (fun b => [(38, aB (b && x8.fDesc)), (37, ifA b (aB x8.fDesc) (.undef)), (36, ifA b (.pv (.ptr (R_api_Key x8) 1)) (.undef)), (35, ifA b (.pv (.ptr (R_api_Key x8) 0)) (.undef)), (34, ifA b (aI y5) (.undef)), (33, ifA b (.pv (encSl R_api_Key a0)) (.undef))]) 9 (by kernel_rfl) ?_ ?_ ?_
   ·
    intro Q h
    refine sh 2 [(34, aI y5), (33, .pv (encSl R_api_Key a0))] (by kernel_rfl) (dv 35 (v := .pv (.ptr (R_api_Key x8) 0)) (ia_slO R_api_Key a0 .i64 t23 t54 h9 rfl (by kernel_rfl)) (by kernel_rfl) (sh 3 [(38, aB x8.fDesc), (37, aB x8.fDesc), (36, .pv (.ptr (R_api_Key x8) 1))] (by kernel_rfl) ?_))
    exact sameN (by kernel_rfl) (by kernel_rfl) h
   ·
    intro Q h
    refine sh 6 [(38, aB false), (37, .undef), (36, .undef), (35, .undef), (34, .undef), (33, .undef)] (by kernel_rfl) ?_
    exact sameN (by kernel_rfl) (by kernel_rfl) h
   refine fin [(0, .pv (encSl R_api_Key a0)), (1, .pv (encSl R_api_Value a1)), (2, .pv (encSl R_api_Value a2)), (7, aI y5), (8, aI x14), (38, aB ((x14 != 0) && x8.fDesc))] rfl (by kernel_rfl) ?_
   rcases bif_some hm with ⟨h16, hm⟩ | ⟨h16, hm⟩
   ·
    refine ct h16 (by kernel_rfl) (sq (detn [(6, aI (IntKind.wrap .i64 (0 - x14)))] (by kernel_rfl) (wp_ret ?_)))
    obtain rfl := Option.some.inj hm
    exact ⟨trivial, by kernel_rfl⟩
   ·
    refine cf h16 (by kernel_rfl) (wp_skip (sq (detn [(0, .pv (encSl R_api_Key a0)), (1, .pv (encSl R_api_Value a1)), (2, .pv (encSl R_api_Value a2)), (7, aI y5), (8, aI x14), (42, aB (x14 != 0))] (by kernel_rfl) ?_)))
    rcases bif_some hm with ⟨h17, hm⟩ | ⟨h17, hm⟩
    ·
     refine ct h17 (by kernel_rfl) (sq (detn [(6, aI x14)] (by kernel_rfl) (wp_ret ?_)))
     obtain rfl := Option.some.inj hm
     exact ⟨trivial, by kernel_rfl⟩
    ·
     refine cf h17 (by kernel_rfl) (wp_skip (detn [(0, .pv (encSl R_api_Key a0)), (1, .pv (encSl R_api_Value a1)), (2, .pv (encSl R_api_Value a2)), (7, aI (IntKind.wrap .i64 (y5 + 1)))] (by kernel_rfl) ?_))
     exact ⟨_, _, tidyL [(0, .pv (encSl R_api_Key a0)), (1, .pv (encSl R_api_Value a1)), (2, .pv (encSl R_api_Value a2)), (7, aI (IntKind.wrap .i64 (y5 + 1)))] [] (by kernel_rfl), ⟨(IntKind.wrap .i64 (y5 + 1)), hm, rfl, rfl⟩⟩
  ·
   refine cf h7 (by kernel_rfl) (wp_exit ?_)
   exact ⟨(decide (y5 < ((sll a0).length : Int))), y5, hm, rfl, rfl⟩
theorem ok_value_Number {n : Nat} {a0 : Int} {r : api_Value} (hm : value_Number n a0 = some r) :
    call G n 65 [aI a0] [] = some (.ret (.agg [aI r.fKind, aI r.fInt, aF r.fFloat, aS r.fText]), []) := by
  unfold value_Number at hm
  obtain ⟨n, rfl, h0⟩ := at1_some hm
  replace hm := h0; clear h0
  refine callL 5 [(0, aI a0)] func65 rfl (by kernel_rfl) (sq (det [(0, aI a0), (2, .ptr 0 0)] [.box [aI 0, aI 0, aF 0, aS ByteArray.empty] false] (by kernel_rfl) (sq (det [(2, .ptr 0 0)] [.box [aI 2, aI a0, aF 0, aS ByteArray.empty] false] (by kernel_rfl) (wp_ret ?_)))))
  obtain rfl := Option.some.inj hm
  exact ⟨trivial, by kernel_rfl⟩
theorem ok_law05_one {n : Nat} {a0 : Int} {r : (Option (List api_Value))} (hm : law05_one n a0 = some r) :
    call G n 41 [aI a0] [] = some (.ret (.pv (encSl R_api_Value r)), []) := by
  unfold law05_one at hm
  obtain ⟨n, rfl, h0⟩ := at1_some hm
  replace hm := h0; clear h0
  refine callL 6 [(0, aI a0)] func41 rfl (by kernel_rfl) (sq (detn [(0, aI a0)] (by kernel_rfl) (sq (rg (sh 1 [(3, aI a0)] (by kernel_rfl) ?_)))))
  obtain ⟨x1, h2, hm⟩ := bs hm
  refine dv 4 (cpure (by kernel_rfl) (ok_value_Number h2) (by kernel_rfl) (by kernel_rfl) (by kernel_rfl)) (by kernel_rfl) (st 2 [(2, aR 0 4 1), (5, aR 0 4 1)] [bR 38 4 R_api_Value ([x1] : List api_Value) 0 0] (by kernel_rfl) (fin [(2, aR 0 4 1)] rfl (by kernel_rfl) (wp_ret ?_)))
  obtain rfl := Option.some.inj hm
  exact ret_pure (v := aR 0 4 1) trivial rfl (by kernel_rfl) (by kernel_rfl)
theorem ok_slices_Clone_Value {n : Nat} {a0 : (Option (List api_Value))} {r : (Option (List api_Value))} (hm : slices_Clone_Value n a0 = some r) :
    call G n 45 [.pv (encSl R_api_Value a0)] [] = some (.ret (.pv (encSl R_api_Value r)), []) := by
  unfold slices_Clone_Value at hm
  obtain ⟨n, rfl, h0⟩ := at1_some hm
  replace hm := h0; clear h0
  refine callL 8 [(0, .pv (encSl R_api_Value a0))] func45 rfl (by kernel_rfl) (sq (detn [(0, .pv (encSl R_api_Value a0))] (by kernel_rfl) (sq (sq (rg (sh 1 [(3, .pv (encSl R_api_Value a0))] (by kernel_rfl) (dv 4 (v := aB (a0.isNone)) (nil_eqlO R_api_Value a0 t22 (by kernel_rfl)) (by kernel_rfl) (fin [(0, .pv (encSl R_api_Value a0)), (4, aB (a0.isNone))] rfl (by kernel_rfl) ?_))))))))
  rcases bif_some hm with ⟨h1, hm⟩ | ⟨h1, hm⟩
  ·
   refine ct h1 (by kernel_rfl) (sq (detn [(2, .pv .nils)] (by kernel_rfl) (wp_ret ?_)))
   obtain rfl := Option.some.inj hm
   exact ⟨trivial, by kernel_rfl⟩
  ·
   refine cf h1 (by kernel_rfl) (wp_skip (sq (rg (st 2 [(6, .pv (encSl R_api_Value a0)), (5, aR 0 4 0)] [bR 38 4 R_api_Value ([] : List api_Value) 0 0] (by kernel_rfl) ?_))))
   rcases bif_some hm with ⟨h2, hm⟩ | ⟨h2, hm⟩
   ·
    obtain ⟨_, h3, hm⟩ := bs hm
    refine dv 7 (v := aR 0 4 0) (app_ref0O (u := 0) (n := 0) (id := 0) R_api_Value ([] : List api_Value) (sll a0) (b := 40) t22 t38 rfl rfl rfl h2 h3 rfl (by first | rfl | assumption | omega | (simp only [List.length_set, List.length_append, List.length_cons, List.length_nil, List.length_replicate] at *; omega)) (Nat.zero_le _) (src_sl (R := R_api_Value) (s := a0)) (by kernel_rfl)) (by kernel_rfl) (sh 1 [(2, aR 0 4 0)] (by kernel_rfl) (fin [(2, aR 0 4 0)] rfl (by kernel_rfl) (wp_ret ?_)))
    obtain rfl := Option.some.inj hm
    exact ret_pure (v := aR 0 4 0) trivial rfl (by kernel_rfl) (by kernel_rfl)
   ·
    obtain ⟨_, h4, hm⟩ := bs hm
    refine dO [(7, aR 0 4 ((([] : List api_Value) ++ (sll a0)).length))] [bR 38 4 R_api_Value (([] : List api_Value) ++ (sll a0)) 0 0] (app_refO (u := 0) (n := 0) (id := 0) R_api_Value ([] : List api_Value) (sll a0) (b := 40) t22 t38 rfl rfl rfl (fun _ => rfl) h2 h4 rfl (by first | rfl | assumption | omega | (simp only [List.length_set, List.length_append, List.length_cons, List.length_nil, List.length_replicate] at *; omega)) (Nat.zero_le _) (src_sl (R := R_api_Value) (s := a0)) (by kernel_rfl)) (by kernel_rfl) (sh 1 [(2, aR 0 4 ((([] : List api_Value) ++ (sll a0)).length))] (by kernel_rfl) (fin [(2, aR 0 4 ((([] : List api_Value) ++ (sll a0)).length))] rfl (by kernel_rfl) (wp_ret ?_)))
    obtain rfl := Option.some.inj hm
    exact ret_pure (v := aR 0 4 ((([] : List api_Value) ++ (sll a0)).length)) trivial rfl (by kernel_rfl) (pA_ref (pur_ref' (n := (([] : List api_Value) ++ (sll a0)).length) (id := 0) (l := (([] : List api_Value) ++ (sll a0))) (R := R_api_Value) rfl rfl (Nat.zero_le _)))
theorem ok_slices_insertionSortCmpFunc_Value_row_Sort_1_nil {n : Nat} {a0 : (Option (List api_Key))} {a1 : Int} {a2 : Int} {r : Unit} (hm : slices_insertionSortCmpFunc_Value_row_Sort_1_nil n a0 a1 a2 = some r) :
    ∃ vv H1, call G n 88 [.pv .nils, aI a1, aI a2, .fn 47 [] [.ptr 0 0]] [.box [.pv (encSl R_api_Key a0)] false] = some (.ret vv, H1) ∧ (vv = .tup [] ∧ H1 = [.box [.pv (encSl R_api_Key a0)] false]) := by
  unfold slices_insertionSortCmpFunc_Value_row_Sort_1_nil at hm
  obtain ⟨n, rfl, h0⟩ := at1_some hm
  replace hm := h0; clear h0
  refine callE 53 [(0, .pv .nils), (1, aI a1), (2, aI a2), (3, .fn 47 [] [.ptr 0 0])] func88 rfl (by kernel_rfl) (sq (detn [(0, .pv .nils), (1, aI a1), (2, aI a2), (3, .fn 47 [] [.ptr 0 0]), (8, aI (IntKind.wrap .i64 (a1 + 1)))] (by kernel_rfl) (bq ?_)))
  refine loopF (fun mm t H => (∃ (y2 : Int), slices_insertionSortCmpFunc_Value_row_Sort_1_nil_l1 n a1 a2 mm y2 = some r ∧ t = mk 53 [(0, .pv .nils), (1, aI a1), (2, aI a2), (3, .fn 47 [] [.ptr 0 0]), (8, aI y2)] ∧ H = [.box [.pv (encSl R_api_Key a0)] false])) (⟨(IntKind.wrap .i64 (a1 + 1)), hm, rfl, rfl⟩) ?_ ?_
  · rintro _ _ ⟨y2, hm, _⟩; exact nomatch hm
  rintro m3 _ _ ⟨y2, hm, rfl, rfl⟩
  simp only [slices_insertionSortCmpFunc_Value_row_Sort_1_nil_l1] at hm
  refine sq (sq (detn [(0, .pv .nils), (1, aI a1), (2, aI a2), (3, .fn 47 [] [.ptr 0 0]), (8, aI y2), (14, aB (decide (y2 < a2)))] (by kernel_rfl) ?_))
  rcases bif_some hm with ⟨h4, hm⟩ | ⟨h4, hm⟩
  ·
   refine ct h4 (by kernel_rfl) (wp_skip ?_)
   obtain ⟨k5, hk5, hm⟩ := withK_some hm
   refine mid (fun t H => (k5 () = some r ∧ t = mk 53 [(0, .pv .nils), (1, aI a1), (2, aI a2), (3, .fn 47 [] [.ptr 0 0]), (8, aI y2), (9, aI y2), (34, aB false)] ∧ H = [.box [.pv (encSl R_api_Key a0)] false])) ?_ ?_
   ·
    rintro _ _ ⟨hm, rfl, rfl⟩
    subst hk5
    refine detn [(0, .pv .nils), (1, aI a1), (2, aI a2), (3, .fn 47 [] [.ptr 0 0]), (8, aI (IntKind.wrap .i64 (y2 + 1)))] (by kernel_rfl) ?_
    exact ⟨_, _, tidyL [(0, .pv .nils), (1, aI a1), (2, aI a2), (3, .fn 47 [] [.ptr 0 0]), (8, aI (IntKind.wrap .i64 (y2 + 1)))] [.box [.pv (encSl R_api_Key a0)] false] (by kernel_rfl), ⟨(IntKind.wrap .i64 (y2 + 1)), hm, rfl, rfl⟩⟩
   refine bq (sq (detn [(0, .pv .nils), (1, aI a1), (2, aI a2), (3, .fn 47 [] [.ptr 0 0]), (8, aI y2), (9, aI y2)] (by kernel_rfl) (bq ?_)))
   refine loopF (fun mm t H => (slices_insertionSortCmpFunc_Value_row_Sort_1_nil_l4 n a1 y2 k5 mm = some r ∧ t = mk 53 [(0, .pv .nils), (1, aI a1), (2, aI a2), (3, .fn 47 [] [.ptr 0 0]), (8, aI y2), (9, aI y2)] ∧ H = [.box [.pv (encSl R_api_Key a0)] false])) (⟨hm, rfl, rfl⟩) ?_ ?_
   · rintro _ _ ⟨hm, _⟩; exact nomatch hm
   rintro m6 _ _ ⟨hm, rfl, rfl⟩
   simp only [slices_insertionSortCmpFunc_Value_row_Sort_1_nil_l4] at hm
   refine sq (sq (rgd (shd 4 [(21, aB (decide (y2 > a1))), (20, aB (decide (y2 > a1))), (19, aI a1), (18, aI y2)] (by kernel_rfl) ?_)))
   rcases bif_some hm with ⟨h7, hm⟩ | ⟨h7, hm⟩
   ·
    refine knownd [21, 20] h7 (by kernel_rfl) (shd 3 [(24, aI y2), (23, .pv .nils), (22, .fn 47 [] [.ptr 0 0])] (by kernel_rfl) ?_)
    cases hm
   ·
    refine knownd [21, 20] h7 (by kernel_rfl) (shd 13 [(34, aB false), (33, .undef), (32, .undef), (31, .undef), (30, .undef), (29, .undef), (28, .undef), (27, .undef), (26, .undef), (25, .undef), (24, .undef), (23, .undef), (22, .undef)] (by kernel_rfl) (find [(0, .pv .nils), (1, aI a1), (2, aI a2), (3, .fn 47 [] [.ptr 0 0]), (8, aI y2), (9, aI y2), (34, aB false)] rfl (by kernel_rfl) (by kernel_rfl) (cF (by kernel_rfl) (wp_exit ?_))))
    exact ⟨hm, rfl, rfl⟩
  ·
   refine cf h4 (by kernel_rfl) (wp_exit ?_)
   obtain rfl := Option.some.inj hm
   exact ⟨trivial, .tup [], [.box [.pv (encSl R_api_Key a0)] false], by kernel_rfl, rfl, rfl⟩
theorem ok_slices_swapRangeCmpFunc_Value_row_Sort_1_nil {n : Nat} {a0 : (Option (List api_Key))} {a1 : Int} {a2 : Int} {a3 : Int} {r : Unit} (hm : slices_swapRangeCmpFunc_Value_row_Sort_1_nil n a0 a1 a2 a3 = some r) :
    ∃ vv H1, call G n 109 [.pv .nils, aI a1, aI a2, aI a3, .fn 47 [] [.ptr 0 0]] [.box [.pv (encSl R_api_Key a0)] false] = some (.ret vv, H1) ∧ (vv = .tup [] ∧ H1 = [.box [.pv (encSl R_api_Key a0)] false]) := by
  unfold slices_swapRangeCmpFunc_Value_row_Sort_1_nil at hm
  obtain ⟨n, rfl, h0⟩ := at1_some hm
  replace hm := h0; clear h0
  refine callE 38 [(0, .pv .nils), (1, aI a1), (2, aI a2), (3, aI a3), (4, .fn 47 [] [.ptr 0 0])] func109 rfl (by kernel_rfl) (sq (detn [(0, .pv .nils), (1, aI a1), (2, aI a2), (3, aI a3), (10, aI 0)] (by kernel_rfl) (bq ?_)))
  refine loopF (fun mm t H => (slices_swapRangeCmpFunc_Value_row_Sort_1_nil_l1 n a3 mm = some r ∧ t = mk 38 [(0, .pv .nils), (1, aI a1), (2, aI a2), (3, aI a3), (10, aI 0)] ∧ H = [.box [.pv (encSl R_api_Key a0)] false])) (⟨hm, rfl, rfl⟩) ?_ ?_
  · rintro _ _ ⟨hm, _⟩; exact nomatch hm
  rintro m1 _ _ ⟨hm, rfl, rfl⟩
  simp only [slices_swapRangeCmpFunc_Value_row_Sort_1_nil_l1] at hm
  refine sq (sq (detn [(0, .pv .nils), (1, aI a1), (2, aI a2), (3, aI a3), (10, aI 0), (13, aB (decide ((0 : Int) < a3)))] (by kernel_rfl) ?_))
  rcases bif_some hm with ⟨h2, hm⟩ | ⟨h2, hm⟩
  ·
   refine ct h2 (by kernel_rfl) (wp_skip (sq (bq (rgd (shd 12 [(27, aI (IntKind.wrap .i64 (a2 + 0))), (26, aI 0), (25, aI a2), (24, .pv .nils), (23, aI (IntKind.wrap .i64 (a2 + 0))), (22, aI 0), (21, aI a2), (20, .pv .nils), (19, aI (IntKind.wrap .i64 (a1 + 0))), (18, aI 0), (17, aI a1), (16, .pv .nils)] (by kernel_rfl) ?_)))))
   cases hm
  ·
   refine cf h2 (by kernel_rfl) (wp_exit ?_)
   obtain rfl := Option.some.inj hm
   exact ⟨trivial, .tup [], [.box [.pv (encSl R_api_Key a0)] false], by kernel_rfl, rfl, rfl⟩
theorem ok_slices_rotateCmpFunc_Value_row_Sort_1_nil {n : Nat} {a0 : (Option (List api_Key))} {a1 : Int} {a2 : Int} {a3 : Int} {r : Unit} (hm : slices_rotateCmpFunc_Value_row_Sort_1_nil n a0 a1 a2 a3 = some r) :
    ∃ vv H1, call G n 103 [.pv .nils, aI a1, aI a2, aI a3, .fn 47 [] [.ptr 0 0]] [.box [.pv (encSl R_api_Key a0)] false] = some (.ret vv, H1) ∧ (vv = .tup [] ∧ H1 = [.box [.pv (encSl R_api_Key a0)] false]) := by
  unfold slices_rotateCmpFunc_Value_row_Sort_1_nil at hm
  obtain ⟨n, rfl, h0⟩ := at1_some hm
  replace hm := h0; clear h0
  refine callE 58 [(0, .pv .nils), (1, aI a1), (2, aI a2), (3, aI a3), (4, .fn 47 [] [.ptr 0 0])] func103 rfl (by kernel_rfl) (sq (detn [(0, .pv .nils), (2, aI a2), (3, aI a3), (4, .fn 47 [] [.ptr 0 0]), (10, aI (IntKind.wrap .i64 (a2 - a1)))] (by kernel_rfl) (sq (detn [(0, .pv .nils), (2, aI a2), (4, .fn 47 [] [.ptr 0 0]), (10, aI (IntKind.wrap .i64 (a2 - a1))), (11, aI (IntKind.wrap .i64 (a3 - a2)))] (by kernel_rfl) ?_))))
  obtain ⟨k4, hk4, hm⟩ := withK_some hm
  refine mid (fun t H => (∃ (y1 : Int) (y2 : Int) (y3 : Bool), k4 y1 = some r ∧ t = mk 58 [(0, .pv .nils), (2, aI a2), (4, .fn 47 [] [.ptr 0 0]), (10, aI y1), (11, aI y2), (20, aB y3)] ∧ H = [.box [.pv (encSl R_api_Key a0)] false])) ?_ ?_
  ·
   rintro _ _ ⟨y1, y2, y3, hm, rfl, rfl⟩
   subst hk4
   refine rg (sh 7 [(56, .fn 47 [] [.ptr 0 0]), (55, aI y1), (54, aI a2), (53, aI (IntKind.wrap .i64 (a2 - y1))), (52, aI y1), (51, aI a2), (50, .pv .nils)] (by kernel_rfl) ?_)
   obtain ⟨_, h5, hm⟩ := bs hm
   obtain ⟨vv, H1, hC, rfl, rfl⟩ := ok_slices_swapRangeCmpFunc_Value_row_Sort_1_nil h5
   refine dR [(57, .tup [])] [.box [.pv (encSl R_api_Key a0)] false] [0] [.pv .nils, aI (IntKind.wrap .i64 (a2 - y1)), aI a2, aI y1, .fn 47 [] [.ptr 0 0]] (by kernel_rfl) (by kernel_rfl) (by kernel_rfl) hC (by kernel_rfl) (fin [] rfl (by kernel_rfl) ?_)
   obtain rfl := Option.some.inj hm
   exact ⟨trivial, .tup [], [.box [.pv (encSl R_api_Key a0)] false], by kernel_rfl, rfl, rfl⟩
  refine bq ?_
  refine loopF (fun mm t H => (∃ (y8 : Int) (y9 : Int), slices_rotateCmpFunc_Value_row_Sort_1_nil_l2 n a0 a2 k4 mm y8 y9 = some r ∧ t = mk 58 [(0, .pv .nils), (2, aI a2), (4, .fn 47 [] [.ptr 0 0]), (10, aI y8), (11, aI y9)] ∧ H = [.box [.pv (encSl R_api_Key a0)] false])) (⟨(IntKind.wrap .i64 (a2 - a1)), (IntKind.wrap .i64 (a3 - a2)), hm, rfl, rfl⟩) ?_ ?_
  · rintro _ _ ⟨y8, y9, hm, _⟩; exact nomatch hm
  rintro m10 _ _ ⟨y8, y9, hm, rfl, rfl⟩
  simp only [slices_rotateCmpFunc_Value_row_Sort_1_nil_l2] at hm
  refine sq (sq (detn [(0, .pv .nils), (2, aI a2), (4, .fn 47 [] [.ptr 0 0]), (10, aI y8), (11, aI y9), (20, aB (y8 != y9))] (by kernel_rfl) ?_))
  rcases bif_some hm with ⟨h11, hm⟩ | ⟨h11, hm⟩
  ·
   refine ct h11 (by kernel_rfl) (wp_skip (bq (sq (detn [(0, .pv .nils), (2, aI a2), (4, .fn 47 [] [.ptr 0 0]), (10, aI y8), (11, aI y9), (23, aB (decide (y8 > y9)))] (by kernel_rfl) ?_))))
   rcases bif_some hm with ⟨h12, hm⟩ | ⟨h12, hm⟩
   ·
    refine ct h12 (by kernel_rfl) (sq (rg (sh 7 [(30, .fn 47 [] [.ptr 0 0]), (29, aI y9), (28, aI a2), (27, aI (IntKind.wrap .i64 (a2 - y8))), (26, aI y8), (25, aI a2), (24, .pv .nils)] (by kernel_rfl) ?_)))
    obtain ⟨_, h13, hm⟩ := bs hm
    obtain ⟨vv, H1, hC, rfl, rfl⟩ := ok_slices_swapRangeCmpFunc_Value_row_Sort_1_nil h13
    refine dR [(31, .tup [])] [.box [.pv (encSl R_api_Key a0)] false] [0] [.pv .nils, aI (IntKind.wrap .i64 (a2 - y8)), aI a2, aI y9, .fn 47 [] [.ptr 0 0]] (by kernel_rfl) (by kernel_rfl) (by kernel_rfl) hC (by kernel_rfl) (fin [(0, .pv .nils), (2, aI a2), (4, .fn 47 [] [.ptr 0 0]), (10, aI y8), (11, aI y9)] rfl (by kernel_rfl) (detn [(0, .pv .nils), (2, aI a2), (4, .fn 47 [] [.ptr 0 0]), (10, aI (IntKind.wrap .i64 (y8 - y9))), (11, aI y9)] (by kernel_rfl) ?_))
    exact ⟨_, _, tidyL [(0, .pv .nils), (2, aI a2), (4, .fn 47 [] [.ptr 0 0]), (10, aI (IntKind.wrap .i64 (y8 - y9))), (11, aI y9)] [.box [.pv (encSl R_api_Key a0)] false] (by kernel_rfl), ⟨(IntKind.wrap .i64 (y8 - y9)), y9, hm, rfl, rfl⟩⟩
   ·
    refine cf h12 (by kernel_rfl) (sq (rg (sh 11 [(45, .fn 47 [] [.ptr 0 0]), (44, aI y8), (43, aI (IntKind.wrap .i64 ((IntKind.wrap .i64 (a2 + y9)) - y8))), (42, aI y8), (41, aI (IntKind.wrap .i64 (a2 + y9))), (40, aI y9), (39, aI a2), (38, aI (IntKind.wrap .i64 (a2 - y8))), (37, aI y8), (36, aI a2), (35, .pv .nils)] (by kernel_rfl) ?_)))
    obtain ⟨_, h14, hm⟩ := bs hm
    obtain ⟨vv, H1, hC, rfl, rfl⟩ := ok_slices_swapRangeCmpFunc_Value_row_Sort_1_nil h14
    refine dR [(46, .tup [])] [.box [.pv (encSl R_api_Key a0)] false] [0] [.pv .nils, aI (IntKind.wrap .i64 (a2 - y8)), aI (IntKind.wrap .i64 ((IntKind.wrap .i64 (a2 + y9)) - y8)), aI y8, .fn 47 [] [.ptr 0 0]] (by kernel_rfl) (by kernel_rfl) (by kernel_rfl) hC (by kernel_rfl) (fin [(0, .pv .nils), (2, aI a2), (4, .fn 47 [] [.ptr 0 0]), (10, aI y8), (11, aI y9)] rfl (by kernel_rfl) (detn [(0, .pv .nils), (2, aI a2), (4, .fn 47 [] [.ptr 0 0]), (10, aI y8), (11, aI (IntKind.wrap .i64 (y9 - y8)))] (by kernel_rfl) ?_))
    exact ⟨_, _, tidyL [(0, .pv .nils), (2, aI a2), (4, .fn 47 [] [.ptr 0 0]), (10, aI y8), (11, aI (IntKind.wrap .i64 (y9 - y8)))] [.box [.pv (encSl R_api_Key a0)] false] (by kernel_rfl), ⟨y8, (IntKind.wrap .i64 (y9 - y8)), hm, rfl, rfl⟩⟩
  ·
   refine cf h11 (by kernel_rfl) (wp_exit ?_)
   exact ⟨y8, y9, (y8 != y9), hm, rfl, rfl⟩
theorem okf_slices_symMergeCmpFunc_Value_row_Sort_1_nil {rc_slices_symMergeCmpFunc_Value_row_Sort_1_nil : (Nat → (Option (List api_Key)) → Int → Int → Int → Option (Unit))} (ih_slices_symMergeCmpFunc_Value_row_Sort_1_nil : ∀ {n : Nat} {a0 : (Option (List api_Key))} {a1 : Int} {a2 : Int} {a3 : Int} {r : Unit} (hm : rc_slices_symMergeCmpFunc_Value_row_Sort_1_nil n a0 a1 a2 a3 = some r), ∃ vv H1, call G n 89 [.pv .nils, aI a1, aI a2, aI a3, .fn 47 [] [.ptr 0 0]] [.box [.pv (encSl R_api_Key a0)] false] = some (.ret vv, H1) ∧ (vv = .tup [] ∧ H1 = [.box [.pv (encSl R_api_Key a0)] false])) {n : Nat} {a0 : (Option (List api_Key))} {a1 : Int} {a2 : Int} {a3 : Int} {r : Unit} (hm : slices_symMergeCmpFunc_Value_row_Sort_1_nil_f rc_slices_symMergeCmpFunc_Value_row_Sort_1_nil n a0 a1 a2 a3 = some r) :
    ∃ vv H1, call G n 89 [.pv .nils, aI a1, aI a2, aI a3, .fn 47 [] [.ptr 0 0]] [.box [.pv (encSl R_api_Key a0)] false] = some (.ret vv, H1) ∧ (vv = .tup [] ∧ H1 = [.box [.pv (encSl R_api_Key a0)] false]) := by
  unfold slices_symMergeCmpFunc_Value_row_Sort_1_nil_f at hm
  obtain ⟨n, rfl, h0⟩ := at1_some hm
  replace hm := h0; clear h0
  refine callE 220 [(0, .pv .nils), (1, aI a1), (2, aI a2), (3, aI a3), (4, .fn 47 [] [.ptr 0 0])] func89 rfl (by kernel_rfl) ?_
  obtain ⟨k1, hk1, hm⟩ := withK_some hm
  refine mid (fun t H => (k1 () = some r ∧ t = mk 220 [(0, .pv .nils), (1, aI a1), (2, aI a2), (3, aI a3), (4, .fn 47 [] [.ptr 0 0]), (28, aB ((IntKind.wrap .i64 (a2 - a1)) == 1))] ∧ H = [.box [.pv (encSl R_api_Key a0)] false])) ?_ ?_
  ·
   rintro _ _ ⟨hm, rfl, rfl⟩
   subst hk1
   obtain ⟨k2, hk2, hm⟩ := withK_some hm
   refine mid (fun t H => (k2 () = some r ∧ t = mk 220 [(0, .pv .nils), (1, aI a1), (2, aI a2), (3, aI a3), (4, .fn 47 [] [.ptr 0 0]), (80, aB ((IntKind.wrap .i64 (a3 - a2)) == 1))] ∧ H = [.box [.pv (encSl R_api_Key a0)] false])) ?_ ?_
   ·
    rintro _ _ ⟨hm, rfl, rfl⟩
    subst hk2
    refine sq (detn [(0, .pv .nils), (1, aI a1), (2, aI a2), (3, aI a3), (4, .fn 47 [] [.ptr 0 0]), (18, aI (IntKind.wrap .i64 (iShr .u64 (IntKind.wrap .u64 (IntKind.wrap .i64 (a1 + a3))) 1)))] (by kernel_rfl) (sq (detn [(0, .pv .nils), (1, aI a1), (2, aI a2), (3, aI a3), (4, .fn 47 [] [.ptr 0 0]), (18, aI (IntKind.wrap .i64 (iShr .u64 (IntKind.wrap .u64 (IntKind.wrap .i64 (a1 + a3))) 1))), (19, aI (IntKind.wrap .i64 ((IntKind.wrap .i64 (iShr .u64 (IntKind.wrap .u64 (IntKind.wrap .i64 (a1 + a3))) 1)) + a2)))] (by kernel_rfl) (sq (detn [(0, .pv .nils), (1, aI a1), (2, aI a2), (3, aI a3), (4, .fn 47 [] [.ptr 0 0]), (18, aI (IntKind.wrap .i64 (iShr .u64 (IntKind.wrap .u64 (IntKind.wrap .i64 (a1 + a3))) 1))), (19, aI (IntKind.wrap .i64 ((IntKind.wrap .i64 (iShr .u64 (IntKind.wrap .u64 (IntKind.wrap .i64 (a1 + a3))) 1)) + a2)))] (by kernel_rfl) ?_)))))
    obtain ⟨k5, hk5, hm⟩ := withK_some hm
    refine mid (fun t H => (∃ (y3 : Int) (y4 : Int), k5 y3 y4 = some r ∧ t = mk 220 [(0, .pv .nils), (1, aI a1), (2, aI a2), (3, aI a3), (4, .fn 47 [] [.ptr 0 0]), (18, aI (IntKind.wrap .i64 (iShr .u64 (IntKind.wrap .u64 (IntKind.wrap .i64 (a1 + a3))) 1))), (19, aI (IntKind.wrap .i64 ((IntKind.wrap .i64 (iShr .u64 (IntKind.wrap .u64 (IntKind.wrap .i64 (a1 + a3))) 1)) + a2))), (20, aI y3), (21, aI y4)] ∧ H = [.box [.pv (encSl R_api_Key a0)] false])) ?_ ?_
    ·
     rintro _ _ ⟨y3, y4, hm, rfl, rfl⟩
     subst hk5
     refine sq (detn [(0, .pv .nils), (1, aI a1), (2, aI a2), (3, aI a3), (4, .fn 47 [] [.ptr 0 0]), (18, aI (IntKind.wrap .i64 (iShr .u64 (IntKind.wrap .u64 (IntKind.wrap .i64 (a1 + a3))) 1))), (19, aI (IntKind.wrap .i64 ((IntKind.wrap .i64 (iShr .u64 (IntKind.wrap .u64 (IntKind.wrap .i64 (a1 + a3))) 1)) + a2))), (20, aI y3), (21, aI y4), (22, aI (IntKind.wrap .i64 ((IntKind.wrap .i64 ((IntKind.wrap .i64 (iShr .u64 (IntKind.wrap .u64 (IntKind.wrap .i64 (a1 + a3))) 1)) + a2)) - 1)))] (by kernel_rfl) ?_)
     obtain ⟨k6, hk6, hm⟩ := withK_some hm
     refine mid (fun t H => (k6 () = some r ∧ t = mk 220 [(0, .pv .nils), (1, aI a1), (2, aI a2), (3, aI a3), (4, .fn 47 [] [.ptr 0 0]), (18, aI (IntKind.wrap .i64 (iShr .u64 (IntKind.wrap .u64 (IntKind.wrap .i64 (a1 + a3))) 1))), (19, aI (IntKind.wrap .i64 ((IntKind.wrap .i64 (iShr .u64 (IntKind.wrap .u64 (IntKind.wrap .i64 (a1 + a3))) 1)) + a2))), (20, aI y3), (21, aI y4), (22, aI (IntKind.wrap .i64 ((IntKind.wrap .i64 ((IntKind.wrap .i64 (iShr .u64 (IntKind.wrap .u64 (IntKind.wrap .i64 (a1 + a3))) 1)) + a2)) - 1))), (151, aB (decide (y3 < y4)))] ∧ H = [.box [.pv (encSl R_api_Key a0)] false])) ?_ ?_
     ·
      rintro _ _ ⟨hm, rfl, rfl⟩
      subst hk6
      refine sq (detn [(0, .pv .nils), (1, aI a1), (2, aI a2), (3, aI a3), (4, .fn 47 [] [.ptr 0 0]), (18, aI (IntKind.wrap .i64 (iShr .u64 (IntKind.wrap .u64 (IntKind.wrap .i64 (a1 + a3))) 1))), (20, aI y3), (24, aI (IntKind.wrap .i64 ((IntKind.wrap .i64 ((IntKind.wrap .i64 (iShr .u64 (IntKind.wrap .u64 (IntKind.wrap .i64 (a1 + a3))) 1)) + a2)) - y3)))] (by kernel_rfl) ?_)
      obtain ⟨k9, hk9, hm⟩ := withK_some hm
      refine mid (fun t H => (∃ (w7 : AV) (w8 : AV), k9 () = some r ∧ t = mk 220 [(0, .pv .nils), (1, aI a1), (2, w7), (3, aI a3), (4, .fn 47 [] [.ptr 0 0]), (18, aI (IntKind.wrap .i64 (iShr .u64 (IntKind.wrap .u64 (IntKind.wrap .i64 (a1 + a3))) 1))), (20, aI y3), (24, aI (IntKind.wrap .i64 ((IntKind.wrap .i64 ((IntKind.wrap .i64 (iShr .u64 (IntKind.wrap .u64 (IntKind.wrap .i64 (a1 + a3))) 1)) + a2)) - y3))), (185, w8)] ∧ H = [.box [.pv (encSl R_api_Key a0)] false])) ?_ ?_
      ·
       rintro _ _ ⟨w7, w8, hm, rfl, rfl⟩
       subst hk9
       obtain ⟨k13, hk13, hm⟩ := withK_some hm
       refine mid (fun t H => (∃ (w10 : AV) (w11 : AV) (w12 : AV), k13 () = some r ∧ t = mk 220 [(0, .pv .nils), (1, w10), (3, aI a3), (4, .fn 47 [] [.ptr 0 0]), (18, aI (IntKind.wrap .i64 (iShr .u64 (IntKind.wrap .u64 (IntKind.wrap .i64 (a1 + a3))) 1))), (20, w11), (24, aI (IntKind.wrap .i64 ((IntKind.wrap .i64 ((IntKind.wrap .i64 (iShr .u64 (IntKind.wrap .u64 (IntKind.wrap .i64 (a1 + a3))) 1)) + a2)) - y3))), (199, w12)] ∧ H = [.box [.pv (encSl R_api_Key a0)] false])) ?_ ?_
       ·
        rintro _ _ ⟨w10, w11, w12, hm, rfl, rfl⟩
        subst hk13
        refine sq (rg (sh 4 [(209, aB (decide ((IntKind.wrap .i64 (iShr .u64 (IntKind.wrap .u64 (IntKind.wrap .i64 (a1 + a3))) 1)) < (IntKind.wrap .i64 ((IntKind.wrap .i64 ((IntKind.wrap .i64 (iShr .u64 (IntKind.wrap .u64 (IntKind.wrap .i64 (a1 + a3))) 1)) + a2)) - y3))))), (208, aB (decide ((IntKind.wrap .i64 (iShr .u64 (IntKind.wrap .u64 (IntKind.wrap .i64 (a1 + a3))) 1)) < (IntKind.wrap .i64 ((IntKind.wrap .i64 ((IntKind.wrap .i64 (iShr .u64 (IntKind.wrap .u64 (IntKind.wrap .i64 (a1 + a3))) 1)) + a2)) - y3))))), (207, aI (IntKind.wrap .i64 ((IntKind.wrap .i64 ((IntKind.wrap .i64 (iShr .u64 (IntKind.wrap .u64 (IntKind.wrap .i64 (a1 + a3))) 1)) + a2)) - y3))), (206, aI (IntKind.wrap .i64 (iShr .u64 (IntKind.wrap .u64 (IntKind.wrap .i64 (a1 + a3))) 1)))] (by kernel_rfl) ?_))
        refine seg (decide ((IntKind.wrap .i64 (iShr .u64 (IntKind.wrap .u64 (IntKind.wrap .i64 (a1 + a3))) 1)) < (IntKind.wrap .i64 ((IntKind.wrap .i64 ((IntKind.wrap .i64 (iShr .u64 (IntKind.wrap .u64 (IntKind.wrap .i64 (a1 + a3))) 1)) + a2)) - y3)))) [209, 208] (fun b => [(213, aB (b && (decide ((IntKind.wrap .i64 ((IntKind.wrap .i64 ((IntKind.wrap .i64 (iShr .u64 (IntKind.wrap .u64 (IntKind.wrap .i64 (a1 + a3))) 1)) + a2)) - y3)) < a3)))), (212, ifA b (aB (decide ((IntKind.wrap .i64 ((IntKind.wrap .i64 ((IntKind.wrap .i64 (iShr .u64 (IntKind.wrap .u64 (IntKind.wrap .i64 (a1 + a3))) 1)) + a2)) - y3)) < a3))) (.undef)), (211, ifA b (aI a3) (.undef)), (210, ifA b (aI (IntKind.wrap .i64 ((IntKind.wrap .i64 ((IntKind.wrap .i64 (iShr .u64 (IntKind.wrap .u64 (IntKind.wrap .i64 (a1 + a3))) 1)) + a2)) - y3))) (.undef))]) 8 (by kernel_rfl) ?_ ?_ ?_
        ·
         intro Q h
         refine sh 4 [(213, aB (decide ((IntKind.wrap .i64 ((IntKind.wrap .i64 ((IntKind.wrap .i64 (iShr .u64 (IntKind.wrap .u64 (IntKind.wrap .i64 (a1 + a3))) 1)) + a2)) - y3)) < a3))), (212, aB (decide ((IntKind.wrap .i64 ((IntKind.wrap .i64 ((IntKind.wrap .i64 (iShr .u64 (IntKind.wrap .u64 (IntKind.wrap .i64 (a1 + a3))) 1)) + a2)) - y3)) < a3))), (211, aI a3), (210, aI (IntKind.wrap .i64 ((IntKind.wrap .i64 ((IntKind.wrap .i64 (iShr .u64 (IntKind.wrap .u64 (IntKind.wrap .i64 (a1 + a3))) 1)) + a2)) - y3)))] (by kernel_rfl) ?_
         exact sameN (by kernel_rfl) (by kernel_rfl) h
        ·
         intro Q h
         refine sh 4 [(213, aB false), (212, .undef), (211, .undef), (210, .undef)] (by kernel_rfl) ?_
         exact sameN (by kernel_rfl) (by kernel_rfl) h
        refine fin [(0, .pv .nils), (3, aI a3), (4, .fn 47 [] [.ptr 0 0]), (18, aI (IntKind.wrap .i64 (iShr .u64 (IntKind.wrap .u64 (IntKind.wrap .i64 (a1 + a3))) 1))), (24, aI (IntKind.wrap .i64 ((IntKind.wrap .i64 ((IntKind.wrap .i64 (iShr .u64 (IntKind.wrap .u64 (IntKind.wrap .i64 (a1 + a3))) 1)) + a2)) - y3))), (213, aB ((decide ((IntKind.wrap .i64 (iShr .u64 (IntKind.wrap .u64 (IntKind.wrap .i64 (a1 + a3))) 1)) < (IntKind.wrap .i64 ((IntKind.wrap .i64 ((IntKind.wrap .i64 (iShr .u64 (IntKind.wrap .u64 (IntKind.wrap .i64 (a1 + a3))) 1)) + a2)) - y3)))) && (decide ((IntKind.wrap .i64 ((IntKind.wrap .i64 ((IntKind.wrap .i64 (iShr .u64 (IntKind.wrap .u64 (IntKind.wrap .i64 (a1 + a3))) 1)) + a2)) - y3)) < a3))))] rfl (by kernel_rfl) ?_
        rcases bif_some hm with ⟨h14, hm⟩ | ⟨h14, hm⟩
        ·
         refine ct h14 (by kernel_rfl) (rg (sh 5 [(218, .fn 47 [] [.ptr 0 0]), (217, aI a3), (216, aI (IntKind.wrap .i64 ((IntKind.wrap .i64 ((IntKind.wrap .i64 (iShr .u64 (IntKind.wrap .u64 (IntKind.wrap .i64 (a1 + a3))) 1)) + a2)) - y3))), (215, aI (IntKind.wrap .i64 (iShr .u64 (IntKind.wrap .u64 (IntKind.wrap .i64 (a1 + a3))) 1))), (214, .pv .nils)] (by kernel_rfl) ?_))
         obtain ⟨_, h15, hm⟩ := bs hm
         obtain ⟨vv, H1, hC, rfl, rfl⟩ := ih_slices_symMergeCmpFunc_Value_row_Sort_1_nil h15
         refine dR [(219, .tup [])] [.box [.pv (encSl R_api_Key a0)] false] [0] [.pv .nils, aI (IntKind.wrap .i64 (iShr .u64 (IntKind.wrap .u64 (IntKind.wrap .i64 (a1 + a3))) 1)), aI (IntKind.wrap .i64 ((IntKind.wrap .i64 ((IntKind.wrap .i64 (iShr .u64 (IntKind.wrap .u64 (IntKind.wrap .i64 (a1 + a3))) 1)) + a2)) - y3)), aI a3, .fn 47 [] [.ptr 0 0]] (by kernel_rfl) (by kernel_rfl) (by kernel_rfl) hC (by kernel_rfl) (fin [] rfl (by kernel_rfl) ?_)
         obtain rfl := Option.some.inj hm
         exact ⟨trivial, .tup [], [.box [.pv (encSl R_api_Key a0)] false], by kernel_rfl, rfl, rfl⟩
        ·
         refine cf h14 (by kernel_rfl) (wp_skip ?_)
         obtain rfl := Option.some.inj hm
         exact ⟨trivial, .tup [], [.box [.pv (encSl R_api_Key a0)] false], by kernel_rfl, rfl, rfl⟩
       refine sq (rg (sh 4 [(195, aB (decide (a1 < y3))), (194, aB (decide (a1 < y3))), (193, aI y3), (192, aI a1)] (by kernel_rfl) ?_))
       refine seg (decide (a1 < y3)) [195, 194] (fun b => [(199, aB (b && (decide (y3 < (IntKind.wrap .i64 (iShr .u64 (IntKind.wrap .u64 (IntKind.wrap .i64 (a1 + a3))) 1)))))), (198, ifA b (aB (decide (y3 < (IntKind.wrap .i64 (iShr .u64 (IntKind.wrap .u64 (IntKind.wrap .i64 (a1 + a3))) 1))))) (.undef)), (197, ifA b (aI (IntKind.wrap .i64 (iShr .u64 (IntKind.wrap .u64 (IntKind.wrap .i64 (a1 + a3))) 1))) (.undef)), (196, ifA b (aI y3) (.undef))]) 8 (by kernel_rfl) ?_ ?_ ?_
       ·
        intro Q h
        refine sh 4 [(199, aB (decide (y3 < (IntKind.wrap .i64 (iShr .u64 (IntKind.wrap .u64 (IntKind.wrap .i64 (a1 + a3))) 1))))), (198, aB (decide (y3 < (IntKind.wrap .i64 (iShr .u64 (IntKind.wrap .u64 (IntKind.wrap .i64 (a1 + a3))) 1))))), (197, aI (IntKind.wrap .i64 (iShr .u64 (IntKind.wrap .u64 (IntKind.wrap .i64 (a1 + a3))) 1))), (196, aI y3)] (by kernel_rfl) ?_
        exact sameN (by kernel_rfl) (by kernel_rfl) h
       ·
        intro Q h
        refine sh 4 [(199, aB false), (198, .undef), (197, .undef), (196, .undef)] (by kernel_rfl) ?_
        exact sameN (by kernel_rfl) (by kernel_rfl) h
       refine fin [(0, .pv .nils), (1, aI a1), (3, aI a3), (4, .fn 47 [] [.ptr 0 0]), (18, aI (IntKind.wrap .i64 (iShr .u64 (IntKind.wrap .u64 (IntKind.wrap .i64 (a1 + a3))) 1))), (20, aI y3), (24, aI (IntKind.wrap .i64 ((IntKind.wrap .i64 ((IntKind.wrap .i64 (iShr .u64 (IntKind.wrap .u64 (IntKind.wrap .i64 (a1 + a3))) 1)) + a2)) - y3))), (199, aB ((decide (a1 < y3)) && (decide (y3 < (IntKind.wrap .i64 (iShr .u64 (IntKind.wrap .u64 (IntKind.wrap .i64 (a1 + a3))) 1))))))] rfl (by kernel_rfl) ?_
       rcases bif_some hm with ⟨h16, hm⟩ | ⟨h16, hm⟩
       ·
        refine ct h16 (by kernel_rfl) (rg (sh 5 [(204, .fn 47 [] [.ptr 0 0]), (203, aI (IntKind.wrap .i64 (iShr .u64 (IntKind.wrap .u64 (IntKind.wrap .i64 (a1 + a3))) 1))), (202, aI y3), (201, aI a1), (200, .pv .nils)] (by kernel_rfl) ?_))
        obtain ⟨_, h17, hm⟩ := bs hm
        obtain ⟨vv, H1, hC, rfl, rfl⟩ := ih_slices_symMergeCmpFunc_Value_row_Sort_1_nil h17
        refine dR [(205, .tup [])] [.box [.pv (encSl R_api_Key a0)] false] [0] [.pv .nils, aI a1, aI y3, aI (IntKind.wrap .i64 (iShr .u64 (IntKind.wrap .u64 (IntKind.wrap .i64 (a1 + a3))) 1)), .fn 47 [] [.ptr 0 0]] (by kernel_rfl) (by kernel_rfl) (by kernel_rfl) hC (by kernel_rfl) (fin [(0, .pv .nils), (3, aI a3), (4, .fn 47 [] [.ptr 0 0]), (18, aI (IntKind.wrap .i64 (iShr .u64 (IntKind.wrap .u64 (IntKind.wrap .i64 (a1 + a3))) 1))), (24, aI (IntKind.wrap .i64 ((IntKind.wrap .i64 ((IntKind.wrap .i64 (iShr .u64 (IntKind.wrap .u64 (IntKind.wrap .i64 (a1 + a3))) 1)) + a2)) - y3)))] rfl (by kernel_rfl) ?_)
        exact ⟨.any, .any, .any, hm, (mk_same (by kernel_rfl)), rfl⟩
       ·
        refine cf h16 (by kernel_rfl) (wp_skip ?_)
        exact ⟨aI a1, aI y3, aB ((decide (a1 < y3)) && (decide (y3 < (IntKind.wrap .i64 (iShr .u64 (IntKind.wrap .u64 (IntKind.wrap .i64 (a1 + a3))) 1))))), hm, (mk_same (by kernel_rfl)), rfl⟩
      refine sq (rg (sh 4 [(181, aB (decide (y3 < a2))), (180, aB (decide (y3 < a2))), (179, aI a2), (178, aI y3)] (by kernel_rfl) ?_))
      refine seg (decide (y3 < a2)) [181, 180] (fun b => [(185, aB (b && (decide (a2 < (IntKind.wrap .i64 ((IntKind.wrap .i64 ((IntKind.wrap .i64 (iShr .u64 (IntKind.wrap .u64 (IntKind.wrap .i64 (a1 + a3))) 1)) + a2)) - y3)))))), (184, ifA b (aB (decide (a2 < (IntKind.wrap .i64 ((IntKind.wrap .i64 ((IntKind.wrap .i64 (iShr .u64 (IntKind.wrap .u64 (IntKind.wrap .i64 (a1 + a3))) 1)) + a2)) - y3))))) (.undef)), (183, ifA b (aI (IntKind.wrap .i64 ((IntKind.wrap .i64 ((IntKind.wrap .i64 (iShr .u64 (IntKind.wrap .u64 (IntKind.wrap .i64 (a1 + a3))) 1)) + a2)) - y3))) (.undef)), (182, ifA b (aI a2) (.undef))]) 8 (by kernel_rfl) ?_ ?_ ?_
      ·
       intro Q h
       refine sh 4 [(185, aB (decide (a2 < (IntKind.wrap .i64 ((IntKind.wrap .i64 ((IntKind.wrap .i64 (iShr .u64 (IntKind.wrap .u64 (IntKind.wrap .i64 (a1 + a3))) 1)) + a2)) - y3))))), (184, aB (decide (a2 < (IntKind.wrap .i64 ((IntKind.wrap .i64 ((IntKind.wrap .i64 (iShr .u64 (IntKind.wrap .u64 (IntKind.wrap .i64 (a1 + a3))) 1)) + a2)) - y3))))), (183, aI (IntKind.wrap .i64 ((IntKind.wrap .i64 ((IntKind.wrap .i64 (iShr .u64 (IntKind.wrap .u64 (IntKind.wrap .i64 (a1 + a3))) 1)) + a2)) - y3))), (182, aI a2)] (by kernel_rfl) ?_
       exact sameN (by kernel_rfl) (by kernel_rfl) h
      ·
       intro Q h
       refine sh 4 [(185, aB false), (184, .undef), (183, .undef), (182, .undef)] (by kernel_rfl) ?_
       exact sameN (by kernel_rfl) (by kernel_rfl) h
      refine fin [(0, .pv .nils), (1, aI a1), (2, aI a2), (3, aI a3), (4, .fn 47 [] [.ptr 0 0]), (18, aI (IntKind.wrap .i64 (iShr .u64 (IntKind.wrap .u64 (IntKind.wrap .i64 (a1 + a3))) 1))), (20, aI y3), (24, aI (IntKind.wrap .i64 ((IntKind.wrap .i64 ((IntKind.wrap .i64 (iShr .u64 (IntKind.wrap .u64 (IntKind.wrap .i64 (a1 + a3))) 1)) + a2)) - y3))), (185, aB ((decide (y3 < a2)) && (decide (a2 < (IntKind.wrap .i64 ((IntKind.wrap .i64 ((IntKind.wrap .i64 (iShr .u64 (IntKind.wrap .u64 (IntKind.wrap .i64 (a1 + a3))) 1)) + a2)) - y3))))))] rfl (by kernel_rfl) ?_
      rcases bif_some hm with ⟨h18, hm⟩ | ⟨h18, hm⟩
      ·
       refine ct h18 (by kernel_rfl) (rg (sh 5 [(190, .fn 47 [] [.ptr 0 0]), (189, aI (IntKind.wrap .i64 ((IntKind.wrap .i64 ((IntKind.wrap .i64 (iShr .u64 (IntKind.wrap .u64 (IntKind.wrap .i64 (a1 + a3))) 1)) + a2)) - y3))), (188, aI a2), (187, aI y3), (186, .pv .nils)] (by kernel_rfl) ?_))
       obtain ⟨_, h19, hm⟩ := bs hm
       obtain ⟨vv, H1, hC, rfl, rfl⟩ := ok_slices_rotateCmpFunc_Value_row_Sort_1_nil h19
       refine dR [(191, .tup [])] [.box [.pv (encSl R_api_Key a0)] false] [0] [.pv .nils, aI y3, aI a2, aI (IntKind.wrap .i64 ((IntKind.wrap .i64 ((IntKind.wrap .i64 (iShr .u64 (IntKind.wrap .u64 (IntKind.wrap .i64 (a1 + a3))) 1)) + a2)) - y3)), .fn 47 [] [.ptr 0 0]] (by kernel_rfl) (by kernel_rfl) (by kernel_rfl) hC (by kernel_rfl) (fin [(0, .pv .nils), (1, aI a1), (3, aI a3), (4, .fn 47 [] [.ptr 0 0]), (18, aI (IntKind.wrap .i64 (iShr .u64 (IntKind.wrap .u64 (IntKind.wrap .i64 (a1 + a3))) 1))), (20, aI y3), (24, aI (IntKind.wrap .i64 ((IntKind.wrap .i64 ((IntKind.wrap .i64 (iShr .u64 (IntKind.wrap .u64 (IntKind.wrap .i64 (a1 + a3))) 1)) + a2)) - y3)))] rfl (by kernel_rfl) ?_)
       exact ⟨.any, .any, hm, (mk_same (by kernel_rfl)), rfl⟩
      ·
       refine cf h18 (by kernel_rfl) (wp_skip ?_)
       exact ⟨aI a2, aB ((decide (y3 < a2)) && (decide (a2 < (IntKind.wrap .i64 ((IntKind.wrap .i64 ((IntKind.wrap .i64 (iShr .u64 (IntKind.wrap .u64 (IntKind.wrap .i64 (a1 + a3))) 1)) + a2)) - y3))))), hm, (mk_same (by kernel_rfl)), rfl⟩
     refine bq ?_
     refine loopF (fun mm t H => (slices_symMergeCmpFunc_Value_row_Sort_1_nil_l33 n y3 y4 k6 mm = some r ∧ t = mk 220 [(0, .pv .nils), (1, aI a1), (2, aI a2), (3, aI a3), (4, .fn 47 [] [.ptr 0 0]), (18, aI (IntKind.wrap .i64 (iShr .u64 (IntKind.wrap .u64 (IntKind.wrap .i64 (a1 + a3))) 1))), (19, aI (IntKind.wrap .i64 ((IntKind.wrap .i64 (iShr .u64 (IntKind.wrap .u64 (IntKind.wrap .i64 (a1 + a3))) 1)) + a2))), (20, aI y3), (21, aI y4), (22, aI (IntKind.wrap .i64 ((IntKind.wrap .i64 ((IntKind.wrap .i64 (iShr .u64 (IntKind.wrap .u64 (IntKind.wrap .i64 (a1 + a3))) 1)) + a2)) - 1)))] ∧ H = [.box [.pv (encSl R_api_Key a0)] false])) (⟨hm, rfl, rfl⟩) ?_ ?_
     · rintro _ _ ⟨hm, _⟩; exact nomatch hm
     rintro m20 _ _ ⟨hm, rfl, rfl⟩
     simp only [slices_symMergeCmpFunc_Value_row_Sort_1_nil_l33] at hm
     refine sq (sq (detn [(0, .pv .nils), (1, aI a1), (2, aI a2), (3, aI a3), (4, .fn 47 [] [.ptr 0 0]), (18, aI (IntKind.wrap .i64 (iShr .u64 (IntKind.wrap .u64 (IntKind.wrap .i64 (a1 + a3))) 1))), (19, aI (IntKind.wrap .i64 ((IntKind.wrap .i64 (iShr .u64 (IntKind.wrap .u64 (IntKind.wrap .i64 (a1 + a3))) 1)) + a2))), (20, aI y3), (21, aI y4), (22, aI (IntKind.wrap .i64 ((IntKind.wrap .i64 ((IntKind.wrap .i64 (iShr .u64 (IntKind.wrap .u64 (IntKind.wrap .i64 (a1 + a3))) 1)) + a2)) - 1))), (151, aB (decide (y3 < y4)))] (by kernel_rfl) ?_))
     rcases bif_some hm with ⟨h21, hm⟩ | ⟨h21, hm⟩
     ·
      refine ct h21 (by kernel_rfl) (wp_skip (bq (sq (detn [(0, .pv .nils), (1, aI a1), (2, aI a2), (3, aI a3), (4, .fn 47 [] [.ptr 0 0]), (18, aI (IntKind.wrap .i64 (iShr .u64 (IntKind.wrap .u64 (IntKind.wrap .i64 (a1 + a3))) 1))), (19, aI (IntKind.wrap .i64 ((IntKind.wrap .i64 (iShr .u64 (IntKind.wrap .u64 (IntKind.wrap .i64 (a1 + a3))) 1)) + a2))), (20, aI y3), (21, aI y4), (22, aI (IntKind.wrap .i64 ((IntKind.wrap .i64 ((IntKind.wrap .i64 (iShr .u64 (IntKind.wrap .u64 (IntKind.wrap .i64 (a1 + a3))) 1)) + a2)) - 1))), (23, aI (IntKind.wrap .i64 (iShr .u64 (IntKind.wrap .u64 (IntKind.wrap .i64 (y3 + y4))) 1)))] (by kernel_rfl) (sq (rgd (shd 5 [(162, aI (IntKind.wrap .i64 ((IntKind.wrap .i64 ((IntKind.wrap .i64 ((IntKind.wrap .i64 (iShr .u64 (IntKind.wrap .u64 (IntKind.wrap .i64 (a1 + a3))) 1)) + a2)) - 1)) - (IntKind.wrap .i64 (iShr .u64 (IntKind.wrap .u64 (IntKind.wrap .i64 (y3 + y4))) 1))))), (161, aI (IntKind.wrap .i64 (iShr .u64 (IntKind.wrap .u64 (IntKind.wrap .i64 (y3 + y4))) 1))), (160, aI (IntKind.wrap .i64 ((IntKind.wrap .i64 ((IntKind.wrap .i64 (iShr .u64 (IntKind.wrap .u64 (IntKind.wrap .i64 (a1 + a3))) 1)) + a2)) - 1))), (159, .pv .nils), (158, .fn 47 [] [.ptr 0 0])] (by kernel_rfl) ?_)))))))
      cases hm
     ·
      refine cf h21 (by kernel_rfl) (wp_exit ?_)
      exact ⟨hm, rfl, rfl⟩
    refine sq (detn [(0, .pv .nils), (1, aI a1), (2, aI a2), (3, aI a3), (4, .fn 47 [] [.ptr 0 0]), (18, aI (IntKind.wrap .i64 (iShr .u64 (IntKind.wrap .u64 (IntKind.wrap .i64 (a1 + a3))) 1))), (19, aI (IntKind.wrap .i64 ((IntKind.wrap .i64 (iShr .u64 (IntKind.wrap .u64 (IntKind.wrap .i64 (a1 + a3))) 1)) + a2))), (140, aB (decide (a2 > (IntKind.wrap .i64 (iShr .u64 (IntKind.wrap .u64 (IntKind.wrap .i64 (a1 + a3))) 1)))))] (by kernel_rfl) ?_)
    rcases bif_some hm with ⟨h22, hm⟩ | ⟨h22, hm⟩
    ·
     refine ct h22 (by kernel_rfl) (sq (detn [(0, .pv .nils), (1, aI a1), (2, aI a2), (3, aI a3), (4, .fn 47 [] [.ptr 0 0]), (18, aI (IntKind.wrap .i64 (iShr .u64 (IntKind.wrap .u64 (IntKind.wrap .i64 (a1 + a3))) 1))), (19, aI (IntKind.wrap .i64 ((IntKind.wrap .i64 (iShr .u64 (IntKind.wrap .u64 (IntKind.wrap .i64 (a1 + a3))) 1)) + a2))), (20, aI (IntKind.wrap .i64 ((IntKind.wrap .i64 ((IntKind.wrap .i64 (iShr .u64 (IntKind.wrap .u64 (IntKind.wrap .i64 (a1 + a3))) 1)) + a2)) - a3)))] (by kernel_rfl) (detn [(0, .pv .nils), (1, aI a1), (2, aI a2), (3, aI a3), (4, .fn 47 [] [.ptr 0 0]), (18, aI (IntKind.wrap .i64 (iShr .u64 (IntKind.wrap .u64 (IntKind.wrap .i64 (a1 + a3))) 1))), (19, aI (IntKind.wrap .i64 ((IntKind.wrap .i64 (iShr .u64 (IntKind.wrap .u64 (IntKind.wrap .i64 (a1 + a3))) 1)) + a2))), (20, aI (IntKind.wrap .i64 ((IntKind.wrap .i64 ((IntKind.wrap .i64 (iShr .u64 (IntKind.wrap .u64 (IntKind.wrap .i64 (a1 + a3))) 1)) + a2)) - a3))), (21, aI (IntKind.wrap .i64 (iShr .u64 (IntKind.wrap .u64 (IntKind.wrap .i64 (a1 + a3))) 1)))] (by kernel_rfl) ?_)))
     exact ⟨(IntKind.wrap .i64 ((IntKind.wrap .i64 ((IntKind.wrap .i64 (iShr .u64 (IntKind.wrap .u64 (IntKind.wrap .i64 (a1 + a3))) 1)) + a2)) - a3)), (IntKind.wrap .i64 (iShr .u64 (IntKind.wrap .u64 (IntKind.wrap .i64 (a1 + a3))) 1)), hm, rfl, rfl⟩
    ·
     refine cf h22 (by kernel_rfl) (sq (detn [(0, .pv .nils), (1, aI a1), (2, aI a2), (3, aI a3), (4, .fn 47 [] [.ptr 0 0]), (18, aI (IntKind.wrap .i64 (iShr .u64 (IntKind.wrap .u64 (IntKind.wrap .i64 (a1 + a3))) 1))), (19, aI (IntKind.wrap .i64 ((IntKind.wrap .i64 (iShr .u64 (IntKind.wrap .u64 (IntKind.wrap .i64 (a1 + a3))) 1)) + a2))), (20, aI a1)] (by kernel_rfl) (detn [(0, .pv .nils), (1, aI a1), (2, aI a2), (3, aI a3), (4, .fn 47 [] [.ptr 0 0]), (18, aI (IntKind.wrap .i64 (iShr .u64 (IntKind.wrap .u64 (IntKind.wrap .i64 (a1 + a3))) 1))), (19, aI (IntKind.wrap .i64 ((IntKind.wrap .i64 (iShr .u64 (IntKind.wrap .u64 (IntKind.wrap .i64 (a1 + a3))) 1)) + a2))), (20, aI a1), (21, aI a2)] (by kernel_rfl) ?_)))
     exact ⟨a1, a2, hm, rfl, rfl⟩
   refine sq (detn [(0, .pv .nils), (1, aI a1), (2, aI a2), (3, aI a3), (4, .fn 47 [] [.ptr 0 0]), (80, aB ((IntKind.wrap .i64 (a3 - a2)) == 1))] (by kernel_rfl) ?_)
   rcases bif_some hm with ⟨h23, hm⟩ | ⟨h23, hm⟩
   ·
    refine ct h23 (by kernel_rfl) (sq (detn [(0, .pv .nils), (2, aI a2), (4, .fn 47 [] [.ptr 0 0]), (14, aI a1)] (by kernel_rfl) (sq (detn [(0, .pv .nils), (2, aI a2), (4, .fn 47 [] [.ptr 0 0]), (14, aI a1), (15, aI a2)] (by kernel_rfl) ?_))))
    obtain ⟨k24, hk24, hm⟩ := withK_some hm
    refine mid (fun t H => (k24 () = some r ∧ t = mk 220 [(0, .pv .nils), (2, aI a2), (4, .fn 47 [] [.ptr 0 0]), (14, aI a1), (15, aI a2), (85, aB (decide (a1 < a2)))] ∧ H = [.box [.pv (encSl R_api_Key a0)] false])) ?_ ?_
    ·
     rintro _ _ ⟨hm, rfl, rfl⟩
     subst hk24
     obtain ⟨k25, hk25, hm⟩ := withK_some hm
     refine mid (fun t H => (k25 () = some r ∧ t = mk 220 [(0, .pv .nils), (14, aI a1), (17, aI a2), (110, aB (decide (a2 > a1)))] ∧ H = [.box [.pv (encSl R_api_Key a0)] false])) ?_ ?_
     ·
      rintro _ _ ⟨hm, rfl, rfl⟩
      subst hk25
      refine wp_ret ?_
      obtain rfl := Option.some.inj hm
      exact ⟨trivial, .tup [], [.box [.pv (encSl R_api_Key a0)] false], by kernel_rfl, rfl, rfl⟩
     refine sq (detn [(0, .pv .nils), (14, aI a1), (17, aI a2)] (by kernel_rfl) (bq ?_))
     refine loopF (fun mm t H => (slices_symMergeCmpFunc_Value_row_Sort_1_nil_l21 n a1 a2 k25 mm = some r ∧ t = mk 220 [(0, .pv .nils), (14, aI a1), (17, aI a2)] ∧ H = [.box [.pv (encSl R_api_Key a0)] false])) (⟨hm, rfl, rfl⟩) ?_ ?_
     · rintro _ _ ⟨hm, _⟩; exact nomatch hm
     rintro m26 _ _ ⟨hm, rfl, rfl⟩
     simp only [slices_symMergeCmpFunc_Value_row_Sort_1_nil_l21] at hm
     refine sq (sq (detn [(0, .pv .nils), (14, aI a1), (17, aI a2), (110, aB (decide (a2 > a1)))] (by kernel_rfl) ?_))
     rcases bif_some hm with ⟨h27, hm⟩ | ⟨h27, hm⟩
     ·
      refine ct h27 (by kernel_rfl) (wp_skip (sq (bq (rgd (shd 8 [(120, aI (IntKind.wrap .i64 (a2 - 1))), (119, aI a2), (118, .pv .nils), (117, aI (IntKind.wrap .i64 (a2 - 1))), (116, aI a2), (115, .pv .nils), (114, aI a2), (113, .pv .nils)] (by kernel_rfl) ?_)))))
      cases hm
     ·
      refine cf h27 (by kernel_rfl) (wp_exit ?_)
      exact ⟨hm, rfl, rfl⟩
    refine bq ?_
    refine loopF (fun mm t H => (slices_symMergeCmpFunc_Value_row_Sort_1_nil_l15 n a1 a2 k24 mm = some r ∧ t = mk 220 [(0, .pv .nils), (2, aI a2), (4, .fn 47 [] [.ptr 0 0]), (14, aI a1), (15, aI a2)] ∧ H = [.box [.pv (encSl R_api_Key a0)] false])) (⟨hm, rfl, rfl⟩) ?_ ?_
    · rintro _ _ ⟨hm, _⟩; exact nomatch hm
    rintro m28 _ _ ⟨hm, rfl, rfl⟩
    simp only [slices_symMergeCmpFunc_Value_row_Sort_1_nil_l15] at hm
    refine sq (sq (detn [(0, .pv .nils), (2, aI a2), (4, .fn 47 [] [.ptr 0 0]), (14, aI a1), (15, aI a2), (85, aB (decide (a1 < a2)))] (by kernel_rfl) ?_))
    rcases bif_some hm with ⟨h29, hm⟩ | ⟨h29, hm⟩
    ·
     refine ct h29 (by kernel_rfl) (wp_skip (bq (sq (detn [(0, .pv .nils), (2, aI a2), (4, .fn 47 [] [.ptr 0 0]), (14, aI a1), (15, aI a2), (16, aI (IntKind.wrap .i64 (iShr .u64 (IntKind.wrap .u64 (IntKind.wrap .i64 (a1 + a2))) 1)))] (by kernel_rfl) (sq (rgd (shd 3 [(94, aI a2), (93, .pv .nils), (92, .fn 47 [] [.ptr 0 0])] (by kernel_rfl) ?_)))))))
     cases hm
    ·
     refine cf h29 (by kernel_rfl) (wp_exit ?_)
     exact ⟨hm, rfl, rfl⟩
   ·
    refine cf h23 (by kernel_rfl) (wp_skip ?_)
    exact ⟨hm, rfl, rfl⟩
  refine sq (detn [(0, .pv .nils), (1, aI a1), (2, aI a2), (3, aI a3), (4, .fn 47 [] [.ptr 0 0]), (28, aB ((IntKind.wrap .i64 (a2 - a1)) == 1))] (by kernel_rfl) ?_)
  rcases bif_some hm with ⟨h30, hm⟩ | ⟨h30, hm⟩
  ·
   refine ct h30 (by kernel_rfl) (sq (detn [(0, .pv .nils), (1, aI a1), (3, aI a3), (4, .fn 47 [] [.ptr 0 0]), (10, aI a2)] (by kernel_rfl) (sq (detn [(0, .pv .nils), (1, aI a1), (4, .fn 47 [] [.ptr 0 0]), (10, aI a2), (11, aI a3)] (by kernel_rfl) ?_))))
   obtain ⟨k31, hk31, hm⟩ := withK_some hm
   refine mid (fun t H => (k31 () = some r ∧ t = mk 220 [(0, .pv .nils), (1, aI a1), (4, .fn 47 [] [.ptr 0 0]), (10, aI a2), (11, aI a3), (33, aB (decide (a2 < a3)))] ∧ H = [.box [.pv (encSl R_api_Key a0)] false])) ?_ ?_
   ·
    rintro _ _ ⟨hm, rfl, rfl⟩
    subst hk31
    obtain ⟨k32, hk32, hm⟩ := withK_some hm
    refine mid (fun t H => (k32 () = some r ∧ t = mk 220 [(0, .pv .nils), (10, aI a2), (13, aI a1), (58, aB (decide (a1 < (IntKind.wrap .i64 (a2 - 1)))))] ∧ H = [.box [.pv (encSl R_api_Key a0)] false])) ?_ ?_
    ·
     rintro _ _ ⟨hm, rfl, rfl⟩
     subst hk32
     refine wp_ret ?_
     obtain rfl := Option.some.inj hm
     exact ⟨trivial, .tup [], [.box [.pv (encSl R_api_Key a0)] false], by kernel_rfl, rfl, rfl⟩
    refine sq (detn [(0, .pv .nils), (10, aI a2), (13, aI a1)] (by kernel_rfl) (bq ?_))
    refine loopF (fun mm t H => (slices_symMergeCmpFunc_Value_row_Sort_1_nil_l9 n a1 a2 k32 mm = some r ∧ t = mk 220 [(0, .pv .nils), (10, aI a2), (13, aI a1)] ∧ H = [.box [.pv (encSl R_api_Key a0)] false])) (⟨hm, rfl, rfl⟩) ?_ ?_
    · rintro _ _ ⟨hm, _⟩; exact nomatch hm
    rintro m33 _ _ ⟨hm, rfl, rfl⟩
    simp only [slices_symMergeCmpFunc_Value_row_Sort_1_nil_l9] at hm
    refine sq (sq (detn [(0, .pv .nils), (10, aI a2), (13, aI a1), (58, aB (decide (a1 < (IntKind.wrap .i64 (a2 - 1)))))] (by kernel_rfl) ?_))
    rcases bif_some hm with ⟨h34, hm⟩ | ⟨h34, hm⟩
    ·
     refine ct h34 (by kernel_rfl) (wp_skip (sq (bq (rgd (shd 8 [(68, aI (IntKind.wrap .i64 (a1 + 1))), (67, aI a1), (66, .pv .nils), (65, aI (IntKind.wrap .i64 (a1 + 1))), (64, aI a1), (63, .pv .nils), (62, aI a1), (61, .pv .nils)] (by kernel_rfl) ?_)))))
     cases hm
    ·
     refine cf h34 (by kernel_rfl) (wp_exit ?_)
     exact ⟨hm, rfl, rfl⟩
   refine bq ?_
   refine loopF (fun mm t H => (slices_symMergeCmpFunc_Value_row_Sort_1_nil_l3 n a2 a3 k31 mm = some r ∧ t = mk 220 [(0, .pv .nils), (1, aI a1), (4, .fn 47 [] [.ptr 0 0]), (10, aI a2), (11, aI a3)] ∧ H = [.box [.pv (encSl R_api_Key a0)] false])) (⟨hm, rfl, rfl⟩) ?_ ?_
   · rintro _ _ ⟨hm, _⟩; exact nomatch hm
   rintro m35 _ _ ⟨hm, rfl, rfl⟩
   simp only [slices_symMergeCmpFunc_Value_row_Sort_1_nil_l3] at hm
   refine sq (sq (detn [(0, .pv .nils), (1, aI a1), (4, .fn 47 [] [.ptr 0 0]), (10, aI a2), (11, aI a3), (33, aB (decide (a2 < a3)))] (by kernel_rfl) ?_))
   rcases bif_some hm with ⟨h36, hm⟩ | ⟨h36, hm⟩
   ·
    refine ct h36 (by kernel_rfl) (wp_skip (bq (sq (detn [(0, .pv .nils), (1, aI a1), (4, .fn 47 [] [.ptr 0 0]), (10, aI a2), (11, aI a3), (12, aI (IntKind.wrap .i64 (iShr .u64 (IntKind.wrap .u64 (IntKind.wrap .i64 (a2 + a3))) 1)))] (by kernel_rfl) (sq (rgd (shd 3 [(42, aI (IntKind.wrap .i64 (iShr .u64 (IntKind.wrap .u64 (IntKind.wrap .i64 (a2 + a3))) 1))), (41, .pv .nils), (40, .fn 47 [] [.ptr 0 0])] (by kernel_rfl) ?_)))))))
    cases hm
   ·
    refine cf h36 (by kernel_rfl) (wp_exit ?_)
    exact ⟨hm, rfl, rfl⟩
  ·
   refine cf h30 (by kernel_rfl) (wp_skip ?_)
   exact ⟨hm, rfl, rfl⟩
theorem okt_slices_symMergeCmpFunc_Value_row_Sort_1_nil : ∀ (m : Nat), ∀ {n : Nat} {a0 : (Option (List api_Key))} {a1 : Int} {a2 : Int} {a3 : Int} {r : Unit} (hm : slices_symMergeCmpFunc_Value_row_Sort_1_nil_t m n a0 a1 a2 a3 = some r), ∃ vv H1, call G n 89 [.pv .nils, aI a1, aI a2, aI a3, .fn 47 [] [.ptr 0 0]] [.box [.pv (encSl R_api_Key a0)] false] = some (.ret vv, H1) ∧ (vv = .tup [] ∧ H1 = [.box [.pv (encSl R_api_Key a0)] false])
  | 0 => by intros; rename_i hm; exact nomatch hm
  | m + 1 => fun hm =>
    okf_slices_symMergeCmpFunc_Value_row_Sort_1_nil (okt_slices_symMergeCmpFunc_Value_row_Sort_1_nil m) hm
theorem ok_slices_symMergeCmpFunc_Value_row_Sort_1_nil {n : Nat} {a0 : (Option (List api_Key))} {a1 : Int} {a2 : Int} {a3 : Int} {r : Unit} (hm : slices_symMergeCmpFunc_Value_row_Sort_1_nil n a0 a1 a2 a3 = some r) :
    ∃ vv H1, call G n 89 [.pv .nils, aI a1, aI a2, aI a3, .fn 47 [] [.ptr 0 0]] [.box [.pv (encSl R_api_Key a0)] false] = some (.ret vv, H1) ∧ (vv = .tup [] ∧ H1 = [.box [.pv (encSl R_api_Key a0)] false]) := okt_slices_symMergeCmpFunc_Value_row_Sort_1_nil n hm
theorem ok_slices_stableCmpFunc_Value_row_Sort_1_nil {n : Nat} {a0 : (Option (List api_Key))} {a1 : Int} {r : Unit} (hm : slices_stableCmpFunc_Value_row_Sort_1_nil n a0 a1 = some r) :
    ∃ vv H1, call G n 69 [.pv .nils, aI a1, .fn 47 [] [.ptr 0 0]] [.box [.pv (encSl R_api_Key a0)] false] = some (.ret vv, H1) ∧ (vv = .tup [] ∧ H1 = [.box [.pv (encSl R_api_Key a0)] false]) := by
  unfold slices_stableCmpFunc_Value_row_Sort_1_nil at hm
  obtain ⟨n, rfl, h0⟩ := at1_some hm
  replace hm := h0; clear h0
  refine callE 63 [(0, .pv .nils), (1, aI a1), (2, .fn 47 [] [.ptr 0 0])] func69 rfl (by kernel_rfl) (sq (detn [(0, .pv .nils), (1, aI a1), (2, .fn 47 [] [.ptr 0 0]), (6, aI 20)] (by kernel_rfl) (sq (detn [(0, .pv .nils), (1, aI a1), (2, .fn 47 [] [.ptr 0 0]), (6, aI 20), (7, aI 0), (8, aI 20)] (by kernel_rfl) ?_))))
  obtain ⟨k4, hk4, hm⟩ := withK_some hm
  refine mid (fun t H => (∃ (y1 : Bool) (y2 : Int) (y3 : Int), k4 y2 = some r ∧ t = mk 63 [(0, .pv .nils), (1, aI a1), (2, .fn 47 [] [.ptr 0 0]), (6, aI 20), (7, aI y2), (8, aI y3), (13, aB y1)] ∧ H = [.box [.pv (encSl R_api_Key a0)] false])) ?_ ?_
  ·
   rintro _ _ ⟨y1, y2, y3, hm, rfl, rfl⟩
   subst hk4
   refine sq (rg (sh 4 [(26, .fn 47 [] [.ptr 0 0]), (25, aI a1), (24, aI y2), (23, .pv .nils)] (by kernel_rfl) ?_))
   obtain ⟨_, h5, hm⟩ := bs hm
   obtain ⟨vv, H1, hC, rfl, rfl⟩ := ok_slices_insertionSortCmpFunc_Value_row_Sort_1_nil h5
   refine dR [(27, .tup [])] [.box [.pv (encSl R_api_Key a0)] false] [0] [.pv .nils, aI y2, aI a1, .fn 47 [] [.ptr 0 0]] (by kernel_rfl) (by kernel_rfl) (by kernel_rfl) hC (by kernel_rfl) (fin [(0, .pv .nils), (1, aI a1), (2, .fn 47 [] [.ptr 0 0]), (6, aI 20)] rfl (by kernel_rfl) (bq ?_))
   refine loopF (fun mm t H => (∃ (y7 : Int), slices_stableCmpFunc_Value_row_Sort_1_nil_l7 n a0 a1 mm y7 = some r ∧ t = mk 63 [(0, .pv .nils), (1, aI a1), (2, .fn 47 [] [.ptr 0 0]), (6, aI y7)] ∧ H = [.box [.pv (encSl R_api_Key a0)] false])) (⟨20, hm, rfl, rfl⟩) ?_ ?_
   · rintro _ _ ⟨y7, hm, _⟩; exact nomatch hm
   rintro m8 _ _ ⟨y7, hm, rfl, rfl⟩
   simp only [slices_stableCmpFunc_Value_row_Sort_1_nil_l7] at hm
   refine sq (sq (detn [(0, .pv .nils), (1, aI a1), (2, .fn 47 [] [.ptr 0 0]), (6, aI y7), (30, aB (decide (y7 < a1)))] (by kernel_rfl) ?_))
   rcases bif_some hm with ⟨h9, hm⟩ | ⟨h9, hm⟩
   ·
    refine ct h9 (by kernel_rfl) (wp_skip (bq (sq (detn [(0, .pv .nils), (1, aI a1), (2, .fn 47 [] [.ptr 0 0]), (6, aI y7), (7, aI 0), (8, aI (IntKind.wrap .i64 (2 * y7)))] (by kernel_rfl) ?_))))
    obtain ⟨k13, hk13, hm⟩ := withK_some hm
    refine mid (fun t H => (∃ (y10 : Bool) (y11 : Int) (y12 : Int), k13 y11 = some r ∧ t = mk 63 [(0, .pv .nils), (1, aI a1), (2, .fn 47 [] [.ptr 0 0]), (6, aI y7), (7, aI y11), (8, aI y12), (35, aB y10)] ∧ H = [.box [.pv (encSl R_api_Key a0)] false])) ?_ ?_
    ·
     rintro _ _ ⟨y10, y11, y12, hm, rfl, rfl⟩
     subst hk13
     refine sq (sq (detn [(0, .pv .nils), (1, aI a1), (2, .fn 47 [] [.ptr 0 0]), (6, aI y7), (7, aI y11), (9, aI (IntKind.wrap .i64 (y11 + y7)))] (by kernel_rfl) (sq (detn [(0, .pv .nils), (1, aI a1), (2, .fn 47 [] [.ptr 0 0]), (6, aI y7), (7, aI y11), (9, aI (IntKind.wrap .i64 (y11 + y7))), (54, aB (decide ((IntKind.wrap .i64 (y11 + y7)) < a1)))] (by kernel_rfl) ?_))))
     rcases bif_some hm with ⟨h14, hm⟩ | ⟨h14, hm⟩
     ·
      refine ct h14 (by kernel_rfl) (rg (sh 5 [(59, .fn 47 [] [.ptr 0 0]), (58, aI a1), (57, aI (IntKind.wrap .i64 (y11 + y7))), (56, aI y11), (55, .pv .nils)] (by kernel_rfl) ?_))
      obtain ⟨_, h15, hm⟩ := bs hm
      obtain ⟨vv, H1, hC, rfl, rfl⟩ := ok_slices_symMergeCmpFunc_Value_row_Sort_1_nil h15
      refine dR [(60, .tup [])] [.box [.pv (encSl R_api_Key a0)] false] [0] [.pv .nils, aI y11, aI (IntKind.wrap .i64 (y11 + y7)), aI a1, .fn 47 [] [.ptr 0 0]] (by kernel_rfl) (by kernel_rfl) (by kernel_rfl) hC (by kernel_rfl) (fin [(0, .pv .nils), (1, aI a1), (2, .fn 47 [] [.ptr 0 0]), (6, aI y7)] rfl (by kernel_rfl) (detn [(0, .pv .nils), (1, aI a1), (2, .fn 47 [] [.ptr 0 0]), (6, aI (IntKind.wrap .i64 (y7 * 2)))] (by kernel_rfl) ?_))
      exact ⟨_, _, tidyL [(0, .pv .nils), (1, aI a1), (2, .fn 47 [] [.ptr 0 0]), (6, aI (IntKind.wrap .i64 (y7 * 2)))] [.box [.pv (encSl R_api_Key a0)] false] (by kernel_rfl), ⟨(IntKind.wrap .i64 (y7 * 2)), hm, rfl, rfl⟩⟩
     ·
      refine cf h14 (by kernel_rfl) (wp_skip (detn [(0, .pv .nils), (1, aI a1), (2, .fn 47 [] [.ptr 0 0]), (6, aI (IntKind.wrap .i64 (y7 * 2)))] (by kernel_rfl) ?_))
      exact ⟨_, _, tidyL [(0, .pv .nils), (1, aI a1), (2, .fn 47 [] [.ptr 0 0]), (6, aI (IntKind.wrap .i64 (y7 * 2)))] [.box [.pv (encSl R_api_Key a0)] false] (by kernel_rfl), ⟨(IntKind.wrap .i64 (y7 * 2)), hm, rfl, rfl⟩⟩
    refine bq ?_
    refine loopF (fun mm t H => (∃ (y18 : Int) (y19 : Int), slices_stableCmpFunc_Value_row_Sort_1_nil_l9 n a0 a1 y7 k13 mm y18 y19 = some r ∧ t = mk 63 [(0, .pv .nils), (1, aI a1), (2, .fn 47 [] [.ptr 0 0]), (6, aI y7), (7, aI y18), (8, aI y19)] ∧ H = [.box [.pv (encSl R_api_Key a0)] false])) (⟨0, (IntKind.wrap .i64 (2 * y7)), hm, rfl, rfl⟩) ?_ ?_
    · rintro _ _ ⟨y18, y19, hm, _⟩; exact nomatch hm
    rintro m20 _ _ ⟨y18, y19, hm, rfl, rfl⟩
    simp only [slices_stableCmpFunc_Value_row_Sort_1_nil_l9] at hm
    refine sq (sq (detn [(0, .pv .nils), (1, aI a1), (2, .fn 47 [] [.ptr 0 0]), (6, aI y7), (7, aI y18), (8, aI y19), (35, aB (decide (y19 ≤ a1)))] (by kernel_rfl) ?_))
    rcases bif_some hm with ⟨h21, hm⟩ | ⟨h21, hm⟩
    ·
     refine ct h21 (by kernel_rfl) (wp_skip (bq (sq (rg (sh 7 [(42, .fn 47 [] [.ptr 0 0]), (41, aI y19), (40, aI (IntKind.wrap .i64 (y18 + y7))), (39, aI y7), (38, aI y18), (37, aI y18), (36, .pv .nils)] (by kernel_rfl) ?_)))))
     obtain ⟨_, h22, hm⟩ := bs hm
     obtain ⟨vv, H1, hC, rfl, rfl⟩ := ok_slices_symMergeCmpFunc_Value_row_Sort_1_nil h22
     refine dR [(43, .tup [])] [.box [.pv (encSl R_api_Key a0)] false] [0] [.pv .nils, aI y18, aI (IntKind.wrap .i64 (y18 + y7)), aI y19, .fn 47 [] [.ptr 0 0]] (by kernel_rfl) (by kernel_rfl) (by kernel_rfl) hC (by kernel_rfl) (fin [(0, .pv .nils), (1, aI a1), (2, .fn 47 [] [.ptr 0 0]), (6, aI y7), (8, aI y19)] rfl (by kernel_rfl) (sq (detn [(0, .pv .nils), (1, aI a1), (2, .fn 47 [] [.ptr 0 0]), (6, aI y7), (7, aI y19), (8, aI y19)] (by kernel_rfl) (detn [(0, .pv .nils), (1, aI a1), (2, .fn 47 [] [.ptr 0 0]), (6, aI y7), (7, aI y19), (8, aI (IntKind.wrap .i64 (y19 + (IntKind.wrap .i64 (2 * y7)))))] (by kernel_rfl) ?_))))
     exact ⟨_, _, tidyL [(0, .pv .nils), (1, aI a1), (2, .fn 47 [] [.ptr 0 0]), (6, aI y7), (7, aI y19), (8, aI (IntKind.wrap .i64 (y19 + (IntKind.wrap .i64 (2 * y7)))))] [.box [.pv (encSl R_api_Key a0)] false] (by kernel_rfl), ⟨y19, (IntKind.wrap .i64 (y19 + (IntKind.wrap .i64 (2 * y7)))), hm, rfl, rfl⟩⟩
    ·
     refine cf h21 (by kernel_rfl) (wp_exit ?_)
     exact ⟨(decide (y19 ≤ a1)), y18, y19, hm, rfl, rfl⟩
   ·
    refine cf h9 (by kernel_rfl) (wp_exit ?_)
    obtain rfl := Option.some.inj hm
    exact ⟨trivial, .tup [], [.box [.pv (encSl R_api_Key a0)] false], by kernel_rfl, rfl, rfl⟩
  refine bq ?_
  refine loopF (fun mm t H => (∃ (y25 : Int) (y26 : Int), slices_stableCmpFunc_Value_row_Sort_1_nil_l2 n a0 a1 k4 mm y25 y26 = some r ∧ t = mk 63 [(0, .pv .nils), (1, aI a1), (2, .fn 47 [] [.ptr 0 0]), (6, aI 20), (7, aI y25), (8, aI y26)] ∧ H = [.box [.pv (encSl R_api_Key a0)] false])) (⟨0, 20, hm, rfl, rfl⟩) ?_ ?_
  · rintro _ _ ⟨y25, y26, hm, _⟩; exact nomatch hm
  rintro m27 _ _ ⟨y25, y26, hm, rfl, rfl⟩
  simp only [slices_stableCmpFunc_Value_row_Sort_1_nil_l2] at hm
  refine sq (sq (detn [(0, .pv .nils), (1, aI a1), (2, .fn 47 [] [.ptr 0 0]), (6, aI 20), (7, aI y25), (8, aI y26), (13, aB (decide (y26 ≤ a1)))] (by kernel_rfl) ?_))
  rcases bif_some hm with ⟨h28, hm⟩ | ⟨h28, hm⟩
  ·
   refine ct h28 (by kernel_rfl) (wp_skip (bq (sq (rg (sh 4 [(17, .fn 47 [] [.ptr 0 0]), (16, aI y26), (15, aI y25), (14, .pv .nils)] (by kernel_rfl) ?_)))))
   obtain ⟨_, h29, hm⟩ := bs hm
   obtain ⟨vv, H1, hC, rfl, rfl⟩ := ok_slices_insertionSortCmpFunc_Value_row_Sort_1_nil h29
   refine dR [(18, .tup [])] [.box [.pv (encSl R_api_Key a0)] false] [0] [.pv .nils, aI y25, aI y26, .fn 47 [] [.ptr 0 0]] (by kernel_rfl) (by kernel_rfl) (by kernel_rfl) hC (by kernel_rfl) (fin [(0, .pv .nils), (1, aI a1), (2, .fn 47 [] [.ptr 0 0]), (6, aI 20), (8, aI y26)] rfl (by kernel_rfl) (sq (detn [(0, .pv .nils), (1, aI a1), (2, .fn 47 [] [.ptr 0 0]), (6, aI 20), (7, aI y26), (8, aI y26)] (by kernel_rfl) (detn [(0, .pv .nils), (1, aI a1), (2, .fn 47 [] [.ptr 0 0]), (6, aI 20), (7, aI y26), (8, aI (IntKind.wrap .i64 (y26 + 20)))] (by kernel_rfl) ?_))))
   exact ⟨_, _, tidyL [(0, .pv .nils), (1, aI a1), (2, .fn 47 [] [.ptr 0 0]), (6, aI 20), (7, aI y26), (8, aI (IntKind.wrap .i64 (y26 + 20)))] [.box [.pv (encSl R_api_Key a0)] false] (by kernel_rfl), ⟨y26, (IntKind.wrap .i64 (y26 + 20)), hm, rfl, rfl⟩⟩
  ·
   refine cf h28 (by kernel_rfl) (wp_exit ?_)
   exact ⟨(decide (y26 ≤ a1)), y25, y26, hm, rfl, rfl⟩
theorem ok_slices_SortStableFunc_Value_row_Sort_1_nil {n : Nat} {a0 : (Option (List api_Key))} {r : Unit} (hm : slices_SortStableFunc_Value_row_Sort_1_nil n a0 = some r) :
    ∃ vv H1, call G n 46 [.pv .nils, .fn 47 [] [.ptr 0 0]] [.box [.pv (encSl R_api_Key a0)] false] = some (.ret vv, H1) ∧ (vv = .tup [] ∧ H1 = [.box [.pv (encSl R_api_Key a0)] false]) := by
  unfold slices_SortStableFunc_Value_row_Sort_1_nil at hm
  obtain ⟨n, rfl, h0⟩ := at1_some hm
  replace hm := h0; clear h0
  refine callE 9 [(0, .pv .nils), (1, .fn 47 [] [.ptr 0 0])] func46 rfl (by kernel_rfl) (rg (sh 4 [(7, .fn 47 [] [.ptr 0 0]), (6, aI 0), (5, .pv .nils), (4, .pv .nils)] (by kernel_rfl) ?_))
  obtain ⟨_, h1, hm⟩ := bs hm
  obtain ⟨vv, H1, hC, rfl, rfl⟩ := ok_slices_stableCmpFunc_Value_row_Sort_1_nil h1
  refine dR [(8, .tup [])] [.box [.pv (encSl R_api_Key a0)] false] [0] [.pv .nils, aI 0, .fn 47 [] [.ptr 0 0]] (by kernel_rfl) (by kernel_rfl) (by kernel_rfl) hC (by kernel_rfl) (fin [] rfl (by kernel_rfl) ?_)
  obtain rfl := Option.some.inj hm
  exact ⟨trivial, .tup [], [.box [.pv (encSl R_api_Key a0)] false], by kernel_rfl, rfl, rfl⟩
theorem ok_row_Sort_1 {n : Nat} {a0 : (Option (List api_Value))} {a1 : (Option (List api_Value))} {a2 : (Option (List api_Key))} {r : Int} (hm : row_Sort_1 n a0 a1 a2 = some r) :
    call G n 47 [.pv (encSl R_api_Value a0), .pv (encSl R_api_Value a1), .pv (.ptr [encSl R_api_Key a2] 0)] [] = some (.ret (aI r), []) := by
  unfold row_Sort_1 at hm
  obtain ⟨n, rfl, h0⟩ := at1_some hm
  replace hm := h0; clear h0
  refine callL 10 [(0, .pv (encSl R_api_Value a0)), (1, .pv (encSl R_api_Value a1)), (2, .pv (.ptr [encSl R_api_Key a2] 0))] func47 rfl (by kernel_rfl) (sq (detn [(0, .pv (encSl R_api_Value a0)), (1, .pv (encSl R_api_Value a1)), (2, .pv (.ptr [encSl R_api_Key a2] 0))] (by kernel_rfl) (sq (rg (sh 3 [(8, .pv (encSl R_api_Value a1)), (7, .pv (encSl R_api_Value a0)), (6, .pv (encSl R_api_Key a2))] (by kernel_rfl) ?_)))))
  obtain ⟨x1, h2, hm⟩ := bs hm
  refine dv 9 (cpure (by kernel_rfl) (ok_row_By h2) (by kernel_rfl) (by kernel_rfl) (by kernel_rfl)) (by kernel_rfl) (sh 1 [(5, aI x1)] (by kernel_rfl) (fin [(5, aI x1)] rfl (by kernel_rfl) (wp_ret ?_)))
  obtain rfl := Option.some.inj hm
  exact ⟨trivial, by kernel_rfl⟩
theorem ok_slices_insertionSortCmpFunc_Value_row_Sort_1_r (m0 : Nat) {n : Nat} {a0 : (List (Option (List api_Value)))} {a1 : (Option (List api_Key))} {a2 : Int} {a3 : Int} {r : (List (Option (List api_Value)))} (hm0 : a0.length = m0) (hm : slices_insertionSortCmpFunc_Value_row_Sort_1_r n a0 a1 a2 a3 = some r) :
    ∃ vv H1, call G n 88 [aR 0 1 m0, aI a2, aI a3, .fn 47 [] [.ptr 1 0]] [bR 22 1 (rSl R_api_Value) a0 0 0, .box [.pv (encSl R_api_Key a1)] false] = some (.ret vv, H1) ∧ (match r with | r0 => (∃ (e1 : Nat), r0.length = m0 ∧ e1 ≤ r0.length ∧ vv = .tup [] ∧ H1 = [bR 22 1 (rSl R_api_Value) r0 e1 0, .box [.pv (encSl R_api_Key a1)] false])) := by
  unfold slices_insertionSortCmpFunc_Value_row_Sort_1_r at hm
  obtain ⟨n, rfl, h0⟩ := at1_some hm
  replace hm := h0; clear h0
  refine callE 53 [(0, aR 0 1 m0), (1, aI a2), (2, aI a3), (3, .fn 47 [] [.ptr 1 0])] func88 rfl (by kernel_rfl) (sq (detn [(0, aR 0 1 m0), (1, aI a2), (2, aI a3), (3, .fn 47 [] [.ptr 1 0]), (8, aI (IntKind.wrap .i64 (a2 + 1)))] (by kernel_rfl) (bq ?_)))
  refine loopF (fun mm t H => (∃ (y6 : (List (Option (List api_Value)))) (y7 : Int) (g9 : Nat), slices_insertionSortCmpFunc_Value_row_Sort_1_r_l1 n a1 a2 a3 mm y6 y7 = some r ∧ t = mk 53 [(0, aR 0 1 m0), (1, aI a2), (2, aI a3), (3, .fn 47 [] [.ptr 1 0]), (8, aI y7)] ∧ H = [bR 22 1 (rSl R_api_Value) y6 g9 0, .box [.pv (encSl R_api_Key a1)] false] ∧ y6.length = m0 ∧ g9 ≤ y6.length)) (⟨a0, (IntKind.wrap .i64 (a2 + 1)), 0, hm, rfl, rfl, (by first | rfl | assumption | omega | (simp only [List.length_set, List.length_append, List.length_cons, List.length_nil, List.length_replicate] at *; omega)), (by first | exact Nat.zero_le _ | exact Nat.le_refl _ | assumption | omega | (simp only [List.length_set, List.length_append, List.length_cons, List.length_nil, List.length_replicate] at *; omega))⟩) ?_ ?_
  · rintro _ _ ⟨y6, y7, g9, hm, _⟩; exact nomatch hm
  rintro m11 _ _ ⟨y6, y7, g9, hm, rfl, rfl, q8, q10⟩
  simp only [slices_insertionSortCmpFunc_Value_row_Sort_1_r_l1] at hm
  refine sq (sq (detn [(0, aR 0 1 m0), (1, aI a2), (2, aI a3), (3, .fn 47 [] [.ptr 1 0]), (8, aI y7), (14, aB (decide (y7 < a3)))] (by kernel_rfl) ?_))
  rcases bif_some hm with ⟨h12, hm⟩ | ⟨h12, hm⟩
  ·
   refine ct h12 (by kernel_rfl) (wp_skip ?_)
   obtain ⟨k19, hk19, hm⟩ := withK_some hm
   refine mid (fun t H => (∃ (y13 : (List (Option (List api_Value)))) (y14 : Bool) (y15 : Int) (g17 : Nat), k19 y13 = some r ∧ t = mk 53 [(0, aR 0 1 m0), (1, aI a2), (2, aI a3), (3, .fn 47 [] [.ptr 1 0]), (8, aI y7), (9, aI y15), (34, aB y14)] ∧ H = [bR 22 1 (rSl R_api_Value) y13 g17 0, .box [.pv (encSl R_api_Key a1)] false] ∧ y13.length = m0 ∧ g17 ≤ y13.length)) ?_ ?_
   ·
    rintro _ _ ⟨y13, y14, y15, g17, hm, rfl, rfl, q16, q18⟩
    subst hk19
    refine detn [(0, aR 0 1 m0), (1, aI a2), (2, aI a3), (3, .fn 47 [] [.ptr 1 0]), (8, aI (IntKind.wrap .i64 (y7 + 1)))] (by kernel_rfl) ?_
    exact ⟨_, _, tidyL [(0, aR 0 1 m0), (1, aI a2), (2, aI a3), (3, .fn 47 [] [.ptr 1 0]), (8, aI (IntKind.wrap .i64 (y7 + 1)))] [bR 22 1 (rSl R_api_Value) y13 g17 0, .box [.pv (encSl R_api_Key a1)] false] (by kernel_rfl), ⟨y13, (IntKind.wrap .i64 (y7 + 1)), g17, hm, rfl, rfl, (by first | rfl | assumption | omega | (simp only [List.length_set, List.length_append, List.length_cons, List.length_nil, List.length_replicate] at *; omega)), (by first | exact Nat.zero_le _ | exact Nat.le_refl _ | assumption | omega | (simp only [List.length_set, List.length_append, List.length_cons, List.length_nil, List.length_replicate] at *; omega))⟩⟩
   refine bq (sq (detn [(0, aR 0 1 m0), (1, aI a2), (2, aI a3), (3, .fn 47 [] [.ptr 1 0]), (8, aI y7), (9, aI y7)] (by kernel_rfl) (bq ?_)))
   refine loopF (fun mm t H => (∃ (y25 : (List (Option (List api_Value)))) (y26 : Int) (g28 : Nat), slices_insertionSortCmpFunc_Value_row_Sort_1_r_l4 n a1 a2 k19 mm y25 y26 = some r ∧ t = mk 53 [(0, aR 0 1 m0), (1, aI a2), (2, aI a3), (3, .fn 47 [] [.ptr 1 0]), (8, aI y7), (9, aI y26)] ∧ H = [bR 22 1 (rSl R_api_Value) y25 g28 0, .box [.pv (encSl R_api_Key a1)] false] ∧ y25.length = m0 ∧ g28 ≤ y25.length)) (⟨y6, y7, g9, hm, rfl, rfl, (by first | rfl | assumption | omega | (simp only [List.length_set, List.length_append, List.length_cons, List.length_nil, List.length_replicate] at *; omega)), (by first | exact Nat.zero_le _ | exact Nat.le_refl _ | assumption | omega | (simp only [List.length_set, List.length_append, List.length_cons, List.length_nil, List.length_replicate] at *; omega))⟩) ?_ ?_
   · rintro _ _ ⟨y25, y26, g28, hm, _⟩; exact nomatch hm
   rintro m30 _ _ ⟨y25, y26, g28, hm, rfl, rfl, q27, q29⟩
   simp only [slices_insertionSortCmpFunc_Value_row_Sort_1_r_l4] at hm
   refine sq (sq (rgd (shd 4 [(21, aB (decide (y26 > a2))), (20, aB (decide (y26 > a2))), (19, aI a2), (18, aI y26)] (by kernel_rfl) ?_)))
   rcases bif_some hm with ⟨h31, hm⟩ | ⟨h31, hm⟩
   ·
    refine knownd [21, 20] h31 (by kernel_rfl) (shd 3 [(24, aI y26), (23, aR 0 1 m0), (22, .fn 47 [] [.ptr 1 0])] (by kernel_rfl) ?_)
    obtain ⟨x32, h33, hm⟩ := bs hm
    refine dvd 25 (v := .eptr 0 0 m0 1 (0 + Int.toNat y26) 0) (ia_refO y25 .i64 (n := m0) (id := 0) (esz := 1) t25 t22 h33 (by omega) rfl (by kernel_rfl)) (by kernel_rfl) (dvd 26 (v := .pv (encSl R_api_Value x32)) (ld_eptrO (rSl R_api_Value) y25 (n := m0) (esz := 1) (j := y26) (off := 0) (id := 0) t22 rfl h33 (by omega) (by omega) (by kernel_rfl) (by kernel_rfl)) (by kernel_rfl) (shd 3 [(29, aI (IntKind.wrap .i64 (y26 - 1))), (28, aI y26), (27, aR 0 1 m0)] (by kernel_rfl) ?_))
    obtain ⟨x34, h35, hm⟩ := bs hm
    refine dvd 30 (v := .eptr 0 0 m0 1 (0 + Int.toNat (IntKind.wrap .i64 (y26 - 1))) 0) (ia_refO y25 .i64 (n := m0) (id := 0) (esz := 1) t25 t22 h35 (by omega) rfl (by kernel_rfl)) (by kernel_rfl) (dvd 31 (v := .pv (encSl R_api_Value x34)) (ld_eptrO (rSl R_api_Value) y25 (n := m0) (esz := 1) (j := (IntKind.wrap .i64 (y26 - 1))) (off := 0) (id := 0) t22 rfl h35 (by omega) (by omega) (by kernel_rfl) (by kernel_rfl)) (by kernel_rfl) ?_)
    obtain ⟨x36, h37, hm⟩ := bs hm
    refine dOd [(32, aI x36)] [bR 22 1 (rSl R_api_Value) y25 g28 0, .box [.pv (encSl R_api_Key a1)] false] (cpureR [1] [.pv (encSl R_api_Value x32), .pv (encSl R_api_Value x34), .ptr 1 0] (fl := true) (by kernel_rfl) (by kernel_rfl) (by kernel_rfl) (ok_row_Sort_1 h37) (by kernel_rfl) (by kernel_rfl)) (by kernel_rfl) (shd 2 [(34, aB (decide (x36 < 0))), (33, aB (decide (x36 < 0)))] (by kernel_rfl) (find [(0, aR 0 1 m0), (1, aI a2), (2, aI a3), (3, .fn 47 [] [.ptr 1 0]), (8, aI y7), (9, aI y26), (34, aB (decide (x36 < 0)))] rfl (by kernel_rfl) (by kernel_rfl) ?_))
    rcases bif_some hm with ⟨h38, hm⟩ | ⟨h38, hm⟩
    ·
     refine ct h38 (by kernel_rfl) (wp_skip (sq (bq (rgd (shd 8 [(44, aI (IntKind.wrap .i64 (y26 - 1))), (43, aI y26), (42, aR 0 1 m0), (41, aI (IntKind.wrap .i64 (y26 - 1))), (40, aI y26), (39, aR 0 1 m0), (38, aI y26), (37, aR 0 1 m0)] (by kernel_rfl) (dvd 45 (v := .eptr 0 0 m0 1 (0 + Int.toNat (IntKind.wrap .i64 (y26 - 1))) 0) (ia_refO y25 .i64 (n := m0) (id := 0) (esz := 1) t25 t22 h35 (by omega) rfl (by kernel_rfl)) (by kernel_rfl) (dvd 46 (v := .pv (encSl R_api_Value x34)) (ld_eptrO (rSl R_api_Value) y25 (n := m0) (esz := 1) (j := (IntKind.wrap .i64 (y26 - 1))) (off := 0) (id := 0) t22 rfl h35 (by omega) (by omega) (by kernel_rfl) (by kernel_rfl)) (by kernel_rfl) (shd 2 [(48, aI y26), (47, aR 0 1 m0)] (by kernel_rfl) (dvd 49 (v := .eptr 0 0 m0 1 (0 + Int.toNat y26) 0) (ia_refO y25 .i64 (n := m0) (id := 0) (esz := 1) t25 t22 h33 (by omega) rfl (by kernel_rfl)) (by kernel_rfl) (dvd 50 (v := .pv (encSl R_api_Value x32)) (ld_eptrO (rSl R_api_Value) y25 (n := m0) (esz := 1) (j := y26) (off := 0) (id := 0) t22 rfl h33 (by omega) (by omega) (by kernel_rfl) (by kernel_rfl)) (by kernel_rfl) (dvd 51 (v := .eptr 0 0 m0 1 (0 + Int.toNat y26) 0) (ia_refO y25 .i64 (n := m0) (id := 0) (esz := 1) t25 t22 h33 (by omega) rfl (by kernel_rfl)) (by kernel_rfl) (dOd [] [bR 22 1 (rSl R_api_Value) (y25.set (Int.toNat y26) x34) m0 0, .box [.pv (encSl R_api_Key a1)] false] (st_eptrO (rSl R_api_Value) y25 x34 (n := m0) (esz := 1) (v := .pv (encSl R_api_Value x34)) (j := y26) (off := 0) (id := 0) t22 rfl h33 (by omega) (by omega) rfl rfl rfl rfl (by kernel_rfl)) (by kernel_rfl) ?_))))))))))))
     obtain ⟨x39, h40, hm⟩ := bs hm
     refine dvd 52 (v := .eptr 0 0 m0 1 (0 + Int.toNat (IntKind.wrap .i64 (y26 - 1))) 0) (ia_refO (y25.set (Int.toNat y26) x34) .i64 (n := m0) (id := 0) (esz := 1) t25 t22 h40 (by first | rfl | assumption | omega | (simp only [List.length_set, List.length_append, List.length_cons, List.length_nil, List.length_replicate] at *; omega)) rfl (by kernel_rfl)) (by kernel_rfl) (dOd [] [bR 22 1 (rSl R_api_Value) ((y25.set (Int.toNat y26) x34).set (Int.toNat (IntKind.wrap .i64 (y26 - 1))) x32) m0 0, .box [.pv (encSl R_api_Key a1)] false] (st_eptrO (rSl R_api_Value) (y25.set (Int.toNat y26) x34) x32 (n := m0) (esz := 1) (v := .pv (encSl R_api_Value x32)) (j := (IntKind.wrap .i64 (y26 - 1))) (off := 0) (id := 0) t22 rfl h40 (by first | rfl | assumption | omega | (simp only [List.length_set, List.length_append, List.length_cons, List.length_nil, List.length_replicate] at *; omega)) (by first | exact Nat.zero_le _ | exact Nat.le_refl _ | assumption | omega | (simp only [List.length_set, List.length_append, List.length_cons, List.length_nil, List.length_replicate] at *; omega)) rfl rfl rfl rfl (by kernel_rfl)) (by kernel_rfl) (find [(0, aR 0 1 m0), (1, aI a2), (2, aI a3), (3, .fn 47 [] [.ptr 1 0]), (8, aI y7), (9, aI y26)] rfl (by kernel_rfl) (by kernel_rfl) (detn [(0, aR 0 1 m0), (1, aI a2), (2, aI a3), (3, .fn 47 [] [.ptr 1 0]), (8, aI y7), (9, aI (IntKind.wrap .i64 (y26 - 1)))] (by kernel_rfl) ?_)))
     exact ⟨_, _, tidyL [(0, aR 0 1 m0), (1, aI a2), (2, aI a3), (3, .fn 47 [] [.ptr 1 0]), (8, aI y7), (9, aI (IntKind.wrap .i64 (y26 - 1)))] [bR 22 1 (rSl R_api_Value) ((y25.set (Int.toNat y26) x34).set (Int.toNat (IntKind.wrap .i64 (y26 - 1))) x32) m0 0, .box [.pv (encSl R_api_Key a1)] false] (by kernel_rfl), ⟨((y25.set (Int.toNat y26) x34).set (Int.toNat (IntKind.wrap .i64 (y26 - 1))) x32), (IntKind.wrap .i64 (y26 - 1)), m0, hm, rfl, rfl, (by first | rfl | assumption | omega | (simp only [List.length_set, List.length_append, List.length_cons, List.length_nil, List.length_replicate] at *; omega)), (by first | exact Nat.zero_le _ | exact Nat.le_refl _ | assumption | omega | (simp only [List.length_set, List.length_append, List.length_cons, List.length_nil, List.length_replicate] at *; omega))⟩⟩
    ·
     refine cf h38 (by kernel_rfl) (wp_exit ?_)
     exact ⟨y25, (decide (x36 < 0)), y26, g28, hm, rfl, rfl, (by first | rfl | assumption | omega | (simp only [List.length_set, List.length_append, List.length_cons, List.length_nil, List.length_replicate] at *; omega)), (by first | exact Nat.zero_le _ | exact Nat.le_refl _ | assumption | omega | (simp only [List.length_set, List.length_append, List.length_cons, List.length_nil, List.length_replicate] at *; omega))⟩
   ·
    refine knownd [21, 20] h31 (by kernel_rfl) (shd 13 [(34, aB false), (33, .undef), (32, .undef), (31, .undef), (30, .undef), (29, .undef), (28, .undef), (27, .undef), (26, .undef), (25, .undef), (24, .undef), (23, .undef), (22, .undef)] (by kernel_rfl) (find [(0, aR 0 1 m0), (1, aI a2), (2, aI a3), (3, .fn 47 [] [.ptr 1 0]), (8, aI y7), (9, aI y26), (34, aB false)] rfl (by kernel_rfl) (by kernel_rfl) (cF (by kernel_rfl) (wp_exit ?_))))
    exact ⟨y25, false, y26, g28, hm, rfl, rfl, (by first | rfl | assumption | omega | (simp only [List.length_set, List.length_append, List.length_cons, List.length_nil, List.length_replicate] at *; omega)), (by first | exact Nat.zero_le _ | exact Nat.le_refl _ | assumption | omega | (simp only [List.length_set, List.length_append, List.length_cons, List.length_nil, List.length_replicate] at *; omega))⟩
  ·
   refine cf h12 (by kernel_rfl) (wp_exit ?_)
   obtain rfl := Option.some.inj hm
   exact ⟨trivial, .tup [], [bR 22 1 (rSl R_api_Value) y6 g9 0, .box [.pv (encSl R_api_Key a1)] false], by kernel_rfl, g9, (by first | rfl | assumption | omega | (simp only [List.length_set, List.length_append, List.length_cons, List.length_nil, List.length_replicate] at *; omega)), (by first | exact Nat.zero_le _ | exact Nat.le_refl _ | assumption | omega | (simp only [List.length_set, List.length_append, List.length_cons, List.length_nil, List.length_replicate] at *; omega)), rfl, rfl⟩
theorem ok_slices_insertionSortCmpFunc_Value_row_Sort_1_r_2 (m0 : Nat) (f0 : Nat) {n : Nat} {a0 : (List (Option (List api_Value)))} {a1 : (Option (List api_Key))} {a2 : Int} {a3 : Int} {r : (List (Option (List api_Value)))} (hm0 : a0.length = m0) (hf0 : f0 ≤ a0.length) (hm : slices_insertionSortCmpFunc_Value_row_Sort_1_r_2 n a0 a1 a2 a3 = some r) :
    ∃ vv H1, call G n 88 [aR 0 1 m0, aI a2, aI a3, .fn 47 [] [.ptr 1 0]] [bR 22 1 (rSl R_api_Value) a0 f0 0, .box [.pv (encSl R_api_Key a1)] false] = some (.ret vv, H1) ∧ (match r with | r0 => (∃ (e1 : Nat), r0.length = m0 ∧ e1 ≤ r0.length ∧ vv = .tup [] ∧ H1 = [bR 22 1 (rSl R_api_Value) r0 e1 0, .box [.pv (encSl R_api_Key a1)] false])) := by
  unfold slices_insertionSortCmpFunc_Value_row_Sort_1_r_2 at hm
  obtain ⟨n, rfl, h0⟩ := at1_some hm
  replace hm := h0; clear h0
  refine callE 53 [(0, aR 0 1 m0), (1, aI a2), (2, aI a3), (3, .fn 47 [] [.ptr 1 0])] func88 rfl (by kernel_rfl) (sq (detn [(0, aR 0 1 m0), (1, aI a2), (2, aI a3), (3, .fn 47 [] [.ptr 1 0]), (8, aI (IntKind.wrap .i64 (a2 + 1)))] (by kernel_rfl) (bq ?_)))
  refine loopF (fun mm t H => (∃ (y6 : (List (Option (List api_Value)))) (y7 : Int) (g9 : Nat), slices_insertionSortCmpFunc_Value_row_Sort_1_r_2_l1 n a1 a2 a3 mm y6 y7 = some r ∧ t = mk 53 [(0, aR 0 1 m0), (1, aI a2), (2, aI a3), (3, .fn 47 [] [.ptr 1 0]), (8, aI y7)] ∧ H = [bR 22 1 (rSl R_api_Value) y6 g9 0, .box [.pv (encSl R_api_Key a1)] false] ∧ y6.length = m0 ∧ g9 ≤ y6.length)) (⟨a0, (IntKind.wrap .i64 (a2 + 1)), f0, hm, rfl, rfl, (by first | rfl | assumption | omega | (simp only [List.length_set, List.length_append, List.length_cons, List.length_nil, List.length_replicate] at *; omega)), (by first | exact Nat.zero_le _ | exact Nat.le_refl _ | assumption | omega | (simp only [List.length_set, List.length_append, List.length_cons, List.length_nil, List.length_replicate] at *; omega))⟩) ?_ ?_
  · rintro _ _ ⟨y6, y7, g9, hm, _⟩; exact nomatch hm
  rintro m11 _ _ ⟨y6, y7, g9, hm, rfl, rfl, q8, q10⟩
  simp only [slices_insertionSortCmpFunc_Value_row_Sort_1_r_2_l1] at hm
  refine sq (sq (detn [(0, aR 0 1 m0), (1, aI a2), (2, aI a3), (3, .fn 47 [] [.ptr 1 0]), (8, aI y7), (14, aB (decide (y7 < a3)))] (by kernel_rfl) ?_))
  rcases bif_some hm with ⟨h12, hm⟩ | ⟨h12, hm⟩
  ·
   refine ct h12 (by kernel_rfl) (wp_skip ?_)
   obtain ⟨k19, hk19, hm⟩ := withK_some hm
   refine mid (fun t H => (∃ (y13 : (List (Option (List api_Value)))) (y14 : Bool) (y15 : Int) (g17 : Nat), k19 y13 = some r ∧ t = mk 53 [(0, aR 0 1 m0), (1, aI a2), (2, aI a3), (3, .fn 47 [] [.ptr 1 0]), (8, aI y7), (9, aI y15), (34, aB y14)] ∧ H = [bR 22 1 (rSl R_api_Value) y13 g17 0, .box [.pv (encSl R_api_Key a1)] false] ∧ y13.length = m0 ∧ g17 ≤ y13.length)) ?_ ?_
   ·
    rintro _ _ ⟨y13, y14, y15, g17, hm, rfl, rfl, q16, q18⟩
    subst hk19
    refine detn [(0, aR 0 1 m0), (1, aI a2), (2, aI a3), (3, .fn 47 [] [.ptr 1 0]), (8, aI (IntKind.wrap .i64 (y7 + 1)))] (by kernel_rfl) ?_
    exact ⟨_, _, tidyL [(0, aR 0 1 m0), (1, aI a2), (2, aI a3), (3, .fn 47 [] [.ptr 1 0]), (8, aI (IntKind.wrap .i64 (y7 + 1)))] [bR 22 1 (rSl R_api_Value) y13 g17 0, .box [.pv (encSl R_api_Key a1)] false] (by kernel_rfl), ⟨y13, (IntKind.wrap .i64 (y7 + 1)), g17, hm, rfl, rfl, (by first | rfl | assumption | omega | (simp only [List.length_set, List.length_append, List.length_cons, List.length_nil, List.length_replicate] at *; omega)), (by first | exact Nat.zero_le _ | exact Nat.le_refl _ | assumption | omega | (simp only [List.length_set, List.length_append, List.length_cons, List.length_nil, List.length_replicate] at *; omega))⟩⟩
   refine bq (sq (detn [(0, aR 0 1 m0), (1, aI a2), (2, aI a3), (3, .fn 47 [] [.ptr 1 0]), (8, aI y7), (9, aI y7)] (by kernel_rfl) (bq ?_)))
   refine loopF (fun mm t H => (∃ (y25 : (List (Option (List api_Value)))) (y26 : Int) (g28 : Nat), slices_insertionSortCmpFunc_Value_row_Sort_1_r_2_l4 n a1 a2 k19 mm y25 y26 = some r ∧ t = mk 53 [(0, aR 0 1 m0), (1, aI a2), (2, aI a3), (3, .fn 47 [] [.ptr 1 0]), (8, aI y7), (9, aI y26)] ∧ H = [bR 22 1 (rSl R_api_Value) y25 g28 0, .box [.pv (encSl R_api_Key a1)] false] ∧ y25.length = m0 ∧ g28 ≤ y25.length)) (⟨y6, y7, g9, hm, rfl, rfl, (by first | rfl | assumption | omega | (simp only [List.length_set, List.length_append, List.length_cons, List.length_nil, List.length_replicate] at *; omega)), (by first | exact Nat.zero_le _ | exact Nat.le_refl _ | assumption | omega | (simp only [List.length_set, List.length_append, List.length_cons, List.length_nil, List.length_replicate] at *; omega))⟩) ?_ ?_
   · rintro _ _ ⟨y25, y26, g28, hm, _⟩; exact nomatch hm
   rintro m30 _ _ ⟨y25, y26, g28, hm, rfl, rfl, q27, q29⟩
   simp only [slices_insertionSortCmpFunc_Value_row_Sort_1_r_2_l4] at hm
   refine sq (sq (rgd (shd 4 [(21, aB (decide (y26 > a2))), (20, aB (decide (y26 > a2))), (19, aI a2), (18, aI y26)] (by kernel_rfl) ?_)))
   rcases bif_some hm with ⟨h31, hm⟩ | ⟨h31, hm⟩
   ·
    refine knownd [21, 20] h31 (by kernel_rfl) (shd 3 [(24, aI y26), (23, aR 0 1 m0), (22, .fn 47 [] [.ptr 1 0])] (by kernel_rfl) ?_)
    obtain ⟨x32, h33, hm⟩ := bs hm
    refine dvd 25 (v := .eptr 0 0 m0 1 (0 + Int.toNat y26) 0) (ia_refO y25 .i64 (n := m0) (id := 0) (esz := 1) t25 t22 h33 (by omega) rfl (by kernel_rfl)) (by kernel_rfl) (dvd 26 (v := .pv (encSl R_api_Value x32)) (ld_eptrO (rSl R_api_Value) y25 (n := m0) (esz := 1) (j := y26) (off := 0) (id := 0) t22 rfl h33 (by omega) (by omega) (by kernel_rfl) (by kernel_rfl)) (by kernel_rfl) (shd 3 [(29, aI (IntKind.wrap .i64 (y26 - 1))), (28, aI y26), (27, aR 0 1 m0)] (by kernel_rfl) ?_))
    obtain ⟨x34, h35, hm⟩ := bs hm
    refine dvd 30 (v := .eptr 0 0 m0 1 (0 + Int.toNat (IntKind.wrap .i64 (y26 - 1))) 0) (ia_refO y25 .i64 (n := m0) (id := 0) (esz := 1) t25 t22 h35 (by omega) rfl (by kernel_rfl)) (by kernel_rfl) (dvd 31 (v := .pv (encSl R_api_Value x34)) (ld_eptrO (rSl R_api_Value) y25 (n := m0) (esz := 1) (j := (IntKind.wrap .i64 (y26 - 1))) (off := 0) (id := 0) t22 rfl h35 (by omega) (by omega) (by kernel_rfl) (by kernel_rfl)) (by kernel_rfl) ?_)
    obtain ⟨x36, h37, hm⟩ := bs hm
    refine dOd [(32, aI x36)] [bR 22 1 (rSl R_api_Value) y25 g28 0, .box [.pv (encSl R_api_Key a1)] false] (cpureR [1] [.pv (encSl R_api_Value x32), .pv (encSl R_api_Value x34), .ptr 1 0] (fl := true) (by kernel_rfl) (by kernel_rfl) (by kernel_rfl) (ok_row_Sort_1 h37) (by kernel_rfl) (by kernel_rfl)) (by kernel_rfl) (shd 2 [(34, aB (decide (x36 < 0))), (33, aB (decide (x36 < 0)))] (by kernel_rfl) (find [(0, aR 0 1 m0), (1, aI a2), (2, aI a3), (3, .fn 47 [] [.ptr 1 0]), (8, aI y7), (9, aI y26), (34, aB (decide (x36 < 0)))] rfl (by kernel_rfl) (by kernel_rfl) ?_))
    rcases bif_some hm with ⟨h38, hm⟩ | ⟨h38, hm⟩
    ·
     refine ct h38 (by kernel_rfl) (wp_skip (sq (bq (rgd (shd 8 [(44, aI (IntKind.wrap .i64 (y26 - 1))), (43, aI y26), (42, aR 0 1 m0), (41, aI (IntKind.wrap .i64 (y26 - 1))), (40, aI y26), (39, aR 0 1 m0), (38, aI y26), (37, aR 0 1 m0)] (by kernel_rfl) (dvd 45 (v := .eptr 0 0 m0 1 (0 + Int.toNat (IntKind.wrap .i64 (y26 - 1))) 0) (ia_refO y25 .i64 (n := m0) (id := 0) (esz := 1) t25 t22 h35 (by omega) rfl (by kernel_rfl)) (by kernel_rfl) (dvd 46 (v := .pv (encSl R_api_Value x34)) (ld_eptrO (rSl R_api_Value) y25 (n := m0) (esz := 1) (j := (IntKind.wrap .i64 (y26 - 1))) (off := 0) (id := 0) t22 rfl h35 (by omega) (by omega) (by kernel_rfl) (by kernel_rfl)) (by kernel_rfl) (shd 2 [(48, aI y26), (47, aR 0 1 m0)] (by kernel_rfl) (dvd 49 (v := .eptr 0 0 m0 1 (0 + Int.toNat y26) 0) (ia_refO y25 .i64 (n := m0) (id := 0) (esz := 1) t25 t22 h33 (by omega) rfl (by kernel_rfl)) (by kernel_rfl) (dvd 50 (v := .pv (encSl R_api_Value x32)) (ld_eptrO (rSl R_api_Value) y25 (n := m0) (esz := 1) (j := y26) (off := 0) (id := 0) t22 rfl h33 (by omega) (by omega) (by kernel_rfl) (by kernel_rfl)) (by kernel_rfl) (dvd 51 (v := .eptr 0 0 m0 1 (0 + Int.toNat y26) 0) (ia_refO y25 .i64 (n := m0) (id := 0) (esz := 1) t25 t22 h33 (by omega) rfl (by kernel_rfl)) (by kernel_rfl) (dOd [] [bR 22 1 (rSl R_api_Value) (y25.set (Int.toNat y26) x34) m0 0, .box [.pv (encSl R_api_Key a1)] false] (st_eptrO (rSl R_api_Value) y25 x34 (n := m0) (esz := 1) (v := .pv (encSl R_api_Value x34)) (j := y26) (off := 0) (id := 0) t22 rfl h33 (by omega) (by omega) rfl rfl rfl rfl (by kernel_rfl)) (by kernel_rfl) ?_))))))))))))
     obtain ⟨x39, h40, hm⟩ := bs hm
     refine dvd 52 (v := .eptr 0 0 m0 1 (0 + Int.toNat (IntKind.wrap .i64 (y26 - 1))) 0) (ia_refO (y25.set (Int.toNat y26) x34) .i64 (n := m0) (id := 0) (esz := 1) t25 t22 h40 (by first | rfl | assumption | omega | (simp only [List.length_set, List.length_append, List.length_cons, List.length_nil, List.length_replicate] at *; omega)) rfl (by kernel_rfl)) (by kernel_rfl) (dOd [] [bR 22 1 (rSl R_api_Value) ((y25.set (Int.toNat y26) x34).set (Int.toNat (IntKind.wrap .i64 (y26 - 1))) x32) m0 0, .box [.pv (encSl R_api_Key a1)] false] (st_eptrO (rSl R_api_Value) (y25.set (Int.toNat y26) x34) x32 (n := m0) (esz := 1) (v := .pv (encSl R_api_Value x32)) (j := (IntKind.wrap .i64 (y26 - 1))) (off := 0) (id := 0) t22 rfl h40 (by first | rfl | assumption | omega | (simp only [List.length_set, List.length_append, List.length_cons, List.length_nil, List.length_replicate] at *; omega)) (by first | exact Nat.zero_le _ | exact Nat.le_refl _ | assumption | omega | (simp only [List.length_set, List.length_append, List.length_cons, List.length_nil, List.length_replicate] at *; omega)) rfl rfl rfl rfl (by kernel_rfl)) (by kernel_rfl) (find [(0, aR 0 1 m0), (1, aI a2), (2, aI a3), (3, .fn 47 [] [.ptr 1 0]), (8, aI y7), (9, aI y26)] rfl (by kernel_rfl) (by kernel_rfl) (detn [(0, aR 0 1 m0), (1, aI a2), (2, aI a3), (3, .fn 47 [] [.ptr 1 0]), (8, aI y7), (9, aI (IntKind.wrap .i64 (y26 - 1)))] (by kernel_rfl) ?_)))
     exact ⟨_, _, tidyL [(0, aR 0 1 m0), (1, aI a2), (2, aI a3), (3, .fn 47 [] [.ptr 1 0]), (8, aI y7), (9, aI (IntKind.wrap .i64 (y26 - 1)))] [bR 22 1 (rSl R_api_Value) ((y25.set (Int.toNat y26) x34).set (Int.toNat (IntKind.wrap .i64 (y26 - 1))) x32) m0 0, .box [.pv (encSl R_api_Key a1)] false] (by kernel_rfl), ⟨((y25.set (Int.toNat y26) x34).set (Int.toNat (IntKind.wrap .i64 (y26 - 1))) x32), (IntKind.wrap .i64 (y26 - 1)), m0, hm, rfl, rfl, (by first | rfl | assumption | omega | (simp only [List.length_set, List.length_append, List.length_cons, List.length_nil, List.length_replicate] at *; omega)), (by first | exact Nat.zero_le _ | exact Nat.le_refl _ | assumption | omega | (simp only [List.length_set, List.length_append, List.length_cons, List.length_nil, List.length_replicate] at *; omega))⟩⟩
    ·
     refine cf h38 (by kernel_rfl) (wp_exit ?_)
     exact ⟨y25, (decide (x36 < 0)), y26, g28, hm, rfl, rfl, (by first | rfl | assumption | omega | (simp only [List.length_set, List.length_append, List.length_cons, List.length_nil, List.length_replicate] at *; omega)), (by first | exact Nat.zero_le _ | exact Nat.le_refl _ | assumption | omega | (simp only [List.length_set, List.length_append, List.length_cons, List.length_nil, List.length_replicate] at *; omega))⟩
   ·
    refine knownd [21, 20] h31 (by kernel_rfl) (shd 13 [(34, aB false), (33, .undef), (32, .undef), (31, .undef), (30, .undef), (29, .undef), (28, .undef), (27, .undef), (26, .undef), (25, .undef), (24, .undef), (23, .undef), (22, .undef)] (by kernel_rfl) (find [(0, aR 0 1 m0), (1, aI a2), (2, aI a3), (3, .fn 47 [] [.ptr 1 0]), (8, aI y7), (9, aI y26), (34, aB false)] rfl (by kernel_rfl) (by kernel_rfl) (cF (by kernel_rfl) (wp_exit ?_))))
    exact ⟨y25, false, y26, g28, hm, rfl, rfl, (by first | rfl | assumption | omega | (simp only [List.length_set, List.length_append, List.length_cons, List.length_nil, List.length_replicate] at *; omega)), (by first | exact Nat.zero_le _ | exact Nat.le_refl _ | assumption | omega | (simp only [List.length_set, List.length_append, List.length_cons, List.length_nil, List.length_replicate] at *; omega))⟩
  ·
   refine cf h12 (by kernel_rfl) (wp_exit ?_)
   obtain rfl := Option.some.inj hm
   exact ⟨trivial, .tup [], [bR 22 1 (rSl R_api_Value) y6 g9 0, .box [.pv (encSl R_api_Key a1)] false], by kernel_rfl, g9, (by first | rfl | assumption | omega | (simp only [List.length_set, List.length_append, List.length_cons, List.length_nil, List.length_replicate] at *; omega)), (by first | exact Nat.zero_le _ | exact Nat.le_refl _ | assumption | omega | (simp only [List.length_set, List.length_append, List.length_cons, List.length_nil, List.length_replicate] at *; omega)), rfl, rfl⟩
theorem ok_slices_swapRangeCmpFunc_Value_row_Sort_1_r (m0 : Nat) (f0 : Nat) {n : Nat} {a0 : (List (Option (List api_Value)))} {a1 : (Option (List api_Key))} {a2 : Int} {a3 : Int} {a4 : Int} {r : (List (Option (List api_Value)))} (hm0 : a0.length = m0) (hf0 : f0 ≤ a0.length) (hm : slices_swapRangeCmpFunc_Value_row_Sort_1_r n a0 a1 a2 a3 a4 = some r) :
    ∃ vv H1, call G n 109 [aR 0 1 m0, aI a2, aI a3, aI a4, .fn 47 [] [.ptr 1 0]] [bR 22 1 (rSl R_api_Value) a0 f0 0, .box [.pv (encSl R_api_Key a1)] false] = some (.ret vv, H1) ∧ (match r with | r0 => (∃ (e1 : Nat), r0.length = m0 ∧ e1 ≤ r0.length ∧ vv = .tup [] ∧ H1 = [bR 22 1 (rSl R_api_Value) r0 e1 0, .box [.pv (encSl R_api_Key a1)] false])) := by
  unfold slices_swapRangeCmpFunc_Value_row_Sort_1_r at hm
  obtain ⟨n, rfl, h0⟩ := at1_some hm
  replace hm := h0; clear h0
  refine callE 38 [(0, aR 0 1 m0), (1, aI a2), (2, aI a3), (3, aI a4), (4, .fn 47 [] [.ptr 1 0])] func109 rfl (by kernel_rfl) (sq (detn [(0, aR 0 1 m0), (1, aI a2), (2, aI a3), (3, aI a4), (10, aI 0)] (by kernel_rfl) (bq ?_)))
  refine loopF (fun mm t H => (∃ (y6 : (List (Option (List api_Value)))) (y7 : Int) (g9 : Nat), slices_swapRangeCmpFunc_Value_row_Sort_1_r_l1 n a2 a3 a4 mm y6 y7 = some r ∧ t = mk 38 [(0, aR 0 1 m0), (1, aI a2), (2, aI a3), (3, aI a4), (10, aI y7)] ∧ H = [bR 22 1 (rSl R_api_Value) y6 g9 0, .box [.pv (encSl R_api_Key a1)] false] ∧ y6.length = m0 ∧ g9 ≤ y6.length)) (⟨a0, 0, f0, hm, rfl, rfl, (by first | rfl | assumption | omega | (simp only [List.length_set, List.length_append, List.length_cons, List.length_nil, List.length_replicate] at *; omega)), (by first | exact Nat.zero_le _ | exact Nat.le_refl _ | assumption | omega | (simp only [List.length_set, List.length_append, List.length_cons, List.length_nil, List.length_replicate] at *; omega))⟩) ?_ ?_
  · rintro _ _ ⟨y6, y7, g9, hm, _⟩; exact nomatch hm
  rintro m11 _ _ ⟨y6, y7, g9, hm, rfl, rfl, q8, q10⟩
  simp only [slices_swapRangeCmpFunc_Value_row_Sort_1_r_l1] at hm
  refine sq (sq (detn [(0, aR 0 1 m0), (1, aI a2), (2, aI a3), (3, aI a4), (10, aI y7), (13, aB (decide (y7 < a4)))] (by kernel_rfl) ?_))
  rcases bif_some hm with ⟨h12, hm⟩ | ⟨h12, hm⟩
  ·
   refine ct h12 (by kernel_rfl) (wp_skip (sq (bq (rgd (shd 12 [(27, aI (IntKind.wrap .i64 (a3 + y7))), (26, aI y7), (25, aI a3), (24, aR 0 1 m0), (23, aI (IntKind.wrap .i64 (a3 + y7))), (22, aI y7), (21, aI a3), (20, aR 0 1 m0), (19, aI (IntKind.wrap .i64 (a2 + y7))), (18, aI y7), (17, aI a2), (16, aR 0 1 m0)] (by kernel_rfl) ?_)))))
   obtain ⟨x13, h14, hm⟩ := bs hm
   refine dvd 28 (v := .eptr 0 0 m0 1 (0 + Int.toNat (IntKind.wrap .i64 (a3 + y7))) 0) (ia_refO y6 .i64 (n := m0) (id := 0) (esz := 1) t25 t22 h14 (by omega) rfl (by kernel_rfl)) (by kernel_rfl) (dvd 29 (v := .pv (encSl R_api_Value x13)) (ld_eptrO (rSl R_api_Value) y6 (n := m0) (esz := 1) (j := (IntKind.wrap .i64 (a3 + y7))) (off := 0) (id := 0) t22 rfl h14 (by omega) (by omega) (by kernel_rfl) (by kernel_rfl)) (by kernel_rfl) (shd 4 [(33, aI (IntKind.wrap .i64 (a2 + y7))), (32, aI y7), (31, aI a2), (30, aR 0 1 m0)] (by kernel_rfl) ?_))
   obtain ⟨x15, h16, hm⟩ := bs hm
   refine dvd 34 (v := .eptr 0 0 m0 1 (0 + Int.toNat (IntKind.wrap .i64 (a2 + y7))) 0) (ia_refO y6 .i64 (n := m0) (id := 0) (esz := 1) t25 t22 h16 (by omega) rfl (by kernel_rfl)) (by kernel_rfl) (dvd 35 (v := .pv (encSl R_api_Value x15)) (ld_eptrO (rSl R_api_Value) y6 (n := m0) (esz := 1) (j := (IntKind.wrap .i64 (a2 + y7))) (off := 0) (id := 0) t22 rfl h16 (by omega) (by omega) (by kernel_rfl) (by kernel_rfl)) (by kernel_rfl) (dvd 36 (v := .eptr 0 0 m0 1 (0 + Int.toNat (IntKind.wrap .i64 (a2 + y7))) 0) (ia_refO y6 .i64 (n := m0) (id := 0) (esz := 1) t25 t22 h16 (by omega) rfl (by kernel_rfl)) (by kernel_rfl) (dOd [] [bR 22 1 (rSl R_api_Value) (y6.set (Int.toNat (IntKind.wrap .i64 (a2 + y7))) x13) m0 0, .box [.pv (encSl R_api_Key a1)] false] (st_eptrO (rSl R_api_Value) y6 x13 (n := m0) (esz := 1) (v := .pv (encSl R_api_Value x13)) (j := (IntKind.wrap .i64 (a2 + y7))) (off := 0) (id := 0) t22 rfl h16 (by omega) (by omega) rfl rfl rfl rfl (by kernel_rfl)) (by kernel_rfl) ?_)))
   obtain ⟨x17, h18, hm⟩ := bs hm
   refine dvd 37 (v := .eptr 0 0 m0 1 (0 + Int.toNat (IntKind.wrap .i64 (a3 + y7))) 0) (ia_refO (y6.set (Int.toNat (IntKind.wrap .i64 (a2 + y7))) x13) .i64 (n := m0) (id := 0) (esz := 1) t25 t22 h18 (by first | rfl | assumption | omega | (simp only [List.length_set, List.length_append, List.length_cons, List.length_nil, List.length_replicate] at *; omega)) rfl (by kernel_rfl)) (by kernel_rfl) (dOd [] [bR 22 1 (rSl R_api_Value) ((y6.set (Int.toNat (IntKind.wrap .i64 (a2 + y7))) x13).set (Int.toNat (IntKind.wrap .i64 (a3 + y7))) x15) m0 0, .box [.pv (encSl R_api_Key a1)] false] (st_eptrO (rSl R_api_Value) (y6.set (Int.toNat (IntKind.wrap .i64 (a2 + y7))) x13) x15 (n := m0) (esz := 1) (v := .pv (encSl R_api_Value x15)) (j := (IntKind.wrap .i64 (a3 + y7))) (off := 0) (id := 0) t22 rfl h18 (by first | rfl | assumption | omega | (simp only [List.length_set, List.length_append, List.length_cons, List.length_nil, List.length_replicate] at *; omega)) (by first | exact Nat.zero_le _ | exact Nat.le_refl _ | assumption | omega | (simp only [List.length_set, List.length_append, List.length_cons, List.length_nil, List.length_replicate] at *; omega)) rfl rfl rfl rfl (by kernel_rfl)) (by kernel_rfl) (find [(0, aR 0 1 m0), (1, aI a2), (2, aI a3), (3, aI a4), (10, aI y7)] rfl (by kernel_rfl) (by kernel_rfl) (detn [(0, aR 0 1 m0), (1, aI a2), (2, aI a3), (3, aI a4), (10, aI (IntKind.wrap .i64 (y7 + 1)))] (by kernel_rfl) ?_)))
   exact ⟨_, _, tidyL [(0, aR 0 1 m0), (1, aI a2), (2, aI a3), (3, aI a4), (10, aI (IntKind.wrap .i64 (y7 + 1)))] [bR 22 1 (rSl R_api_Value) ((y6.set (Int.toNat (IntKind.wrap .i64 (a2 + y7))) x13).set (Int.toNat (IntKind.wrap .i64 (a3 + y7))) x15) m0 0, .box [.pv (encSl R_api_Key a1)] false] (by kernel_rfl), ⟨((y6.set (Int.toNat (IntKind.wrap .i64 (a2 + y7))) x13).set (Int.toNat (IntKind.wrap .i64 (a3 + y7))) x15), (IntKind.wrap .i64 (y7 + 1)), m0, hm, rfl, rfl, (by first | rfl | assumption | omega | (simp only [List.length_set, List.length_append, List.length_cons, List.length_nil, List.length_replicate] at *; omega)), (by first | exact Nat.zero_le _ | exact Nat.le_refl _ | assumption | omega | (simp only [List.length_set, List.length_append, List.length_cons, List.length_nil, List.length_replicate] at *; omega))⟩⟩
  ·
   refine cf h12 (by kernel_rfl) (wp_exit ?_)
   obtain rfl := Option.some.inj hm
   exact ⟨trivial, .tup [], [bR 22 1 (rSl R_api_Value) y6 g9 0, .box [.pv (encSl R_api_Key a1)] false], by kernel_rfl, g9, (by first | rfl | assumption | omega | (simp only [List.length_set, List.length_append, List.length_cons, List.length_nil, List.length_replicate] at *; omega)), (by first | exact Nat.zero_le _ | exact Nat.le_refl _ | assumption | omega | (simp only [List.length_set, List.length_append, List.length_cons, List.length_nil, List.length_replicate] at *; omega)), rfl, rfl⟩
theorem ok_slices_rotateCmpFunc_Value_row_Sort_1_r (m0 : Nat) (f0 : Nat) {n : Nat} {a0 : (List (Option (List api_Value)))} {a1 : (Option (List api_Key))} {a2 : Int} {a3 : Int} {a4 : Int} {r : (List (Option (List api_Value)))} (hm0 : a0.length = m0) (hf0 : f0 ≤ a0.length) (hm : slices_rotateCmpFunc_Value_row_Sort_1_r n a0 a1 a2 a3 a4 = some r) :
    ∃ vv H1, call G n 103 [aR 0 1 m0, aI a2, aI a3, aI a4, .fn 47 [] [.ptr 1 0]] [bR 22 1 (rSl R_api_Value) a0 f0 0, .box [.pv (encSl R_api_Key a1)] false] = some (.ret vv, H1) ∧ (match r with | r0 => (∃ (e1 : Nat), r0.length = m0 ∧ e1 ≤ r0.length ∧ vv = .tup [] ∧ H1 = [bR 22 1 (rSl R_api_Value) r0 e1 0, .box [.pv (encSl R_api_Key a1)] false])) := by
  unfold slices_rotateCmpFunc_Value_row_Sort_1_r at hm
  obtain ⟨n, rfl, h0⟩ := at1_some hm
  replace hm := h0; clear h0
  refine callE 58 [(0, aR 0 1 m0), (1, aI a2), (2, aI a3), (3, aI a4), (4, .fn 47 [] [.ptr 1 0])] func103 rfl (by kernel_rfl) (sq (detn [(0, aR 0 1 m0), (2, aI a3), (3, aI a4), (4, .fn 47 [] [.ptr 1 0]), (10, aI (IntKind.wrap .i64 (a3 - a2)))] (by kernel_rfl) (sq (detn [(0, aR 0 1 m0), (2, aI a3), (4, .fn 47 [] [.ptr 1 0]), (10, aI (IntKind.wrap .i64 (a3 - a2))), (11, aI (IntKind.wrap .i64 (a4 - a3)))] (by kernel_rfl) ?_))))
  obtain ⟨k8, hk8, hm⟩ := withK_some hm
  refine mid (fun t H => (∃ (y1 : (List (Option (List api_Value)))) (y2 : Int) (y3 : Int) (y4 : Bool) (g6 : Nat), k8 y1 y2 = some r ∧ t = mk 58 [(0, aR 0 1 m0), (2, aI a3), (4, .fn 47 [] [.ptr 1 0]), (10, aI y2), (11, aI y3), (20, aB y4)] ∧ H = [bR 22 1 (rSl R_api_Value) y1 g6 0, .box [.pv (encSl R_api_Key a1)] false] ∧ y1.length = m0 ∧ g6 ≤ y1.length)) ?_ ?_
  ·
   rintro _ _ ⟨y1, y2, y3, y4, g6, hm, rfl, rfl, q5, q7⟩
   subst hk8
   refine rg (sh 7 [(56, .fn 47 [] [.ptr 1 0]), (55, aI y2), (54, aI a3), (53, aI (IntKind.wrap .i64 (a3 - y2))), (52, aI y2), (51, aI a3), (50, aR 0 1 m0)] (by kernel_rfl) ?_)
   obtain ⟨x10, h9, hm⟩ := bs hm
   obtain ⟨vv, H1, hC, g11, q12, q13, rfl, rfl⟩ := ok_slices_swapRangeCmpFunc_Value_row_Sort_1_r m0 g6 (by first | rfl | assumption | omega | (simp only [List.length_set, List.length_append, List.length_cons, List.length_nil, List.length_replicate] at *; omega)) (by first | exact Nat.zero_le _ | exact Nat.le_refl _ | assumption | omega | (simp only [List.length_set, List.length_append, List.length_cons, List.length_nil, List.length_replicate] at *; omega)) h9
   refine dR [(57, .tup [])] [bR 22 1 (rSl R_api_Value) x10 g11 0, .box [.pv (encSl R_api_Key a1)] false] [0, 1] [aR 0 1 m0, aI (IntKind.wrap .i64 (a3 - y2)), aI a3, aI y2, .fn 47 [] [.ptr 1 0]] (by kernel_rfl) (by kernel_rfl) (by kernel_rfl) hC (by kernel_rfl) (fin [] rfl (by kernel_rfl) ?_)
   obtain rfl := Option.some.inj hm
   exact ⟨trivial, .tup [], [bR 22 1 (rSl R_api_Value) x10 g11 0, .box [.pv (encSl R_api_Key a1)] false], by kernel_rfl, g11, (by first | rfl | assumption | omega | (simp only [List.length_set, List.length_append, List.length_cons, List.length_nil, List.length_replicate] at *; omega)), (by first | exact Nat.zero_le _ | exact Nat.le_refl _ | assumption | omega | (simp only [List.length_set, List.length_append, List.length_cons, List.length_nil, List.length_replicate] at *; omega)), rfl, rfl⟩
  refine bq ?_
  refine loopF (fun mm t H => (∃ (y20 : (List (Option (List api_Value)))) (y21 : Int) (y22 : Int) (g24 : Nat), slices_rotateCmpFunc_Value_row_Sort_1_r_l2 n a1 a3 k8 mm y20 y21 y22 = some r ∧ t = mk 58 [(0, aR 0 1 m0), (2, aI a3), (4, .fn 47 [] [.ptr 1 0]), (10, aI y21), (11, aI y22)] ∧ H = [bR 22 1 (rSl R_api_Value) y20 g24 0, .box [.pv (encSl R_api_Key a1)] false] ∧ y20.length = m0 ∧ g24 ≤ y20.length)) (⟨a0, (IntKind.wrap .i64 (a3 - a2)), (IntKind.wrap .i64 (a4 - a3)), f0, hm, rfl, rfl, (by first | rfl | assumption | omega | (simp only [List.length_set, List.length_append, List.length_cons, List.length_nil, List.length_replicate] at *; omega)), (by first | exact Nat.zero_le _ | exact Nat.le_refl _ | assumption | omega | (simp only [List.length_set, List.length_append, List.length_cons, List.length_nil, List.length_replicate] at *; omega))⟩) ?_ ?_
  · rintro _ _ ⟨y20, y21, y22, g24, hm, _⟩; exact nomatch hm
  rintro m26 _ _ ⟨y20, y21, y22, g24, hm, rfl, rfl, q23, q25⟩
  simp only [slices_rotateCmpFunc_Value_row_Sort_1_r_l2] at hm
  refine sq (sq (detn [(0, aR 0 1 m0), (2, aI a3), (4, .fn 47 [] [.ptr 1 0]), (10, aI y21), (11, aI y22), (20, aB (y21 != y22))] (by kernel_rfl) ?_))
  rcases bif_some hm with ⟨h27, hm⟩ | ⟨h27, hm⟩
  ·
   refine ct h27 (by kernel_rfl) (wp_skip (bq (sq (detn [(0, aR 0 1 m0), (2, aI a3), (4, .fn 47 [] [.ptr 1 0]), (10, aI y21), (11, aI y22), (23, aB (decide (y21 > y22)))] (by kernel_rfl) ?_))))
   rcases bif_some hm with ⟨h28, hm⟩ | ⟨h28, hm⟩
   ·
    refine ct h28 (by kernel_rfl) (sq (rg (sh 7 [(30, .fn 47 [] [.ptr 1 0]), (29, aI y22), (28, aI a3), (27, aI (IntKind.wrap .i64 (a3 - y21))), (26, aI y21), (25, aI a3), (24, aR 0 1 m0)] (by kernel_rfl) ?_)))
    obtain ⟨x30, h29, hm⟩ := bs hm
    obtain ⟨vv, H1, hC, g31, q32, q33, rfl, rfl⟩ := ok_slices_swapRangeCmpFunc_Value_row_Sort_1_r m0 g24 (by first | rfl | assumption | omega | (simp only [List.length_set, List.length_append, List.length_cons, List.length_nil, List.length_replicate] at *; omega)) (by first | exact Nat.zero_le _ | exact Nat.le_refl _ | assumption | omega | (simp only [List.length_set, List.length_append, List.length_cons, List.length_nil, List.length_replicate] at *; omega)) h29
    refine dR [(31, .tup [])] [bR 22 1 (rSl R_api_Value) x30 g31 0, .box [.pv (encSl R_api_Key a1)] false] [0, 1] [aR 0 1 m0, aI (IntKind.wrap .i64 (a3 - y21)), aI a3, aI y22, .fn 47 [] [.ptr 1 0]] (by kernel_rfl) (by kernel_rfl) (by kernel_rfl) hC (by kernel_rfl) (fin [(0, aR 0 1 m0), (2, aI a3), (4, .fn 47 [] [.ptr 1 0]), (10, aI y21), (11, aI y22)] rfl (by kernel_rfl) (detn [(0, aR 0 1 m0), (2, aI a3), (4, .fn 47 [] [.ptr 1 0]), (10, aI (IntKind.wrap .i64 (y21 - y22))), (11, aI y22)] (by kernel_rfl) ?_))
    exact ⟨_, _, tidyL [(0, aR 0 1 m0), (2, aI a3), (4, .fn 47 [] [.ptr 1 0]), (10, aI (IntKind.wrap .i64 (y21 - y22))), (11, aI y22)] [bR 22 1 (rSl R_api_Value) x30 g31 0, .box [.pv (encSl R_api_Key a1)] false] (by kernel_rfl), ⟨x30, (IntKind.wrap .i64 (y21 - y22)), y22, g31, hm, rfl, rfl, (by first | rfl | assumption | omega | (simp only [List.length_set, List.length_append, List.length_cons, List.length_nil, List.length_replicate] at *; omega)), (by first | exact Nat.zero_le _ | exact Nat.le_refl _ | assumption | omega | (simp only [List.length_set, List.length_append, List.length_cons, List.length_nil, List.length_replicate] at *; omega))⟩⟩
   ·
    refine cf h28 (by kernel_rfl) (sq (rg (sh 11 [(45, .fn 47 [] [.ptr 1 0]), (44, aI y21), (43, aI (IntKind.wrap .i64 ((IntKind.wrap .i64 (a3 + y22)) - y21))), (42, aI y21), (41, aI (IntKind.wrap .i64 (a3 + y22))), (40, aI y22), (39, aI a3), (38, aI (IntKind.wrap .i64 (a3 - y21))), (37, aI y21), (36, aI a3), (35, aR 0 1 m0)] (by kernel_rfl) ?_)))
    obtain ⟨x35, h34, hm⟩ := bs hm
    obtain ⟨vv, H1, hC, g36, q37, q38, rfl, rfl⟩ := ok_slices_swapRangeCmpFunc_Value_row_Sort_1_r m0 g24 (by first | rfl | assumption | omega | (simp only [List.length_set, List.length_append, List.length_cons, List.length_nil, List.length_replicate] at *; omega)) (by first | exact Nat.zero_le _ | exact Nat.le_refl _ | assumption | omega | (simp only [List.length_set, List.length_append, List.length_cons, List.length_nil, List.length_replicate] at *; omega)) h34
    refine dR [(46, .tup [])] [bR 22 1 (rSl R_api_Value) x35 g36 0, .box [.pv (encSl R_api_Key a1)] false] [0, 1] [aR 0 1 m0, aI (IntKind.wrap .i64 (a3 - y21)), aI (IntKind.wrap .i64 ((IntKind.wrap .i64 (a3 + y22)) - y21)), aI y21, .fn 47 [] [.ptr 1 0]] (by kernel_rfl) (by kernel_rfl) (by kernel_rfl) hC (by kernel_rfl) (fin [(0, aR 0 1 m0), (2, aI a3), (4, .fn 47 [] [.ptr 1 0]), (10, aI y21), (11, aI y22)] rfl (by kernel_rfl) (detn [(0, aR 0 1 m0), (2, aI a3), (4, .fn 47 [] [.ptr 1 0]), (10, aI y21), (11, aI (IntKind.wrap .i64 (y22 - y21)))] (by kernel_rfl) ?_))
    exact ⟨_, _, tidyL [(0, aR 0 1 m0), (2, aI a3), (4, .fn 47 [] [.ptr 1 0]), (10, aI y21), (11, aI (IntKind.wrap .i64 (y22 - y21)))] [bR 22 1 (rSl R_api_Value) x35 g36 0, .box [.pv (encSl R_api_Key a1)] false] (by kernel_rfl), ⟨x35, y21, (IntKind.wrap .i64 (y22 - y21)), g36, hm, rfl, rfl, (by first | rfl | assumption | omega | (simp only [List.length_set, List.length_append, List.length_cons, List.length_nil, List.length_replicate] at *; omega)), (by first | exact Nat.zero_le _ | exact Nat.le_refl _ | assumption | omega | (simp only [List.length_set, List.length_append, List.length_cons, List.length_nil, List.length_replicate] at *; omega))⟩⟩
  ·
   refine cf h27 (by kernel_rfl) (wp_exit ?_)
   exact ⟨y20, y21, y22, (y21 != y22), g24, hm, rfl, rfl, (by first | rfl | assumption | omega | (simp only [List.length_set, List.length_append, List.length_cons, List.length_nil, List.length_replicate] at *; omega)), (by first | exact Nat.zero_le _ | exact Nat.le_refl _ | assumption | omega | (simp only [List.length_set, List.length_append, List.length_cons, List.length_nil, List.length_replicate] at *; omega))⟩
end Go.Ab.S1
