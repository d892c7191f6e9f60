import Derived.Test.YtmdjdpnmbgdngaaS1
import Derived.Test.YtmdjdpnmbgdngaaPA
namespace Go.Ab.S1
open Go Go.Ab Go.Pl
open Go.Proofs.Try
set_option linter.unusedVariables false
set_option linter.unusedSimpArgs false
set_option maxRecDepth 100000
theorem ok_ref05_Bulk {n : Nat} {a0 : (Option (List (Option (List api_Value))))} {a1 : Int} {r : Int} (hm : ref05_Bulk n a0 a1 = some r) :
    call G n 31 [.pv (encSl (rSl R_api_Value) a0), aI a1] [] = some (.ret (aI r), []) := by
  unfold ref05_Bulk at hm
  obtain ⟨n, rfl, h0⟩ := at1_some hm
  replace hm := h0; clear h0
  refine callL 71 [(0, .pv (encSl (rSl R_api_Value) a0)), (1, aI a1)] func31 rfl (by kernel_rfl) (sq (detn [(0, .pv (encSl (rSl R_api_Value) a0)), (1, aI a1)] (by kernel_rfl) ?_))
  refine sq (sq (rg (sh 1 [(8, .pv (encSl (rSl R_api_Value) a0))] (by kernel_rfl) (dv 9 (v := aI ((sll a0).length : Int)) (len_slO (rSl R_api_Value) a0 t25 (by kernel_rfl)) (by kernel_rfl) (sh 2 [(11, aB (decide (((sll a0).length : Int) > a1))), (10, aI a1)] (by kernel_rfl) (fin [(0, .pv (encSl (rSl R_api_Value) a0)), (1, aI a1), (11, aB (decide (((sll a0).length : Int) > a1)))] rfl (by kernel_rfl) ?_))))))
  rcases bif_some hm with ⟨h1, hm⟩ | ⟨h1, hm⟩
  ·
   refine ct h1 (by kernel_rfl) (sq (detn [(4, aI (IntKind.wrap .i64 (a1 + 1)))] (by kernel_rfl) (wp_ret ?_)))
   obtain rfl := Option.some.inj hm
   exact ⟨trivial, by kernel_rfl⟩
  ·
   refine cf h1 (by kernel_rfl) (wp_skip (sq (rg (sh 1 [(14, .pv (encSl (rSl R_api_Value) a0))] (by kernel_rfl) (dv 15 (v := aI ((sll a0).length : Int)) (len_slO (rSl R_api_Value) a0 t25 (by kernel_rfl)) (by kernel_rfl) (sh 1 [(5, aI ((sll a0).length : Int))] (by kernel_rfl) (fin [(0, .pv (encSl (rSl R_api_Value) a0)), (1, aI a1), (5, aI ((sll a0).length : Int))] rfl (by kernel_rfl) ?_)))))))
   obtain ⟨k5, hk5, hm⟩ := withK_some hm
   refine mid (fun t H => (∃ (y2 : Bool) (y3 : Int) (y4 : Int), k5 y3 = some r ∧ t = mk 71 [(0, .pv (encSl (rSl R_api_Value) a0)), (1, aI a1), (5, aI y3), (6, aI y4), (19, aB y2)] ∧ H = [])) ?_ ?_
   ·
    rintro _ _ ⟨y2, y3, y4, hm, rfl, rfl⟩
    subst hk5
    refine sq (detn [(4, aI y3)] (by kernel_rfl) (wp_ret ?_))
    obtain rfl := Option.some.inj hm
    exact ⟨trivial, by kernel_rfl⟩
   refine sq (detn [(0, .pv (encSl (rSl R_api_Value) a0)), (1, aI a1), (5, aI ((sll a0).length : Int)), (6, aI 0)] (by kernel_rfl) (bq ?_))
   refine loopF (fun mm t H => (∃ (y8 : Int) (y9 : Int), ref05_Bulk_l5 n a0 a1 k5 mm y8 y9 = some r ∧ t = mk 71 [(0, .pv (encSl (rSl R_api_Value) a0)), (1, aI a1), (5, aI y8), (6, aI y9)] ∧ H = [])) (⟨((sll a0).length : Int), 0, hm, rfl, rfl⟩) ?_ ?_
   · rintro _ _ ⟨y8, y9, hm, _⟩; exact nomatch hm
   rintro m10 _ _ ⟨y8, y9, hm, rfl, rfl⟩
   simp only [ref05_Bulk_l5] at hm
   refine sq (sq (rg (sh 2 [(17, .pv (encSl (rSl R_api_Value) a0)), (16, aI y9)] (by kernel_rfl) (dv 18 (v := aI ((sll a0).length : Int)) (len_slO (rSl R_api_Value) a0 t25 (by kernel_rfl)) (by kernel_rfl) (sh 1 [(19, aB (decide (y9 < ((sll a0).length : Int))))] (by kernel_rfl) (fin [(0, .pv (encSl (rSl R_api_Value) a0)), (1, aI a1), (5, aI y8), (6, aI y9), (19, aB (decide (y9 < ((sll a0).length : Int))))] rfl (by kernel_rfl) ?_))))))
   rcases bif_some hm with ⟨h11, hm⟩ | ⟨h11, hm⟩
   ·
    refine ct h11 (by kernel_rfl) (wp_skip ?_)
    obtain ⟨k15, hk15, hm⟩ := withK_some hm
    refine mid (fun t H => (∃ (y12 : Bool) (y13 : Int) (y14 : Int), k15 y13 = some r ∧ t = mk 71 [(0, .pv (encSl (rSl R_api_Value) a0)), (1, aI a1), (5, aI y13), (6, aI y9), (7, aI y14), (37, aB y12)] ∧ H = [])) ?_ ?_
    ·
     rintro _ _ ⟨y12, y13, y14, hm, rfl, rfl⟩
     subst hk15
     refine detn [(0, .pv (encSl (rSl R_api_Value) a0)), (1, aI a1), (5, aI y13), (6, aI (IntKind.wrap .i64 (y9 + 1)))] (by kernel_rfl) ?_
     exact ⟨_, _, tidyL [(0, .pv (encSl (rSl R_api_Value) a0)), (1, aI a1), (5, aI y13), (6, aI (IntKind.wrap .i64 (y9 + 1)))] [] (by kernel_rfl), ⟨y13, (IntKind.wrap .i64 (y9 + 1)), hm, rfl, rfl⟩⟩
    refine bq ?_
    refine sq (sq (rg (sh 2 [(23, aI y9), (22, .pv (encSl (rSl R_api_Value) a0))] (by kernel_rfl) ?_)))
    obtain ⟨x16, h17, hm⟩ := bs hm
    refine dv 24 (v := .pv (.ptr ((rSl R_api_Value) x16) 0)) (ia_slO (rSl R_api_Value) a0 .i64 t25 t22 h17 rfl (by kernel_rfl)) (by kernel_rfl) (sh 1 [(25, .pv (encSl R_api_Value x16))] (by kernel_rfl) (dv 26 (v := aI ((sll x16).length : Int)) (len_slO R_api_Value x16 t22 (by kernel_rfl)) (by kernel_rfl) (sh 2 [(28, aB (decide (((sll x16).length : Int) > a1))), (27, aI a1)] (by kernel_rfl) (fin [(0, .pv (encSl (rSl R_api_Value) a0)), (1, aI a1), (5, aI y8), (6, aI y9), (28, aB (decide (((sll x16).length : Int) > a1)))] rfl (by kernel_rfl) ?_))))
    rcases bif_some hm with ⟨h18, hm⟩ | ⟨h18, hm⟩
    ·
     refine ct h18 (by kernel_rfl) (sq (detn [(4, aI (IntKind.wrap .i64 (a1 + 1)))] (by kernel_rfl) (wp_ret ?_)))
     obtain rfl := Option.some.inj hm
     exact ⟨trivial, by kernel_rfl⟩
    ·
     refine cf h18 (by kernel_rfl) (wp_skip (sq (detn [(0, .pv (encSl (rSl R_api_Value) a0)), (1, aI a1), (5, aI y8), (6, aI y9), (7, aI 0)] (by kernel_rfl) (bq ?_))))
     refine loopF (fun mm t H => (∃ (y21 : Int) (y22 : Int), ref05_Bulk_l10 n a1 k15 x16 mm y21 y22 = some r ∧ t = mk 71 [(0, .pv (encSl (rSl R_api_Value) a0)), (1, aI a1), (5, aI y21), (6, aI y9), (7, aI y22)] ∧ H = [])) (⟨y8, 0, hm, rfl, rfl⟩) ?_ ?_
     · rintro _ _ ⟨y21, y22, hm, _⟩; exact nomatch hm
     rintro m23 _ _ ⟨y21, y22, hm, rfl, rfl⟩
     simp only [ref05_Bulk_l10] at hm
     refine sq (sq (rg (sh 3 [(33, aI y9), (32, .pv (encSl (rSl R_api_Value) a0)), (31, aI y22)] (by kernel_rfl) (dv 34 (v := .pv (.ptr ((rSl R_api_Value) x16) 0)) (ia_slO (rSl R_api_Value) a0 .i64 t25 t22 h17 rfl (by kernel_rfl)) (by kernel_rfl) (sh 1 [(35, .pv (encSl R_api_Value x16))] (by kernel_rfl) (dv 36 (v := aI ((sll x16).length : Int)) (len_slO R_api_Value x16 t22 (by kernel_rfl)) (by kernel_rfl) (sh 1 [(37, aB (decide (y22 < ((sll x16).length : Int))))] (by kernel_rfl) (fin [(0, .pv (encSl (rSl R_api_Value) a0)), (1, aI a1), (5, aI y21), (6, aI y9), (7, aI y22), (37, aB (decide (y22 < ((sll x16).length : Int))))] rfl (by kernel_rfl) ?_))))))))
     rcases bif_some hm with ⟨h24, hm⟩ | ⟨h24, hm⟩
     ·
      refine ct h24 (by kernel_rfl) (wp_skip (sq (bq ?_)))
      refine sq (sq (rg (sh 4 [(43, aB (decide (y21 > a1))), (42, aB (decide (y21 > a1))), (41, aI a1), (40, aI y21)] (by kernel_rfl) ?_)))
      rcases bif_some hm with ⟨h25, hm⟩ | ⟨h25, hm⟩
      ·
       refine known [43, 42] h25 (by kernel_rfl) (sh 12 [(55, aB true), (54, .undef), (53, .undef), (52, .undef), (51, .undef), (50, .undef), (49, .undef), (48, .undef), (47, .undef), (46, .undef), (45, .undef), (44, .undef)] (by kernel_rfl) (fin [(0, .pv (encSl (rSl R_api_Value) a0)), (1, aI a1), (5, aI y21), (6, aI y9), (7, aI y22), (55, aB true)] rfl (by kernel_rfl) (cT (by kernel_rfl) (sq (detn [(4, aI (IntKind.wrap .i64 (a1 + 1)))] (by kernel_rfl) (wp_ret ?_))))))
       obtain rfl := Option.some.inj hm
       exact ⟨trivial, by kernel_rfl⟩
      ·
       refine known [43, 42] h25 (by kernel_rfl) (sh 2 [(45, aI y9), (44, .pv (encSl (rSl R_api_Value) a0))] (by kernel_rfl) (dv 46 (v := .pv (.ptr ((rSl R_api_Value) x16) 0)) (ia_slO (rSl R_api_Value) a0 .i64 t25 t22 h17 rfl (by kernel_rfl)) (by kernel_rfl) (sh 2 [(48, aI y22), (47, .pv (encSl R_api_Value x16))] (by kernel_rfl) ?_)))
       obtain ⟨x26, h27, hm⟩ := bs hm
       refine dv 49 (v := .pv (.ptr (R_api_Value x26) 0)) (ia_slO R_api_Value x16 .i64 t22 t38 h27 rfl (by kernel_rfl)) (by kernel_rfl) (sh 6 [(55, aB (decide ((x26.fText.size : Int) > a1))), (54, aB (decide ((x26.fText.size : Int) > a1))), (53, aI a1), (52, aI (x26.fText.size : Int)), (51, aS x26.fText), (50, .pv (.ptr (R_api_Value x26) 3))] (by kernel_rfl) (fin [(0, .pv (encSl (rSl R_api_Value) a0)), (1, aI a1), (5, aI y21), (6, aI y9), (7, aI y22), (55, aB (decide ((x26.fText.size : Int) > a1)))] rfl (by kernel_rfl) ?_))
       rcases bif_some hm with ⟨h28, hm⟩ | ⟨h28, hm⟩
       ·
        refine ct h28 (by kernel_rfl) (sq (detn [(4, aI (IntKind.wrap .i64 (a1 + 1)))] (by kernel_rfl) (wp_ret ?_)))
        obtain rfl := Option.some.inj hm
        exact ⟨trivial, by kernel_rfl⟩
       ·
        refine cf h28 (by kernel_rfl) (wp_skip (rg (sh 4 [(61, aI y9), (60, .pv (encSl (rSl R_api_Value) a0)), (59, aI (IntKind.wrap .i64 (y21 + 1))), (58, aI y21)] (by kernel_rfl) (dv 62 (v := .pv (.ptr ((rSl R_api_Value) x16) 0)) (ia_slO (rSl R_api_Value) a0 .i64 t25 t22 h17 rfl (by kernel_rfl)) (by kernel_rfl) (sh 2 [(64, aI y22), (63, .pv (encSl R_api_Value x16))] (by kernel_rfl) (dv 65 (v := .pv (.ptr (R_api_Value x26) 0)) (ia_slO R_api_Value x16 .i64 t22 t38 h27 rfl (by kernel_rfl)) (by kernel_rfl) (sh 5 [(5, aI (IntKind.wrap .i64 ((IntKind.wrap .i64 (y21 + 1)) + (x26.fText.size : Int)))), (69, aI (IntKind.wrap .i64 ((IntKind.wrap .i64 (y21 + 1)) + (x26.fText.size : Int)))), (68, aI (x26.fText.size : Int)), (67, aS x26.fText), (66, .pv (.ptr (R_api_Value x26) 3))] (by kernel_rfl) (fin [(0, .pv (encSl (rSl R_api_Value) a0)), (1, aI a1), (5, aI (IntKind.wrap .i64 ((IntKind.wrap .i64 (y21 + 1)) + (x26.fText.size : Int)))), (6, aI y9), (7, aI y22)] rfl (by kernel_rfl) (detn [(0, .pv (encSl (rSl R_api_Value) a0)), (1, aI a1), (5, aI (IntKind.wrap .i64 ((IntKind.wrap .i64 (y21 + 1)) + (x26.fText.size : Int)))), (6, aI y9), (7, aI (IntKind.wrap .i64 (y22 + 1)))] (by kernel_rfl) ?_)))))))))
        exact ⟨_, _, tidyL [(0, .pv (encSl (rSl R_api_Value) a0)), (1, aI a1), (5, aI (IntKind.wrap .i64 ((IntKind.wrap .i64 (y21 + 1)) + (x26.fText.size : Int)))), (6, aI y9), (7, aI (IntKind.wrap .i64 (y22 + 1)))] [] (by kernel_rfl), ⟨(IntKind.wrap .i64 ((IntKind.wrap .i64 (y21 + 1)) + (x26.fText.size : Int))), (IntKind.wrap .i64 (y22 + 1)), hm, rfl, rfl⟩⟩
     ·
      refine cf h24 (by kernel_rfl) (wp_exit ?_)
      exact ⟨(decide (y22 < ((sll x16).length : Int))), y21, y22, hm, rfl, rfl⟩
   ·
    refine cf h11 (by kernel_rfl) (wp_exit ?_)
    exact ⟨(decide (y9 < ((sll a0).length : Int))), y8, y9, hm, rfl, rfl⟩
theorem ok_law05_great {n : Nat} {a0 : (Option (List (Option (List api_Value))))} {r : Bool} (hm : law05_great n a0 = some r) :
    call G n 9 [.pv (encSl (rSl R_api_Value) a0)] [] = some (.ret (aB r), []) := by
  unfold law05_great at hm
  obtain ⟨n, rfl, h0⟩ := at1_some hm
  replace hm := h0; clear h0
  refine callL 6 [(0, .pv (encSl (rSl R_api_Value) a0))] func9 rfl (by kernel_rfl) (sq (detn [(0, .pv (encSl (rSl R_api_Value) a0))] (by kernel_rfl) (sq (rg (sh 1 [(3, .pv (encSl (rSl R_api_Value) a0))] (by kernel_rfl) ?_)))))
  obtain ⟨x1, h2, hm⟩ := bs hm
  refine dv 4 (cpure (by kernel_rfl) (ok_ref05_Bulk h2) (by kernel_rfl) (by kernel_rfl) (by kernel_rfl)) (by kernel_rfl) (sh 2 [(2, aB (decide (x1 > 600))), (5, aB (decide (x1 > 600)))] (by kernel_rfl) (fin [(2, aB (decide (x1 > 600)))] rfl (by kernel_rfl) (wp_ret ?_)))
  obtain rfl := Option.some.inj hm
  exact ⟨trivial, by kernel_rfl⟩
theorem ok_math_Signbit {n : Nat} {a0 : Nat} {r : Bool} (hm : math_Signbit n a0 = some r) :
    call G n 57 [aF a0] [] = some (.ret (aB r), []) := by
  unfold math_Signbit at hm
  obtain ⟨n, rfl, h0⟩ := at1_some hm
  replace hm := h0; clear h0
  refine callL 7 [(0, aF a0)] func57 rfl (by kernel_rfl) (sq (detn [(0, aF a0)] (by kernel_rfl) (sq (rg (sh 1 [(3, aF a0)] (by kernel_rfl) (sh 1 [(4, aU (a0 : Int))] (by kernel_rfl) (sh 3 [(2, aB (decide ((IntKind.wrap .i64 (a0 : Int)) < 0))), (6, aB (decide ((IntKind.wrap .i64 (a0 : Int)) < 0))), (5, aI (IntKind.wrap .i64 (a0 : Int)))] (by kernel_rfl) (fin [(2, aB (decide ((IntKind.wrap .i64 (a0 : Int)) < 0)))] rfl (by kernel_rfl) (wp_ret ?_)))))))))
  obtain rfl := Option.some.inj hm
  exact ⟨trivial, by kernel_rfl⟩
theorem ok_value_Right {n : Nat} {a0 : api_Value} {r : Bool} (hm : value_Right n a0 = some r) :
    call G n 34 [.agg [aI a0.fKind, aI a0.fInt, aF a0.fFloat, aS a0.fText]] [] = some (.ret (aB r), []) := by
  unfold value_Right at hm
  obtain ⟨n, rfl, h0⟩ := at1_some hm
  replace hm := h0; clear h0
  refine callL 70 [(0, .agg [aI a0.fKind, aI a0.fInt, aF a0.fFloat, aS a0.fText])] func34 rfl (by kernel_rfl) (sq (det [(1, .ptr 0 0)] [.box [aI a0.fKind, aI a0.fInt, aF a0.fFloat, aS a0.fText] false] (by kernel_rfl) ?_))
  obtain ⟨k2, hk2, hm⟩ := withK_some hm
  refine mid (fun t H => (∃ (y1 : Bool), k2 y1 = some r ∧ t = mk 70 [(1, .ptr 0 0), (3, aB y1)] ∧ H = [.box [aI a0.fKind, aI a0.fInt, aF a0.fFloat, aS a0.fText] false])) ?_ ?_
  ·
   rintro _ _ ⟨y1, hm, rfl, rfl⟩
   subst hk2
   refine sq (sq (detn [(1, .ptr 0 0), (3, aB y1), (14, aI a0.fKind)] (by kernel_rfl) (bq ?_)))
   refine sq (bq ?_)
   refine sq (bq ?_)
   obtain ⟨k6, hk6, hm⟩ := withK_some hm
   refine mid (fun t H => (∃ (w3 : AV) (w4 : AV) (w5 : AV), k6 () = some r ∧ t = mk 70 [(1, .ptr 0 0), (3, aB y1), (14, w3), (19, w4), (43, w5)] ∧ H = [.box [aI a0.fKind, aI a0.fInt, aF a0.fFloat, aS a0.fText] false])) ?_ ?_
   ·
    rintro _ _ ⟨w3, w4, w5, hm, rfl, rfl⟩
    subst hk6
    refine sq (sq (rg (sh 2 [(45, aB y1), (44, aB y1)] (by kernel_rfl) ?_)))
    refine seg y1 [45, 44, 3] (fun b => [(49, aB (b && (sEq a0.fText ByteArray.empty))), (48, ifA b (aB (sEq a0.fText ByteArray.empty)) (.undef)), (47, ifA b (aS a0.fText) (.undef)), (46, ifA b (.ptr 0 3) (.undef))]) 6 (by kernel_rfl) ?_ ?_ ?_
    ·
     intro Q h
     refine sh 4 [(49, aB (sEq a0.fText ByteArray.empty)), (48, aB (sEq a0.fText ByteArray.empty)), (47, aS a0.fText), (46, .ptr 0 3)] (by kernel_rfl) ?_
     exact sameN (by kernel_rfl) (by kernel_rfl) h
    ·
     intro Q h
     refine sh 4 [(49, aB false), (48, .undef), (47, .undef), (46, .undef)] (by kernel_rfl) ?_
     exact sameN (by kernel_rfl) (by kernel_rfl) h
    refine sh 1 [(2, aB (y1 && (sEq a0.fText ByteArray.empty)))] (by kernel_rfl) (fin [(2, aB (y1 && (sEq a0.fText ByteArray.empty)))] rfl (by kernel_rfl) (wp_ret ?_))
    obtain rfl := Option.some.inj hm
    exact ⟨trivial, by kernel_rfl⟩
   refine bq ?_
   refine sq (bq ?_)
   refine sq (bq (sq ?_))
   refine sq (sq (detn [(1, .ptr 0 0), (3, aB y1), (14, aI a0.fKind), (15, aB (a0.fKind == 0))] (by kernel_rfl) ?_))
   rcases bif_some hm with ⟨h7, hm⟩ | ⟨h7, hm⟩
   ·
    refine ct h7 (by kernel_rfl) (wp_exit (sq (sq (rg (sh 4 [(28, aB (a0.fInt == 0)), (27, aB (a0.fInt == 0)), (26, aI a0.fInt), (25, .ptr 0 1)] (by kernel_rfl) ?_)))))
    refine seg (a0.fInt == 0) [28, 27] (fun b => [(30, aB (b && y1)), (29, ifA b (aB y1) (.undef))]) 6 (by kernel_rfl) ?_ ?_ ?_
    ·
     intro Q h
     refine sh 2 [(30, aB y1), (29, aB y1)] (by kernel_rfl) ?_
     exact sameN (by kernel_rfl) (by kernel_rfl) h
    ·
     intro Q h
     refine sh 2 [(30, aB false), (29, .undef)] (by kernel_rfl) ?_
     exact sameN (by kernel_rfl) (by kernel_rfl) h
    refine sh 1 [(31, aB ((a0.fInt == 0) && y1))] (by kernel_rfl) ?_
    refine seg ((a0.fInt == 0) && y1) [31, 30] (fun b => [(35, aB (b && (sEq a0.fText ByteArray.empty))), (34, ifA b (aB (sEq a0.fText ByteArray.empty)) (.undef)), (33, ifA b (aS a0.fText) (.undef)), (32, ifA b (.ptr 0 3) (.undef))]) 11 (by kernel_rfl) ?_ ?_ ?_
    ·
     intro Q h
     refine sh 4 [(35, aB (sEq a0.fText ByteArray.empty)), (34, aB (sEq a0.fText ByteArray.empty)), (33, aS a0.fText), (32, .ptr 0 3)] (by kernel_rfl) ?_
     exact sameN (by kernel_rfl) (by kernel_rfl) h
    ·
     intro Q h
     refine sh 4 [(35, aB false), (34, .undef), (33, .undef), (32, .undef)] (by kernel_rfl) ?_
     exact sameN (by kernel_rfl) (by kernel_rfl) h
    refine sh 1 [(2, aB (((a0.fInt == 0) && y1) && (sEq a0.fText ByteArray.empty)))] (by kernel_rfl) (fin [(2, aB (((a0.fInt == 0) && y1) && (sEq a0.fText ByteArray.empty)))] rfl (by kernel_rfl) (wp_ret ?_))
    obtain rfl := Option.some.inj hm
    exact ⟨trivial, by kernel_rfl⟩
   ·
    refine cf h7 (by kernel_rfl) (wp_skip (sq (sq (detn [(1, .ptr 0 0), (3, aB y1), (14, aI a0.fKind), (17, aB (a0.fKind == 1))] (by kernel_rfl) ?_))))
    rcases bif_some hm with ⟨h8, hm⟩ | ⟨h8, hm⟩
    ·
     refine ct h8 (by kernel_rfl) (wp_exit (sq (rg (sh 4 [(39, aB (a0.fInt != 0)), (38, aB (a0.fInt != 0)), (37, aI a0.fInt), (36, .ptr 0 1)] (by kernel_rfl) ?_))))
     refine seg (a0.fInt != 0) [39, 38] (fun b => [(43, aB (b && (a0.fInt != 1))), (42, ifA b (aB (a0.fInt != 1)) (.undef)), (41, ifA b (aI a0.fInt) (.undef)), (40, ifA b (.ptr 0 1) (.undef))]) 8 (by kernel_rfl) ?_ ?_ ?_
     ·
      intro Q h
      refine sh 4 [(43, aB (a0.fInt != 1)), (42, aB (a0.fInt != 1)), (41, aI a0.fInt), (40, .ptr 0 1)] (by kernel_rfl) ?_
      exact sameN (by kernel_rfl) (by kernel_rfl) h
     ·
      intro Q h
      refine sh 4 [(43, aB false), (42, .undef), (41, .undef), (40, .undef)] (by kernel_rfl) ?_
      exact sameN (by kernel_rfl) (by kernel_rfl) h
     refine fin [(1, .ptr 0 0), (3, aB y1), (43, aB ((a0.fInt != 0) && (a0.fInt != 1)))] rfl (by kernel_rfl) ?_
     rcases bif_some hm with ⟨h9, hm⟩ | ⟨h9, hm⟩
     ·
      refine ct h9 (by kernel_rfl) (sq (detn [(2, aB false)] (by kernel_rfl) (wp_ret ?_)))
      obtain rfl := Option.some.inj hm
      exact ⟨trivial, by kernel_rfl⟩
     ·
      refine cf h9 (by kernel_rfl) (wp_skip ?_)
      exact ⟨.any, .any, aB ((a0.fInt != 0) && (a0.fInt != 1)), hm, (mk_same (by kernel_rfl)), rfl⟩
    ·
     refine cf h8 (by kernel_rfl) (wp_skip (sq (sq (detn [(1, .ptr 0 0), (3, aB y1), (14, aI a0.fKind), (19, aB (a0.fKind == 2))] (by kernel_rfl) ?_))))
     rcases bif_some hm with ⟨h10, hm⟩ | ⟨h10, hm⟩
     ·
      refine ct h10 (by kernel_rfl) (wp_exit ?_)
      exact ⟨aI a0.fKind, aB (a0.fKind == 2), .any, hm, (mk_same (by kernel_rfl)), rfl⟩
     ·
      refine cf h10 (by kernel_rfl) (wp_skip (sq (sq (detn [(1, .ptr 0 0), (3, aB y1), (14, aI a0.fKind), (21, aB (a0.fKind == 3))] (by kernel_rfl) ?_))))
      rcases bif_some hm with ⟨h11, hm⟩ | ⟨h11, hm⟩
      ·
       refine ct h11 (by kernel_rfl) (wp_exit (sq (sq (rg (sh 4 [(53, aB (a0.fInt == 0)), (52, aB (a0.fInt == 0)), (51, aI a0.fInt), (50, .ptr 0 1)] (by kernel_rfl) ?_)))))
       refine seg (a0.fInt == 0) [53, 52] (fun b => [(57, aB (b && (sEq a0.fText ByteArray.empty))), (56, ifA b (aB (sEq a0.fText ByteArray.empty)) (.undef)), (55, ifA b (aS a0.fText) (.undef)), (54, ifA b (.ptr 0 3) (.undef))]) 8 (by kernel_rfl) ?_ ?_ ?_
       ·
        intro Q h
        refine sh 4 [(57, aB (sEq a0.fText ByteArray.empty)), (56, aB (sEq a0.fText ByteArray.empty)), (55, aS a0.fText), (54, .ptr 0 3)] (by kernel_rfl) ?_
        exact sameN (by kernel_rfl) (by kernel_rfl) h
       ·
        intro Q h
        refine sh 4 [(57, aB false), (56, .undef), (55, .undef), (54, .undef)] (by kernel_rfl) ?_
        exact sameN (by kernel_rfl) (by kernel_rfl) h
       refine sh 1 [(2, aB ((a0.fInt == 0) && (sEq a0.fText ByteArray.empty)))] (by kernel_rfl) (fin [(2, aB ((a0.fInt == 0) && (sEq a0.fText ByteArray.empty)))] rfl (by kernel_rfl) (wp_ret ?_))
       obtain rfl := Option.some.inj hm
       exact ⟨trivial, by kernel_rfl⟩
      ·
       refine cf h11 (by kernel_rfl) (wp_skip (sq (detn [(1, .ptr 0 0), (3, aB y1), (23, aB (a0.fKind == 4))] (by kernel_rfl) ?_)))
       rcases bif_some hm with ⟨h12, hm⟩ | ⟨h12, hm⟩
       ·
        refine ct h12 (by kernel_rfl) (wp_exit (sq (sq (rg (sh 4 [(61, aB (a0.fInt == 0)), (60, aB (a0.fInt == 0)), (59, aI a0.fInt), (58, .ptr 0 1)] (by kernel_rfl) ?_)))))
        refine seg (a0.fInt == 0) [61, 60] (fun b => [(63, aB (b && y1)), (62, ifA b (aB y1) (.undef))]) 6 (by kernel_rfl) ?_ ?_ ?_
        ·
         intro Q h
         refine sh 2 [(63, aB y1), (62, aB y1)] (by kernel_rfl) ?_
         exact sameN (by kernel_rfl) (by kernel_rfl) h
        ·
         intro Q h
         refine sh 2 [(63, aB false), (62, .undef)] (by kernel_rfl) ?_
         exact sameN (by kernel_rfl) (by kernel_rfl) h
        refine sh 1 [(64, aB ((a0.fInt == 0) && y1))] (by kernel_rfl) ?_
        refine seg ((a0.fInt == 0) && y1) [64, 63] (fun b => [(69, aB (b && (decide ((a0.fText.size : Int) ≤ 64)))), (68, ifA b (aB (decide ((a0.fText.size : Int) ≤ 64))) (.undef)), (67, ifA b (aI (a0.fText.size : Int)) (.undef)), (66, ifA b (aS a0.fText) (.undef)), (65, ifA b (.ptr 0 3) (.undef))]) 12 (by kernel_rfl) ?_ ?_ ?_
        ·
         intro Q h
         refine sh 5 [(69, aB (decide ((a0.fText.size : Int) ≤ 64))), (68, aB (decide ((a0.fText.size : Int) ≤ 64))), (67, aI (a0.fText.size : Int)), (66, aS a0.fText), (65, .ptr 0 3)] (by kernel_rfl) ?_
         exact sameN (by kernel_rfl) (by kernel_rfl) h
        ·
         intro Q h
         refine sh 5 [(69, aB false), (68, .undef), (67, .undef), (66, .undef), (65, .undef)] (by kernel_rfl) ?_
         exact sameN (by kernel_rfl) (by kernel_rfl) h
        refine sh 1 [(2, aB (((a0.fInt == 0) && y1) && (decide ((a0.fText.size : Int) ≤ 64))))] (by kernel_rfl) (fin [(2, aB (((a0.fInt == 0) && y1) && (decide ((a0.fText.size : Int) ≤ 64))))] rfl (by kernel_rfl) (wp_ret ?_))
        obtain rfl := Option.some.inj hm
        exact ⟨trivial, by kernel_rfl⟩
       ·
        refine cf h12 (by kernel_rfl) (wp_skip (wp_exit (sq (detn [(2, aB false)] (by kernel_rfl) (wp_ret ?_)))))
        obtain rfl := Option.some.inj hm
        exact ⟨trivial, by kernel_rfl⟩
  refine rg (sh 4 [(7, aB ((FloatKind.format .f64).order a0.fFloat 0 == some .eq)), (6, aB ((FloatKind.format .f64).order a0.fFloat 0 == some .eq)), (5, aF a0.fFloat), (4, .ptr 0 2)] (by kernel_rfl) ?_)
  rcases bif_some hm with ⟨h13, hm⟩ | ⟨h13, hm⟩
  ·
   refine known [7, 6] h13 (by kernel_rfl) (sh 2 [(9, aF a0.fFloat), (8, .ptr 0 2)] (by kernel_rfl) ?_)
   obtain ⟨x14, h15, hm⟩ := bs hm
   refine dv 10 (cpure (by kernel_rfl) (ok_math_Signbit h15) (by kernel_rfl) (by kernel_rfl) (by kernel_rfl)) (by kernel_rfl) (sh 3 [(3, aB (!x14)), (12, aB (!x14)), (11, aB (!x14))] (by kernel_rfl) (fin [(1, .ptr 0 0), (3, aB (!x14))] rfl (by kernel_rfl) ?_))
   exact ⟨(!x14), hm, rfl, rfl⟩
  ·
   refine known [7, 6] h13 (by kernel_rfl) (sh 6 [(3, aB false), (12, aB false), (11, .undef), (10, .undef), (9, .undef), (8, .undef)] (by kernel_rfl) (fin [(1, .ptr 0 0), (3, aB false)] rfl (by kernel_rfl) ?_))
   exact ⟨false, hm, rfl, rfl⟩
theorem ok_math_IsNaN {n : Nat} {a0 : Nat} {r : Bool} (hm : math_IsNaN n a0 = some r) :
    call G n 81 [aF a0] [] = some (.ret (aB r), []) := by
  unfold math_IsNaN at hm
  obtain ⟨n, rfl, h0⟩ := at1_some hm
  replace hm := h0; clear h0
  refine callL 6 [(0, aF a0)] func81 rfl (by kernel_rfl) (sq (detn [(0, aF a0)] (by kernel_rfl) (sq (detn [(2, aB ((FloatKind.format .f64).order a0 a0 != some .eq))] (by kernel_rfl) (wp_ret ?_)))))
  obtain rfl := Option.some.inj hm
  exact ⟨trivial, by kernel_rfl⟩
theorem ok_value_Plain {n : Nat} {a0 : api_Value} {r : api_Value} (hm : value_Plain n a0 = some r) :
    call G n 60 [.agg [aI a0.fKind, aI a0.fInt, aF a0.fFloat, aS a0.fText]] [] = some (.ret (.agg [aI r.fKind, aI r.fInt, aF r.fFloat, aS r.fText]), []) := by
  unfold value_Plain at hm
  obtain ⟨n, rfl, h0⟩ := at1_some hm
  replace hm := h0; clear h0
  refine callL 30 [(0, .agg [aI a0.fKind, aI a0.fInt, aF a0.fFloat, aS a0.fText])] func60 rfl (by kernel_rfl) (sq (det [(1, .ptr 0 0), (2, .ptr 1 0)] [.box [aI a0.fKind, aI a0.fInt, aF a0.fFloat, aS a0.fText] false, .box [aI 0, aI 0, aF 0, aS ByteArray.empty] false] (by kernel_rfl) (sq (bq (sq (rg (sh 1 [(4, .agg [aI a0.fKind, aI a0.fInt, aF a0.fFloat, aS a0.fText])] (by kernel_rfl) ?_)))))))
  obtain ⟨x1, h2, hm⟩ := bs hm
  refine dv 5 (cpure (by kernel_rfl) (ok_value_Right h2) (by kernel_rfl) (by kernel_rfl) (by kernel_rfl)) (by kernel_rfl) (sh 2 [(3, aB (!x1)), (6, aB (!x1))] (by kernel_rfl) (fin [(1, .ptr 0 0), (2, .ptr 1 0), (3, aB (!x1))] rfl (by kernel_rfl) ?_))
  rcases bif_some hm with ⟨h3, hm⟩ | ⟨h3, hm⟩
  ·
   refine ct h3 (by kernel_rfl) (sq (detn [(2, .ptr 1 0)] (by kernel_rfl) (wp_ret ?_)))
   obtain rfl := Option.some.inj hm
   exact ⟨trivial, by kernel_rfl⟩
  ·
   refine cf h3 (by kernel_rfl) ?_
   obtain ⟨k5, hk5, hm⟩ := withK_some hm
   refine mid (fun t H => (∃ (y4 : Bool), k5 y4 = some r ∧ t = mk 30 [(1, .ptr 0 0), (2, .ptr 1 0), (8, aB y4)] ∧ H = [.box [aI a0.fKind, aI a0.fInt, aF a0.fFloat, aS a0.fText] false, .box [aI 0, aI 0, aF 0, aS ByteArray.empty] false])) ?_ ?_
   ·
    rintro _ _ ⟨y4, hm, rfl, rfl⟩
    subst hk5
    rcases bif_some hm with ⟨h6, hm⟩ | ⟨h6, hm⟩
    ·
     refine ct h6 (by kernel_rfl) (rg (sh 1 [(17, aF (Int.toNat 9221120237041090561))] (by kernel_rfl) (st 2 [(18, .ptr 0 2)] [.box [aI a0.fKind, aI a0.fInt, aF (Int.toNat 9221120237041090561), aS a0.fText] false, .box [aI 0, aI 0, aF 0, aS ByteArray.empty] false] (by kernel_rfl) (fin [(1, .ptr 0 0), (2, .ptr 1 0)] rfl (by kernel_rfl) (sq (det [(2, .ptr 1 0)] [.box [aI a0.fKind, aI a0.fInt, aF (Int.toNat 9221120237041090561), aS a0.fText] false, .box [aI a0.fKind, aI a0.fInt, aF (Int.toNat 9221120237041090561), aS a0.fText] false] (by kernel_rfl) (wp_ret ?_)))))))
     obtain rfl := Option.some.inj hm
     exact ⟨trivial, by kernel_rfl⟩
    ·
     refine cf h6 (by kernel_rfl) (sq (rg (sh 4 [(23, aB (a0.fKind == 3)), (22, aB (a0.fKind == 3)), (21, aI a0.fKind), (20, .ptr 0 0)] (by kernel_rfl) ?_)))
     refine seg (a0.fKind == 3) [23, 22] (fun b => [(27, aB (b && ((FloatKind.format .f64).order a0.fFloat 0 == some .eq))), (26, ifA b (aB ((FloatKind.format .f64).order a0.fFloat 0 == some .eq)) (.undef)), (25, ifA b (aF a0.fFloat) (.undef)), (24, ifA b (.ptr 0 2) (.undef))]) 8 (by kernel_rfl) ?_ ?_ ?_
     ·
      intro Q h
      refine sh 4 [(27, aB ((FloatKind.format .f64).order a0.fFloat 0 == some .eq)), (26, aB ((FloatKind.format .f64).order a0.fFloat 0 == some .eq)), (25, aF a0.fFloat), (24, .ptr 0 2)] (by kernel_rfl) ?_
      exact sameN (by kernel_rfl) (by kernel_rfl) h
     ·
      intro Q h
      refine sh 4 [(27, aB false), (26, .undef), (25, .undef), (24, .undef)] (by kernel_rfl) ?_
      exact sameN (by kernel_rfl) (by kernel_rfl) h
     refine sh 1 [(19, aB ((a0.fKind == 3) && ((FloatKind.format .f64).order a0.fFloat 0 == some .eq)))] (by kernel_rfl) (fin [(1, .ptr 0 0), (2, .ptr 1 0), (19, aB ((a0.fKind == 3) && ((FloatKind.format .f64).order a0.fFloat 0 == some .eq)))] rfl (by kernel_rfl) ?_)
     rcases bif_some hm with ⟨h7, hm⟩ | ⟨h7, hm⟩
     ·
      refine ct h7 (by kernel_rfl) (det [(1, .ptr 0 0), (2, .ptr 1 0)] [.box [aI a0.fKind, aI a0.fInt, aF 0, aS a0.fText] false, .box [aI 0, aI 0, aF 0, aS ByteArray.empty] false] (by kernel_rfl) (sq (det [(2, .ptr 1 0)] [.box [aI a0.fKind, aI a0.fInt, aF 0, aS a0.fText] false, .box [aI a0.fKind, aI a0.fInt, aF 0, aS a0.fText] false] (by kernel_rfl) (wp_ret ?_))))
      obtain rfl := Option.some.inj hm
      exact ⟨trivial, by kernel_rfl⟩
     ·
      refine cf h7 (by kernel_rfl) (wp_skip (sq (det [(2, .ptr 1 0)] [.box [aI a0.fKind, aI a0.fInt, aF a0.fFloat, aS a0.fText] false, .box [aI a0.fKind, aI a0.fInt, aF a0.fFloat, aS a0.fText] false] (by kernel_rfl) (wp_ret ?_))))
      obtain rfl := Option.some.inj hm
      exact ⟨trivial, by kernel_rfl⟩
   refine rg (sh 4 [(12, aB (a0.fKind == 3)), (11, aB (a0.fKind == 3)), (10, aI a0.fKind), (9, .ptr 0 0)] (by kernel_rfl) ?_)
   rcases bif_some hm with ⟨h8, hm⟩ | ⟨h8, hm⟩
   ·
    refine known [12, 11] h8 (by kernel_rfl) (sh 2 [(14, aF a0.fFloat), (13, .ptr 0 2)] (by kernel_rfl) ?_)
    obtain ⟨x9, h10, hm⟩ := bs hm
    refine dv 15 (cpure (by kernel_rfl) (ok_math_IsNaN h10) (by kernel_rfl) (by kernel_rfl) (by kernel_rfl)) (by kernel_rfl) (sh 2 [(8, aB x9), (16, aB x9)] (by kernel_rfl) (fin [(1, .ptr 0 0), (2, .ptr 1 0), (8, aB x9)] rfl (by kernel_rfl) ?_))
    exact ⟨x9, hm, rfl, rfl⟩
   ·
    refine known [12, 11] h8 (by kernel_rfl) (sh 5 [(8, aB false), (16, aB false), (15, .undef), (14, .undef), (13, .undef)] (by kernel_rfl) (fin [(1, .ptr 0 0), (2, .ptr 1 0), (8, aB false)] rfl (by kernel_rfl) ?_))
    exact ⟨false, hm, rfl, rfl⟩
theorem ok_cmp_isNaN_int {n : Nat} {a0 : Int} {r : Bool} (hm : cmp_isNaN_int n a0 = some r) :
    call G n 80 [aI a0] [] = some (.ret (aB r), []) := by
  unfold cmp_isNaN_int at hm
  obtain ⟨n, rfl, h0⟩ := at1_some hm
  replace hm := h0; clear h0
  refine callL 6 [(0, aI a0)] func80 rfl (by kernel_rfl) (sq (detn [(0, aI a0)] (by kernel_rfl) (sq (detn [(2, aB (a0 != a0))] (by kernel_rfl) (wp_ret ?_)))))
  obtain rfl := Option.some.inj hm
  exact ⟨trivial, by kernel_rfl⟩
theorem ok_cmp_Compare_int {n : Nat} {a0 : Int} {a1 : Int} {r : Int} (hm : cmp_Compare_int n a0 a1 = some r) :
    call G n 59 [aI a0, aI a1] [] = some (.ret (aI r), []) := by
  unfold cmp_Compare_int at hm
  obtain ⟨n, rfl, h0⟩ := at1_some hm
  replace hm := h0; clear h0
  refine callL 20 [(0, aI a0), (1, aI a1)] func59 rfl (by kernel_rfl) (sq (detn [(0, aI a0), (1, aI a1)] (by kernel_rfl) (sq (rg (sh 1 [(7, aI a0)] (by kernel_rfl) ?_)))))
  obtain ⟨x1, h2, hm⟩ := bs hm
  refine dv 8 (cpure (by kernel_rfl) (ok_cmp_isNaN_int h2) (by kernel_rfl) (by kernel_rfl) (by kernel_rfl)) (by kernel_rfl) (sh 1 [(5, aB x1)] (by kernel_rfl) (fin [(0, aI a0), (1, aI a1), (5, aB x1)] rfl (by kernel_rfl) (sq (rg (sh 1 [(9, aI a1)] (by kernel_rfl) ?_)))))
  obtain ⟨x3, h4, hm⟩ := bs hm
  refine dv 10 (cpure (by kernel_rfl) (ok_cmp_isNaN_int h4) (by kernel_rfl) (by kernel_rfl) (by kernel_rfl)) (by kernel_rfl) (sh 1 [(6, aB x3)] (by kernel_rfl) (fin [(0, aI a0), (1, aI a1), (5, aB x1), (6, aB x3)] rfl (by kernel_rfl) ?_))
  refine sq (sq (detn [(0, aI a0), (1, aI a1), (6, aB x3), (11, aB x1)] (by kernel_rfl) ?_))
  rcases bif_some hm with ⟨h5, hm⟩ | ⟨h5, hm⟩
  ·
   refine ct h5 (by kernel_rfl) (sq (sq (detn [(12, aB x3)] (by kernel_rfl) ?_)))
   rcases bif_some hm with ⟨h6, hm⟩ | ⟨h6, hm⟩
   ·
    refine ct h6 (by kernel_rfl) (sq (detn [(4, aI 0)] (by kernel_rfl) (wp_ret ?_)))
    obtain rfl := Option.some.inj hm
    exact ⟨trivial, by kernel_rfl⟩
   ·
    refine cf h6 (by kernel_rfl) (wp_skip (sq (detn [(4, aI (-1))] (by kernel_rfl) (wp_ret ?_))))
    obtain rfl := Option.some.inj hm
    exact ⟨trivial, by kernel_rfl⟩
  ·
   refine cf h5 (by kernel_rfl) (wp_skip ?_)
   refine sq (sq (detn [(0, aI a0), (1, aI a1), (13, aB x3)] (by kernel_rfl) ?_))
   rcases bif_some hm with ⟨h7, hm⟩ | ⟨h7, hm⟩
   ·
    refine ct h7 (by kernel_rfl) (sq (detn [(4, aI 1)] (by kernel_rfl) (wp_ret ?_)))
    obtain rfl := Option.some.inj hm
    exact ⟨trivial, by kernel_rfl⟩
   ·
    refine cf h7 (by kernel_rfl) (wp_skip (sq (sq (detn [(0, aI a0), (1, aI a1), (16, aB (decide (a0 < a1)))] (by kernel_rfl) ?_))))
    rcases bif_some hm with ⟨h8, hm⟩ | ⟨h8, hm⟩
    ·
     refine ct h8 (by kernel_rfl) (sq (detn [(4, aI (-1))] (by kernel_rfl) (wp_ret ?_)))
     obtain rfl := Option.some.inj hm
     exact ⟨trivial, by kernel_rfl⟩
    ·
     refine cf h8 (by kernel_rfl) (wp_skip (sq (sq (detn [(19, aB (decide (a0 > a1)))] (by kernel_rfl) ?_))))
     rcases bif_some hm with ⟨h9, hm⟩ | ⟨h9, hm⟩
     ·
      refine ct h9 (by kernel_rfl) (sq (detn [(4, aI 1)] (by kernel_rfl) (wp_ret ?_)))
      obtain rfl := Option.some.inj hm
      exact ⟨trivial, by kernel_rfl⟩
     ·
      refine cf h9 (by kernel_rfl) (wp_skip (sq (detn [(4, aI 0)] (by kernel_rfl) (wp_ret ?_))))
      obtain rfl := Option.some.inj hm
      exact ⟨trivial, by kernel_rfl⟩
theorem ok_value_floats {n : Nat} {a0 : Nat} {a1 : Nat} {r : Int} (hm : value_floats n a0 a1 = some r) :
    call G n 61 [aF a0, aF a1] [] = some (.ret (aI r), []) := by
  unfold value_floats at hm
  obtain ⟨n, rfl, h0⟩ := at1_some hm
  replace hm := h0; clear h0
  refine callL 28 [(0, aF a0), (1, aF a1)] func61 rfl (by kernel_rfl) (sq (detn [(0, aF a0), (1, aF a1)] (by kernel_rfl) (sq (sq (rg (sh 1 [(7, aF a0)] (by kernel_rfl) ?_))))))
  obtain ⟨x1, h2, hm⟩ := bs hm
  refine dv 8 (cpure (by kernel_rfl) (ok_math_IsNaN h2) (by kernel_rfl) (by kernel_rfl) (by kernel_rfl)) (by kernel_rfl) (sh 1 [(9, aF a1)] (by kernel_rfl) ?_)
  obtain ⟨x3, h4, hm⟩ := bs hm
  refine dv 10 (cpure (by kernel_rfl) (ok_math_IsNaN h4) (by kernel_rfl) (by kernel_rfl) (by kernel_rfl)) (by kernel_rfl) (sh 2 [(6, aB x3), (5, aB x1)] (by kernel_rfl) (fin [(0, aF a0), (1, aF a1), (5, aB x1), (6, aB x3)] rfl (by kernel_rfl) (bq ?_)))
  refine sq (rg (sh 2 [(13, aB x1), (12, aB x1)] (by kernel_rfl) ?_))
  refine seg x1 [13, 12, 5] (fun b => [(15, aB (b && x3)), (14, ifA b (aB x3) (.undef))]) 4 (by kernel_rfl) ?_ ?_ ?_
  ·
   intro Q h
   refine sh 2 [(15, aB x3), (14, aB x3)] (by kernel_rfl) ?_
   exact sameN (by kernel_rfl) (by kernel_rfl) h
  ·
   intro Q h
   refine sh 2 [(15, aB false), (14, .undef)] (by kernel_rfl) ?_
   exact sameN (by kernel_rfl) (by kernel_rfl) h
  refine sh 1 [(11, aB (x1 && x3))] (by kernel_rfl) (fin [(0, aF a0), (1, aF a1), (5, aB x1), (6, aB x3), (11, aB (x1 && x3))] rfl (by kernel_rfl) ?_)
  rcases bif_some hm with ⟨h5, hm⟩ | ⟨h5, hm⟩
  ·
   refine ct h5 (by kernel_rfl) (sq (detn [(4, aI 0)] (by kernel_rfl) (wp_ret ?_)))
   obtain rfl := Option.some.inj hm
   exact ⟨trivial, by kernel_rfl⟩
  ·
   refine cf h5 (by kernel_rfl) (sq (detn [(0, aF a0), (1, aF a1), (6, aB x3), (16, aB x1)] (by kernel_rfl) ?_))
   rcases bif_some hm with ⟨h6, hm⟩ | ⟨h6, hm⟩
   ·
    refine ct h6 (by kernel_rfl) (sq (detn [(4, aI 1)] (by kernel_rfl) (wp_ret ?_)))
    obtain rfl := Option.some.inj hm
    exact ⟨trivial, by kernel_rfl⟩
   ·
    refine cf h6 (by kernel_rfl) (sq (detn [(0, aF a0), (1, aF a1), (18, aB x3)] (by kernel_rfl) ?_))
    rcases bif_some hm with ⟨h7, hm⟩ | ⟨h7, hm⟩
    ·
     refine ct h7 (by kernel_rfl) (sq (detn [(4, aI (-1))] (by kernel_rfl) (wp_ret ?_)))
     obtain rfl := Option.some.inj hm
     exact ⟨trivial, by kernel_rfl⟩
    ·
     refine cf h7 (by kernel_rfl) (sq (detn [(0, aF a0), (1, aF a1), (20, aB ((FloatKind.format .f64).order a0 a1 == some .lt))] (by kernel_rfl) ?_))
     rcases bif_some hm with ⟨h8, hm⟩ | ⟨h8, hm⟩
     ·
      refine ct h8 (by kernel_rfl) (sq (detn [(4, aI (-1))] (by kernel_rfl) (wp_ret ?_)))
      obtain rfl := Option.some.inj hm
      exact ⟨trivial, by kernel_rfl⟩
     ·
      refine cf h8 (by kernel_rfl) (sq (detn [(24, aB ((FloatKind.format .f64).order a0 a1 == some .gt))] (by kernel_rfl) ?_))
      rcases bif_some hm with ⟨h9, hm⟩ | ⟨h9, hm⟩
      ·
       refine ct h9 (by kernel_rfl) (sq (detn [(4, aI 1)] (by kernel_rfl) (wp_ret ?_)))
       obtain rfl := Option.some.inj hm
       exact ⟨trivial, by kernel_rfl⟩
      ·
       refine cf h9 (by kernel_rfl) (wp_skip (sq (detn [(4, aI 0)] (by kernel_rfl) (wp_ret ?_))))
       obtain rfl := Option.some.inj hm
       exact ⟨trivial, by kernel_rfl⟩
theorem ok_cmp_isNaN_string {n : Nat} {a0 : ByteArray} {r : Bool} (hm : cmp_isNaN_string n a0 = some r) :
    call G n 83 [aS a0] [] = some (.ret (aB r), []) := by
  unfold cmp_isNaN_string at hm
  obtain ⟨n, rfl, h0⟩ := at1_some hm
  replace hm := h0; clear h0
  refine callL 6 [(0, aS a0)] func83 rfl (by kernel_rfl) (sq (detn [(0, aS a0)] (by kernel_rfl) (sq (detn [(2, aB (!(sEq a0 a0)))] (by kernel_rfl) (wp_ret ?_)))))
  obtain rfl := Option.some.inj hm
  exact ⟨trivial, by kernel_rfl⟩
theorem ok_cmp_Compare_string {n : Nat} {a0 : ByteArray} {a1 : ByteArray} {r : Int} (hm : cmp_Compare_string n a0 a1 = some r) :
    call G n 62 [aS a0, aS a1] [] = some (.ret (aI r), []) := by
  unfold cmp_Compare_string at hm
  obtain ⟨n, rfl, h0⟩ := at1_some hm
  replace hm := h0; clear h0
  refine callL 20 [(0, aS a0), (1, aS a1)] func62 rfl (by kernel_rfl) (sq (detn [(0, aS a0), (1, aS a1)] (by kernel_rfl) (sq (rg (sh 1 [(7, aS a0)] (by kernel_rfl) ?_)))))
  obtain ⟨x1, h2, hm⟩ := bs hm
  refine dv 8 (cpure (by kernel_rfl) (ok_cmp_isNaN_string h2) (by kernel_rfl) (by kernel_rfl) (by kernel_rfl)) (by kernel_rfl) (sh 1 [(5, aB x1)] (by kernel_rfl) (fin [(0, aS a0), (1, aS a1), (5, aB x1)] rfl (by kernel_rfl) (sq (rg (sh 1 [(9, aS a1)] (by kernel_rfl) ?_)))))
  obtain ⟨x3, h4, hm⟩ := bs hm
  refine dv 10 (cpure (by kernel_rfl) (ok_cmp_isNaN_string h4) (by kernel_rfl) (by kernel_rfl) (by kernel_rfl)) (by kernel_rfl) (sh 1 [(6, aB x3)] (by kernel_rfl) (fin [(0, aS a0), (1, aS a1), (5, aB x1), (6, aB x3)] rfl (by kernel_rfl) ?_))
  refine sq (sq (detn [(0, aS a0), (1, aS a1), (6, aB x3), (11, aB x1)] (by kernel_rfl) ?_))
  rcases bif_some hm with ⟨h5, hm⟩ | ⟨h5, hm⟩
  ·
   refine ct h5 (by kernel_rfl) (sq (sq (detn [(12, aB x3)] (by kernel_rfl) ?_)))
   rcases bif_some hm with ⟨h6, hm⟩ | ⟨h6, hm⟩
   ·
    refine ct h6 (by kernel_rfl) (sq (detn [(4, aI 0)] (by kernel_rfl) (wp_ret ?_)))
    obtain rfl := Option.some.inj hm
    exact ⟨trivial, by kernel_rfl⟩
   ·
    refine cf h6 (by kernel_rfl) (wp_skip (sq (detn [(4, aI (-1))] (by kernel_rfl) (wp_ret ?_))))
    obtain rfl := Option.some.inj hm
    exact ⟨trivial, by kernel_rfl⟩
  ·
   refine cf h5 (by kernel_rfl) (wp_skip ?_)
   refine sq (sq (detn [(0, aS a0), (1, aS a1), (13, aB x3)] (by kernel_rfl) ?_))
   rcases bif_some hm with ⟨h7, hm⟩ | ⟨h7, hm⟩
   ·
    refine ct h7 (by kernel_rfl) (sq (detn [(4, aI 1)] (by kernel_rfl) (wp_ret ?_)))
    obtain rfl := Option.some.inj hm
    exact ⟨trivial, by kernel_rfl⟩
   ·
    refine cf h7 (by kernel_rfl) (wp_skip (sq (sq (detn [(0, aS a0), (1, aS a1), (16, aB (sLt a0 a1))] (by kernel_rfl) ?_))))
    rcases bif_some hm with ⟨h8, hm⟩ | ⟨h8, hm⟩
    ·
     refine ct h8 (by kernel_rfl) (sq (detn [(4, aI (-1))] (by kernel_rfl) (wp_ret ?_)))
     obtain rfl := Option.some.inj hm
     exact ⟨trivial, by kernel_rfl⟩
    ·
     refine cf h8 (by kernel_rfl) (wp_skip (sq (sq (detn [(19, aB (!(sLt a0 a1 || sEq a0 a1)))] (by kernel_rfl) ?_))))
     rcases bif_some hm with ⟨h9, hm⟩ | ⟨h9, hm⟩
     ·
      refine ct h9 (by kernel_rfl) (sq (detn [(4, aI 1)] (by kernel_rfl) (wp_ret ?_)))
      obtain rfl := Option.some.inj hm
      exact ⟨trivial, by kernel_rfl⟩
     ·
      refine cf h9 (by kernel_rfl) (wp_skip (sq (detn [(4, aI 0)] (by kernel_rfl) (wp_ret ?_))))
      obtain rfl := Option.some.inj hm
      exact ⟨trivial, by kernel_rfl⟩
theorem ok_cmp_isNaN_int64 {n : Nat} {a0 : Int} {r : Bool} (hm : cmp_isNaN_int64 n a0 = some r) :
    call G n 84 [aI a0] [] = some (.ret (aB r), []) := by
  unfold cmp_isNaN_int64 at hm
  obtain ⟨n, rfl, h0⟩ := at1_some hm
  replace hm := h0; clear h0
  refine callL 6 [(0, aI a0)] func84 rfl (by kernel_rfl) (sq (detn [(0, aI a0)] (by kernel_rfl) (sq (detn [(2, aB (a0 != a0))] (by kernel_rfl) (wp_ret ?_)))))
  obtain rfl := Option.some.inj hm
  exact ⟨trivial, by kernel_rfl⟩
theorem ok_cmp_Compare_int64 {n : Nat} {a0 : Int} {a1 : Int} {r : Int} (hm : cmp_Compare_int64 n a0 a1 = some r) :
    call G n 63 [aI a0, aI a1] [] = some (.ret (aI r), []) := by
  unfold cmp_Compare_int64 at hm
  obtain ⟨n, rfl, h0⟩ := at1_some hm
  replace hm := h0; clear h0
  refine callL 20 [(0, aI a0), (1, aI a1)] func63 rfl (by kernel_rfl) (sq (detn [(0, aI a0), (1, aI a1)] (by kernel_rfl) (sq (rg (sh 1 [(7, aI a0)] (by kernel_rfl) ?_)))))
  obtain ⟨x1, h2, hm⟩ := bs hm
  refine dv 8 (cpure (by kernel_rfl) (ok_cmp_isNaN_int64 h2) (by kernel_rfl) (by kernel_rfl) (by kernel_rfl)) (by kernel_rfl) (sh 1 [(5, aB x1)] (by kernel_rfl) (fin [(0, aI a0), (1, aI a1), (5, aB x1)] rfl (by kernel_rfl) (sq (rg (sh 1 [(9, aI a1)] (by kernel_rfl) ?_)))))
  obtain ⟨x3, h4, hm⟩ := bs hm
  refine dv 10 (cpure (by kernel_rfl) (ok_cmp_isNaN_int64 h4) (by kernel_rfl) (by kernel_rfl) (by kernel_rfl)) (by kernel_rfl) (sh 1 [(6, aB x3)] (by kernel_rfl) (fin [(0, aI a0), (1, aI a1), (5, aB x1), (6, aB x3)] rfl (by kernel_rfl) ?_))
  refine sq (sq (detn [(0, aI a0), (1, aI a1), (6, aB x3), (11, aB x1)] (by kernel_rfl) ?_))
  rcases bif_some hm with ⟨h5, hm⟩ | ⟨h5, hm⟩
  ·
   refine ct h5 (by kernel_rfl) (sq (sq (detn [(12, aB x3)] (by kernel_rfl) ?_)))
   rcases bif_some hm with ⟨h6, hm⟩ | ⟨h6, hm⟩
   ·
    refine ct h6 (by kernel_rfl) (sq (detn [(4, aI 0)] (by kernel_rfl) (wp_ret ?_)))
    obtain rfl := Option.some.inj hm
    exact ⟨trivial, by kernel_rfl⟩
   ·
    refine cf h6 (by kernel_rfl) (wp_skip (sq (detn [(4, aI (-1))] (by kernel_rfl) (wp_ret ?_))))
    obtain rfl := Option.some.inj hm
    exact ⟨trivial, by kernel_rfl⟩
  ·
   refine cf h5 (by kernel_rfl) (wp_skip ?_)
   refine sq (sq (detn [(0, aI a0), (1, aI a1), (13, aB x3)] (by kernel_rfl) ?_))
   rcases bif_some hm with ⟨h7, hm⟩ | ⟨h7, hm⟩
   ·
    refine ct h7 (by kernel_rfl) (sq (detn [(4, aI 1)] (by kernel_rfl) (wp_ret ?_)))
    obtain rfl := Option.some.inj hm
    exact ⟨trivial, by kernel_rfl⟩
   ·
    refine cf h7 (by kernel_rfl) (wp_skip (sq (sq (detn [(0, aI a0), (1, aI a1), (16, aB (decide (a0 < a1)))] (by kernel_rfl) ?_))))
    rcases bif_some hm with ⟨h8, hm⟩ | ⟨h8, hm⟩
    ·
     refine ct h8 (by kernel_rfl) (sq (detn [(4, aI (-1))] (by kernel_rfl) (wp_ret ?_)))
     obtain rfl := Option.some.inj hm
     exact ⟨trivial, by kernel_rfl⟩
    ·
     refine cf h8 (by kernel_rfl) (wp_skip (sq (sq (detn [(19, aB (decide (a0 > a1)))] (by kernel_rfl) ?_))))
     rcases bif_some hm with ⟨h9, hm⟩ | ⟨h9, hm⟩
     ·
      refine ct h9 (by kernel_rfl) (sq (detn [(4, aI 1)] (by kernel_rfl) (wp_ret ?_)))
      obtain rfl := Option.some.inj hm
      exact ⟨trivial, by kernel_rfl⟩
     ·
      refine cf h9 (by kernel_rfl) (wp_skip (sq (detn [(4, aI 0)] (by kernel_rfl) (wp_ret ?_))))
      obtain rfl := Option.some.inj hm
      exact ⟨trivial, by kernel_rfl⟩
theorem ok_value_Cmp {n : Nat} {a0 : api_Value} {a1 : api_Value} {r : Int} (hm : value_Cmp n a0 a1 = some r) :
    call G n 37 [.agg [aI a0.fKind, aI a0.fInt, aF a0.fFloat, aS a0.fText], .agg [aI a1.fKind, aI a1.fInt, aF a1.fFloat, aS a1.fText]] [] = some (.ret (aI r), []) := by
  unfold value_Cmp at hm
  obtain ⟨n, rfl, h0⟩ := at1_some hm
  replace hm := h0; clear h0
  refine callL 40 [(0, .agg [aI a0.fKind, aI a0.fInt, aF a0.fFloat, aS a0.fText]), (1, .agg [aI a1.fKind, aI a1.fInt, aF a1.fFloat, aS a1.fText])] func37 rfl (by kernel_rfl) (sq (det [(2, .ptr 0 0), (3, .ptr 1 0)] [.box [aI a0.fKind, aI a0.fInt, aF a0.fFloat, aS a0.fText] false, .box [aI a1.fKind, aI a1.fInt, aF a1.fFloat, aS a1.fText] false] (by kernel_rfl) (sq (rgd (shd 1 [(5, .agg [aI a0.fKind, aI a0.fInt, aF a0.fFloat, aS a0.fText])] (by kernel_rfl) ?_)))))
  obtain ⟨x1, h2, hm⟩ := bs hm
  refine dvd 6 (cpure (by kernel_rfl) (ok_value_Plain h2) (by kernel_rfl) (by kernel_rfl) (by kernel_rfl)) (by kernel_rfl) (shd 1 [(7, .agg [aI a1.fKind, aI a1.fInt, aF a1.fFloat, aS a1.fText])] (by kernel_rfl) ?_)
  obtain ⟨x3, h4, hm⟩ := bs hm
  refine dvd 8 (cpure (by kernel_rfl) (ok_value_Plain h4) (by kernel_rfl) (by kernel_rfl) (by kernel_rfl)) (by kernel_rfl) (std 2 [] [.box [aI x1.fKind, aI x1.fInt, aF x1.fFloat, aS x1.fText] false, .box [aI x3.fKind, aI x3.fInt, aF x3.fFloat, aS x3.fText] false] (by kernel_rfl) (find [(2, .ptr 0 0), (3, .ptr 1 0)] rfl (by kernel_rfl) (by kernel_rfl) ?_))
  refine sq (sq (detn [(2, .ptr 0 0), (3, .ptr 1 0), (13, aB (x1.fKind != x3.fKind))] (by kernel_rfl) ?_))
  rcases bif_some hm with ⟨h5, hm⟩ | ⟨h5, hm⟩
  ·
   refine ct h5 (by kernel_rfl) (sq (rg (sh 4 [(17, aI x3.fKind), (16, .ptr 1 0), (15, aI x1.fKind), (14, .ptr 0 0)] (by kernel_rfl) ?_)))
   obtain ⟨x6, h7, hm⟩ := bs hm
   refine dv 18 (cpure (by kernel_rfl) (ok_cmp_Compare_int h7) (by kernel_rfl) (by kernel_rfl) (by kernel_rfl)) (by kernel_rfl) (sh 1 [(4, aI x6)] (by kernel_rfl) (fin [(4, aI x6)] rfl (by kernel_rfl) (wp_ret ?_)))
   obtain rfl := Option.some.inj hm
   exact ⟨trivial, by kernel_rfl⟩
  ·
   refine cf h5 (by kernel_rfl) (wp_skip (sq (sq (detn [(2, .ptr 0 0), (3, .ptr 1 0), (20, aI x1.fKind)] (by kernel_rfl) (bq (sq (detn [(2, .ptr 0 0), (3, .ptr 1 0), (20, aI x1.fKind), (21, aB (x1.fKind == 3))] (by kernel_rfl) ?_)))))))
   rcases bif_some hm with ⟨h8, hm⟩ | ⟨h8, hm⟩
   ·
    refine ct h8 (by kernel_rfl) (sq (rg (sh 4 [(26, aF x3.fFloat), (25, .ptr 1 2), (24, aF x1.fFloat), (23, .ptr 0 2)] (by kernel_rfl) ?_)))
    obtain ⟨x9, h10, hm⟩ := bs hm
    refine dv 27 (cpure (by kernel_rfl) (ok_value_floats h10) (by kernel_rfl) (by kernel_rfl) (by kernel_rfl)) (by kernel_rfl) (sh 1 [(4, aI x9)] (by kernel_rfl) (fin [(4, aI x9)] rfl (by kernel_rfl) (wp_ret ?_)))
    obtain rfl := Option.some.inj hm
    exact ⟨trivial, by kernel_rfl⟩
   ·
    refine cf h8 (by kernel_rfl) (sq (detn [(2, .ptr 0 0), (3, .ptr 1 0), (28, aB (x1.fKind == 4))] (by kernel_rfl) ?_))
    rcases bif_some hm with ⟨h11, hm⟩ | ⟨h11, hm⟩
    ·
     refine ct h11 (by kernel_rfl) (sq (rg (sh 4 [(33, aS x3.fText), (32, .ptr 1 3), (31, aS x1.fText), (30, .ptr 0 3)] (by kernel_rfl) ?_)))
     obtain ⟨x12, h13, hm⟩ := bs hm
     refine dv 34 (cpure (by kernel_rfl) (ok_cmp_Compare_string h13) (by kernel_rfl) (by kernel_rfl) (by kernel_rfl)) (by kernel_rfl) (sh 1 [(4, aI x12)] (by kernel_rfl) (fin [(4, aI x12)] rfl (by kernel_rfl) (wp_ret ?_)))
     obtain rfl := Option.some.inj hm
     exact ⟨trivial, by kernel_rfl⟩
    ·
     refine cf h11 (by kernel_rfl) (wp_skip (sq (rg (sh 4 [(38, aI x3.fInt), (37, .ptr 1 1), (36, aI x1.fInt), (35, .ptr 0 1)] (by kernel_rfl) ?_))))
     obtain ⟨x14, h15, hm⟩ := bs hm
     refine dv 39 (cpure (by kernel_rfl) (ok_cmp_Compare_int64 h15) (by kernel_rfl) (by kernel_rfl) (by kernel_rfl)) (by kernel_rfl) (sh 1 [(4, aI x14)] (by kernel_rfl) (fin [(4, aI x14)] rfl (by kernel_rfl) (wp_ret ?_)))
     obtain rfl := Option.some.inj hm
     exact ⟨trivial, by kernel_rfl⟩
theorem ok_row_lists_Value_value_Cmp {n : Nat} {a0 : (Option (List api_Value))} {a1 : (Option (List api_Value))} {r : Int} (hm : row_lists_Value_value_Cmp n a0 a1 = some r) :
    call G n 36 [.pv (encSl R_api_Value a0), .pv (encSl R_api_Value a1), .pv (.fn 37 [] [])] [] = some (.ret (aI r), []) := by
  unfold row_lists_Value_value_Cmp at hm
  obtain ⟨n, rfl, h0⟩ := at1_some hm
  replace hm := h0; clear h0
  refine callL 39 [(0, .pv (encSl R_api_Value a0)), (1, .pv (encSl R_api_Value a1)), (2, .pv (.fn 37 [] []))] func36 rfl (by kernel_rfl) (sq (detn [(0, .pv (encSl R_api_Value a0)), (1, .pv (encSl R_api_Value a1)), (2, .pv (.fn 37 [] []))] (by kernel_rfl) ?_))
  obtain ⟨k3, hk3, hm⟩ := withK_some hm
  refine mid (fun t H => (∃ (y1 : Bool) (y2 : Int), k3 () = some r ∧ t = mk 39 [(0, .pv (encSl R_api_Value a0)), (1, .pv (encSl R_api_Value a1)), (2, .pv (.fn 37 [] [])), (7, aI y2), (18, aB y1)] ∧ H = [])) ?_ ?_
  ·
   rintro _ _ ⟨y1, y2, hm, rfl, rfl⟩
   subst hk3
   refine sq (rg (sh 1 [(34, .pv (encSl R_api_Value a0))] (by kernel_rfl) (dv 35 (v := aI ((sll a0).length : Int)) (len_slO R_api_Value a0 t22 (by kernel_rfl)) (by kernel_rfl) (sh 1 [(36, .pv (encSl R_api_Value a1))] (by kernel_rfl) (dv 37 (v := aI ((sll a1).length : Int)) (len_slO R_api_Value a1 t22 (by kernel_rfl)) (by kernel_rfl) ?_)))))
   obtain ⟨x4, h5, hm⟩ := bs hm
   refine dv 38 (cpure (by kernel_rfl) (ok_cmp_Compare_int h5) (by kernel_rfl) (by kernel_rfl) (by kernel_rfl)) (by kernel_rfl) (sh 1 [(6, aI x4)] (by kernel_rfl) (fin [(6, aI x4)] rfl (by kernel_rfl) (wp_ret ?_)))
   obtain rfl := Option.some.inj hm
   exact ⟨trivial, by kernel_rfl⟩
  refine sq (detn [(0, .pv (encSl R_api_Value a0)), (1, .pv (encSl R_api_Value a1)), (2, .pv (.fn 37 [] [])), (7, aI 0)] (by kernel_rfl) (bq ?_))
  refine loopF (fun mm t H => (∃ (y7 : Int), row_lists_Value_value_Cmp_l2 n a0 a1 k3 mm y7 = some r ∧ t = mk 39 [(0, .pv (encSl R_api_Value a0)), (1, .pv (encSl R_api_Value a1)), (2, .pv (.fn 37 [] [])), (7, aI y7)] ∧ H = [])) (⟨0, hm, rfl, rfl⟩) ?_ ?_
  · rintro _ _ ⟨y7, hm, _⟩; exact nomatch hm
  rintro m8 _ _ ⟨y7, hm, rfl, rfl⟩
  simp only [row_lists_Value_value_Cmp_l2] at hm
  refine sq (sq (rg (sh 2 [(10, .pv (encSl R_api_Value a0)), (9, aI y7)] (by kernel_rfl) (dv 11 (v := aI ((sll a0).length : Int)) (len_slO R_api_Value a0 t22 (by kernel_rfl)) (by kernel_rfl) (sh 2 [(13, aB (decide (y7 < ((sll a0).length : Int)))), (12, aB (decide (y7 < ((sll a0).length : Int))))] (by kernel_rfl) ?_)))))
  refine seg (decide (y7 < ((sll a0).length : Int))) [13, 12] (fun b => [(18, aB (b && (decide (y7 < ((sll a1).length : Int))))), (17, ifA b (aB (decide (y7 < ((sll a1).length : Int)))) (.undef)), (16, ifA b (aI ((sll a1).length : Int)) (.undef)), (15, ifA b (.pv (encSl R_api_Value a1)) (.undef)), (14, ifA b (aI y7) (.undef))]) 10 (by kernel_rfl) ?_ ?_ ?_
  ·
   intro Q h
   refine sh 2 [(15, .pv (encSl R_api_Value a1)), (14, aI y7)] (by kernel_rfl) (dv 16 (v := aI ((sll a1).length : Int)) (len_slO R_api_Value a1 t22 (by kernel_rfl)) (by kernel_rfl) (sh 2 [(18, aB (decide (y7 < ((sll a1).length : Int)))), (17, aB (decide (y7 < ((sll a1).length : Int))))] (by kernel_rfl) ?_))
   exact sameN (by kernel_rfl) (by kernel_rfl) h
  ·
   intro Q h
   refine sh 5 [(18, aB false), (17, .undef), (16, .undef), (15, .undef), (14, .undef)] (by kernel_rfl) ?_
   exact sameN (by kernel_rfl) (by kernel_rfl) h
  refine fin [(0, .pv (encSl R_api_Value a0)), (1, .pv (encSl R_api_Value a1)), (2, .pv (.fn 37 [] [])), (7, aI y7), (18, aB ((decide (y7 < ((sll a0).length : Int))) && (decide (y7 < ((sll a1).length : Int)))))] rfl (by kernel_rfl) ?_
  rcases bif_some hm with ⟨h9, hm⟩ | ⟨h9, hm⟩
  ·
   refine ct h9 (by kernel_rfl) (wp_skip (sq (bq (sq (rgd (shd 3 [(23, aI y7), (22, .pv (encSl R_api_Value a0)), (21, .pv (.fn 37 [] []))] (by kernel_rfl) ?_))))))
   obtain ⟨x10, h11, hm⟩ := bs hm
   refine dvd 24 (v := .pv (.ptr (R_api_Value x10) 0)) (ia_slO R_api_Value a0 .i64 t22 t38 h11 rfl (by kernel_rfl)) (by kernel_rfl) (shd 3 [(27, aI y7), (26, .pv (encSl R_api_Value a1)), (25, .agg [aI x10.fKind, aI x10.fInt, aF x10.fFloat, aS x10.fText])] (by kernel_rfl) ?_)
   obtain ⟨x12, h13, hm⟩ := bs hm
   refine dvd 28 (v := .pv (.ptr (R_api_Value x12) 0)) (ia_slO R_api_Value a1 .i64 t22 t38 h13 rfl (by kernel_rfl)) (by kernel_rfl) (shd 1 [(29, .agg [aI x12.fKind, aI x12.fInt, aF x12.fFloat, aS x12.fText])] (by kernel_rfl) ?_)
   obtain ⟨x14, h15, hm⟩ := bs hm
   refine dvd 30 (cpure (by kernel_rfl) (ok_value_Cmp h15) (by kernel_rfl) (by kernel_rfl) (by kernel_rfl)) (by kernel_rfl) (shd 1 [(8, aI x14)] (by kernel_rfl) (find [(0, .pv (encSl R_api_Value a0)), (1, .pv (encSl R_api_Value a1)), (2, .pv (.fn 37 [] [])), (7, aI y7), (8, aI x14)] rfl (by kernel_rfl) (by kernel_rfl) (sq (detn [(0, .pv (encSl R_api_Value a0)), (1, .pv (encSl R_api_Value a1)), (2, .pv (.fn 37 [] [])), (7, aI y7), (8, aI x14), (32, aB (x14 != 0))] (by kernel_rfl) ?_))))
   rcases bif_some hm with ⟨h16, hm⟩ | ⟨h16, hm⟩
   ·
    refine ct h16 (by kernel_rfl) (sq (detn [(6, aI x14)] (by kernel_rfl) (wp_ret ?_)))
    obtain rfl := Option.some.inj hm
    exact ⟨trivial, by kernel_rfl⟩
   ·
    refine cf h16 (by kernel_rfl) (wp_skip (detn [(0, .pv (encSl R_api_Value a0)), (1, .pv (encSl R_api_Value a1)), (2, .pv (.fn 37 [] [])), (7, aI (IntKind.wrap .i64 (y7 + 1)))] (by kernel_rfl) ?_))
    exact ⟨_, _, tidyL [(0, .pv (encSl R_api_Value a0)), (1, .pv (encSl R_api_Value a1)), (2, .pv (.fn 37 [] [])), (7, aI (IntKind.wrap .i64 (y7 + 1)))] [] (by kernel_rfl), ⟨(IntKind.wrap .i64 (y7 + 1)), hm, rfl, rfl⟩⟩
  ·
   refine cf h9 (by kernel_rfl) (wp_exit ?_)
   exact ⟨((decide (y7 < ((sll a0).length : Int))) && (decide (y7 < ((sll a1).length : Int)))), y7, hm, rfl, rfl⟩
theorem ok_row_Cmp {n : Nat} {a0 : (Option (List api_Value))} {a1 : (Option (List api_Value))} {r : Int} (hm : row_Cmp n a0 a1 = some r) :
    call G n 12 [.pv (encSl R_api_Value a0), .pv (encSl R_api_Value a1)] [] = some (.ret (aI r), []) := by
  unfold row_Cmp at hm
  obtain ⟨n, rfl, h0⟩ := at1_some hm
  replace hm := h0; clear h0
  refine callL 8 [(0, .pv (encSl R_api_Value a0)), (1, .pv (encSl R_api_Value a1))] func12 rfl (by kernel_rfl) (sq (detn [(0, .pv (encSl R_api_Value a0)), (1, .pv (encSl R_api_Value a1))] (by kernel_rfl) (sq (rg (sh 2 [(6, .pv (encSl R_api_Value a1)), (5, .pv (encSl R_api_Value a0))] (by kernel_rfl) ?_)))))
  obtain ⟨x1, h2, hm⟩ := bs hm
  refine dv 7 (cpure (by kernel_rfl) (ok_row_lists_Value_value_Cmp h2) (by kernel_rfl) (by kernel_rfl) (by kernel_rfl)) (by kernel_rfl) (sh 1 [(4, aI x1)] (by kernel_rfl) (fin [(4, aI x1)] rfl (by kernel_rfl) (wp_ret ?_)))
  obtain rfl := Option.some.inj hm
  exact ⟨trivial, by kernel_rfl⟩
theorem ok_row_at {n : Nat} {a0 : (Option (List api_Value))} {a1 : Int} {r : api_Value} (hm : row_at n a0 a1 = some r) :
    call G n 39 [.pv (encSl R_api_Value a0), aI a1] [] = some (.ret (.agg [aI r.fKind, aI r.fInt, aF r.fFloat, aS r.fText]), []) := by
  unfold row_at at hm
  obtain ⟨n, rfl, h0⟩ := at1_some hm
  replace hm := h0; clear h0
  refine callL 18 [(0, .pv (encSl R_api_Value a0)), (1, aI a1)] func39 rfl (by kernel_rfl) (sq (det [(0, .pv (encSl R_api_Value a0)), (1, aI a1), (4, .ptr 0 0)] [.box [aI 0, aI 0, aF 0, aS ByteArray.empty] false] (by kernel_rfl) (sq (sq (rg (sh 3 [(7, aB (decide (a1 < 0))), (6, aB (decide (a1 < 0))), (5, aI a1)] (by kernel_rfl) ?_))))))
  refine seg (decide (a1 < 0)) [7, 6] (fun b => [(12, aB (b || (decide (a1 ≥ ((sll a0).length : Int))))), (11, ifA b (.undef) (aB (decide (a1 ≥ ((sll a0).length : Int))))), (10, ifA b (.undef) (aI ((sll a0).length : Int))), (9, ifA b (.undef) (.pv (encSl R_api_Value a0))), (8, ifA b (.undef) (aI a1))]) 8 (by kernel_rfl) ?_ ?_ ?_
  ·
   intro Q h
   refine sh 5 [(12, aB true), (11, .undef), (10, .undef), (9, .undef), (8, .undef)] (by kernel_rfl) ?_
   exact sameN (by kernel_rfl) (by kernel_rfl) h
  ·
   intro Q h
   refine sh 2 [(9, .pv (encSl R_api_Value a0)), (8, aI a1)] (by kernel_rfl) (dv 10 (v := aI ((sll a0).length : Int)) (len_slO R_api_Value a0 t22 (by kernel_rfl)) (by kernel_rfl) (sh 2 [(12, aB (decide (a1 ≥ ((sll a0).length : Int)))), (11, aB (decide (a1 ≥ ((sll a0).length : Int))))] (by kernel_rfl) ?_))
   exact sameN (by kernel_rfl) (by kernel_rfl) h
  refine fin [(0, .pv (encSl R_api_Value a0)), (1, aI a1), (4, .ptr 0 0), (12, aB ((decide (a1 < 0)) || (decide (a1 ≥ ((sll a0).length : Int)))))] rfl (by kernel_rfl) ?_
  rcases bif_some hm with ⟨h1, hm⟩ | ⟨h1, hm⟩
  ·
   refine ct h1 (by kernel_rfl) (sq (detn [(4, .ptr 0 0)] (by kernel_rfl) (wp_ret ?_)))
   obtain rfl := Option.some.inj hm
   exact ⟨trivial, by kernel_rfl⟩
  ·
   refine cf h1 (by kernel_rfl) (wp_skip (sq (rg (sh 2 [(15, aI a1), (14, .pv (encSl R_api_Value a0))] (by kernel_rfl) ?_))))
   obtain ⟨x2, h3, hm⟩ := bs hm
   refine dv 16 (v := .pv (.ptr (R_api_Value x2) 0)) (ia_slO R_api_Value a0 .i64 t22 t38 h3 rfl (by kernel_rfl)) (by kernel_rfl) (st 2 [(17, .agg [aI x2.fKind, aI x2.fInt, aF x2.fFloat, aS x2.fText])] [.box [aI x2.fKind, aI x2.fInt, aF x2.fFloat, aS x2.fText] false] (by kernel_rfl) (fin [(4, .ptr 0 0)] rfl (by kernel_rfl) (wp_ret ?_)))
   obtain rfl := Option.some.inj hm
   exact ⟨trivial, by kernel_rfl⟩
theorem ok_row_By {n : Nat} {a0 : (Option (List api_Key))} {a1 : (Option (List api_Value))} {a2 : (Option (List api_Value))} {r : Int} (hm : row_By n a0 a1 a2 = some r) :
    call G n 14 [.pv (encSl R_api_Key a0), .pv (encSl R_api_Value a1), .pv (encSl R_api_Value a2)] [] = some (.ret (aI r), []) := by
  unfold row_By at hm
  obtain ⟨n, rfl, h0⟩ := at1_some hm
  replace hm := h0; clear h0
  refine callL 33 [(0, .pv (encSl R_api_Key a0)), (1, .pv (encSl R_api_Value a1)), (2, .pv (encSl R_api_Value a2))] func14 rfl (by kernel_rfl) (sq (detn [(0, .pv (encSl R_api_Key a0)), (1, .pv (encSl R_api_Value a1)), (2, .pv (encSl R_api_Value a2))] (by kernel_rfl) ?_))
  obtain ⟨k3, hk3, hm⟩ := withK_some hm
  refine mid (fun t H => (∃ (y1 : Int) (y2 : Bool), k3 () = some r ∧ t = mk 33 [(1, .pv (encSl R_api_Value a1)), (2, .pv (encSl R_api_Value a2)), (10, .pv (encSl R_api_Key a0)), (11, aI ((sll a0).length : Int)), (12, aI y1), (13, aB y2)] ∧ H = [])) ?_ ?_
  ·
   rintro _ _ ⟨y1, y2, hm, rfl, rfl⟩
   subst hk3
   refine sq (detn [(6, aI 0)] (by kernel_rfl) (wp_ret ?_))
   obtain rfl := Option.some.inj hm
   exact ⟨trivial, by kernel_rfl⟩
  refine sq (rg (sh 1 [(10, .pv (encSl R_api_Key a0))] (by kernel_rfl) (dv 11 (v := aI ((sll a0).length : Int)) (len_slO R_api_Key a0 t23 (by kernel_rfl)) (by kernel_rfl) (sh 1 [(12, aI 0)] (by kernel_rfl) (fin [(1, .pv (encSl R_api_Value a1)), (2, .pv (encSl R_api_Value a2)), (10, .pv (encSl R_api_Key a0)), (11, aI ((sll a0).length : Int)), (12, aI 0)] rfl (by kernel_rfl) (bq ?_))))))
  refine loopF (fun mm t H => (∃ (y5 : Int), row_By_l2 n a0 a1 a2 k3 mm y5 = some r ∧ t = mk 33 [(1, .pv (encSl R_api_Value a1)), (2, .pv (encSl R_api_Value a2)), (10, .pv (encSl R_api_Key a0)), (11, aI ((sll a0).length : Int)), (12, aI y5)] ∧ H = [])) (⟨0, hm, rfl, rfl⟩) ?_ ?_
  · rintro _ _ ⟨y5, hm, _⟩; exact nomatch hm
  rintro m6 _ _ ⟨y5, hm, rfl, rfl⟩
  simp only [row_By_l2] at hm
  refine sq (detn [(1, .pv (encSl R_api_Value a1)), (2, .pv (encSl R_api_Value a2)), (10, .pv (encSl R_api_Key a0)), (11, aI ((sll a0).length : Int)), (12, aI y5), (13, aB (decide (y5 < ((sll a0).length : Int))))] (by kernel_rfl) ?_)
  refine sq ?_
  rcases bif_some hm with ⟨h7, hm⟩ | ⟨h7, hm⟩
  ·
   refine ct h7 (by kernel_rfl) (wp_skip (sq (bq (sq (rg ?_)))))
   obtain ⟨x8, h9, hm⟩ := bs hm
   refine dv 14 (v := .pv (.ptr (R_api_Key x8) 0)) (ia_slO R_api_Key a0 .i64 t23 t54 h9 rfl (by kernel_rfl)) (by kernel_rfl) (st 3 [(8, .ptr 0 0), (15, .agg [aI x8.fOut, aB x8.fDesc])] [.box [aI x8.fOut, aB x8.fDesc] false] (by kernel_rfl) (fin [(1, .pv (encSl R_api_Value a1)), (2, .pv (encSl R_api_Value a2)), (8, .ptr 0 0), (10, .pv (encSl R_api_Key a0)), (11, aI ((sll a0).length : Int)), (12, aI y5)] rfl (by kernel_rfl) (sq (rgd (shd 3 [(18, aI x8.fOut), (17, .ptr 0 0), (16, .pv (encSl R_api_Value a1))] (by kernel_rfl) ?_)))))
   obtain ⟨x10, h11, hm⟩ := bs hm
   refine dvd 19 (cpure (by kernel_rfl) (ok_row_at h11) (by kernel_rfl) (by kernel_rfl) (by kernel_rfl)) (by kernel_rfl) (shd 3 [(22, aI x8.fOut), (21, .ptr 0 0), (20, .pv (encSl R_api_Value a2))] (by kernel_rfl) ?_)
   obtain ⟨x12, h13, hm⟩ := bs hm
   refine dvd 23 (cpure (by kernel_rfl) (ok_row_at h13) (by kernel_rfl) (by kernel_rfl) (by kernel_rfl)) (by kernel_rfl) ?_
   obtain ⟨x14, h15, hm⟩ := bs hm
   refine dvd 24 (cpure (by kernel_rfl) (ok_value_Cmp h15) (by kernel_rfl) (by kernel_rfl) (by kernel_rfl)) (by kernel_rfl) (shd 1 [(9, aI x14)] (by kernel_rfl) (find [(1, .pv (encSl R_api_Value a1)), (2, .pv (encSl R_api_Value a2)), (8, .ptr 0 0), (9, aI x14), (10, .pv (encSl R_api_Key a0)), (11, aI ((sll a0).length : Int)), (12, aI y5)] rfl (by kernel_rfl) (by kernel_rfl) (sq (sq (detn [(1, .pv (encSl R_api_Value a1)), (2, .pv (encSl R_api_Value a2)), (9, aI x14), (10, .pv (encSl R_api_Key a0)), (11, aI ((sll a0).length : Int)), (12, aI y5), (26, aB x8.fDesc)] (by kernel_rfl) ?_)))))
   rcases bif_some hm with ⟨h16, hm⟩ | ⟨h16, hm⟩
   ·
    refine ct h16 (by kernel_rfl) (detn [(1, .pv (encSl R_api_Value a1)), (2, .pv (encSl R_api_Value a2)), (9, aI (IntKind.wrap .i64 (0 - x14))), (10, .pv (encSl R_api_Key a0)), (11, aI ((sll a0).length : Int)), (12, aI y5)] (by kernel_rfl) (sq (detn [(1, .pv (encSl R_api_Value a1)), (2, .pv (encSl R_api_Value a2)), (9, aI (IntKind.wrap .i64 (0 - x14))), (10, .pv (encSl R_api_Key a0)), (11, aI ((sll a0).length : Int)), (12, aI y5), (30, aB ((IntKind.wrap .i64 (0 - x14)) != 0))] (by kernel_rfl) ?_)))
    rcases bif_some hm with ⟨h17, hm⟩ | ⟨h17, hm⟩
    ·
     refine ct h17 (by kernel_rfl) (sq (detn [(6, aI (IntKind.wrap .i64 (0 - x14)))] (by kernel_rfl) (wp_ret ?_)))
     obtain rfl := Option.some.inj hm
     exact ⟨trivial, by kernel_rfl⟩
    ·
     refine cf h17 (by kernel_rfl) (wp_skip (detn [(1, .pv (encSl R_api_Value a1)), (2, .pv (encSl R_api_Value a2)), (10, .pv (encSl R_api_Key a0)), (11, aI ((sll a0).length : Int)), (12, aI (IntKind.wrap .i64 (y5 + 1)))] (by kernel_rfl) ?_))
     exact ⟨_, _, tidyL [(1, .pv (encSl R_api_Value a1)), (2, .pv (encSl R_api_Value a2)), (10, .pv (encSl R_api_Key a0)), (11, aI ((sll a0).length : Int)), (12, aI (IntKind.wrap .i64 (y5 + 1)))] [] (by kernel_rfl), ⟨(IntKind.wrap .i64 (y5 + 1)), hm, rfl, rfl⟩⟩
   ·
    refine cf h16 (by kernel_rfl) (wp_skip (sq (detn [(1, .pv (encSl R_api_Value a1)), (2, .pv (encSl R_api_Value a2)), (9, aI x14), (10, .pv (encSl R_api_Key a0)), (11, aI ((sll a0).length : Int)), (12, aI y5), (30, aB (x14 != 0))] (by kernel_rfl) ?_)))
    rcases bif_some hm with ⟨h18, hm⟩ | ⟨h18, hm⟩
    ·
     refine ct h18 (by kernel_rfl) (sq (detn [(6, aI x14)] (by kernel_rfl) (wp_ret ?_)))
     obtain rfl := Option.some.inj hm
     exact ⟨trivial, by kernel_rfl⟩
    ·
     refine cf h18 (by kernel_rfl) (wp_skip (detn [(1, .pv (encSl R_api_Value a1)), (2, .pv (encSl R_api_Value a2)), (10, .pv (encSl R_api_Key a0)), (11, aI ((sll a0).length : Int)), (12, aI (IntKind.wrap .i64 (y5 + 1)))] (by kernel_rfl) ?_))
     exact ⟨_, _, tidyL [(1, .pv (encSl R_api_Value a1)), (2, .pv (encSl R_api_Value a2)), (10, .pv (encSl R_api_Key a0)), (11, aI ((sll a0).length : Int)), (12, aI (IntKind.wrap .i64 (y5 + 1)))] [] (by kernel_rfl), ⟨(IntKind.wrap .i64 (y5 + 1)), hm, rfl, rfl⟩⟩
  ·
   refine cf h7 (by kernel_rfl) (wp_exit ?_)
   exact ⟨y5, (decide (y5 < ((sll a0).length : Int))), hm, rfl, rfl⟩
theorem run_law05_works : call G 3999999 16 [] [] = some (.ret (aB true), []) := by kernel_rfl
theorem ok_law05_works {n : Nat} {r : Bool} (hm : law05_works n = some r) :
    call G n 16 [] [] = some (.ret (aB r), []) := by
  unfold law05_works at hm
  have hn : n = 3999999 := by
    cases h : n == 3999999 with
    | true => exact eq_of_beq h
    | false => rw [h] at hm; cases hm
  subst hn
  have h2 : some true = some r := hm
  obtain rfl := Option.some.inj h2
  exact run_law05_works
theorem ok_slices_Clone_Value {n : Nat} {a0 : (Option (List (Option (List api_Value))))} {r : (Option (List (Option (List api_Value))))} (hm : slices_Clone_Value n a0 = some r) :
    ∃ vv H1, call G n 66 [.pv (encSl (rSl R_api_Value) a0)] [] = some (.ret vv, H1) ∧ (match r with | none => (vv = .pv .nils ∧ H1 = []) | some r0 => (∃ (e1 : Nat), r0.length = e1 ∧ vv = aR 0 1 e1 ∧ H1 = [bR 22 1 (rSl R_api_Value) r0 0 0])) := by
  unfold slices_Clone_Value at hm
  obtain ⟨n, rfl, h0⟩ := at1_some hm
  replace hm := h0; clear h0
  refine callE 8 [(0, .pv (encSl (rSl R_api_Value) a0))] func66 rfl (by kernel_rfl) (sq (detn [(0, .pv (encSl (rSl R_api_Value) a0))] (by kernel_rfl) (sq (sq (rg (sh 1 [(3, .pv (encSl (rSl R_api_Value) a0))] (by kernel_rfl) (dv 4 (v := aB (a0.isNone)) (nil_eqlO (rSl R_api_Value) a0 t25 (by kernel_rfl)) (by kernel_rfl) (fin [(0, .pv (encSl (rSl R_api_Value) a0)), (4, aB (a0.isNone))] rfl (by kernel_rfl) ?_))))))))
  rcases bif_some hm with ⟨h1, hm⟩ | ⟨h1, hm⟩
  ·
   refine ct h1 (by kernel_rfl) (sq (detn [(2, .pv .nils)] (by kernel_rfl) (wp_ret ?_)))
   obtain rfl := Option.some.inj hm
   exact ⟨trivial, .pv .nils, [], by kernel_rfl, rfl, rfl⟩
  ·
   refine cf h1 (by kernel_rfl) (wp_skip (sq (rg (st 2 [(6, .pv (encSl (rSl R_api_Value) a0)), (5, aR 0 1 0)] [bR 22 1 (rSl R_api_Value) ([] : List (Option (List api_Value))) 0 0] (by kernel_rfl) ?_))))
   rcases bif_some hm with ⟨h2, hm⟩ | ⟨h2, hm⟩
   ·
    obtain ⟨_, h3, hm⟩ := bs hm
    refine dv 7 (v := aR 0 1 0) (app_ref0O (u := 0) (y := .pv (encSl (rSl R_api_Value) a0)) (n := 0) (id := 0) (rSl R_api_Value) ([] : List (Option (List api_Value))) (sll a0) (b := 24) t25 t22 rfl rfl rfl h2 h3 rfl (by first | rfl | assumption | omega | (simp only [List.length_set, List.length_append, List.length_cons, List.length_nil, List.length_replicate, List.length_drop] at * <;> omega)) (Nat.zero_le _) (src_sl (R := (rSl R_api_Value)) (s := a0)) (by kernel_rfl)) (by kernel_rfl) (sh 1 [(2, aR 0 1 0)] (by kernel_rfl) (fin [(2, aR 0 1 0)] rfl (by kernel_rfl) (wp_ret ?_)))
    obtain rfl := Option.some.inj hm
    exact ⟨trivial, aR 0 1 0, [bR 22 1 (rSl R_api_Value) ([] : List (Option (List api_Value))) 0 0], by kernel_rfl, 0, (by first | rfl | assumption | omega | (simp only [List.length_set, List.length_append, List.length_cons, List.length_nil, List.length_replicate, List.length_drop] at * <;> omega)), rfl, rfl⟩
   ·
    obtain ⟨_, h4, hm⟩ := bs hm
    refine dO [(7, aR 0 1 ((([] : List (Option (List api_Value))) ++ (sll a0)).length))] [bR 22 1 (rSl R_api_Value) (([] : List (Option (List api_Value))) ++ (sll a0)) 0 0] (app_refO (u := 0) (n := 0) (id := 0) (rSl R_api_Value) ([] : List (Option (List api_Value))) (sll a0) (b := 24) t25 t22 rfl rfl rfl (fun _ => rfl) h2 h4 rfl (by first | rfl | assumption | omega | (simp only [List.length_set, List.length_append, List.length_cons, List.length_nil, List.length_replicate, List.length_drop] at * <;> omega)) (Nat.zero_le _) (src_sl (R := (rSl R_api_Value)) (s := a0)) (by kernel_rfl)) (by kernel_rfl) (sh 1 [(2, aR 0 1 ((([] : List (Option (List api_Value))) ++ (sll a0)).length))] (by kernel_rfl) (fin [(2, aR 0 1 ((([] : List (Option (List api_Value))) ++ (sll a0)).length))] rfl (by kernel_rfl) (wp_ret ?_)))
    obtain rfl := Option.some.inj hm
    exact ⟨trivial, aR 0 1 ((([] : List (Option (List api_Value))) ++ (sll a0)).length), [bR 22 1 (rSl R_api_Value) (([] : List (Option (List api_Value))) ++ (sll a0)) 0 0], by kernel_rfl, (([] : List (Option (List api_Value))) ++ (sll a0)).length, (by first | rfl | assumption | omega | (simp only [List.length_set, List.length_append, List.length_cons, List.length_nil, List.length_replicate, List.length_drop] at * <;> omega)), rfl, rfl⟩
theorem ok_math_bits_Len64 {n : Nat} {a0 : Int} {r : Int} (hm : math_bits_Len64 n a0 = some r) :
    call G n 102 [aU a0] [] = some (.ret (aI r), []) := by
  unfold math_bits_Len64 at hm
  obtain ⟨n, rfl, h0⟩ := at1_some hm
  replace hm := h0; clear h0
  refine callL 25 [(0, aU a0)] func102 rfl (by kernel_rfl) (sq (detn [(0, aU a0), (2, aI 0)] (by kernel_rfl) ?_))
  obtain ⟨k4, hk4, hm⟩ := withK_some hm
  refine mid (fun t H => (∃ (y2 : Int) (y3 : Int) (w1 : AV), k4 y2 y3 = some r ∧ t = mk 25 [(0, aU y2), (2, aI y3), (4, w1)] ∧ H = [])) ?_ ?_
  ·
   rintro _ _ ⟨y2, y3, w1, hm, rfl, rfl⟩
   subst hk4
   obtain ⟨k8, hk8, hm⟩ := withK_some hm
   refine mid (fun t H => (∃ (y6 : Int) (y7 : Int) (w5 : AV), k8 y6 y7 = some r ∧ t = mk 25 [(0, aU y6), (2, aI y7), (8, w5)] ∧ H = [])) ?_ ?_
   ·
    rintro _ _ ⟨y6, y7, w5, hm, rfl, rfl⟩
    subst hk8
    obtain ⟨k12, hk12, hm⟩ := withK_some hm
    refine mid (fun t H => (∃ (y10 : Int) (y11 : Int) (w9 : AV), k12 y10 y11 = some r ∧ t = mk 25 [(0, aU y10), (2, aI y11), (14, w9)] ∧ H = [])) ?_ ?_
    ·
     rintro _ _ ⟨y10, y11, w9, hm, rfl, rfl⟩
     subst hk12
     refine sq (rg (sh 3 [(21, aY (IntKind.wrap .u8 y10)), (20, aU y10), (19, aI y11)] (by kernel_rfl) ?_))
     obtain ⟨x13, h14, hm⟩ := bs hm
     refine dv 22 (v := aY x13) (ix_strO .u8 h14 (by kernel_rfl)) (by kernel_rfl) (sh 3 [(2, aI (IntKind.wrap .i64 (y11 + (IntKind.wrap .i64 x13)))), (24, aI (IntKind.wrap .i64 (y11 + (IntKind.wrap .i64 x13)))), (23, aI (IntKind.wrap .i64 x13))] (by kernel_rfl) (fin [(2, aI (IntKind.wrap .i64 (y11 + (IntKind.wrap .i64 x13))))] rfl (by kernel_rfl) (wp_ret ?_)))
     obtain rfl := Option.some.inj hm
     exact ⟨trivial, by kernel_rfl⟩
    refine sq (detn [(0, aU y6), (2, aI y7), (14, aB (decide (y6 ≥ 256)))] (by kernel_rfl) ?_)
    rcases bif_some hm with ⟨h15, hm⟩ | ⟨h15, hm⟩
    ·
     refine ct h15 (by kernel_rfl) (sq (detn [(0, aU (iShr .u64 y6 8)), (2, aI y7)] (by kernel_rfl) (detn [(0, aU (iShr .u64 y6 8)), (2, aI (IntKind.wrap .i64 (y7 + 8)))] (by kernel_rfl) ?_)))
     exact ⟨(iShr .u64 y6 8), (IntKind.wrap .i64 (y7 + 8)), .any, hm, (mk_same (by kernel_rfl)), rfl⟩
    ·
     refine cf h15 (by kernel_rfl) (wp_skip ?_)
     exact ⟨y6, y7, aB (decide (y6 ≥ 256)), hm, (mk_same (by kernel_rfl)), rfl⟩
   refine sq (detn [(0, aU y2), (2, aI y3), (8, aB (decide (y2 ≥ 65536)))] (by kernel_rfl) ?_)
   rcases bif_some hm with ⟨h16, hm⟩ | ⟨h16, hm⟩
   ·
    refine ct h16 (by kernel_rfl) (sq (detn [(0, aU (iShr .u64 y2 16)), (2, aI y3)] (by kernel_rfl) (detn [(0, aU (iShr .u64 y2 16)), (2, aI (IntKind.wrap .i64 (y3 + 16)))] (by kernel_rfl) ?_)))
    exact ⟨(iShr .u64 y2 16), (IntKind.wrap .i64 (y3 + 16)), .any, hm, (mk_same (by kernel_rfl)), rfl⟩
   ·
    refine cf h16 (by kernel_rfl) (wp_skip ?_)
    exact ⟨y2, y3, aB (decide (y2 ≥ 65536)), hm, (mk_same (by kernel_rfl)), rfl⟩
  refine sq (detn [(0, aU a0), (2, aI 0), (4, aB (decide (a0 ≥ 4294967296)))] (by kernel_rfl) ?_)
  rcases bif_some hm with ⟨h17, hm⟩ | ⟨h17, hm⟩
  ·
   refine ct h17 (by kernel_rfl) (sq (detn [(0, aU (iShr .u64 a0 32))] (by kernel_rfl) (detn [(0, aU (iShr .u64 a0 32)), (2, aI 32)] (by kernel_rfl) ?_)))
   exact ⟨(iShr .u64 a0 32), 32, .any, hm, (mk_same (by kernel_rfl)), rfl⟩
  ·
   refine cf h17 (by kernel_rfl) (wp_skip ?_)
   exact ⟨a0, 0, aB (decide (a0 ≥ 4294967296)), hm, (mk_same (by kernel_rfl)), rfl⟩
theorem ok_math_bits_Len {n : Nat} {a0 : Int} {r : Int} (hm : math_bits_Len n a0 = some r) :
    call G n 86 [aU a0] [] = some (.ret (aI r), []) := by
  unfold math_bits_Len at hm
  obtain ⟨n, rfl, h0⟩ := at1_some hm
  replace hm := h0; clear h0
  refine callL 8 [(0, aU a0)] func86 rfl (by kernel_rfl) (sq (detn [(0, aU a0)] (by kernel_rfl) (sq (cF (by kernel_rfl) (wp_skip (sq (rg (sh 1 [(6, aU a0)] (by kernel_rfl) ?_))))))))
  obtain ⟨x1, h2, hm⟩ := bs hm
  refine dv 7 (cpure (by kernel_rfl) (ok_math_bits_Len64 h2) (by kernel_rfl) (by kernel_rfl) (by kernel_rfl)) (by kernel_rfl) (sh 1 [(2, aI x1)] (by kernel_rfl) (fin [(2, aI x1)] rfl (by kernel_rfl) (wp_ret ?_)))
  obtain rfl := Option.some.inj hm
  exact ⟨trivial, by kernel_rfl⟩
theorem ok_slices_insertionSortCmpFunc_Value_row_Cmp_nil {n : Nat} {a0 : Int} {a1 : Int} {r : Unit} (hm : slices_insertionSortCmpFunc_Value_row_Cmp_nil n a0 a1 = some r) :
    ∃ vv H1, call G n 88 [.pv .nils, aI a0, aI a1, .pv (.fn 12 [] [])] [] = some (.ret vv, H1) ∧ (vv = .tup [] ∧ H1 = []) := by
  unfold slices_insertionSortCmpFunc_Value_row_Cmp_nil at hm
  obtain ⟨n, rfl, h0⟩ := at1_some hm
  replace hm := h0; clear h0
  refine callE 53 [(0, .pv .nils), (1, aI a0), (2, aI a1), (3, .pv (.fn 12 [] []))] func88 rfl (by kernel_rfl) (sq (detn [(0, .pv .nils), (1, aI a0), (2, aI a1), (3, .pv (.fn 12 [] [])), (8, aI (IntKind.wrap .i64 (a0 + 1)))] (by kernel_rfl) (bq ?_)))
  refine loopF (fun mm t H => (∃ (y2 : Int), slices_insertionSortCmpFunc_Value_row_Cmp_nil_l1 n a0 a1 mm y2 = some r ∧ t = mk 53 [(0, .pv .nils), (1, aI a0), (2, aI a1), (3, .pv (.fn 12 [] [])), (8, aI y2)] ∧ H = [])) (⟨(IntKind.wrap .i64 (a0 + 1)), hm, rfl, rfl⟩) ?_ ?_
  · rintro _ _ ⟨y2, hm, _⟩; exact nomatch hm
  rintro m3 _ _ ⟨y2, hm, rfl, rfl⟩
  simp only [slices_insertionSortCmpFunc_Value_row_Cmp_nil_l1] at hm
  refine sq (sq (detn [(0, .pv .nils), (1, aI a0), (2, aI a1), (3, .pv (.fn 12 [] [])), (8, aI y2), (14, aB (decide (y2 < a1)))] (by kernel_rfl) ?_))
  rcases bif_some hm with ⟨h4, hm⟩ | ⟨h4, hm⟩
  ·
   refine ct h4 (by kernel_rfl) (wp_skip ?_)
   obtain ⟨k5, hk5, hm⟩ := withK_some hm
   refine mid (fun t H => (k5 () = some r ∧ t = mk 53 [(0, .pv .nils), (1, aI a0), (2, aI a1), (3, .pv (.fn 12 [] [])), (8, aI y2), (9, aI y2), (34, aB false)] ∧ H = [])) ?_ ?_
   ·
    rintro _ _ ⟨hm, rfl, rfl⟩
    subst hk5
    refine detn [(0, .pv .nils), (1, aI a0), (2, aI a1), (3, .pv (.fn 12 [] [])), (8, aI (IntKind.wrap .i64 (y2 + 1)))] (by kernel_rfl) ?_
    exact ⟨_, _, tidyL [(0, .pv .nils), (1, aI a0), (2, aI a1), (3, .pv (.fn 12 [] [])), (8, aI (IntKind.wrap .i64 (y2 + 1)))] [] (by kernel_rfl), ⟨(IntKind.wrap .i64 (y2 + 1)), hm, rfl, rfl⟩⟩
   refine bq (sq (detn [(0, .pv .nils), (1, aI a0), (2, aI a1), (3, .pv (.fn 12 [] [])), (8, aI y2), (9, aI y2)] (by kernel_rfl) (bq ?_)))
   refine loopF (fun mm t H => (slices_insertionSortCmpFunc_Value_row_Cmp_nil_l4 n a0 y2 k5 mm = some r ∧ t = mk 53 [(0, .pv .nils), (1, aI a0), (2, aI a1), (3, .pv (.fn 12 [] [])), (8, aI y2), (9, aI y2)] ∧ H = [])) (⟨hm, rfl, rfl⟩) ?_ ?_
   · rintro _ _ ⟨hm, _⟩; exact nomatch hm
   rintro m6 _ _ ⟨hm, rfl, rfl⟩
   simp only [slices_insertionSortCmpFunc_Value_row_Cmp_nil_l4] at hm
   refine sq (sq (rgd (shd 4 [(21, aB (decide (y2 > a0))), (20, aB (decide (y2 > a0))), (19, aI a0), (18, aI y2)] (by kernel_rfl) ?_)))
   rcases bif_some hm with ⟨h7, hm⟩ | ⟨h7, hm⟩
   ·
    refine knownd [21, 20] h7 (by kernel_rfl) (shd 3 [(24, aI y2), (23, .pv .nils), (22, .pv (.fn 12 [] []))] (by kernel_rfl) ?_)
    cases hm
   ·
    refine knownd [21, 20] h7 (by kernel_rfl) (shd 13 [(34, aB false), (33, .undef), (32, .undef), (31, .undef), (30, .undef), (29, .undef), (28, .undef), (27, .undef), (26, .undef), (25, .undef), (24, .undef), (23, .undef), (22, .undef)] (by kernel_rfl) (find [(0, .pv .nils), (1, aI a0), (2, aI a1), (3, .pv (.fn 12 [] [])), (8, aI y2), (9, aI y2), (34, aB false)] rfl (by kernel_rfl) (by kernel_rfl) (cF (by kernel_rfl) (wp_exit ?_))))
    exact ⟨hm, rfl, rfl⟩
  ·
   refine cf h4 (by kernel_rfl) (wp_exit ?_)
   obtain rfl := Option.some.inj hm
   exact ⟨trivial, .tup [], [], by kernel_rfl, rfl, rfl⟩
theorem ok_slices_siftDownCmpFunc_Value_row_Cmp_nil {n : Nat} {a0 : Int} {a1 : Int} {a2 : Int} {r : Unit} (hm : slices_siftDownCmpFunc_Value_row_Cmp_nil n a0 a1 a2 = some r) :
    ∃ vv H1, call G n 104 [.pv .nils, aI a0, aI a1, aI a2, .pv (.fn 12 [] [])] [] = some (.ret vv, H1) ∧ (vv = .tup [] ∧ H1 = []) := by
  unfold slices_siftDownCmpFunc_Value_row_Cmp_nil at hm
  obtain ⟨n, rfl, h0⟩ := at1_some hm
  replace hm := h0; clear h0
  refine callE 82 [(0, .pv .nils), (1, aI a0), (2, aI a1), (3, aI a2), (4, .pv (.fn 12 [] []))] func104 rfl (by kernel_rfl) (sq (detn [(0, .pv .nils), (2, aI a1), (3, aI a2), (4, .pv (.fn 12 [] [])), (10, aI a0)] (by kernel_rfl) (bq ?_)))
  refine loopF (fun mm t H => (slices_siftDownCmpFunc_Value_row_Cmp_nil_l1 n a0 a1 mm = some r ∧ t = mk 82 [(0, .pv .nils), (2, aI a1), (3, aI a2), (4, .pv (.fn 12 [] [])), (10, aI a0)] ∧ H = [])) (⟨hm, rfl, rfl⟩) ?_ ?_
  · rintro _ _ ⟨hm, _⟩; exact nomatch hm
  rintro m1 _ _ ⟨hm, rfl, rfl⟩
  simp only [slices_siftDownCmpFunc_Value_row_Cmp_nil_l1] at hm
  refine bq (sq (detn [(0, .pv .nils), (2, aI a1), (3, aI a2), (4, .pv (.fn 12 [] [])), (10, aI a0), (11, aI (IntKind.wrap .i64 ((IntKind.wrap .i64 (2 * a0)) + 1)))] (by kernel_rfl) ?_))
  refine sq (sq (detn [(0, .pv .nils), (2, aI a1), (3, aI a2), (4, .pv (.fn 12 [] [])), (10, aI a0), (11, aI (IntKind.wrap .i64 ((IntKind.wrap .i64 (2 * a0)) + 1))), (18, aB (decide ((IntKind.wrap .i64 ((IntKind.wrap .i64 (2 * a0)) + 1)) ≥ a1)))] (by kernel_rfl) ?_))
  rcases bif_some hm with ⟨h2, hm⟩ | ⟨h2, hm⟩
  ·
   refine ct h2 (by kernel_rfl) (wp_exit ?_)
   obtain rfl := Option.some.inj hm
   exact ⟨trivial, .tup [], [], by kernel_rfl, rfl, rfl⟩
  ·
   refine cf h2 (by kernel_rfl) (wp_skip ?_)
   refine sq (sq (rgd (shd 5 [(23, aB (decide ((IntKind.wrap .i64 ((IntKind.wrap .i64 ((IntKind.wrap .i64 (2 * a0)) + 1)) + 1)) < a1))), (22, aB (decide ((IntKind.wrap .i64 ((IntKind.wrap .i64 ((IntKind.wrap .i64 (2 * a0)) + 1)) + 1)) < a1))), (21, aI a1), (20, aI (IntKind.wrap .i64 ((IntKind.wrap .i64 ((IntKind.wrap .i64 (2 * a0)) + 1)) + 1))), (19, aI (IntKind.wrap .i64 ((IntKind.wrap .i64 (2 * a0)) + 1)))] (by kernel_rfl) ?_)))
   rcases bif_some hm with ⟨h3, hm⟩ | ⟨h3, hm⟩
   ·
    refine knownd [23, 22] h3 (by kernel_rfl) (shd 5 [(28, aI (IntKind.wrap .i64 (a2 + (IntKind.wrap .i64 ((IntKind.wrap .i64 (2 * a0)) + 1))))), (27, aI (IntKind.wrap .i64 ((IntKind.wrap .i64 (2 * a0)) + 1))), (26, aI a2), (25, .pv .nils), (24, .pv (.fn 12 [] []))] (by kernel_rfl) ?_)
    cases hm
   ·
    refine knownd [23, 22] h3 (by kernel_rfl) (shd 17 [(40, aB false), (39, .undef), (38, .undef), (37, .undef), (36, .undef), (35, .undef), (34, .undef), (33, .undef), (32, .undef), (31, .undef), (30, .undef), (29, .undef), (28, .undef), (27, .undef), (26, .undef), (25, .undef), (24, .undef)] (by kernel_rfl) (find [(0, .pv .nils), (2, aI a1), (3, aI a2), (4, .pv (.fn 12 [] [])), (10, aI a0), (11, aI (IntKind.wrap .i64 ((IntKind.wrap .i64 (2 * a0)) + 1))), (40, aB false)] rfl (by kernel_rfl) (by kernel_rfl) (cF (by kernel_rfl) (wp_skip (sq (sq (rgd (shd 5 [(47, aI (IntKind.wrap .i64 (a2 + a0))), (46, aI a0), (45, aI a2), (44, .pv .nils), (43, .pv (.fn 12 [] []))] (by kernel_rfl) ?_))))))))
    cases hm
theorem ok_slices_heapSortCmpFunc_Value_row_Cmp_nil {n : Nat} {a0 : Int} {a1 : Int} {r : Unit} (hm : slices_heapSortCmpFunc_Value_row_Cmp_nil n a0 a1 = some r) :
    ∃ vv H1, call G n 94 [.pv .nils, aI a0, aI a1, .pv (.fn 12 [] [])] [] = some (.ret vv, H1) ∧ (vv = .tup [] ∧ H1 = []) := by
  unfold slices_heapSortCmpFunc_Value_row_Cmp_nil at hm
  obtain ⟨n, rfl, h0⟩ := at1_some hm
  replace hm := h0; clear h0
  refine callE 60 [(0, .pv .nils), (1, aI a0), (2, aI a1), (3, .pv (.fn 12 [] []))] func94 rfl (by kernel_rfl) (sq (detn [(0, .pv .nils), (1, aI a0), (2, aI a1), (3, .pv (.fn 12 [] [])), (8, aI a0)] (by kernel_rfl) (sq (detn [(0, .pv .nils), (1, aI a0), (2, aI a1), (3, .pv (.fn 12 [] [])), (8, aI a0), (9, aI 0)] (by kernel_rfl) (sq (detn [(0, .pv .nils), (3, .pv (.fn 12 [] [])), (8, aI a0), (9, aI 0), (10, aI (IntKind.wrap .i64 (a1 - a0)))] (by kernel_rfl) ?_))))))
  obtain ⟨k3, hk3, hm⟩ := withK_some hm
  refine mid (fun t H => (∃ (y1 : Int) (y2 : Bool), k3 () = some r ∧ t = mk 60 [(0, .pv .nils), (3, .pv (.fn 12 [] [])), (8, aI a0), (9, aI 0), (10, aI (IntKind.wrap .i64 (a1 - a0))), (11, aI y1), (21, aB y2)] ∧ H = [])) ?_ ?_
  ·
   rintro _ _ ⟨y1, y2, hm, rfl, rfl⟩
   subst hk3
   refine sq (detn [(0, .pv .nils), (3, .pv (.fn 12 [] [])), (8, aI a0), (9, aI 0), (12, aI (IntKind.wrap .i64 ((IntKind.wrap .i64 (a1 - a0)) - 1)))] (by kernel_rfl) (bq ?_))
   refine loopF (fun mm t H => (slices_heapSortCmpFunc_Value_row_Cmp_nil_l8 n a0 a1 mm = some r ∧ t = mk 60 [(0, .pv .nils), (3, .pv (.fn 12 [] [])), (8, aI a0), (9, aI 0), (12, aI (IntKind.wrap .i64 ((IntKind.wrap .i64 (a1 - a0)) - 1)))] ∧ H = [])) (⟨hm, rfl, rfl⟩) ?_ ?_
   · rintro _ _ ⟨hm, _⟩; exact nomatch hm
   rintro m4 _ _ ⟨hm, rfl, rfl⟩
   simp only [slices_heapSortCmpFunc_Value_row_Cmp_nil_l8] at hm
   refine sq (sq (detn [(0, .pv .nils), (3, .pv (.fn 12 [] [])), (8, aI a0), (9, aI 0), (12, aI (IntKind.wrap .i64 ((IntKind.wrap .i64 (a1 - a0)) - 1))), (33, aB (decide ((IntKind.wrap .i64 ((IntKind.wrap .i64 (a1 - a0)) - 1)) ≥ 0)))] (by kernel_rfl) ?_))
   rcases bif_some hm with ⟨h5, hm⟩ | ⟨h5, hm⟩
   ·
    refine ct h5 (by kernel_rfl) (wp_skip (sq (bq (sq (rgd (shd 10 [(45, aI (IntKind.wrap .i64 (a0 + (IntKind.wrap .i64 ((IntKind.wrap .i64 (a1 - a0)) - 1))))), (44, aI (IntKind.wrap .i64 ((IntKind.wrap .i64 (a1 - a0)) - 1))), (43, aI a0), (42, .pv .nils), (41, aI (IntKind.wrap .i64 (a0 + (IntKind.wrap .i64 ((IntKind.wrap .i64 (a1 - a0)) - 1))))), (40, aI (IntKind.wrap .i64 ((IntKind.wrap .i64 (a1 - a0)) - 1))), (39, aI a0), (38, .pv .nils), (37, aI a0), (36, .pv .nils)] (by kernel_rfl) ?_))))))
    cases hm
   ·
    refine cf h5 (by kernel_rfl) (wp_exit ?_)
    obtain rfl := Option.some.inj hm
    exact ⟨trivial, .tup [], [], by kernel_rfl, rfl, rfl⟩
  refine sq (detn [(0, .pv .nils), (3, .pv (.fn 12 [] [])), (8, aI a0), (9, aI 0), (10, aI (IntKind.wrap .i64 (a1 - a0))), (11, aI (IntKind.wrap .i64 (Int.tdiv (IntKind.wrap .i64 ((IntKind.wrap .i64 (a1 - a0)) - 1)) 2)))] (by kernel_rfl) (bq ?_))
  refine loopF (fun mm t H => (∃ (y7 : Int), slices_heapSortCmpFunc_Value_row_Cmp_nil_l4 n a0 a1 k3 mm y7 = some r ∧ t = mk 60 [(0, .pv .nils), (3, .pv (.fn 12 [] [])), (8, aI a0), (9, aI 0), (10, aI (IntKind.wrap .i64 (a1 - a0))), (11, aI y7)] ∧ H = [])) (⟨(IntKind.wrap .i64 (Int.tdiv (IntKind.wrap .i64 ((IntKind.wrap .i64 (a1 - a0)) - 1)) 2)), hm, rfl, rfl⟩) ?_ ?_
  · rintro _ _ ⟨y7, hm, _⟩; exact nomatch hm
  rintro m8 _ _ ⟨y7, hm, rfl, rfl⟩
  simp only [slices_heapSortCmpFunc_Value_row_Cmp_nil_l4] at hm
  refine sq (sq (detn [(0, .pv .nils), (3, .pv (.fn 12 [] [])), (8, aI a0), (9, aI 0), (10, aI (IntKind.wrap .i64 (a1 - a0))), (11, aI y7), (21, aB (decide (y7 ≥ 0)))] (by kernel_rfl) ?_))
  rcases bif_some hm with ⟨h9, hm⟩ | ⟨h9, hm⟩
  ·
   refine ct h9 (by kernel_rfl) (wp_skip (sq (bq (rg (sh 5 [(28, .pv (.fn 12 [] [])), (27, aI a0), (26, aI (IntKind.wrap .i64 (a1 - a0))), (25, aI y7), (24, .pv .nils)] (by kernel_rfl) ?_)))))
   obtain ⟨_, h10, hm⟩ := bs hm
   obtain ⟨vv, H1, hC, rfl, rfl⟩ := ok_slices_siftDownCmpFunc_Value_row_Cmp_nil h10
   refine dR [(29, .tup [])] [] [] [.pv .nils, aI y7, aI (IntKind.wrap .i64 (a1 - a0)), aI a0, .pv (.fn 12 [] [])] (by kernel_rfl) (by kernel_rfl) (by kernel_rfl) hC (by kernel_rfl) (fin [(0, .pv .nils), (3, .pv (.fn 12 [] [])), (8, aI a0), (9, aI 0), (10, aI (IntKind.wrap .i64 (a1 - a0))), (11, aI y7)] rfl (by kernel_rfl) (detn [(0, .pv .nils), (3, .pv (.fn 12 [] [])), (8, aI a0), (9, aI 0), (10, aI (IntKind.wrap .i64 (a1 - a0))), (11, aI (IntKind.wrap .i64 (y7 - 1)))] (by kernel_rfl) ?_))
   exact ⟨_, _, tidyL [(0, .pv .nils), (3, .pv (.fn 12 [] [])), (8, aI a0), (9, aI 0), (10, aI (IntKind.wrap .i64 (a1 - a0))), (11, aI (IntKind.wrap .i64 (y7 - 1)))] [] (by kernel_rfl), ⟨(IntKind.wrap .i64 (y7 - 1)), hm, rfl, rfl⟩⟩
  ·
   refine cf h9 (by kernel_rfl) (wp_exit ?_)
   exact ⟨y7, (decide (y7 ≥ 0)), hm, rfl, rfl⟩
theorem ok_slices_order2CmpFunc_Value_row_Cmp {n : Nat} {a0 : Int} {a1 : (Option (List (Option (List api_Value))))} {a2 : Int} {a3 : Int} {r : Int × Int × Int} (hm : slices_order2CmpFunc_Value_row_Cmp n a0 a1 a2 a3 = some r) :
    ∃ vv H1, call G n 110 [.pv (encSl (rSl R_api_Value) a1), aI a2, aI a3, .ptr 0 0, .pv (.fn 12 [] [])] [.box [aI a0] false] = some (.ret vv, H1) ∧ (match r with | (r0, r1, r2) => (vv = .tup [aI r1, aI r2] ∧ H1 = [.box [aI r0] false])) := by
  unfold slices_order2CmpFunc_Value_row_Cmp at hm
  obtain ⟨n, rfl, h0⟩ := at1_some hm
  replace hm := h0; clear h0
  refine callE 32 [(0, .pv (encSl (rSl R_api_Value) a1)), (1, aI a2), (2, aI a3), (3, .ptr 0 0), (4, .pv (.fn 12 [] []))] func110 rfl (by kernel_rfl) (sq (detn [(0, .pv (encSl (rSl R_api_Value) a1)), (1, aI a2), (2, aI a3), (3, .ptr 0 0), (4, .pv (.fn 12 [] []))] (by kernel_rfl) (sq (sq (rgd (shd 3 [(14, aI a3), (13, .pv (encSl (rSl R_api_Value) a1)), (12, .pv (.fn 12 [] []))] (by kernel_rfl) ?_))))))
  obtain ⟨x1, h2, hm⟩ := bs hm
  refine dvd 15 (v := .pv (.ptr ((rSl R_api_Value) x1) 0)) (ia_slO (rSl R_api_Value) a1 .i64 t25 t22 h2 rfl (by kernel_rfl)) (by kernel_rfl) (shd 3 [(18, aI a2), (17, .pv (encSl (rSl R_api_Value) a1)), (16, .pv (encSl R_api_Value x1))] (by kernel_rfl) ?_)
  obtain ⟨x3, h4, hm⟩ := bs hm
  refine dvd 19 (v := .pv (.ptr ((rSl R_api_Value) x3) 0)) (ia_slO (rSl R_api_Value) a1 .i64 t25 t22 h4 rfl (by kernel_rfl)) (by kernel_rfl) (shd 1 [(20, .pv (encSl R_api_Value x3))] (by kernel_rfl) ?_)
  obtain ⟨x5, h6, hm⟩ := bs hm
  refine dvd 21 (cpure (by kernel_rfl) (ok_row_Cmp h6) (by kernel_rfl) (by kernel_rfl) (by kernel_rfl)) (by kernel_rfl) (shd 1 [(22, aB (decide (x5 < 0)))] (by kernel_rfl) (find [(1, aI a2), (2, aI a3), (3, .ptr 0 0), (22, aB (decide (x5 < 0)))] rfl (by kernel_rfl) (by kernel_rfl) ?_))
  rcases bif_some hm with ⟨h7, hm⟩ | ⟨h7, hm⟩
  ·
   refine ct h7 (by kernel_rfl) (sq (det [(1, aI a2), (2, aI a3)] [.box [aI (IntKind.wrap .i64 (a0 + 1))] false] (by kernel_rfl) (sq (detn [(10, aI a3), (11, aI a2)] (by kernel_rfl) (wp_ret ?_)))))
   obtain rfl := Option.some.inj hm
   exact ⟨trivial, .tup [aI a3, aI a2], [.box [aI (IntKind.wrap .i64 (a0 + 1))] false], by kernel_rfl, rfl, rfl⟩
  ·
   refine cf h7 (by kernel_rfl) (wp_skip (sq (detn [(10, aI a2), (11, aI a3)] (by kernel_rfl) (wp_ret ?_))))
   obtain rfl := Option.some.inj hm
   exact ⟨trivial, .tup [aI a2, aI a3], [.box [aI a0] false], by kernel_rfl, rfl, rfl⟩
theorem ok_slices_medianCmpFunc_Value_row_Cmp {n : Nat} {a0 : Int} {a1 : (Option (List (Option (List api_Value))))} {a2 : Int} {a3 : Int} {a4 : Int} {r : Int × Int} (hm : slices_medianCmpFunc_Value_row_Cmp n a0 a1 a2 a3 a4 = some r) :
    ∃ vv H1, call G n 108 [.pv (encSl (rSl R_api_Value) a1), aI a2, aI a3, aI a4, .ptr 0 0, .pv (.fn 12 [] [])] [.box [aI a0] false] = some (.ret vv, H1) ∧ (match r with | (r0, r1) => (vv = aI r1 ∧ H1 = [.box [aI r0] false])) := by
  unfold slices_medianCmpFunc_Value_row_Cmp at hm
  obtain ⟨n, rfl, h0⟩ := at1_some hm
  replace hm := h0; clear h0
  refine callE 41 [(0, .pv (encSl (rSl R_api_Value) a1)), (1, aI a2), (2, aI a3), (3, aI a4), (4, .ptr 0 0), (5, .pv (.fn 12 [] []))] func108 rfl (by kernel_rfl) (sq (detn [(0, .pv (encSl (rSl R_api_Value) a1)), (1, aI a2), (2, aI a3), (3, aI a4), (4, .ptr 0 0), (5, .pv (.fn 12 [] []))] (by kernel_rfl) (sq (rg (sh 5 [(18, .pv (.fn 12 [] [])), (17, .ptr 0 0), (16, aI a3), (15, aI a2), (14, .pv (encSl (rSl R_api_Value) a1))] (by kernel_rfl) ?_)))))
  obtain ⟨⟨x2, x3, x4⟩, h1, hm⟩ := bs hm
  obtain ⟨vv, H1, hC, rfl, rfl⟩ := ok_slices_order2CmpFunc_Value_row_Cmp h1
  refine dR [(19, .tup [aI x3, aI x4])] [.box [aI x2] false] [0] [.pv (encSl (rSl R_api_Value) a1), aI a2, aI a3, .ptr 0 0, .pv (.fn 12 [] [])] (by kernel_rfl) (by kernel_rfl) (by kernel_rfl) hC (by kernel_rfl) (sh 5 [(2, aI x4), (1, aI x3), (21, aI x4), (20, aI x3), (13, .tup [aI x3, aI x4])] (by kernel_rfl) (fin [(0, .pv (encSl (rSl R_api_Value) a1)), (1, aI x3), (2, aI x4), (3, aI a4), (4, .ptr 0 0), (5, .pv (.fn 12 [] []))] rfl (by kernel_rfl) (sq (rg (sh 5 [(27, .pv (.fn 12 [] [])), (26, .ptr 0 0), (25, aI a4), (24, aI x4), (23, .pv (encSl (rSl R_api_Value) a1))] (by kernel_rfl) ?_)))))
  obtain ⟨⟨x6, x7, x8⟩, h5, hm⟩ := bs hm
  obtain ⟨vv, H1, hC, rfl, rfl⟩ := ok_slices_order2CmpFunc_Value_row_Cmp h5
  refine dR [(28, .tup [aI x7, aI x8])] [.box [aI x6] false] [0] [.pv (encSl (rSl R_api_Value) a1), aI x4, aI a4, .ptr 0 0, .pv (.fn 12 [] [])] (by kernel_rfl) (by kernel_rfl) (by kernel_rfl) hC (by kernel_rfl) (sh 5 [(3, aI x8), (2, aI x7), (30, aI x8), (29, aI x7), (22, .tup [aI x7, aI x8])] (by kernel_rfl) (fin [(0, .pv (encSl (rSl R_api_Value) a1)), (1, aI x3), (2, aI x7), (4, .ptr 0 0), (5, .pv (.fn 12 [] []))] rfl (by kernel_rfl) (sq (rg (sh 5 [(36, .pv (.fn 12 [] [])), (35, .ptr 0 0), (34, aI x7), (33, aI x3), (32, .pv (encSl (rSl R_api_Value) a1))] (by kernel_rfl) ?_)))))
  obtain ⟨⟨x10, x11, x12⟩, h9, hm⟩ := bs hm
  obtain ⟨vv, H1, hC, rfl, rfl⟩ := ok_slices_order2CmpFunc_Value_row_Cmp h9
  refine dR [(37, .tup [aI x11, aI x12])] [.box [aI x10] false] [0] [.pv (encSl (rSl R_api_Value) a1), aI x3, aI x7, .ptr 0 0, .pv (.fn 12 [] [])] (by kernel_rfl) (by kernel_rfl) (by kernel_rfl) hC (by kernel_rfl) (sh 5 [(2, aI x12), (1, aI x11), (39, aI x12), (38, aI x11), (31, .tup [aI x11, aI x12])] (by kernel_rfl) (fin [(2, aI x12)] rfl (by kernel_rfl) (sq (detn [(12, aI x12)] (by kernel_rfl) (wp_ret ?_)))))
  obtain rfl := Option.some.inj hm
  exact ⟨trivial, aI x12, [.box [aI x10] false], by kernel_rfl, rfl, rfl⟩
theorem ok_slices_medianAdjacentCmpFunc_Value_row_Cmp {n : Nat} {a0 : Int} {a1 : (Option (List (Option (List api_Value))))} {a2 : Int} {r : Int × Int} (hm : slices_medianAdjacentCmpFunc_Value_row_Cmp n a0 a1 a2 = some r) :
    ∃ vv H1, call G n 107 [.pv (encSl (rSl R_api_Value) a1), aI a2, .ptr 0 0, .pv (.fn 12 [] [])] [.box [aI a0] false] = some (.ret vv, H1) ∧ (match r with | (r0, r1) => (vv = aI r1 ∧ H1 = [.box [aI r0] false])) := by
  unfold slices_medianAdjacentCmpFunc_Value_row_Cmp at hm
  obtain ⟨n, rfl, h0⟩ := at1_some hm
  replace hm := h0; clear h0
  refine callE 18 [(0, .pv (encSl (rSl R_api_Value) a1)), (1, aI a2), (2, .ptr 0 0), (3, .pv (.fn 12 [] []))] func107 rfl (by kernel_rfl) (sq (detn [(0, .pv (encSl (rSl R_api_Value) a1)), (1, aI a2), (2, .ptr 0 0), (3, .pv (.fn 12 [] []))] (by kernel_rfl) (sq (rg (sh 8 [(16, .pv (.fn 12 [] [])), (15, .ptr 0 0), (14, aI (IntKind.wrap .i64 (a2 + 1))), (13, aI a2), (12, aI a2), (11, aI (IntKind.wrap .i64 (a2 - 1))), (10, aI a2), (9, .pv (encSl (rSl R_api_Value) a1))] (by kernel_rfl) ?_)))))
  obtain ⟨⟨x2, x3⟩, h1, hm⟩ := bs hm
  obtain ⟨vv, H1, hC, rfl, rfl⟩ := ok_slices_medianCmpFunc_Value_row_Cmp h1
  refine dR [(17, aI x3)] [.box [aI x2] false] [0] [.pv (encSl (rSl R_api_Value) a1), aI (IntKind.wrap .i64 (a2 - 1)), aI a2, aI (IntKind.wrap .i64 (a2 + 1)), .ptr 0 0, .pv (.fn 12 [] [])] (by kernel_rfl) (by kernel_rfl) (by kernel_rfl) hC (by kernel_rfl) (sh 1 [(8, aI x3)] (by kernel_rfl) (fin [(8, aI x3)] rfl (by kernel_rfl) (wp_ret ?_)))
  obtain rfl := Option.some.inj hm
  exact ⟨trivial, aI x3, [.box [aI x2] false], by kernel_rfl, rfl, rfl⟩
theorem ok_slices_choosePivotCmpFunc_Value_row_Cmp {n : Nat} {a0 : (Option (List (Option (List api_Value))))} {a1 : Int} {a2 : Int} {r : Int × Int} (hm : slices_choosePivotCmpFunc_Value_row_Cmp n a0 a1 a2 = some r) :
    call G n 96 [.pv (encSl (rSl R_api_Value) a0), aI a1, aI a2, .pv (.fn 12 [] [])] [] = some (.ret (.tup [aI r.1, aI r.2]), []) := by
  unfold slices_choosePivotCmpFunc_Value_row_Cmp at hm
  obtain ⟨n, rfl, h0⟩ := at1_some hm
  replace hm := h0; clear h0
  refine callL 63 [(0, .pv (encSl (rSl R_api_Value) a0)), (1, aI a1), (2, aI a2), (3, .pv (.fn 12 [] []))] func96 rfl (by kernel_rfl) (sq (detn [(0, .pv (encSl (rSl R_api_Value) a0)), (1, aI a1), (2, aI a2), (3, .pv (.fn 12 [] []))] (by kernel_rfl) (sq (detn [(0, .pv (encSl (rSl R_api_Value) a0)), (1, aI a1), (3, .pv (.fn 12 [] [])), (10, aI (IntKind.wrap .i64 (a2 - a1)))] (by kernel_rfl) (sq (det [(0, .pv (encSl (rSl R_api_Value) a0)), (1, aI a1), (3, .pv (.fn 12 [] [])), (10, aI (IntKind.wrap .i64 (a2 - a1))), (11, .ptr 0 0)] [.box [aI 0] false] (by kernel_rfl) (sq (detn [(0, .pv (encSl (rSl R_api_Value) a0)), (1, aI a1), (3, .pv (.fn 12 [] [])), (10, aI (IntKind.wrap .i64 (a2 - a1))), (11, .ptr 0 0), (12, aI (IntKind.wrap .i64 (a1 + (IntKind.wrap .i64 ((IntKind.wrap .i64 (Int.tdiv (IntKind.wrap .i64 (a2 - a1)) 4)) * 1)))))] (by kernel_rfl) (sq (detn [(0, .pv (encSl (rSl R_api_Value) a0)), (1, aI a1), (3, .pv (.fn 12 [] [])), (10, aI (IntKind.wrap .i64 (a2 - a1))), (11, .ptr 0 0), (12, aI (IntKind.wrap .i64 (a1 + (IntKind.wrap .i64 ((IntKind.wrap .i64 (Int.tdiv (IntKind.wrap .i64 (a2 - a1)) 4)) * 1))))), (13, aI (IntKind.wrap .i64 (a1 + (IntKind.wrap .i64 ((IntKind.wrap .i64 (Int.tdiv (IntKind.wrap .i64 (a2 - a1)) 4)) * 2)))))] (by kernel_rfl) (sq (detn [(0, .pv (encSl (rSl R_api_Value) a0)), (3, .pv (.fn 12 [] [])), (10, aI (IntKind.wrap .i64 (a2 - a1))), (11, .ptr 0 0), (12, aI (IntKind.wrap .i64 (a1 + (IntKind.wrap .i64 ((IntKind.wrap .i64 (Int.tdiv (IntKind.wrap .i64 (a2 - a1)) 4)) * 1))))), (13, aI (IntKind.wrap .i64 (a1 + (IntKind.wrap .i64 ((IntKind.wrap .i64 (Int.tdiv (IntKind.wrap .i64 (a2 - a1)) 4)) * 2))))), (14, aI (IntKind.wrap .i64 (a1 + (IntKind.wrap .i64 ((IntKind.wrap .i64 (Int.tdiv (IntKind.wrap .i64 (a2 - a1)) 4)) * 3)))))] (by kernel_rfl) ?_))))))))))))
  obtain ⟨k9, hk9, hm⟩ := withK_some hm
  refine mid (fun t H => (∃ (y7 : Int) (y8 : Int) (w1 : AV) (w2 : AV) (w3 : AV) (w4 : AV) (w5 : AV) (w6 : AV), k9 y7 y8 = some r ∧ t = mk 63 [(0, w1), (3, w2), (10, w3), (11, .ptr 0 0), (12, w4), (13, aI y8), (14, w5), (34, w6)] ∧ H = [.box [aI y7] false])) ?_ ?_
  ·
   rintro _ _ ⟨y7, y8, w1, w2, w3, w4, w5, w6, hm, rfl, rfl⟩
   subst hk9
   refine sq (detn [(13, aI y8), (55, aI y7)] (by kernel_rfl) (bq (sq (detn [(13, aI y8), (55, aI y7), (57, aB (y7 == 0))] (by kernel_rfl) ?_))))
   rcases bif_some hm with ⟨h10, hm⟩ | ⟨h10, hm⟩
   ·
    refine ct h10 (by kernel_rfl) (sq (detn [(8, aI y8), (9, aI 1)] (by kernel_rfl) (wp_ret ?_)))
    obtain rfl := Option.some.inj hm
    exact ⟨trivial, by kernel_rfl⟩
   ·
    refine cf h10 (by kernel_rfl) (sq (detn [(13, aI y8), (60, aB (y7 == 12))] (by kernel_rfl) ?_))
    rcases bif_some hm with ⟨h11, hm⟩ | ⟨h11, hm⟩
    ·
     refine ct h11 (by kernel_rfl) (sq (detn [(8, aI y8), (9, aI 2)] (by kernel_rfl) (wp_ret ?_)))
     obtain rfl := Option.some.inj hm
     exact ⟨trivial, by kernel_rfl⟩
    ·
     refine cf h11 (by kernel_rfl) (sq (detn [(8, aI y8), (9, aI 0)] (by kernel_rfl) (wp_ret ?_)))
     obtain rfl := Option.some.inj hm
     exact ⟨trivial, by kernel_rfl⟩
  refine sq (detn [(0, .pv (encSl (rSl R_api_Value) a0)), (3, .pv (.fn 12 [] [])), (10, aI (IntKind.wrap .i64 (a2 - a1))), (11, .ptr 0 0), (12, aI (IntKind.wrap .i64 (a1 + (IntKind.wrap .i64 ((IntKind.wrap .i64 (Int.tdiv (IntKind.wrap .i64 (a2 - a1)) 4)) * 1))))), (13, aI (IntKind.wrap .i64 (a1 + (IntKind.wrap .i64 ((IntKind.wrap .i64 (Int.tdiv (IntKind.wrap .i64 (a2 - a1)) 4)) * 2))))), (14, aI (IntKind.wrap .i64 (a1 + (IntKind.wrap .i64 ((IntKind.wrap .i64 (Int.tdiv (IntKind.wrap .i64 (a2 - a1)) 4)) * 3))))), (34, aB (decide ((IntKind.wrap .i64 (a2 - a1)) ≥ 8)))] (by kernel_rfl) ?_)
  rcases bif_some hm with ⟨h12, hm⟩ | ⟨h12, hm⟩
  ·
   refine ct h12 (by kernel_rfl) ?_
   obtain ⟨k18, hk18, hm⟩ := withK_some hm
   refine mid (fun t H => (∃ (y14 : Int) (y15 : Int) (y16 : Int) (y17 : Int) (w13 : AV), k18 y14 y15 y16 y17 = some r ∧ t = mk 63 [(0, .pv (encSl (rSl R_api_Value) a0)), (3, .pv (.fn 12 [] [])), (11, .ptr 0 0), (12, aI y15), (13, aI y16), (14, aI y17), (36, w13)] ∧ H = [.box [aI y14] false])) ?_ ?_
   ·
    rintro _ _ ⟨y14, y15, y16, y17, w13, hm, rfl, rfl⟩
    subst hk18
    refine rg (sh 5 [(53, .pv (.fn 12 [] [])), (52, aI y17), (51, aI y16), (50, aI y15), (49, .pv (encSl (rSl R_api_Value) a0))] (by kernel_rfl) ?_)
    obtain ⟨⟨x20, x21⟩, h19, hm⟩ := bs hm
    obtain ⟨vv, H1, hC, rfl, rfl⟩ := ok_slices_medianCmpFunc_Value_row_Cmp h19
    refine dR [(54, aI x21)] [.box [aI x20] false] [0] [.pv (encSl (rSl R_api_Value) a0), aI y15, aI y16, aI y17, .ptr 0 0, .pv (.fn 12 [] [])] (by kernel_rfl) (by kernel_rfl) (by kernel_rfl) hC (by kernel_rfl) (sh 1 [(13, aI x21)] (by kernel_rfl) (fin [(11, .ptr 0 0), (13, aI x21)] rfl (by kernel_rfl) ?_))
    exact ⟨x20, x21, .any, .any, .any, .any, .any, .any, hm, (mk_same (by kernel_rfl)), rfl⟩
   refine sq (detn [(0, .pv (encSl (rSl R_api_Value) a0)), (3, .pv (.fn 12 [] [])), (11, .ptr 0 0), (12, aI (IntKind.wrap .i64 (a1 + (IntKind.wrap .i64 ((IntKind.wrap .i64 (Int.tdiv (IntKind.wrap .i64 (a2 - a1)) 4)) * 1))))), (13, aI (IntKind.wrap .i64 (a1 + (IntKind.wrap .i64 ((IntKind.wrap .i64 (Int.tdiv (IntKind.wrap .i64 (a2 - a1)) 4)) * 2))))), (14, aI (IntKind.wrap .i64 (a1 + (IntKind.wrap .i64 ((IntKind.wrap .i64 (Int.tdiv (IntKind.wrap .i64 (a2 - a1)) 4)) * 3))))), (36, aB (decide ((IntKind.wrap .i64 (a2 - a1)) ≥ 50)))] (by kernel_rfl) ?_)
   rcases bif_some hm with ⟨h22, hm⟩ | ⟨h22, hm⟩
   ·
    refine ct h22 (by kernel_rfl) (sq (rg (sh 3 [(39, .pv (.fn 12 [] [])), (38, aI (IntKind.wrap .i64 (a1 + (IntKind.wrap .i64 ((IntKind.wrap .i64 (Int.tdiv (IntKind.wrap .i64 (a2 - a1)) 4)) * 1))))), (37, .pv (encSl (rSl R_api_Value) a0))] (by kernel_rfl) ?_)))
    obtain ⟨⟨x24, x25⟩, h23, hm⟩ := bs hm
    obtain ⟨vv, H1, hC, rfl, rfl⟩ := ok_slices_medianAdjacentCmpFunc_Value_row_Cmp h23
    refine dR [(40, aI x25)] [.box [aI x24] false] [0] [.pv (encSl (rSl R_api_Value) a0), aI (IntKind.wrap .i64 (a1 + (IntKind.wrap .i64 ((IntKind.wrap .i64 (Int.tdiv (IntKind.wrap .i64 (a2 - a1)) 4)) * 1)))), .ptr 0 0, .pv (.fn 12 [] [])] (by kernel_rfl) (by kernel_rfl) (by kernel_rfl) hC (by kernel_rfl) (sh 1 [(12, aI x25)] (by kernel_rfl) (fin [(0, .pv (encSl (rSl R_api_Value) a0)), (3, .pv (.fn 12 [] [])), (11, .ptr 0 0), (12, aI x25), (13, aI (IntKind.wrap .i64 (a1 + (IntKind.wrap .i64 ((IntKind.wrap .i64 (Int.tdiv (IntKind.wrap .i64 (a2 - a1)) 4)) * 2))))), (14, aI (IntKind.wrap .i64 (a1 + (IntKind.wrap .i64 ((IntKind.wrap .i64 (Int.tdiv (IntKind.wrap .i64 (a2 - a1)) 4)) * 3)))))] rfl (by kernel_rfl) (sq (rg (sh 3 [(43, .pv (.fn 12 [] [])), (42, aI (IntKind.wrap .i64 (a1 + (IntKind.wrap .i64 ((IntKind.wrap .i64 (Int.tdiv (IntKind.wrap .i64 (a2 - a1)) 4)) * 2))))), (41, .pv (encSl (rSl R_api_Value) a0))] (by kernel_rfl) ?_)))))
    obtain ⟨⟨x27, x28⟩, h26, hm⟩ := bs hm
    obtain ⟨vv, H1, hC, rfl, rfl⟩ := ok_slices_medianAdjacentCmpFunc_Value_row_Cmp h26
    refine dR [(44, aI x28)] [.box [aI x27] false] [0] [.pv (encSl (rSl R_api_Value) a0), aI (IntKind.wrap .i64 (a1 + (IntKind.wrap .i64 ((IntKind.wrap .i64 (Int.tdiv (IntKind.wrap .i64 (a2 - a1)) 4)) * 2)))), .ptr 0 0, .pv (.fn 12 [] [])] (by kernel_rfl) (by kernel_rfl) (by kernel_rfl) hC (by kernel_rfl) (sh 1 [(13, aI x28)] (by kernel_rfl) (fin [(0, .pv (encSl (rSl R_api_Value) a0)), (3, .pv (.fn 12 [] [])), (11, .ptr 0 0), (12, aI x25), (13, aI x28), (14, aI (IntKind.wrap .i64 (a1 + (IntKind.wrap .i64 ((IntKind.wrap .i64 (Int.tdiv (IntKind.wrap .i64 (a2 - a1)) 4)) * 3)))))] rfl (by kernel_rfl) (rg (sh 3 [(47, .pv (.fn 12 [] [])), (46, aI (IntKind.wrap .i64 (a1 + (IntKind.wrap .i64 ((IntKind.wrap .i64 (Int.tdiv (IntKind.wrap .i64 (a2 - a1)) 4)) * 3))))), (45, .pv (encSl (rSl R_api_Value) a0))] (by kernel_rfl) ?_))))
    obtain ⟨⟨x30, x31⟩, h29, hm⟩ := bs hm
    obtain ⟨vv, H1, hC, rfl, rfl⟩ := ok_slices_medianAdjacentCmpFunc_Value_row_Cmp h29
    refine dR [(48, aI x31)] [.box [aI x30] false] [0] [.pv (encSl (rSl R_api_Value) a0), aI (IntKind.wrap .i64 (a1 + (IntKind.wrap .i64 ((IntKind.wrap .i64 (Int.tdiv (IntKind.wrap .i64 (a2 - a1)) 4)) * 3)))), .ptr 0 0, .pv (.fn 12 [] [])] (by kernel_rfl) (by kernel_rfl) (by kernel_rfl) hC (by kernel_rfl) (sh 1 [(14, aI x31)] (by kernel_rfl) (fin [(0, .pv (encSl (rSl R_api_Value) a0)), (3, .pv (.fn 12 [] [])), (11, .ptr 0 0), (12, aI x25), (13, aI x28), (14, aI x31)] rfl (by kernel_rfl) ?_))
    exact ⟨x30, x25, x28, x31, .any, hm, (mk_same (by kernel_rfl)), rfl⟩
   ·
    refine cf h22 (by kernel_rfl) (wp_skip ?_)
    exact ⟨0, (IntKind.wrap .i64 (a1 + (IntKind.wrap .i64 ((IntKind.wrap .i64 (Int.tdiv (IntKind.wrap .i64 (a2 - a1)) 4)) * 1)))), (IntKind.wrap .i64 (a1 + (IntKind.wrap .i64 ((IntKind.wrap .i64 (Int.tdiv (IntKind.wrap .i64 (a2 - a1)) 4)) * 2)))), (IntKind.wrap .i64 (a1 + (IntKind.wrap .i64 ((IntKind.wrap .i64 (Int.tdiv (IntKind.wrap .i64 (a2 - a1)) 4)) * 3)))), aB (decide ((IntKind.wrap .i64 (a2 - a1)) ≥ 50)), hm, (mk_same (by kernel_rfl)), rfl⟩
  ·
   refine cf h12 (by kernel_rfl) (wp_skip ?_)
   exact ⟨0, (IntKind.wrap .i64 (a1 + (IntKind.wrap .i64 ((IntKind.wrap .i64 (Int.tdiv (IntKind.wrap .i64 (a2 - a1)) 4)) * 2)))), .pv (encSl (rSl R_api_Value) a0), .pv (.fn 12 [] []), aI (IntKind.wrap .i64 (a2 - a1)), aI (IntKind.wrap .i64 (a1 + (IntKind.wrap .i64 ((IntKind.wrap .i64 (Int.tdiv (IntKind.wrap .i64 (a2 - a1)) 4)) * 1)))), aI (IntKind.wrap .i64 (a1 + (IntKind.wrap .i64 ((IntKind.wrap .i64 (Int.tdiv (IntKind.wrap .i64 (a2 - a1)) 4)) * 3)))), aB (decide ((IntKind.wrap .i64 (a2 - a1)) ≥ 8)), hm, (mk_same (by kernel_rfl)), rfl⟩
theorem ok_slices_reverseRangeCmpFunc_Value_row_Cmp_nil {n : Nat} {a0 : Int} {a1 : Int} {r : Unit} (hm : slices_reverseRangeCmpFunc_Value_row_Cmp_nil n a0 a1 = some r) :
    ∃ vv H1, call G n 97 [.pv .nils, aI a0, aI a1, .pv (.fn 12 [] [])] [] = some (.ret vv, H1) ∧ (vv = .tup [] ∧ H1 = []) := by
  unfold slices_reverseRangeCmpFunc_Value_row_Cmp_nil at hm
  obtain ⟨n, rfl, h0⟩ := at1_some hm
  replace hm := h0; clear h0
  refine callE 34 [(0, .pv .nils), (1, aI a0), (2, aI a1), (3, .pv (.fn 12 [] []))] func97 rfl (by kernel_rfl) (sq (detn [(0, .pv .nils), (2, aI a1), (8, aI a0)] (by kernel_rfl) (sq (detn [(0, .pv .nils), (8, aI a0), (9, aI (IntKind.wrap .i64 (a1 - 1)))] (by kernel_rfl) (bq ?_)))))
  refine loopF (fun mm t H => (slices_reverseRangeCmpFunc_Value_row_Cmp_nil_l2 n a0 a1 mm = some r ∧ t = mk 34 [(0, .pv .nils), (8, aI a0), (9, aI (IntKind.wrap .i64 (a1 - 1)))] ∧ H = [])) (⟨hm, rfl, rfl⟩) ?_ ?_
  · rintro _ _ ⟨hm, _⟩; exact nomatch hm
  rintro m1 _ _ ⟨hm, rfl, rfl⟩
  simp only [slices_reverseRangeCmpFunc_Value_row_Cmp_nil_l2] at hm
  refine sq (sq (detn [(0, .pv .nils), (8, aI a0), (9, aI (IntKind.wrap .i64 (a1 - 1))), (15, aB (decide (a0 < (IntKind.wrap .i64 (a1 - 1)))))] (by kernel_rfl) ?_))
  rcases bif_some hm with ⟨h2, hm⟩ | ⟨h2, hm⟩
  ·
   refine ct h2 (by kernel_rfl) (wp_skip (bq (sq (rgd (shd 6 [(21, aI (IntKind.wrap .i64 (a1 - 1))), (20, .pv .nils), (19, aI (IntKind.wrap .i64 (a1 - 1))), (18, .pv .nils), (17, aI a0), (16, .pv .nils)] (by kernel_rfl) ?_)))))
   cases hm
  ·
   refine cf h2 (by kernel_rfl) (wp_exit ?_)
   obtain rfl := Option.some.inj hm
   exact ⟨trivial, .tup [], [], by kernel_rfl, rfl, rfl⟩
theorem ok_slices_partialInsertionSortCmpFunc_Value_row_Cmp_nil {n : Nat} {a0 : Int} {a1 : Int} {r : Bool} (hm : slices_partialInsertionSortCmpFunc_Value_row_Cmp_nil n a0 a1 = some r) :
    ∃ vv H1, call G n 98 [.pv .nils, aI a0, aI a1, .pv (.fn 12 [] [])] [] = some (.ret vv, H1) ∧ (match r with | r0 => (vv = aB r0 ∧ H1 = [])) := by
  unfold slices_partialInsertionSortCmpFunc_Value_row_Cmp_nil at hm
  obtain ⟨n, rfl, h0⟩ := at1_some hm
  replace hm := h0; clear h0
  refine callE 141 [(0, .pv .nils), (1, aI a0), (2, aI a1), (3, .pv (.fn 12 [] []))] func98 rfl (by kernel_rfl) (sq (detn [(0, .pv .nils), (1, aI a0), (2, aI a1), (3, .pv (.fn 12 [] []))] (by kernel_rfl) (sq (detn [(0, .pv .nils), (1, aI a0), (2, aI a1), (3, .pv (.fn 12 [] [])), (9, aI (IntKind.wrap .i64 (a0 + 1)))] (by kernel_rfl) ?_))))
  refine sq (sq (detn [(0, .pv .nils), (1, aI a0), (2, aI a1), (3, .pv (.fn 12 [] [])), (9, aI (IntKind.wrap .i64 (a0 + 1))), (10, aI 0)] (by kernel_rfl) (bq ?_)))
  refine loopF (fun mm t H => (slices_partialInsertionSortCmpFunc_Value_row_Cmp_nil_l3 n a0 a1 mm = some r ∧ t = mk 141 [(0, .pv .nils), (1, aI a0), (2, aI a1), (3, .pv (.fn 12 [] [])), (9, aI (IntKind.wrap .i64 (a0 + 1))), (10, aI 0)] ∧ H = [])) (⟨hm, rfl, rfl⟩) ?_ ?_
  · rintro _ _ ⟨hm, _⟩; exact nomatch hm
  rintro m1 _ _ ⟨hm, rfl, rfl⟩
  simp only [slices_partialInsertionSortCmpFunc_Value_row_Cmp_nil_l3] at hm
  refine sq (sq (detn [(0, .pv .nils), (1, aI a0), (2, aI a1), (3, .pv (.fn 12 [] [])), (9, aI (IntKind.wrap .i64 (a0 + 1))), (10, aI 0), (16, aB true)] (by kernel_rfl) (cT (by kernel_rfl) (wp_skip ?_))))
  refine sq (bq ?_)
  obtain ⟨k2, hk2, hm⟩ := withK_some hm
  refine mid (fun t H => (k2 () = some r ∧ t = mk 141 [(0, .pv .nils), (1, aI a0), (2, aI a1), (3, .pv (.fn 12 [] [])), (9, aI (IntKind.wrap .i64 (a0 + 1))), (10, aI 0), (16, aB true), (36, aB false)] ∧ H = [])) ?_ ?_
  ·
   rintro _ _ ⟨hm, rfl, rfl⟩
   subst hk2
   refine sq (sq (detn [(0, .pv .nils), (1, aI a0), (2, aI a1), (3, .pv (.fn 12 [] [])), (9, aI (IntKind.wrap .i64 (a0 + 1))), (10, aI 0), (41, aB ((IntKind.wrap .i64 (a0 + 1)) == a1))] (by kernel_rfl) ?_))
   rcases bif_some hm with ⟨h3, hm⟩ | ⟨h3, hm⟩
   ·
    refine ct h3 (by kernel_rfl) (sq (detn [(8, aB true)] (by kernel_rfl) (wp_ret ?_)))
    obtain rfl := Option.some.inj hm
    exact ⟨trivial, aB true, [], by kernel_rfl, rfl, rfl⟩
   ·
    refine cf h3 (by kernel_rfl) (wp_skip ?_)
    refine sq (sq (detn [(0, .pv .nils), (1, aI a0), (2, aI a1), (3, .pv (.fn 12 [] [])), (9, aI (IntKind.wrap .i64 (a0 + 1))), (10, aI 0), (45, aB (decide ((IntKind.wrap .i64 (a1 - a0)) < 50)))] (by kernel_rfl) ?_))
    rcases bif_some hm with ⟨h4, hm⟩ | ⟨h4, hm⟩
    ·
     refine ct h4 (by kernel_rfl) (sq (detn [(8, aB false)] (by kernel_rfl) (wp_ret ?_)))
     obtain rfl := Option.some.inj hm
     exact ⟨trivial, aB false, [], by kernel_rfl, rfl, rfl⟩
    ·
     refine cf h4 (by kernel_rfl) (wp_skip (sq (rgd (shd 8 [(53, aI (IntKind.wrap .i64 ((IntKind.wrap .i64 (a0 + 1)) - 1))), (52, aI (IntKind.wrap .i64 (a0 + 1))), (51, .pv .nils), (50, aI (IntKind.wrap .i64 ((IntKind.wrap .i64 (a0 + 1)) - 1))), (49, aI (IntKind.wrap .i64 (a0 + 1))), (48, .pv .nils), (47, aI (IntKind.wrap .i64 (a0 + 1))), (46, .pv .nils)] (by kernel_rfl) ?_))))
     cases hm
  refine bq ?_
  refine loopF (fun mm t H => (slices_partialInsertionSortCmpFunc_Value_row_Cmp_nil_l5 n a0 a1 k2 mm = some r ∧ t = mk 141 [(0, .pv .nils), (1, aI a0), (2, aI a1), (3, .pv (.fn 12 [] [])), (9, aI (IntKind.wrap .i64 (a0 + 1))), (10, aI 0), (16, aB true)] ∧ H = [])) (⟨hm, rfl, rfl⟩) ?_ ?_
  · rintro _ _ ⟨hm, _⟩; exact nomatch hm
  rintro m5 _ _ ⟨hm, rfl, rfl⟩
  simp only [slices_partialInsertionSortCmpFunc_Value_row_Cmp_nil_l5] at hm
  refine sq (sq (rgd (shd 4 [(22, aB (decide ((IntKind.wrap .i64 (a0 + 1)) < a1))), (21, aB (decide ((IntKind.wrap .i64 (a0 + 1)) < a1))), (20, aI a1), (19, aI (IntKind.wrap .i64 (a0 + 1)))] (by kernel_rfl) ?_)))
  rcases bif_some hm with ⟨h6, hm⟩ | ⟨h6, hm⟩
  ·
   refine knownd [22, 21] h6 (by kernel_rfl) (shd 3 [(25, aI (IntKind.wrap .i64 (a0 + 1))), (24, .pv .nils), (23, .pv (.fn 12 [] []))] (by kernel_rfl) ?_)
   cases hm
  ·
   refine knownd [22, 21] h6 (by kernel_rfl) (shd 14 [(36, aB false), (35, .undef), (34, .undef), (33, .undef), (32, .undef), (31, .undef), (30, .undef), (29, .undef), (28, .undef), (27, .undef), (26, .undef), (25, .undef), (24, .undef), (23, .undef)] (by kernel_rfl) (find [(0, .pv .nils), (1, aI a0), (2, aI a1), (3, .pv (.fn 12 [] [])), (9, aI (IntKind.wrap .i64 (a0 + 1))), (10, aI 0), (16, aB true), (36, aB false)] rfl (by kernel_rfl) (by kernel_rfl) (cF (by kernel_rfl) (wp_exit ?_))))
   exact ⟨hm, rfl, rfl⟩
theorem ok_slices_pdqsortCmpFunc_Value_row_Cmp_nil {n : Nat} {a0 : Int} {a1 : Int} {a2 : Int} {r : Unit} (hm : slices_pdqsortCmpFunc_Value_row_Cmp_nil n a0 a1 a2 = some r) :
    ∃ vv H1, call G n 85 [.pv .nils, aI a0, aI a1, aI a2, .pv (.fn 12 [] [])] [] = some (.ret vv, H1) ∧ (vv = .tup [] ∧ H1 = []) := by
  unfold slices_pdqsortCmpFunc_Value_row_Cmp_nil at hm
  obtain ⟨n, rfl, h0⟩ := at1_some hm
  replace hm := h0; clear h0
  refine callE 148 [(0, .pv .nils), (1, aI a0), (2, aI a1), (3, aI a2), (4, .pv (.fn 12 [] []))] func85 rfl (by kernel_rfl) (sq (detn [(0, .pv .nils), (1, aI a0), (2, aI a1), (3, aI a2), (4, .pv (.fn 12 [] [])), (10, aB true)] (by kernel_rfl) (sq (detn [(0, .pv .nils), (1, aI a0), (2, aI a1), (3, aI a2), (4, .pv (.fn 12 [] [])), (10, aB true), (11, aB true)] (by kernel_rfl) (bq ?_)))))
  refine loopF (fun mm t H => (slices_pdqsortCmpFunc_Value_row_Cmp_nil_l2 n a0 a1 a2 mm = some r ∧ t = mk 148 [(0, .pv .nils), (1, aI a0), (2, aI a1), (3, aI a2), (4, .pv (.fn 12 [] [])), (10, aB true), (11, aB true)] ∧ H = [])) (⟨hm, rfl, rfl⟩) ?_ ?_
  · rintro _ _ ⟨hm, _⟩; exact nomatch hm
  rintro m1 _ _ ⟨hm, rfl, rfl⟩
  simp only [slices_pdqsortCmpFunc_Value_row_Cmp_nil_l2] at hm
  refine bq (sq (detn [(0, .pv .nils), (1, aI a0), (2, aI a1), (3, aI a2), (4, .pv (.fn 12 [] [])), (10, aB true), (11, aB true), (12, aI (IntKind.wrap .i64 (a1 - a0)))] (by kernel_rfl) ?_))
  refine sq (sq (detn [(0, .pv .nils), (1, aI a0), (2, aI a1), (3, aI a2), (4, .pv (.fn 12 [] [])), (10, aB true), (11, aB true), (12, aI (IntKind.wrap .i64 (a1 - a0))), (25, aB (decide ((IntKind.wrap .i64 (a1 - a0)) ≤ 12)))] (by kernel_rfl) ?_))
  rcases bif_some hm with ⟨h2, hm⟩ | ⟨h2, hm⟩
  ·
   refine ct h2 (by kernel_rfl) (sq (rg (sh 4 [(29, .pv (.fn 12 [] [])), (28, aI a1), (27, aI a0), (26, .pv .nils)] (by kernel_rfl) ?_)))
   obtain ⟨_, h3, hm⟩ := bs hm
   obtain ⟨vv, H1, hC, rfl, rfl⟩ := ok_slices_insertionSortCmpFunc_Value_row_Cmp_nil h3
   refine dR [(30, .tup [])] [] [] [.pv .nils, aI a0, aI a1, .pv (.fn 12 [] [])] (by kernel_rfl) (by kernel_rfl) (by kernel_rfl) hC (by kernel_rfl) (fin [] rfl (by kernel_rfl) (wp_ret ?_))
   obtain rfl := Option.some.inj hm
   exact ⟨trivial, .tup [], [], by kernel_rfl, rfl, rfl⟩
  ·
   refine cf h2 (by kernel_rfl) (wp_skip ?_)
   refine sq (sq (detn [(0, .pv .nils), (1, aI a0), (2, aI a1), (3, aI a2), (4, .pv (.fn 12 [] [])), (10, aB true), (11, aB true), (12, aI (IntKind.wrap .i64 (a1 - a0))), (32, aB (a2 == 0))] (by kernel_rfl) ?_))
   rcases bif_some hm with ⟨h4, hm⟩ | ⟨h4, hm⟩
   ·
    refine ct h4 (by kernel_rfl) (sq (rg (sh 4 [(36, .pv (.fn 12 [] [])), (35, aI a1), (34, aI a0), (33, .pv .nils)] (by kernel_rfl) ?_)))
    obtain ⟨_, h5, hm⟩ := bs hm
    obtain ⟨vv, H1, hC, rfl, rfl⟩ := ok_slices_heapSortCmpFunc_Value_row_Cmp_nil h5
    refine dR [(37, .tup [])] [] [] [.pv .nils, aI a0, aI a1, .pv (.fn 12 [] [])] (by kernel_rfl) (by kernel_rfl) (by kernel_rfl) hC (by kernel_rfl) (fin [] rfl (by kernel_rfl) (wp_ret ?_))
    obtain rfl := Option.some.inj hm
    exact ⟨trivial, .tup [], [], by kernel_rfl, rfl, rfl⟩
   ·
    refine cf h4 (by kernel_rfl) (wp_skip (sq (sq (detn [(0, .pv .nils), (1, aI a0), (2, aI a1), (3, aI a2), (4, .pv (.fn 12 [] [])), (10, aB true), (11, aB true), (12, aI (IntKind.wrap .i64 (a1 - a0))), (39, aB false)] (by kernel_rfl) (cF (by kernel_rfl) (wp_skip (sq (rg (sh 4 [(51, .pv (.fn 12 [] [])), (50, aI a1), (49, aI a0), (48, .pv .nils)] (by kernel_rfl) ?_)))))))))
    obtain ⟨x6, h7, hm⟩ := bs hm
    refine dv 52 (cpure (by kernel_rfl) (ok_slices_choosePivotCmpFunc_Value_row_Cmp h7) (by kernel_rfl) (by kernel_rfl) (by kernel_rfl)) (by kernel_rfl) (sh 5 [(14, aI x6.2), (13, aI x6.1), (54, aI x6.2), (53, aI x6.1), (47, .tup [aI x6.1, aI x6.2])] (by kernel_rfl) (fin [(0, .pv .nils), (1, aI a0), (2, aI a1), (3, aI a2), (4, .pv (.fn 12 [] [])), (10, aB true), (11, aB true), (12, aI (IntKind.wrap .i64 (a1 - a0))), (13, aI x6.1), (14, aI x6.2)] rfl (by kernel_rfl) ?_))
    obtain ⟨k11, hk11, hm⟩ := withK_some hm
    refine mid (fun t H => (∃ (y9 : Int) (y10 : Int) (w8 : AV), k11 y10 = some r ∧ t = mk 148 [(0, .pv .nils), (1, aI a0), (2, aI a1), (3, aI a2), (4, .pv (.fn 12 [] [])), (10, aB true), (11, aB true), (12, aI (IntKind.wrap .i64 (a1 - a0))), (13, aI y9), (14, aI y10), (56, w8)] ∧ H = [])) ?_ ?_
    ·
     rintro _ _ ⟨y9, y10, w8, hm, rfl, rfl⟩
     subst hk11
     obtain ⟨k14, hk14, hm⟩ := withK_some hm
     refine mid (fun t H => (∃ (w12 : AV) (w13 : AV), k14 () = some r ∧ t = mk 148 [(0, .pv .nils), (1, aI a0), (2, aI a1), (3, aI a2), (4, .pv (.fn 12 [] [])), (10, aB true), (11, aB true), (12, aI (IntKind.wrap .i64 (a1 - a0))), (13, aI y9), (75, w12), (80, w13)] ∧ H = [])) ?_ ?_
     ·
      rintro _ _ ⟨w12, w13, hm, rfl, rfl⟩
      subst hk14
      refine sq ?_
      refine sq (rgd (shd 3 [(83, aB (decide (a0 > 0))), (82, aB (decide (a0 > 0))), (81, aI a0)] (by kernel_rfl) ?_))
      rcases bif_some hm with ⟨h15, hm⟩ | ⟨h15, hm⟩
      ·
       refine knownd [83, 82] h15 (by kernel_rfl) (shd 4 [(87, aI (IntKind.wrap .i64 (a0 - 1))), (86, aI a0), (85, .pv .nils), (84, .pv (.fn 12 [] []))] (by kernel_rfl) ?_)
       cases hm
      ·
       refine knownd [83, 82] h15 (by kernel_rfl) (shd 14 [(97, aB false), (96, .undef), (95, .undef), (94, .undef), (93, .undef), (92, .undef), (91, .undef), (90, .undef), (89, .undef), (88, .undef), (87, .undef), (86, .undef), (85, .undef), (84, .undef)] (by kernel_rfl) (find [(0, .pv .nils), (1, aI a0), (2, aI a1), (3, aI a2), (4, .pv (.fn 12 [] [])), (10, aB true), (11, aB true), (12, aI (IntKind.wrap .i64 (a1 - a0))), (13, aI y9), (97, aB false)] rfl (by kernel_rfl) (by kernel_rfl) (cF (by kernel_rfl) (wp_skip (sq (rg (sh 5 [(110, .pv (.fn 12 [] [])), (109, aI y9), (108, aI a1), (107, aI a0), (106, .pv .nils)] (by kernel_rfl) ?_)))))))
       cases hm
     refine sq (detn [(0, .pv .nils), (1, aI a0), (2, aI a1), (3, aI a2), (4, .pv (.fn 12 [] [])), (10, aB true), (11, aB true), (12, aI (IntKind.wrap .i64 (a1 - a0))), (13, aI y9), (75, aB (y10 == 1))] (by kernel_rfl) ?_)
     rcases bif_some hm with ⟨h16, hm⟩ | ⟨h16, hm⟩
     ·
      refine ct h16 (by kernel_rfl) (sq (rg (sh 4 [(79, .pv (.fn 12 [] [])), (78, aI a1), (77, aI a0), (76, .pv .nils)] (by kernel_rfl) ?_)))
      obtain ⟨x18, h17, hm⟩ := bs hm
      obtain ⟨vv, H1, hC, rfl, rfl⟩ := ok_slices_partialInsertionSortCmpFunc_Value_row_Cmp_nil h17
      refine dR [(80, aB x18)] [] [] [.pv .nils, aI a0, aI a1, .pv (.fn 12 [] [])] (by kernel_rfl) (by kernel_rfl) (by kernel_rfl) hC (by kernel_rfl) (fin [(0, .pv .nils), (1, aI a0), (2, aI a1), (3, aI a2), (4, .pv (.fn 12 [] [])), (10, aB true), (11, aB true), (12, aI (IntKind.wrap .i64 (a1 - a0))), (13, aI y9), (80, aB x18)] rfl (by kernel_rfl) ?_)
      rcases bif_some hm with ⟨h19, hm⟩ | ⟨h19, hm⟩
      ·
       refine ct h19 (by kernel_rfl) (wp_ret ?_)
       obtain rfl := Option.some.inj hm
       exact ⟨trivial, .tup [], [], by kernel_rfl, rfl, rfl⟩
      ·
       refine cf h19 (by kernel_rfl) (wp_skip ?_)
       exact ⟨.any, aB x18, hm, (mk_same (by kernel_rfl)), rfl⟩
     ·
      refine cf h16 (by kernel_rfl) (wp_skip ?_)
      exact ⟨aB (y10 == 1), .any, hm, (mk_same (by kernel_rfl)), rfl⟩
    refine sq (detn [(0, .pv .nils), (1, aI a0), (2, aI a1), (3, aI a2), (4, .pv (.fn 12 [] [])), (10, aB true), (11, aB true), (12, aI (IntKind.wrap .i64 (a1 - a0))), (13, aI x6.1), (14, aI x6.2), (56, aB (x6.2 == 2))] (by kernel_rfl) ?_)
    rcases bif_some hm with ⟨h20, hm⟩ | ⟨h20, hm⟩
    ·
     refine ct h20 (by kernel_rfl) (sq (rg (sh 4 [(60, .pv (.fn 12 [] [])), (59, aI a1), (58, aI a0), (57, .pv .nils)] (by kernel_rfl) ?_)))
     obtain ⟨_, h21, hm⟩ := bs hm
     obtain ⟨vv, H1, hC, rfl, rfl⟩ := ok_slices_reverseRangeCmpFunc_Value_row_Cmp_nil h21
     refine dR [(61, .tup [])] [] [] [.pv .nils, aI a0, aI a1, .pv (.fn 12 [] [])] (by kernel_rfl) (by kernel_rfl) (by kernel_rfl) hC (by kernel_rfl) (fin [(0, .pv .nils), (1, aI a0), (2, aI a1), (3, aI a2), (4, .pv (.fn 12 [] [])), (10, aB true), (11, aB true), (12, aI (IntKind.wrap .i64 (a1 - a0))), (13, aI x6.1)] rfl (by kernel_rfl) (sq (detn [(0, .pv .nils), (1, aI a0), (2, aI a1), (3, aI a2), (4, .pv (.fn 12 [] [])), (10, aB true), (11, aB true), (12, aI (IntKind.wrap .i64 (a1 - a0))), (13, aI (IntKind.wrap .i64 ((IntKind.wrap .i64 (a1 - 1)) - (IntKind.wrap .i64 (x6.1 - a0)))))] (by kernel_rfl) (detn [(0, .pv .nils), (1, aI a0), (2, aI a1), (3, aI a2), (4, .pv (.fn 12 [] [])), (10, aB true), (11, aB true), (12, aI (IntKind.wrap .i64 (a1 - a0))), (13, aI (IntKind.wrap .i64 ((IntKind.wrap .i64 (a1 - 1)) - (IntKind.wrap .i64 (x6.1 - a0))))), (14, aI 1)] (by kernel_rfl) ?_))))
     exact ⟨(IntKind.wrap .i64 ((IntKind.wrap .i64 (a1 - 1)) - (IntKind.wrap .i64 (x6.1 - a0)))), 1, .any, hm, (mk_same (by kernel_rfl)), rfl⟩
    ·
     refine cf h20 (by kernel_rfl) (wp_skip ?_)
     exact ⟨x6.1, x6.2, aB (x6.2 == 2), hm, (mk_same (by kernel_rfl)), rfl⟩
theorem ok_slices_SortFunc_Value_row_Cmp_nil {n : Nat}  {r : Unit} (hm : slices_SortFunc_Value_row_Cmp_nil n = some r) :
    ∃ vv H1, call G n 67 [.pv .nils, .pv (.fn 12 [] [])] [] = some (.ret vv, H1) ∧ (vv = .tup [] ∧ H1 = []) := by
  unfold slices_SortFunc_Value_row_Cmp_nil at hm
  obtain ⟨n, rfl, h0⟩ := at1_some hm
  replace hm := h0; clear h0
  refine callE 14 [(0, .pv .nils), (1, .pv (.fn 12 [] []))] func67 rfl (by kernel_rfl) (sq (detn [(0, .pv .nils), (1, .pv (.fn 12 [] [])), (4, aI 0)] (by kernel_rfl) (rg (sh 4 [(10, aU 0), (9, aI 0), (8, aI 0), (7, .pv .nils)] (by kernel_rfl) ?_))))
  obtain ⟨x1, h2, hm⟩ := bs hm
  refine dv 11 (cpure (by kernel_rfl) (ok_math_bits_Len h2) (by kernel_rfl) (by kernel_rfl) (by kernel_rfl)) (by kernel_rfl) (sh 1 [(12, .pv (.fn 12 [] []))] (by kernel_rfl) ?_)
  obtain ⟨_, h3, hm⟩ := bs hm
  obtain ⟨vv, H1, hC, rfl, rfl⟩ := ok_slices_pdqsortCmpFunc_Value_row_Cmp_nil h3
  refine dR [(13, .tup [])] [] [] [.pv .nils, aI 0, aI 0, aI x1, .pv (.fn 12 [] [])] (by kernel_rfl) (by kernel_rfl) (by kernel_rfl) hC (by kernel_rfl) (fin [] rfl (by kernel_rfl) ?_)
  obtain rfl := Option.some.inj hm
  exact ⟨trivial, .tup [], [], by kernel_rfl, rfl, rfl⟩
theorem ok_slices_insertionSortCmpFunc_Value_row_Cmp_r (m0 : Nat) (f0 : Nat) {n : Nat} {a0 : (List (Option (List api_Value)))} {a1 : Int} {a2 : Int} {r : (List (Option (List api_Value)))} (hm0 : a0.length = m0) (hf0 : f0 ≤ a0.length) (hm : slices_insertionSortCmpFunc_Value_row_Cmp_r n a0 a1 a2 = some r) :
    ∃ vv H1, call G n 88 [aR 0 1 m0, aI a1, aI a2, .pv (.fn 12 [] [])] [bR 22 1 (rSl R_api_Value) a0 f0 0] = some (.ret vv, H1) ∧ (match r with | r0 => (∃ (e1 : Nat), r0.length = m0 ∧ e1 ≤ r0.length ∧ vv = .tup [] ∧ H1 = [bR 22 1 (rSl R_api_Value) r0 e1 0])) := by
  unfold slices_insertionSortCmpFunc_Value_row_Cmp_r at hm
  obtain ⟨n, rfl, h0⟩ := at1_some hm
  replace hm := h0; clear h0
  refine callE 53 [(0, aR 0 1 m0), (1, aI a1), (2, aI a2), (3, .pv (.fn 12 [] []))] func88 rfl (by kernel_rfl) (sq (detn [(0, aR 0 1 m0), (1, aI a1), (2, aI a2), (3, .pv (.fn 12 [] [])), (8, aI (IntKind.wrap .i64 (a1 + 1)))] (by kernel_rfl) (bq ?_)))
  refine loopF (fun mm t H => (∃ (y6 : (List (Option (List api_Value)))) (y7 : Int) (g9 : Nat), slices_insertionSortCmpFunc_Value_row_Cmp_r_l1 n a1 a2 mm y6 y7 = some r ∧ t = mk 53 [(0, aR 0 1 m0), (1, aI a1), (2, aI a2), (3, .pv (.fn 12 [] [])), (8, aI y7)] ∧ H = [bR 22 1 (rSl R_api_Value) y6 g9 0] ∧ y6.length = m0 ∧ g9 ≤ y6.length)) (⟨a0, (IntKind.wrap .i64 (a1 + 1)), f0, hm, rfl, rfl, (by first | rfl | assumption | omega | (simp only [List.length_set, List.length_append, List.length_cons, List.length_nil, List.length_replicate, List.length_drop] at * <;> omega)), (by first | exact Nat.zero_le _ | exact Nat.le_refl _ | assumption | omega | (simp only [List.length_set, List.length_append, List.length_cons, List.length_nil, List.length_replicate, List.length_drop] at * <;> omega))⟩) ?_ ?_
  · rintro _ _ ⟨y6, y7, g9, hm, _⟩; exact nomatch hm
  rintro m11 _ _ ⟨y6, y7, g9, hm, rfl, rfl, q8, q10⟩
  simp only [slices_insertionSortCmpFunc_Value_row_Cmp_r_l1] at hm
  refine sq (sq (detn [(0, aR 0 1 m0), (1, aI a1), (2, aI a2), (3, .pv (.fn 12 [] [])), (8, aI y7), (14, aB (decide (y7 < a2)))] (by kernel_rfl) ?_))
  rcases bif_some hm with ⟨h12, hm⟩ | ⟨h12, hm⟩
  ·
   refine ct h12 (by kernel_rfl) (wp_skip ?_)
   obtain ⟨k19, hk19, hm⟩ := withK_some hm
   refine mid (fun t H => (∃ (y13 : (List (Option (List api_Value)))) (y14 : Bool) (y15 : Int) (g17 : Nat), k19 y13 = some r ∧ t = mk 53 [(0, aR 0 1 m0), (1, aI a1), (2, aI a2), (3, .pv (.fn 12 [] [])), (8, aI y7), (9, aI y15), (34, aB y14)] ∧ H = [bR 22 1 (rSl R_api_Value) y13 g17 0] ∧ y13.length = m0 ∧ g17 ≤ y13.length)) ?_ ?_
   ·
    rintro _ _ ⟨y13, y14, y15, g17, hm, rfl, rfl, q16, q18⟩
    subst hk19
    refine detn [(0, aR 0 1 m0), (1, aI a1), (2, aI a2), (3, .pv (.fn 12 [] [])), (8, aI (IntKind.wrap .i64 (y7 + 1)))] (by kernel_rfl) ?_
    exact ⟨_, _, tidyL [(0, aR 0 1 m0), (1, aI a1), (2, aI a2), (3, .pv (.fn 12 [] [])), (8, aI (IntKind.wrap .i64 (y7 + 1)))] [bR 22 1 (rSl R_api_Value) y13 g17 0] (by kernel_rfl), ⟨y13, (IntKind.wrap .i64 (y7 + 1)), g17, hm, rfl, rfl, (by first | rfl | assumption | omega | (simp only [List.length_set, List.length_append, List.length_cons, List.length_nil, List.length_replicate, List.length_drop] at * <;> omega)), (by first | exact Nat.zero_le _ | exact Nat.le_refl _ | assumption | omega | (simp only [List.length_set, List.length_append, List.length_cons, List.length_nil, List.length_replicate, List.length_drop] at * <;> omega))⟩⟩
   refine bq (sq (detn [(0, aR 0 1 m0), (1, aI a1), (2, aI a2), (3, .pv (.fn 12 [] [])), (8, aI y7), (9, aI y7)] (by kernel_rfl) (bq ?_)))
   refine loopF (fun mm t H => (∃ (y25 : (List (Option (List api_Value)))) (y26 : Int) (g28 : Nat), slices_insertionSortCmpFunc_Value_row_Cmp_r_l4 n a1 k19 mm y25 y26 = some r ∧ t = mk 53 [(0, aR 0 1 m0), (1, aI a1), (2, aI a2), (3, .pv (.fn 12 [] [])), (8, aI y7), (9, aI y26)] ∧ H = [bR 22 1 (rSl R_api_Value) y25 g28 0] ∧ y25.length = m0 ∧ g28 ≤ y25.length)) (⟨y6, y7, g9, hm, rfl, rfl, (by first | rfl | assumption | omega | (simp only [List.length_set, List.length_append, List.length_cons, List.length_nil, List.length_replicate, List.length_drop] at * <;> omega)), (by first | exact Nat.zero_le _ | exact Nat.le_refl _ | assumption | omega | (simp only [List.length_set, List.length_append, List.length_cons, List.length_nil, List.length_replicate, List.length_drop] at * <;> omega))⟩) ?_ ?_
   · rintro _ _ ⟨y25, y26, g28, hm, _⟩; exact nomatch hm
   rintro m30 _ _ ⟨y25, y26, g28, hm, rfl, rfl, q27, q29⟩
   simp only [slices_insertionSortCmpFunc_Value_row_Cmp_r_l4] at hm
   refine sq (sq (rgd (shd 4 [(21, aB (decide (y26 > a1))), (20, aB (decide (y26 > a1))), (19, aI a1), (18, aI y26)] (by kernel_rfl) ?_)))
   rcases bif_some hm with ⟨h31, hm⟩ | ⟨h31, hm⟩
   ·
    refine knownd [21, 20] h31 (by kernel_rfl) (shd 3 [(24, aI y26), (23, aR 0 1 m0), (22, .pv (.fn 12 [] []))] (by kernel_rfl) ?_)
    obtain ⟨x32, h33, hm⟩ := bs hm
    refine dvd 25 (v := .eptr 0 0 m0 1 (0 + Int.toNat y26) 0) (ia_refO y25 .i64 (n := m0) (id := 0) (esz := 1) t25 t22 h33 (by omega) rfl (by kernel_rfl)) (by kernel_rfl) (dvd 26 (v := .pv (encSl R_api_Value x32)) (ld_eptrO (rSl R_api_Value) y25 (n := m0) (esz := 1) (j := y26) (off := 0) (id := 0) t22 rfl h33 (by omega) (by omega) (by kernel_rfl) (by kernel_rfl)) (by kernel_rfl) (shd 3 [(29, aI (IntKind.wrap .i64 (y26 - 1))), (28, aI y26), (27, aR 0 1 m0)] (by kernel_rfl) ?_))
    obtain ⟨x34, h35, hm⟩ := bs hm
    refine dvd 30 (v := .eptr 0 0 m0 1 (0 + Int.toNat (IntKind.wrap .i64 (y26 - 1))) 0) (ia_refO y25 .i64 (n := m0) (id := 0) (esz := 1) t25 t22 h35 (by omega) rfl (by kernel_rfl)) (by kernel_rfl) (dvd 31 (v := .pv (encSl R_api_Value x34)) (ld_eptrO (rSl R_api_Value) y25 (n := m0) (esz := 1) (j := (IntKind.wrap .i64 (y26 - 1))) (off := 0) (id := 0) t22 rfl h35 (by omega) (by omega) (by kernel_rfl) (by kernel_rfl)) (by kernel_rfl) ?_)
    obtain ⟨x36, h37, hm⟩ := bs hm
    refine dvd 32 (cpure (by kernel_rfl) (ok_row_Cmp h37) (by kernel_rfl) (by kernel_rfl) (by kernel_rfl)) (by kernel_rfl) (shd 2 [(34, aB (decide (x36 < 0))), (33, aB (decide (x36 < 0)))] (by kernel_rfl) (find [(0, aR 0 1 m0), (1, aI a1), (2, aI a2), (3, .pv (.fn 12 [] [])), (8, aI y7), (9, aI y26), (34, aB (decide (x36 < 0)))] rfl (by kernel_rfl) (by kernel_rfl) ?_))
    rcases bif_some hm with ⟨h38, hm⟩ | ⟨h38, hm⟩
    ·
     refine ct h38 (by kernel_rfl) (wp_skip (sq (bq (rgd (shd 8 [(44, aI (IntKind.wrap .i64 (y26 - 1))), (43, aI y26), (42, aR 0 1 m0), (41, aI (IntKind.wrap .i64 (y26 - 1))), (40, aI y26), (39, aR 0 1 m0), (38, aI y26), (37, aR 0 1 m0)] (by kernel_rfl) (dvd 45 (v := .eptr 0 0 m0 1 (0 + Int.toNat (IntKind.wrap .i64 (y26 - 1))) 0) (ia_refO y25 .i64 (n := m0) (id := 0) (esz := 1) t25 t22 h35 (by omega) rfl (by kernel_rfl)) (by kernel_rfl) (dvd 46 (v := .pv (encSl R_api_Value x34)) (ld_eptrO (rSl R_api_Value) y25 (n := m0) (esz := 1) (j := (IntKind.wrap .i64 (y26 - 1))) (off := 0) (id := 0) t22 rfl h35 (by omega) (by omega) (by kernel_rfl) (by kernel_rfl)) (by kernel_rfl) (shd 2 [(48, aI y26), (47, aR 0 1 m0)] (by kernel_rfl) (dvd 49 (v := .eptr 0 0 m0 1 (0 + Int.toNat y26) 0) (ia_refO y25 .i64 (n := m0) (id := 0) (esz := 1) t25 t22 h33 (by omega) rfl (by kernel_rfl)) (by kernel_rfl) (dvd 50 (v := .pv (encSl R_api_Value x32)) (ld_eptrO (rSl R_api_Value) y25 (n := m0) (esz := 1) (j := y26) (off := 0) (id := 0) t22 rfl h33 (by omega) (by omega) (by kernel_rfl) (by kernel_rfl)) (by kernel_rfl) (dvd 51 (v := .eptr 0 0 m0 1 (0 + Int.toNat y26) 0) (ia_refO y25 .i64 (n := m0) (id := 0) (esz := 1) t25 t22 h33 (by omega) rfl (by kernel_rfl)) (by kernel_rfl) (dOd [] [bR 22 1 (rSl R_api_Value) (y25.set (Int.toNat y26) x34) m0 0] (st_eptrO (rSl R_api_Value) y25 x34 (n := m0) (esz := 1) (v := .pv (encSl R_api_Value x34)) (j := y26) (off := 0) (id := 0) t22 rfl h33 (by omega) (by omega) rfl rfl rfl rfl (by kernel_rfl)) (by kernel_rfl) ?_))))))))))))
     obtain ⟨x39, h40, hm⟩ := bs hm
     refine dvd 52 (v := .eptr 0 0 m0 1 (0 + Int.toNat (IntKind.wrap .i64 (y26 - 1))) 0) (ia_refO (y25.set (Int.toNat y26) x34) .i64 (n := m0) (id := 0) (esz := 1) t25 t22 h40 (by first | rfl | assumption | omega | (simp only [List.length_set, List.length_append, List.length_cons, List.length_nil, List.length_replicate, List.length_drop] at * <;> omega)) rfl (by kernel_rfl)) (by kernel_rfl) (dOd [] [bR 22 1 (rSl R_api_Value) ((y25.set (Int.toNat y26) x34).set (Int.toNat (IntKind.wrap .i64 (y26 - 1))) x32) m0 0] (st_eptrO (rSl R_api_Value) (y25.set (Int.toNat y26) x34) x32 (n := m0) (esz := 1) (v := .pv (encSl R_api_Value x32)) (j := (IntKind.wrap .i64 (y26 - 1))) (off := 0) (id := 0) t22 rfl h40 (by first | rfl | assumption | omega | (simp only [List.length_set, List.length_append, List.length_cons, List.length_nil, List.length_replicate, List.length_drop] at * <;> omega)) (by first | exact Nat.zero_le _ | exact Nat.le_refl _ | assumption | omega | (simp only [List.length_set, List.length_append, List.length_cons, List.length_nil, List.length_replicate, List.length_drop] at * <;> omega)) rfl rfl rfl rfl (by kernel_rfl)) (by kernel_rfl) (find [(0, aR 0 1 m0), (1, aI a1), (2, aI a2), (3, .pv (.fn 12 [] [])), (8, aI y7), (9, aI y26)] rfl (by kernel_rfl) (by kernel_rfl) (detn [(0, aR 0 1 m0), (1, aI a1), (2, aI a2), (3, .pv (.fn 12 [] [])), (8, aI y7), (9, aI (IntKind.wrap .i64 (y26 - 1)))] (by kernel_rfl) ?_)))
     exact ⟨_, _, tidyL [(0, aR 0 1 m0), (1, aI a1), (2, aI a2), (3, .pv (.fn 12 [] [])), (8, aI y7), (9, aI (IntKind.wrap .i64 (y26 - 1)))] [bR 22 1 (rSl R_api_Value) ((y25.set (Int.toNat y26) x34).set (Int.toNat (IntKind.wrap .i64 (y26 - 1))) x32) m0 0] (by kernel_rfl), ⟨((y25.set (Int.toNat y26) x34).set (Int.toNat (IntKind.wrap .i64 (y26 - 1))) x32), (IntKind.wrap .i64 (y26 - 1)), m0, hm, rfl, rfl, (by first | rfl | assumption | omega | (simp only [List.length_set, List.length_append, List.length_cons, List.length_nil, List.length_replicate, List.length_drop] at * <;> omega)), (by first | exact Nat.zero_le _ | exact Nat.le_refl _ | assumption | omega | (simp only [List.length_set, List.length_append, List.length_cons, List.length_nil, List.length_replicate, List.length_drop] at * <;> omega))⟩⟩
    ·
     refine cf h38 (by kernel_rfl) (wp_exit ?_)
     exact ⟨y25, (decide (x36 < 0)), y26, g28, hm, rfl, rfl, (by first | rfl | assumption | omega | (simp only [List.length_set, List.length_append, List.length_cons, List.length_nil, List.length_replicate, List.length_drop] at * <;> omega)), (by first | exact Nat.zero_le _ | exact Nat.le_refl _ | assumption | omega | (simp only [List.length_set, List.length_append, List.length_cons, List.length_nil, List.length_replicate, List.length_drop] at * <;> omega))⟩
   ·
    refine knownd [21, 20] h31 (by kernel_rfl) (shd 13 [(34, aB false), (33, .undef), (32, .undef), (31, .undef), (30, .undef), (29, .undef), (28, .undef), (27, .undef), (26, .undef), (25, .undef), (24, .undef), (23, .undef), (22, .undef)] (by kernel_rfl) (find [(0, aR 0 1 m0), (1, aI a1), (2, aI a2), (3, .pv (.fn 12 [] [])), (8, aI y7), (9, aI y26), (34, aB false)] rfl (by kernel_rfl) (by kernel_rfl) (cF (by kernel_rfl) (wp_exit ?_))))
    exact ⟨y25, false, y26, g28, hm, rfl, rfl, (by first | rfl | assumption | omega | (simp only [List.length_set, List.length_append, List.length_cons, List.length_nil, List.length_replicate, List.length_drop] at * <;> omega)), (by first | exact Nat.zero_le _ | exact Nat.le_refl _ | assumption | omega | (simp only [List.length_set, List.length_append, List.length_cons, List.length_nil, List.length_replicate, List.length_drop] at * <;> omega))⟩
  ·
   refine cf h12 (by kernel_rfl) (wp_exit ?_)
   obtain rfl := Option.some.inj hm
   exact ⟨trivial, .tup [], [bR 22 1 (rSl R_api_Value) y6 g9 0], by kernel_rfl, g9, (by first | rfl | assumption | omega | (simp only [List.length_set, List.length_append, List.length_cons, List.length_nil, List.length_replicate, List.length_drop] at * <;> omega)), (by first | exact Nat.zero_le _ | exact Nat.le_refl _ | assumption | omega | (simp only [List.length_set, List.length_append, List.length_cons, List.length_nil, List.length_replicate, List.length_drop] at * <;> omega)), rfl, rfl⟩
theorem ok_slices_siftDownCmpFunc_Value_row_Cmp_r (m0 : Nat) (f0 : Nat) {n : Nat} {a0 : (List (Option (List api_Value)))} {a1 : Int} {a2 : Int} {a3 : Int} {r : (List (Option (List api_Value)))} (hm0 : a0.length = m0) (hf0 : f0 ≤ a0.length) (hm : slices_siftDownCmpFunc_Value_row_Cmp_r n a0 a1 a2 a3 = some r) :
    ∃ vv H1, call G n 104 [aR 0 1 m0, aI a1, aI a2, aI a3, .pv (.fn 12 [] [])] [bR 22 1 (rSl R_api_Value) a0 f0 0] = some (.ret vv, H1) ∧ (match r with | r0 => (∃ (e1 : Nat), r0.length = m0 ∧ e1 ≤ r0.length ∧ vv = .tup [] ∧ H1 = [bR 22 1 (rSl R_api_Value) r0 e1 0])) := by
  unfold slices_siftDownCmpFunc_Value_row_Cmp_r at hm
  obtain ⟨n, rfl, h0⟩ := at1_some hm
  replace hm := h0; clear h0
  refine callE 82 [(0, aR 0 1 m0), (1, aI a1), (2, aI a2), (3, aI a3), (4, .pv (.fn 12 [] []))] func104 rfl (by kernel_rfl) (sq (detn [(0, aR 0 1 m0), (2, aI a2), (3, aI a3), (4, .pv (.fn 12 [] [])), (10, aI a1)] (by kernel_rfl) (bq ?_)))
  refine loopF (fun mm t H => (∃ (y6 : (List (Option (List api_Value)))) (y7 : Int) (g9 : Nat), slices_siftDownCmpFunc_Value_row_Cmp_r_l1 n a2 a3 mm y6 y7 = some r ∧ t = mk 82 [(0, aR 0 1 m0), (2, aI a2), (3, aI a3), (4, .pv (.fn 12 [] [])), (10, aI y7)] ∧ H = [bR 22 1 (rSl R_api_Value) y6 g9 0] ∧ y6.length = m0 ∧ g9 ≤ y6.length)) (⟨a0, a1, f0, hm, rfl, rfl, (by first | rfl | assumption | omega | (simp only [List.length_set, List.length_append, List.length_cons, List.length_nil, List.length_replicate, List.length_drop] at * <;> omega)), (by first | exact Nat.zero_le _ | exact Nat.le_refl _ | assumption | omega | (simp only [List.length_set, List.length_append, List.length_cons, List.length_nil, List.length_replicate, List.length_drop] at * <;> omega))⟩) ?_ ?_
  · rintro _ _ ⟨y6, y7, g9, hm, _⟩; exact nomatch hm
  rintro m11 _ _ ⟨y6, y7, g9, hm, rfl, rfl, q8, q10⟩
  simp only [slices_siftDownCmpFunc_Value_row_Cmp_r_l1] at hm
  refine bq (sq (detn [(0, aR 0 1 m0), (2, aI a2), (3, aI a3), (4, .pv (.fn 12 [] [])), (10, aI y7), (11, aI (IntKind.wrap .i64 ((IntKind.wrap .i64 (2 * y7)) + 1)))] (by kernel_rfl) ?_))
  refine sq (sq (detn [(0, aR 0 1 m0), (2, aI a2), (3, aI a3), (4, .pv (.fn 12 [] [])), (10, aI y7), (11, aI (IntKind.wrap .i64 ((IntKind.wrap .i64 (2 * y7)) + 1))), (18, aB (decide ((IntKind.wrap .i64 ((IntKind.wrap .i64 (2 * y7)) + 1)) ≥ a2)))] (by kernel_rfl) ?_))
  rcases bif_some hm with ⟨h12, hm⟩ | ⟨h12, hm⟩
  ·
   refine ct h12 (by kernel_rfl) (wp_exit ?_)
   obtain rfl := Option.some.inj hm
   exact ⟨trivial, .tup [], [bR 22 1 (rSl R_api_Value) y6 g9 0], by kernel_rfl, g9, (by first | rfl | assumption | omega | (simp only [List.length_set, List.length_append, List.length_cons, List.length_nil, List.length_replicate, List.length_drop] at * <;> omega)), (by first | exact Nat.zero_le _ | exact Nat.le_refl _ | assumption | omega | (simp only [List.length_set, List.length_append, List.length_cons, List.length_nil, List.length_replicate, List.length_drop] at * <;> omega)), rfl, rfl⟩
  ·
   refine cf h12 (by kernel_rfl) (wp_skip ?_)
   obtain ⟨k15, hk15, hm⟩ := withK_some hm
   refine mid (fun t H => (∃ (y14 : Int) (w13 : AV), k15 y14 = some r ∧ t = mk 82 [(0, aR 0 1 m0), (2, aI a2), (3, aI a3), (4, .pv (.fn 12 [] [])), (10, aI y7), (11, aI y14), (40, w13)] ∧ H = [bR 22 1 (rSl R_api_Value) y6 g9 0])) ?_ ?_
   ·
    rintro _ _ ⟨y14, w13, hm, rfl, rfl⟩
    subst hk15
    refine sq (sq (rgd (shd 5 [(47, aI (IntKind.wrap .i64 (a3 + y7))), (46, aI y7), (45, aI a3), (44, aR 0 1 m0), (43, .pv (.fn 12 [] []))] (by kernel_rfl) ?_)))
    obtain ⟨x16, h17, hm⟩ := bs hm
    refine dvd 48 (v := .eptr 0 0 m0 1 (0 + Int.toNat (IntKind.wrap .i64 (a3 + y7))) 0) (ia_refO y6 .i64 (n := m0) (id := 0) (esz := 1) t25 t22 h17 (by omega) rfl (by kernel_rfl)) (by kernel_rfl) (dvd 49 (v := .pv (encSl R_api_Value x16)) (ld_eptrO (rSl R_api_Value) y6 (n := m0) (esz := 1) (j := (IntKind.wrap .i64 (a3 + y7))) (off := 0) (id := 0) t22 rfl h17 (by omega) (by omega) (by kernel_rfl) (by kernel_rfl)) (by kernel_rfl) (shd 4 [(53, aI (IntKind.wrap .i64 (a3 + y14))), (52, aI y14), (51, aI a3), (50, aR 0 1 m0)] (by kernel_rfl) ?_))
    obtain ⟨x18, h19, hm⟩ := bs hm
    refine dvd 54 (v := .eptr 0 0 m0 1 (0 + Int.toNat (IntKind.wrap .i64 (a3 + y14))) 0) (ia_refO y6 .i64 (n := m0) (id := 0) (esz := 1) t25 t22 h19 (by omega) rfl (by kernel_rfl)) (by kernel_rfl) (dvd 55 (v := .pv (encSl R_api_Value x18)) (ld_eptrO (rSl R_api_Value) y6 (n := m0) (esz := 1) (j := (IntKind.wrap .i64 (a3 + y14))) (off := 0) (id := 0) t22 rfl h19 (by omega) (by omega) (by kernel_rfl) (by kernel_rfl)) (by kernel_rfl) ?_)
    obtain ⟨x20, h21, hm⟩ := bs hm
    refine dvd 56 (cpure (by kernel_rfl) (ok_row_Cmp h21) (by kernel_rfl) (by kernel_rfl) (by kernel_rfl)) (by kernel_rfl) (shd 2 [(58, aB (!(decide (x20 < 0)))), (57, aB (decide (x20 < 0)))] (by kernel_rfl) (find [(0, aR 0 1 m0), (2, aI a2), (3, aI a3), (4, .pv (.fn 12 [] [])), (10, aI y7), (11, aI y14), (58, aB (!(decide (x20 < 0))))] rfl (by kernel_rfl) (by kernel_rfl) ?_))
    rcases bif_some hm with ⟨h22, hm⟩ | ⟨h22, hm⟩
    ·
     refine ct h22 (by kernel_rfl) (wp_ret ?_)
     obtain rfl := Option.some.inj hm
     exact ⟨trivial, .tup [], [bR 22 1 (rSl R_api_Value) y6 g9 0], by kernel_rfl, g9, (by first | rfl | assumption | omega | (simp only [List.length_set, List.length_append, List.length_cons, List.length_nil, List.length_replicate, List.length_drop] at * <;> omega)), (by first | exact Nat.zero_le _ | exact Nat.le_refl _ | assumption | omega | (simp only [List.length_set, List.length_append, List.length_cons, List.length_nil, List.length_replicate, List.length_drop] at * <;> omega)), rfl, rfl⟩
    ·
     refine cf h22 (by kernel_rfl) (wp_skip (sq (rgd (shd 12 [(70, aI (IntKind.wrap .i64 (a3 + y14))), (69, aI y14), (68, aI a3), (67, aR 0 1 m0), (66, aI (IntKind.wrap .i64 (a3 + y14))), (65, aI y14), (64, aI a3), (63, aR 0 1 m0), (62, aI (IntKind.wrap .i64 (a3 + y7))), (61, aI y7), (60, aI a3), (59, aR 0 1 m0)] (by kernel_rfl) (dvd 71 (v := .eptr 0 0 m0 1 (0 + Int.toNat (IntKind.wrap .i64 (a3 + y14))) 0) (ia_refO y6 .i64 (n := m0) (id := 0) (esz := 1) t25 t22 h19 (by omega) rfl (by kernel_rfl)) (by kernel_rfl) (dvd 72 (v := .pv (encSl R_api_Value x18)) (ld_eptrO (rSl R_api_Value) y6 (n := m0) (esz := 1) (j := (IntKind.wrap .i64 (a3 + y14))) (off := 0) (id := 0) t22 rfl h19 (by omega) (by omega) (by kernel_rfl) (by kernel_rfl)) (by kernel_rfl) (shd 4 [(76, aI (IntKind.wrap .i64 (a3 + y7))), (75, aI y7), (74, aI a3), (73, aR 0 1 m0)] (by kernel_rfl) (dvd 77 (v := .eptr 0 0 m0 1 (0 + Int.toNat (IntKind.wrap .i64 (a3 + y7))) 0) (ia_refO y6 .i64 (n := m0) (id := 0) (esz := 1) t25 t22 h17 (by omega) rfl (by kernel_rfl)) (by kernel_rfl) (dvd 78 (v := .pv (encSl R_api_Value x16)) (ld_eptrO (rSl R_api_Value) y6 (n := m0) (esz := 1) (j := (IntKind.wrap .i64 (a3 + y7))) (off := 0) (id := 0) t22 rfl h17 (by omega) (by omega) (by kernel_rfl) (by kernel_rfl)) (by kernel_rfl) (dvd 79 (v := .eptr 0 0 m0 1 (0 + Int.toNat (IntKind.wrap .i64 (a3 + y7))) 0) (ia_refO y6 .i64 (n := m0) (id := 0) (esz := 1) t25 t22 h17 (by omega) rfl (by kernel_rfl)) (by kernel_rfl) (dOd [] [bR 22 1 (rSl R_api_Value) (y6.set (Int.toNat (IntKind.wrap .i64 (a3 + y7))) x18) m0 0] (st_eptrO (rSl R_api_Value) y6 x18 (n := m0) (esz := 1) (v := .pv (encSl R_api_Value x18)) (j := (IntKind.wrap .i64 (a3 + y7))) (off := 0) (id := 0) t22 rfl h17 (by omega) (by omega) rfl rfl rfl rfl (by kernel_rfl)) (by kernel_rfl) ?_)))))))))))
     obtain ⟨x23, h24, hm⟩ := bs hm
     refine dvd 80 (v := .eptr 0 0 m0 1 (0 + Int.toNat (IntKind.wrap .i64 (a3 + y14))) 0) (ia_refO (y6.set (Int.toNat (IntKind.wrap .i64 (a3 + y7))) x18) .i64 (n := m0) (id := 0) (esz := 1) t25 t22 h24 (by first | rfl | assumption | omega | (simp only [List.length_set, List.length_append, List.length_cons, List.length_nil, List.length_replicate, List.length_drop] at * <;> omega)) rfl (by kernel_rfl)) (by kernel_rfl) (dOd [] [bR 22 1 (rSl R_api_Value) ((y6.set (Int.toNat (IntKind.wrap .i64 (a3 + y7))) x18).set (Int.toNat (IntKind.wrap .i64 (a3 + y14))) x16) m0 0] (st_eptrO (rSl R_api_Value) (y6.set (Int.toNat (IntKind.wrap .i64 (a3 + y7))) x18) x16 (n := m0) (esz := 1) (v := .pv (encSl R_api_Value x16)) (j := (IntKind.wrap .i64 (a3 + y14))) (off := 0) (id := 0) t22 rfl h24 (by first | rfl | assumption | omega | (simp only [List.length_set, List.length_append, List.length_cons, List.length_nil, List.length_replicate, List.length_drop] at * <;> omega)) (by first | exact Nat.zero_le _ | exact Nat.le_refl _ | assumption | omega | (simp only [List.length_set, List.length_append, List.length_cons, List.length_nil, List.length_replicate, List.length_drop] at * <;> omega)) rfl rfl rfl rfl (by kernel_rfl)) (by kernel_rfl) (find [(0, aR 0 1 m0), (2, aI a2), (3, aI a3), (4, .pv (.fn 12 [] [])), (11, aI y14)] rfl (by kernel_rfl) (by kernel_rfl) (detn [(0, aR 0 1 m0), (2, aI a2), (3, aI a3), (4, .pv (.fn 12 [] [])), (10, aI y14)] (by kernel_rfl) ?_)))
     exact ⟨_, _, tidyL [(0, aR 0 1 m0), (2, aI a2), (3, aI a3), (4, .pv (.fn 12 [] [])), (10, aI y14)] [bR 22 1 (rSl R_api_Value) ((y6.set (Int.toNat (IntKind.wrap .i64 (a3 + y7))) x18).set (Int.toNat (IntKind.wrap .i64 (a3 + y14))) x16) m0 0] (by kernel_rfl), ⟨((y6.set (Int.toNat (IntKind.wrap .i64 (a3 + y7))) x18).set (Int.toNat (IntKind.wrap .i64 (a3 + y14))) x16), y14, m0, hm, rfl, rfl, (by first | rfl | assumption | omega | (simp only [List.length_set, List.length_append, List.length_cons, List.length_nil, List.length_replicate, List.length_drop] at * <;> omega)), (by first | exact Nat.zero_le _ | exact Nat.le_refl _ | assumption | omega | (simp only [List.length_set, List.length_append, List.length_cons, List.length_nil, List.length_replicate, List.length_drop] at * <;> omega))⟩⟩
   refine sq (rgd (shd 5 [(23, aB (decide ((IntKind.wrap .i64 ((IntKind.wrap .i64 ((IntKind.wrap .i64 (2 * y7)) + 1)) + 1)) < a2))), (22, aB (decide ((IntKind.wrap .i64 ((IntKind.wrap .i64 ((IntKind.wrap .i64 (2 * y7)) + 1)) + 1)) < a2))), (21, aI a2), (20, aI (IntKind.wrap .i64 ((IntKind.wrap .i64 ((IntKind.wrap .i64 (2 * y7)) + 1)) + 1))), (19, aI (IntKind.wrap .i64 ((IntKind.wrap .i64 (2 * y7)) + 1)))] (by kernel_rfl) ?_))
   rcases bif_some hm with ⟨h25, hm⟩ | ⟨h25, hm⟩
   ·
    refine knownd [23, 22] h25 (by kernel_rfl) (shd 5 [(28, aI (IntKind.wrap .i64 (a3 + (IntKind.wrap .i64 ((IntKind.wrap .i64 (2 * y7)) + 1))))), (27, aI (IntKind.wrap .i64 ((IntKind.wrap .i64 (2 * y7)) + 1))), (26, aI a3), (25, aR 0 1 m0), (24, .pv (.fn 12 [] []))] (by kernel_rfl) ?_)
    obtain ⟨x26, h27, hm⟩ := bs hm
    refine dvd 29 (v := .eptr 0 0 m0 1 (0 + Int.toNat (IntKind.wrap .i64 (a3 + (IntKind.wrap .i64 ((IntKind.wrap .i64 (2 * y7)) + 1))))) 0) (ia_refO y6 .i64 (n := m0) (id := 0) (esz := 1) t25 t22 h27 (by omega) rfl (by kernel_rfl)) (by kernel_rfl) (dvd 30 (v := .pv (encSl R_api_Value x26)) (ld_eptrO (rSl R_api_Value) y6 (n := m0) (esz := 1) (j := (IntKind.wrap .i64 (a3 + (IntKind.wrap .i64 ((IntKind.wrap .i64 (2 * y7)) + 1))))) (off := 0) (id := 0) t22 rfl h27 (by omega) (by omega) (by kernel_rfl) (by kernel_rfl)) (by kernel_rfl) (shd 5 [(35, aI (IntKind.wrap .i64 ((IntKind.wrap .i64 (a3 + (IntKind.wrap .i64 ((IntKind.wrap .i64 (2 * y7)) + 1)))) + 1))), (34, aI (IntKind.wrap .i64 (a3 + (IntKind.wrap .i64 ((IntKind.wrap .i64 (2 * y7)) + 1))))), (33, aI (IntKind.wrap .i64 ((IntKind.wrap .i64 (2 * y7)) + 1))), (32, aI a3), (31, aR 0 1 m0)] (by kernel_rfl) ?_))
    obtain ⟨x28, h29, hm⟩ := bs hm
    refine dvd 36 (v := .eptr 0 0 m0 1 (0 + Int.toNat (IntKind.wrap .i64 ((IntKind.wrap .i64 (a3 + (IntKind.wrap .i64 ((IntKind.wrap .i64 (2 * y7)) + 1)))) + 1))) 0) (ia_refO y6 .i64 (n := m0) (id := 0) (esz := 1) t25 t22 h29 (by omega) rfl (by kernel_rfl)) (by kernel_rfl) (dvd 37 (v := .pv (encSl R_api_Value x28)) (ld_eptrO (rSl R_api_Value) y6 (n := m0) (esz := 1) (j := (IntKind.wrap .i64 ((IntKind.wrap .i64 (a3 + (IntKind.wrap .i64 ((IntKind.wrap .i64 (2 * y7)) + 1)))) + 1))) (off := 0) (id := 0) t22 rfl h29 (by omega) (by omega) (by kernel_rfl) (by kernel_rfl)) (by kernel_rfl) ?_)
    obtain ⟨x30, h31, hm⟩ := bs hm
    refine dvd 38 (cpure (by kernel_rfl) (ok_row_Cmp h31) (by kernel_rfl) (by kernel_rfl) (by kernel_rfl)) (by kernel_rfl) (shd 2 [(40, aB (decide (x30 < 0))), (39, aB (decide (x30 < 0)))] (by kernel_rfl) (find [(0, aR 0 1 m0), (2, aI a2), (3, aI a3), (4, .pv (.fn 12 [] [])), (10, aI y7), (11, aI (IntKind.wrap .i64 ((IntKind.wrap .i64 (2 * y7)) + 1))), (40, aB (decide (x30 < 0)))] rfl (by kernel_rfl) (by kernel_rfl) ?_))
    rcases bif_some hm with ⟨h32, hm⟩ | ⟨h32, hm⟩
    ·
     refine ct h32 (by kernel_rfl) (detn [(0, aR 0 1 m0), (2, aI a2), (3, aI a3), (4, .pv (.fn 12 [] [])), (10, aI y7), (11, aI (IntKind.wrap .i64 ((IntKind.wrap .i64 ((IntKind.wrap .i64 (2 * y7)) + 1)) + 1)))] (by kernel_rfl) ?_)
     exact ⟨(IntKind.wrap .i64 ((IntKind.wrap .i64 ((IntKind.wrap .i64 (2 * y7)) + 1)) + 1)), .any, hm, (mk_same (by kernel_rfl)), rfl⟩
    ·
     refine cf h32 (by kernel_rfl) (wp_skip ?_)
     exact ⟨(IntKind.wrap .i64 ((IntKind.wrap .i64 (2 * y7)) + 1)), aB (decide (x30 < 0)), hm, (mk_same (by kernel_rfl)), rfl⟩
   ·
    refine knownd [23, 22] h25 (by kernel_rfl) (shd 17 [(40, aB false), (39, .undef), (38, .undef), (37, .undef), (36, .undef), (35, .undef), (34, .undef), (33, .undef), (32, .undef), (31, .undef), (30, .undef), (29, .undef), (28, .undef), (27, .undef), (26, .undef), (25, .undef), (24, .undef)] (by kernel_rfl) (find [(0, aR 0 1 m0), (2, aI a2), (3, aI a3), (4, .pv (.fn 12 [] [])), (10, aI y7), (11, aI (IntKind.wrap .i64 ((IntKind.wrap .i64 (2 * y7)) + 1))), (40, aB false)] rfl (by kernel_rfl) (by kernel_rfl) (cF (by kernel_rfl) (wp_skip ?_))))
    exact ⟨(IntKind.wrap .i64 ((IntKind.wrap .i64 (2 * y7)) + 1)), aB false, hm, (mk_same (by kernel_rfl)), rfl⟩
theorem ok_slices_heapSortCmpFunc_Value_row_Cmp_r (m0 : Nat) (f0 : Nat) {n : Nat} {a0 : (List (Option (List api_Value)))} {a1 : Int} {a2 : Int} {r : (List (Option (List api_Value)))} (hm0 : a0.length = m0) (hf0 : f0 ≤ a0.length) (hm : slices_heapSortCmpFunc_Value_row_Cmp_r n a0 a1 a2 = some r) :
    ∃ vv H1, call G n 94 [aR 0 1 m0, aI a1, aI a2, .pv (.fn 12 [] [])] [bR 22 1 (rSl R_api_Value) a0 f0 0] = some (.ret vv, H1) ∧ (match r with | r0 => (∃ (e1 : Nat), r0.length = m0 ∧ e1 ≤ r0.length ∧ vv = .tup [] ∧ H1 = [bR 22 1 (rSl R_api_Value) r0 e1 0])) := by
  unfold slices_heapSortCmpFunc_Value_row_Cmp_r at hm
  obtain ⟨n, rfl, h0⟩ := at1_some hm
  replace hm := h0; clear h0
  refine callE 60 [(0, aR 0 1 m0), (1, aI a1), (2, aI a2), (3, .pv (.fn 12 [] []))] func94 rfl (by kernel_rfl) (sq (detn [(0, aR 0 1 m0), (1, aI a1), (2, aI a2), (3, .pv (.fn 12 [] [])), (8, aI a1)] (by kernel_rfl) (sq (detn [(0, aR 0 1 m0), (1, aI a1), (2, aI a2), (3, .pv (.fn 12 [] [])), (8, aI a1), (9, aI 0)] (by kernel_rfl) (sq (detn [(0, aR 0 1 m0), (3, .pv (.fn 12 [] [])), (8, aI a1), (9, aI 0), (10, aI (IntKind.wrap .i64 (a2 - a1)))] (by kernel_rfl) ?_))))))
  obtain ⟨k7, hk7, hm⟩ := withK_some hm
  refine mid (fun t H => (∃ (y1 : (List (Option (List api_Value)))) (y2 : Int) (y3 : Bool) (g5 : Nat), k7 y1 = some r ∧ t = mk 60 [(0, aR 0 1 m0), (3, .pv (.fn 12 [] [])), (8, aI a1), (9, aI 0), (10, aI (IntKind.wrap .i64 (a2 - a1))), (11, aI y2), (21, aB y3)] ∧ H = [bR 22 1 (rSl R_api_Value) y1 g5 0] ∧ y1.length = m0 ∧ g5 ≤ y1.length)) ?_ ?_
  ·
   rintro _ _ ⟨y1, y2, y3, g5, hm, rfl, rfl, q4, q6⟩
   subst hk7
   refine sq (detn [(0, aR 0 1 m0), (3, .pv (.fn 12 [] [])), (8, aI a1), (9, aI 0), (12, aI (IntKind.wrap .i64 ((IntKind.wrap .i64 (a2 - a1)) - 1)))] (by kernel_rfl) (bq ?_))
   refine loopF (fun mm t H => (∃ (y13 : (List (Option (List api_Value)))) (y14 : Int) (g16 : Nat), slices_heapSortCmpFunc_Value_row_Cmp_r_l8 n a1 mm y13 y14 = some r ∧ t = mk 60 [(0, aR 0 1 m0), (3, .pv (.fn 12 [] [])), (8, aI a1), (9, aI 0), (12, aI y14)] ∧ H = [bR 22 1 (rSl R_api_Value) y13 g16 0] ∧ y13.length = m0 ∧ g16 ≤ y13.length)) (⟨y1, (IntKind.wrap .i64 ((IntKind.wrap .i64 (a2 - a1)) - 1)), g5, hm, rfl, rfl, (by first | rfl | assumption | omega | (simp only [List.length_set, List.length_append, List.length_cons, List.length_nil, List.length_replicate, List.length_drop] at * <;> omega)), (by first | exact Nat.zero_le _ | exact Nat.le_refl _ | assumption | omega | (simp only [List.length_set, List.length_append, List.length_cons, List.length_nil, List.length_replicate, List.length_drop] at * <;> omega))⟩) ?_ ?_
   · rintro _ _ ⟨y13, y14, g16, hm, _⟩; exact nomatch hm
   rintro m18 _ _ ⟨y13, y14, g16, hm, rfl, rfl, q15, q17⟩
   simp only [slices_heapSortCmpFunc_Value_row_Cmp_r_l8] at hm
   refine sq (sq (detn [(0, aR 0 1 m0), (3, .pv (.fn 12 [] [])), (8, aI a1), (9, aI 0), (12, aI y14), (33, aB (decide (y14 ≥ 0)))] (by kernel_rfl) ?_))
   rcases bif_some hm with ⟨h19, hm⟩ | ⟨h19, hm⟩
   ·
    refine ct h19 (by kernel_rfl) (wp_skip (sq (bq (sq (rgd (shd 10 [(45, aI (IntKind.wrap .i64 (a1 + y14))), (44, aI y14), (43, aI a1), (42, aR 0 1 m0), (41, aI (IntKind.wrap .i64 (a1 + y14))), (40, aI y14), (39, aI a1), (38, aR 0 1 m0), (37, aI a1), (36, aR 0 1 m0)] (by kernel_rfl) ?_))))))
    obtain ⟨x20, h21, hm⟩ := bs hm
    refine dvd 46 (v := .eptr 0 0 m0 1 (0 + Int.toNat (IntKind.wrap .i64 (a1 + y14))) 0) (ia_refO y13 .i64 (n := m0) (id := 0) (esz := 1) t25 t22 h21 (by omega) rfl (by kernel_rfl)) (by kernel_rfl) (dvd 47 (v := .pv (encSl R_api_Value x20)) (ld_eptrO (rSl R_api_Value) y13 (n := m0) (esz := 1) (j := (IntKind.wrap .i64 (a1 + y14))) (off := 0) (id := 0) t22 rfl h21 (by omega) (by omega) (by kernel_rfl) (by kernel_rfl)) (by kernel_rfl) (shd 2 [(49, aI a1), (48, aR 0 1 m0)] (by kernel_rfl) ?_))
    obtain ⟨x22, h23, hm⟩ := bs hm
    refine dvd 50 (v := .eptr 0 0 m0 1 (0 + Int.toNat a1) 0) (ia_refO y13 .i64 (n := m0) (id := 0) (esz := 1) t25 t22 h23 (by omega) rfl (by kernel_rfl)) (by kernel_rfl) (dvd 51 (v := .pv (encSl R_api_Value x22)) (ld_eptrO (rSl R_api_Value) y13 (n := m0) (esz := 1) (j := a1) (off := 0) (id := 0) t22 rfl h23 (by omega) (by omega) (by kernel_rfl) (by kernel_rfl)) (by kernel_rfl) (dvd 52 (v := .eptr 0 0 m0 1 (0 + Int.toNat a1) 0) (ia_refO y13 .i64 (n := m0) (id := 0) (esz := 1) t25 t22 h23 (by omega) rfl (by kernel_rfl)) (by kernel_rfl) (dOd [] [bR 22 1 (rSl R_api_Value) (y13.set (Int.toNat a1) x20) m0 0] (st_eptrO (rSl R_api_Value) y13 x20 (n := m0) (esz := 1) (v := .pv (encSl R_api_Value x20)) (j := a1) (off := 0) (id := 0) t22 rfl h23 (by omega) (by omega) rfl rfl rfl rfl (by kernel_rfl)) (by kernel_rfl) ?_)))
    obtain ⟨x24, h25, hm⟩ := bs hm
    refine dvd 53 (v := .eptr 0 0 m0 1 (0 + Int.toNat (IntKind.wrap .i64 (a1 + y14))) 0) (ia_refO (y13.set (Int.toNat a1) x20) .i64 (n := m0) (id := 0) (esz := 1) t25 t22 h25 (by first | rfl | assumption | omega | (simp only [List.length_set, List.length_append, List.length_cons, List.length_nil, List.length_replicate, List.length_drop] at * <;> omega)) rfl (by kernel_rfl)) (by kernel_rfl) (dOd [] [bR 22 1 (rSl R_api_Value) ((y13.set (Int.toNat a1) x20).set (Int.toNat (IntKind.wrap .i64 (a1 + y14))) x22) m0 0] (st_eptrO (rSl R_api_Value) (y13.set (Int.toNat a1) x20) x22 (n := m0) (esz := 1) (v := .pv (encSl R_api_Value x22)) (j := (IntKind.wrap .i64 (a1 + y14))) (off := 0) (id := 0) t22 rfl h25 (by first | rfl | assumption | omega | (simp only [List.length_set, List.length_append, List.length_cons, List.length_nil, List.length_replicate, List.length_drop] at * <;> omega)) (by first | exact Nat.zero_le _ | exact Nat.le_refl _ | assumption | omega | (simp only [List.length_set, List.length_append, List.length_cons, List.length_nil, List.length_replicate, List.length_drop] at * <;> omega)) rfl rfl rfl rfl (by kernel_rfl)) (by kernel_rfl) (find [(0, aR 0 1 m0), (3, .pv (.fn 12 [] [])), (8, aI a1), (9, aI 0), (12, aI y14)] rfl (by kernel_rfl) (by kernel_rfl) (rg (sh 5 [(58, .pv (.fn 12 [] [])), (57, aI a1), (56, aI y14), (55, aI 0), (54, aR 0 1 m0)] (by kernel_rfl) ?_))))
    obtain ⟨x27, h26, hm⟩ := bs hm
    obtain ⟨vv, H1, hC, g28, q29, q30, rfl, rfl⟩ := ok_slices_siftDownCmpFunc_Value_row_Cmp_r m0 m0 (by first | rfl | assumption | omega | (simp only [List.length_set, List.length_append, List.length_cons, List.length_nil, List.length_replicate, List.length_drop] at * <;> omega)) (by first | exact Nat.zero_le _ | exact Nat.le_refl _ | assumption | omega | (simp only [List.length_set, List.length_append, List.length_cons, List.length_nil, List.length_replicate, List.length_drop] at * <;> omega)) h26
    refine dR [(59, .tup [])] [bR 22 1 (rSl R_api_Value) x27 g28 0] [0] [aR 0 1 m0, aI 0, aI y14, aI a1, .pv (.fn 12 [] [])] (by kernel_rfl) (by kernel_rfl) (by kernel_rfl) hC (by kernel_rfl) (fin [(0, aR 0 1 m0), (3, .pv (.fn 12 [] [])), (8, aI a1), (9, aI 0), (12, aI y14)] rfl (by kernel_rfl) (detn [(0, aR 0 1 m0), (3, .pv (.fn 12 [] [])), (8, aI a1), (9, aI 0), (12, aI (IntKind.wrap .i64 (y14 - 1)))] (by kernel_rfl) ?_))
    exact ⟨_, _, tidyL [(0, aR 0 1 m0), (3, .pv (.fn 12 [] [])), (8, aI a1), (9, aI 0), (12, aI (IntKind.wrap .i64 (y14 - 1)))] [bR 22 1 (rSl R_api_Value) x27 g28 0] (by kernel_rfl), ⟨x27, (IntKind.wrap .i64 (y14 - 1)), g28, hm, rfl, rfl, (by first | rfl | assumption | omega | (simp only [List.length_set, List.length_append, List.length_cons, List.length_nil, List.length_replicate, List.length_drop] at * <;> omega)), (by first | exact Nat.zero_le _ | exact Nat.le_refl _ | assumption | omega | (simp only [List.length_set, List.length_append, List.length_cons, List.length_nil, List.length_replicate, List.length_drop] at * <;> omega))⟩⟩
   ·
    refine cf h19 (by kernel_rfl) (wp_exit ?_)
    obtain rfl := Option.some.inj hm
    exact ⟨trivial, .tup [], [bR 22 1 (rSl R_api_Value) y13 g16 0], by kernel_rfl, g16, (by first | rfl | assumption | omega | (simp only [List.length_set, List.length_append, List.length_cons, List.length_nil, List.length_replicate, List.length_drop] at * <;> omega)), (by first | exact Nat.zero_le _ | exact Nat.le_refl _ | assumption | omega | (simp only [List.length_set, List.length_append, List.length_cons, List.length_nil, List.length_replicate, List.length_drop] at * <;> omega)), rfl, rfl⟩
  refine sq (detn [(0, aR 0 1 m0), (3, .pv (.fn 12 [] [])), (8, aI a1), (9, aI 0), (10, aI (IntKind.wrap .i64 (a2 - a1))), (11, aI (IntKind.wrap .i64 (Int.tdiv (IntKind.wrap .i64 ((IntKind.wrap .i64 (a2 - a1)) - 1)) 2)))] (by kernel_rfl) (bq ?_))
  refine loopF (fun mm t H => (∃ (y36 : (List (Option (List api_Value)))) (y37 : Int) (g39 : Nat), slices_heapSortCmpFunc_Value_row_Cmp_r_l4 n a1 a2 k7 mm y36 y37 = some r ∧ t = mk 60 [(0, aR 0 1 m0), (3, .pv (.fn 12 [] [])), (8, aI a1), (9, aI 0), (10, aI (IntKind.wrap .i64 (a2 - a1))), (11, aI y37)] ∧ H = [bR 22 1 (rSl R_api_Value) y36 g39 0] ∧ y36.length = m0 ∧ g39 ≤ y36.length)) (⟨a0, (IntKind.wrap .i64 (Int.tdiv (IntKind.wrap .i64 ((IntKind.wrap .i64 (a2 - a1)) - 1)) 2)), f0, hm, rfl, rfl, (by first | rfl | assumption | omega | (simp only [List.length_set, List.length_append, List.length_cons, List.length_nil, List.length_replicate, List.length_drop] at * <;> omega)), (by first | exact Nat.zero_le _ | exact Nat.le_refl _ | assumption | omega | (simp only [List.length_set, List.length_append, List.length_cons, List.length_nil, List.length_replicate, List.length_drop] at * <;> omega))⟩) ?_ ?_
  · rintro _ _ ⟨y36, y37, g39, hm, _⟩; exact nomatch hm
  rintro m41 _ _ ⟨y36, y37, g39, hm, rfl, rfl, q38, q40⟩
  simp only [slices_heapSortCmpFunc_Value_row_Cmp_r_l4] at hm
  refine sq (sq (detn [(0, aR 0 1 m0), (3, .pv (.fn 12 [] [])), (8, aI a1), (9, aI 0), (10, aI (IntKind.wrap .i64 (a2 - a1))), (11, aI y37), (21, aB (decide (y37 ≥ 0)))] (by kernel_rfl) ?_))
  rcases bif_some hm with ⟨h42, hm⟩ | ⟨h42, hm⟩
  ·
   refine ct h42 (by kernel_rfl) (wp_skip (sq (bq (rg (sh 5 [(28, .pv (.fn 12 [] [])), (27, aI a1), (26, aI (IntKind.wrap .i64 (a2 - a1))), (25, aI y37), (24, aR 0 1 m0)] (by kernel_rfl) ?_)))))
   obtain ⟨x44, h43, hm⟩ := bs hm
   obtain ⟨vv, H1, hC, g45, q46, q47, rfl, rfl⟩ := ok_slices_siftDownCmpFunc_Value_row_Cmp_r m0 g39 (by first | rfl | assumption | omega | (simp only [List.length_set, List.length_append, List.length_cons, List.length_nil, List.length_replicate, List.length_drop] at * <;> omega)) (by first | exact Nat.zero_le _ | exact Nat.le_refl _ | assumption | omega | (simp only [List.length_set, List.length_append, List.length_cons, List.length_nil, List.length_replicate, List.length_drop] at * <;> omega)) h43
   refine dR [(29, .tup [])] [bR 22 1 (rSl R_api_Value) x44 g45 0] [0] [aR 0 1 m0, aI y37, aI (IntKind.wrap .i64 (a2 - a1)), aI a1, .pv (.fn 12 [] [])] (by kernel_rfl) (by kernel_rfl) (by kernel_rfl) hC (by kernel_rfl) (fin [(0, aR 0 1 m0), (3, .pv (.fn 12 [] [])), (8, aI a1), (9, aI 0), (10, aI (IntKind.wrap .i64 (a2 - a1))), (11, aI y37)] rfl (by kernel_rfl) (detn [(0, aR 0 1 m0), (3, .pv (.fn 12 [] [])), (8, aI a1), (9, aI 0), (10, aI (IntKind.wrap .i64 (a2 - a1))), (11, aI (IntKind.wrap .i64 (y37 - 1)))] (by kernel_rfl) ?_))
   exact ⟨_, _, tidyL [(0, aR 0 1 m0), (3, .pv (.fn 12 [] [])), (8, aI a1), (9, aI 0), (10, aI (IntKind.wrap .i64 (a2 - a1))), (11, aI (IntKind.wrap .i64 (y37 - 1)))] [bR 22 1 (rSl R_api_Value) x44 g45 0] (by kernel_rfl), ⟨x44, (IntKind.wrap .i64 (y37 - 1)), g45, hm, rfl, rfl, (by first | rfl | assumption | omega | (simp only [List.length_set, List.length_append, List.length_cons, List.length_nil, List.length_replicate, List.length_drop] at * <;> omega)), (by first | exact Nat.zero_le _ | exact Nat.le_refl _ | assumption | omega | (simp only [List.length_set, List.length_append, List.length_cons, List.length_nil, List.length_replicate, List.length_drop] at * <;> omega))⟩⟩
  ·
   refine cf h42 (by kernel_rfl) (wp_exit ?_)
   exact ⟨y36, y37, (decide (y37 ≥ 0)), g39, hm, rfl, rfl, (by first | rfl | assumption | omega | (simp only [List.length_set, List.length_append, List.length_cons, List.length_nil, List.length_replicate, List.length_drop] at * <;> omega)), (by first | exact Nat.zero_le _ | exact Nat.le_refl _ | assumption | omega | (simp only [List.length_set, List.length_append, List.length_cons, List.length_nil, List.length_replicate, List.length_drop] at * <;> omega))⟩
theorem ok_slices_reverseRangeCmpFunc_Value_row_Cmp_r (m0 : Nat) (f0 : Nat) {n : Nat} {a0 : (List (Option (List api_Value)))} {a1 : Int} {a2 : Int} {r : (List (Option (List api_Value)))} (hm0 : a0.length = m0) (hf0 : f0 ≤ a0.length) (hm : slices_reverseRangeCmpFunc_Value_row_Cmp_r n a0 a1 a2 = some r) :
    ∃ vv H1, call G n 97 [aR 0 1 m0, aI a1, aI a2, .pv (.fn 12 [] [])] [bR 22 1 (rSl R_api_Value) a0 f0 0] = some (.ret vv, H1) ∧ (match r with | r0 => (∃ (e1 : Nat), r0.length = m0 ∧ e1 ≤ r0.length ∧ vv = .tup [] ∧ H1 = [bR 22 1 (rSl R_api_Value) r0 e1 0])) := by
  unfold slices_reverseRangeCmpFunc_Value_row_Cmp_r at hm
  obtain ⟨n, rfl, h0⟩ := at1_some hm
  replace hm := h0; clear h0
  refine callE 34 [(0, aR 0 1 m0), (1, aI a1), (2, aI a2), (3, .pv (.fn 12 [] []))] func97 rfl (by kernel_rfl) (sq (detn [(0, aR 0 1 m0), (2, aI a2), (8, aI a1)] (by kernel_rfl) (sq (detn [(0, aR 0 1 m0), (8, aI a1), (9, aI (IntKind.wrap .i64 (a2 - 1)))] (by kernel_rfl) (bq ?_)))))
  refine loopF (fun mm t H => (∃ (y7 : (List (Option (List api_Value)))) (y8 : Int) (y9 : Int) (g11 : Nat), slices_reverseRangeCmpFunc_Value_row_Cmp_r_l2 n mm y7 y8 y9 = some r ∧ t = mk 34 [(0, aR 0 1 m0), (8, aI y8), (9, aI y9)] ∧ H = [bR 22 1 (rSl R_api_Value) y7 g11 0] ∧ y7.length = m0 ∧ g11 ≤ y7.length)) (⟨a0, a1, (IntKind.wrap .i64 (a2 - 1)), f0, hm, rfl, rfl, (by first | rfl | assumption | omega | (simp only [List.length_set, List.length_append, List.length_cons, List.length_nil, List.length_replicate, List.length_drop] at * <;> omega)), (by first | exact Nat.zero_le _ | exact Nat.le_refl _ | assumption | omega | (simp only [List.length_set, List.length_append, List.length_cons, List.length_nil, List.length_replicate, List.length_drop] at * <;> omega))⟩) ?_ ?_
  · rintro _ _ ⟨y7, y8, y9, g11, hm, _⟩; exact nomatch hm
  rintro m13 _ _ ⟨y7, y8, y9, g11, hm, rfl, rfl, q10, q12⟩
  simp only [slices_reverseRangeCmpFunc_Value_row_Cmp_r_l2] at hm
  refine sq (sq (detn [(0, aR 0 1 m0), (8, aI y8), (9, aI y9), (15, aB (decide (y8 < y9)))] (by kernel_rfl) ?_))
  rcases bif_some hm with ⟨h14, hm⟩ | ⟨h14, hm⟩
  ·
   refine ct h14 (by kernel_rfl) (wp_skip (bq (sq (rgd (shd 6 [(21, aI y9), (20, aR 0 1 m0), (19, aI y9), (18, aR 0 1 m0), (17, aI y8), (16, aR 0 1 m0)] (by kernel_rfl) ?_)))))
   obtain ⟨x15, h16, hm⟩ := bs hm
   refine dvd 22 (v := .eptr 0 0 m0 1 (0 + Int.toNat y9) 0) (ia_refO y7 .i64 (n := m0) (id := 0) (esz := 1) t25 t22 h16 (by omega) rfl (by kernel_rfl)) (by kernel_rfl) (dvd 23 (v := .pv (encSl R_api_Value x15)) (ld_eptrO (rSl R_api_Value) y7 (n := m0) (esz := 1) (j := y9) (off := 0) (id := 0) t22 rfl h16 (by omega) (by omega) (by kernel_rfl) (by kernel_rfl)) (by kernel_rfl) (shd 2 [(25, aI y8), (24, aR 0 1 m0)] (by kernel_rfl) ?_))
   obtain ⟨x17, h18, hm⟩ := bs hm
   refine dvd 26 (v := .eptr 0 0 m0 1 (0 + Int.toNat y8) 0) (ia_refO y7 .i64 (n := m0) (id := 0) (esz := 1) t25 t22 h18 (by omega) rfl (by kernel_rfl)) (by kernel_rfl) (dvd 27 (v := .pv (encSl R_api_Value x17)) (ld_eptrO (rSl R_api_Value) y7 (n := m0) (esz := 1) (j := y8) (off := 0) (id := 0) t22 rfl h18 (by omega) (by omega) (by kernel_rfl) (by kernel_rfl)) (by kernel_rfl) (dvd 28 (v := .eptr 0 0 m0 1 (0 + Int.toNat y8) 0) (ia_refO y7 .i64 (n := m0) (id := 0) (esz := 1) t25 t22 h18 (by omega) rfl (by kernel_rfl)) (by kernel_rfl) (dOd [] [bR 22 1 (rSl R_api_Value) (y7.set (Int.toNat y8) x15) m0 0] (st_eptrO (rSl R_api_Value) y7 x15 (n := m0) (esz := 1) (v := .pv (encSl R_api_Value x15)) (j := y8) (off := 0) (id := 0) t22 rfl h18 (by omega) (by omega) rfl rfl rfl rfl (by kernel_rfl)) (by kernel_rfl) ?_)))
   obtain ⟨x19, h20, hm⟩ := bs hm
   refine dvd 29 (v := .eptr 0 0 m0 1 (0 + Int.toNat y9) 0) (ia_refO (y7.set (Int.toNat y8) x15) .i64 (n := m0) (id := 0) (esz := 1) t25 t22 h20 (by first | rfl | assumption | omega | (simp only [List.length_set, List.length_append, List.length_cons, List.length_nil, List.length_replicate, List.length_drop] at * <;> omega)) rfl (by kernel_rfl)) (by kernel_rfl) (dOd [] [bR 22 1 (rSl R_api_Value) ((y7.set (Int.toNat y8) x15).set (Int.toNat y9) x17) m0 0] (st_eptrO (rSl R_api_Value) (y7.set (Int.toNat y8) x15) x17 (n := m0) (esz := 1) (v := .pv (encSl R_api_Value x17)) (j := y9) (off := 0) (id := 0) t22 rfl h20 (by first | rfl | assumption | omega | (simp only [List.length_set, List.length_append, List.length_cons, List.length_nil, List.length_replicate, List.length_drop] at * <;> omega)) (by first | exact Nat.zero_le _ | exact Nat.le_refl _ | assumption | omega | (simp only [List.length_set, List.length_append, List.length_cons, List.length_nil, List.length_replicate, List.length_drop] at * <;> omega)) rfl rfl rfl rfl (by kernel_rfl)) (by kernel_rfl) (find [(0, aR 0 1 m0), (8, aI y8), (9, aI y9)] rfl (by kernel_rfl) (by kernel_rfl) (sq (detn [(0, aR 0 1 m0), (8, aI (IntKind.wrap .i64 (y8 + 1))), (9, aI y9)] (by kernel_rfl) (detn [(0, aR 0 1 m0), (8, aI (IntKind.wrap .i64 (y8 + 1))), (9, aI (IntKind.wrap .i64 (y9 - 1)))] (by kernel_rfl) ?_)))))
   exact ⟨_, _, tidyL [(0, aR 0 1 m0), (8, aI (IntKind.wrap .i64 (y8 + 1))), (9, aI (IntKind.wrap .i64 (y9 - 1)))] [bR 22 1 (rSl R_api_Value) ((y7.set (Int.toNat y8) x15).set (Int.toNat y9) x17) m0 0] (by kernel_rfl), ⟨((y7.set (Int.toNat y8) x15).set (Int.toNat y9) x17), (IntKind.wrap .i64 (y8 + 1)), (IntKind.wrap .i64 (y9 - 1)), m0, hm, rfl, rfl, (by first | rfl | assumption | omega | (simp only [List.length_set, List.length_append, List.length_cons, List.length_nil, List.length_replicate, List.length_drop] at * <;> omega)), (by first | exact Nat.zero_le _ | exact Nat.le_refl _ | assumption | omega | (simp only [List.length_set, List.length_append, List.length_cons, List.length_nil, List.length_replicate, List.length_drop] at * <;> omega))⟩⟩
  ·
   refine cf h14 (by kernel_rfl) (wp_exit ?_)
   obtain rfl := Option.some.inj hm
   exact ⟨trivial, .tup [], [bR 22 1 (rSl R_api_Value) y7 g11 0], by kernel_rfl, g11, (by first | rfl | assumption | omega | (simp only [List.length_set, List.length_append, List.length_cons, List.length_nil, List.length_replicate, List.length_drop] at * <;> omega)), (by first | exact Nat.zero_le _ | exact Nat.le_refl _ | assumption | omega | (simp only [List.length_set, List.length_append, List.length_cons, List.length_nil, List.length_replicate, List.length_drop] at * <;> omega)), rfl, rfl⟩
theorem ok_slices_partialInsertionSortCmpFunc_Value_row_Cmp_r (m0 : Nat) (f0 : Nat) {n : Nat} {a0 : (List (Option (List api_Value)))} {a1 : Int} {a2 : Int} {r : (List (Option (List api_Value))) × Bool} (hm0 : a0.length = m0) (hf0 : f0 ≤ a0.length) (hm : slices_partialInsertionSortCmpFunc_Value_row_Cmp_r n a0 a1 a2 = some r) :
    ∃ vv H1, call G n 98 [aR 0 1 m0, aI a1, aI a2, .pv (.fn 12 [] [])] [bR 22 1 (rSl R_api_Value) a0 f0 0] = some (.ret vv, H1) ∧ (match r with | (r0, r1) => (∃ (e2 : Nat), r0.length = m0 ∧ e2 ≤ r0.length ∧ vv = aB r1 ∧ H1 = [bR 22 1 (rSl R_api_Value) r0 e2 0])) := by
  unfold slices_partialInsertionSortCmpFunc_Value_row_Cmp_r at hm
  obtain ⟨n, rfl, h0⟩ := at1_some hm
  replace hm := h0; clear h0
  refine callE 141 [(0, aR 0 1 m0), (1, aI a1), (2, aI a2), (3, .pv (.fn 12 [] []))] func98 rfl (by kernel_rfl) (sq (detn [(0, aR 0 1 m0), (1, aI a1), (2, aI a2), (3, .pv (.fn 12 [] []))] (by kernel_rfl) (sq (detn [(0, aR 0 1 m0), (1, aI a1), (2, aI a2), (3, .pv (.fn 12 [] [])), (9, aI (IntKind.wrap .i64 (a1 + 1)))] (by kernel_rfl) ?_))))
  obtain ⟨k8, hk8, hm⟩ := withK_some hm
  refine mid (fun t H => (∃ (y1 : (List (Option (List api_Value)))) (y2 : Int) (y3 : Bool) (y4 : Int) (g6 : Nat), k8 y1 = some r ∧ t = mk 141 [(0, aR 0 1 m0), (1, aI a1), (2, aI a2), (3, .pv (.fn 12 [] [])), (9, aI y4), (10, aI y2), (16, aB y3)] ∧ H = [bR 22 1 (rSl R_api_Value) y1 g6 0] ∧ y1.length = m0 ∧ g6 ≤ y1.length)) ?_ ?_
  ·
   rintro _ _ ⟨y1, y2, y3, y4, g6, hm, rfl, rfl, q5, q7⟩
   subst hk8
   refine sq (detn [(8, aB false)] (by kernel_rfl) (wp_ret ?_))
   obtain rfl := Option.some.inj hm
   exact ⟨trivial, aB false, [bR 22 1 (rSl R_api_Value) y1 g6 0], by kernel_rfl, g6, (by first | rfl | assumption | omega | (simp only [List.length_set, List.length_append, List.length_cons, List.length_nil, List.length_replicate, List.length_drop] at * <;> omega)), (by first | exact Nat.zero_le _ | exact Nat.le_refl _ | assumption | omega | (simp only [List.length_set, List.length_append, List.length_cons, List.length_nil, List.length_replicate, List.length_drop] at * <;> omega)), rfl, rfl⟩
  refine sq (detn [(0, aR 0 1 m0), (1, aI a1), (2, aI a2), (3, .pv (.fn 12 [] [])), (9, aI (IntKind.wrap .i64 (a1 + 1))), (10, aI 0)] (by kernel_rfl) (bq ?_))
  refine loopF (fun mm t H => (∃ (y15 : (List (Option (List api_Value)))) (y16 : Int) (y17 : Int) (g19 : Nat), slices_partialInsertionSortCmpFunc_Value_row_Cmp_r_l3 n a1 a2 k8 mm y15 y16 y17 = some r ∧ t = mk 141 [(0, aR 0 1 m0), (1, aI a1), (2, aI a2), (3, .pv (.fn 12 [] [])), (9, aI y17), (10, aI y16)] ∧ H = [bR 22 1 (rSl R_api_Value) y15 g19 0] ∧ y15.length = m0 ∧ g19 ≤ y15.length)) (⟨a0, 0, (IntKind.wrap .i64 (a1 + 1)), f0, hm, rfl, rfl, (by first | rfl | assumption | omega | (simp only [List.length_set, List.length_append, List.length_cons, List.length_nil, List.length_replicate, List.length_drop] at * <;> omega)), (by first | exact Nat.zero_le _ | exact Nat.le_refl _ | assumption | omega | (simp only [List.length_set, List.length_append, List.length_cons, List.length_nil, List.length_replicate, List.length_drop] at * <;> omega))⟩) ?_ ?_
  · rintro _ _ ⟨y15, y16, y17, g19, hm, _⟩; exact nomatch hm
  rintro m21 _ _ ⟨y15, y16, y17, g19, hm, rfl, rfl, q18, q20⟩
  simp only [slices_partialInsertionSortCmpFunc_Value_row_Cmp_r_l3] at hm
  refine sq (sq (detn [(0, aR 0 1 m0), (1, aI a1), (2, aI a2), (3, .pv (.fn 12 [] [])), (9, aI y17), (10, aI y16), (16, aB (decide (y16 < 5)))] (by kernel_rfl) ?_))
  rcases bif_some hm with ⟨h22, hm⟩ | ⟨h22, hm⟩
  ·
   refine ct h22 (by kernel_rfl) (wp_skip ?_)
   obtain ⟨k32, hk32, hm⟩ := withK_some hm
   refine mid (fun t H => (∃ (y27 : (List (Option (List api_Value)))) (y28 : Int) (w23 : AV) (w24 : AV) (w25 : AV) (w26 : AV) (g30 : Nat), k32 y27 y28 = some r ∧ t = mk 141 [(0, aR 0 1 m0), (1, aI a1), (2, aI a2), (3, .pv (.fn 12 [] [])), (9, aI y28), (10, aI y16), (12, w23), (104, w24), (109, w25), (124, w26)] ∧ H = [bR 22 1 (rSl R_api_Value) y27 g30 0] ∧ y27.length = m0 ∧ g30 ≤ y27.length)) ?_ ?_
   ·
    rintro _ _ ⟨y27, y28, w23, w24, w25, w26, g30, hm, rfl, rfl, q29, q31⟩
    subst hk32
    refine detn [(0, aR 0 1 m0), (1, aI a1), (2, aI a2), (3, .pv (.fn 12 [] [])), (9, aI y28), (10, aI (IntKind.wrap .i64 (y16 + 1)))] (by kernel_rfl) ?_
    exact ⟨_, _, tidyL [(0, aR 0 1 m0), (1, aI a1), (2, aI a2), (3, .pv (.fn 12 [] [])), (9, aI y28), (10, aI (IntKind.wrap .i64 (y16 + 1)))] [bR 22 1 (rSl R_api_Value) y27 g30 0] (by kernel_rfl), ⟨y27, (IntKind.wrap .i64 (y16 + 1)), y28, g30, hm, rfl, rfl, (by first | rfl | assumption | omega | (simp only [List.length_set, List.length_append, List.length_cons, List.length_nil, List.length_replicate, List.length_drop] at * <;> omega)), (by first | exact Nat.zero_le _ | exact Nat.le_refl _ | assumption | omega | (simp only [List.length_set, List.length_append, List.length_cons, List.length_nil, List.length_replicate, List.length_drop] at * <;> omega))⟩⟩
   refine bq ?_
   obtain ⟨k35, hk35, hm⟩ := withK_some hm
   refine mid (fun t H => (∃ (y33 : Bool) (y34 : Int), k35 y34 = some r ∧ t = mk 141 [(0, aR 0 1 m0), (1, aI a1), (2, aI a2), (3, .pv (.fn 12 [] [])), (9, aI y34), (10, aI y16), (16, aB (decide (y16 < 5))), (36, aB y33)] ∧ H = [bR 22 1 (rSl R_api_Value) y15 g19 0])) ?_ ?_
   ·
    rintro _ _ ⟨y33, y34, hm, rfl, rfl⟩
    subst hk35
    refine sq (sq (detn [(0, aR 0 1 m0), (1, aI a1), (2, aI a2), (3, .pv (.fn 12 [] [])), (9, aI y34), (10, aI y16), (41, aB (y34 == a2))] (by kernel_rfl) ?_))
    rcases bif_some hm with ⟨h36, hm⟩ | ⟨h36, hm⟩
    ·
     refine ct h36 (by kernel_rfl) (sq (detn [(8, aB true)] (by kernel_rfl) (wp_ret ?_)))
     obtain rfl := Option.some.inj hm
     exact ⟨trivial, aB true, [bR 22 1 (rSl R_api_Value) y15 g19 0], by kernel_rfl, g19, (by first | rfl | assumption | omega | (simp only [List.length_set, List.length_append, List.length_cons, List.length_nil, List.length_replicate, List.length_drop] at * <;> omega)), (by first | exact Nat.zero_le _ | exact Nat.le_refl _ | assumption | omega | (simp only [List.length_set, List.length_append, List.length_cons, List.length_nil, List.length_replicate, List.length_drop] at * <;> omega)), rfl, rfl⟩
    ·
     refine cf h36 (by kernel_rfl) (wp_skip ?_)
     refine sq (sq (detn [(0, aR 0 1 m0), (1, aI a1), (2, aI a2), (3, .pv (.fn 12 [] [])), (9, aI y34), (10, aI y16), (45, aB (decide ((IntKind.wrap .i64 (a2 - a1)) < 50)))] (by kernel_rfl) ?_))
     rcases bif_some hm with ⟨h37, hm⟩ | ⟨h37, hm⟩
     ·
      refine ct h37 (by kernel_rfl) (sq (detn [(8, aB false)] (by kernel_rfl) (wp_ret ?_)))
      obtain rfl := Option.some.inj hm
      exact ⟨trivial, aB false, [bR 22 1 (rSl R_api_Value) y15 g19 0], by kernel_rfl, g19, (by first | rfl | assumption | omega | (simp only [List.length_set, List.length_append, List.length_cons, List.length_nil, List.length_replicate, List.length_drop] at * <;> omega)), (by first | exact Nat.zero_le _ | exact Nat.le_refl _ | assumption | omega | (simp only [List.length_set, List.length_append, List.length_cons, List.length_nil, List.length_replicate, List.length_drop] at * <;> omega)), rfl, rfl⟩
     ·
      refine cf h37 (by kernel_rfl) (wp_skip (sq (rgd (shd 8 [(53, aI (IntKind.wrap .i64 (y34 - 1))), (52, aI y34), (51, aR 0 1 m0), (50, aI (IntKind.wrap .i64 (y34 - 1))), (49, aI y34), (48, aR 0 1 m0), (47, aI y34), (46, aR 0 1 m0)] (by kernel_rfl) ?_))))
      obtain ⟨x38, h39, hm⟩ := bs hm
      refine dvd 54 (v := .eptr 0 0 m0 1 (0 + Int.toNat (IntKind.wrap .i64 (y34 - 1))) 0) (ia_refO y15 .i64 (n := m0) (id := 0) (esz := 1) t25 t22 h39 (by omega) rfl (by kernel_rfl)) (by kernel_rfl) (dvd 55 (v := .pv (encSl R_api_Value x38)) (ld_eptrO (rSl R_api_Value) y15 (n := m0) (esz := 1) (j := (IntKind.wrap .i64 (y34 - 1))) (off := 0) (id := 0) t22 rfl h39 (by omega) (by omega) (by kernel_rfl) (by kernel_rfl)) (by kernel_rfl) (shd 2 [(57, aI y34), (56, aR 0 1 m0)] (by kernel_rfl) ?_))
      obtain ⟨x40, h41, hm⟩ := bs hm
      refine dvd 58 (v := .eptr 0 0 m0 1 (0 + Int.toNat y34) 0) (ia_refO y15 .i64 (n := m0) (id := 0) (esz := 1) t25 t22 h41 (by omega) rfl (by kernel_rfl)) (by kernel_rfl) (dvd 59 (v := .pv (encSl R_api_Value x40)) (ld_eptrO (rSl R_api_Value) y15 (n := m0) (esz := 1) (j := y34) (off := 0) (id := 0) t22 rfl h41 (by omega) (by omega) (by kernel_rfl) (by kernel_rfl)) (by kernel_rfl) (dvd 60 (v := .eptr 0 0 m0 1 (0 + Int.toNat y34) 0) (ia_refO y15 .i64 (n := m0) (id := 0) (esz := 1) t25 t22 h41 (by omega) rfl (by kernel_rfl)) (by kernel_rfl) (dOd [] [bR 22 1 (rSl R_api_Value) (y15.set (Int.toNat y34) x38) m0 0] (st_eptrO (rSl R_api_Value) y15 x38 (n := m0) (esz := 1) (v := .pv (encSl R_api_Value x38)) (j := y34) (off := 0) (id := 0) t22 rfl h41 (by omega) (by omega) rfl rfl rfl rfl (by kernel_rfl)) (by kernel_rfl) ?_)))
      obtain ⟨x42, h43, hm⟩ := bs hm
      refine dvd 61 (v := .eptr 0 0 m0 1 (0 + Int.toNat (IntKind.wrap .i64 (y34 - 1))) 0) (ia_refO (y15.set (Int.toNat y34) x38) .i64 (n := m0) (id := 0) (esz := 1) t25 t22 h43 (by first | rfl | assumption | omega | (simp only [List.length_set, List.length_append, List.length_cons, List.length_nil, List.length_replicate, List.length_drop] at * <;> omega)) rfl (by kernel_rfl)) (by kernel_rfl) (dOd [] [bR 22 1 (rSl R_api_Value) ((y15.set (Int.toNat y34) x38).set (Int.toNat (IntKind.wrap .i64 (y34 - 1))) x40) m0 0] (st_eptrO (rSl R_api_Value) (y15.set (Int.toNat y34) x38) x40 (n := m0) (esz := 1) (v := .pv (encSl R_api_Value x40)) (j := (IntKind.wrap .i64 (y34 - 1))) (off := 0) (id := 0) t22 rfl h43 (by first | rfl | assumption | omega | (simp only [List.length_set, List.length_append, List.length_cons, List.length_nil, List.length_replicate, List.length_drop] at * <;> omega)) (by first | exact Nat.zero_le _ | exact Nat.le_refl _ | assumption | omega | (simp only [List.length_set, List.length_append, List.length_cons, List.length_nil, List.length_replicate, List.length_drop] at * <;> omega)) rfl rfl rfl rfl (by kernel_rfl)) (by kernel_rfl) (find [(0, aR 0 1 m0), (1, aI a1), (2, aI a2), (3, .pv (.fn 12 [] [])), (9, aI y34), (10, aI y16)] rfl (by kernel_rfl) (by kernel_rfl) ?_))
      obtain ⟨k52, hk52, hm⟩ := withK_some hm
      refine mid (fun t H => (∃ (y48 : (List (Option (List api_Value)))) (w44 : AV) (w45 : AV) (w46 : AV) (w47 : AV) (g50 : Nat), k52 y48 = some r ∧ t = mk 141 [(0, aR 0 1 m0), (1, aI a1), (2, aI a2), (3, .pv (.fn 12 [] [])), (9, aI y34), (10, aI y16), (11, w44), (65, w45), (69, w46), (84, w47)] ∧ H = [bR 22 1 (rSl R_api_Value) y48 g50 0] ∧ y48.length = m0 ∧ g50 ≤ y48.length)) ?_ ?_
      ·
       rintro _ _ ⟨y48, w44, w45, w46, w47, g50, hm, rfl, rfl, q49, q51⟩
       subst hk52
       refine sq (detn [(0, aR 0 1 m0), (1, aI a1), (2, aI a2), (3, .pv (.fn 12 [] [])), (9, aI y34), (10, aI y16), (104, aB (decide ((IntKind.wrap .i64 (a2 - y34)) ≥ 2)))] (by kernel_rfl) ?_)
       rcases bif_some hm with ⟨h53, hm⟩ | ⟨h53, hm⟩
       ·
        refine ct h53 (by kernel_rfl) (sq (detn [(0, aR 0 1 m0), (1, aI a1), (2, aI a2), (3, .pv (.fn 12 [] [])), (9, aI y34), (10, aI y16), (12, aI (IntKind.wrap .i64 (y34 + 1)))] (by kernel_rfl) (bq ?_)))
        refine loopF (fun mm t H => (∃ (y59 : (List (Option (List api_Value)))) (y60 : Int) (g62 : Nat), slices_partialInsertionSortCmpFunc_Value_row_Cmp_r_l20 n a2 k32 y34 mm y59 y60 = some r ∧ t = mk 141 [(0, aR 0 1 m0), (1, aI a1), (2, aI a2), (3, .pv (.fn 12 [] [])), (9, aI y34), (10, aI y16), (12, aI y60)] ∧ H = [bR 22 1 (rSl R_api_Value) y59 g62 0] ∧ y59.length = m0 ∧ g62 ≤ y59.length)) (⟨y48, (IntKind.wrap .i64 (y34 + 1)), g50, hm, rfl, rfl, (by first | rfl | assumption | omega | (simp only [List.length_set, List.length_append, List.length_cons, List.length_nil, List.length_replicate, List.length_drop] at * <;> omega)), (by first | exact Nat.zero_le _ | exact Nat.le_refl _ | assumption | omega | (simp only [List.length_set, List.length_append, List.length_cons, List.length_nil, List.length_replicate, List.length_drop] at * <;> omega))⟩) ?_ ?_
        · rintro _ _ ⟨y59, y60, g62, hm, _⟩; exact nomatch hm
        rintro m64 _ _ ⟨y59, y60, g62, hm, rfl, rfl, q61, q63⟩
        simp only [slices_partialInsertionSortCmpFunc_Value_row_Cmp_r_l20] at hm
        refine sq (sq (detn [(0, aR 0 1 m0), (1, aI a1), (2, aI a2), (3, .pv (.fn 12 [] [])), (9, aI y34), (10, aI y16), (12, aI y60), (109, aB (decide (y60 < a2)))] (by kernel_rfl) ?_))
        rcases bif_some hm with ⟨h65, hm⟩ | ⟨h65, hm⟩
        ·
         refine ct h65 (by kernel_rfl) (wp_skip (sq (bq ?_)))
         refine sq (sq (rgd (shd 3 [(114, aI y60), (113, aR 0 1 m0), (112, .pv (.fn 12 [] []))] (by kernel_rfl) ?_)))
         obtain ⟨x66, h67, hm⟩ := bs hm
         refine dvd 115 (v := .eptr 0 0 m0 1 (0 + Int.toNat y60) 0) (ia_refO y59 .i64 (n := m0) (id := 0) (esz := 1) t25 t22 h67 (by omega) rfl (by kernel_rfl)) (by kernel_rfl) (dvd 116 (v := .pv (encSl R_api_Value x66)) (ld_eptrO (rSl R_api_Value) y59 (n := m0) (esz := 1) (j := y60) (off := 0) (id := 0) t22 rfl h67 (by omega) (by omega) (by kernel_rfl) (by kernel_rfl)) (by kernel_rfl) (shd 3 [(119, aI (IntKind.wrap .i64 (y60 - 1))), (118, aI y60), (117, aR 0 1 m0)] (by kernel_rfl) ?_))
         obtain ⟨x68, h69, hm⟩ := bs hm
         refine dvd 120 (v := .eptr 0 0 m0 1 (0 + Int.toNat (IntKind.wrap .i64 (y60 - 1))) 0) (ia_refO y59 .i64 (n := m0) (id := 0) (esz := 1) t25 t22 h69 (by omega) rfl (by kernel_rfl)) (by kernel_rfl) (dvd 121 (v := .pv (encSl R_api_Value x68)) (ld_eptrO (rSl R_api_Value) y59 (n := m0) (esz := 1) (j := (IntKind.wrap .i64 (y60 - 1))) (off := 0) (id := 0) t22 rfl h69 (by omega) (by omega) (by kernel_rfl) (by kernel_rfl)) (by kernel_rfl) ?_)
         obtain ⟨x70, h71, hm⟩ := bs hm
         refine dvd 122 (cpure (by kernel_rfl) (ok_row_Cmp h71) (by kernel_rfl) (by kernel_rfl) (by kernel_rfl)) (by kernel_rfl) (shd 2 [(124, aB (!(decide (x70 < 0)))), (123, aB (decide (x70 < 0)))] (by kernel_rfl) (find [(0, aR 0 1 m0), (1, aI a1), (2, aI a2), (3, .pv (.fn 12 [] [])), (9, aI y34), (10, aI y16), (12, aI y60), (124, aB (!(decide (x70 < 0))))] rfl (by kernel_rfl) (by kernel_rfl) ?_))
         rcases bif_some hm with ⟨h72, hm⟩ | ⟨h72, hm⟩
         ·
          refine ct h72 (by kernel_rfl) (wp_exit ?_)
          exact ⟨y59, y34, aI y60, .any, .any, aB (!(decide (x70 < 0))), g62, hm, (mk_same (by kernel_rfl)), rfl, (by first | rfl | assumption | omega | (simp only [List.length_set, List.length_append, List.length_cons, List.length_nil, List.length_replicate, List.length_drop] at * <;> omega)), (by first | exact Nat.zero_le _ | exact Nat.le_refl _ | assumption | omega | (simp only [List.length_set, List.length_append, List.length_cons, List.length_nil, List.length_replicate, List.length_drop] at * <;> omega))⟩
         ·
          refine cf h72 (by kernel_rfl) (wp_skip (rgd (shd 8 [(132, aI (IntKind.wrap .i64 (y60 - 1))), (131, aI y60), (130, aR 0 1 m0), (129, aI (IntKind.wrap .i64 (y60 - 1))), (128, aI y60), (127, aR 0 1 m0), (126, aI y60), (125, aR 0 1 m0)] (by kernel_rfl) (dvd 133 (v := .eptr 0 0 m0 1 (0 + Int.toNat (IntKind.wrap .i64 (y60 - 1))) 0) (ia_refO y59 .i64 (n := m0) (id := 0) (esz := 1) t25 t22 h69 (by omega) rfl (by kernel_rfl)) (by kernel_rfl) (dvd 134 (v := .pv (encSl R_api_Value x68)) (ld_eptrO (rSl R_api_Value) y59 (n := m0) (esz := 1) (j := (IntKind.wrap .i64 (y60 - 1))) (off := 0) (id := 0) t22 rfl h69 (by omega) (by omega) (by kernel_rfl) (by kernel_rfl)) (by kernel_rfl) (shd 2 [(136, aI y60), (135, aR 0 1 m0)] (by kernel_rfl) (dvd 137 (v := .eptr 0 0 m0 1 (0 + Int.toNat y60) 0) (ia_refO y59 .i64 (n := m0) (id := 0) (esz := 1) t25 t22 h67 (by omega) rfl (by kernel_rfl)) (by kernel_rfl) (dvd 138 (v := .pv (encSl R_api_Value x66)) (ld_eptrO (rSl R_api_Value) y59 (n := m0) (esz := 1) (j := y60) (off := 0) (id := 0) t22 rfl h67 (by omega) (by omega) (by kernel_rfl) (by kernel_rfl)) (by kernel_rfl) (dvd 139 (v := .eptr 0 0 m0 1 (0 + Int.toNat y60) 0) (ia_refO y59 .i64 (n := m0) (id := 0) (esz := 1) t25 t22 h67 (by omega) rfl (by kernel_rfl)) (by kernel_rfl) (dOd [] [bR 22 1 (rSl R_api_Value) (y59.set (Int.toNat y60) x68) m0 0] (st_eptrO (rSl R_api_Value) y59 x68 (n := m0) (esz := 1) (v := .pv (encSl R_api_Value x68)) (j := y60) (off := 0) (id := 0) t22 rfl h67 (by omega) (by omega) rfl rfl rfl rfl (by kernel_rfl)) (by kernel_rfl) ?_))))))))))
          obtain ⟨x73, h74, hm⟩ := bs hm
          refine dvd 140 (v := .eptr 0 0 m0 1 (0 + Int.toNat (IntKind.wrap .i64 (y60 - 1))) 0) (ia_refO (y59.set (Int.toNat y60) x68) .i64 (n := m0) (id := 0) (esz := 1) t25 t22 h74 (by first | rfl | assumption | omega | (simp only [List.length_set, List.length_append, List.length_cons, List.length_nil, List.length_replicate, List.length_drop] at * <;> omega)) rfl (by kernel_rfl)) (by kernel_rfl) (dOd [] [bR 22 1 (rSl R_api_Value) ((y59.set (Int.toNat y60) x68).set (Int.toNat (IntKind.wrap .i64 (y60 - 1))) x66) m0 0] (st_eptrO (rSl R_api_Value) (y59.set (Int.toNat y60) x68) x66 (n := m0) (esz := 1) (v := .pv (encSl R_api_Value x66)) (j := (IntKind.wrap .i64 (y60 - 1))) (off := 0) (id := 0) t22 rfl h74 (by first | rfl | assumption | omega | (simp only [List.length_set, List.length_append, List.length_cons, List.length_nil, List.length_replicate, List.length_drop] at * <;> omega)) (by first | exact Nat.zero_le _ | exact Nat.le_refl _ | assumption | omega | (simp only [List.length_set, List.length_append, List.length_cons, List.length_nil, List.length_replicate, List.length_drop] at * <;> omega)) rfl rfl rfl rfl (by kernel_rfl)) (by kernel_rfl) (find [(0, aR 0 1 m0), (1, aI a1), (2, aI a2), (3, .pv (.fn 12 [] [])), (9, aI y34), (10, aI y16), (12, aI y60)] rfl (by kernel_rfl) (by kernel_rfl) (detn [(0, aR 0 1 m0), (1, aI a1), (2, aI a2), (3, .pv (.fn 12 [] [])), (9, aI y34), (10, aI y16), (12, aI (IntKind.wrap .i64 (y60 + 1)))] (by kernel_rfl) ?_)))
          exact ⟨_, _, tidyL [(0, aR 0 1 m0), (1, aI a1), (2, aI a2), (3, .pv (.fn 12 [] [])), (9, aI y34), (10, aI y16), (12, aI (IntKind.wrap .i64 (y60 + 1)))] [bR 22 1 (rSl R_api_Value) ((y59.set (Int.toNat y60) x68).set (Int.toNat (IntKind.wrap .i64 (y60 - 1))) x66) m0 0] (by kernel_rfl), ⟨((y59.set (Int.toNat y60) x68).set (Int.toNat (IntKind.wrap .i64 (y60 - 1))) x66), (IntKind.wrap .i64 (y60 + 1)), m0, hm, rfl, rfl, (by first | rfl | assumption | omega | (simp only [List.length_set, List.length_append, List.length_cons, List.length_nil, List.length_replicate, List.length_drop] at * <;> omega)), (by first | exact Nat.zero_le _ | exact Nat.le_refl _ | assumption | omega | (simp only [List.length_set, List.length_append, List.length_cons, List.length_nil, List.length_replicate, List.length_drop] at * <;> omega))⟩⟩
        ·
         refine cf h65 (by kernel_rfl) (wp_exit ?_)
         exact ⟨y59, y34, aI y60, .any, aB (decide (y60 < a2)), .any, g62, hm, (mk_same (by kernel_rfl)), rfl, (by first | rfl | assumption | omega | (simp only [List.length_set, List.length_append, List.length_cons, List.length_nil, List.length_replicate, List.length_drop] at * <;> omega)), (by first | exact Nat.zero_le _ | exact Nat.le_refl _ | assumption | omega | (simp only [List.length_set, List.length_append, List.length_cons, List.length_nil, List.length_replicate, List.length_drop] at * <;> omega))⟩
       ·
        refine cf h53 (by kernel_rfl) (wp_skip ?_)
        exact ⟨y48, y34, .any, aB (decide ((IntKind.wrap .i64 (a2 - y34)) ≥ 2)), .any, .any, g50, hm, (mk_same (by kernel_rfl)), rfl, (by first | rfl | assumption | omega | (simp only [List.length_set, List.length_append, List.length_cons, List.length_nil, List.length_replicate, List.length_drop] at * <;> omega)), (by first | exact Nat.zero_le _ | exact Nat.le_refl _ | assumption | omega | (simp only [List.length_set, List.length_append, List.length_cons, List.length_nil, List.length_replicate, List.length_drop] at * <;> omega))⟩
      refine sq (detn [(0, aR 0 1 m0), (1, aI a1), (2, aI a2), (3, .pv (.fn 12 [] [])), (9, aI y34), (10, aI y16), (65, aB (decide ((IntKind.wrap .i64 (y34 - a1)) ≥ 2)))] (by kernel_rfl) ?_)
      rcases bif_some hm with ⟨h75, hm⟩ | ⟨h75, hm⟩
      ·
       refine ct h75 (by kernel_rfl) (sq (detn [(0, aR 0 1 m0), (1, aI a1), (2, aI a2), (3, .pv (.fn 12 [] [])), (9, aI y34), (10, aI y16), (11, aI (IntKind.wrap .i64 (y34 - 1)))] (by kernel_rfl) (bq ?_)))
       refine loopF (fun mm t H => (∃ (y81 : (List (Option (List api_Value)))) (y82 : Int) (g84 : Nat), slices_partialInsertionSortCmpFunc_Value_row_Cmp_r_l14 n k52 mm y81 y82 = some r ∧ t = mk 141 [(0, aR 0 1 m0), (1, aI a1), (2, aI a2), (3, .pv (.fn 12 [] [])), (9, aI y34), (10, aI y16), (11, aI y82)] ∧ H = [bR 22 1 (rSl R_api_Value) y81 g84 0] ∧ y81.length = m0 ∧ g84 ≤ y81.length)) (⟨((y15.set (Int.toNat y34) x38).set (Int.toNat (IntKind.wrap .i64 (y34 - 1))) x40), (IntKind.wrap .i64 (y34 - 1)), m0, hm, rfl, rfl, (by first | rfl | assumption | omega | (simp only [List.length_set, List.length_append, List.length_cons, List.length_nil, List.length_replicate, List.length_drop] at * <;> omega)), (by first | exact Nat.zero_le _ | exact Nat.le_refl _ | assumption | omega | (simp only [List.length_set, List.length_append, List.length_cons, List.length_nil, List.length_replicate, List.length_drop] at * <;> omega))⟩) ?_ ?_
       · rintro _ _ ⟨y81, y82, g84, hm, _⟩; exact nomatch hm
       rintro m86 _ _ ⟨y81, y82, g84, hm, rfl, rfl, q83, q85⟩
       simp only [slices_partialInsertionSortCmpFunc_Value_row_Cmp_r_l14] at hm
       refine sq (sq (detn [(0, aR 0 1 m0), (1, aI a1), (2, aI a2), (3, .pv (.fn 12 [] [])), (9, aI y34), (10, aI y16), (11, aI y82), (69, aB (decide (y82 ≥ 1)))] (by kernel_rfl) ?_))
       rcases bif_some hm with ⟨h87, hm⟩ | ⟨h87, hm⟩
       ·
        refine ct h87 (by kernel_rfl) (wp_skip (sq (bq ?_)))
        refine sq (sq (rgd (shd 3 [(74, aI y82), (73, aR 0 1 m0), (72, .pv (.fn 12 [] []))] (by kernel_rfl) ?_)))
        obtain ⟨x88, h89, hm⟩ := bs hm
        refine dvd 75 (v := .eptr 0 0 m0 1 (0 + Int.toNat y82) 0) (ia_refO y81 .i64 (n := m0) (id := 0) (esz := 1) t25 t22 h89 (by omega) rfl (by kernel_rfl)) (by kernel_rfl) (dvd 76 (v := .pv (encSl R_api_Value x88)) (ld_eptrO (rSl R_api_Value) y81 (n := m0) (esz := 1) (j := y82) (off := 0) (id := 0) t22 rfl h89 (by omega) (by omega) (by kernel_rfl) (by kernel_rfl)) (by kernel_rfl) (shd 3 [(79, aI (IntKind.wrap .i64 (y82 - 1))), (78, aI y82), (77, aR 0 1 m0)] (by kernel_rfl) ?_))
        obtain ⟨x90, h91, hm⟩ := bs hm
        refine dvd 80 (v := .eptr 0 0 m0 1 (0 + Int.toNat (IntKind.wrap .i64 (y82 - 1))) 0) (ia_refO y81 .i64 (n := m0) (id := 0) (esz := 1) t25 t22 h91 (by omega) rfl (by kernel_rfl)) (by kernel_rfl) (dvd 81 (v := .pv (encSl R_api_Value x90)) (ld_eptrO (rSl R_api_Value) y81 (n := m0) (esz := 1) (j := (IntKind.wrap .i64 (y82 - 1))) (off := 0) (id := 0) t22 rfl h91 (by omega) (by omega) (by kernel_rfl) (by kernel_rfl)) (by kernel_rfl) ?_)
        obtain ⟨x92, h93, hm⟩ := bs hm
        refine dvd 82 (cpure (by kernel_rfl) (ok_row_Cmp h93) (by kernel_rfl) (by kernel_rfl) (by kernel_rfl)) (by kernel_rfl) (shd 2 [(84, aB (!(decide (x92 < 0)))), (83, aB (decide (x92 < 0)))] (by kernel_rfl) (find [(0, aR 0 1 m0), (1, aI a1), (2, aI a2), (3, .pv (.fn 12 [] [])), (9, aI y34), (10, aI y16), (11, aI y82), (84, aB (!(decide (x92 < 0))))] rfl (by kernel_rfl) (by kernel_rfl) ?_))
        rcases bif_some hm with ⟨h94, hm⟩ | ⟨h94, hm⟩
        ·
         refine ct h94 (by kernel_rfl) (wp_exit ?_)
         exact ⟨y81, aI y82, .any, .any, aB (!(decide (x92 < 0))), g84, hm, (mk_same (by kernel_rfl)), rfl, (by first | rfl | assumption | omega | (simp only [List.length_set, List.length_append, List.length_cons, List.length_nil, List.length_replicate, List.length_drop] at * <;> omega)), (by first | exact Nat.zero_le _ | exact Nat.le_refl _ | assumption | omega | (simp only [List.length_set, List.length_append, List.length_cons, List.length_nil, List.length_replicate, List.length_drop] at * <;> omega))⟩
        ·
         refine cf h94 (by kernel_rfl) (wp_skip (rgd (shd 8 [(92, aI (IntKind.wrap .i64 (y82 - 1))), (91, aI y82), (90, aR 0 1 m0), (89, aI (IntKind.wrap .i64 (y82 - 1))), (88, aI y82), (87, aR 0 1 m0), (86, aI y82), (85, aR 0 1 m0)] (by kernel_rfl) (dvd 93 (v := .eptr 0 0 m0 1 (0 + Int.toNat (IntKind.wrap .i64 (y82 - 1))) 0) (ia_refO y81 .i64 (n := m0) (id := 0) (esz := 1) t25 t22 h91 (by omega) rfl (by kernel_rfl)) (by kernel_rfl) (dvd 94 (v := .pv (encSl R_api_Value x90)) (ld_eptrO (rSl R_api_Value) y81 (n := m0) (esz := 1) (j := (IntKind.wrap .i64 (y82 - 1))) (off := 0) (id := 0) t22 rfl h91 (by omega) (by omega) (by kernel_rfl) (by kernel_rfl)) (by kernel_rfl) (shd 2 [(96, aI y82), (95, aR 0 1 m0)] (by kernel_rfl) (dvd 97 (v := .eptr 0 0 m0 1 (0 + Int.toNat y82) 0) (ia_refO y81 .i64 (n := m0) (id := 0) (esz := 1) t25 t22 h89 (by omega) rfl (by kernel_rfl)) (by kernel_rfl) (dvd 98 (v := .pv (encSl R_api_Value x88)) (ld_eptrO (rSl R_api_Value) y81 (n := m0) (esz := 1) (j := y82) (off := 0) (id := 0) t22 rfl h89 (by omega) (by omega) (by kernel_rfl) (by kernel_rfl)) (by kernel_rfl) (dvd 99 (v := .eptr 0 0 m0 1 (0 + Int.toNat y82) 0) (ia_refO y81 .i64 (n := m0) (id := 0) (esz := 1) t25 t22 h89 (by omega) rfl (by kernel_rfl)) (by kernel_rfl) (dOd [] [bR 22 1 (rSl R_api_Value) (y81.set (Int.toNat y82) x90) m0 0] (st_eptrO (rSl R_api_Value) y81 x90 (n := m0) (esz := 1) (v := .pv (encSl R_api_Value x90)) (j := y82) (off := 0) (id := 0) t22 rfl h89 (by omega) (by omega) rfl rfl rfl rfl (by kernel_rfl)) (by kernel_rfl) ?_))))))))))
         obtain ⟨x95, h96, hm⟩ := bs hm
         refine dvd 100 (v := .eptr 0 0 m0 1 (0 + Int.toNat (IntKind.wrap .i64 (y82 - 1))) 0) (ia_refO (y81.set (Int.toNat y82) x90) .i64 (n := m0) (id := 0) (esz := 1) t25 t22 h96 (by first | rfl | assumption | omega | (simp only [List.length_set, List.length_append, List.length_cons, List.length_nil, List.length_replicate, List.length_drop] at * <;> omega)) rfl (by kernel_rfl)) (by kernel_rfl) (dOd [] [bR 22 1 (rSl R_api_Value) ((y81.set (Int.toNat y82) x90).set (Int.toNat (IntKind.wrap .i64 (y82 - 1))) x88) m0 0] (st_eptrO (rSl R_api_Value) (y81.set (Int.toNat y82) x90) x88 (n := m0) (esz := 1) (v := .pv (encSl R_api_Value x88)) (j := (IntKind.wrap .i64 (y82 - 1))) (off := 0) (id := 0) t22 rfl h96 (by first | rfl | assumption | omega | (simp only [List.length_set, List.length_append, List.length_cons, List.length_nil, List.length_replicate, List.length_drop] at * <;> omega)) (by first | exact Nat.zero_le _ | exact Nat.le_refl _ | assumption | omega | (simp only [List.length_set, List.length_append, List.length_cons, List.length_nil, List.length_replicate, List.length_drop] at * <;> omega)) rfl rfl rfl rfl (by kernel_rfl)) (by kernel_rfl) (find [(0, aR 0 1 m0), (1, aI a1), (2, aI a2), (3, .pv (.fn 12 [] [])), (9, aI y34), (10, aI y16), (11, aI y82)] rfl (by kernel_rfl) (by kernel_rfl) (detn [(0, aR 0 1 m0), (1, aI a1), (2, aI a2), (3, .pv (.fn 12 [] [])), (9, aI y34), (10, aI y16), (11, aI (IntKind.wrap .i64 (y82 - 1)))] (by kernel_rfl) ?_)))
         exact ⟨_, _, tidyL [(0, aR 0 1 m0), (1, aI a1), (2, aI a2), (3, .pv (.fn 12 [] [])), (9, aI y34), (10, aI y16), (11, aI (IntKind.wrap .i64 (y82 - 1)))] [bR 22 1 (rSl R_api_Value) ((y81.set (Int.toNat y82) x90).set (Int.toNat (IntKind.wrap .i64 (y82 - 1))) x88) m0 0] (by kernel_rfl), ⟨((y81.set (Int.toNat y82) x90).set (Int.toNat (IntKind.wrap .i64 (y82 - 1))) x88), (IntKind.wrap .i64 (y82 - 1)), m0, hm, rfl, rfl, (by first | rfl | assumption | omega | (simp only [List.length_set, List.length_append, List.length_cons, List.length_nil, List.length_replicate, List.length_drop] at * <;> omega)), (by first | exact Nat.zero_le _ | exact Nat.le_refl _ | assumption | omega | (simp only [List.length_set, List.length_append, List.length_cons, List.length_nil, List.length_replicate, List.length_drop] at * <;> omega))⟩⟩
       ·
        refine cf h87 (by kernel_rfl) (wp_exit ?_)
        exact ⟨y81, aI y82, .any, aB (decide (y82 ≥ 1)), .any, g84, hm, (mk_same (by kernel_rfl)), rfl, (by first | rfl | assumption | omega | (simp only [List.length_set, List.length_append, List.length_cons, List.length_nil, List.length_replicate, List.length_drop] at * <;> omega)), (by first | exact Nat.zero_le _ | exact Nat.le_refl _ | assumption | omega | (simp only [List.length_set, List.length_append, List.length_cons, List.length_nil, List.length_replicate, List.length_drop] at * <;> omega))⟩
      ·
       refine cf h75 (by kernel_rfl) (wp_skip ?_)
       exact ⟨((y15.set (Int.toNat y34) x38).set (Int.toNat (IntKind.wrap .i64 (y34 - 1))) x40), .any, aB (decide ((IntKind.wrap .i64 (y34 - a1)) ≥ 2)), .any, .any, m0, hm, (mk_same (by kernel_rfl)), rfl, (by first | rfl | assumption | omega | (simp only [List.length_set, List.length_append, List.length_cons, List.length_nil, List.length_replicate, List.length_drop] at * <;> omega)), (by first | exact Nat.zero_le _ | exact Nat.le_refl _ | assumption | omega | (simp only [List.length_set, List.length_append, List.length_cons, List.length_nil, List.length_replicate, List.length_drop] at * <;> omega))⟩
   refine bq ?_
   refine loopF (fun mm t H => (∃ (y98 : Int), slices_partialInsertionSortCmpFunc_Value_row_Cmp_r_l5 n a2 y15 k35 mm y98 = some r ∧ t = mk 141 [(0, aR 0 1 m0), (1, aI a1), (2, aI a2), (3, .pv (.fn 12 [] [])), (9, aI y98), (10, aI y16), (16, aB (decide (y16 < 5)))] ∧ H = [bR 22 1 (rSl R_api_Value) y15 g19 0])) (⟨y17, hm, rfl, rfl⟩) ?_ ?_
   · rintro _ _ ⟨y98, hm, _⟩; exact nomatch hm
   rintro m99 _ _ ⟨y98, hm, rfl, rfl⟩
   simp only [slices_partialInsertionSortCmpFunc_Value_row_Cmp_r_l5] at hm
   refine sq (sq (rgd (shd 4 [(22, aB (decide (y98 < a2))), (21, aB (decide (y98 < a2))), (20, aI a2), (19, aI y98)] (by kernel_rfl) ?_)))
   rcases bif_some hm with ⟨h100, hm⟩ | ⟨h100, hm⟩
   ·
    refine knownd [22, 21] h100 (by kernel_rfl) (shd 3 [(25, aI y98), (24, aR 0 1 m0), (23, .pv (.fn 12 [] []))] (by kernel_rfl) ?_)
    obtain ⟨x101, h102, hm⟩ := bs hm
    refine dvd 26 (v := .eptr 0 0 m0 1 (0 + Int.toNat y98) 0) (ia_refO y15 .i64 (n := m0) (id := 0) (esz := 1) t25 t22 h102 (by omega) rfl (by kernel_rfl)) (by kernel_rfl) (dvd 27 (v := .pv (encSl R_api_Value x101)) (ld_eptrO (rSl R_api_Value) y15 (n := m0) (esz := 1) (j := y98) (off := 0) (id := 0) t22 rfl h102 (by omega) (by omega) (by kernel_rfl) (by kernel_rfl)) (by kernel_rfl) (shd 3 [(30, aI (IntKind.wrap .i64 (y98 - 1))), (29, aI y98), (28, aR 0 1 m0)] (by kernel_rfl) ?_))
    obtain ⟨x103, h104, hm⟩ := bs hm
    refine dvd 31 (v := .eptr 0 0 m0 1 (0 + Int.toNat (IntKind.wrap .i64 (y98 - 1))) 0) (ia_refO y15 .i64 (n := m0) (id := 0) (esz := 1) t25 t22 h104 (by omega) rfl (by kernel_rfl)) (by kernel_rfl) (dvd 32 (v := .pv (encSl R_api_Value x103)) (ld_eptrO (rSl R_api_Value) y15 (n := m0) (esz := 1) (j := (IntKind.wrap .i64 (y98 - 1))) (off := 0) (id := 0) t22 rfl h104 (by omega) (by omega) (by kernel_rfl) (by kernel_rfl)) (by kernel_rfl) ?_)
    obtain ⟨x105, h106, hm⟩ := bs hm
    refine dvd 33 (cpure (by kernel_rfl) (ok_row_Cmp h106) (by kernel_rfl) (by kernel_rfl) (by kernel_rfl)) (by kernel_rfl) (shd 3 [(36, aB (!(decide (x105 < 0)))), (35, aB (!(decide (x105 < 0)))), (34, aB (decide (x105 < 0)))] (by kernel_rfl) (find [(0, aR 0 1 m0), (1, aI a1), (2, aI a2), (3, .pv (.fn 12 [] [])), (9, aI y98), (10, aI y16), (16, aB (decide (y16 < 5))), (36, aB (!(decide (x105 < 0))))] rfl (by kernel_rfl) (by kernel_rfl) ?_))
    rcases bif_some hm with ⟨h107, hm⟩ | ⟨h107, hm⟩
    ·
     refine ct h107 (by kernel_rfl) (wp_skip (bq (detn [(0, aR 0 1 m0), (1, aI a1), (2, aI a2), (3, .pv (.fn 12 [] [])), (9, aI (IntKind.wrap .i64 (y98 + 1))), (10, aI y16), (16, aB (decide (y16 < 5)))] (by kernel_rfl) ?_)))
     exact ⟨_, _, tidyL [(0, aR 0 1 m0), (1, aI a1), (2, aI a2), (3, .pv (.fn 12 [] [])), (9, aI (IntKind.wrap .i64 (y98 + 1))), (10, aI y16), (16, aB (decide (y16 < 5)))] [bR 22 1 (rSl R_api_Value) y15 g19 0] (by kernel_rfl), ⟨(IntKind.wrap .i64 (y98 + 1)), hm, rfl, rfl⟩⟩
    ·
     refine cf h107 (by kernel_rfl) (wp_exit ?_)
     exact ⟨(!(decide (x105 < 0))), y98, hm, rfl, rfl⟩
   ·
    refine knownd [22, 21] h100 (by kernel_rfl) (shd 14 [(36, aB false), (35, .undef), (34, .undef), (33, .undef), (32, .undef), (31, .undef), (30, .undef), (29, .undef), (28, .undef), (27, .undef), (26, .undef), (25, .undef), (24, .undef), (23, .undef)] (by kernel_rfl) (find [(0, aR 0 1 m0), (1, aI a1), (2, aI a2), (3, .pv (.fn 12 [] [])), (9, aI y98), (10, aI y16), (16, aB (decide (y16 < 5))), (36, aB false)] rfl (by kernel_rfl) (by kernel_rfl) (cF (by kernel_rfl) (wp_exit ?_))))
    exact ⟨false, y98, hm, rfl, rfl⟩
  ·
   refine cf h22 (by kernel_rfl) (wp_exit ?_)
   exact ⟨y15, y16, (decide (y16 < 5)), y17, g19, hm, rfl, rfl, (by first | rfl | assumption | omega | (simp only [List.length_set, List.length_append, List.length_cons, List.length_nil, List.length_replicate, List.length_drop] at * <;> omega)), (by first | exact Nat.zero_le _ | exact Nat.le_refl _ | assumption | omega | (simp only [List.length_set, List.length_append, List.length_cons, List.length_nil, List.length_replicate, List.length_drop] at * <;> omega))⟩
theorem ok_slices_partitionEqualCmpFunc_Value_row_Cmp_r (m0 : Nat) (f0 : Nat) {n : Nat} {a0 : (List (Option (List api_Value)))} {a1 : Int} {a2 : Int} {a3 : Int} {r : (List (Option (List api_Value))) × Int} (hm0 : a0.length = m0) (hf0 : f0 ≤ a0.length) (hm : slices_partitionEqualCmpFunc_Value_row_Cmp_r n a0 a1 a2 a3 = some r) :
    ∃ vv H1, call G n 99 [aR 0 1 m0, aI a1, aI a2, aI a3, .pv (.fn 12 [] [])] [bR 22 1 (rSl R_api_Value) a0 f0 0] = some (.ret vv, H1) ∧ (match r with | (r0, r1) => (∃ (e2 : Nat), r0.length = m0 ∧ e2 ≤ r0.length ∧ vv = aI r1 ∧ H1 = [bR 22 1 (rSl R_api_Value) r0 e2 0])) := by
  unfold slices_partitionEqualCmpFunc_Value_row_Cmp_r at hm
  obtain ⟨n, rfl, h0⟩ := at1_some hm
  replace hm := h0; clear h0
  refine callE 90 [(0, aR 0 1 m0), (1, aI a1), (2, aI a2), (3, aI a3), (4, .pv (.fn 12 [] []))] func99 rfl (by kernel_rfl) (sq (detn [(0, aR 0 1 m0), (1, aI a1), (2, aI a2), (3, aI a3), (4, .pv (.fn 12 [] []))] (by kernel_rfl) (sq (rgd (shd 6 [(18, aI a3), (17, aR 0 1 m0), (16, aI a3), (15, aR 0 1 m0), (14, aI a1), (13, aR 0 1 m0)] (by kernel_rfl) ?_)))))
  obtain ⟨x1, h2, hm⟩ := bs hm
  refine dvd 19 (v := .eptr 0 0 m0 1 (0 + Int.toNat a3) 0) (ia_refO a0 .i64 (n := m0) (id := 0) (esz := 1) t25 t22 h2 (by omega) rfl (by kernel_rfl)) (by kernel_rfl) (dvd 20 (v := .pv (encSl R_api_Value x1)) (ld_eptrO (rSl R_api_Value) a0 (n := m0) (esz := 1) (j := a3) (off := 0) (id := 0) t22 rfl h2 (by omega) (by omega) (by kernel_rfl) (by kernel_rfl)) (by kernel_rfl) (shd 2 [(22, aI a1), (21, aR 0 1 m0)] (by kernel_rfl) ?_))
  obtain ⟨x3, h4, hm⟩ := bs hm
  refine dvd 23 (v := .eptr 0 0 m0 1 (0 + Int.toNat a1) 0) (ia_refO a0 .i64 (n := m0) (id := 0) (esz := 1) t25 t22 h4 (by omega) rfl (by kernel_rfl)) (by kernel_rfl) (dvd 24 (v := .pv (encSl R_api_Value x3)) (ld_eptrO (rSl R_api_Value) a0 (n := m0) (esz := 1) (j := a1) (off := 0) (id := 0) t22 rfl h4 (by omega) (by omega) (by kernel_rfl) (by kernel_rfl)) (by kernel_rfl) (dvd 25 (v := .eptr 0 0 m0 1 (0 + Int.toNat a1) 0) (ia_refO a0 .i64 (n := m0) (id := 0) (esz := 1) t25 t22 h4 (by omega) rfl (by kernel_rfl)) (by kernel_rfl) (dOd [] [bR 22 1 (rSl R_api_Value) (a0.set (Int.toNat a1) x1) m0 0] (st_eptrO (rSl R_api_Value) a0 x1 (n := m0) (esz := 1) (v := .pv (encSl R_api_Value x1)) (j := a1) (off := 0) (id := 0) t22 rfl h4 (by omega) (by omega) rfl rfl rfl rfl (by kernel_rfl)) (by kernel_rfl) ?_)))
  obtain ⟨x5, h6, hm⟩ := bs hm
  refine dvd 26 (v := .eptr 0 0 m0 1 (0 + Int.toNat a3) 0) (ia_refO (a0.set (Int.toNat a1) x1) .i64 (n := m0) (id := 0) (esz := 1) t25 t22 h6 (by first | rfl | assumption | omega | (simp only [List.length_set, List.length_append, List.length_cons, List.length_nil, List.length_replicate, List.length_drop] at * <;> omega)) rfl (by kernel_rfl)) (by kernel_rfl) (dOd [] [bR 22 1 (rSl R_api_Value) ((a0.set (Int.toNat a1) x1).set (Int.toNat a3) x3) m0 0] (st_eptrO (rSl R_api_Value) (a0.set (Int.toNat a1) x1) x3 (n := m0) (esz := 1) (v := .pv (encSl R_api_Value x3)) (j := a3) (off := 0) (id := 0) t22 rfl h6 (by first | rfl | assumption | omega | (simp only [List.length_set, List.length_append, List.length_cons, List.length_nil, List.length_replicate, List.length_drop] at * <;> omega)) (by first | exact Nat.zero_le _ | exact Nat.le_refl _ | assumption | omega | (simp only [List.length_set, List.length_append, List.length_cons, List.length_nil, List.length_replicate, List.length_drop] at * <;> omega)) rfl rfl rfl rfl (by kernel_rfl)) (by kernel_rfl) (find [(0, aR 0 1 m0), (1, aI a1), (2, aI a2), (4, .pv (.fn 12 [] []))] rfl (by kernel_rfl) (by kernel_rfl) (sq (detn [(0, aR 0 1 m0), (1, aI a1), (4, .pv (.fn 12 [] [])), (11, aI (IntKind.wrap .i64 (a1 + 1))), (12, aI (IntKind.wrap .i64 (a2 - 1)))] (by kernel_rfl) ?_))))
  obtain ⟨k14, hk14, hm⟩ := withK_some hm
  refine mid (fun t H => (∃ (y7 : (List (Option (List api_Value)))) (y8 : Int) (y9 : Int) (y10 : Bool) (g12 : Nat), k14 y7 y8 = some r ∧ t = mk 90 [(0, aR 0 1 m0), (1, aI a1), (4, .pv (.fn 12 [] [])), (11, aI y8), (12, aI y9), (70, aB y10)] ∧ H = [bR 22 1 (rSl R_api_Value) y7 g12 0] ∧ y7.length = m0 ∧ g12 ≤ y7.length)) ?_ ?_
  ·
   rintro _ _ ⟨y7, y8, y9, y10, g12, hm, rfl, rfl, q11, q13⟩
   subst hk14
   refine sq (detn [(10, aI y8)] (by kernel_rfl) (wp_ret ?_))
   obtain rfl := Option.some.inj hm
   exact ⟨trivial, aI y8, [bR 22 1 (rSl R_api_Value) y7 g12 0], by kernel_rfl, g12, (by first | rfl | assumption | omega | (simp only [List.length_set, List.length_append, List.length_cons, List.length_nil, List.length_replicate, List.length_drop] at * <;> omega)), (by first | exact Nat.zero_le _ | exact Nat.le_refl _ | assumption | omega | (simp only [List.length_set, List.length_append, List.length_cons, List.length_nil, List.length_replicate, List.length_drop] at * <;> omega)), rfl, rfl⟩
  refine bq ?_
  refine loopF (fun mm t H => (∃ (y21 : (List (Option (List api_Value)))) (y22 : Int) (y23 : Int) (g25 : Nat), slices_partitionEqualCmpFunc_Value_row_Cmp_r_l3 n a1 k14 mm y21 y22 y23 = some r ∧ t = mk 90 [(0, aR 0 1 m0), (1, aI a1), (4, .pv (.fn 12 [] [])), (11, aI y22), (12, aI y23)] ∧ H = [bR 22 1 (rSl R_api_Value) y21 g25 0] ∧ y21.length = m0 ∧ g25 ≤ y21.length)) (⟨((a0.set (Int.toNat a1) x1).set (Int.toNat a3) x3), (IntKind.wrap .i64 (a1 + 1)), (IntKind.wrap .i64 (a2 - 1)), m0, hm, rfl, rfl, (by first | rfl | assumption | omega | (simp only [List.length_set, List.length_append, List.length_cons, List.length_nil, List.length_replicate, List.length_drop] at * <;> omega)), (by first | exact Nat.zero_le _ | exact Nat.le_refl _ | assumption | omega | (simp only [List.length_set, List.length_append, List.length_cons, List.length_nil, List.length_replicate, List.length_drop] at * <;> omega))⟩) ?_ ?_
  · rintro _ _ ⟨y21, y22, y23, g25, hm, _⟩; exact nomatch hm
  rintro m27 _ _ ⟨y21, y22, y23, g25, hm, rfl, rfl, q24, q26⟩
  simp only [slices_partitionEqualCmpFunc_Value_row_Cmp_r_l3] at hm
  refine bq ?_
  obtain ⟨k30, hk30, hm⟩ := withK_some hm
  refine mid (fun t H => (∃ (y28 : Int) (y29 : Bool), k30 y28 = some r ∧ t = mk 90 [(0, aR 0 1 m0), (1, aI a1), (4, .pv (.fn 12 [] [])), (11, aI y28), (12, aI y23), (47, aB y29)] ∧ H = [bR 22 1 (rSl R_api_Value) y21 g25 0])) ?_ ?_
  ·
   rintro _ _ ⟨y28, y29, hm, rfl, rfl⟩
   subst hk30
   obtain ⟨k33, hk33, hm⟩ := withK_some hm
   refine mid (fun t H => (∃ (y31 : Int) (y32 : Bool), k33 y31 = some r ∧ t = mk 90 [(0, aR 0 1 m0), (1, aI a1), (4, .pv (.fn 12 [] [])), (11, aI y28), (12, aI y31), (47, aB y29), (65, aB y32)] ∧ H = [bR 22 1 (rSl R_api_Value) y21 g25 0])) ?_ ?_
   ·
    rintro _ _ ⟨y31, y32, hm, rfl, rfl⟩
    subst hk33
    refine sq (sq (detn [(0, aR 0 1 m0), (1, aI a1), (4, .pv (.fn 12 [] [])), (11, aI y28), (12, aI y31), (70, aB (decide (y28 > y31)))] (by kernel_rfl) ?_))
    rcases bif_some hm with ⟨h34, hm⟩ | ⟨h34, hm⟩
    ·
     refine ct h34 (by kernel_rfl) (wp_exit ?_)
     exact ⟨y21, y28, y31, (decide (y28 > y31)), g25, hm, rfl, rfl, (by first | rfl | assumption | omega | (simp only [List.length_set, List.length_append, List.length_cons, List.length_nil, List.length_replicate, List.length_drop] at * <;> omega)), (by first | exact Nat.zero_le _ | exact Nat.le_refl _ | assumption | omega | (simp only [List.length_set, List.length_append, List.length_cons, List.length_nil, List.length_replicate, List.length_drop] at * <;> omega))⟩
    ·
     refine cf h34 (by kernel_rfl) (wp_skip (sq (rgd (shd 6 [(76, aI y31), (75, aR 0 1 m0), (74, aI y31), (73, aR 0 1 m0), (72, aI y28), (71, aR 0 1 m0)] (by kernel_rfl) ?_))))
     obtain ⟨x35, h36, hm⟩ := bs hm
     refine dvd 77 (v := .eptr 0 0 m0 1 (0 + Int.toNat y31) 0) (ia_refO y21 .i64 (n := m0) (id := 0) (esz := 1) t25 t22 h36 (by omega) rfl (by kernel_rfl)) (by kernel_rfl) (dvd 78 (v := .pv (encSl R_api_Value x35)) (ld_eptrO (rSl R_api_Value) y21 (n := m0) (esz := 1) (j := y31) (off := 0) (id := 0) t22 rfl h36 (by omega) (by omega) (by kernel_rfl) (by kernel_rfl)) (by kernel_rfl) (shd 2 [(80, aI y28), (79, aR 0 1 m0)] (by kernel_rfl) ?_))
     obtain ⟨x37, h38, hm⟩ := bs hm
     refine dvd 81 (v := .eptr 0 0 m0 1 (0 + Int.toNat y28) 0) (ia_refO y21 .i64 (n := m0) (id := 0) (esz := 1) t25 t22 h38 (by omega) rfl (by kernel_rfl)) (by kernel_rfl) (dvd 82 (v := .pv (encSl R_api_Value x37)) (ld_eptrO (rSl R_api_Value) y21 (n := m0) (esz := 1) (j := y28) (off := 0) (id := 0) t22 rfl h38 (by omega) (by omega) (by kernel_rfl) (by kernel_rfl)) (by kernel_rfl) (dvd 83 (v := .eptr 0 0 m0 1 (0 + Int.toNat y28) 0) (ia_refO y21 .i64 (n := m0) (id := 0) (esz := 1) t25 t22 h38 (by omega) rfl (by kernel_rfl)) (by kernel_rfl) (dOd [] [bR 22 1 (rSl R_api_Value) (y21.set (Int.toNat y28) x35) m0 0] (st_eptrO (rSl R_api_Value) y21 x35 (n := m0) (esz := 1) (v := .pv (encSl R_api_Value x35)) (j := y28) (off := 0) (id := 0) t22 rfl h38 (by omega) (by omega) rfl rfl rfl rfl (by kernel_rfl)) (by kernel_rfl) ?_)))
     obtain ⟨x39, h40, hm⟩ := bs hm
     refine dvd 84 (v := .eptr 0 0 m0 1 (0 + Int.toNat y31) 0) (ia_refO (y21.set (Int.toNat y28) x35) .i64 (n := m0) (id := 0) (esz := 1) t25 t22 h40 (by first | rfl | assumption | omega | (simp only [List.length_set, List.length_append, List.length_cons, List.length_nil, List.length_replicate, List.length_drop] at * <;> omega)) rfl (by kernel_rfl)) (by kernel_rfl) (dOd [] [bR 22 1 (rSl R_api_Value) ((y21.set (Int.toNat y28) x35).set (Int.toNat y31) x37) m0 0] (st_eptrO (rSl R_api_Value) (y21.set (Int.toNat y28) x35) x37 (n := m0) (esz := 1) (v := .pv (encSl R_api_Value x37)) (j := y31) (off := 0) (id := 0) t22 rfl h40 (by first | rfl | assumption | omega | (simp only [List.length_set, List.length_append, List.length_cons, List.length_nil, List.length_replicate, List.length_drop] at * <;> omega)) (by first | exact Nat.zero_le _ | exact Nat.le_refl _ | assumption | omega | (simp only [List.length_set, List.length_append, List.length_cons, List.length_nil, List.length_replicate, List.length_drop] at * <;> omega)) rfl rfl rfl rfl (by kernel_rfl)) (by kernel_rfl) (find [(0, aR 0 1 m0), (1, aI a1), (4, .pv (.fn 12 [] [])), (11, aI y28), (12, aI y31)] rfl (by kernel_rfl) (by kernel_rfl) (sq (detn [(0, aR 0 1 m0), (1, aI a1), (4, .pv (.fn 12 [] [])), (11, aI (IntKind.wrap .i64 (y28 + 1))), (12, aI y31)] (by kernel_rfl) (detn [(0, aR 0 1 m0), (1, aI a1), (4, .pv (.fn 12 [] [])), (11, aI (IntKind.wrap .i64 (y28 + 1))), (12, aI (IntKind.wrap .i64 (y31 - 1)))] (by kernel_rfl) ?_)))))
     exact ⟨_, _, tidyL [(0, aR 0 1 m0), (1, aI a1), (4, .pv (.fn 12 [] [])), (11, aI (IntKind.wrap .i64 (y28 + 1))), (12, aI (IntKind.wrap .i64 (y31 - 1)))] [bR 22 1 (rSl R_api_Value) ((y21.set (Int.toNat y28) x35).set (Int.toNat y31) x37) m0 0] (by kernel_rfl), ⟨((y21.set (Int.toNat y28) x35).set (Int.toNat y31) x37), (IntKind.wrap .i64 (y28 + 1)), (IntKind.wrap .i64 (y31 - 1)), m0, hm, rfl, rfl, (by first | rfl | assumption | omega | (simp only [List.length_set, List.length_append, List.length_cons, List.length_nil, List.length_replicate, List.length_drop] at * <;> omega)), (by first | exact Nat.zero_le _ | exact Nat.le_refl _ | assumption | omega | (simp only [List.length_set, List.length_append, List.length_cons, List.length_nil, List.length_replicate, List.length_drop] at * <;> omega))⟩⟩
   refine bq ?_
   refine loopF (fun mm t H => (∃ (y42 : Int), slices_partitionEqualCmpFunc_Value_row_Cmp_r_l5 n a1 y21 y28 k33 mm y42 = some r ∧ t = mk 90 [(0, aR 0 1 m0), (1, aI a1), (4, .pv (.fn 12 [] [])), (11, aI y28), (12, aI y42), (47, aB y29)] ∧ H = [bR 22 1 (rSl R_api_Value) y21 g25 0])) (⟨y23, hm, rfl, rfl⟩) ?_ ?_
   · rintro _ _ ⟨y42, hm, _⟩; exact nomatch hm
   rintro m43 _ _ ⟨y42, hm, rfl, rfl⟩
   simp only [slices_partitionEqualCmpFunc_Value_row_Cmp_r_l5] at hm
   refine sq (sq (rgd (shd 4 [(53, aB (decide (y28 ≤ y42))), (52, aB (decide (y28 ≤ y42))), (51, aI y42), (50, aI y28)] (by kernel_rfl) ?_)))
   rcases bif_some hm with ⟨h44, hm⟩ | ⟨h44, hm⟩
   ·
    refine knownd [53, 52] h44 (by kernel_rfl) (shd 3 [(56, aI a1), (55, aR 0 1 m0), (54, .pv (.fn 12 [] []))] (by kernel_rfl) ?_)
    obtain ⟨x45, h46, hm⟩ := bs hm
    refine dvd 57 (v := .eptr 0 0 m0 1 (0 + Int.toNat a1) 0) (ia_refO y21 .i64 (n := m0) (id := 0) (esz := 1) t25 t22 h46 (by omega) rfl (by kernel_rfl)) (by kernel_rfl) (dvd 58 (v := .pv (encSl R_api_Value x45)) (ld_eptrO (rSl R_api_Value) y21 (n := m0) (esz := 1) (j := a1) (off := 0) (id := 0) t22 rfl h46 (by omega) (by omega) (by kernel_rfl) (by kernel_rfl)) (by kernel_rfl) (shd 2 [(60, aI y42), (59, aR 0 1 m0)] (by kernel_rfl) ?_))
    obtain ⟨x47, h48, hm⟩ := bs hm
    refine dvd 61 (v := .eptr 0 0 m0 1 (0 + Int.toNat y42) 0) (ia_refO y21 .i64 (n := m0) (id := 0) (esz := 1) t25 t22 h48 (by omega) rfl (by kernel_rfl)) (by kernel_rfl) (dvd 62 (v := .pv (encSl R_api_Value x47)) (ld_eptrO (rSl R_api_Value) y21 (n := m0) (esz := 1) (j := y42) (off := 0) (id := 0) t22 rfl h48 (by omega) (by omega) (by kernel_rfl) (by kernel_rfl)) (by kernel_rfl) ?_)
    obtain ⟨x49, h50, hm⟩ := bs hm
    refine dvd 63 (cpure (by kernel_rfl) (ok_row_Cmp h50) (by kernel_rfl) (by kernel_rfl) (by kernel_rfl)) (by kernel_rfl) (shd 2 [(65, aB (decide (x49 < 0))), (64, aB (decide (x49 < 0)))] (by kernel_rfl) (find [(0, aR 0 1 m0), (1, aI a1), (4, .pv (.fn 12 [] [])), (11, aI y28), (12, aI y42), (47, aB y29), (65, aB (decide (x49 < 0)))] rfl (by kernel_rfl) (by kernel_rfl) ?_))
    rcases bif_some hm with ⟨h51, hm⟩ | ⟨h51, hm⟩
    ·
     refine ct h51 (by kernel_rfl) (wp_skip (bq (detn [(0, aR 0 1 m0), (1, aI a1), (4, .pv (.fn 12 [] [])), (11, aI y28), (12, aI (IntKind.wrap .i64 (y42 - 1))), (47, aB y29)] (by kernel_rfl) ?_)))
     exact ⟨_, _, tidyL [(0, aR 0 1 m0), (1, aI a1), (4, .pv (.fn 12 [] [])), (11, aI y28), (12, aI (IntKind.wrap .i64 (y42 - 1))), (47, aB y29)] [bR 22 1 (rSl R_api_Value) y21 g25 0] (by kernel_rfl), ⟨(IntKind.wrap .i64 (y42 - 1)), hm, rfl, rfl⟩⟩
    ·
     refine cf h51 (by kernel_rfl) (wp_exit ?_)
     exact ⟨y42, (decide (x49 < 0)), hm, rfl, rfl⟩
   ·
    refine knownd [53, 52] h44 (by kernel_rfl) (shd 12 [(65, aB false), (64, .undef), (63, .undef), (62, .undef), (61, .undef), (60, .undef), (59, .undef), (58, .undef), (57, .undef), (56, .undef), (55, .undef), (54, .undef)] (by kernel_rfl) (find [(0, aR 0 1 m0), (1, aI a1), (4, .pv (.fn 12 [] [])), (11, aI y28), (12, aI y42), (47, aB y29), (65, aB false)] rfl (by kernel_rfl) (by kernel_rfl) (cF (by kernel_rfl) (wp_exit ?_))))
    exact ⟨y42, false, hm, rfl, rfl⟩
  refine bq ?_
  refine loopF (fun mm t H => (∃ (y53 : Int), slices_partitionEqualCmpFunc_Value_row_Cmp_r_l3x n a1 y21 y23 k30 mm y53 = some r ∧ t = mk 90 [(0, aR 0 1 m0), (1, aI a1), (4, .pv (.fn 12 [] [])), (11, aI y53), (12, aI y23)] ∧ H = [bR 22 1 (rSl R_api_Value) y21 g25 0])) (⟨y22, hm, rfl, rfl⟩) ?_ ?_
  · rintro _ _ ⟨y53, hm, _⟩; exact nomatch hm
  rintro m54 _ _ ⟨y53, hm, rfl, rfl⟩
  simp only [slices_partitionEqualCmpFunc_Value_row_Cmp_r_l3x] at hm
  refine sq (sq (rgd (shd 4 [(34, aB (decide (y53 ≤ y23))), (33, aB (decide (y53 ≤ y23))), (32, aI y23), (31, aI y53)] (by kernel_rfl) ?_)))
  rcases bif_some hm with ⟨h55, hm⟩ | ⟨h55, hm⟩
  ·
   refine knownd [34, 33] h55 (by kernel_rfl) (shd 3 [(37, aI a1), (36, aR 0 1 m0), (35, .pv (.fn 12 [] []))] (by kernel_rfl) ?_)
   obtain ⟨x56, h57, hm⟩ := bs hm
   refine dvd 38 (v := .eptr 0 0 m0 1 (0 + Int.toNat a1) 0) (ia_refO y21 .i64 (n := m0) (id := 0) (esz := 1) t25 t22 h57 (by omega) rfl (by kernel_rfl)) (by kernel_rfl) (dvd 39 (v := .pv (encSl R_api_Value x56)) (ld_eptrO (rSl R_api_Value) y21 (n := m0) (esz := 1) (j := a1) (off := 0) (id := 0) t22 rfl h57 (by omega) (by omega) (by kernel_rfl) (by kernel_rfl)) (by kernel_rfl) (shd 2 [(41, aI y53), (40, aR 0 1 m0)] (by kernel_rfl) ?_))
   obtain ⟨x58, h59, hm⟩ := bs hm
   refine dvd 42 (v := .eptr 0 0 m0 1 (0 + Int.toNat y53) 0) (ia_refO y21 .i64 (n := m0) (id := 0) (esz := 1) t25 t22 h59 (by omega) rfl (by kernel_rfl)) (by kernel_rfl) (dvd 43 (v := .pv (encSl R_api_Value x58)) (ld_eptrO (rSl R_api_Value) y21 (n := m0) (esz := 1) (j := y53) (off := 0) (id := 0) t22 rfl h59 (by omega) (by omega) (by kernel_rfl) (by kernel_rfl)) (by kernel_rfl) ?_)
   obtain ⟨x60, h61, hm⟩ := bs hm
   refine dvd 44 (cpure (by kernel_rfl) (ok_row_Cmp h61) (by kernel_rfl) (by kernel_rfl) (by kernel_rfl)) (by kernel_rfl) (shd 3 [(47, aB (!(decide (x60 < 0)))), (46, aB (!(decide (x60 < 0)))), (45, aB (decide (x60 < 0)))] (by kernel_rfl) (find [(0, aR 0 1 m0), (1, aI a1), (4, .pv (.fn 12 [] [])), (11, aI y53), (12, aI y23), (47, aB (!(decide (x60 < 0))))] rfl (by kernel_rfl) (by kernel_rfl) ?_))
   rcases bif_some hm with ⟨h62, hm⟩ | ⟨h62, hm⟩
   ·
    refine ct h62 (by kernel_rfl) (wp_skip (bq (detn [(0, aR 0 1 m0), (1, aI a1), (4, .pv (.fn 12 [] [])), (11, aI (IntKind.wrap .i64 (y53 + 1))), (12, aI y23)] (by kernel_rfl) ?_)))
    exact ⟨_, _, tidyL [(0, aR 0 1 m0), (1, aI a1), (4, .pv (.fn 12 [] [])), (11, aI (IntKind.wrap .i64 (y53 + 1))), (12, aI y23)] [bR 22 1 (rSl R_api_Value) y21 g25 0] (by kernel_rfl), ⟨(IntKind.wrap .i64 (y53 + 1)), hm, rfl, rfl⟩⟩
   ·
    refine cf h62 (by kernel_rfl) (wp_exit ?_)
    exact ⟨y53, (!(decide (x60 < 0))), hm, rfl, rfl⟩
  ·
   refine knownd [34, 33] h55 (by kernel_rfl) (shd 13 [(47, aB false), (46, .undef), (45, .undef), (44, .undef), (43, .undef), (42, .undef), (41, .undef), (40, .undef), (39, .undef), (38, .undef), (37, .undef), (36, .undef), (35, .undef)] (by kernel_rfl) (find [(0, aR 0 1 m0), (1, aI a1), (4, .pv (.fn 12 [] [])), (11, aI y53), (12, aI y23), (47, aB false)] rfl (by kernel_rfl) (by kernel_rfl) (cF (by kernel_rfl) (wp_exit ?_))))
   exact ⟨y53, false, hm, rfl, rfl⟩
end Go.Ab.S1
