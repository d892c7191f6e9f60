import Derived.Test.YtknmgphnkfeifaaS1
import Derived.Test.YtknmgphnkfeifaaPA
namespace Go.Ab.S1
open Go Go.Ab Go.Pl
open Go.Proofs.Try
set_option linter.unusedVariables false
set_option maxRecDepth 100000
theorem ok_schema_Name {n : Nat} {a0 : ByteArray} {r : Bool} (hm : schema_Name n a0 = some r) :
    call G n 12 [aS a0] [] = some (.ret (aB r), []) := by
  unfold schema_Name at hm
  obtain ⟨n, rfl, h0⟩ := at1_some hm
  replace hm := h0; clear h0
  refine callL 47 [(0, aS a0)] func12 rfl (by kernel_rfl) (sq (detn [(0, aS a0)] (by kernel_rfl) ?_))
  obtain ⟨k3, hk3, hm⟩ := withK_some hm
  refine mid (fun t H => (∃ (y1 : Int) (y2 : Bool), k3 () = some r ∧ t = mk 47 [(0, aS a0), (7, aI (a0.size : Int)), (8, aI y1), (9, aB y2)] ∧ H = [])) ?_ ?_
  ·
   rintro _ _ ⟨y1, y2, hm, rfl, rfl⟩
   subst hk3
   refine sq (rg (sh 4 [(42, aB (decide ((a0.size : Int) > 0))), (41, aB (decide ((a0.size : Int) > 0))), (40, aI (a0.size : Int)), (39, aS a0)] (by kernel_rfl) ?_))
   refine seg (decide ((a0.size : Int) > 0)) [42, 41] (fun b => [(46, aB (b && (decide ((a0.size : Int) ≤ 20)))), (45, ifA b (aB (decide ((a0.size : Int) ≤ 20))) (.undef)), (44, ifA b (aI (a0.size : Int)) (.undef)), (43, ifA b (aS a0) (.undef))]) 8 (by kernel_rfl) ?_ ?_ ?_
   ·
    intro Q h
    refine sh 4 [(46, aB (decide ((a0.size : Int) ≤ 20))), (45, aB (decide ((a0.size : Int) ≤ 20))), (44, aI (a0.size : Int)), (43, aS a0)] (by kernel_rfl) ?_
    exact sameN (by kernel_rfl) (by kernel_rfl) h
   ·
    intro Q h
    refine sh 4 [(46, aB false), (45, .undef), (44, .undef), (43, .undef)] (by kernel_rfl) ?_
    exact sameN (by kernel_rfl) (by kernel_rfl) h
   refine sh 1 [(2, aB ((decide ((a0.size : Int) > 0)) && (decide ((a0.size : Int) ≤ 20))))] (by kernel_rfl) (fin [(2, aB ((decide ((a0.size : Int) > 0)) && (decide ((a0.size : Int) ≤ 20))))] rfl (by kernel_rfl) (wp_ret ?_))
   obtain rfl := Option.some.inj hm
   exact ⟨trivial, by kernel_rfl⟩
  refine sq (detn [(0, aS a0), (7, aI (a0.size : Int)), (8, aI 0)] (by kernel_rfl) (bq ?_))
  refine loopF (fun mm t H => (∃ (y5 : Int), schema_Name_l2 n a0 k3 mm y5 = some r ∧ t = mk 47 [(0, aS a0), (7, aI (a0.size : Int)), (8, aI y5)] ∧ H = [])) (⟨0, hm, rfl, rfl⟩) ?_ ?_
  · rintro _ _ ⟨y5, hm, _⟩; exact nomatch hm
  rintro m6 _ _ ⟨y5, hm, rfl, rfl⟩
  simp only [schema_Name_l2] at hm
  refine sq (detn [(0, aS a0), (7, aI (a0.size : Int)), (8, aI y5), (9, aB (decide (y5 < (a0.size : Int))))] (by kernel_rfl) ?_)
  refine sq ?_
  rcases bif_some hm with ⟨h7, hm⟩ | ⟨h7, hm⟩
  ·
   refine ct h7 (by kernel_rfl) (wp_skip (sq (bq (sq (detn [(0, aS a0), (3, aI y5), (7, aI (a0.size : Int)), (8, aI y5)] (by kernel_rfl) (sq (rg (sh 2 [(12, aI y5), (11, aS a0)] (by kernel_rfl) ?_))))))))
   obtain ⟨x8, h9, hm⟩ := bs hm
   refine dv 13 (v := aY x8) (ix_strO .i64 h9 (by kernel_rfl)) (by kernel_rfl) (sh 1 [(4, aY x8)] (by kernel_rfl) (fin [(0, aS a0), (3, aI y5), (4, aY x8), (7, aI (a0.size : Int)), (8, aI y5)] rfl (by kernel_rfl) ?_))
   refine sq (rg (sh 3 [(16, aB (decide (x8 ≥ 97))), (15, aB (decide (x8 ≥ 97))), (14, aY x8)] (by kernel_rfl) ?_))
   refine seg (decide (x8 ≥ 97)) [16, 15] (fun b => [(19, aB (b && (decide (x8 ≤ 122)))), (18, ifA b (aB (decide (x8 ≤ 122))) (.undef)), (17, ifA b (aY x8) (.undef))]) 6 (by kernel_rfl) ?_ ?_ ?_
   ·
    intro Q h
    refine sh 3 [(19, aB (decide (x8 ≤ 122))), (18, aB (decide (x8 ≤ 122))), (17, aY x8)] (by kernel_rfl) ?_
    exact sameN (by kernel_rfl) (by kernel_rfl) h
   ·
    intro Q h
    refine sh 3 [(19, aB false), (18, .undef), (17, .undef)] (by kernel_rfl) ?_
    exact sameN (by kernel_rfl) (by kernel_rfl) h
   refine sh 1 [(20, aB ((decide (x8 ≥ 97)) && (decide (x8 ≤ 122))))] (by kernel_rfl) ?_
   refine seg ((decide (x8 ≥ 97)) && (decide (x8 ≤ 122))) [20, 19] (fun b => [(23, aB (b || (x8 == 95))), (22, ifA b (.undef) (aB (x8 == 95))), (21, ifA b (.undef) (aY x8))]) 10 (by kernel_rfl) ?_ ?_ ?_
   ·
    intro Q h
    refine sh 3 [(23, aB true), (22, .undef), (21, .undef)] (by kernel_rfl) ?_
    exact sameN (by kernel_rfl) (by kernel_rfl) h
   ·
    intro Q h
    refine sh 3 [(23, aB (x8 == 95)), (22, aB (x8 == 95)), (21, aY x8)] (by kernel_rfl) ?_
    exact sameN (by kernel_rfl) (by kernel_rfl) h
   refine sh 1 [(5, aB (((decide (x8 ≥ 97)) && (decide (x8 ≤ 122))) || (x8 == 95)))] (by kernel_rfl) (fin [(0, aS a0), (3, aI y5), (4, aY x8), (5, aB (((decide (x8 ≥ 97)) && (decide (x8 ≤ 122))) || (x8 == 95))), (7, aI (a0.size : Int)), (8, aI y5)] rfl (by kernel_rfl) (sq (rg (sh 3 [(26, aB (!(((decide (x8 ≥ 97)) && (decide (x8 ≤ 122))) || (x8 == 95)))), (25, aB (!(((decide (x8 ≥ 97)) && (decide (x8 ≤ 122))) || (x8 == 95)))), (24, aB (((decide (x8 ≥ 97)) && (decide (x8 ≤ 122))) || (x8 == 95)))] (by kernel_rfl) ?_))))
   refine seg (!(((decide (x8 ≥ 97)) && (decide (x8 ≤ 122))) || (x8 == 95))) [26, 25] (fun b => [(37, aB (b && (((y5 == 0) || (decide (x8 < 48))) || (decide (x8 > 57))))), (36, ifA b (aB (((y5 == 0) || (decide (x8 < 48))) || (decide (x8 > 57)))) (.undef)), (35, ifA b (ifA ((y5 == 0) || (decide (x8 < 48))) (.undef) (aB (decide (x8 > 57)))) (.undef)), (34, ifA b (ifA ((y5 == 0) || (decide (x8 < 48))) (.undef) (aY x8)) (.undef)), (33, ifA b (aB ((y5 == 0) || (decide (x8 < 48)))) (.undef)), (32, ifA b (aB ((y5 == 0) || (decide (x8 < 48)))) (.undef)), (31, ifA b (ifA (y5 == 0) (.undef) (aB (decide (x8 < 48)))) (.undef)), (30, ifA b (ifA (y5 == 0) (.undef) (aY x8)) (.undef)), (29, ifA b (aB (y5 == 0)) (.undef)), (28, ifA b (aB (y5 == 0)) (.undef)), (27, ifA b (aI y5) (.undef))]) 14 (by kernel_rfl) ?_ ?_ ?_
   ·
    intro Q h
    refine sh 3 [(29, aB (y5 == 0)), (28, aB (y5 == 0)), (27, aI y5)] (by kernel_rfl) ?_
    refine seg (y5 == 0) [29, 28] (fun b => [(32, aB (b || (decide (x8 < 48)))), (31, ifA b (.undef) (aB (decide (x8 < 48)))), (30, ifA b (.undef) (aY x8))]) 9 (by kernel_rfl) ?_ ?_ ?_
    ·
     intro Q h
     refine sh 3 [(32, aB true), (31, .undef), (30, .undef)] (by kernel_rfl) ?_
     exact sameN (by kernel_rfl) (by kernel_rfl) h
    ·
     intro Q h
     refine sh 3 [(32, aB (decide (x8 < 48))), (31, aB (decide (x8 < 48))), (30, aY x8)] (by kernel_rfl) ?_
     exact sameN (by kernel_rfl) (by kernel_rfl) h
    refine sh 1 [(33, aB ((y5 == 0) || (decide (x8 < 48))))] (by kernel_rfl) ?_
    refine seg ((y5 == 0) || (decide (x8 < 48))) [33, 32] (fun b => [(36, aB (b || (decide (x8 > 57)))), (35, ifA b (.undef) (aB (decide (x8 > 57)))), (34, ifA b (.undef) (aY x8))]) 13 (by kernel_rfl) ?_ ?_ ?_
    ·
     intro Q h
     refine sh 3 [(36, aB true), (35, .undef), (34, .undef)] (by kernel_rfl) ?_
     exact sameN (by kernel_rfl) (by kernel_rfl) h
    ·
     intro Q h
     refine sh 3 [(36, aB (decide (x8 > 57))), (35, aB (decide (x8 > 57))), (34, aY x8)] (by kernel_rfl) ?_
     exact sameN (by kernel_rfl) (by kernel_rfl) h
    refine sh 1 [(37, aB (((y5 == 0) || (decide (x8 < 48))) || (decide (x8 > 57))))] (by kernel_rfl) ?_
    exact sameN (by kernel_rfl) (by kernel_rfl) h
   ·
    intro Q h
    refine sh 11 [(37, aB false), (36, .undef), (35, .undef), (34, .undef), (33, .undef), (32, .undef), (31, .undef), (30, .undef), (29, .undef), (28, .undef), (27, .undef)] (by kernel_rfl) ?_
    exact sameN (by kernel_rfl) (by kernel_rfl) h
   refine fin [(0, aS a0), (7, aI (a0.size : Int)), (8, aI y5), (37, aB ((!(((decide (x8 ≥ 97)) && (decide (x8 ≤ 122))) || (x8 == 95))) && (((y5 == 0) || (decide (x8 < 48))) || (decide (x8 > 57)))))] rfl (by kernel_rfl) ?_
   rcases bif_some hm with ⟨h10, hm⟩ | ⟨h10, hm⟩
   ·
    refine ct h10 (by kernel_rfl) (sq (detn [(2, aB false)] (by kernel_rfl) (wp_ret ?_)))
    obtain rfl := Option.some.inj hm
    exact ⟨trivial, by kernel_rfl⟩
   ·
    refine cf h10 (by kernel_rfl) (wp_skip (detn [(0, aS a0), (7, aI (a0.size : Int)), (8, aI (IntKind.wrap .i64 (y5 + 1)))] (by kernel_rfl) ?_))
    exact ⟨_, _, tidyL [(0, aS a0), (7, aI (a0.size : Int)), (8, aI (IntKind.wrap .i64 (y5 + 1)))] [] (by kernel_rfl), ⟨(IntKind.wrap .i64 (y5 + 1)), hm, rfl, rfl⟩⟩
  ·
   refine cf h7 (by kernel_rfl) (wp_exit ?_)
   exact ⟨y5, (decide (y5 < (a0.size : Int))), hm, rfl, rfl⟩
theorem ok_schema_Right {n : Nat} {a0 : api_Table} {r : Int} (hm : schema_Right n a0 = some r) :
    call G n 14 [.agg [aS a0.fName, .pv (encSl R_api_Column a0.fCols)]] [] = some (.ret (aI r), []) := by
  unfold schema_Right at hm
  obtain ⟨n, rfl, h0⟩ := at1_some hm
  replace hm := h0; clear h0
  refine callL 57 [(0, .agg [aS a0.fName, .pv (encSl R_api_Column a0.fCols)])] func14 rfl (by kernel_rfl) (sq (det [(1, .ptr 0 0)] [.box [aS a0.fName, .pv (encSl R_api_Column a0.fCols)] false] (by kernel_rfl) ?_))
  refine sq (sq (rg (sh 2 [(8, aS a0.fName), (7, .ptr 0 0)] (by kernel_rfl) ?_)))
  obtain ⟨x1, h2, hm⟩ := bs hm
  refine dv 9 (cpure (by kernel_rfl) (ok_schema_Name h2) (by kernel_rfl) (by kernel_rfl) (by kernel_rfl)) (by kernel_rfl) (sh 2 [(11, aB (!x1)), (10, aB (!x1))] (by kernel_rfl) ?_)
  refine seg (!x1) [11, 10] (fun b => [(16, aB (b || (decide (((sll a0.fCols).length : Int) < 1)))), (15, ifA b (.undef) (aB (decide (((sll a0.fCols).length : Int) < 1)))), (14, ifA b (.undef) (aI ((sll a0.fCols).length : Int))), (13, ifA b (.undef) (.pv (encSl R_api_Column a0.fCols))), (12, ifA b (.undef) (.ptr 0 1))]) 10 (by kernel_rfl) ?_ ?_ ?_
  ·
   intro Q h
   refine sh 5 [(16, aB true), (15, .undef), (14, .undef), (13, .undef), (12, .undef)] (by kernel_rfl) ?_
   exact sameN (by kernel_rfl) (by kernel_rfl) h
  ·
   intro Q h
   refine sh 2 [(13, .pv (encSl R_api_Column a0.fCols)), (12, .ptr 0 1)] (by kernel_rfl) (dv 14 (v := aI ((sll a0.fCols).length : Int)) (len_slO R_api_Column a0.fCols t22 (by kernel_rfl)) (by kernel_rfl) (sh 2 [(16, aB (decide (((sll a0.fCols).length : Int) < 1))), (15, aB (decide (((sll a0.fCols).length : Int) < 1)))] (by kernel_rfl) ?_))
   exact sameN (by kernel_rfl) (by kernel_rfl) h
  refine sh 1 [(17, aB ((!x1) || (decide (((sll a0.fCols).length : Int) < 1))))] (by kernel_rfl) ?_
  refine seg ((!x1) || (decide (((sll a0.fCols).length : Int) < 1))) [17, 16] (fun b => [(22, aB (b || (decide (((sll a0.fCols).length : Int) > 8)))), (21, ifA b (.undef) (aB (decide (((sll a0.fCols).length : Int) > 8)))), (20, ifA b (.undef) (aI ((sll a0.fCols).length : Int))), (19, ifA b (.undef) (.pv (encSl R_api_Column a0.fCols))), (18, ifA b (.undef) (.ptr 0 1))]) 16 (by kernel_rfl) ?_ ?_ ?_
  ·
   intro Q h
   refine sh 5 [(22, aB true), (21, .undef), (20, .undef), (19, .undef), (18, .undef)] (by kernel_rfl) ?_
   exact sameN (by kernel_rfl) (by kernel_rfl) h
  ·
   intro Q h
   refine sh 2 [(19, .pv (encSl R_api_Column a0.fCols)), (18, .ptr 0 1)] (by kernel_rfl) (dv 20 (v := aI ((sll a0.fCols).length : Int)) (len_slO R_api_Column a0.fCols t22 (by kernel_rfl)) (by kernel_rfl) (sh 2 [(22, aB (decide (((sll a0.fCols).length : Int) > 8))), (21, aB (decide (((sll a0.fCols).length : Int) > 8)))] (by kernel_rfl) ?_))
   exact sameN (by kernel_rfl) (by kernel_rfl) h
  refine fin [(1, .ptr 0 0), (22, aB (((!x1) || (decide (((sll a0.fCols).length : Int) < 1))) || (decide (((sll a0.fCols).length : Int) > 8))))] rfl (by kernel_rfl) ?_
  rcases bif_some hm with ⟨h3, hm⟩ | ⟨h3, hm⟩
  ·
   refine ct h3 (by kernel_rfl) (sq (detn [(2, aI 2)] (by kernel_rfl) (wp_ret ?_)))
   obtain rfl := Option.some.inj hm
   exact ⟨trivial, by kernel_rfl⟩
  ·
   refine cf h3 (by kernel_rfl) (wp_skip (sq (det [(1, .ptr 0 0), (3, .map 1)] [.box [aS a0.fName, .pv (encSl R_api_Column a0.fCols)] false, .map 9 4 (([] : List (ByteArray × Bool)).map (rMap PV.str PV.bool))] (by kernel_rfl) (sq (detn [(1, .ptr 0 0), (3, .map 1), (4, aB false)] (by kernel_rfl) ?_)))))
   obtain ⟨k8, hk8, hm⟩ := withK_some hm
   refine mid (fun t H => (∃ (y4 : (List (ByteArray × Bool))) (y5 : Int) (y6 : Bool) (y7 : Bool), k8 y7 = some r ∧ t = mk 57 [(3, .map 1), (4, aB y7), (25, .pv (encSl R_api_Column a0.fCols)), (26, aI ((sll a0.fCols).length : Int)), (27, aI y5), (28, aB y6)] ∧ H = [.box [aS a0.fName, .pv (encSl R_api_Column a0.fCols)] false, .map 9 4 (y4.map (rMap PV.str PV.bool))])) ?_ ?_
   ·
    rintro _ _ ⟨y4, y5, y6, y7, hm, rfl, rfl⟩
    subst hk8
    refine sq (sq (detn [(56, aB y7)] (by kernel_rfl) ?_))
    rcases bif_some hm with ⟨h9, hm⟩ | ⟨h9, hm⟩
    ·
     refine ct h9 (by kernel_rfl) (sq (detn [(2, aI 41)] (by kernel_rfl) (wp_ret ?_)))
     obtain rfl := Option.some.inj hm
     exact ⟨trivial, by kernel_rfl⟩
    ·
     refine cf h9 (by kernel_rfl) (wp_skip (sq (detn [(2, aI 0)] (by kernel_rfl) (wp_ret ?_))))
     obtain rfl := Option.some.inj hm
     exact ⟨trivial, by kernel_rfl⟩
   refine sq (rg (sh 2 [(25, .pv (encSl R_api_Column a0.fCols)), (24, .ptr 0 1)] (by kernel_rfl) (dv 26 (v := aI ((sll a0.fCols).length : Int)) (len_slO R_api_Column a0.fCols t22 (by kernel_rfl)) (by kernel_rfl) (sh 1 [(27, aI 0)] (by kernel_rfl) (fin [(3, .map 1), (4, aB false), (25, .pv (encSl R_api_Column a0.fCols)), (26, aI ((sll a0.fCols).length : Int)), (27, aI 0)] rfl (by kernel_rfl) (bq ?_))))))
   refine loopF (fun mm t H => (∃ (y13 : (List (ByteArray × Bool))) (y14 : Int) (y15 : Bool), schema_Right_l6 n a0 k8 mm y13 y14 y15 = some r ∧ t = mk 57 [(3, .map 1), (4, aB y15), (25, .pv (encSl R_api_Column a0.fCols)), (26, aI ((sll a0.fCols).length : Int)), (27, aI y14)] ∧ H = [.box [aS a0.fName, .pv (encSl R_api_Column a0.fCols)] false, .map 9 4 (y13.map (rMap PV.str PV.bool))])) (⟨([] : List (ByteArray × Bool)), 0, false, hm, rfl, rfl⟩) ?_ ?_
   · rintro _ _ ⟨y13, y14, y15, hm, _⟩; exact nomatch hm
   rintro m16 _ _ ⟨y13, y14, y15, hm, rfl, rfl⟩
   simp only [schema_Right_l6] at hm
   refine sq (detn [(3, .map 1), (4, aB y15), (25, .pv (encSl R_api_Column a0.fCols)), (26, aI ((sll a0.fCols).length : Int)), (27, aI y14), (28, aB (decide (y14 < ((sll a0.fCols).length : Int))))] (by kernel_rfl) ?_)
   refine sq ?_
   rcases bif_some hm with ⟨h17, hm⟩ | ⟨h17, hm⟩
   ·
    refine ct h17 (by kernel_rfl) (wp_skip (sq (bq (sq (rg ?_)))))
    obtain ⟨x18, h19, hm⟩ := bs hm
    refine dv 29 (v := .pv (.ptr (R_api_Column x18) 0)) (ia_slO R_api_Column a0.fCols .i64 t22 t72 h19 rfl (by kernel_rfl)) (by kernel_rfl) (st 3 [(6, .ptr 2 0), (30, .agg [aS x18.fName, aI x18.fKind])] [.box [aS a0.fName, .pv (encSl R_api_Column a0.fCols)] false, .map 9 4 (y13.map (rMap PV.str PV.bool)), .box [aS x18.fName, aI x18.fKind] false] (by kernel_rfl) (fin [(3, .map 1), (4, aB y15), (6, .ptr 2 0), (25, .pv (encSl R_api_Column a0.fCols)), (26, aI ((sll a0.fCols).length : Int)), (27, aI y14)] rfl (by kernel_rfl) ?_))
    refine sq (sq (rg (sh 2 [(32, aS x18.fName), (31, .ptr 2 0)] (by kernel_rfl) ?_)))
    obtain ⟨x20, h21, hm⟩ := bs hm
    refine dv 33 (cpure (by kernel_rfl) (ok_schema_Name h21) (by kernel_rfl) (by kernel_rfl) (by kernel_rfl)) (by kernel_rfl) (sh 2 [(35, aB (!x20)), (34, aB (!x20))] (by kernel_rfl) ?_)
    refine seg (!x20) [35, 34] (fun b => [(39, aB (b || (decide (x18.fKind < 1)))), (38, ifA b (.undef) (aB (decide (x18.fKind < 1)))), (37, ifA b (.undef) (aI x18.fKind)), (36, ifA b (.undef) (.ptr 2 1))]) 9 (by kernel_rfl) ?_ ?_ ?_
    ·
     intro Q h
     refine sh 4 [(39, aB true), (38, .undef), (37, .undef), (36, .undef)] (by kernel_rfl) ?_
     exact sameN (by kernel_rfl) (by kernel_rfl) h
    ·
     intro Q h
     refine sh 4 [(39, aB (decide (x18.fKind < 1))), (38, aB (decide (x18.fKind < 1))), (37, aI x18.fKind), (36, .ptr 2 1)] (by kernel_rfl) ?_
     exact sameN (by kernel_rfl) (by kernel_rfl) h
    refine sh 1 [(40, aB ((!x20) || (decide (x18.fKind < 1))))] (by kernel_rfl) ?_
    refine seg ((!x20) || (decide (x18.fKind < 1))) [40, 39] (fun b => [(44, aB (b || (decide (x18.fKind > 4)))), (43, ifA b (.undef) (aB (decide (x18.fKind > 4)))), (42, ifA b (.undef) (aI x18.fKind)), (41, ifA b (.undef) (.ptr 2 1))]) 14 (by kernel_rfl) ?_ ?_ ?_
    ·
     intro Q h
     refine sh 4 [(44, aB true), (43, .undef), (42, .undef), (41, .undef)] (by kernel_rfl) ?_
     exact sameN (by kernel_rfl) (by kernel_rfl) h
    ·
     intro Q h
     refine sh 4 [(44, aB (decide (x18.fKind > 4))), (43, aB (decide (x18.fKind > 4))), (42, aI x18.fKind), (41, .ptr 2 1)] (by kernel_rfl) ?_
     exact sameN (by kernel_rfl) (by kernel_rfl) h
    refine fin [(3, .map 1), (4, aB y15), (6, .ptr 2 0), (25, .pv (encSl R_api_Column a0.fCols)), (26, aI ((sll a0.fCols).length : Int)), (27, aI y14), (44, aB (((!x20) || (decide (x18.fKind < 1))) || (decide (x18.fKind > 4))))] rfl (by kernel_rfl) ?_
    rcases bif_some hm with ⟨h22, hm⟩ | ⟨h22, hm⟩
    ·
     refine ct h22 (by kernel_rfl) (sq (detn [(2, aI 2)] (by kernel_rfl) (wp_ret ?_)))
     obtain rfl := Option.some.inj hm
     exact ⟨trivial, by kernel_rfl⟩
    ·
     refine cf h22 (by kernel_rfl) (wp_skip (sq (rg (sh 2 [(46, aB y15), (45, aB y15)] (by kernel_rfl) ?_))))
     refine seg y15 [46, 45, 4] (fun b => [(51, aB (b || ((mget y13 x18.fName).getD false))), (50, ifA b (.undef) (aB ((mget y13 x18.fName).getD false))), (49, ifA b (.undef) (aS x18.fName)), (48, ifA b (.undef) (.ptr 2 0)), (47, ifA b (.undef) (.map 1))]) 7 (by kernel_rfl) ?_ ?_ ?_
     ·
      intro Q h
      refine sh 5 [(51, aB true), (50, .undef), (49, .undef), (48, .undef), (47, .undef)] (by kernel_rfl) ?_
      exact sameN (by kernel_rfl) (by kernel_rfl) h
     ·
      intro Q h
      refine sh 3 [(49, aS x18.fName), (48, .ptr 2 0), (47, .map 1)] (by kernel_rfl) (dv 50 (v := aB ((mget y13 x18.fName).getD false)) (lookup_str (id := 1) PV.bool false y13 x18.fName t74 t9 t4 rfl rfl rfl rfl (by kernel_rfl)) (by kernel_rfl) (sh 1 [(51, aB ((mget y13 x18.fName).getD false))] (by kernel_rfl) ?_))
      exact sameN (by kernel_rfl) (by kernel_rfl) h
     refine sh 1 [(4, aB (y15 || ((mget y13 x18.fName).getD false)))] (by kernel_rfl) (fin [(3, .map 1), (4, aB (y15 || ((mget y13 x18.fName).getD false))), (6, .ptr 2 0), (25, .pv (encSl R_api_Column a0.fCols)), (26, aI ((sll a0.fCols).length : Int)), (27, aI y14)] rfl (by kernel_rfl) (rg (sh 3 [(54, aS x18.fName), (53, .ptr 2 0), (52, .map 1)] (by kernel_rfl) (dO [] [.box [aS a0.fName, .pv (encSl R_api_Column a0.fCols)] false, .map 9 4 ((mput y13 x18.fName true).map (rMap PV.str PV.bool)), .box [aS x18.fName, aI x18.fKind] false] (mapUpd_str (id := 1) PV.bool y13 x18.fName true t74 t9 rfl rfl (by kernel_rfl)) (by kernel_rfl) (fin [(3, .map 1), (4, aB (y15 || ((mget y13 x18.fName).getD false))), (25, .pv (encSl R_api_Column a0.fCols)), (26, aI ((sll a0.fCols).length : Int)), (27, aI y14)] rfl (by kernel_rfl) (detn [(3, .map 1), (4, aB (y15 || ((mget y13 x18.fName).getD false))), (25, .pv (encSl R_api_Column a0.fCols)), (26, aI ((sll a0.fCols).length : Int)), (27, aI (IntKind.wrap .i64 (y14 + 1)))] (by kernel_rfl) ?_))))))
     exact ⟨_, _, tidyL [(3, .map 1), (4, aB (y15 || ((mget y13 x18.fName).getD false))), (25, .pv (encSl R_api_Column a0.fCols)), (26, aI ((sll a0.fCols).length : Int)), (27, aI (IntKind.wrap .i64 (y14 + 1)))] [.box [aS a0.fName, .pv (encSl R_api_Column a0.fCols)] false, .map 9 4 ((mput y13 x18.fName true).map (rMap PV.str PV.bool))] (by kernel_rfl), ⟨(mput y13 x18.fName true), (IntKind.wrap .i64 (y14 + 1)), (y15 || ((mget y13 x18.fName).getD false)), hm, rfl, rfl⟩⟩
   ·
    refine cf h17 (by kernel_rfl) (wp_exit ?_)
    exact ⟨y13, y14, (decide (y14 < ((sll a0.fCols).length : Int))), y15, hm, rfl, rfl⟩
theorem ok_law06_works {n : Nat}  {r : Bool} (hm : law06_works n = some r) :
    call G n 20 [] [] = some (.ret (aB r), []) := by
  unfold law06_works at hm
  obtain ⟨n, rfl, h0⟩ := at1_some hm
  replace hm := h0; clear h0
  refine callL 24 [] func20 rfl (by kernel_rfl) (sq (detn [] (by kernel_rfl) (sq (det [(1, .ptr 0 0), (2, .ptr 1 0)] [.box [aS (ByteArray.mk #[97]), aI 2] false, .box [aS (ByteArray.mk #[98]), aI 4] false] (by kernel_rfl) (sq (rg (st 4 [(8, .agg [aS (ByteArray.mk #[116]), aR 2 2 2]), (7, aR 2 2 2), (6, .agg [aS (ByteArray.mk #[98]), aI 4]), (5, .agg [aS (ByteArray.mk #[97]), aI 2])] [.box [aS (ByteArray.mk #[97]), aI 2] false, .box [aS (ByteArray.mk #[98]), aI 4] false, bR 72 2 R_api_Column ([(api_Column.mk (ByteArray.mk #[97]) 2), (api_Column.mk (ByteArray.mk #[98]) 4)] : List api_Column) 0 0] (by kernel_rfl) ?_)))))))
  obtain ⟨x1, h2, hm⟩ := bs hm
  refine dO [(9, aI x1)] [.box [aS (ByteArray.mk #[97]), aI 2] false, .box [aS (ByteArray.mk #[98]), aI 4] false, bR 72 2 R_api_Column ([(api_Column.mk (ByteArray.mk #[97]) 2), (api_Column.mk (ByteArray.mk #[98]) 4)] : List api_Column) 0 0] (cpureR [2] [.agg [aS (ByteArray.mk #[116]), aR 2 2 2]] (fl := true) (by kernel_rfl) (by kernel_rfl) (by kernel_rfl) (ok_schema_Right h2) (by kernel_rfl) (by kernel_rfl)) (by kernel_rfl) (sh 2 [(11, aB (x1 == 0)), (10, aB (x1 == 0))] (by kernel_rfl) ?_)
  rcases bif_some hm with ⟨h3, hm⟩ | ⟨h3, hm⟩
  ·
   refine known [11, 10] h3 (by kernel_rfl) (st 4 [(15, .agg [aS (ByteArray.mk #[116]), aR 3 2 2]), (14, aR 3 2 2), (13, .agg [aS (ByteArray.mk #[97]), aI 2]), (12, .agg [aS (ByteArray.mk #[97]), aI 2])] [.box [aS (ByteArray.mk #[97]), aI 2] false, .box [aS (ByteArray.mk #[98]), aI 4] false, bR 72 2 R_api_Column ([(api_Column.mk (ByteArray.mk #[97]) 2), (api_Column.mk (ByteArray.mk #[98]) 4)] : List api_Column) 0 0, bR 72 2 R_api_Column ([(api_Column.mk (ByteArray.mk #[97]) 2), (api_Column.mk (ByteArray.mk #[97]) 2)] : List api_Column) 0 0] (by kernel_rfl) ?_)
   obtain ⟨x4, h5, hm⟩ := bs hm
   refine dO [(16, aI x4)] [.box [aS (ByteArray.mk #[97]), aI 2] false, .box [aS (ByteArray.mk #[98]), aI 4] false, bR 72 2 R_api_Column ([(api_Column.mk (ByteArray.mk #[97]) 2), (api_Column.mk (ByteArray.mk #[98]) 4)] : List api_Column) 0 0, bR 72 2 R_api_Column ([(api_Column.mk (ByteArray.mk #[97]) 2), (api_Column.mk (ByteArray.mk #[97]) 2)] : List api_Column) 0 0] (cpureR [3] [.agg [aS (ByteArray.mk #[116]), aR 3 2 2]] (fl := true) (by kernel_rfl) (by kernel_rfl) (by kernel_rfl) (ok_schema_Right h5) (by kernel_rfl) (by kernel_rfl)) (by kernel_rfl) (sh 3 [(19, aB (x4 == 41)), (18, aB (x4 == 41)), (17, aB (x4 == 41))] (by kernel_rfl) ?_)
   rcases bif_some hm with ⟨h6, hm⟩ | ⟨h6, hm⟩
   ·
    refine known [19, 18, 17] h6 (by kernel_rfl) (sh 1 [(20, .agg [aS (ByteArray.mk #[116]), .pv .nils])] (by kernel_rfl) ?_)
    obtain ⟨x7, h8, hm⟩ := bs hm
    refine dv 21 (cpure (by kernel_rfl) (ok_schema_Right h8) (by kernel_rfl) (by kernel_rfl) (by kernel_rfl)) (by kernel_rfl) (sh 3 [(0, aB (x7 == 2)), (23, aB (x7 == 2)), (22, aB (x7 == 2))] (by kernel_rfl) (fin [(0, aB (x7 == 2))] rfl (by kernel_rfl) (wp_ret ?_)))
    obtain rfl := Option.some.inj hm
    exact ⟨trivial, by kernel_rfl⟩
   ·
    refine known [19, 18, 17] h6 (by kernel_rfl) (sh 5 [(0, aB false), (23, aB false), (22, .undef), (21, .undef), (20, .undef)] (by kernel_rfl) (fin [(0, aB false)] rfl (by kernel_rfl) (wp_ret ?_)))
    obtain rfl := Option.some.inj hm
    exact ⟨trivial, by kernel_rfl⟩
  ·
   refine known [11, 10] h3 (by kernel_rfl) (sh 13 [(0, aB false), (23, aB false), (22, .undef), (21, .undef), (20, .undef), (19, aB false), (18, aB false), (17, .undef), (16, .undef), (15, .undef), (14, .undef), (13, .undef), (12, .undef)] (by kernel_rfl) (fin [(0, aB false)] rfl (by kernel_rfl) (wp_ret ?_)))
   obtain rfl := Option.some.inj hm
   exact ⟨trivial, by kernel_rfl⟩
theorem ok_codec_Read {n : Nat} {a0 : (Option (List Int))} {r : Unit} (hm : codec_Read n a0 = some r) :
    ∃ vv H1, call G n 32 [.pv (encSl (rI .u8) a0)] [] = some (.ret vv, H1) ∧ (vv = .ptr 0 0 ∧ H1 = [.box [aB true, .pv (encSl (rI .u8) a0), aI 0] false]) := by
  unfold codec_Read at hm
  obtain ⟨n, rfl, h0⟩ := at1_some hm
  replace hm := h0; clear h0
  refine callE 6 [(0, .pv (encSl (rI .u8) a0))] func32 rfl (by kernel_rfl) (sq (detn [(0, .pv (encSl (rI .u8) a0))] (by kernel_rfl) (sq (det [(2, .ptr 0 0)] [.box [aB true, .pv (encSl (rI .u8) a0), aI 0] false] (by kernel_rfl) (wp_ret ?_)))))
  obtain rfl := Option.some.inj hm
  exact ⟨trivial, .ptr 0 0, [.box [aB true, .pv (encSl (rI .u8) a0), aI 0] false], by kernel_rfl, rfl, rfl⟩
theorem ok_codec_Reader_ready {n : Nat} {a0 : codec_Reader} {r : Unit} (hm : codec_Reader_ready n a0 = some r) :
    ∃ vv H1, call G n 52 [.ptr 0 0] [.box [aB a0.fmade, .pv (encSl (rI .u8) a0.fb), aI a0.fe] false] = some (.ret vv, H1) ∧ (vv = aB (a0.fmade && (a0.fe == 0)) ∧ H1 = [.box [aB a0.fmade, .pv (encSl (rI .u8) a0.fb), aI a0.fe] false]) := by
  unfold codec_Reader_ready at hm
  obtain ⟨n, rfl, h0⟩ := at1_some hm
  replace hm := h0; clear h0
  refine callE 18 [(0, .ptr 0 0)] func52 rfl (by kernel_rfl) (sq (detn [(0, .ptr 0 0)] (by kernel_rfl) (sq (rg (sh 9 [(11, aB a0.fmade), (10, aB a0.fmade), (9, aB a0.fmade), (8, .ptr 0 0), (7, .ptr 0 0), (6, .ptr 0 0), (5, aB true), (4, aB true), (3, .ptr 0 0)] (by kernel_rfl) ?_)))))
  refine seg a0.fmade [11, 10, 9] (fun b => [(17, aB (b && (a0.fe == 0))), (16, ifA b (aB (a0.fe == 0)) (.undef)), (15, ifA b (aI a0.fe) (.undef)), (14, ifA b (.ptr 0 2) (.undef)), (13, ifA b (.ptr 0 0) (.undef)), (12, ifA b (.ptr 0 0) (.undef))]) 15 (by kernel_rfl) ?_ ?_ ?_
  ·
   intro Q h
   refine sh 6 [(17, aB (a0.fe == 0)), (16, aB (a0.fe == 0)), (15, aI a0.fe), (14, .ptr 0 2), (13, .ptr 0 0), (12, .ptr 0 0)] (by kernel_rfl) ?_
   exact sameN (by kernel_rfl) (by kernel_rfl) h
  ·
   intro Q h
   refine sh 6 [(17, aB false), (16, .undef), (15, .undef), (14, .undef), (13, .undef), (12, .undef)] (by kernel_rfl) ?_
   exact sameN (by kernel_rfl) (by kernel_rfl) h
  refine sh 1 [(2, aB (a0.fmade && (a0.fe == 0)))] (by kernel_rfl) (fin [(2, aB (a0.fmade && (a0.fe == 0)))] rfl (by kernel_rfl) (wp_ret ?_))
  obtain rfl := Option.some.inj hm
  exact ⟨trivial, aB (a0.fmade && (a0.fe == 0)), [.box [aB a0.fmade, .pv (encSl (rI .u8) a0.fb), aI a0.fe] false], by kernel_rfl, rfl, rfl⟩
theorem ok_codec_Reader_fail {n : Nat} {a0 : codec_Reader} {a1 : Int} {r : Unit} (hm : codec_Reader_fail n a0 a1 = some r) :
    ∃ vv H1, call G n 54 [.ptr 0 0, aI a1] [.box [aB a0.fmade, .pv (encSl (rI .u8) a0.fb), aI a0.fe] false] = some (.ret vv, H1) ∧ (vv = .tup [] ∧ H1 = [.box [aB a0.fmade, .pv .nils, aI a1] false]) := by
  unfold codec_Reader_fail at hm
  obtain ⟨n, rfl, h0⟩ := at1_some hm
  replace hm := h0; clear h0
  refine callE 11 [(0, .ptr 0 0), (1, aI a1)] func54 rfl (by kernel_rfl) (det [] [.box [aB a0.fmade, .pv .nils, aI a1] false] (by kernel_rfl) ?_)
  obtain rfl := Option.some.inj hm
  exact ⟨trivial, .tup [], [.box [aB a0.fmade, .pv .nils, aI a1] false], by kernel_rfl, rfl, rfl⟩
theorem ok_codec_Reader_take {n : Nat} {a0 : codec_Reader} {a1 : Int} {r : (Option (List Int)) × Int × (Option (List Int)) × Bool} (hm : codec_Reader_take n a0 a1 = some r) :
    ∃ vv H1, call G n 55 [.ptr 0 0, aI a1] [.box [aB a0.fmade, .pv (encSl (rI .u8) a0.fb), aI a0.fe] false] = some (.ret vv, H1) ∧ (match r with | (r0, r1, r2, r3) => (vv = .tup [.pv (encSl (rI .u8) r2), aB r3] ∧ H1 = [.box [aB a0.fmade, .pv (encSl (rI .u8) r0), aI r1] false])) := by
  unfold codec_Reader_take at hm
  obtain ⟨n, rfl, h0⟩ := at1_some hm
  replace hm := h0; clear h0
  refine callE 32 [(0, .ptr 0 0), (1, aI a1)] func55 rfl (by kernel_rfl) (sq (detn [(0, .ptr 0 0), (1, aI a1)] (by kernel_rfl) ?_))
  refine sq (sq (rg (sh 5 [(11, .pv (encSl (rI .u8) a0.fb)), (10, .ptr 0 1), (9, .ptr 0 0), (8, .ptr 0 0), (7, aI a1)] (by kernel_rfl) (dv 12 (v := aI ((sll a0.fb).length : Int)) (len_slO (rI .u8) a0.fb t35 (by kernel_rfl)) (by kernel_rfl) (sh 1 [(13, aB (decide (a1 > ((sll a0.fb).length : Int))))] (by kernel_rfl) (fin [(0, .ptr 0 0), (1, aI a1), (13, aB (decide (a1 > ((sll a0.fb).length : Int))))] rfl (by kernel_rfl) ?_))))))
  rcases bif_some hm with ⟨h1, hm⟩ | ⟨h1, hm⟩
  ·
   refine ct h1 (by kernel_rfl) (sq (rg (sh 1 [(14, .ptr 0 0)] (by kernel_rfl) ?_)))
   obtain ⟨_, h2, hm⟩ := bs hm
   obtain ⟨vv, H1, hC, rfl, rfl⟩ := ok_codec_Reader_fail h2
   refine dR [(15, .tup [])] [.box [aB a0.fmade, .pv .nils, aI 21] false] [0] [.ptr 0 0, aI 21] (by kernel_rfl) (by kernel_rfl) (by kernel_rfl) hC (by kernel_rfl) (fin [] rfl (by kernel_rfl) (sq (detn [(4, .pv .nils), (5, aB false)] (by kernel_rfl) (wp_ret ?_))))
   obtain rfl := Option.some.inj hm
   exact ⟨trivial, .tup [.pv .nils, aB false], [.box [aB a0.fmade, .pv .nils, aI 21] false], by kernel_rfl, rfl, rfl⟩
  ·
   refine cf h1 (by kernel_rfl) (wp_skip (sq (rg (sh 5 [(20, aI a1), (19, .pv (encSl (rI .u8) a0.fb)), (18, .ptr 0 1), (17, .ptr 0 0), (16, .ptr 0 0)] (by kernel_rfl) ?_))))
   obtain ⟨_, h3, hm⟩ := bs hm
   refine dv 21 (v := .pv (encSl (rI .u8) (subSl a0.fb 0 a1))) (slice_slO (rI .u8) a0.fb (k := .i64) (k' := .i64) (xl := none) (xh := some (aI a1)) (esz := 1) h3 (fun _ => rfl) (.inl ⟨rfl, rfl⟩) (.inr rfl) (by kernel_rfl)) (by kernel_rfl) (sh 1 [(6, .pv (encSl (rI .u8) (subSl a0.fb 0 a1)))] (by kernel_rfl) (fin [(0, .ptr 0 0), (1, aI a1), (6, .pv (encSl (rI .u8) (subSl a0.fb 0 a1)))] rfl (by kernel_rfl) (sq (rg (sh 6 [(27, aI a1), (26, .pv (encSl (rI .u8) a0.fb)), (25, .ptr 0 1), (24, .ptr 0 0), (23, .ptr 0 0), (22, .ptr 0 0)] (by kernel_rfl) ?_)))))
   obtain ⟨_, h4, hm⟩ := bs hm
   refine dv 28 (v := .pv (encSl (rI .u8) (subSl a0.fb a1 ((sll a0.fb).length : Int)))) (slice_slO (rI .u8) a0.fb (k := .i64) (k' := .i64) (xl := some (aI a1)) (xh := none) (esz := 1) h4 (fun _ => rfl) (.inr rfl) (.inl ⟨rfl, rfl⟩) (by kernel_rfl)) (by kernel_rfl) (st 3 [(30, .ptr 0 1), (29, .ptr 0 0)] [.box [aB a0.fmade, .pv (encSl (rI .u8) (subSl a0.fb a1 ((sll a0.fb).length : Int))), aI a0.fe] false] (by kernel_rfl) (fin [(6, .pv (encSl (rI .u8) (subSl a0.fb 0 a1)))] rfl (by kernel_rfl) (sq (detn [(4, .pv (encSl (rI .u8) (subSl a0.fb 0 a1))), (5, aB true)] (by kernel_rfl) (wp_ret ?_)))))
   obtain rfl := Option.some.inj hm
   exact ⟨trivial, .tup [.pv (encSl (rI .u8) (subSl a0.fb 0 a1)), aB true], [.box [aB a0.fmade, .pv (encSl (rI .u8) (subSl a0.fb a1 ((sll a0.fb).length : Int))), aI a0.fe] false], by kernel_rfl, rfl, rfl⟩
theorem ok_codec_Reader_number {n : Nat} {a0 : codec_Reader} {r : Bool × (Option (List Int)) × Int × Int × Bool} (hm : codec_Reader_number n a0 = some r) :
    ∃ vv H1, call G n 53 [.ptr 0 0] [.box [aB a0.fmade, .pv (encSl (rI .u8) a0.fb), aI a0.fe] false] = some (.ret vv, H1) ∧ (match r with | (r0, r1, r2, r3, r4) => (vv = .tup [aU r3, aB r4] ∧ H1 = [.box [aB r0, .pv (encSl (rI .u8) r1), aI r2] false])) := by
  unfold codec_Reader_number at hm
  obtain ⟨n, rfl, h0⟩ := at1_some hm
  replace hm := h0; clear h0
  refine callE 52 [(0, .ptr 0 0)] func53 rfl (by kernel_rfl) (sq (detn [(0, .ptr 0 0), (2, aU 0)] (by kernel_rfl) (scq (sq (detn [(0, .ptr 0 0), (2, aU 0), (4, aI 22)] (by kernel_rfl) ?_)))))
  refine sq (sq (detn [(0, .ptr 0 0), (2, aU 0), (4, aI 22), (5, aI 0)] (by kernel_rfl) (bq ?_)))
  refine loopF (fun mm t H => (∃ (y10 : Bool) (y11 : (Option (List Int))) (y12 : Int) (y13 : Int) (y14 : Int), codec_Reader_number_l4 n mm y10 y11 y12 y13 y14 = some r ∧ t = mk 52 [(0, .ptr 0 0), (2, aU y13), (4, aI 22), (5, aI y14)] ∧ H = [.box [aB y10, .pv (encSl (rI .u8) y11), aI y12] false])) (⟨a0.fmade, a0.fb, a0.fe, 0, 0, hm, rfl, rfl⟩) ?_ ?_
  · rintro _ _ ⟨y10, y11, y12, y13, y14, hm, _⟩; exact nomatch hm
  rintro m15 _ _ ⟨y10, y11, y12, y13, y14, hm, rfl, rfl⟩
  simp only [codec_Reader_number_l4] at hm
  refine sq (bq ?_)
  refine sq (sq (detn [(0, .ptr 0 0), (2, aU y13), (4, aI 22), (5, aI y14), (12, aB (y14 == 10))] (by kernel_rfl) ?_))
  rcases bif_some hm with ⟨h16, hm⟩ | ⟨h16, hm⟩
  ·
   refine ct h16 (by kernel_rfl) (wp_goto ?_)
   refine ⟨by kernel_rfl, ?_⟩
   refine wp_seq_r (by kernel_rfl) (wp_seq_r (by kernel_rfl) (sql (by kernel_rfl) (wp_label_l (sq (rg (sh 2 [(50, aI 22), (49, .ptr 0 0)] (by kernel_rfl) ?_))))))
   obtain ⟨_, h17, hm⟩ := bs hm
   obtain ⟨vv, H1, hC, rfl, rfl⟩ := ok_codec_Reader_fail h17
   refine dR [(51, .tup [])] [.box [aB ((codec_Reader.mk y10 y11 y12).fmade), .pv .nils, aI 22] false] [0] [.ptr 0 0, aI 22] (by kernel_rfl) (by kernel_rfl) (by kernel_rfl) hC (by kernel_rfl) (fin [] rfl (by kernel_rfl) (sq (detn [(2, aU 0), (3, aB false)] (by kernel_rfl) (wp_ret ?_))))
   obtain rfl := Option.some.inj hm
   exact ⟨trivial, .tup [aU 0, aB false], [.box [aB ((codec_Reader.mk y10 y11 y12).fmade), .pv .nils, aI 22] false], by kernel_rfl, rfl, rfl⟩
  ·
   refine cf h16 (by kernel_rfl) (wp_skip (sq (rg (sh 1 [(14, .ptr 0 0)] (by kernel_rfl) ?_))))
   obtain ⟨⟨x19, x20, x21, x22⟩, h18, hm⟩ := bs hm
   obtain ⟨vv, H1, hC, rfl, rfl⟩ := ok_codec_Reader_take h18
   refine dR [(15, .tup [.pv (encSl (rI .u8) x21), aB x22])] [.box [aB ((codec_Reader.mk y10 y11 y12).fmade), .pv (encSl (rI .u8) x19), aI x20] false] [0] [.ptr 0 0, aI 1] (by kernel_rfl) (by kernel_rfl) (by kernel_rfl) hC (by kernel_rfl) (sh 5 [(7, aB x22), (6, .pv (encSl (rI .u8) x21)), (17, aB x22), (16, .pv (encSl (rI .u8) x21)), (13, .tup [.pv (encSl (rI .u8) x21), aB x22])] (by kernel_rfl) (fin [(0, .ptr 0 0), (2, aU y13), (4, aI 22), (5, aI y14), (6, .pv (encSl (rI .u8) x21)), (7, aB x22)] rfl (by kernel_rfl) ?_))
   refine sq (sq (detn [(0, .ptr 0 0), (2, aU y13), (4, aI 22), (5, aI y14), (6, .pv (encSl (rI .u8) x21)), (19, aB (!x22))] (by kernel_rfl) ?_))
   rcases bif_some hm with ⟨h23, hm⟩ | ⟨h23, hm⟩
   ·
    refine ct h23 (by kernel_rfl) (sq (detn [(2, aU 0), (3, aB false)] (by kernel_rfl) (wp_ret ?_)))
    obtain rfl := Option.some.inj hm
    exact ⟨trivial, .tup [aU 0, aB false], [.box [aB ((codec_Reader.mk y10 y11 y12).fmade), .pv (encSl (rI .u8) x19), aI x20] false], by kernel_rfl, rfl, rfl⟩
   ·
    refine cf h23 (by kernel_rfl) (wp_skip (sq (rg (sh 1 [(20, .pv (encSl (rI .u8) x21))] (by kernel_rfl) ?_))))
    obtain ⟨x24, h25, hm⟩ := bs hm
    refine dv 21 (v := .pv (.ptr ((rI .u8) x24) 0)) (ia_slO (rI .u8) x21 .i64 t35 t5 h25 rfl (by kernel_rfl)) (by kernel_rfl) (sh 2 [(8, aY x24), (22, aY x24)] (by kernel_rfl) (fin [(0, .ptr 0 0), (2, aU y13), (4, aI 22), (5, aI y14), (8, aY x24)] rfl (by kernel_rfl) ?_))
    refine sq (sq (rg (sh 3 [(25, aB (y14 == 9)), (24, aB (y14 == 9)), (23, aI y14)] (by kernel_rfl) ?_)))
    refine seg (y14 == 9) [25, 24] (fun b => [(28, aB (b && (decide (x24 > 1)))), (27, ifA b (aB (decide (x24 > 1))) (.undef)), (26, ifA b (aY x24) (.undef))]) 6 (by kernel_rfl) ?_ ?_ ?_
    ·
     intro Q h
     refine sh 3 [(28, aB (decide (x24 > 1))), (27, aB (decide (x24 > 1))), (26, aY x24)] (by kernel_rfl) ?_
     exact sameN (by kernel_rfl) (by kernel_rfl) h
    ·
     intro Q h
     refine sh 3 [(28, aB false), (27, .undef), (26, .undef)] (by kernel_rfl) ?_
     exact sameN (by kernel_rfl) (by kernel_rfl) h
    refine sh 1 [(29, aB ((y14 == 9) && (decide (x24 > 1))))] (by kernel_rfl) ?_
    refine seg ((y14 == 9) && (decide (x24 > 1))) [29, 28] (fun b => [(36, aB (b || ((decide (y14 > 0)) && (x24 == 0)))), (35, ifA b (.undef) (aB ((decide (y14 > 0)) && (x24 == 0)))), (34, ifA b (.undef) (ifA (decide (y14 > 0)) (aB (x24 == 0)) (.undef))), (33, ifA b (.undef) (ifA (decide (y14 > 0)) (aY x24) (.undef))), (32, ifA b (.undef) (aB (decide (y14 > 0)))), (31, ifA b (.undef) (aB (decide (y14 > 0)))), (30, ifA b (.undef) (aI y14))]) 14 (by kernel_rfl) ?_ ?_ ?_
    ·
     intro Q h
     refine sh 7 [(36, aB true), (35, .undef), (34, .undef), (33, .undef), (32, .undef), (31, .undef), (30, .undef)] (by kernel_rfl) ?_
     exact sameN (by kernel_rfl) (by kernel_rfl) h
    ·
     intro Q h
     refine sh 3 [(32, aB (decide (y14 > 0))), (31, aB (decide (y14 > 0))), (30, aI y14)] (by kernel_rfl) ?_
     refine seg (decide (y14 > 0)) [32, 31] (fun b => [(35, aB (b && (x24 == 0))), (34, ifA b (aB (x24 == 0)) (.undef)), (33, ifA b (aY x24) (.undef))]) 13 (by kernel_rfl) ?_ ?_ ?_
     ·
      intro Q h
      refine sh 3 [(35, aB (x24 == 0)), (34, aB (x24 == 0)), (33, aY x24)] (by kernel_rfl) ?_
      exact sameN (by kernel_rfl) (by kernel_rfl) h
     ·
      intro Q h
      refine sh 3 [(35, aB false), (34, .undef), (33, .undef)] (by kernel_rfl) ?_
      exact sameN (by kernel_rfl) (by kernel_rfl) h
     refine sh 1 [(36, aB ((decide (y14 > 0)) && (x24 == 0)))] (by kernel_rfl) ?_
     exact sameN (by kernel_rfl) (by kernel_rfl) h
    refine fin [(0, .ptr 0 0), (2, aU y13), (4, aI 22), (5, aI y14), (8, aY x24), (36, aB (((y14 == 9) && (decide (x24 > 1))) || ((decide (y14 > 0)) && (x24 == 0))))] rfl (by kernel_rfl) ?_
    rcases bif_some hm with ⟨h26, hm⟩ | ⟨h26, hm⟩
    ·
     refine ct h26 (by kernel_rfl) (wp_goto ?_)
     refine ⟨by kernel_rfl, ?_⟩
     refine wp_seq_r (by kernel_rfl) (wp_seq_r (by kernel_rfl) (sql (by kernel_rfl) (wp_label_l (sq (rg (sh 2 [(50, aI 22), (49, .ptr 0 0)] (by kernel_rfl) ?_))))))
     obtain ⟨_, h27, hm⟩ := bs hm
     obtain ⟨vv, H1, hC, rfl, rfl⟩ := ok_codec_Reader_fail h27
     refine dR [(51, .tup [])] [.box [aB ((codec_Reader.mk ((codec_Reader.mk y10 y11 y12).fmade) x19 x20).fmade), .pv .nils, aI 22] false] [0] [.ptr 0 0, aI 22] (by kernel_rfl) (by kernel_rfl) (by kernel_rfl) hC (by kernel_rfl) (fin [] rfl (by kernel_rfl) (sq (detn [(2, aU 0), (3, aB false)] (by kernel_rfl) (wp_ret ?_))))
     obtain rfl := Option.some.inj hm
     exact ⟨trivial, .tup [aU 0, aB false], [.box [aB ((codec_Reader.mk ((codec_Reader.mk y10 y11 y12).fmade) x19 x20).fmade), .pv .nils, aI 22] false], by kernel_rfl, rfl, rfl⟩
    ·
     refine cf h26 (by kernel_rfl) (wp_skip (sq (rg (sh 7 [(43, aU (IntKind.wrap .u64 (IntKind.wrap .i64 (7 * y14)))), (42, aI (IntKind.wrap .i64 (7 * y14))), (41, aI y14), (40, aU (IntKind.wrap .u64 (iAnd .u8 x24 127))), (39, aY (iAnd .u8 x24 127)), (38, aY x24), (37, aU y13)] (by kernel_rfl) ?_))))
     obtain ⟨_, h28, hm⟩ := bs hm
     refine dv 44 (v := aU (iShl .u64 (IntKind.wrap .u64 (iAnd .u8 x24 127)) (IntKind.wrap .u64 (IntKind.wrap .i64 (7 * y14))))) (shlO h28 (by kernel_rfl)) (by kernel_rfl) (sh 2 [(2, aU (iOr .u64 y13 (iShl .u64 (IntKind.wrap .u64 (iAnd .u8 x24 127)) (IntKind.wrap .u64 (IntKind.wrap .i64 (7 * y14)))))), (45, aU (iOr .u64 y13 (iShl .u64 (IntKind.wrap .u64 (iAnd .u8 x24 127)) (IntKind.wrap .u64 (IntKind.wrap .i64 (7 * y14))))))] (by kernel_rfl) (fin [(0, .ptr 0 0), (2, aU (iOr .u64 y13 (iShl .u64 (IntKind.wrap .u64 (iAnd .u8 x24 127)) (IntKind.wrap .u64 (IntKind.wrap .i64 (7 * y14)))))), (4, aI 22), (5, aI y14), (8, aY x24)] rfl (by kernel_rfl) (sq (detn [(0, .ptr 0 0), (2, aU (iOr .u64 y13 (iShl .u64 (IntKind.wrap .u64 (iAnd .u8 x24 127)) (IntKind.wrap .u64 (IntKind.wrap .i64 (7 * y14)))))), (4, aI 22), (5, aI y14), (47, aB (decide (x24 < 128)))] (by kernel_rfl) ?_))))
     rcases bif_some hm with ⟨h29, hm⟩ | ⟨h29, hm⟩
     ·
      refine ct h29 (by kernel_rfl) (sq (detn [(2, aU (iOr .u64 y13 (iShl .u64 (IntKind.wrap .u64 (iAnd .u8 x24 127)) (IntKind.wrap .u64 (IntKind.wrap .i64 (7 * y14)))))), (3, aB true)] (by kernel_rfl) (wp_ret ?_)))
      obtain rfl := Option.some.inj hm
      exact ⟨trivial, .tup [aU (iOr .u64 y13 (iShl .u64 (IntKind.wrap .u64 (iAnd .u8 x24 127)) (IntKind.wrap .u64 (IntKind.wrap .i64 (7 * y14))))), aB true], [.box [aB ((codec_Reader.mk y10 y11 y12).fmade), .pv (encSl (rI .u8) x19), aI x20] false], by kernel_rfl, rfl, rfl⟩
     ·
      refine cf h29 (by kernel_rfl) (wp_skip (detn [(0, .ptr 0 0), (2, aU (iOr .u64 y13 (iShl .u64 (IntKind.wrap .u64 (iAnd .u8 x24 127)) (IntKind.wrap .u64 (IntKind.wrap .i64 (7 * y14)))))), (4, aI 22), (5, aI (IntKind.wrap .i64 (y14 + 1)))] (by kernel_rfl) ?_))
      exact ⟨_, _, tidyL [(0, .ptr 0 0), (2, aU (iOr .u64 y13 (iShl .u64 (IntKind.wrap .u64 (iAnd .u8 x24 127)) (IntKind.wrap .u64 (IntKind.wrap .i64 (7 * y14)))))), (4, aI 22), (5, aI (IntKind.wrap .i64 (y14 + 1)))] [.box [aB ((codec_Reader.mk y10 y11 y12).fmade), .pv (encSl (rI .u8) x19), aI x20] false] (by kernel_rfl), ⟨((codec_Reader.mk y10 y11 y12).fmade), x19, x20, (iOr .u64 y13 (iShl .u64 (IntKind.wrap .u64 (iAnd .u8 x24 127)) (IntKind.wrap .u64 (IntKind.wrap .i64 (7 * y14))))), (IntKind.wrap .i64 (y14 + 1)), hm, rfl, rfl⟩⟩
theorem ok_codec_Reader_Uint {n : Nat} {a0 : codec_Reader} {a1 : Int} {r : Bool × (Option (List Int)) × Int × Int} (hm : codec_Reader_Uint n a0 a1 = some r) :
    ∃ vv H1, call G n 33 [.ptr 0 0, aU a1] [.box [aB a0.fmade, .pv (encSl (rI .u8) a0.fb), aI a0.fe] false] = some (.ret vv, H1) ∧ (match r with | (r0, r1, r2, r3) => (vv = aU r3 ∧ H1 = [.box [aB r0, .pv (encSl (rI .u8) r1), aI r2] false])) := by
  unfold codec_Reader_Uint at hm
  obtain ⟨n, rfl, h0⟩ := at1_some hm
  replace hm := h0; clear h0
  refine callE 24 [(0, .ptr 0 0), (1, aU a1)] func33 rfl (by kernel_rfl) (sq (detn [(0, .ptr 0 0), (1, aU a1)] (by kernel_rfl) ?_))
  refine sq (sq (rg (sh 1 [(7, .ptr 0 0)] (by kernel_rfl) ?_)))
  obtain ⟨_, h1, hm⟩ := bs hm
  obtain ⟨vv, H1, hC, rfl, rfl⟩ := ok_codec_Reader_ready h1
  refine dR [(8, aB (a0.fmade && (a0.fe == 0)))] [.box [aB a0.fmade, .pv (encSl (rI .u8) a0.fb), aI a0.fe] false] [0] [.ptr 0 0] (by kernel_rfl) (by kernel_rfl) (by kernel_rfl) hC (by kernel_rfl) (sh 1 [(9, aB (!(a0.fmade && (a0.fe == 0))))] (by kernel_rfl) (fin [(0, .ptr 0 0), (1, aU a1), (9, aB (!(a0.fmade && (a0.fe == 0))))] rfl (by kernel_rfl) ?_))
  rcases bif_some hm with ⟨h2, hm⟩ | ⟨h2, hm⟩
  ·
   refine ct h2 (by kernel_rfl) (sq (detn [(4, aU 0)] (by kernel_rfl) (wp_ret ?_)))
   obtain rfl := Option.some.inj hm
   exact ⟨trivial, aU 0, [.box [aB a0.fmade, .pv (encSl (rI .u8) a0.fb), aI a0.fe] false], by kernel_rfl, rfl, rfl⟩
  ·
   refine cf h2 (by kernel_rfl) (wp_skip (sq (rg (sh 1 [(11, .ptr 0 0)] (by kernel_rfl) ?_))))
   obtain ⟨⟨x4, x5, x6, x7, x8⟩, h3, hm⟩ := bs hm
   obtain ⟨vv, H1, hC, rfl, rfl⟩ := ok_codec_Reader_number h3
   refine dR [(12, .tup [aU x7, aB x8])] [.box [aB x4, .pv (encSl (rI .u8) x5), aI x6] false] [0] [.ptr 0 0] (by kernel_rfl) (by kernel_rfl) (by kernel_rfl) hC (by kernel_rfl) (sh 5 [(6, aB x8), (5, aU x7), (14, aB x8), (13, aU x7), (10, .tup [aU x7, aB x8])] (by kernel_rfl) (fin [(0, .ptr 0 0), (1, aU a1), (5, aU x7), (6, aB x8)] rfl (by kernel_rfl) (sq (sq (rg (sh 2 [(16, aB x8), (15, aB x8)] (by kernel_rfl) ?_))))))
   refine seg x8 [16, 15, 6] (fun b => [(20, aB (b && (decide (x7 > a1)))), (19, ifA b (aB (decide (x7 > a1))) (.undef)), (18, ifA b (aU a1) (.undef)), (17, ifA b (aU x7) (.undef))]) 6 (by kernel_rfl) ?_ ?_ ?_
   ·
    intro Q h
    refine sh 4 [(20, aB (decide (x7 > a1))), (19, aB (decide (x7 > a1))), (18, aU a1), (17, aU x7)] (by kernel_rfl) ?_
    exact sameN (by kernel_rfl) (by kernel_rfl) h
   ·
    intro Q h
    refine sh 4 [(20, aB false), (19, .undef), (18, .undef), (17, .undef)] (by kernel_rfl) ?_
    exact sameN (by kernel_rfl) (by kernel_rfl) h
   refine fin [(0, .ptr 0 0), (5, aU x7), (20, aB (x8 && (decide (x7 > a1))))] rfl (by kernel_rfl) ?_
   rcases bif_some hm with ⟨h9, hm⟩ | ⟨h9, hm⟩
   ·
    refine ct h9 (by kernel_rfl) (sq (rg (sh 1 [(21, .ptr 0 0)] (by kernel_rfl) ?_)))
    obtain ⟨_, h10, hm⟩ := bs hm
    obtain ⟨vv, H1, hC, rfl, rfl⟩ := ok_codec_Reader_fail h10
    refine dR [(22, .tup [])] [.box [aB ((codec_Reader.mk x4 x5 x6).fmade), .pv .nils, aI 3] false] [0] [.ptr 0 0, aI 3] (by kernel_rfl) (by kernel_rfl) (by kernel_rfl) hC (by kernel_rfl) (fin [] rfl (by kernel_rfl) (sq (detn [(4, aU 0)] (by kernel_rfl) (wp_ret ?_))))
    obtain rfl := Option.some.inj hm
    exact ⟨trivial, aU 0, [.box [aB ((codec_Reader.mk x4 x5 x6).fmade), .pv .nils, aI 3] false], by kernel_rfl, rfl, rfl⟩
   ·
    refine cf h9 (by kernel_rfl) (wp_skip (sq (detn [(4, aU x7)] (by kernel_rfl) (wp_ret ?_))))
    obtain rfl := Option.some.inj hm
    exact ⟨trivial, aU x7, [.box [aB x4, .pv (encSl (rI .u8) x5), aI x6] false], by kernel_rfl, rfl, rfl⟩
theorem ok_codec_Reader_Text {n : Nat} {a0 : codec_Reader} {a1 : Int} {r : Bool × (Option (List Int)) × Int × ByteArray} (hm : codec_Reader_Text n a0 a1 = some r) :
    ∃ vv H1, call G n 37 [.ptr 0 0, aI a1] [.box [aB a0.fmade, .pv (encSl (rI .u8) a0.fb), aI a0.fe] false] = some (.ret vv, H1) ∧ (match r with | (r0, r1, r2, r3) => (vv = aS r3 ∧ H1 = [.box [aB r0, .pv (encSl (rI .u8) r1), aI r2] false])) := by
  unfold codec_Reader_Text at hm
  obtain ⟨n, rfl, h0⟩ := at1_some hm
  replace hm := h0; clear h0
  refine callE 25 [(0, .ptr 0 0), (1, aI a1)] func37 rfl (by kernel_rfl) (sq (detn [(0, .ptr 0 0), (1, aI a1)] (by kernel_rfl) (sq (rg (sh 4 [(11, aU (IntKind.wrap .u64 (if 0 > a1 then 0 else a1))), (10, aI (if 0 > a1 then 0 else a1)), (9, aI a1), (8, .ptr 0 0)] (by kernel_rfl) ?_)))))
  obtain ⟨⟨x2, x3, x4, x5⟩, h1, hm⟩ := bs hm
  obtain ⟨vv, H1, hC, rfl, rfl⟩ := ok_codec_Reader_Uint h1
  refine dR [(12, aU x5)] [.box [aB x2, .pv (encSl (rI .u8) x3), aI x4] false] [0] [.ptr 0 0, aU (IntKind.wrap .u64 (if 0 > a1 then 0 else a1))] (by kernel_rfl) (by kernel_rfl) (by kernel_rfl) hC (by kernel_rfl) (sh 1 [(5, aU x5)] (by kernel_rfl) (fin [(0, .ptr 0 0), (5, aU x5)] rfl (by kernel_rfl) ?_))
  refine sq (sq (rg (sh 1 [(13, .ptr 0 0)] (by kernel_rfl) ?_)))
  obtain ⟨_, h6, hm⟩ := bs hm
  obtain ⟨vv, H1, hC, rfl, rfl⟩ := ok_codec_Reader_ready h6
  refine dR [(14, aB ((codec_Reader.mk x2 x3 x4).fmade && ((codec_Reader.mk x2 x3 x4).fe == 0)))] [.box [aB x2, .pv (encSl (rI .u8) x3), aI x4] false] [0] [.ptr 0 0] (by kernel_rfl) (by kernel_rfl) (by kernel_rfl) hC (by kernel_rfl) (sh 1 [(15, aB (!((codec_Reader.mk x2 x3 x4).fmade && ((codec_Reader.mk x2 x3 x4).fe == 0))))] (by kernel_rfl) (fin [(0, .ptr 0 0), (5, aU x5), (15, aB (!((codec_Reader.mk x2 x3 x4).fmade && ((codec_Reader.mk x2 x3 x4).fe == 0))))] rfl (by kernel_rfl) ?_))
  rcases bif_some hm with ⟨h7, hm⟩ | ⟨h7, hm⟩
  ·
   refine ct h7 (by kernel_rfl) (sq (detn [(4, aS ByteArray.empty)] (by kernel_rfl) (wp_ret ?_)))
   obtain rfl := Option.some.inj hm
   exact ⟨trivial, aS ByteArray.empty, [.box [aB x2, .pv (encSl (rI .u8) x3), aI x4] false], by kernel_rfl, rfl, rfl⟩
  ·
   refine cf h7 (by kernel_rfl) (wp_skip (sq (rg (sh 3 [(19, aI (IntKind.wrap .i64 x5)), (18, aU x5), (17, .ptr 0 0)] (by kernel_rfl) ?_))))
   obtain ⟨⟨x9, x10, x11, x12⟩, h8, hm⟩ := bs hm
   obtain ⟨vv, H1, hC, rfl, rfl⟩ := ok_codec_Reader_take h8
   refine dR [(20, .tup [.pv (encSl (rI .u8) x11), aB x12])] [.box [aB ((codec_Reader.mk x2 x3 x4).fmade), .pv (encSl (rI .u8) x9), aI x10] false] [0] [.ptr 0 0, aI (IntKind.wrap .i64 x5)] (by kernel_rfl) (by kernel_rfl) (by kernel_rfl) hC (by kernel_rfl) (sh 5 [(7, aB x12), (6, .pv (encSl (rI .u8) x11)), (22, aB x12), (21, .pv (encSl (rI .u8) x11)), (16, .tup [.pv (encSl (rI .u8) x11), aB x12])] (by kernel_rfl) (fin [(6, .pv (encSl (rI .u8) x11))] rfl (by kernel_rfl) (sq (rg (sh 1 [(23, .pv (encSl (rI .u8) x11))] (by kernel_rfl) (dv 24 (v := aS (strOf (sll x11))) (str_ofO (l := (sll x11)) t35 t9 t5 (src_sl (R := (rI .u8)) (s := x11)) (noStr_sl x11) (by kernel_rfl)) (by kernel_rfl) (sh 1 [(4, aS (strOf (sll x11)))] (by kernel_rfl) (fin [(4, aS (strOf (sll x11)))] rfl (by kernel_rfl) (wp_ret ?_)))))))))
   obtain rfl := Option.some.inj hm
   exact ⟨trivial, aS (strOf (sll x11)), [.box [aB ((codec_Reader.mk x2 x3 x4).fmade), .pv (encSl (rI .u8) x9), aI x10] false], by kernel_rfl, rfl, rfl⟩
theorem ok_codec_Reader_Fixed {n : Nat} {a0 : codec_Reader} {a1 : Int} {r : (Option (List Int)) × Int × Int} (hm : codec_Reader_Fixed n a0 a1 = some r) :
    ∃ vv H1, call G n 41 [.ptr 0 0, aI a1] [.box [aB a0.fmade, .pv (encSl (rI .u8) a0.fb), aI a0.fe] false] = some (.ret vv, H1) ∧ (match r with | (r0, r1, r2) => (vv = aU r2 ∧ H1 = [.box [aB a0.fmade, .pv (encSl (rI .u8) r0), aI r1] false])) := by
  unfold codec_Reader_Fixed at hm
  obtain ⟨n, rfl, h0⟩ := at1_some hm
  replace hm := h0; clear h0
  refine callE 34 [(0, .ptr 0 0), (1, aI a1)] func41 rfl (by kernel_rfl) (sq (detn [(0, .ptr 0 0), (1, aI a1)] (by kernel_rfl) ?_))
  refine sq (sq (rg (sh 1 [(10, .ptr 0 0)] (by kernel_rfl) ?_)))
  obtain ⟨_, h1, hm⟩ := bs hm
  obtain ⟨vv, H1, hC, rfl, rfl⟩ := ok_codec_Reader_ready h1
  refine dR [(11, aB (a0.fmade && (a0.fe == 0)))] [.box [aB a0.fmade, .pv (encSl (rI .u8) a0.fb), aI a0.fe] false] [0] [.ptr 0 0] (by kernel_rfl) (by kernel_rfl) (by kernel_rfl) hC (by kernel_rfl) (sh 1 [(12, aB (!(a0.fmade && (a0.fe == 0))))] (by kernel_rfl) (fin [(0, .ptr 0 0), (1, aI a1), (12, aB (!(a0.fmade && (a0.fe == 0))))] rfl (by kernel_rfl) ?_))
  rcases bif_some hm with ⟨h2, hm⟩ | ⟨h2, hm⟩
  ·
   refine ct h2 (by kernel_rfl) (sq (detn [(4, aU 0)] (by kernel_rfl) (wp_ret ?_)))
   obtain rfl := Option.some.inj hm
   exact ⟨trivial, aU 0, [.box [aB a0.fmade, .pv (encSl (rI .u8) a0.fb), aI a0.fe] false], by kernel_rfl, rfl, rfl⟩
  ·
   refine cf h2 (by kernel_rfl) (wp_skip (sq (rg (sh 4 [(17, aI (if 8 < (if 0 > a1 then 0 else a1) then 8 else (if 0 > a1 then 0 else a1))), (16, aI (if 0 > a1 then 0 else a1)), (15, aI a1), (14, .ptr 0 0)] (by kernel_rfl) ?_))))
   obtain ⟨⟨x4, x5, x6, x7⟩, h3, hm⟩ := bs hm
   obtain ⟨vv, H1, hC, rfl, rfl⟩ := ok_codec_Reader_take h3
   refine dR [(18, .tup [.pv (encSl (rI .u8) x6), aB x7])] [.box [aB a0.fmade, .pv (encSl (rI .u8) x4), aI x5] false] [0] [.ptr 0 0, aI (if 8 < (if 0 > a1 then 0 else a1) then 8 else (if 0 > a1 then 0 else a1))] (by kernel_rfl) (by kernel_rfl) (by kernel_rfl) hC (by kernel_rfl) (sh 5 [(6, aB x7), (5, .pv (encSl (rI .u8) x6)), (20, aB x7), (19, .pv (encSl (rI .u8) x6)), (13, .tup [.pv (encSl (rI .u8) x6), aB x7])] (by kernel_rfl) (fin [(5, .pv (encSl (rI .u8) x6))] rfl (by kernel_rfl) (sq (detn [(5, .pv (encSl (rI .u8) x6)), (7, aU 0)] (by kernel_rfl) ?_))))
   obtain ⟨k11, hk11, hm⟩ := withK_some hm
   refine mid (fun t H => (∃ (y8 : Int) (y9 : Bool) (y10 : Int), k11 y10 = some r ∧ t = mk 34 [(7, aU y10), (21, .pv (encSl (rI .u8) x6)), (22, aI ((sll x6).length : Int)), (23, aI y8), (24, aB y9)] ∧ H = [.box [aB a0.fmade, .pv (encSl (rI .u8) x4), aI x5] false])) ?_ ?_
   ·
    rintro _ _ ⟨y8, y9, y10, hm, rfl, rfl⟩
    subst hk11
    refine sq (detn [(4, aU y10)] (by kernel_rfl) (wp_ret ?_))
    obtain rfl := Option.some.inj hm
    exact ⟨trivial, aU y10, [.box [aB a0.fmade, .pv (encSl (rI .u8) x4), aI x5] false], by kernel_rfl, rfl, rfl⟩
   refine sq (rg (sh 1 [(21, .pv (encSl (rI .u8) x6))] (by kernel_rfl) (dv 22 (v := aI ((sll x6).length : Int)) (len_slO (rI .u8) x6 t35 (by kernel_rfl)) (by kernel_rfl) (sh 1 [(23, aI 0)] (by kernel_rfl) (fin [(7, aU 0), (21, .pv (encSl (rI .u8) x6)), (22, aI ((sll x6).length : Int)), (23, aI 0)] rfl (by kernel_rfl) (bq ?_))))))
   refine loopF (fun mm t H => (∃ (y14 : Int) (y15 : Int), codec_Reader_Fixed_l6 n x6 k11 mm y14 y15 = some r ∧ t = mk 34 [(7, aU y15), (21, .pv (encSl (rI .u8) x6)), (22, aI ((sll x6).length : Int)), (23, aI y14)] ∧ H = [.box [aB a0.fmade, .pv (encSl (rI .u8) x4), aI x5] false])) (⟨0, 0, hm, rfl, rfl⟩) ?_ ?_
   · rintro _ _ ⟨y14, y15, hm, _⟩; exact nomatch hm
   rintro m16 _ _ ⟨y14, y15, hm, rfl, rfl⟩
   simp only [codec_Reader_Fixed_l6] at hm
   refine sq (detn [(7, aU y15), (21, .pv (encSl (rI .u8) x6)), (22, aI ((sll x6).length : Int)), (23, aI y14), (24, aB (decide (y14 < ((sll x6).length : Int))))] (by kernel_rfl) ?_)
   refine sq ?_
   rcases bif_some hm with ⟨h17, hm⟩ | ⟨h17, hm⟩
   ·
    refine ct h17 (by kernel_rfl) (wp_skip (sq (bq (sq (rg ?_)))))
    obtain ⟨x18, h19, hm⟩ := bs hm
    refine dv 25 (v := .pv (.ptr ((rI .u8) x18) 0)) (ia_slO (rI .u8) x6 .i64 t35 t5 h19 rfl (by kernel_rfl)) (by kernel_rfl) (sh 2 [(9, aY x18), (26, aY x18)] (by kernel_rfl) (fin [(7, aU y15), (9, aY x18), (21, .pv (encSl (rI .u8) x6)), (22, aI ((sll x6).length : Int)), (23, aI y14)] rfl (by kernel_rfl) (detn [(7, aU (iOr .u64 (iShl .u64 y15 8) (IntKind.wrap .u64 x18))), (21, .pv (encSl (rI .u8) x6)), (22, aI ((sll x6).length : Int)), (23, aI y14)] (by kernel_rfl) (detn [(7, aU (iOr .u64 (iShl .u64 y15 8) (IntKind.wrap .u64 x18))), (21, .pv (encSl (rI .u8) x6)), (22, aI ((sll x6).length : Int)), (23, aI (IntKind.wrap .i64 (y14 + 1)))] (by kernel_rfl) ?_))))
    exact ⟨_, _, tidyL [(7, aU (iOr .u64 (iShl .u64 y15 8) (IntKind.wrap .u64 x18))), (21, .pv (encSl (rI .u8) x6)), (22, aI ((sll x6).length : Int)), (23, aI (IntKind.wrap .i64 (y14 + 1)))] [.box [aB a0.fmade, .pv (encSl (rI .u8) x4), aI x5] false] (by kernel_rfl), ⟨(IntKind.wrap .i64 (y14 + 1)), (iOr .u64 (iShl .u64 y15 8) (IntKind.wrap .u64 x18)), hm, rfl, rfl⟩⟩
   ·
    refine cf h17 (by kernel_rfl) (wp_exit ?_)
    exact ⟨y14, (decide (y14 < ((sll x6).length : Int))), y15, hm, rfl, rfl⟩
theorem ok_codec_Reader_Byte {n : Nat} {a0 : codec_Reader} {r : (Option (List Int)) × Int × Int} (hm : codec_Reader_Byte n a0 = some r) :
    ∃ vv H1, call G n 35 [.ptr 0 0] [.box [aB a0.fmade, .pv (encSl (rI .u8) a0.fb), aI a0.fe] false] = some (.ret vv, H1) ∧ (match r with | (r0, r1, r2) => (vv = aY r2 ∧ H1 = [.box [aB a0.fmade, .pv (encSl (rI .u8) r0), aI r1] false])) := by
  unfold codec_Reader_Byte at hm
  obtain ⟨n, rfl, h0⟩ := at1_some hm
  replace hm := h0; clear h0
  refine callE 6 [(0, .ptr 0 0)] func35 rfl (by kernel_rfl) (sq (detn [(0, .ptr 0 0)] (by kernel_rfl) (sq (rg (sh 1 [(3, .ptr 0 0)] (by kernel_rfl) ?_)))))
  obtain ⟨⟨x2, x3, x4⟩, h1, hm⟩ := bs hm
  obtain ⟨vv, H1, hC, rfl, rfl⟩ := ok_codec_Reader_Fixed h1
  refine dR [(4, aU x4)] [.box [aB a0.fmade, .pv (encSl (rI .u8) x2), aI x3] false] [0] [.ptr 0 0, aI 1] (by kernel_rfl) (by kernel_rfl) (by kernel_rfl) hC (by kernel_rfl) (sh 2 [(2, aY (IntKind.wrap .u8 x4)), (5, aY (IntKind.wrap .u8 x4))] (by kernel_rfl) (fin [(2, aY (IntKind.wrap .u8 x4))] rfl (by kernel_rfl) (wp_ret ?_)))
  obtain rfl := Option.some.inj hm
  exact ⟨trivial, aY (IntKind.wrap .u8 x4), [.box [aB a0.fmade, .pv (encSl (rI .u8) x2), aI x3] false], by kernel_rfl, rfl, rfl⟩
theorem ok_codec_Reader_Err {n : Nat} {a0 : codec_Reader} {r : Int} (hm : codec_Reader_Err n a0 = some r) :
    ∃ vv H1, call G n 34 [.ptr 0 0] [.box [aB a0.fmade, .pv (encSl (rI .u8) a0.fb), aI a0.fe] false] = some (.ret vv, H1) ∧ (match r with | r0 => (vv = aI r0 ∧ H1 = [.box [aB a0.fmade, .pv (encSl (rI .u8) a0.fb), aI a0.fe] false])) := by
  unfold codec_Reader_Err at hm
  obtain ⟨n, rfl, h0⟩ := at1_some hm
  replace hm := h0; clear h0
  refine callE 16 [(0, .ptr 0 0)] func34 rfl (by kernel_rfl) (sq (detn [(0, .ptr 0 0)] (by kernel_rfl) (sq (sq (detn [(0, .ptr 0 0), (11, aB (!a0.fmade))] (by kernel_rfl) ?_)))))
  rcases bif_some hm with ⟨h1, hm⟩ | ⟨h1, hm⟩
  ·
   refine ct h1 (by kernel_rfl) (sq (detn [(2, aI 1)] (by kernel_rfl) (wp_ret ?_)))
   obtain rfl := Option.some.inj hm
   exact ⟨trivial, aI 1, [.box [aB a0.fmade, .pv (encSl (rI .u8) a0.fb), aI a0.fe] false], by kernel_rfl, rfl, rfl⟩
  ·
   refine cf h1 (by kernel_rfl) (wp_skip (sq (detn [(2, aI a0.fe)] (by kernel_rfl) (wp_ret ?_))))
   obtain rfl := Option.some.inj hm
   exact ⟨trivial, aI a0.fe, [.box [aB a0.fmade, .pv (encSl (rI .u8) a0.fb), aI a0.fe] false], by kernel_rfl, rfl, rfl⟩
theorem ok_schema_Take {n : Nat} {a0 : codec_Reader} {r : Bool × (Option (List Int)) × Int × ByteArray × (Option (List api_Column)) × Int} (hm : schema_Take n a0 = some r) :
    ∃ vv H1, call G n 43 [.ptr 0 0] [.box [aB a0.fmade, .pv (encSl (rI .u8) a0.fb), aI a0.fe] false] = some (.ret vv, H1) ∧ (match r with | (r0, r1, r2, r3, none, r4) => (vv = .tup [.agg [aS r3, .pv .nils], aI r4] ∧ H1 = [.box [aB r0, .pv (encSl (rI .u8) r1), aI r2] false]) | (r0, r1, r2, r3, some r5, r4) => (vv = .tup [.agg [aS r3, aR 1 2 r5.length], aI r4] ∧ H1 = [.box [aB r0, .pv (encSl (rI .u8) r1), aI r2] false, bR 72 2 R_api_Column r5 0 0])) := by
  unfold schema_Take at hm
  obtain ⟨n, rfl, h0⟩ := at1_some hm
  replace hm := h0; clear h0
  refine callE 39 [(0, .ptr 0 0)] func43 rfl (by kernel_rfl) (sq (det [(0, .ptr 0 0), (2, .ptr 1 0)] [.box [aB a0.fmade, .pv (encSl (rI .u8) a0.fb), aI a0.fe] false, .box [aS ByteArray.empty, .pv .nils] false] (by kernel_rfl) (sq (rg (sh 1 [(7, .ptr 0 0)] (by kernel_rfl) ?_)))))
  obtain ⟨⟨x2, x3, x4, x5⟩, h1, hm⟩ := bs hm
  obtain ⟨vv, H1, hC, rfl, rfl⟩ := ok_codec_Reader_Text h1
  refine dR [(8, aS x5)] [.box [aB x2, .pv (encSl (rI .u8) x3), aI x4] false, .box [aS ByteArray.empty, .pv .nils] false] [0] [.ptr 0 0, aI 20] (by kernel_rfl) (by kernel_rfl) (by kernel_rfl) hC (by kernel_rfl) (st 3 [(4, .ptr 2 0), (9, .agg [aS x5, .pv .nils])] [.box [aB x2, .pv (encSl (rI .u8) x3), aI x4] false, .box [aS ByteArray.empty, .pv .nils] false, .box [aS x5, .pv .nils] false] (by kernel_rfl) (fin [(0, .ptr 0 0), (2, .ptr 1 0), (4, .ptr 2 0)] rfl (by kernel_rfl) ?_))
  obtain ⟨k13, hk13, hm⟩ := withK_some hm
  refine mid (fun t H => (∃ (y6 : Bool) (y7 : (Option (List Int))) (y8 : Int) (y10 : Int) (y11 : Int) (y12 : Bool), k13 y6 y7 y8 none = some r ∧ t = mk 39 [(0, .ptr 0 0), (2, .ptr 1 0), (4, .ptr 2 0), (11, aU y10), (12, aU y11), (13, aB y12)] ∧ H = [.box [aB y6, .pv (encSl (rI .u8) y7), aI y8] false, .box [aS ByteArray.empty, .pv .nils] false, .box [aS x5, .pv .nils] false]) ∨ (∃ (y6 : Bool) (y7 : (Option (List Int))) (y8 : Int) (y9 : (List api_Column)) (y10 : Int) (y11 : Int) (y12 : Bool), k13 y6 y7 y8 (some y9) = some r ∧ t = mk 39 [(0, .ptr 0 0), (2, .ptr 1 0), (4, .ptr 2 0), (11, aU y10), (12, aU y11), (13, aB y12)] ∧ H = [.box [aB y6, .pv (encSl (rI .u8) y7), aI y8] false, .box [aS ByteArray.empty, .pv .nils] false, .box [aS x5, aR 3 2 y9.length] false, bR 72 2 R_api_Column y9 0 0])) ?_ ?_
  ·
   rintro _ _ (⟨y6, y7, y8, y10, y11, y12, hm, rfl, rfl⟩ | ⟨y6, y7, y8, y9, y10, y11, y12, hm, rfl, rfl⟩)
   ·
    subst hk13
    refine sq (rg (sh 1 [(28, .ptr 0 0)] (by kernel_rfl) ?_))
    obtain ⟨x15, h14, hm⟩ := bs hm
    obtain ⟨vv, H1, hC, rfl, rfl⟩ := ok_codec_Reader_Err h14
    refine dR [(29, aI x15)] [.box [aB y6, .pv (encSl (rI .u8) y7), aI y8] false, .box [aS ByteArray.empty, .pv .nils] false, .box [aS x5, .pv .nils] false] [0] [.ptr 0 0] (by kernel_rfl) (by kernel_rfl) (by kernel_rfl) hC (by kernel_rfl) (sh 1 [(6, aI x15)] (by kernel_rfl) (fin [(2, .ptr 1 0), (4, .ptr 2 0), (6, aI x15)] rfl (by kernel_rfl) ?_))
    obtain ⟨k18, hk18, hm⟩ := withK_some hm
    refine mid (fun t H => (∃ (y17 : Int) (w16 : AV), k18 y17 = some r ∧ t = mk 39 [(2, .ptr 1 0), (4, .ptr 2 0), (6, aI y17), (31, w16)] ∧ H = [.box [aB y6, .pv (encSl (rI .u8) y7), aI y8] false, .box [aS ByteArray.empty, .pv .nils] false, .box [aS x5, .pv .nils] false])) ?_ ?_
    ·
     rintro _ _ ⟨y17, w16, hm, rfl, rfl⟩
     subst hk18
     refine sq (sq (detn [(2, .ptr 1 0), (4, .ptr 2 0), (6, aI y17), (35, aB (y17 != 0))] (by kernel_rfl) ?_))
     rcases bif_some hm with ⟨h19, hm⟩ | ⟨h19, hm⟩
     ·
      refine ct h19 (by kernel_rfl) (sq (detn [(2, .ptr 1 0), (3, aI y17)] (by kernel_rfl) (wp_ret ?_)))
      obtain rfl := Option.some.inj hm
      exact ⟨trivial, .tup [.agg [aS ByteArray.empty, .pv .nils], aI y17], [.box [aB y6, .pv (encSl (rI .u8) y7), aI y8] false], by kernel_rfl, rfl, rfl⟩
     ·
      refine cf h19 (by kernel_rfl) (wp_skip (sq (det [(2, .ptr 1 0), (3, aI 0)] [.box [aB y6, .pv (encSl (rI .u8) y7), aI y8] false, .box [aS x5, .pv .nils] false, .box [aS x5, .pv .nils] false] (by kernel_rfl) (wp_ret ?_))))
      obtain rfl := Option.some.inj hm
      exact ⟨trivial, .tup [.agg [aS x5, .pv .nils], aI 0], [.box [aB y6, .pv (encSl (rI .u8) y7), aI y8] false], by kernel_rfl, rfl, rfl⟩
    refine sq (detn [(2, .ptr 1 0), (4, .ptr 2 0), (6, aI x15), (31, aB (x15 == 0))] (by kernel_rfl) ?_)
    rcases bif_some hm with ⟨h20, hm⟩ | ⟨h20, hm⟩
    ·
     refine ct h20 (by kernel_rfl) (rg (sh 1 [(32, .agg [aS x5, .pv .nils])] (by kernel_rfl) ?_))
     obtain ⟨x21, h22, hm⟩ := bs hm
     refine dv 33 (cpure (by kernel_rfl) (ok_schema_Right h22) (by kernel_rfl) (by kernel_rfl) (by kernel_rfl)) (by kernel_rfl) (sh 1 [(6, aI x21)] (by kernel_rfl) (fin [(2, .ptr 1 0), (4, .ptr 2 0), (6, aI x21)] rfl (by kernel_rfl) ?_))
     exact ⟨x21, .any, hm, (mk_same (by kernel_rfl)), rfl⟩
    ·
     refine cf h20 (by kernel_rfl) (wp_skip ?_)
     exact ⟨x15, aB (x15 == 0), hm, (mk_same (by kernel_rfl)), rfl⟩
   ·
    subst hk13
    refine sq (rg (sh 1 [(28, .ptr 0 0)] (by kernel_rfl) ?_))
    obtain ⟨x24, h23, hm⟩ := bs hm
    obtain ⟨vv, H1, hC, rfl, rfl⟩ := ok_codec_Reader_Err h23
    refine dR [(29, aI x24)] [.box [aB y6, .pv (encSl (rI .u8) y7), aI y8] false, .box [aS ByteArray.empty, .pv .nils] false, .box [aS x5, aR 3 2 y9.length] false, bR 72 2 R_api_Column y9 0 0] [0] [.ptr 0 0] (by kernel_rfl) (by kernel_rfl) (by kernel_rfl) hC (by kernel_rfl) (sh 1 [(6, aI x24)] (by kernel_rfl) (fin [(2, .ptr 1 0), (4, .ptr 2 0), (6, aI x24)] rfl (by kernel_rfl) ?_))
    obtain ⟨k27, hk27, hm⟩ := withK_some hm
    refine mid (fun t H => (∃ (y26 : Int) (w25 : AV), k27 y26 = some r ∧ t = mk 39 [(2, .ptr 1 0), (4, .ptr 2 0), (6, aI y26), (31, w25)] ∧ H = [.box [aB y6, .pv (encSl (rI .u8) y7), aI y8] false, .box [aS ByteArray.empty, .pv .nils] false, .box [aS x5, aR 3 2 y9.length] false, bR 72 2 R_api_Column y9 0 0])) ?_ ?_
    ·
     rintro _ _ ⟨y26, w25, hm, rfl, rfl⟩
     subst hk27
     refine sq (sq (detn [(2, .ptr 1 0), (4, .ptr 2 0), (6, aI y26), (35, aB (y26 != 0))] (by kernel_rfl) ?_))
     rcases bif_some hm with ⟨h28, hm⟩ | ⟨h28, hm⟩
     ·
      refine ct h28 (by kernel_rfl) (sq (detn [(2, .ptr 1 0), (3, aI y26)] (by kernel_rfl) (wp_ret ?_)))
      obtain rfl := Option.some.inj hm
      exact ⟨trivial, .tup [.agg [aS ByteArray.empty, .pv .nils], aI y26], [.box [aB y6, .pv (encSl (rI .u8) y7), aI y8] false], by kernel_rfl, rfl, rfl⟩
     ·
      refine cf h28 (by kernel_rfl) (wp_skip (sq (det [(2, .ptr 1 0), (3, aI 0)] [.box [aB y6, .pv (encSl (rI .u8) y7), aI y8] false, .box [aS x5, aR 3 2 y9.length] false, .box [aS x5, aR 3 2 y9.length] false, bR 72 2 R_api_Column y9 0 0] (by kernel_rfl) (wp_ret ?_))))
      obtain rfl := Option.some.inj hm
      exact ⟨trivial, .tup [.agg [aS x5, aR 1 2 y9.length], aI 0], [.box [aB y6, .pv (encSl (rI .u8) y7), aI y8] false, bR 72 2 R_api_Column y9 0 0], by kernel_rfl, rfl, rfl⟩
    refine sq (detn [(2, .ptr 1 0), (4, .ptr 2 0), (6, aI x24), (31, aB (x24 == 0))] (by kernel_rfl) ?_)
    rcases bif_some hm with ⟨h29, hm⟩ | ⟨h29, hm⟩
    ·
     refine ct h29 (by kernel_rfl) (rg (sh 1 [(32, .agg [aS x5, aR 3 2 y9.length])] (by kernel_rfl) ?_))
     obtain ⟨x30, h31, hm⟩ := bs hm
     refine dO [(33, aI x30)] [.box [aB y6, .pv (encSl (rI .u8) y7), aI y8] false, .box [aS ByteArray.empty, .pv .nils] false, .box [aS x5, aR 3 2 y9.length] false, bR 72 2 R_api_Column y9 0 0] (cpureR [3] [.agg [aS x5, aR 3 2 y9.length]] (fl := true) (by kernel_rfl) (by kernel_rfl) (pAs_cons (pA_agg (purL_cons (pur_pv) (purL_cons (pur_ref' (id := 3) (l := y9) (R := R_api_Column) rfl (by first | rfl | simp) (by first | exact Nat.zero_le _ | exact Nat.le_refl _ | assumption | (simp; done) | (simp; omega))) (rfl)))) (rfl)) (ok_schema_Right h31) (by kernel_rfl) (by kernel_rfl)) (by kernel_rfl) (sh 1 [(6, aI x30)] (by kernel_rfl) (fin [(2, .ptr 1 0), (4, .ptr 2 0), (6, aI x30)] rfl (by kernel_rfl) ?_))
     exact ⟨x30, .any, hm, (mk_same (by kernel_rfl)), (by first | rfl | simp)⟩
    ·
     refine cf h29 (by kernel_rfl) (wp_skip ?_)
     exact ⟨x24, aB (x24 == 0), hm, (mk_same (by kernel_rfl)), (by first | rfl | simp)⟩
  refine sq (rg (sh 1 [(10, .ptr 0 0)] (by kernel_rfl) ?_))
  obtain ⟨⟨x33, x34, x35, x36⟩, h32, hm⟩ := bs hm
  obtain ⟨vv, H1, hC, rfl, rfl⟩ := ok_codec_Reader_Uint h32
  refine dR [(11, aU x36)] [.box [aB x33, .pv (encSl (rI .u8) x34), aI x35] false, .box [aS ByteArray.empty, .pv .nils] false, .box [aS x5, .pv .nils] false] [0] [.ptr 0 0, aU 8] (by kernel_rfl) (by kernel_rfl) (by kernel_rfl) hC (by kernel_rfl) (sh 1 [(12, aU 0)] (by kernel_rfl) (fin [(0, .ptr 0 0), (2, .ptr 1 0), (4, .ptr 2 0), (11, aU x36), (12, aU 0)] rfl (by kernel_rfl) (bq ?_)))
  refine loopF (fun mm t H => (∃ (y43 : Bool) (y44 : (Option (List Int))) (y45 : Int) (y47 : Int), schema_Take_l3 n k13 x36 mm y43 y44 y45 none y47 = some r ∧ t = mk 39 [(0, .ptr 0 0), (2, .ptr 1 0), (4, .ptr 2 0), (11, aU x36), (12, aU y47)] ∧ H = [.box [aB y43, .pv (encSl (rI .u8) y44), aI y45] false, .box [aS ByteArray.empty, .pv .nils] false, .box [aS x5, .pv .nils] false]) ∨ (∃ (y43 : Bool) (y44 : (Option (List Int))) (y45 : Int) (y46 : (List api_Column)) (y47 : Int), schema_Take_l3 n k13 x36 mm y43 y44 y45 (some y46) y47 = some r ∧ t = mk 39 [(0, .ptr 0 0), (2, .ptr 1 0), (4, .ptr 2 0), (11, aU x36), (12, aU y47)] ∧ H = [.box [aB y43, .pv (encSl (rI .u8) y44), aI y45] false, .box [aS ByteArray.empty, .pv .nils] false, .box [aS x5, aR 3 2 y46.length] false, bR 72 2 R_api_Column y46 0 0])) (.inl ⟨x33, x34, x35, 0, hm, rfl, rfl⟩) ?_ ?_
  · rintro _ _ (⟨y43, y44, y45, y47, hm, _⟩ | ⟨y43, y44, y45, y46, y47, hm, _⟩) <;> exact nomatch hm
  rintro m48 _ _ (⟨y43, y44, y45, y47, hm, rfl, rfl⟩ | ⟨y43, y44, y45, y46, y47, hm, rfl, rfl⟩)
  ·
   simp only [schema_Take_l3] at hm
   refine sq (detn [(0, .ptr 0 0), (2, .ptr 1 0), (4, .ptr 2 0), (11, aU x36), (12, aU y47), (13, aB (decide (y47 < x36)))] (by kernel_rfl) ?_)
   refine sq ?_
   rcases bif_some hm with ⟨h49, hm⟩ | ⟨h49, hm⟩
   ·
    refine ct h49 (by kernel_rfl) (wp_skip (sq (bq (sq (rg (sh 1 [(14, .ptr 0 0)] (by kernel_rfl) ?_))))))
    obtain ⟨⟨x51, x52, x53, x54⟩, h50, hm⟩ := bs hm
    obtain ⟨vv, H1, hC, rfl, rfl⟩ := ok_codec_Reader_Text h50
    refine dR [(15, aS x54)] [.box [aB x51, .pv (encSl (rI .u8) x52), aI x53] false, .box [aS ByteArray.empty, .pv .nils] false, .box [aS x5, .pv .nils] false] [0] [.ptr 0 0, aI 20] (by kernel_rfl) (by kernel_rfl) (by kernel_rfl) hC (by kernel_rfl) (st 3 [(5, .ptr 3 0), (16, .agg [aS x54, aI 0])] [.box [aB x51, .pv (encSl (rI .u8) x52), aI x53] false, .box [aS ByteArray.empty, .pv .nils] false, .box [aS x5, .pv .nils] false, .box [aS x54, aI 0] false] (by kernel_rfl) (fin [(0, .ptr 0 0), (2, .ptr 1 0), (4, .ptr 2 0), (5, .ptr 3 0), (11, aU x36), (12, aU y47)] rfl (by kernel_rfl) (sq (rg (sh 1 [(17, .ptr 0 0)] (by kernel_rfl) ?_)))))
    obtain ⟨⟨x56, x57, x58⟩, h55, hm⟩ := bs hm
    obtain ⟨vv, H1, hC, rfl, rfl⟩ := ok_codec_Reader_Byte h55
    refine dR [(18, aY x58)] [.box [aB ((codec_Reader.mk x51 x52 x53).fmade), .pv (encSl (rI .u8) x56), aI x57] false, .box [aS ByteArray.empty, .pv .nils] false, .box [aS x5, .pv .nils] false, .box [aS x54, aI 0] false] [0] [.ptr 0 0] (by kernel_rfl) (by kernel_rfl) (by kernel_rfl) hC (by kernel_rfl) (st 3 [(20, .ptr 3 1), (19, aI (IntKind.wrap .i64 x58))] [.box [aB ((codec_Reader.mk x51 x52 x53).fmade), .pv (encSl (rI .u8) x56), aI x57] false, .box [aS ByteArray.empty, .pv .nils] false, .box [aS x5, .pv .nils] false, .box [aS x54, aI (IntKind.wrap .i64 x58)] false] (by kernel_rfl) (fin [(0, .ptr 0 0), (2, .ptr 1 0), (4, .ptr 2 0), (5, .ptr 3 0), (11, aU x36), (12, aU y47)] rfl (by kernel_rfl) (rg (st 4 [(24, aR 4 2 1), (23, .agg [aS x54, aI (IntKind.wrap .i64 x58)]), (22, .pv .nils), (21, .ptr 2 1)] [.box [aB ((codec_Reader.mk x51 x52 x53).fmade), .pv (encSl (rI .u8) x56), aI x57] false, .box [aS ByteArray.empty, .pv .nils] false, .box [aS x5, .pv .nils] false, .box [aS x54, aI (IntKind.wrap .i64 x58)] false, bR 72 2 R_api_Column ([(api_Column.mk x54 (IntKind.wrap .i64 x58))] : List api_Column) 0 0] (by kernel_rfl) ?_))))
    obtain ⟨_, h59, hm⟩ := bs hm
    refine dO [(25, aR 5 2 (([(api_Column.mk x54 (IntKind.wrap .i64 x58))] : List api_Column).length))] [.box [aB ((codec_Reader.mk x51 x52 x53).fmade), .pv (encSl (rI .u8) x56), aI x57] false, .box [aS ByteArray.empty, .pv .nils] false, .box [aS x5, .pv .nils] false, .box [aS x54, aI (IntKind.wrap .i64 x58)] false, bR 72 2 R_api_Column ([(api_Column.mk x54 (IntKind.wrap .i64 x58))] : List api_Column) 0 0, bR 72 2 R_api_Column ([(api_Column.mk x54 (IntKind.wrap .i64 x58))] : List api_Column) 0 0] (app_nilO (u := 0) R_api_Column ([(api_Column.mk x54 (IntKind.wrap .i64 x58))] : List api_Column) (b := 24) t22 t72 rfl rfl rfl (fun _ => rfl) rfl h59 (show srcRows (aR 4 2 1) _ = some (([(api_Column.mk x54 (IntKind.wrap .i64 x58))] : List api_Column).map R_api_Column) from by kernel_rfl) (by kernel_rfl)) (by kernel_rfl) (st 2 [(26, .ptr 2 1)] [.box [aB ((codec_Reader.mk x51 x52 x53).fmade), .pv (encSl (rI .u8) x56), aI x57] false, .box [aS ByteArray.empty, .pv .nils] false, .box [aS x5, aR 5 2 (([(api_Column.mk x54 (IntKind.wrap .i64 x58))] : List api_Column).length)] false, .box [aS x54, aI (IntKind.wrap .i64 x58)] false, bR 72 2 R_api_Column ([(api_Column.mk x54 (IntKind.wrap .i64 x58))] : List api_Column) 0 0, bR 72 2 R_api_Column ([(api_Column.mk x54 (IntKind.wrap .i64 x58))] : List api_Column) 0 0] (by kernel_rfl) (fin [(0, .ptr 0 0), (2, .ptr 1 0), (4, .ptr 2 0), (11, aU x36), (12, aU y47)] rfl (by kernel_rfl) (detn [(0, .ptr 0 0), (2, .ptr 1 0), (4, .ptr 2 0), (11, aU x36), (12, aU (IntKind.wrap .u64 (y47 + 1)))] (by kernel_rfl) ?_)))
    exact ⟨_, _, tidyL [(0, .ptr 0 0), (2, .ptr 1 0), (4, .ptr 2 0), (11, aU x36), (12, aU (IntKind.wrap .u64 (y47 + 1)))] [.box [aB ((codec_Reader.mk x51 x52 x53).fmade), .pv (encSl (rI .u8) x56), aI x57] false, .box [aS ByteArray.empty, .pv .nils] false, .box [aS x5, aR 3 2 (([(api_Column.mk x54 (IntKind.wrap .i64 x58))] : List api_Column).length)] false, bR 72 2 R_api_Column ([(api_Column.mk x54 (IntKind.wrap .i64 x58))] : List api_Column) 0 0] (by kernel_rfl), .inr (⟨((codec_Reader.mk x51 x52 x53).fmade), x56, x57, ([(api_Column.mk x54 (IntKind.wrap .i64 x58))] : List api_Column), (IntKind.wrap .u64 (y47 + 1)), hm, (by first | rfl | simp), (by first | rfl | simp)⟩)⟩
   ·
    refine cf h49 (by kernel_rfl) (wp_exit ?_)
    exact .inl ⟨y43, y44, y45, x36, y47, (decide (y47 < x36)), hm, rfl, rfl⟩
  ·
   simp only [schema_Take_l3] at hm
   refine sq (detn [(0, .ptr 0 0), (2, .ptr 1 0), (4, .ptr 2 0), (11, aU x36), (12, aU y47), (13, aB (decide (y47 < x36)))] (by kernel_rfl) ?_)
   refine sq ?_
   rcases bif_some hm with ⟨h60, hm⟩ | ⟨h60, hm⟩
   ·
    refine ct h60 (by kernel_rfl) (wp_skip (sq (bq (sq (rg (sh 1 [(14, .ptr 0 0)] (by kernel_rfl) ?_))))))
    obtain ⟨⟨x62, x63, x64, x65⟩, h61, hm⟩ := bs hm
    obtain ⟨vv, H1, hC, rfl, rfl⟩ := ok_codec_Reader_Text h61
    refine dR [(15, aS x65)] [.box [aB x62, .pv (encSl (rI .u8) x63), aI x64] false, .box [aS ByteArray.empty, .pv .nils] false, .box [aS x5, aR 3 2 y46.length] false, bR 72 2 R_api_Column y46 0 0] [0] [.ptr 0 0, aI 20] (by kernel_rfl) (by kernel_rfl) (by kernel_rfl) hC (by kernel_rfl) (st 3 [(5, .ptr 4 0), (16, .agg [aS x65, aI 0])] [.box [aB x62, .pv (encSl (rI .u8) x63), aI x64] false, .box [aS ByteArray.empty, .pv .nils] false, .box [aS x5, aR 3 2 y46.length] false, bR 72 2 R_api_Column y46 0 0, .box [aS x65, aI 0] false] (by kernel_rfl) (fin [(0, .ptr 0 0), (2, .ptr 1 0), (4, .ptr 2 0), (5, .ptr 4 0), (11, aU x36), (12, aU y47)] rfl (by kernel_rfl) (sq (rg (sh 1 [(17, .ptr 0 0)] (by kernel_rfl) ?_)))))
    obtain ⟨⟨x67, x68, x69⟩, h66, hm⟩ := bs hm
    obtain ⟨vv, H1, hC, rfl, rfl⟩ := ok_codec_Reader_Byte h66
    refine dR [(18, aY x69)] [.box [aB ((codec_Reader.mk x62 x63 x64).fmade), .pv (encSl (rI .u8) x67), aI x68] false, .box [aS ByteArray.empty, .pv .nils] false, .box [aS x5, aR 3 2 y46.length] false, bR 72 2 R_api_Column y46 0 0, .box [aS x65, aI 0] false] [0] [.ptr 0 0] (by kernel_rfl) (by kernel_rfl) (by kernel_rfl) hC (by kernel_rfl) (st 3 [(20, .ptr 4 1), (19, aI (IntKind.wrap .i64 x69))] [.box [aB ((codec_Reader.mk x62 x63 x64).fmade), .pv (encSl (rI .u8) x67), aI x68] false, .box [aS ByteArray.empty, .pv .nils] false, .box [aS x5, aR 3 2 y46.length] false, bR 72 2 R_api_Column y46 0 0, .box [aS x65, aI (IntKind.wrap .i64 x69)] false] (by kernel_rfl) (fin [(0, .ptr 0 0), (2, .ptr 1 0), (4, .ptr 2 0), (5, .ptr 4 0), (11, aU x36), (12, aU y47)] rfl (by kernel_rfl) (rg (st 4 [(24, aR 5 2 1), (23, .agg [aS x65, aI (IntKind.wrap .i64 x69)]), (22, aR 3 2 y46.length), (21, .ptr 2 1)] [.box [aB ((codec_Reader.mk x62 x63 x64).fmade), .pv (encSl (rI .u8) x67), aI x68] false, .box [aS ByteArray.empty, .pv .nils] false, .box [aS x5, aR 3 2 y46.length] false, bR 72 2 R_api_Column y46 0 0, .box [aS x65, aI (IntKind.wrap .i64 x69)] false, bR 72 2 R_api_Column ([(api_Column.mk x65 (IntKind.wrap .i64 x69))] : List api_Column) 0 0] (by kernel_rfl) ?_))))
    obtain ⟨_, h70, hm⟩ := bs hm
    refine dO [(25, aR 3 2 ((y46 ++ ([(api_Column.mk x65 (IntKind.wrap .i64 x69))] : List api_Column)).length))] [.box [aB ((codec_Reader.mk x62 x63 x64).fmade), .pv (encSl (rI .u8) x67), aI x68] false, .box [aS ByteArray.empty, .pv .nils] false, .box [aS x5, aR 3 2 y46.length] false, bR 72 2 R_api_Column (y46 ++ ([(api_Column.mk x65 (IntKind.wrap .i64 x69))] : List api_Column)) 0 0, .box [aS x65, aI (IntKind.wrap .i64 x69)] false, bR 72 2 R_api_Column ([(api_Column.mk x65 (IntKind.wrap .i64 x69))] : List api_Column) 0 0] (app_refO (u := 0) (id := 3) R_api_Column y46 ([(api_Column.mk x65 (IntKind.wrap .i64 x69))] : List api_Column) (b := 24) t22 t72 rfl rfl rfl (fun _ => rfl) rfl h70 rfl (by first | rfl | simp) (by first | exact Nat.zero_le _ | exact Nat.le_refl _ | assumption | (simp; done) | (simp; omega)) (show srcRows (aR 5 2 1) _ = some (([(api_Column.mk x65 (IntKind.wrap .i64 x69))] : List api_Column).map R_api_Column) from by kernel_rfl) (by kernel_rfl)) (by kernel_rfl) (st 2 [(26, .ptr 2 1)] [.box [aB ((codec_Reader.mk x62 x63 x64).fmade), .pv (encSl (rI .u8) x67), aI x68] false, .box [aS ByteArray.empty, .pv .nils] false, .box [aS x5, aR 3 2 ((y46 ++ ([(api_Column.mk x65 (IntKind.wrap .i64 x69))] : List api_Column)).length)] false, bR 72 2 R_api_Column (y46 ++ ([(api_Column.mk x65 (IntKind.wrap .i64 x69))] : List api_Column)) 0 0, .box [aS x65, aI (IntKind.wrap .i64 x69)] false, bR 72 2 R_api_Column ([(api_Column.mk x65 (IntKind.wrap .i64 x69))] : List api_Column) 0 0] (by kernel_rfl) (fin [(0, .ptr 0 0), (2, .ptr 1 0), (4, .ptr 2 0), (11, aU x36), (12, aU y47)] rfl (by kernel_rfl) (detn [(0, .ptr 0 0), (2, .ptr 1 0), (4, .ptr 2 0), (11, aU x36), (12, aU (IntKind.wrap .u64 (y47 + 1)))] (by kernel_rfl) ?_)))
    exact ⟨_, _, tidyL [(0, .ptr 0 0), (2, .ptr 1 0), (4, .ptr 2 0), (11, aU x36), (12, aU (IntKind.wrap .u64 (y47 + 1)))] [.box [aB ((codec_Reader.mk x62 x63 x64).fmade), .pv (encSl (rI .u8) x67), aI x68] false, .box [aS ByteArray.empty, .pv .nils] false, .box [aS x5, aR 3 2 ((y46 ++ ([(api_Column.mk x65 (IntKind.wrap .i64 x69))] : List api_Column)).length)] false, bR 72 2 R_api_Column (y46 ++ ([(api_Column.mk x65 (IntKind.wrap .i64 x69))] : List api_Column)) 0 0] (by kernel_rfl), .inr (⟨((codec_Reader.mk x62 x63 x64).fmade), x67, x68, (y46 ++ ([(api_Column.mk x65 (IntKind.wrap .i64 x69))] : List api_Column)), (IntKind.wrap .u64 (y47 + 1)), hm, (by first | rfl | simp), (by first | rfl | simp)⟩)⟩
   ·
    refine cf h60 (by kernel_rfl) (wp_exit ?_)
    exact .inr (⟨y43, y44, y45, y46, x36, y47, (decide (y47 < x36)), hm, (by first | rfl | simp), (by first | rfl | simp)⟩)
theorem ok_slices_Equal_Column {n : Nat} {a0 : (Option (List api_Column))} {a1 : (Option (List api_Column))} {r : Bool} (hm : slices_Equal_Column n a0 a1 = some r) :
    call G n 58 [.pv (encSl R_api_Column a0), .pv (encSl R_api_Column a1)] [] = some (.ret (aB r), []) := by
  unfold slices_Equal_Column at hm
  obtain ⟨n, rfl, h0⟩ := at1_some hm
  replace hm := h0; clear h0
  refine callL 26 [(0, .pv (encSl R_api_Column a0)), (1, .pv (encSl R_api_Column a1))] func58 rfl (by kernel_rfl) (sq (detn [(0, .pv (encSl R_api_Column a0)), (1, .pv (encSl R_api_Column a1))] (by kernel_rfl) ?_))
  refine sq (sq (rg (sh 1 [(6, .pv (encSl R_api_Column a0))] (by kernel_rfl) (dv 7 (v := aI ((sll a0).length : Int)) (len_slO R_api_Column a0 t22 (by kernel_rfl)) (by kernel_rfl) (sh 1 [(8, .pv (encSl R_api_Column a1))] (by kernel_rfl) (dv 9 (v := aI ((sll a1).length : Int)) (len_slO R_api_Column a1 t22 (by kernel_rfl)) (by kernel_rfl) (sh 1 [(10, aB (((sll a0).length : Int) != ((sll a1).length : Int)))] (by kernel_rfl) (fin [(0, .pv (encSl R_api_Column a0)), (1, .pv (encSl R_api_Column a1)), (10, aB (((sll a0).length : Int) != ((sll a1).length : Int)))] rfl (by kernel_rfl) ?_))))))))
  rcases bif_some hm with ⟨h1, hm⟩ | ⟨h1, hm⟩
  ·
   refine ct h1 (by kernel_rfl) (sq (detn [(4, aB false)] (by kernel_rfl) (wp_ret ?_)))
   obtain rfl := Option.some.inj hm
   exact ⟨trivial, by kernel_rfl⟩
  ·
   refine cf h1 (by kernel_rfl) (wp_skip ?_)
   obtain ⟨k4, hk4, hm⟩ := withK_some hm
   refine mid (fun t H => (∃ (y2 : Int) (y3 : Bool), k4 () = some r ∧ t = mk 26 [(0, .pv (encSl R_api_Column a0)), (1, .pv (encSl R_api_Column a1)), (12, aI ((sll a0).length : Int)), (13, aI y2), (14, aB y3)] ∧ H = [])) ?_ ?_
   ·
    rintro _ _ ⟨y2, y3, hm, rfl, rfl⟩
    subst hk4
    refine sq (detn [(4, aB true)] (by kernel_rfl) (wp_ret ?_))
    obtain rfl := Option.some.inj hm
    exact ⟨trivial, by kernel_rfl⟩
   refine sq (rg (sh 1 [(11, .pv (encSl R_api_Column a0))] (by kernel_rfl) (dv 12 (v := aI ((sll a0).length : Int)) (len_slO R_api_Column a0 t22 (by kernel_rfl)) (by kernel_rfl) (sh 1 [(13, aI 0)] (by kernel_rfl) (fin [(0, .pv (encSl R_api_Column a0)), (1, .pv (encSl R_api_Column a1)), (12, aI ((sll a0).length : Int)), (13, aI 0)] rfl (by kernel_rfl) (bq ?_))))))
   refine loopF (fun mm t H => (∃ (y6 : Int), slices_Equal_Column_l4 n a0 a1 k4 mm y6 = some r ∧ t = mk 26 [(0, .pv (encSl R_api_Column a0)), (1, .pv (encSl R_api_Column a1)), (12, aI ((sll a0).length : Int)), (13, aI y6)] ∧ H = [])) (⟨0, hm, rfl, rfl⟩) ?_ ?_
   · rintro _ _ ⟨y6, hm, _⟩; exact nomatch hm
   rintro m7 _ _ ⟨y6, hm, rfl, rfl⟩
   simp only [slices_Equal_Column_l4] at hm
   refine sq (detn [(0, .pv (encSl R_api_Column a0)), (1, .pv (encSl R_api_Column a1)), (12, aI ((sll a0).length : Int)), (13, aI y6), (14, aB (decide (y6 < ((sll a0).length : Int))))] (by kernel_rfl) ?_)
   refine sq ?_
   rcases bif_some hm with ⟨h8, hm⟩ | ⟨h8, hm⟩
   ·
    refine ct h8 (by kernel_rfl) (wp_skip (sq (bq (sq (detn [(0, .pv (encSl R_api_Column a0)), (1, .pv (encSl R_api_Column a1)), (5, aI y6), (12, aI ((sll a0).length : Int)), (13, aI y6)] (by kernel_rfl) (sq (rgd (shd 2 [(17, aI y6), (16, .pv (encSl R_api_Column a0))] (by kernel_rfl) ?_))))))))
    obtain ⟨x9, h10, hm⟩ := bs hm
    refine dvd 18 (v := .pv (.ptr (R_api_Column x9) 0)) (ia_slO R_api_Column a0 .i64 t22 t72 h10 rfl (by kernel_rfl)) (by kernel_rfl) (shd 3 [(21, aI y6), (20, .pv (encSl R_api_Column a1)), (19, .agg [aS x9.fName, aI x9.fKind])] (by kernel_rfl) ?_)
    obtain ⟨x11, h12, hm⟩ := bs hm
    refine dvd 22 (v := .pv (.ptr (R_api_Column x11) 0)) (ia_slO R_api_Column a1 .i64 t22 t72 h12 rfl (by kernel_rfl)) (by kernel_rfl) (shd 2 [(24, aB (!((x9.fName == x11.fName) && ((x9.fKind == x11.fKind) && true)))), (23, .agg [aS x11.fName, aI x11.fKind])] (by kernel_rfl) (find [(0, .pv (encSl R_api_Column a0)), (1, .pv (encSl R_api_Column a1)), (12, aI ((sll a0).length : Int)), (13, aI y6), (24, aB (!((x9.fName == x11.fName) && ((x9.fKind == x11.fKind) && true))))] rfl (by kernel_rfl) (by kernel_rfl) ?_))
    rcases bif_some hm with ⟨h13, hm⟩ | ⟨h13, hm⟩
    ·
     refine ct h13 (by kernel_rfl) (sq (detn [(4, aB false)] (by kernel_rfl) (wp_ret ?_)))
     obtain rfl := Option.some.inj hm
     exact ⟨trivial, by kernel_rfl⟩
    ·
     refine cf h13 (by kernel_rfl) (wp_skip (detn [(0, .pv (encSl R_api_Column a0)), (1, .pv (encSl R_api_Column a1)), (12, aI ((sll a0).length : Int)), (13, aI (IntKind.wrap .i64 (y6 + 1)))] (by kernel_rfl) ?_))
     exact ⟨_, _, tidyL [(0, .pv (encSl R_api_Column a0)), (1, .pv (encSl R_api_Column a1)), (12, aI ((sll a0).length : Int)), (13, aI (IntKind.wrap .i64 (y6 + 1)))] [] (by kernel_rfl), ⟨(IntKind.wrap .i64 (y6 + 1)), hm, rfl, rfl⟩⟩
   ·
    refine cf h8 (by kernel_rfl) (wp_exit ?_)
    exact ⟨y6, (decide (y6 < ((sll a0).length : Int))), hm, rfl, rfl⟩
theorem ok_schema_Same {n : Nat} {a0 : api_Table} {a1 : api_Table} {r : Bool} (hm : schema_Same n a0 a1 = some r) :
    call G n 44 [.agg [aS a0.fName, .pv (encSl R_api_Column a0.fCols)], .agg [aS a1.fName, .pv (encSl R_api_Column a1.fCols)]] [] = some (.ret (aB r), []) := by
  unfold schema_Same at hm
  obtain ⟨n, rfl, h0⟩ := at1_some hm
  replace hm := h0; clear h0
  refine callL 17 [(0, .agg [aS a0.fName, .pv (encSl R_api_Column a0.fCols)]), (1, .agg [aS a1.fName, .pv (encSl R_api_Column a1.fCols)])] func44 rfl (by kernel_rfl) (sq (det [(2, .ptr 0 0), (3, .ptr 1 0)] [.box [aS a0.fName, .pv (encSl R_api_Column a0.fCols)] false, .box [aS a1.fName, .pv (encSl R_api_Column a1.fCols)] false] (by kernel_rfl) (sq (rg (sh 6 [(10, aB (sEq a0.fName a1.fName)), (9, aB (sEq a0.fName a1.fName)), (8, aS a1.fName), (7, .ptr 1 0), (6, aS a0.fName), (5, .ptr 0 0)] (by kernel_rfl) ?_)))))
  rcases bif_some hm with ⟨h1, hm⟩ | ⟨h1, hm⟩
  ·
   refine known [10, 9] h1 (by kernel_rfl) (sh 4 [(14, .pv (encSl R_api_Column a1.fCols)), (13, .ptr 1 1), (12, .pv (encSl R_api_Column a0.fCols)), (11, .ptr 0 1)] (by kernel_rfl) ?_)
   obtain ⟨x2, h3, hm⟩ := bs hm
   refine dv 15 (cpure (by kernel_rfl) (ok_slices_Equal_Column h3) (by kernel_rfl) (by kernel_rfl) (by kernel_rfl)) (by kernel_rfl) (sh 2 [(4, aB x2), (16, aB x2)] (by kernel_rfl) (fin [(4, aB x2)] rfl (by kernel_rfl) (wp_ret ?_)))
   obtain rfl := Option.some.inj hm
   exact ⟨trivial, by kernel_rfl⟩
  ·
   refine known [10, 9] h1 (by kernel_rfl) (sh 7 [(4, aB false), (16, aB false), (15, .undef), (14, .undef), (13, .undef), (12, .undef), (11, .undef)] (by kernel_rfl) (fin [(4, aB false)] rfl (by kernel_rfl) (wp_ret ?_)))
   obtain rfl := Option.some.inj hm
   exact ⟨trivial, by kernel_rfl⟩
theorem ok_codec_Reader_Left {n : Nat} {a0 : codec_Reader} {r : Int} (hm : codec_Reader_Left n a0 = some r) :
    ∃ vv H1, call G n 36 [.ptr 0 0] [.box [aB a0.fmade, .pv (encSl (rI .u8) a0.fb), aI a0.fe] false] = some (.ret vv, H1) ∧ (match r with | r0 => (vv = aI r0 ∧ H1 = [.box [aB a0.fmade, .pv (encSl (rI .u8) a0.fb), aI a0.fe] false])) := by
  unfold codec_Reader_Left at hm
  obtain ⟨n, rfl, h0⟩ := at1_some hm
  replace hm := h0; clear h0
  refine callE 11 [(0, .ptr 0 0)] func36 rfl (by kernel_rfl) (sq (detn [(0, .ptr 0 0)] (by kernel_rfl) (sq (sq (rg (sh 1 [(3, .ptr 0 0)] (by kernel_rfl) ?_))))))
  obtain ⟨_, h1, hm⟩ := bs hm
  obtain ⟨vv, H1, hC, rfl, rfl⟩ := ok_codec_Reader_ready h1
  refine dR [(4, aB (a0.fmade && (a0.fe == 0)))] [.box [aB a0.fmade, .pv (encSl (rI .u8) a0.fb), aI a0.fe] false] [0] [.ptr 0 0] (by kernel_rfl) (by kernel_rfl) (by kernel_rfl) hC (by kernel_rfl) (sh 1 [(5, aB (!(a0.fmade && (a0.fe == 0))))] (by kernel_rfl) (fin [(0, .ptr 0 0), (5, aB (!(a0.fmade && (a0.fe == 0))))] rfl (by kernel_rfl) ?_))
  rcases bif_some hm with ⟨h2, hm⟩ | ⟨h2, hm⟩
  ·
   refine ct h2 (by kernel_rfl) (sq (detn [(2, aI 0)] (by kernel_rfl) (wp_ret ?_)))
   obtain rfl := Option.some.inj hm
   exact ⟨trivial, aI 0, [.box [aB a0.fmade, .pv (encSl (rI .u8) a0.fb), aI a0.fe] false], by kernel_rfl, rfl, rfl⟩
  ·
   refine cf h2 (by kernel_rfl) (wp_skip (sq (rg (sh 4 [(9, .pv (encSl (rI .u8) a0.fb)), (8, .ptr 0 1), (7, .ptr 0 0), (6, .ptr 0 0)] (by kernel_rfl) (dv 10 (v := aI ((sll a0.fb).length : Int)) (len_slO (rI .u8) a0.fb t35 (by kernel_rfl)) (by kernel_rfl) (sh 1 [(2, aI ((sll a0.fb).length : Int))] (by kernel_rfl) (fin [(2, aI ((sll a0.fb).length : Int))] rfl (by kernel_rfl) (wp_ret ?_))))))))
   obtain rfl := Option.some.inj hm
   exact ⟨trivial, aI ((sll a0.fb).length : Int), [.box [aB a0.fmade, .pv (encSl (rI .u8) a0.fb), aI a0.fe] false], by kernel_rfl, rfl, rfl⟩
theorem ok_codec_PutUint_nil {n : Nat} {a0 : Int} {r : (List Int)} (hm : codec_PutUint_nil n a0 = some r) :
    ∃ vv H1, call G n 21 [.pv .nils, aU a0] [] = some (.ret vv, H1) ∧ (match r with | r0 => (vv = aR 0 1 r0.length ∧ H1 = [bR 5 1 (rI .u8) r0 0 0])) := by
  unfold codec_PutUint_nil at hm
  obtain ⟨n, rfl, h0⟩ := at1_some hm
  replace hm := h0; clear h0
  refine callE 20 [(0, .pv .nils), (1, aU a0)] func21 rfl (by kernel_rfl) (sq (detn [(0, .pv .nils), (1, aU a0)] (by kernel_rfl) ?_))
  obtain ⟨k4, hk4, hm⟩ := withK_some hm
  refine mid (fun t H => (∃ (y2 : Int) (y3 : Bool), k4 none y2 = some r ∧ t = mk 20 [(0, .pv .nils), (1, aU y2), (6, aB y3)] ∧ H = []) ∨ (∃ (y1 : (List Int)) (y2 : Int) (y3 : Bool), k4 (some y1) y2 = some r ∧ t = mk 20 [(0, aR 0 1 y1.length), (1, aU y2), (6, aB y3)] ∧ H = [bR 5 1 (rI .u8) y1 0 0])) ?_ ?_
  ·
   rintro _ _ (⟨y2, y3, hm, rfl, rfl⟩ | ⟨y1, y2, y3, hm, rfl, rfl⟩)
   ·
    subst hk4
    refine sq (rg (st 4 [(18, aR 0 1 1), (17, aY (IntKind.wrap .u8 y2)), (16, aU y2), (15, .pv .nils)] [bR 5 1 (rI .u8) ([(IntKind.wrap .u8 y2)] : List Int) 0 0] (by kernel_rfl) ?_))
    obtain ⟨_, h5, hm⟩ := bs hm
    refine dO [(19, aR 1 1 (([(IntKind.wrap .u8 y2)] : List Int).length))] [bR 5 1 (rI .u8) ([(IntKind.wrap .u8 y2)] : List Int) 0 0, bR 5 1 (rI .u8) ([(IntKind.wrap .u8 y2)] : List Int) 0 0] (app_nilO (u := 0) (rI .u8) ([(IntKind.wrap .u8 y2)] : List Int) (b := 1) t35 t5 rfl rfl rfl (fun _ => rfl) rfl h5 (show srcRows (aR 0 1 1) _ = some (([(IntKind.wrap .u8 y2)] : List Int).map (rI .u8)) from by kernel_rfl) (by kernel_rfl)) (by kernel_rfl) (sh 1 [(4, aR 1 1 (([(IntKind.wrap .u8 y2)] : List Int).length))] (by kernel_rfl) (fin [(4, aR 1 1 (([(IntKind.wrap .u8 y2)] : List Int).length))] rfl (by kernel_rfl) (wp_ret ?_)))
    obtain rfl := Option.some.inj hm
    exact ⟨trivial, aR 0 1 (([(IntKind.wrap .u8 y2)] : List Int).length), [bR 5 1 (rI .u8) ([(IntKind.wrap .u8 y2)] : List Int) 0 0], by kernel_rfl, rfl, rfl⟩
   ·
    subst hk4
    refine sq (rg (st 4 [(18, aR 1 1 1), (17, aY (IntKind.wrap .u8 y2)), (16, aU y2), (15, aR 0 1 y1.length)] [bR 5 1 (rI .u8) y1 0 0, bR 5 1 (rI .u8) ([(IntKind.wrap .u8 y2)] : List Int) 0 0] (by kernel_rfl) ?_))
    obtain ⟨_, h6, hm⟩ := bs hm
    refine dO [(19, aR 0 1 ((y1 ++ ([(IntKind.wrap .u8 y2)] : List Int)).length))] [bR 5 1 (rI .u8) (y1 ++ ([(IntKind.wrap .u8 y2)] : List Int)) 0 0, bR 5 1 (rI .u8) ([(IntKind.wrap .u8 y2)] : List Int) 0 0] (app_refO (u := 0) (id := 0) (rI .u8) y1 ([(IntKind.wrap .u8 y2)] : List Int) (b := 1) t35 t5 rfl rfl rfl (fun _ => rfl) rfl h6 rfl (by first | rfl | simp) (by first | exact Nat.zero_le _ | exact Nat.le_refl _ | assumption | (simp; done) | (simp; omega)) (show srcRows (aR 1 1 1) _ = some (([(IntKind.wrap .u8 y2)] : List Int).map (rI .u8)) from by kernel_rfl) (by kernel_rfl)) (by kernel_rfl) (sh 1 [(4, aR 0 1 ((y1 ++ ([(IntKind.wrap .u8 y2)] : List Int)).length))] (by kernel_rfl) (fin [(4, aR 0 1 ((y1 ++ ([(IntKind.wrap .u8 y2)] : List Int)).length))] rfl (by kernel_rfl) (wp_ret ?_)))
    obtain rfl := Option.some.inj hm
    exact ⟨trivial, aR 0 1 ((y1 ++ ([(IntKind.wrap .u8 y2)] : List Int)).length), [bR 5 1 (rI .u8) (y1 ++ ([(IntKind.wrap .u8 y2)] : List Int)) 0 0], by kernel_rfl, rfl, rfl⟩
  refine bq ?_
  refine loopF (fun mm t H => (∃ (y11 : Int), codec_PutUint_nil_l1 n k4 mm none y11 = some r ∧ t = mk 20 [(0, .pv .nils), (1, aU y11)] ∧ H = []) ∨ (∃ (y10 : (List Int)) (y11 : Int), codec_PutUint_nil_l1 n k4 mm (some y10) y11 = some r ∧ t = mk 20 [(0, aR 0 1 y10.length), (1, aU y11)] ∧ H = [bR 5 1 (rI .u8) y10 0 0])) (.inl ⟨a0, hm, rfl, rfl⟩) ?_ ?_
  · rintro _ _ (⟨y11, hm, _⟩ | ⟨y10, y11, hm, _⟩) <;> exact nomatch hm
  rintro m12 _ _ (⟨y11, hm, rfl, rfl⟩ | ⟨y10, y11, hm, rfl, rfl⟩)
  ·
   simp only [codec_PutUint_nil_l1] at hm
   refine sq (sq (detn [(0, .pv .nils), (1, aU y11), (6, aB (decide (y11 ≥ 128)))] (by kernel_rfl) ?_))
   rcases bif_some hm with ⟨h13, hm⟩ | ⟨h13, hm⟩
   ·
    refine ct h13 (by kernel_rfl) (wp_skip (bq (sq (rg (st 5 [(11, aR 0 1 1), (10, aY (iOr .u8 (IntKind.wrap .u8 y11) 128)), (9, aY (IntKind.wrap .u8 y11)), (8, aU y11), (7, .pv .nils)] [bR 5 1 (rI .u8) ([(iOr .u8 (IntKind.wrap .u8 y11) 128)] : List Int) 0 0] (by kernel_rfl) ?_)))))
    obtain ⟨_, h14, hm⟩ := bs hm
    refine dO [(12, aR 1 1 (([(iOr .u8 (IntKind.wrap .u8 y11) 128)] : List Int).length))] [bR 5 1 (rI .u8) ([(iOr .u8 (IntKind.wrap .u8 y11) 128)] : List Int) 0 0, bR 5 1 (rI .u8) ([(iOr .u8 (IntKind.wrap .u8 y11) 128)] : List Int) 0 0] (app_nilO (u := 0) (rI .u8) ([(iOr .u8 (IntKind.wrap .u8 y11) 128)] : List Int) (b := 1) t35 t5 rfl rfl rfl (fun _ => rfl) rfl h14 (show srcRows (aR 0 1 1) _ = some (([(iOr .u8 (IntKind.wrap .u8 y11) 128)] : List Int).map (rI .u8)) from by kernel_rfl) (by kernel_rfl)) (by kernel_rfl) (sh 1 [(0, aR 1 1 (([(iOr .u8 (IntKind.wrap .u8 y11) 128)] : List Int).length))] (by kernel_rfl) (fin [(0, aR 1 1 (([(iOr .u8 (IntKind.wrap .u8 y11) 128)] : List Int).length)), (1, aU y11)] rfl (by kernel_rfl) (detn [(0, aR 1 1 (([(iOr .u8 (IntKind.wrap .u8 y11) 128)] : List Int).length)), (1, aU (iShr .u64 y11 7))] (by kernel_rfl) ?_)))
    exact ⟨_, _, tidyL [(0, aR 0 1 (([(iOr .u8 (IntKind.wrap .u8 y11) 128)] : List Int).length)), (1, aU (iShr .u64 y11 7))] [bR 5 1 (rI .u8) ([(iOr .u8 (IntKind.wrap .u8 y11) 128)] : List Int) 0 0] (by kernel_rfl), .inr (⟨([(iOr .u8 (IntKind.wrap .u8 y11) 128)] : List Int), (iShr .u64 y11 7), hm, (by first | rfl | simp), (by first | rfl | simp)⟩)⟩
   ·
    refine cf h13 (by kernel_rfl) (wp_exit ?_)
    exact .inl ⟨y11, (decide (y11 ≥ 128)), hm, rfl, rfl⟩
  ·
   simp only [codec_PutUint_nil_l1] at hm
   refine sq (sq (detn [(0, aR 0 1 y10.length), (1, aU y11), (6, aB (decide (y11 ≥ 128)))] (by kernel_rfl) ?_))
   rcases bif_some hm with ⟨h15, hm⟩ | ⟨h15, hm⟩
   ·
    refine ct h15 (by kernel_rfl) (wp_skip (bq (sq (rg (st 5 [(11, aR 1 1 1), (10, aY (iOr .u8 (IntKind.wrap .u8 y11) 128)), (9, aY (IntKind.wrap .u8 y11)), (8, aU y11), (7, aR 0 1 y10.length)] [bR 5 1 (rI .u8) y10 0 0, bR 5 1 (rI .u8) ([(iOr .u8 (IntKind.wrap .u8 y11) 128)] : List Int) 0 0] (by kernel_rfl) ?_)))))
    obtain ⟨_, h16, hm⟩ := bs hm
    refine dO [(12, aR 0 1 ((y10 ++ ([(iOr .u8 (IntKind.wrap .u8 y11) 128)] : List Int)).length))] [bR 5 1 (rI .u8) (y10 ++ ([(iOr .u8 (IntKind.wrap .u8 y11) 128)] : List Int)) 0 0, bR 5 1 (rI .u8) ([(iOr .u8 (IntKind.wrap .u8 y11) 128)] : List Int) 0 0] (app_refO (u := 0) (id := 0) (rI .u8) y10 ([(iOr .u8 (IntKind.wrap .u8 y11) 128)] : List Int) (b := 1) t35 t5 rfl rfl rfl (fun _ => rfl) rfl h16 rfl (by first | rfl | simp) (by first | exact Nat.zero_le _ | exact Nat.le_refl _ | assumption | (simp; done) | (simp; omega)) (show srcRows (aR 1 1 1) _ = some (([(iOr .u8 (IntKind.wrap .u8 y11) 128)] : List Int).map (rI .u8)) from by kernel_rfl) (by kernel_rfl)) (by kernel_rfl) (sh 1 [(0, aR 0 1 ((y10 ++ ([(iOr .u8 (IntKind.wrap .u8 y11) 128)] : List Int)).length))] (by kernel_rfl) (fin [(0, aR 0 1 ((y10 ++ ([(iOr .u8 (IntKind.wrap .u8 y11) 128)] : List Int)).length)), (1, aU y11)] rfl (by kernel_rfl) (detn [(0, aR 0 1 ((y10 ++ ([(iOr .u8 (IntKind.wrap .u8 y11) 128)] : List Int)).length)), (1, aU (iShr .u64 y11 7))] (by kernel_rfl) ?_)))
    exact ⟨_, _, tidyL [(0, aR 0 1 ((y10 ++ ([(iOr .u8 (IntKind.wrap .u8 y11) 128)] : List Int)).length)), (1, aU (iShr .u64 y11 7))] [bR 5 1 (rI .u8) (y10 ++ ([(iOr .u8 (IntKind.wrap .u8 y11) 128)] : List Int)) 0 0] (by kernel_rfl), .inr (⟨(y10 ++ ([(iOr .u8 (IntKind.wrap .u8 y11) 128)] : List Int)), (iShr .u64 y11 7), hm, (by first | rfl | simp), (by first | rfl | simp)⟩)⟩
   ·
    refine cf h15 (by kernel_rfl) (wp_exit ?_)
    exact .inr (⟨y10, y11, (decide (y11 ≥ 128)), hm, (by first | rfl | simp), (by first | rfl | simp)⟩)
theorem ok_codec_PutText_nil {n : Nat} {a0 : ByteArray} {r : (List Int)} (hm : codec_PutText_nil n a0 = some r) :
    ∃ vv H1, call G n 25 [.pv .nils, aS a0] [] = some (.ret vv, H1) ∧ (match r with | r0 => (vv = aR 0 1 r0.length ∧ H1 = [bR 5 1 (rI .u8) r0 0 0])) := by
  unfold codec_PutText_nil at hm
  obtain ⟨n, rfl, h0⟩ := at1_some hm
  replace hm := h0; clear h0
  refine callE 12 [(0, .pv .nils), (1, aS a0)] func25 rfl (by kernel_rfl) (sq (detn [(0, .pv .nils), (1, aS a0)] (by kernel_rfl) (sq (rg (sh 4 [(8, aU (IntKind.wrap .u64 (a0.size : Int))), (7, aI (a0.size : Int)), (6, aS a0), (5, .pv .nils)] (by kernel_rfl) ?_)))))
  obtain ⟨x2, h1, hm⟩ := bs hm
  obtain ⟨vv, H1, hC, rfl, rfl⟩ := ok_codec_PutUint_nil h1
  refine dR [(9, aR 0 1 x2.length)] [bR 5 1 (rI .u8) x2 0 0] [] [.pv .nils, aU (IntKind.wrap .u64 (a0.size : Int))] (by kernel_rfl) (by kernel_rfl) (by kernel_rfl) hC (by kernel_rfl) (sh 1 [(10, aS a0)] (by kernel_rfl) ?_)
  rcases bif_some hm with ⟨h3, hm⟩ | ⟨h3, hm⟩
  ·
   obtain ⟨_, h4, hm⟩ := bs hm
   refine dv 11 (v := aR 0 1 x2.length) (app_ref0O (u := 0) (id := 0) (rI .u8) x2 (bytesL a0) (b := 1) t35 t5 rfl rfl rfl h3 h4 rfl (by first | rfl | simp) (by first | exact Nat.zero_le _ | exact Nat.le_refl _ | assumption | (simp; done) | (simp; omega)) (src_str (s := a0)) (by kernel_rfl)) (by kernel_rfl) (sh 1 [(4, aR 0 1 x2.length)] (by kernel_rfl) (fin [(4, aR 0 1 x2.length)] rfl (by kernel_rfl) (wp_ret ?_)))
   obtain rfl := Option.some.inj hm
   exact ⟨trivial, aR 0 1 x2.length, [bR 5 1 (rI .u8) x2 0 0], by kernel_rfl, rfl, rfl⟩
  ·
   obtain ⟨_, h5, hm⟩ := bs hm
   refine dO [(11, aR 0 1 ((x2 ++ (bytesL a0)).length))] [bR 5 1 (rI .u8) (x2 ++ (bytesL a0)) 0 0] (app_refO (u := 0) (id := 0) (rI .u8) x2 (bytesL a0) (b := 1) t35 t5 rfl rfl rfl (fun _ => rfl) h3 h5 rfl (by first | rfl | simp) (by first | exact Nat.zero_le _ | exact Nat.le_refl _ | assumption | (simp; done) | (simp; omega)) (src_str (s := a0)) (by kernel_rfl)) (by kernel_rfl) (sh 1 [(4, aR 0 1 ((x2 ++ (bytesL a0)).length))] (by kernel_rfl) (fin [(4, aR 0 1 ((x2 ++ (bytesL a0)).length))] rfl (by kernel_rfl) (wp_ret ?_)))
   obtain rfl := Option.some.inj hm
   exact ⟨trivial, aR 0 1 ((x2 ++ (bytesL a0)).length), [bR 5 1 (rI .u8) (x2 ++ (bytesL a0)) 0 0], by kernel_rfl, rfl, rfl⟩
theorem ok_codec_PutUint_r {n : Nat} {a0 : (List Int)} {a1 : Int} {r : (List Int)} (hm : codec_PutUint_r n a0 a1 = some r) :
    ∃ vv H1, call G n 21 [aR 0 1 a0.length, aU a1] [bR 5 1 (rI .u8) a0 0 0] = some (.ret vv, H1) ∧ (match r with | r0 => (vv = aR 0 1 r0.length ∧ H1 = [bR 5 1 (rI .u8) r0 0 0])) := by
  unfold codec_PutUint_r at hm
  obtain ⟨n, rfl, h0⟩ := at1_some hm
  replace hm := h0; clear h0
  refine callE 20 [(0, aR 0 1 a0.length), (1, aU a1)] func21 rfl (by kernel_rfl) (sq (detn [(0, aR 0 1 a0.length), (1, aU a1)] (by kernel_rfl) ?_))
  obtain ⟨k4, hk4, hm⟩ := withK_some hm
  refine mid (fun t H => (∃ (y1 : (List Int)) (y2 : Int) (y3 : Bool), k4 y1 y2 = some r ∧ t = mk 20 [(0, aR 0 1 y1.length), (1, aU y2), (6, aB y3)] ∧ H = [bR 5 1 (rI .u8) y1 0 0])) ?_ ?_
  ·
   rintro _ _ ⟨y1, y2, y3, hm, rfl, rfl⟩
   subst hk4
   refine sq (rg (st 4 [(18, aR 1 1 1), (17, aY (IntKind.wrap .u8 y2)), (16, aU y2), (15, aR 0 1 y1.length)] [bR 5 1 (rI .u8) y1 0 0, bR 5 1 (rI .u8) ([(IntKind.wrap .u8 y2)] : List Int) 0 0] (by kernel_rfl) ?_))
   obtain ⟨_, h5, hm⟩ := bs hm
   refine dO [(19, aR 0 1 ((y1 ++ ([(IntKind.wrap .u8 y2)] : List Int)).length))] [bR 5 1 (rI .u8) (y1 ++ ([(IntKind.wrap .u8 y2)] : List Int)) 0 0, bR 5 1 (rI .u8) ([(IntKind.wrap .u8 y2)] : List Int) 0 0] (app_refO (u := 0) (id := 0) (rI .u8) y1 ([(IntKind.wrap .u8 y2)] : List Int) (b := 1) t35 t5 rfl rfl rfl (fun _ => rfl) rfl h5 rfl (by first | rfl | simp) (by first | exact Nat.zero_le _ | exact Nat.le_refl _ | assumption | (simp; done) | (simp; omega)) (show srcRows (aR 1 1 1) _ = some (([(IntKind.wrap .u8 y2)] : List Int).map (rI .u8)) from by kernel_rfl) (by kernel_rfl)) (by kernel_rfl) (sh 1 [(4, aR 0 1 ((y1 ++ ([(IntKind.wrap .u8 y2)] : List Int)).length))] (by kernel_rfl) (fin [(4, aR 0 1 ((y1 ++ ([(IntKind.wrap .u8 y2)] : List Int)).length))] rfl (by kernel_rfl) (wp_ret ?_)))
   obtain rfl := Option.some.inj hm
   exact ⟨trivial, aR 0 1 ((y1 ++ ([(IntKind.wrap .u8 y2)] : List Int)).length), [bR 5 1 (rI .u8) (y1 ++ ([(IntKind.wrap .u8 y2)] : List Int)) 0 0], by kernel_rfl, rfl, rfl⟩
  refine bq ?_
  refine loopF (fun mm t H => (∃ (y8 : (List Int)) (y9 : Int), codec_PutUint_r_l1 n k4 mm y8 y9 = some r ∧ t = mk 20 [(0, aR 0 1 y8.length), (1, aU y9)] ∧ H = [bR 5 1 (rI .u8) y8 0 0])) (⟨a0, a1, hm, (by first | rfl | simp), (by first | rfl | simp)⟩) ?_ ?_
  · rintro _ _ ⟨y8, y9, hm, _⟩; exact nomatch hm
  rintro m10 _ _ ⟨y8, y9, hm, rfl, rfl⟩
  simp only [codec_PutUint_r_l1] at hm
  refine sq (sq (detn [(0, aR 0 1 y8.length), (1, aU y9), (6, aB (decide (y9 ≥ 128)))] (by kernel_rfl) ?_))
  rcases bif_some hm with ⟨h11, hm⟩ | ⟨h11, hm⟩
  ·
   refine ct h11 (by kernel_rfl) (wp_skip (bq (sq (rg (st 5 [(11, aR 1 1 1), (10, aY (iOr .u8 (IntKind.wrap .u8 y9) 128)), (9, aY (IntKind.wrap .u8 y9)), (8, aU y9), (7, aR 0 1 y8.length)] [bR 5 1 (rI .u8) y8 0 0, bR 5 1 (rI .u8) ([(iOr .u8 (IntKind.wrap .u8 y9) 128)] : List Int) 0 0] (by kernel_rfl) ?_)))))
   obtain ⟨_, h12, hm⟩ := bs hm
   refine dO [(12, aR 0 1 ((y8 ++ ([(iOr .u8 (IntKind.wrap .u8 y9) 128)] : List Int)).length))] [bR 5 1 (rI .u8) (y8 ++ ([(iOr .u8 (IntKind.wrap .u8 y9) 128)] : List Int)) 0 0, bR 5 1 (rI .u8) ([(iOr .u8 (IntKind.wrap .u8 y9) 128)] : List Int) 0 0] (app_refO (u := 0) (id := 0) (rI .u8) y8 ([(iOr .u8 (IntKind.wrap .u8 y9) 128)] : List Int) (b := 1) t35 t5 rfl rfl rfl (fun _ => rfl) rfl h12 rfl (by first | rfl | simp) (by first | exact Nat.zero_le _ | exact Nat.le_refl _ | assumption | (simp; done) | (simp; omega)) (show srcRows (aR 1 1 1) _ = some (([(iOr .u8 (IntKind.wrap .u8 y9) 128)] : List Int).map (rI .u8)) from by kernel_rfl) (by kernel_rfl)) (by kernel_rfl) (sh 1 [(0, aR 0 1 ((y8 ++ ([(iOr .u8 (IntKind.wrap .u8 y9) 128)] : List Int)).length))] (by kernel_rfl) (fin [(0, aR 0 1 ((y8 ++ ([(iOr .u8 (IntKind.wrap .u8 y9) 128)] : List Int)).length)), (1, aU y9)] rfl (by kernel_rfl) (detn [(0, aR 0 1 ((y8 ++ ([(iOr .u8 (IntKind.wrap .u8 y9) 128)] : List Int)).length)), (1, aU (iShr .u64 y9 7))] (by kernel_rfl) ?_)))
   exact ⟨_, _, tidyL [(0, aR 0 1 ((y8 ++ ([(iOr .u8 (IntKind.wrap .u8 y9) 128)] : List Int)).length)), (1, aU (iShr .u64 y9 7))] [bR 5 1 (rI .u8) (y8 ++ ([(iOr .u8 (IntKind.wrap .u8 y9) 128)] : List Int)) 0 0] (by kernel_rfl), ⟨(y8 ++ ([(iOr .u8 (IntKind.wrap .u8 y9) 128)] : List Int)), (iShr .u64 y9 7), hm, (by first | rfl | simp), (by first | rfl | simp)⟩⟩
  ·
   refine cf h11 (by kernel_rfl) (wp_exit ?_)
   exact ⟨y8, y9, (decide (y9 ≥ 128)), hm, (by first | rfl | simp), (by first | rfl | simp)⟩
theorem ok_codec_PutText_r {n : Nat} {a0 : (List Int)} {a1 : ByteArray} {r : (List Int)} (hm : codec_PutText_r n a0 a1 = some r) :
    ∃ vv H1, call G n 25 [aR 0 1 a0.length, aS a1] [bR 5 1 (rI .u8) a0 0 0] = some (.ret vv, H1) ∧ (match r with | r0 => (vv = aR 0 1 r0.length ∧ H1 = [bR 5 1 (rI .u8) r0 0 0])) := by
  unfold codec_PutText_r at hm
  obtain ⟨n, rfl, h0⟩ := at1_some hm
  replace hm := h0; clear h0
  refine callE 12 [(0, aR 0 1 a0.length), (1, aS a1)] func25 rfl (by kernel_rfl) (sq (detn [(0, aR 0 1 a0.length), (1, aS a1)] (by kernel_rfl) (sq (rg (sh 4 [(8, aU (IntKind.wrap .u64 (a1.size : Int))), (7, aI (a1.size : Int)), (6, aS a1), (5, aR 0 1 a0.length)] (by kernel_rfl) ?_)))))
  obtain ⟨x2, h1, hm⟩ := bs hm
  obtain ⟨vv, H1, hC, rfl, rfl⟩ := ok_codec_PutUint_r h1
  refine dR [(9, aR 0 1 x2.length)] [bR 5 1 (rI .u8) x2 0 0] [0] [aR 0 1 a0.length, aU (IntKind.wrap .u64 (a1.size : Int))] (by kernel_rfl) (by kernel_rfl) (by kernel_rfl) hC (by kernel_rfl) (sh 1 [(10, aS a1)] (by kernel_rfl) ?_)
  rcases bif_some hm with ⟨h3, hm⟩ | ⟨h3, hm⟩
  ·
   obtain ⟨_, h4, hm⟩ := bs hm
   refine dv 11 (v := aR 0 1 x2.length) (app_ref0O (u := 0) (id := 0) (rI .u8) x2 (bytesL a1) (b := 1) t35 t5 rfl rfl rfl h3 h4 rfl (by first | rfl | simp) (by first | exact Nat.zero_le _ | exact Nat.le_refl _ | assumption | (simp; done) | (simp; omega)) (src_str (s := a1)) (by kernel_rfl)) (by kernel_rfl) (sh 1 [(4, aR 0 1 x2.length)] (by kernel_rfl) (fin [(4, aR 0 1 x2.length)] rfl (by kernel_rfl) (wp_ret ?_)))
   obtain rfl := Option.some.inj hm
   exact ⟨trivial, aR 0 1 x2.length, [bR 5 1 (rI .u8) x2 0 0], by kernel_rfl, rfl, rfl⟩
  ·
   obtain ⟨_, h5, hm⟩ := bs hm
   refine dO [(11, aR 0 1 ((x2 ++ (bytesL a1)).length))] [bR 5 1 (rI .u8) (x2 ++ (bytesL a1)) 0 0] (app_refO (u := 0) (id := 0) (rI .u8) x2 (bytesL a1) (b := 1) t35 t5 rfl rfl rfl (fun _ => rfl) h3 h5 rfl (by first | rfl | simp) (by first | exact Nat.zero_le _ | exact Nat.le_refl _ | assumption | (simp; done) | (simp; omega)) (src_str (s := a1)) (by kernel_rfl)) (by kernel_rfl) (sh 1 [(4, aR 0 1 ((x2 ++ (bytesL a1)).length))] (by kernel_rfl) (fin [(4, aR 0 1 ((x2 ++ (bytesL a1)).length))] rfl (by kernel_rfl) (wp_ret ?_)))
   obtain rfl := Option.some.inj hm
   exact ⟨trivial, aR 0 1 ((x2 ++ (bytesL a1)).length), [bR 5 1 (rI .u8) (x2 ++ (bytesL a1)) 0 0], by kernel_rfl, rfl, rfl⟩
theorem ok_schema_Put_nil {n : Nat} {a0 : api_Table} {r : (List Int)} (hm : schema_Put_nil n a0 = some r) :
    ∃ vv H1, call G n 45 [.pv .nils, .agg [aS a0.fName, .pv (encSl R_api_Column a0.fCols)]] [] = some (.ret vv, H1) ∧ (match r with | r0 => (vv = aR 0 1 r0.length ∧ H1 = [bR 5 1 (rI .u8) r0 0 0])) := by
  unfold schema_Put_nil at hm
  obtain ⟨n, rfl, h0⟩ := at1_some hm
  replace hm := h0; clear h0
  refine callE 35 [(0, .pv .nils), (1, .agg [aS a0.fName, .pv (encSl R_api_Column a0.fCols)])] func45 rfl (by kernel_rfl) (sq (det [(0, .pv .nils), (3, .ptr 0 0)] [.box [aS a0.fName, .pv (encSl R_api_Column a0.fCols)] false] (by kernel_rfl) (sq (rg (sh 3 [(9, aS a0.fName), (8, .ptr 0 0), (7, .pv .nils)] (by kernel_rfl) ?_)))))
  obtain ⟨x2, h1, hm⟩ := bs hm
  obtain ⟨vv, H1, hC, rfl, rfl⟩ := ok_codec_PutText_nil h1
  refine dR [(10, aR 1 1 x2.length)] [.box [aS a0.fName, .pv (encSl R_api_Column a0.fCols)] false, bR 5 1 (rI .u8) x2 0 0] [] [.pv .nils, aS a0.fName] (by kernel_rfl) (by kernel_rfl) (by kernel_rfl) hC (by kernel_rfl) (sh 1 [(0, aR 1 1 x2.length)] (by kernel_rfl) (fin [(0, aR 1 1 x2.length), (3, .ptr 0 0)] rfl (by kernel_rfl) (sq (rg (sh 3 [(13, .pv (encSl R_api_Column a0.fCols)), (12, .ptr 0 1), (11, aR 1 1 x2.length)] (by kernel_rfl) (dv 14 (v := aI ((sll a0.fCols).length : Int)) (len_slO R_api_Column a0.fCols t22 (by kernel_rfl)) (by kernel_rfl) (sh 1 [(15, aU (IntKind.wrap .u64 ((sll a0.fCols).length : Int)))] (by kernel_rfl) ?_)))))))
  obtain ⟨x4, h3, hm⟩ := bs hm
  obtain ⟨vv, H1, hC, rfl, rfl⟩ := ok_codec_PutUint_r h3
  refine dR [(16, aR 1 1 x4.length)] [.box [aS a0.fName, .pv (encSl R_api_Column a0.fCols)] false, bR 5 1 (rI .u8) x4 0 0] [1] [aR 1 1 x2.length, aU (IntKind.wrap .u64 ((sll a0.fCols).length : Int))] (by kernel_rfl) (by kernel_rfl) (by kernel_rfl) hC (by kernel_rfl) (sh 1 [(0, aR 1 1 x4.length)] (by kernel_rfl) (fin [(0, aR 1 1 x4.length), (3, .ptr 0 0)] rfl (by kernel_rfl) ?_))
  obtain ⟨k8, hk8, hm⟩ := withK_some hm
  refine mid (fun t H => (∃ (y5 : (List Int)) (y6 : Int) (y7 : Bool), k8 y5 = some r ∧ t = mk 35 [(0, aR 1 1 y5.length), (18, .pv (encSl R_api_Column a0.fCols)), (19, aI ((sll a0.fCols).length : Int)), (20, aI y6), (21, aB y7)] ∧ H = [.box [aS a0.fName, .pv (encSl R_api_Column a0.fCols)] false, bR 5 1 (rI .u8) y5 0 0])) ?_ ?_
  ·
   rintro _ _ ⟨y5, y6, y7, hm, rfl, rfl⟩
   subst hk8
   refine sq (detn [(4, aR 1 1 y5.length)] (by kernel_rfl) (wp_ret ?_))
   obtain rfl := Option.some.inj hm
   exact ⟨trivial, aR 0 1 y5.length, [bR 5 1 (rI .u8) y5 0 0], by kernel_rfl, rfl, rfl⟩
  refine sq (rg (sh 2 [(18, .pv (encSl R_api_Column a0.fCols)), (17, .ptr 0 1)] (by kernel_rfl) (dv 19 (v := aI ((sll a0.fCols).length : Int)) (len_slO R_api_Column a0.fCols t22 (by kernel_rfl)) (by kernel_rfl) (sh 1 [(20, aI 0)] (by kernel_rfl) (fin [(0, aR 1 1 x4.length), (18, .pv (encSl R_api_Column a0.fCols)), (19, aI ((sll a0.fCols).length : Int)), (20, aI 0)] rfl (by kernel_rfl) (bq ?_))))))
  refine loopF (fun mm t H => (∃ (y11 : (List Int)) (y12 : Int), schema_Put_nil_l4 n a0 k8 mm y11 y12 = some r ∧ t = mk 35 [(0, aR 1 1 y11.length), (18, .pv (encSl R_api_Column a0.fCols)), (19, aI ((sll a0.fCols).length : Int)), (20, aI y12)] ∧ H = [.box [aS a0.fName, .pv (encSl R_api_Column a0.fCols)] false, bR 5 1 (rI .u8) y11 0 0])) (⟨x4, 0, hm, (by first | rfl | simp), (by first | rfl | simp)⟩) ?_ ?_
  · rintro _ _ ⟨y11, y12, hm, _⟩; exact nomatch hm
  rintro m13 _ _ ⟨y11, y12, hm, rfl, rfl⟩
  simp only [schema_Put_nil_l4] at hm
  refine sq (detn [(0, aR 1 1 y11.length), (18, .pv (encSl R_api_Column a0.fCols)), (19, aI ((sll a0.fCols).length : Int)), (20, aI y12), (21, aB (decide (y12 < ((sll a0.fCols).length : Int))))] (by kernel_rfl) ?_)
  refine sq ?_
  rcases bif_some hm with ⟨h14, hm⟩ | ⟨h14, hm⟩
  ·
   refine ct h14 (by kernel_rfl) (wp_skip (sq (bq (sq (rg ?_)))))
   obtain ⟨x15, h16, hm⟩ := bs hm
   refine dv 22 (v := .pv (.ptr (R_api_Column x15) 0)) (ia_slO R_api_Column a0.fCols .i64 t22 t72 h16 rfl (by kernel_rfl)) (by kernel_rfl) (st 3 [(6, .ptr 2 0), (23, .agg [aS x15.fName, aI x15.fKind])] [.box [aS a0.fName, .pv (encSl R_api_Column a0.fCols)] false, bR 5 1 (rI .u8) y11 0 0, .box [aS x15.fName, aI x15.fKind] false] (by kernel_rfl) (fin [(0, aR 1 1 y11.length), (6, .ptr 2 0), (18, .pv (encSl R_api_Column a0.fCols)), (19, aI ((sll a0.fCols).length : Int)), (20, aI y12)] rfl (by kernel_rfl) (rgd (shd 3 [(26, aS x15.fName), (25, .ptr 2 0), (24, aR 1 1 y11.length)] (by kernel_rfl) ?_))))
   obtain ⟨x18, h17, hm⟩ := bs hm
   obtain ⟨vv, H1, hC, rfl, rfl⟩ := ok_codec_PutText_r h17
   refine dRd [(27, aR 1 1 x18.length)] [.box [aS a0.fName, .pv (encSl R_api_Column a0.fCols)] false, bR 5 1 (rI .u8) x18 0 0, .box [aS x15.fName, aI x15.fKind] false] [1] [aR 1 1 y11.length, aS x15.fName] (by kernel_rfl) (by kernel_rfl) (by kernel_rfl) hC (by kernel_rfl) (std 4 [(31, aR 3 1 1), (30, aY (IntKind.wrap .u8 x15.fKind)), (29, aI x15.fKind), (28, .ptr 2 1)] [.box [aS a0.fName, .pv (encSl R_api_Column a0.fCols)] false, bR 5 1 (rI .u8) x18 0 0, .box [aS x15.fName, aI x15.fKind] false, bR 5 1 (rI .u8) ([(IntKind.wrap .u8 x15.fKind)] : List Int) 0 0] (by kernel_rfl) ?_)
   obtain ⟨_, h19, hm⟩ := bs hm
   refine dOd [(32, aR 1 1 ((x18 ++ ([(IntKind.wrap .u8 x15.fKind)] : List Int)).length))] [.box [aS a0.fName, .pv (encSl R_api_Column a0.fCols)] false, bR 5 1 (rI .u8) (x18 ++ ([(IntKind.wrap .u8 x15.fKind)] : List Int)) 0 0, .box [aS x15.fName, aI x15.fKind] false, bR 5 1 (rI .u8) ([(IntKind.wrap .u8 x15.fKind)] : List Int) 0 0] (app_refO (u := 0) (id := 1) (rI .u8) x18 ([(IntKind.wrap .u8 x15.fKind)] : List Int) (b := 1) t35 t5 rfl rfl rfl (fun _ => rfl) rfl h19 rfl (by first | rfl | simp) (by first | exact Nat.zero_le _ | exact Nat.le_refl _ | assumption | (simp; done) | (simp; omega)) (show srcRows (aR 3 1 1) _ = some (([(IntKind.wrap .u8 x15.fKind)] : List Int).map (rI .u8)) from by kernel_rfl) (by kernel_rfl)) (by kernel_rfl) (shd 1 [(0, aR 1 1 ((x18 ++ ([(IntKind.wrap .u8 x15.fKind)] : List Int)).length))] (by kernel_rfl) (find [(0, aR 1 1 ((x18 ++ ([(IntKind.wrap .u8 x15.fKind)] : List Int)).length)), (18, .pv (encSl R_api_Column a0.fCols)), (19, aI ((sll a0.fCols).length : Int)), (20, aI y12)] rfl (by kernel_rfl) (by kernel_rfl) (detn [(0, aR 1 1 ((x18 ++ ([(IntKind.wrap .u8 x15.fKind)] : List Int)).length)), (18, .pv (encSl R_api_Column a0.fCols)), (19, aI ((sll a0.fCols).length : Int)), (20, aI (IntKind.wrap .i64 (y12 + 1)))] (by kernel_rfl) ?_)))
   exact ⟨_, _, tidyL [(0, aR 1 1 ((x18 ++ ([(IntKind.wrap .u8 x15.fKind)] : List Int)).length)), (18, .pv (encSl R_api_Column a0.fCols)), (19, aI ((sll a0.fCols).length : Int)), (20, aI (IntKind.wrap .i64 (y12 + 1)))] [.box [aS a0.fName, .pv (encSl R_api_Column a0.fCols)] false, bR 5 1 (rI .u8) (x18 ++ ([(IntKind.wrap .u8 x15.fKind)] : List Int)) 0 0] (by kernel_rfl), ⟨(x18 ++ ([(IntKind.wrap .u8 x15.fKind)] : List Int)), (IntKind.wrap .i64 (y12 + 1)), hm, (by first | rfl | simp), (by first | rfl | simp)⟩⟩
  ·
   refine cf h14 (by kernel_rfl) (wp_exit ?_)
   exact ⟨y11, y12, (decide (y12 < ((sll a0.fCols).length : Int))), hm, (by first | rfl | simp), (by first | rfl | simp)⟩
theorem ok_schema_Put_nil_2 {n : Nat} {a0 : (List api_Column)} {a1 : ByteArray} {r : (List Int)} (hm : schema_Put_nil_2 n a0 a1 = some r) :
    ∃ vv H1, call G n 45 [.pv .nils, .agg [aS a1, aR 0 2 a0.length]] [bR 72 2 R_api_Column a0 0 0] = some (.ret vv, H1) ∧ (match r with | r0 => (vv = aR 1 1 r0.length ∧ H1 = [bR 72 2 R_api_Column a0 0 0, bR 5 1 (rI .u8) r0 0 0])) := by
  unfold schema_Put_nil_2 at hm
  obtain ⟨n, rfl, h0⟩ := at1_some hm
  replace hm := h0; clear h0
  refine callE 35 [(0, .pv .nils), (1, .agg [aS a1, aR 0 2 a0.length])] func45 rfl (by kernel_rfl) (sq (det [(0, .pv .nils), (3, .ptr 1 0)] [bR 72 2 R_api_Column a0 0 0, .box [aS a1, aR 0 2 a0.length] false] (by kernel_rfl) (sq (rg (sh 3 [(9, aS a1), (8, .ptr 1 0), (7, .pv .nils)] (by kernel_rfl) ?_)))))
  obtain ⟨x2, h1, hm⟩ := bs hm
  obtain ⟨vv, H1, hC, rfl, rfl⟩ := ok_codec_PutText_nil h1
  refine dR [(10, aR 2 1 x2.length)] [bR 72 2 R_api_Column a0 0 0, .box [aS a1, aR 0 2 a0.length] false, bR 5 1 (rI .u8) x2 0 0] [] [.pv .nils, aS a1] (by kernel_rfl) (by kernel_rfl) (by kernel_rfl) hC (by kernel_rfl) (sh 1 [(0, aR 2 1 x2.length)] (by kernel_rfl) (fin [(0, aR 2 1 x2.length), (3, .ptr 1 0)] rfl (by kernel_rfl) (sq (rg (sh 5 [(15, aU (IntKind.wrap .u64 ((a0.length : Nat) : Int))), (14, aI ((a0.length : Nat) : Int)), (13, aR 0 2 a0.length), (12, .ptr 1 1), (11, aR 2 1 x2.length)] (by kernel_rfl) ?_)))))
  obtain ⟨x4, h3, hm⟩ := bs hm
  obtain ⟨vv, H1, hC, rfl, rfl⟩ := ok_codec_PutUint_r h3
  refine dR [(16, aR 2 1 x4.length)] [bR 72 2 R_api_Column a0 0 0, .box [aS a1, aR 0 2 a0.length] false, bR 5 1 (rI .u8) x4 0 0] [2] [aR 2 1 x2.length, aU (IntKind.wrap .u64 ((a0.length : Nat) : Int))] (by kernel_rfl) (by kernel_rfl) (by kernel_rfl) hC (by kernel_rfl) (sh 1 [(0, aR 2 1 x4.length)] (by kernel_rfl) (fin [(0, aR 2 1 x4.length), (3, .ptr 1 0)] rfl (by kernel_rfl) ?_))
  obtain ⟨k8, hk8, hm⟩ := withK_some hm
  refine mid (fun t H => (∃ (y5 : (List Int)) (y6 : Int) (y7 : Bool), k8 y5 = some r ∧ t = mk 35 [(0, aR 2 1 y5.length), (18, aR 0 2 a0.length), (19, aI ((a0.length : Nat) : Int)), (20, aI y6), (21, aB y7)] ∧ H = [bR 72 2 R_api_Column a0 0 0, .box [aS a1, aR 0 2 a0.length] false, bR 5 1 (rI .u8) y5 0 0])) ?_ ?_
  ·
   rintro _ _ ⟨y5, y6, y7, hm, rfl, rfl⟩
   subst hk8
   refine sq (detn [(4, aR 2 1 y5.length)] (by kernel_rfl) (wp_ret ?_))
   obtain rfl := Option.some.inj hm
   exact ⟨trivial, aR 1 1 y5.length, [bR 72 2 R_api_Column a0 0 0, bR 5 1 (rI .u8) y5 0 0], by kernel_rfl, rfl, rfl⟩
  refine sq (detn [(0, aR 2 1 x4.length), (18, aR 0 2 a0.length), (19, aI ((a0.length : Nat) : Int)), (20, aI 0)] (by kernel_rfl) (bq ?_))
  refine loopF (fun mm t H => (∃ (y11 : (List Int)) (y12 : Int), schema_Put_nil_2_l4 n a0 k8 mm y11 y12 = some r ∧ t = mk 35 [(0, aR 2 1 y11.length), (18, aR 0 2 a0.length), (19, aI ((a0.length : Nat) : Int)), (20, aI y12)] ∧ H = [bR 72 2 R_api_Column a0 0 0, .box [aS a1, aR 0 2 a0.length] false, bR 5 1 (rI .u8) y11 0 0])) (⟨x4, 0, hm, (by first | rfl | simp), (by first | rfl | simp)⟩) ?_ ?_
  · rintro _ _ ⟨y11, y12, hm, _⟩; exact nomatch hm
  rintro m13 _ _ ⟨y11, y12, hm, rfl, rfl⟩
  simp only [schema_Put_nil_2_l4] at hm
  refine sq (detn [(0, aR 2 1 y11.length), (18, aR 0 2 a0.length), (19, aI ((a0.length : Nat) : Int)), (20, aI y12), (21, aB (decide (y12 < ((a0.length : Nat) : Int))))] (by kernel_rfl) ?_)
  refine sq ?_
  rcases bif_some hm with ⟨h14, hm⟩ | ⟨h14, hm⟩
  ·
   refine ct h14 (by kernel_rfl) (wp_skip (sq (bq (sq (rg ?_)))))
   obtain ⟨x15, h16, hm⟩ := bs hm
   refine dv 22 (v := .eptr 0 0 a0.length 2 (0 + Int.toNat y12) 0) (ia_refO a0 .i64 t22 t72 h16 (by first | rfl | simp) rfl (by kernel_rfl)) (by kernel_rfl) (dv 23 (v := .agg [aS x15.fName, aI x15.fKind]) (ld_eptrO R_api_Column a0 (j := y12) (off := 0) (id := 0) t72 rfl h16 (by first | rfl | simp) (by first | exact Nat.zero_le _ | exact Nat.le_refl _ | assumption | (simp; done) | (simp; omega)) (by kernel_rfl) (by kernel_rfl)) (by kernel_rfl) (st 2 [(6, .ptr 3 0)] [bR 72 2 R_api_Column a0 0 0, .box [aS a1, aR 0 2 a0.length] false, bR 5 1 (rI .u8) y11 0 0, .box [aS x15.fName, aI x15.fKind] false] (by kernel_rfl) (fin [(0, aR 2 1 y11.length), (6, .ptr 3 0), (18, aR 0 2 a0.length), (19, aI ((a0.length : Nat) : Int)), (20, aI y12)] rfl (by kernel_rfl) (rgd (shd 3 [(26, aS x15.fName), (25, .ptr 3 0), (24, aR 2 1 y11.length)] (by kernel_rfl) ?_)))))
   obtain ⟨x18, h17, hm⟩ := bs hm
   obtain ⟨vv, H1, hC, rfl, rfl⟩ := ok_codec_PutText_r h17
   refine dRd [(27, aR 2 1 x18.length)] [bR 72 2 R_api_Column a0 0 0, .box [aS a1, aR 0 2 a0.length] false, bR 5 1 (rI .u8) x18 0 0, .box [aS x15.fName, aI x15.fKind] false] [2] [aR 2 1 y11.length, aS x15.fName] (by kernel_rfl) (by kernel_rfl) (by kernel_rfl) hC (by kernel_rfl) (std 4 [(31, aR 4 1 1), (30, aY (IntKind.wrap .u8 x15.fKind)), (29, aI x15.fKind), (28, .ptr 3 1)] [bR 72 2 R_api_Column a0 0 0, .box [aS a1, aR 0 2 a0.length] false, bR 5 1 (rI .u8) x18 0 0, .box [aS x15.fName, aI x15.fKind] false, bR 5 1 (rI .u8) ([(IntKind.wrap .u8 x15.fKind)] : List Int) 0 0] (by kernel_rfl) ?_)
   obtain ⟨_, h19, hm⟩ := bs hm
   refine dOd [(32, aR 2 1 ((x18 ++ ([(IntKind.wrap .u8 x15.fKind)] : List Int)).length))] [bR 72 2 R_api_Column a0 0 0, .box [aS a1, aR 0 2 a0.length] false, bR 5 1 (rI .u8) (x18 ++ ([(IntKind.wrap .u8 x15.fKind)] : List Int)) 0 0, .box [aS x15.fName, aI x15.fKind] false, bR 5 1 (rI .u8) ([(IntKind.wrap .u8 x15.fKind)] : List Int) 0 0] (app_refO (u := 0) (id := 2) (rI .u8) x18 ([(IntKind.wrap .u8 x15.fKind)] : List Int) (b := 1) t35 t5 rfl rfl rfl (fun _ => rfl) rfl h19 rfl (by first | rfl | simp) (by first | exact Nat.zero_le _ | exact Nat.le_refl _ | assumption | (simp; done) | (simp; omega)) (show srcRows (aR 4 1 1) _ = some (([(IntKind.wrap .u8 x15.fKind)] : List Int).map (rI .u8)) from by kernel_rfl) (by kernel_rfl)) (by kernel_rfl) (shd 1 [(0, aR 2 1 ((x18 ++ ([(IntKind.wrap .u8 x15.fKind)] : List Int)).length))] (by kernel_rfl) (find [(0, aR 2 1 ((x18 ++ ([(IntKind.wrap .u8 x15.fKind)] : List Int)).length)), (18, aR 0 2 a0.length), (19, aI ((a0.length : Nat) : Int)), (20, aI y12)] rfl (by kernel_rfl) (by kernel_rfl) (detn [(0, aR 2 1 ((x18 ++ ([(IntKind.wrap .u8 x15.fKind)] : List Int)).length)), (18, aR 0 2 a0.length), (19, aI ((a0.length : Nat) : Int)), (20, aI (IntKind.wrap .i64 (y12 + 1)))] (by kernel_rfl) ?_)))
   exact ⟨_, _, tidyL [(0, aR 2 1 ((x18 ++ ([(IntKind.wrap .u8 x15.fKind)] : List Int)).length)), (18, aR 0 2 a0.length), (19, aI ((a0.length : Nat) : Int)), (20, aI (IntKind.wrap .i64 (y12 + 1)))] [bR 72 2 R_api_Column a0 0 0, .box [aS a1, aR 0 2 a0.length] false, bR 5 1 (rI .u8) (x18 ++ ([(IntKind.wrap .u8 x15.fKind)] : List Int)) 0 0] (by kernel_rfl), ⟨(x18 ++ ([(IntKind.wrap .u8 x15.fKind)] : List Int)), (IntKind.wrap .i64 (y12 + 1)), hm, (by first | rfl | simp), (by first | rfl | simp)⟩⟩
  ·
   refine cf h14 (by kernel_rfl) (wp_exit ?_)
   exact ⟨y11, y12, (decide (y12 < ((a0.length : Nat) : Int))), hm, (by first | rfl | simp), (by first | rfl | simp)⟩
theorem ok_law06_SchemaOne {n : Nat} {a0 : (Option (List Int))} {r : Bool} (hm : law06_SchemaOne n a0 = some r) :
    call G n 9 [.pv (encSl (rI .u8) a0)] [] = some (.ret (aB r), []) := by
  unfold law06_SchemaOne at hm
  obtain ⟨n, rfl, h0⟩ := at1_some hm
  replace hm := h0; clear h0
  refine callL 46 [(0, .pv (encSl (rI .u8) a0))] func9 rfl (by kernel_rfl) (sq (detn [(0, .pv (encSl (rI .u8) a0))] (by kernel_rfl) ?_))
  refine sq (sq (rg ?_))
  obtain ⟨x1, h2, hm⟩ := bs hm
  refine dv 7 (cpure (by kernel_rfl) (ok_law06_works h2) (by kernel_rfl) (by kernel_rfl) (by kernel_rfl)) (by kernel_rfl) (sh 1 [(8, aB (!x1))] (by kernel_rfl) (fin [(0, .pv (encSl (rI .u8) a0)), (8, aB (!x1))] rfl (by kernel_rfl) ?_))
  rcases bif_some hm with ⟨h3, hm⟩ | ⟨h3, hm⟩
  ·
   refine ct h3 (by kernel_rfl) (sq (detn [(2, aB false)] (by kernel_rfl) (wp_ret ?_)))
   obtain rfl := Option.some.inj hm
   exact ⟨trivial, by kernel_rfl⟩
  ·
   refine cf h3 (by kernel_rfl) (wp_skip ?_)
   refine sq (sq (rg (sh 1 [(9, .pv (encSl (rI .u8) a0))] (by kernel_rfl) (dv 10 (v := aI ((sll a0).length : Int)) (len_slO (rI .u8) a0 t35 (by kernel_rfl)) (by kernel_rfl) (sh 1 [(11, aB (decide (((sll a0).length : Int) > 2000)))] (by kernel_rfl) (fin [(0, .pv (encSl (rI .u8) a0)), (11, aB (decide (((sll a0).length : Int) > 2000)))] rfl (by kernel_rfl) ?_))))))
   rcases bif_some hm with ⟨h4, hm⟩ | ⟨h4, hm⟩
   ·
    refine ct h4 (by kernel_rfl) (sq (detn [(2, aB true)] (by kernel_rfl) (wp_ret ?_)))
    obtain rfl := Option.some.inj hm
    exact ⟨trivial, by kernel_rfl⟩
   ·
    refine cf h4 (by kernel_rfl) (wp_skip (sq (rg (sh 1 [(12, .pv (encSl (rI .u8) a0))] (by kernel_rfl) ?_))))
    obtain ⟨_, h5, hm⟩ := bs hm
    obtain ⟨vv, H1, hC, rfl, rfl⟩ := ok_codec_Read h5
    refine dO [(13, .ptr 0 0)] [.box [aB true, .pv (encSl (rI .u8) a0), aI 0] false] (cownO [] [.pv (encSl (rI .u8) a0)] (v' := .ptr 0 0) (bs' := [.box [aB true, .pv (encSl (rI .u8) a0), aI 0] false]) (by kernel_rfl) (by kernel_rfl) (by kernel_rfl) hC (by kernel_rfl) (by kernel_rfl) (by kernel_rfl)) (by kernel_rfl) (sh 1 [(3, .ptr 0 0)] (by kernel_rfl) (fin [(0, .pv (encSl (rI .u8) a0)), (3, .ptr 0 0)] rfl (by kernel_rfl) ?_))
    obtain ⟨k12, hk12, hm⟩ := withK_some hm
    refine mid (fun t H => (∃ (y6 : Bool) (y7 : (Option (List Int))) (y8 : Int) (y9 : ByteArray) (y11 : Int), k12 y6 y7 y8 y9 none y11 = some r ∧ t = mk 46 [(0, .pv (encSl (rI .u8) a0)), (3, .ptr 0 0), (4, .ptr 1 0), (5, aI y11)] ∧ H = [.box [aB y6, .pv (encSl (rI .u8) y7), aI y8] false, .box [aS y9, .pv .nils] false]) ∨ (∃ (y6 : Bool) (y7 : (Option (List Int))) (y8 : Int) (y9 : ByteArray) (y10 : (List api_Column)) (y11 : Int), k12 y6 y7 y8 y9 (some y10) y11 = some r ∧ t = mk 46 [(0, .pv (encSl (rI .u8) a0)), (3, .ptr 0 0), (4, .ptr 2 0), (5, aI y11)] ∧ H = [.box [aB y6, .pv (encSl (rI .u8) y7), aI y8] false, bR 72 2 R_api_Column y10 0 0, .box [aS y9, aR 1 2 y10.length] false])) ?_ ?_
    ·
     rintro _ _ (⟨y6, y7, y8, y9, y11, hm, rfl, rfl⟩ | ⟨y6, y7, y8, y9, y10, y11, hm, rfl, rfl⟩)
     ·
      subst hk12
      refine sq (sq (detn [(0, .pv (encSl (rI .u8) a0)), (3, .ptr 0 0), (4, .ptr 1 0), (20, aB (y11 != 0))] (by kernel_rfl) ?_))
      rcases bif_some hm with ⟨h13, hm⟩ | ⟨h13, hm⟩
      ·
       refine ct h13 (by kernel_rfl) (sq (rg (sh 2 [(22, .agg [aS ByteArray.empty, .pv .nils]), (21, .agg [aS y9, .pv .nils])] (by kernel_rfl) ?_)))
       obtain ⟨x14, h15, hm⟩ := bs hm
       refine dv 23 (cpure (by kernel_rfl) (ok_schema_Same h15) (by kernel_rfl) (by kernel_rfl) (by kernel_rfl)) (by kernel_rfl) (sh 1 [(2, aB x14)] (by kernel_rfl) (fin [(2, aB x14)] rfl (by kernel_rfl) (wp_ret ?_)))
       obtain rfl := Option.some.inj hm
       exact ⟨trivial, by kernel_rfl⟩
      ·
       refine cf h13 (by kernel_rfl) (wp_skip (sq (rg (sh 1 [(24, .pv (encSl (rI .u8) a0))] (by kernel_rfl) (dv 25 (v := aI ((sll a0).length : Int)) (len_slO (rI .u8) a0 t35 (by kernel_rfl)) (by kernel_rfl) (sh 1 [(26, .ptr 0 0)] (by kernel_rfl) ?_))))))
       obtain ⟨x17, h16, hm⟩ := bs hm
       obtain ⟨vv, H1, hC, rfl, rfl⟩ := ok_codec_Reader_Left h16
       refine dR [(27, aI x17)] [.box [aB y6, .pv (encSl (rI .u8) y7), aI y8] false, .box [aS y9, .pv .nils] false] [0] [.ptr 0 0] (by kernel_rfl) (by kernel_rfl) (by kernel_rfl) hC (by kernel_rfl) (sh 2 [(6, aI (IntKind.wrap .i64 (((sll a0).length : Int) - x17))), (28, aI (IntKind.wrap .i64 (((sll a0).length : Int) - x17)))] (by kernel_rfl) (fin [(0, .pv (encSl (rI .u8) a0)), (4, .ptr 1 0), (6, aI (IntKind.wrap .i64 (((sll a0).length : Int) - x17)))] rfl (by kernel_rfl) (sq (rgd (shd 1 [(29, .agg [aS y9, .pv .nils])] (by kernel_rfl) ?_)))))
       obtain ⟨x18, h19, hm⟩ := bs hm
       refine dvd 30 (cpure (by kernel_rfl) (ok_schema_Right h19) (by kernel_rfl) (by kernel_rfl) (by kernel_rfl)) (by kernel_rfl) (shd 2 [(32, aB (x18 == 0)), (31, aB (x18 == 0))] (by kernel_rfl) ?_)
       rcases bif_some hm with ⟨h20, hm⟩ | ⟨h20, hm⟩
       ·
        refine knownd [32, 31] h20 (by kernel_rfl) (shd 4 [(36, aB (decide ((IntKind.wrap .i64 (((sll a0).length : Int) - x17)) ≥ 0))), (35, aB (decide ((IntKind.wrap .i64 (((sll a0).length : Int) - x17)) ≥ 0))), (34, aB (decide ((IntKind.wrap .i64 (((sll a0).length : Int) - x17)) ≥ 0))), (33, aI (IntKind.wrap .i64 (((sll a0).length : Int) - x17)))] (by kernel_rfl) ?_)
        rcases bif_some hm with ⟨h21, hm⟩ | ⟨h21, hm⟩
        ·
         refine knownd [36, 35, 34] h21 (by kernel_rfl) (shd 1 [(37, .agg [aS y9, .pv .nils])] (by kernel_rfl) ?_)
         obtain ⟨x23, h22, hm⟩ := bs hm
         obtain ⟨vv, H1, hC, rfl, rfl⟩ := ok_schema_Put_nil h22
         refine dRd [(38, aR 2 1 x23.length)] [.box [aB y6, .pv (encSl (rI .u8) y7), aI y8] false, .box [aS y9, .pv .nils] false, bR 5 1 (rI .u8) x23 0 0] [] [.pv .nils, .agg [aS y9, .pv .nils]] (by kernel_rfl) (by kernel_rfl) (by kernel_rfl) hC (by kernel_rfl) (dvd 39 (v := aS (strOf x23)) (str_ofO (l := x23) t35 t9 t5 (src_ref (id := 2) (l := x23) (R := (rI .u8)) rfl (by first | rfl | simp) (by first | exact Nat.zero_le _ | exact Nat.le_refl _ | assumption | (simp; done) | (simp; omega))) (rfl) (by kernel_rfl)) (by kernel_rfl) (shd 2 [(41, aI (IntKind.wrap .i64 (((sll a0).length : Int) - x17))), (40, .pv (encSl (rI .u8) a0))] (by kernel_rfl) ?_))
         obtain ⟨_, h24, hm⟩ := bs hm
         refine dvd 42 (v := .pv (encSl (rI .u8) (subSl a0 0 (IntKind.wrap .i64 (((sll a0).length : Int) - x17))))) (slice_slO (rI .u8) a0 (k := .i64) (k' := .i64) (xl := none) (xh := some (aI (IntKind.wrap .i64 (((sll a0).length : Int) - x17)))) (esz := 1) h24 (fun _ => rfl) (.inl ⟨rfl, rfl⟩) (.inr rfl) (by kernel_rfl)) (by kernel_rfl) (dvd 43 (v := aS (strOf (sll (subSl a0 0 (IntKind.wrap .i64 (((sll a0).length : Int) - x17)))))) (str_ofO (l := (sll (subSl a0 0 (IntKind.wrap .i64 (((sll a0).length : Int) - x17))))) t35 t9 t5 (src_sl (R := (rI .u8)) (s := (subSl a0 0 (IntKind.wrap .i64 (((sll a0).length : Int) - x17))))) (noStr_sl (subSl a0 0 (IntKind.wrap .i64 (((sll a0).length : Int) - x17)))) (by kernel_rfl)) (by kernel_rfl) (shd 3 [(2, aB (sEq (strOf x23) (strOf (sll (subSl a0 0 (IntKind.wrap .i64 (((sll a0).length : Int) - x17))))))), (45, aB (sEq (strOf x23) (strOf (sll (subSl a0 0 (IntKind.wrap .i64 (((sll a0).length : Int) - x17))))))), (44, aB (sEq (strOf x23) (strOf (sll (subSl a0 0 (IntKind.wrap .i64 (((sll a0).length : Int) - x17)))))))] (by kernel_rfl) (find [(2, aB (sEq (strOf x23) (strOf (sll (subSl a0 0 (IntKind.wrap .i64 (((sll a0).length : Int) - x17)))))))] rfl (by kernel_rfl) (by kernel_rfl) (wp_ret ?_))))
         obtain rfl := Option.some.inj hm
         exact ⟨trivial, by kernel_rfl⟩
        ·
         refine knownd [36, 35, 34] h21 (by kernel_rfl) (shd 10 [(2, aB false), (45, aB false), (44, .undef), (43, .undef), (42, .undef), (41, .undef), (40, .undef), (39, .undef), (38, .undef), (37, .undef)] (by kernel_rfl) (find [(2, aB false)] rfl (by kernel_rfl) (by kernel_rfl) (wp_ret ?_)))
         obtain rfl := Option.some.inj hm
         exact ⟨trivial, by kernel_rfl⟩
       ·
        refine knownd [32, 31] h20 (by kernel_rfl) (shd 14 [(2, aB false), (45, aB false), (44, .undef), (43, .undef), (42, .undef), (41, .undef), (40, .undef), (39, .undef), (38, .undef), (37, .undef), (36, aB false), (35, aB false), (34, .undef), (33, .undef)] (by kernel_rfl) (find [(2, aB false)] rfl (by kernel_rfl) (by kernel_rfl) (wp_ret ?_)))
        obtain rfl := Option.some.inj hm
        exact ⟨trivial, by kernel_rfl⟩
     ·
      subst hk12
      refine sq (sq (detn [(0, .pv (encSl (rI .u8) a0)), (3, .ptr 0 0), (4, .ptr 2 0), (20, aB (y11 != 0))] (by kernel_rfl) ?_))
      rcases bif_some hm with ⟨h25, hm⟩ | ⟨h25, hm⟩
      ·
       refine ct h25 (by kernel_rfl) (sq (rg (sh 2 [(22, .agg [aS ByteArray.empty, .pv .nils]), (21, .agg [aS y9, aR 1 2 y10.length])] (by kernel_rfl) ?_)))
       obtain ⟨x26, h27, hm⟩ := bs hm
       refine dO [(23, aB x26)] [.box [aB y6, .pv (encSl (rI .u8) y7), aI y8] false, bR 72 2 R_api_Column y10 0 0, .box [aS y9, aR 1 2 y10.length] false] (cpureR [1] [.agg [aS y9, aR 1 2 y10.length], .agg [aS ByteArray.empty, .pv .nils]] (fl := true) (by kernel_rfl) (by kernel_rfl) (pAs_cons (pA_agg (purL_cons (pur_pv) (purL_cons (pur_ref' (id := 1) (l := y10) (R := R_api_Column) rfl (by first | rfl | simp) (by first | exact Nat.zero_le _ | exact Nat.le_refl _ | assumption | (simp; done) | (simp; omega))) (rfl)))) (pAs_cons (pA_agg (purL_cons (pur_pv) (purL_cons (pur_pv) (rfl)))) (rfl))) (ok_schema_Same h27) (by kernel_rfl) (by kernel_rfl)) (by kernel_rfl) (sh 1 [(2, aB x26)] (by kernel_rfl) (fin [(2, aB x26)] rfl (by kernel_rfl) (wp_ret ?_)))
       obtain rfl := Option.some.inj hm
       exact ⟨trivial, by kernel_rfl⟩
      ·
       refine cf h25 (by kernel_rfl) (wp_skip (sq (rg (sh 1 [(24, .pv (encSl (rI .u8) a0))] (by kernel_rfl) (dv 25 (v := aI ((sll a0).length : Int)) (len_slO (rI .u8) a0 t35 (by kernel_rfl)) (by kernel_rfl) (sh 1 [(26, .ptr 0 0)] (by kernel_rfl) ?_))))))
       obtain ⟨x29, h28, hm⟩ := bs hm
       obtain ⟨vv, H1, hC, rfl, rfl⟩ := ok_codec_Reader_Left h28
       refine dR [(27, aI x29)] [.box [aB y6, .pv (encSl (rI .u8) y7), aI y8] false, bR 72 2 R_api_Column y10 0 0, .box [aS y9, aR 1 2 y10.length] false] [0] [.ptr 0 0] (by kernel_rfl) (by kernel_rfl) (by kernel_rfl) hC (by kernel_rfl) (sh 2 [(6, aI (IntKind.wrap .i64 (((sll a0).length : Int) - x29))), (28, aI (IntKind.wrap .i64 (((sll a0).length : Int) - x29)))] (by kernel_rfl) (fin [(0, .pv (encSl (rI .u8) a0)), (4, .ptr 2 0), (6, aI (IntKind.wrap .i64 (((sll a0).length : Int) - x29)))] rfl (by kernel_rfl) (sq (rgd (shd 1 [(29, .agg [aS y9, aR 1 2 y10.length])] (by kernel_rfl) ?_)))))
       obtain ⟨x30, h31, hm⟩ := bs hm
       refine dOd [(30, aI x30)] [.box [aB y6, .pv (encSl (rI .u8) y7), aI y8] false, bR 72 2 R_api_Column y10 0 0, .box [aS y9, aR 1 2 y10.length] false] (cpureR [1] [.agg [aS y9, aR 1 2 y10.length]] (fl := true) (by kernel_rfl) (by kernel_rfl) (pAs_cons (pA_agg (purL_cons (pur_pv) (purL_cons (pur_ref' (id := 1) (l := y10) (R := R_api_Column) rfl (by first | rfl | simp) (by first | exact Nat.zero_le _ | exact Nat.le_refl _ | assumption | (simp; done) | (simp; omega))) (rfl)))) (rfl)) (ok_schema_Right h31) (by kernel_rfl) (by kernel_rfl)) (by kernel_rfl) (shd 2 [(32, aB (x30 == 0)), (31, aB (x30 == 0))] (by kernel_rfl) ?_)
       rcases bif_some hm with ⟨h32, hm⟩ | ⟨h32, hm⟩
       ·
        refine knownd [32, 31] h32 (by kernel_rfl) (shd 4 [(36, aB (decide ((IntKind.wrap .i64 (((sll a0).length : Int) - x29)) ≥ 0))), (35, aB (decide ((IntKind.wrap .i64 (((sll a0).length : Int) - x29)) ≥ 0))), (34, aB (decide ((IntKind.wrap .i64 (((sll a0).length : Int) - x29)) ≥ 0))), (33, aI (IntKind.wrap .i64 (((sll a0).length : Int) - x29)))] (by kernel_rfl) ?_)
        rcases bif_some hm with ⟨h33, hm⟩ | ⟨h33, hm⟩
        ·
         refine knownd [36, 35, 34] h33 (by kernel_rfl) (shd 1 [(37, .agg [aS y9, aR 1 2 y10.length])] (by kernel_rfl) ?_)
         obtain ⟨x35, h34, hm⟩ := bs hm
         obtain ⟨vv, H1, hC, rfl, rfl⟩ := ok_schema_Put_nil_2 h34
         refine dRd [(38, aR 3 1 x35.length)] [.box [aB y6, .pv (encSl (rI .u8) y7), aI y8] false, bR 72 2 R_api_Column y10 0 0, .box [aS y9, aR 1 2 y10.length] false, bR 5 1 (rI .u8) x35 0 0] [1] [.pv .nils, .agg [aS y9, aR 1 2 y10.length]] (by kernel_rfl) (by kernel_rfl) (by kernel_rfl) hC (by kernel_rfl) (dvd 39 (v := aS (strOf x35)) (str_ofO (l := x35) t35 t9 t5 (src_ref (id := 3) (l := x35) (R := (rI .u8)) rfl (by first | rfl | simp) (by first | exact Nat.zero_le _ | exact Nat.le_refl _ | assumption | (simp; done) | (simp; omega))) (rfl) (by kernel_rfl)) (by kernel_rfl) (shd 2 [(41, aI (IntKind.wrap .i64 (((sll a0).length : Int) - x29))), (40, .pv (encSl (rI .u8) a0))] (by kernel_rfl) ?_))
         obtain ⟨_, h36, hm⟩ := bs hm
         refine dvd 42 (v := .pv (encSl (rI .u8) (subSl a0 0 (IntKind.wrap .i64 (((sll a0).length : Int) - x29))))) (slice_slO (rI .u8) a0 (k := .i64) (k' := .i64) (xl := none) (xh := some (aI (IntKind.wrap .i64 (((sll a0).length : Int) - x29)))) (esz := 1) h36 (fun _ => rfl) (.inl ⟨rfl, rfl⟩) (.inr rfl) (by kernel_rfl)) (by kernel_rfl) (dvd 43 (v := aS (strOf (sll (subSl a0 0 (IntKind.wrap .i64 (((sll a0).length : Int) - x29)))))) (str_ofO (l := (sll (subSl a0 0 (IntKind.wrap .i64 (((sll a0).length : Int) - x29))))) t35 t9 t5 (src_sl (R := (rI .u8)) (s := (subSl a0 0 (IntKind.wrap .i64 (((sll a0).length : Int) - x29))))) (noStr_sl (subSl a0 0 (IntKind.wrap .i64 (((sll a0).length : Int) - x29)))) (by kernel_rfl)) (by kernel_rfl) (shd 3 [(2, aB (sEq (strOf x35) (strOf (sll (subSl a0 0 (IntKind.wrap .i64 (((sll a0).length : Int) - x29))))))), (45, aB (sEq (strOf x35) (strOf (sll (subSl a0 0 (IntKind.wrap .i64 (((sll a0).length : Int) - x29))))))), (44, aB (sEq (strOf x35) (strOf (sll (subSl a0 0 (IntKind.wrap .i64 (((sll a0).length : Int) - x29)))))))] (by kernel_rfl) (find [(2, aB (sEq (strOf x35) (strOf (sll (subSl a0 0 (IntKind.wrap .i64 (((sll a0).length : Int) - x29)))))))] rfl (by kernel_rfl) (by kernel_rfl) (wp_ret ?_))))
         obtain rfl := Option.some.inj hm
         exact ⟨trivial, by kernel_rfl⟩
        ·
         refine knownd [36, 35, 34] h33 (by kernel_rfl) (shd 10 [(2, aB false), (45, aB false), (44, .undef), (43, .undef), (42, .undef), (41, .undef), (40, .undef), (39, .undef), (38, .undef), (37, .undef)] (by kernel_rfl) (find [(2, aB false)] rfl (by kernel_rfl) (by kernel_rfl) (wp_ret ?_)))
         obtain rfl := Option.some.inj hm
         exact ⟨trivial, by kernel_rfl⟩
       ·
        refine knownd [32, 31] h32 (by kernel_rfl) (shd 14 [(2, aB false), (45, aB false), (44, .undef), (43, .undef), (42, .undef), (41, .undef), (40, .undef), (39, .undef), (38, .undef), (37, .undef), (36, aB false), (35, aB false), (34, .undef), (33, .undef)] (by kernel_rfl) (find [(2, aB false)] rfl (by kernel_rfl) (by kernel_rfl) (wp_ret ?_)))
        obtain rfl := Option.some.inj hm
        exact ⟨trivial, by kernel_rfl⟩
    refine rg (sh 1 [(15, .ptr 0 0)] (by kernel_rfl) ?_)
    obtain ⟨x44, h37, hm⟩ := bs hm
    rcases x44 with ⟨x38, x39, x40, x41, _ | x42, x43⟩
    ·
     obtain ⟨vv, H1, hC, rfl, rfl⟩ := ok_schema_Take h37
     refine dR [(16, .tup [.agg [aS x41, .pv .nils], aI x43])] [.box [aB x38, .pv (encSl (rI .u8) x39), aI x40] false] [0] [.ptr 0 0] (by kernel_rfl) (by kernel_rfl) (by kernel_rfl) hC (by kernel_rfl) (st 6 [(5, aI x43), (4, .ptr 1 0), (18, aI x43), (17, .agg [aS x41, .pv .nils]), (14, .tup [.agg [aS x41, .pv .nils], aI x43])] [.box [aB x38, .pv (encSl (rI .u8) x39), aI x40] false, .box [aS x41, .pv .nils] false] (by kernel_rfl) (fin [(0, .pv (encSl (rI .u8) a0)), (3, .ptr 0 0), (4, .ptr 1 0), (5, aI x43)] rfl (by kernel_rfl) ?_))
     exact .inl ⟨x38, x39, x40, x41, x43, hm, rfl, rfl⟩
    ·
     obtain ⟨vv, H1, hC, rfl, rfl⟩ := ok_schema_Take h37
     refine dR [(16, .tup [.agg [aS x41, aR 1 2 x42.length], aI x43])] [.box [aB x38, .pv (encSl (rI .u8) x39), aI x40] false, bR 72 2 R_api_Column x42 0 0] [0] [.ptr 0 0] (by kernel_rfl) (by kernel_rfl) (by kernel_rfl) hC (by kernel_rfl) (st 6 [(5, aI x43), (4, .ptr 2 0), (18, aI x43), (17, .agg [aS x41, aR 1 2 x42.length]), (14, .tup [.agg [aS x41, aR 1 2 x42.length], aI x43])] [.box [aB x38, .pv (encSl (rI .u8) x39), aI x40] false, bR 72 2 R_api_Column x42 0 0, .box [aS x41, aR 1 2 x42.length] false] (by kernel_rfl) (fin [(0, .pv (encSl (rI .u8) a0)), (3, .ptr 0 0), (4, .ptr 2 0), (5, aI x43)] rfl (by kernel_rfl) ?_))
     exact .inr (⟨x38, x39, x40, x41, x42, x43, hm, (by first | rfl | simp), (by first | rfl | simp)⟩)
end Go.Ab.S1
